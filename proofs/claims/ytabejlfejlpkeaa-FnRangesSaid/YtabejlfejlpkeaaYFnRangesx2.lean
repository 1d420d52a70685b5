/- Go functions told by Lean functions, printed by a program. No condition but what each statement says. -/
import Derived.Test.YtabejlfejlpkeaaYFnRangesx0
namespace Go.Proofs.Ytabejlfejlpkeaa.PFnRanges
open Go.RowKit Go.Proofs.YtabejlfejlpkeaaW.PrintWords Go.Proofs.YtabejlfejlpkeaaW.PrintLast Go.Proofs.YtabejlfejlpkeaaW.PrintMore
open List renaming setIfInBounds_toArray → kz, map_toArray → kj, set_cons_zero → kv, set_cons_succ → kh, map_cons → kf, map_nil → ke
open Aside0 renaming mk → ky
open Option.some renaming inj → kk
open Option renaming bind_eq_some_iff → kg
open Try renaming func96 → kb, func91 → kx, ntmps91 → km, prog → ku
open World renaming drewN_drewN → kd
open Act renaming put → kc
open Bool renaming eq_false_iff → ko, true → kt, false → kr
open Int renaming tmod → ks
set_option maxHeartbeats 8000000
set_option maxRecDepth 100000
open Go.Proofs.YtabejlfejlpkeaaW.PrintLast renaming goesL_ → zn, i64_w → zo, i32_w → zq
open Go.Proofs.YtabejlfejlpkeaaW.PrintWords renaming pw_below_drewN → za, below_drew1 → zb, blk_cell → zd, below_size → ze, blk_frozen → zf, gate_callee → zi, below_step → zj, box_event → zl, gate_dst → zm, blk_drew → zp, Drawn0 → zr
open Go.Proofs.YtabejlfejlpkeaaW.PrintWords.Drawn0 renaming step → zg, refl → zh
attribute [local go_sem] max2_int min2_int max_two min_two max_three min_three max_four min_four
set_option linter.unusedVariables false
set_option linter.unusedSimpArgs false
/-! ### impl_within: function 84 -/
def impl_within.f (a0 : Int) (a1 : Int) (a2 : Int) : Option (Bool) := if a0 ≥ a1 then (some (decide (a0 ≤ a2))) else (some false)
theorem impl_within.calls (a0 : Int) (a1 : Int) (a2 : Int) (r : Bool) (w : World) (h : impl_within.f a0 a1 a2 = some r) :
  Calls ku 84 #[.int .i64 a0, .int .i64 a1, .int .i64 a2] w fun e w' => e = .returned (.bool r) ∧ zr w w' := by
 have H : (if a0 ≥ a1 then (some (decide (a0 ≤ a2))) else (some false)) = some r := h
 clear h
 by_cases c4 : a0 ≥ a1
 ·
  rw [if_pos c4] at H
  have c4b0 : decide (a1 ≤ a0) = true := decide_eq_true c4
  clear c4
  obtain rfl := kk H
  go_enter Try.func84, Try.ntmps84
  go_wp2
  go_ret
  exact ⟨by rfl, by repeat (exact zh _)⟩
 ·
  rw [if_neg c4] at H
  have c4b0 : decide (a1 ≤ a0) = false := decide_eq_false c4
  clear c4
  obtain rfl := kk H
  go_enter Try.func84, Try.ntmps84
  go_wp2
  go_ret
  exact ⟨by rfl, by repeat (exact zh _)⟩
/-! ### impl_isAddr: function 55 -/
def impl_isAddr.f (a0 : Int) : Option (Bool) := (impl_within.f a0 0 4294967295).bind fun t101 => (some t101)
theorem impl_isAddr.calls (a0 : Int) (r : Bool) (w : World) (h : impl_isAddr.f a0 = some r) :
  Calls ku 55 #[.int .i64 a0] w fun e w' => e = .returned (.bool r) ∧ zr w w' := by
 have H : ((impl_within.f a0 0 4294967295).bind fun t101 => (some t101)) = some r := h
 clear h
 replace H := kg.mp H
 obtain ⟨t101, A20, H⟩ := H
 replace H : (some t101) = some r := H
 have A2 := ky A20
 clear A20
 obtain rfl := kk H
 go_enter Try.func55, Try.ntmps55
 go_wp2_with (((with_reducible refine zi (f := 84) rfl ?_); refine zn (some 4) rfl rfl Try.func84 (by kernel_rfl) rfl #[.int .i64 a0, .int .i64 0, .int .i64 4294967295] rfl (by (try simp only [kj, kf, ke]); rfl) ?_; (with_reducible refine (impl_within.calls a0 0 4294967295 t101 _ A2.1).mono ?_); rintro e w' ⟨rfl, ⟨nd, rfl⟩⟩; refine ⟨_, rfl, ?_⟩))
 go_ret
 exact ⟨by rfl, by repeat (first | exact zh _ | apply zg)⟩
/-! ### impl_sizeOf: function 81 -/
def impl_sizeOf.f (a0 : Int) : Option (Int) := if 0 ≤ (wrap64 (32 - a0)) then (some (shl .i64 1 (wrap64 (32 - a0)))) else (none)
theorem impl_sizeOf.calls (a0 : Int) (r : Int) (w : World) (h : impl_sizeOf.f a0 = some r) :
  Calls ku 81 #[.int .i64 a0] w fun e w' => e = .returned (.int .i64 r) ∧ zr w w' := by
 have H : (if 0 ≤ (wrap64 (32 - a0)) then (some (shl .i64 1 (wrap64 (32 - a0)))) else (none)) = some r := h
 clear h
 obtain ⟨ji2, hji2⟩ : ∃ j_ : Int, (wrap64 (32 - a0)) = j_ := ⟨_, rfl⟩
 replace H : (if 0 ≤ (ji2) then (some (shl .i64 1 (ji2))) else (none)) = some r := by (rw [hji2] at H; exact H)
 have hji2w : (IntKind.i64.wrap (32 - a0)) = ji2 := (zo _).trans hji2
 by_cases c3 : 0 ≤ (ji2)
 ·
  rw [if_pos c3] at H
  have c3b0 := eq_true c3
  have c3b1 : decide (0 ≤ (ji2)) = true := decide_eq_true c3
  clear c3
  obtain ⟨ji4, hji4⟩ : ∃ j_ : Int, (shl .i64 1 (ji2)) = j_ := ⟨_, rfl⟩
  replace H : (some ji4) = some r := by (rw [hji4] at H; exact H)
  have hji4_ : (IntKind.i64.wrap (1 * 2 ^ min (ji2).toNat 64)) = ji4 := hji4
  have hji4z : (ji2) ≤ 64 → (IntKind.i64.wrap (1 * 2 ^ (ji2).toNat)) = ji4 := shl_small hji4
  have hji4u : (IntKind.i64.wrap (2 ^ min (ji2).toNat 64)) = ji4 := by have h_ := hji4_; rw [Int.one_mul] at h_; exact h_
  have hji4v : (ji2) ≤ 64 → (IntKind.i64.wrap (2 ^ (ji2).toNat)) = ji4 := fun hle_ => by have h_ := hji4z hle_; rw [Int.one_mul] at h_; exact h_
  have hji4y : (wrap64 (1 * 2 ^ min (ji2).toNat 64)) = ji4 := (zo _).symm.trans hji4_
  have hji4x : (ji2) ≤ 64 → (wrap64 (1 * 2 ^ (ji2).toNat)) = ji4 := fun h_ => (zo _).symm.trans (hji4z h_)
  obtain rfl := kk H
  go_enter Try.func81, Try.ntmps81
  go_wp2
  go_ret
  exact ⟨by rfl, by repeat (exact zh _)⟩
 ·
  rw [if_neg c3] at H
  exact absurd H (by simp)
/-! ### impl_GoodPrefix: function 70 -/
def impl_GoodPrefix.f (a0_0 : Int) (a0_1 : Int) : Option (Bool) := (impl_within.f a0_1 0 32).bind fun t103 => (if t103 = true then ((impl_isAddr.f a0_0).bind fun t104 => (if t104 = true then ((impl_sizeOf.f a0_1).bind fun t105 => (if t105 = 0 then (none) else (some ((ks a0_0 t105) == 0)))) else (some false))) else (some false))
theorem impl_GoodPrefix.calls (a0_0 : Int) (a0_1 : Int) (r : Bool) (w : World) (h : impl_GoodPrefix.f a0_0 a0_1 = some r) :
  Calls ku 70 #[.agg #[.int .i64 a0_0, .int .i64 a0_1]] w fun e w' => e = .returned (.bool r) ∧ Below w.heap.size w w' := by
 have hu45 := Try.underlying45
 have HB := ky (Below.refl w.heap.size w)
 have H : ((impl_within.f a0_1 0 32).bind fun t103 => (if t103 = true then ((impl_isAddr.f a0_0).bind fun t104 => (if t104 = true then ((impl_sizeOf.f a0_1).bind fun t105 => (if t105 = 0 then (none) else (some ((ks a0_0 t105) == 0)))) else (some false))) else (some false))) = some r := h
 clear h
 replace H := kg.mp H
 obtain ⟨t103, A20, H⟩ := H
 replace H : (if t103 = true then ((impl_isAddr.f a0_0).bind fun t104 => (if t104 = true then ((impl_sizeOf.f a0_1).bind fun t105 => (if t105 = 0 then (none) else (some ((ks a0_0 t105) == 0)))) else (some false))) else (some false)) = some r := H
 have A2 := ky A20
 clear A20
 by_cases c3 : t103 = true
 ·
  subst c3
  have H1 : ((impl_isAddr.f a0_0).bind fun t104 => (if t104 = true then ((impl_sizeOf.f a0_1).bind fun t105 => (if t105 = 0 then (none) else (some ((ks a0_0 t105) == 0)))) else (some false))) = some r := by rw [if_pos rfl] at H; exact H
  clear H
  have H := H1
  clear H1
  replace H := kg.mp H
  obtain ⟨t104, A40, H⟩ := H
  replace H : (if t104 = true then ((impl_sizeOf.f a0_1).bind fun t105 => (if t105 = 0 then (none) else (some ((ks a0_0 t105) == 0)))) else (some false)) = some r := H
  have A4 := ky A40
  clear A40
  by_cases c5 : t104 = true
  ·
   subst c5
   have H1 : ((impl_sizeOf.f a0_1).bind fun t105 => (if t105 = 0 then (none) else (some ((ks a0_0 t105) == 0)))) = some r := by rw [if_pos rfl] at H; exact H
   clear H
   have H := H1
   clear H1
   replace H := kg.mp H
   obtain ⟨t105, A60, H⟩ := H
   replace H : (if t105 = 0 then (none) else (some ((ks a0_0 t105) == 0))) = some r := H
   have A6 := ky A60
   clear A60
   by_cases c7 : t105 = 0
   ·
    rw [if_pos c7] at H
    exact absurd H (by simp)
   ·
    rw [if_neg c7] at H
    have c7b0 : (t105 == 0) = false := beq_eq_false_iff_ne.mpr c7
    have c7b1 : (t105 != 0) = true := bne_iff_ne.mpr c7
    obtain rfl := kk H
    go_enter Try.func70, Try.ntmps70
    go_wp2_with (((with_reducible refine zm (N := 1) rfl ?_); refine zl rfl (N := 1) rfl (cs := #[.int .i64 a0_0, .int .i64 a0_1]) (t := 45) ?hr ?_; (case hr => go_simp; done); intro gb102 hg w8 hbox hb; replace HB := ky (zj HB.1 hb); have zs := ky hbox; clear hb hbox hg; have hcz9_0 : w8.cell? ⟨gb102, 0, none⟩ = some (.int .i64 a0_0) := (zd zs.1 0).trans rfl; have hcz9_1 : w8.cell? ⟨gb102, 1, none⟩ = some (.int .i64 a0_1) := (zd zs.1 1).trans rfl; have hfz9_0 := zf zs.1 0; have hfz9_1 := zf zs.1 1))
    repeat (go_quiet (first | (go_at_call 84; (with_reducible refine (impl_within.calls a0_1 0 32 true _ A2.1).mono ?_); rintro e w' ⟨rfl, ⟨nd, rfl⟩⟩; (try exact ⟨rfl, _, kd _ _ _⟩)) | (go_at_call 55; (with_reducible refine (impl_isAddr.calls a0_0 true _ A4.1).mono ?_); rintro e w' ⟨rfl, ⟨nd, rfl⟩⟩; (try exact ⟨rfl, _, kd _ _ _⟩)) | (go_at_call 81; (with_reducible refine (impl_sizeOf.calls a0_1 t105 _ A6.1).mono ?_); rintro e w' ⟨rfl, ⟨nd, rfl⟩⟩; (try exact ⟨rfl, _, kd _ _ _⟩))); try go_wp2_with (fail))
    go_ret
    exact ⟨by rfl, by repeat ((with_reducible first | exact HB.1 | apply za))⟩
  ·
   replace c5 := ko.mpr c5
   subst c5
   have H1 : (some false) = some r := by rw [if_neg (show ¬ (false = true) by decide)] at H; exact H
   clear H
   have H := H1
   clear H1
   obtain rfl := kk H
   go_enter Try.func70, Try.ntmps70
   go_wp2_with (((with_reducible refine zm (N := 1) rfl ?_); refine zl rfl (N := 1) rfl (cs := #[.int .i64 a0_0, .int .i64 a0_1]) (t := 45) ?hr ?_; (case hr => go_simp; done); intro gb102 hg w10 hbox hb; replace HB := ky (zj HB.1 hb); have zs := ky hbox; clear hb hbox hg; have hcz11_0 : w10.cell? ⟨gb102, 0, none⟩ = some (.int .i64 a0_0) := (zd zs.1 0).trans rfl; have hcz11_1 : w10.cell? ⟨gb102, 1, none⟩ = some (.int .i64 a0_1) := (zd zs.1 1).trans rfl; have hfz11_0 := zf zs.1 0; have hfz11_1 := zf zs.1 1))
   repeat (go_quiet (first | (go_at_call 84; (with_reducible refine (impl_within.calls a0_1 0 32 true _ A2.1).mono ?_); rintro e w' ⟨rfl, ⟨nd, rfl⟩⟩; (try exact ⟨rfl, _, kd _ _ _⟩)) | (go_at_call 55; (with_reducible refine (impl_isAddr.calls a0_0 false _ A4.1).mono ?_); rintro e w' ⟨rfl, ⟨nd, rfl⟩⟩; (try exact ⟨rfl, _, kd _ _ _⟩))); try go_wp2_with (fail))
   go_ret
   exact ⟨by rfl, by repeat ((with_reducible first | exact HB.1 | apply za))⟩
 ·
  replace c3 := ko.mpr c3
  subst c3
  have H1 : (some false) = some r := by rw [if_neg (show ¬ (false = true) by decide)] at H; exact H
  clear H
  have H := H1
  clear H1
  obtain rfl := kk H
  go_enter Try.func70, Try.ntmps70
  go_wp2_with (((with_reducible refine zm (N := 1) rfl ?_); refine zl rfl (N := 1) rfl (cs := #[.int .i64 a0_0, .int .i64 a0_1]) (t := 45) ?hr ?_; (case hr => go_simp; done); intro gb102 hg w12 hbox hb; replace HB := ky (zj HB.1 hb); have zs := ky hbox; clear hb hbox hg; have hcz13_0 : w12.cell? ⟨gb102, 0, none⟩ = some (.int .i64 a0_0) := (zd zs.1 0).trans rfl; have hcz13_1 : w12.cell? ⟨gb102, 1, none⟩ = some (.int .i64 a0_1) := (zd zs.1 1).trans rfl; have hfz13_0 := zf zs.1 0; have hfz13_1 := zf zs.1 1))
  repeat (go_quiet ((go_at_call 84; (with_reducible refine (impl_within.calls a0_1 0 32 false _ A2.1).mono ?_); rintro e w' ⟨rfl, ⟨nd, rfl⟩⟩; (try exact ⟨rfl, _, kd _ _ _⟩))); try go_wp2_with (fail))
  go_ret
  exact ⟨by rfl, by repeat ((with_reducible first | exact HB.1 | apply za))⟩
/-! ### cmp_Or_int: function 90 -/
def cmp_Or_int.l0 : Nat → Int → List Int → Int → Int → Option (Int)
 | 0, _, _, _, _ => none
 | k + 1, x3, x6, x7, x8 => if x8 < x7 then (if 0 ≤ x8 then (if x8 < (x6.length : Int) then (if (rd x6 x8) = x3 then (cmp_Or_int.l0 k x3 x6 x7 (wrap64 (x8 + 1))) else (some (rd x6 x8))) else (none)) else (none)) else (some x3)
def cmp_Or_int.f (k : Nat) (l0 : List Int) : Option (Int) := cmp_Or_int.l0 k 0 l0 (l0.length : Int) 0
theorem cmp_Or_int.calls (k : Nat) (A0 : Option Addr) (c0 : Nat) (l0 : List Int) (r : Int) (w : World) (hr0 : Kd.C (Kd.int .i64) w A0 l0.length l0) (hc0 : l0.length ≤ c0) (h : cmp_Or_int.f k l0 = some r) :
  Calls ku 90 #[.slice A0 l0.length c0] w fun e w' => e = .returned (.int .i64 r) ∧ zr w w' := by
 have HR0 := ky hr0
 have HC0 := ky hc0
 clear hr0 hc0
 have H : (cmp_Or_int.l0 k 0 l0 (l0.length : Int) 0) = some r := h
 clear h
 have H' := ky H
 clear H
 go_enter Try.func90, Try.ntmps90
 go_wp2
 go_loopg [8] k (fun kq v8 w' => ∃ (x8_1 : Int), v8 = .int .i64 x8_1 ∧ Aside0 (cmp_Or_int.l0 kq 0 l0 (l0.length : Int) x8_1 = some r) ∧ Aside0 (kq ≤ k) ∧ zr w w')
 case atStart => exact ⟨(0), (by rfl), H', ⟨Nat.le_refl _⟩, by repeat (exact zh _)⟩
 case round =>
  clear H'
  obtain ⟨x8_1, rfl, HA, HK1, ⟨m1, rfl⟩⟩ := hrel
  cases gk with
  | zero => exact absurd HA.1 (by simp [cmp_Or_int.l0])
  | succ k1 =>
   have H := HA.1
   clear HA
   simp only [cmp_Or_int.l0] at H
   by_cases c2 : x8_1 < (l0.length : Int)
   ·
    rw [if_pos c2] at H
    have c2b0 : decide (x8_1 < (l0.length : Int)) = true := decide_eq_true c2
    clear c2
    by_cases c3 : 0 ≤ x8_1
    ·
     rw [if_pos c3] at H
     have c3b0 : decide (0 ≤ x8_1) = true := decide_eq_true c3
     clear c3
     by_cases c4 : x8_1 < (l0.length : Int)
     ·
      rw [if_pos c4] at H
      have c4b0 : decide (x8_1 < (l0.length : Int)) = true := decide_eq_true c4
      clear c4
      by_cases c5 : (rd l0 x8_1) = 0
      ·
       rw [if_pos c5] at H
       have c5b0 : ((rd l0 x8_1) == 0) = true := beq_iff_eq.mpr c5
       have c5b1 : ((rd l0 x8_1) != 0) = false := bne_eq_false_iff_eq.mpr c5
       clear c5
       have H' := ky H
       clear H
       have p106 : 0 ≤ (x8_1 : Int) := of_decide_eq_true (by (with_reducible assumption))
       have q106 : x8_1 < (l0.length : Int) := of_decide_eq_true (by (with_reducible assumption))
       obtain ⟨ad106, e106, hx106_0⟩ := Kd.at_int HR0.1 x8_1 p106 q106
       cases e106
       replace p106 := eq_true p106
       replace q106 := eq_true q106
       go_wp2
       go_roundg k1
       case measure => have := HK1.1; omega
       case rel => exact ⟨(wrap64 (x8_1 + 1)), (by rfl), H', ⟨by have := HK1.1; omega⟩, by repeat (first | exact zh _ | apply zg)⟩
      ·
       rw [if_neg c5] at H
       have c5b0 : ((rd l0 x8_1) == 0) = false := beq_eq_false_iff_ne.mpr c5
       have c5b1 : ((rd l0 x8_1) != 0) = true := bne_iff_ne.mpr c5
       obtain rfl := kk H
       have p106 : 0 ≤ (x8_1 : Int) := of_decide_eq_true (by (with_reducible assumption))
       have q106 : x8_1 < (l0.length : Int) := of_decide_eq_true (by (with_reducible assumption))
       obtain ⟨ad106, e106, hx106_0⟩ := Kd.at_int HR0.1 x8_1 p106 q106
       cases e106
       replace p106 := eq_true p106
       replace q106 := eq_true q106
       go_wp2
       go_ret
       exact ⟨by rfl, by repeat (first | exact zh _ | apply zg)⟩
     ·
      rw [if_neg c4] at H
      exact absurd H (by simp)
    ·
     rw [if_neg c3] at H
     exact absurd H (by simp)
   ·
    rw [if_neg c2] at H
    have c2b0 : decide (x8_1 < (l0.length : Int)) = false := decide_eq_false c2
    clear c2
    obtain rfl := kk H
    go_wp2
    go_ret
    exact ⟨by rfl, by repeat (first | exact zh _ | apply zg)⟩
/-! ### cmp_isNaN_int: function 96 -/
def cmp_isNaN_int.f (a0 : Int) : Option (Bool) := some (a0 != a0)
theorem cmp_isNaN_int.calls (a0 : Int) (r : Bool) (w : World) (h : cmp_isNaN_int.f a0 = some r) :
  Calls ku 96 #[.int .i64 a0] w fun e w' => e = .returned (.bool r) ∧ zr w w' := by
 have H : (some (a0 != a0)) = some r := h
 clear h
 obtain rfl := kk H
 go_enter kb, Try.ntmps96
 go_wp2
 go_ret
 exact ⟨by rfl, by repeat (exact zh _)⟩
/-! ### cmp_Compare_int: function 91 -/
def cmp_Compare_int.f (a0 : Int) (a1 : Int) : Option (Int) := (cmp_isNaN_int.f a0).bind fun t107 => ((cmp_isNaN_int.f a1).bind fun t108 => (if t107 = true then (if t108 = true then (some 0) else (some (-1))) else (if t108 = true then (some 1) else (if a0 < a1 then (some (-1)) else (if a0 > a1 then (some 1) else (some 0))))))
theorem cmp_Compare_int.calls (a0 : Int) (a1 : Int) (r : Int) (w : World) (h : cmp_Compare_int.f a0 a1 = some r) :
  Calls ku 91 #[.int .i64 a0, .int .i64 a1] w fun e w' => e = .returned (.int .i64 r) ∧ zr w w' := by
 have H : ((cmp_isNaN_int.f a0).bind fun t107 => ((cmp_isNaN_int.f a1).bind fun t108 => (if t107 = true then (if t108 = true then (some 0) else (some (-1))) else (if t108 = true then (some 1) else (if a0 < a1 then (some (-1)) else (if a0 > a1 then (some 1) else (some 0))))))) = some r := h
 clear h
 replace H := kg.mp H
 obtain ⟨t107, A30, H⟩ := H
 replace H : ((cmp_isNaN_int.f a1).bind fun t108 => (if t107 = true then (if t108 = true then (some 0) else (some (-1))) else (if t108 = true then (some 1) else (if a0 < a1 then (some (-1)) else (if a0 > a1 then (some 1) else (some 0)))))) = some r := H
 have A3 := ky A30
 clear A30
 replace H := kg.mp H
 obtain ⟨t108, A40, H⟩ := H
 replace H : (if t107 = true then (if t108 = true then (some 0) else (some (-1))) else (if t108 = true then (some 1) else (if a0 < a1 then (some (-1)) else (if a0 > a1 then (some 1) else (some 0))))) = some r := H
 have A4 := ky A40
 clear A40
 by_cases c5 : t107 = true
 ·
  subst c5
  have H1 : (if t108 = true then (some 0) else (some (-1))) = some r := by rw [if_pos rfl] at H; exact H
  clear H
  have H := H1
  clear H1
  by_cases c6 : t108 = true
  ·
   subst c6
   have H1 : (some 0) = some r := by rw [if_pos rfl] at H; exact H
   clear H
   have H := H1
   clear H1
   obtain rfl := kk H
   go_enter kx, km
   go_wp2_with (first | ((with_reducible refine zi (f := 96) rfl ?_); refine zn (some 8) rfl rfl kb (by kernel_rfl) rfl #[.int .i64 a0] rfl (by (try simp only [kj, kf, ke]); rfl) ?_; (with_reducible refine (cmp_isNaN_int.calls a0 true _ A3.1).mono ?_); rintro e w' ⟨rfl, ⟨nd, rfl⟩⟩; refine ⟨_, rfl, ?_⟩) | ((with_reducible refine zi (f := 96) rfl ?_); refine zn (some 10) rfl rfl kb (by kernel_rfl) rfl #[.int .i64 a1] rfl (by (try simp only [kj, kf, ke]); rfl) ?_; (with_reducible refine (cmp_isNaN_int.calls a1 true _ A4.1).mono ?_); rintro e w' ⟨rfl, ⟨nd, rfl⟩⟩; refine ⟨_, rfl, ?_⟩))
   go_ret
   exact ⟨by rfl, by repeat (first | exact zh _ | apply zg)⟩
  ·
   replace c6 := ko.mpr c6
   subst c6
   have H1 : (some (-1)) = some r := by rw [if_neg (show ¬ (false = true) by decide)] at H; exact H
   clear H
   have H := H1
   clear H1
   obtain rfl := kk H
   go_enter kx, km
   go_wp2_with (first | ((with_reducible refine zi (f := 96) rfl ?_); refine zn (some 8) rfl rfl kb (by kernel_rfl) rfl #[.int .i64 a0] rfl (by (try simp only [kj, kf, ke]); rfl) ?_; (with_reducible refine (cmp_isNaN_int.calls a0 true _ A3.1).mono ?_); rintro e w' ⟨rfl, ⟨nd, rfl⟩⟩; refine ⟨_, rfl, ?_⟩) | ((with_reducible refine zi (f := 96) rfl ?_); refine zn (some 10) rfl rfl kb (by kernel_rfl) rfl #[.int .i64 a1] rfl (by (try simp only [kj, kf, ke]); rfl) ?_; (with_reducible refine (cmp_isNaN_int.calls a1 false _ A4.1).mono ?_); rintro e w' ⟨rfl, ⟨nd, rfl⟩⟩; refine ⟨_, rfl, ?_⟩))
   go_ret
   exact ⟨by rfl, by repeat (first | exact zh _ | apply zg)⟩
 ·
  replace c5 := ko.mpr c5
  subst c5
  have H1 : (if t108 = true then (some 1) else (if a0 < a1 then (some (-1)) else (if a0 > a1 then (some 1) else (some 0)))) = some r := by rw [if_neg (show ¬ (false = true) by decide)] at H; exact H
  clear H
  have H := H1
  clear H1
  by_cases c7 : t108 = true
  ·
   subst c7
   have H1 : (some 1) = some r := by rw [if_pos rfl] at H; exact H
   clear H
   have H := H1
   clear H1
   obtain rfl := kk H
   go_enter kx, km
   go_wp2_with (first | ((with_reducible refine zi (f := 96) rfl ?_); refine zn (some 8) rfl rfl kb (by kernel_rfl) rfl #[.int .i64 a0] rfl (by (try simp only [kj, kf, ke]); rfl) ?_; (with_reducible refine (cmp_isNaN_int.calls a0 false _ A3.1).mono ?_); rintro e w' ⟨rfl, ⟨nd, rfl⟩⟩; refine ⟨_, rfl, ?_⟩) | ((with_reducible refine zi (f := 96) rfl ?_); refine zn (some 10) rfl rfl kb (by kernel_rfl) rfl #[.int .i64 a1] rfl (by (try simp only [kj, kf, ke]); rfl) ?_; (with_reducible refine (cmp_isNaN_int.calls a1 true _ A4.1).mono ?_); rintro e w' ⟨rfl, ⟨nd, rfl⟩⟩; refine ⟨_, rfl, ?_⟩))
   go_ret
   exact ⟨by rfl, by repeat (first | exact zh _ | apply zg)⟩
  ·
   replace c7 := ko.mpr c7
   subst c7
   have H1 : (if a0 < a1 then (some (-1)) else (if a0 > a1 then (some 1) else (some 0))) = some r := by rw [if_neg (show ¬ (false = true) by decide)] at H; exact H
   clear H
   have H := H1
   clear H1
   by_cases c8 : a0 < a1
   ·
    rw [if_pos c8] at H
    have c8b0 : decide (a0 < a1) = true := decide_eq_true c8
    clear c8
    obtain rfl := kk H
    go_enter kx, km
    go_wp2_with (first | ((with_reducible refine zi (f := 96) rfl ?_); refine zn (some 8) rfl rfl kb (by kernel_rfl) rfl #[.int .i64 a0] rfl (by (try simp only [kj, kf, ke]); rfl) ?_; (with_reducible refine (cmp_isNaN_int.calls a0 false _ A3.1).mono ?_); rintro e w' ⟨rfl, ⟨nd, rfl⟩⟩; refine ⟨_, rfl, ?_⟩) | ((with_reducible refine zi (f := 96) rfl ?_); refine zn (some 10) rfl rfl kb (by kernel_rfl) rfl #[.int .i64 a1] rfl (by (try simp only [kj, kf, ke]); rfl) ?_; (with_reducible refine (cmp_isNaN_int.calls a1 false _ A4.1).mono ?_); rintro e w' ⟨rfl, ⟨nd, rfl⟩⟩; refine ⟨_, rfl, ?_⟩))
    go_ret
    exact ⟨by rfl, by repeat (first | exact zh _ | apply zg)⟩
   ·
    rw [if_neg c8] at H
    have c8b0 : decide (a0 < a1) = false := decide_eq_false c8
    clear c8
    by_cases c9 : a0 > a1
    ·
     rw [if_pos c9] at H
     have c9b0 : decide (a1 < a0) = true := decide_eq_true c9
     clear c9
     obtain rfl := kk H
     go_enter kx, km
     go_wp2_with (first | ((with_reducible refine zi (f := 96) rfl ?_); refine zn (some 8) rfl rfl kb (by kernel_rfl) rfl #[.int .i64 a0] rfl (by (try simp only [kj, kf, ke]); rfl) ?_; (with_reducible refine (cmp_isNaN_int.calls a0 false _ A3.1).mono ?_); rintro e w' ⟨rfl, ⟨nd, rfl⟩⟩; refine ⟨_, rfl, ?_⟩) | ((with_reducible refine zi (f := 96) rfl ?_); refine zn (some 10) rfl rfl kb (by kernel_rfl) rfl #[.int .i64 a1] rfl (by (try simp only [kj, kf, ke]); rfl) ?_; (with_reducible refine (cmp_isNaN_int.calls a1 false _ A4.1).mono ?_); rintro e w' ⟨rfl, ⟨nd, rfl⟩⟩; refine ⟨_, rfl, ?_⟩))
     go_ret
     exact ⟨by rfl, by repeat (first | exact zh _ | apply zg)⟩
    ·
     rw [if_neg c9] at H
     have c9b0 : decide (a1 < a0) = false := decide_eq_false c9
     clear c9
     obtain rfl := kk H
     go_enter kx, km
     go_wp2_with (first | ((with_reducible refine zi (f := 96) rfl ?_); refine zn (some 8) rfl rfl kb (by kernel_rfl) rfl #[.int .i64 a0] rfl (by (try simp only [kj, kf, ke]); rfl) ?_; (with_reducible refine (cmp_isNaN_int.calls a0 false _ A3.1).mono ?_); rintro e w' ⟨rfl, ⟨nd, rfl⟩⟩; refine ⟨_, rfl, ?_⟩) | ((with_reducible refine zi (f := 96) rfl ?_); refine zn (some 10) rfl rfl kb (by kernel_rfl) rfl #[.int .i64 a1] rfl (by (try simp only [kj, kf, ke]); rfl) ?_; (with_reducible refine (cmp_isNaN_int.calls a1 false _ A4.1).mono ?_); rintro e w' ⟨rfl, ⟨nd, rfl⟩⟩; refine ⟨_, rfl, ?_⟩))
     go_ret
     exact ⟨by rfl, by repeat (first | exact zh _ | apply zg)⟩
/-! ### impl_compare: function 80 -/
def impl_compare.f (k : Nat) (a0_0 : Int) (a0_1 : Int) (a1_0 : Int) (a1_1 : Int) : Option (Int) := (cmp_Compare_int.f a0_0 a1_0).bind fun t111 => ((cmp_Compare_int.f a0_1 a1_1).bind fun t112 => ((cmp_Or_int.f k (([t111, t112] : List Int))).bind fun t116 => (some t116)))
def impl_compare.T1 : Bool × List (List Nat × List Nat) := (true, [([], []), ([0], [0]), ([], []), ([2], [2]), ([1, 3], [1, 3]), ([], []), ([5], [5]), ([], []), ([7], [7]), ([6, 8, 4], [6, 8]), ([4, 9], [4, 9]), ([10, 9], [10]), ([11, 11, 0, 1, 2, 3, 4, 5, 6, 7, 8, 9, 10, 11], [11])])
def impl_compare.B1 : List Nat := [0, 1, 0, 4, 15, 0, 32, 0, 128, 511, 1023, 2047, 4095]
theorem impl_compare.tab1 : rtab .any (opsOf Try.f80 1) = impl_compare.T1 := by kernel_rfl
theorem impl_compare.bits1 : waitsOk impl_compare.T1.2 impl_compare.B1 = true := by kernel_rfl
theorem impl_compare.calls (k : Nat) (a0_0 : Int) (a0_1 : Int) (a1_0 : Int) (a1_1 : Int) (r : Int) (w : World) (h : impl_compare.f k a0_0 a0_1 a1_0 a1_1 = some r) :
  Calls ku 80 #[.agg #[.int .i64 a0_0, .int .i64 a0_1], .agg #[.int .i64 a1_0, .int .i64 a1_1]] w fun e w' => e = .returned (.int .i64 r) ∧ Below w.heap.size w w' := by
 have hu45 := Try.underlying45
 have HB := ky (Below.refl w.heap.size w)
 have H : ((cmp_Compare_int.f a0_0 a1_0).bind fun t111 => ((cmp_Compare_int.f a0_1 a1_1).bind fun t112 => ((cmp_Or_int.f k (([t111, t112] : List Int))).bind fun t116 => (some t116)))) = some r := h
 clear h
 replace H := kg.mp H
 obtain ⟨t111, A30, H⟩ := H
 replace H : ((cmp_Compare_int.f a0_1 a1_1).bind fun t112 => ((cmp_Or_int.f k (([t111, t112] : List Int))).bind fun t116 => (some t116))) = some r := H
 have A3 := ky A30
 clear A30
 replace H := kg.mp H
 obtain ⟨t112, A40, H⟩ := H
 replace H : ((cmp_Or_int.f k (([t111, t112] : List Int))).bind fun t116 => (some t116)) = some r := H
 have A4 := ky A40
 clear A40
 obtain ⟨y113, hy113⟩ : ∃ y_ : List Int, y_ = (([t111, t112] : List Int)) := ⟨_, rfl⟩
 replace H : ((cmp_Or_int.f k y113).bind fun t116 => (some t116)) = some r := by (rw [hy113]; with_reducible exact H)
 have Ny113 := ky hy113
 clear hy113
 replace H := kg.mp H
 obtain ⟨t116, A50, H⟩ := H
 replace H : (some t116) = some r := H
 have A5 := ky A50
 clear A50
 obtain rfl := kk H
 go_enter Try.func80, Try.ntmps80
 try go_wp2_with (first | ((with_reducible refine zm (N := 2) rfl ?_); refine zl rfl (N := 2) rfl (cs := #[.int .i64 a0_0, .int .i64 a0_1]) (t := 45) ?hr ?_; (case hr => go_simp; done); intro gb109 hg w6 hbox hb; replace HB := ky (zj HB.1 hb); have zt := ky hbox; clear hb hbox hg) | ((with_reducible refine zm (N := 3) rfl ?_); refine zl rfl (N := 3) rfl (cs := #[.int .i64 a1_0, .int .i64 a1_1]) (t := 45) ?hr ?_; (case hr => go_simp; done); intro gb110 hg w7 hbox hb; replace zt := ky (blk_below zt.1 hb); replace HB := ky (zj HB.1 hb); have zu := ky hbox; clear hb hbox hg))
 replace zt := ky (zp zt.1)
 replace zu := ky (zp zu.1)
 replace HB := ky (zb HB.1)
 refine start_ (n := 13) (S := fun w' => w'.cell? ⟨gb109, 0, none⟩ = some (.int .i64 a0_0) ∧ w'.cell? ⟨gb109, 1, none⟩ = some (.int .i64 a0_1) ∧ w'.cell? ⟨gb110, 0, none⟩ = some (.int .i64 a1_0) ∧ w'.cell? ⟨gb110, 1, none⟩ = some (.int .i64 a1_1)) (ds := []) #[kr,kr,kr,kr,kr,kr,kr,kr,kr,kr,kr,kr,kr] (by kernel_rfl) rfl rfl ⟨(zd zt.1 0).trans rfl, (zd zt.1 1).trans rfl, (zd zu.1 0).trans rfl, (zd zu.1 1).trans rfl⟩ (fun hHeld => ?_); refine with_tabW impl_compare.tab1 impl_compare.bits1 (fun HT_ HW_ => ?_)
 generalize w7.drew = w8 at zt zu HB hHeld ⊢
 refine pure_ (i := 0) (N := some 5) (v := ?_) (a' := ?_) #[kt,kr,kr,kr,kr,kr,kr,kr,kr,kr,kr,kr,kr] rfl rfl (any_of HT_.1 (by kernel_rfl)) (fun _ _ _ h => h) (Or.inl ⟨by rfl, ?_⟩) ?_ ?_
 rotate_left
 ·
  intro w'
  go_simp
  with_reducible rfl
 rotate_left
 ·
  simp only [kc, kz, kv, kh, zo, zq]
  rfl
 refine pure_ (i := 2) (N := some 7) (v := ?_) (a' := ?_) #[kt,kr,kt,kr,kr,kr,kr,kr,kr,kr,kr,kr,kr] rfl rfl (any_of HT_.1 (by kernel_rfl)) (fun _ _ _ h => h) (Or.inl ⟨by rfl, ?_⟩) ?_ ?_
 rotate_left
 ·
  intro w'
  go_simp
  with_reducible rfl
 rotate_left
 ·
  simp only [kc, kz, kv, kh, zo, zq]
  rfl
 refine pure_ (i := 5) (N := some 10) (v := ?_) (a' := ?_) #[kt,kr,kt,kr,kr,kt,kr,kr,kr,kr,kr,kr,kr] rfl rfl (any_of HT_.1 (by kernel_rfl)) (fun _ _ _ h => h) (Or.inl ⟨by rfl, ?_⟩) ?_ ?_
 rotate_left
 ·
  intro w'
  go_simp
  with_reducible rfl
 rotate_left
 ·
  simp only [kc, kz, kv, kh, zo, zq]
  rfl
 refine pure_ (i := 7) (N := some 12) (v := ?_) (a' := ?_) #[kt,kr,kt,kr,kr,kt,kr,kt,kr,kr,kr,kr,kr] rfl rfl (any_of HT_.1 (by kernel_rfl)) (fun _ _ _ h => h) (Or.inl ⟨by rfl, ?_⟩) ?_ ?_
 rotate_left
 ·
  intro w'
  go_simp
  with_reducible rfl
 rotate_left
 ·
  simp only [kc, kz, kv, kh, zo, zq]
  rfl
 refine take_ (i := 1) (N := some 6) (v := ?_) (a' := ?_) #[kt,kt,kt,kr,kr,kt,kr,kt,kr,kr,kr,kr,kr] rfl rfl (take_ofW HT_.1 HW_.1 (by kernel_rfl)) (fun _ _ _ h => h) (Or.inl ⟨by rfl, ?_⟩) hHeld ?_ ?_
 rotate_left
 ·
  rintro w' ⟨s0, s1, s2, s3⟩
  go_simp
  with_reducible rfl
 rotate_left
 ·
  simp only [kc, kz, kv, kh, zo, zq]
  rfl
 refine take_ (i := 3) (N := some 8) (v := ?_) (a' := ?_) #[kt,kt,kt,kt,kr,kt,kr,kt,kr,kr,kr,kr,kr] rfl rfl (take_ofW HT_.1 HW_.1 (by kernel_rfl)) (fun _ _ _ h => h) (Or.inl ⟨by rfl, ?_⟩) hHeld ?_ ?_
 rotate_left
 ·
  rintro w' ⟨s0, s1, s2, s3⟩
  go_simp
  with_reducible rfl
 rotate_left
 ·
  simp only [kc, kz, kv, kh, zo, zq]
  rfl
 refine take_ (i := 6) (N := some 11) (v := ?_) (a' := ?_) #[kt,kt,kt,kt,kr,kt,kt,kt,kr,kr,kr,kr,kr] rfl rfl (take_ofW HT_.1 HW_.1 (by kernel_rfl)) (fun _ _ _ h => h) (Or.inl ⟨by rfl, ?_⟩) hHeld ?_ ?_
 rotate_left
 ·
  rintro w' ⟨s0, s1, s2, s3⟩
  go_simp
  with_reducible rfl
 rotate_left
 ·
  simp only [kc, kz, kv, kh, zo, zq]
  rfl
 refine take_ (i := 8) (N := some 13) (v := ?_) (a' := ?_) #[kt,kt,kt,kt,kr,kt,kt,kt,kt,kr,kr,kr,kr] rfl rfl (take_ofW HT_.1 HW_.1 (by kernel_rfl)) (fun _ _ _ h => h) (Or.inl ⟨by rfl, ?_⟩) hHeld ?_ ?_
 rotate_left
 ·
  rintro w' ⟨s0, s1, s2, s3⟩
  go_simp
  with_reducible rfl
 rotate_left
 ·
  simp only [kc, kz, kv, kh, zo, zq]
  rfl
 refine one_ (i := 4) (N := some 9) #[kt,kt,kt,kt,kt,kt,kt,kt,kt,kr,kr,kr,kr] rfl rfl (one_of HT_.1 (by kernel_rfl)) (by decide) (fun K hK => ?_)
 refine goes_ kx (by kernel_rfl) rfl #[.int .i64 a0_0, .int .i64 a1_0] (by rfl) rfl rfl (by (try simp only [kj, kf, ke]); rfl) ?_
 with_reducible refine (cmp_Compare_int.calls a0_0 a1_0 t111 _ A3.1).mono ?_
 rintro e w' ⟨rfl, ⟨nd, rfl⟩⟩
 refine ⟨_, rfl, ?_⟩
 refine hK.out _ _ ⟨(zd zt.1 0).trans rfl, (zd zt.1 1).trans rfl, (zd zu.1 0).trans rfl, (zd zu.1 1).trans rfl⟩ (fun hHeld => ?_)
 clear hK K
 refine norm_ (a' := ?_) ?_ ?_
 rotate_left
 ·
  show kc _ (some 9) _ = _
  simp only [kc, kz, kv, kh, zo, zq]
  rfl
 refine one_ (i := 9) (N := some 14) #[kt,kt,kt,kt,kt,kt,kt,kt,kt,kt,kr,kr,kr] rfl rfl (one_of HT_.1 (by kernel_rfl)) (by decide) (fun K hK => ?_)
 refine goes_ kx (by kernel_rfl) rfl #[.int .i64 a0_1, .int .i64 a1_1] (by rfl) rfl rfl (by (try simp only [kj, kf, ke]); rfl) ?_
 with_reducible refine (cmp_Compare_int.calls a0_1 a1_1 t112 _ A4.1).mono ?_
 rintro e w' ⟨rfl, ⟨nd, rfl⟩⟩
 refine ⟨_, rfl, ?_⟩
 refine hK.out _ _ ⟨(zd zt.1 0).trans rfl, (zd zt.1 1).trans rfl, (zd zu.1 0).trans rfl, (zd zu.1 1).trans rfl⟩ (fun hHeld => ?_)
 clear hK K
 refine norm_ (a' := ?_) ?_ ?_
 rotate_left
 ·
  show kc _ (some 14) _ = _
  simp only [kc, kz, kv, kh, zo, zq]
  rfl
 refine one_ (i := 10) (N := some 15) #[kt,kt,kt,kt,kt,kt,kt,kt,kt,kt,kt,kr,kr] rfl rfl (one_of HT_.1 (by kernel_rfl)) (by decide) (fun K hK => ?_)
 refine Kd.R_lit_step (Kd.int .i64) _ 3 rfl (N := 15) rfl (xs := ([t111, t112] : List Int)) (inner := [.int .i64 t111, .int .i64 t112]) (ok := fun _ => True) (okp := fun _ => True) ?hr ?hp (fun _ hk => hk) trivial (Below.refl _ _) (Nat.le_refl _) (by simp) ?_; (case hr => go_simp; done); (case hp => exact (Reps.one (show Kd.M (Kd.int .i64) _ _ _ t111 [.int .i64 t111] from rfl) (Reps.one (show Kd.M (Kd.int .i64) _ _ _ t112 [.int .i64 t112] from rfl) (Reps.none _ _))))
 intro v114 w9 ho10 hb hg_ hnew_
 clear hg_ hnew_
 (rw [← Ny113.1] at ho10)
 have HO115 := ky (Kd.R_lower ho10 (ze (by repeat ((with_reducible first | exact HB.1 | apply za)))))
 replace zt := ky (blk_below (g := gb109) (o := .cells #[.int .i64 a0_0, .int .i64 a0_1] 45 (0, 0)) (by (with_reducible repeat (refine blk_drewN ?_ _)); exact zt.1) hb)
 replace zu := ky (blk_below (g := gb110) (o := .cells #[.int .i64 a1_0, .int .i64 a1_1] 45 (0, 0)) (by (with_reducible repeat (refine blk_drewN ?_ _)); exact zu.1) hb)
 replace HB := ky (zj (by repeat ((with_reducible first | exact HB.1 | apply za))) hb)
 clear hb ho10
 obtain ⟨Ao11, co11, eo11⟩ := Kd.R_slice HO115.1
 (subst eo11)
 refine hK.out _ _ ⟨(zd zt.1 0).trans rfl, (zd zt.1 1).trans rfl, (zd zu.1 0).trans rfl, (zd zu.1 1).trans rfl⟩ (fun hHeld => ?_)
 clear hK K
 refine norm_ (a' := ?_) ?_ ?_
 rotate_left
 ·
  show kc _ (some 15) _ = _
  simp only [kc, kz, kv, kh, zo, zq]
  rfl
 refine one_ (i := 11) (N := some 16) #[kt,kt,kt,kt,kt,kt,kt,kt,kt,kt,kt,kt,kr] rfl rfl (one_of HT_.1 (by kernel_rfl)) (by decide) (fun K hK => ?_)
 refine goes_ Try.func90 (by kernel_rfl) rfl #[.slice Ao11 y113.length co11] (by rfl) rfl rfl (by (try simp only [kj, kf, ke]); rfl) ?_
 with_reducible refine (cmp_Or_int.calls k _ _ y113 t116 _ ?side1 ?side2 A5.1).mono ?_
 (case side1 => repeat (exact (Kd.R_reads' HO115.1).2.2))
 (case side2 => exact (Kd.R_reads' HO115.1).2.1)
 rintro e w' ⟨rfl, ⟨nd, rfl⟩⟩
 refine ⟨_, rfl, ?_⟩
 refine hK.out _ _ ⟨(zd zt.1 0).trans rfl, (zd zt.1 1).trans rfl, (zd zu.1 0).trans rfl, (zd zu.1 1).trans rfl⟩ (fun hHeld => ?_)
 clear hK K
 refine norm_ (a' := ?_) ?_ ?_
 rotate_left
 ·
  show kc _ (some 16) _ = _
  simp only [kc, kz, kv, kh, zo, zq]
  rfl
 refine pure_ (i := 12) (N := some 4) (v := ?_) (a' := ?_) #[kt,kt,kt,kt,kt,kt,kt,kt,kt,kt,kt,kt,kt] rfl rfl (any_of HT_.1 (by kernel_rfl)) (fun _ _ _ h => h) (Or.inl ⟨by rfl, ?_⟩) ?_ ?_
 rotate_left
 ·
  intro w'
  go_simp
  with_reducible rfl
 rotate_left
 ·
  simp only [kc, kz, kv, kh, zo, zq]
  rfl
 refine done_ (done_of HT_.1 (by kernel_rfl)) ?_
 try go_wp2
 go_ret
 exact ⟨by rfl, by repeat ((with_reducible first | exact HB.1 | apply za))⟩
end Go.Proofs.Ytabejlfejlpkeaa.PFnRanges
