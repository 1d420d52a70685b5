/- Go functions told by Lean functions, printed by a program. No condition but what each statement says. -/
import Derived.Test.YtkollihfejkklaaYFnHalvesx0
namespace Go.Proofs.Ytkollihfejkklaa.PFnHalves
open Go.RowKit Go.Proofs.YtkollihfejkklaaW.PrintWords Go.Proofs.YtkollihfejkklaaW.PrintLast Go.Proofs.YtkollihfejkklaaW.PrintMore
open Aside0 renaming mk → kz
open Option renaming bind_eq_some_iff → kq
open Option.some renaming inj → ky
open List renaming setIfInBounds_toArray → kj, map_toArray → kk, set_cons_zero → kv, set_cons_succ → kh, map_cons → kf, map_nil → ke
open World renaming drewN_drewN → kg
open Try renaming underlying26 → kb, prog → kd, func14 → ko
open Bool renaming eq_false_iff → kc, true → ku, false → ks
open Act renaming put → kx
open Int renaming tmod → km
set_option maxHeartbeats 8000000
set_option maxRecDepth 100000
open Go.Proofs.YtkollihfejkklaaW.PrintLast renaming i64_w → zm, i32_w → zn
open Go.Proofs.YtkollihfejkklaaW.PrintWords renaming pw_below_drewN → za, below_drew1 → zb, below_alloc → zc, blk_frozen → zd, below_size → ze, blk_cell → zf, below_step → zg, box_event → zh, gate_dst → zi, below_set → zj
open Go.Proofs.YtkollihfejkklaaW.PrintWords.Drawn0 renaming step → zk, refl → zl
attribute [local go_sem] max2_int min2_int max_two min_two max_three min_three max_four min_four
set_option linter.unusedVariables false
set_option linter.unusedSimpArgs false

/-! ### impl_within: function 34 -/
def impl_within.f (a0 : Int) (a1 : Int) (a2 : Int) : Option (Bool) := if a0 ≥ a1 then (some (decide (a0 ≤ a2))) else (some false)
theorem impl_within.calls (a0 : Int) (a1 : Int) (a2 : Int) (r : Bool) (w : World) (h : impl_within.f a0 a1 a2 = some r) :
  Calls kd 34 #[.int .i64 a0, .int .i64 a1, .int .i64 a2] w fun e w' => e = .returned (.bool r) ∧ Drawn0 w w' := by
 have H : (if a0 ≥ a1 then (some (decide (a0 ≤ a2))) else (some false)) = some r := h
 clear h
 by_cases c4 : a0 ≥ a1
 ·
  rw [if_pos c4] at H
  have c4b0 : decide (a1 ≤ a0) = true := decide_eq_true c4
  clear c4
  obtain rfl := ky H
  go_enter Try.func34, Try.ntmps34
  go_wp2
  go_ret
  exact ⟨by rfl, by repeat (exact zl _)⟩
 ·
  rw [if_neg c4] at H
  have c4b0 : decide (a1 ≤ a0) = false := decide_eq_false c4
  clear c4
  obtain rfl := ky H
  go_enter Try.func34, Try.ntmps34
  go_wp2
  go_ret
  exact ⟨by rfl, by repeat (exact zl _)⟩

/-! ### impl_isAddr: function 35 -/
def impl_isAddr.f (a0 : Int) : Option (Bool) := (impl_within.f a0 0 4294967295).bind fun t101 => (some t101)
theorem impl_isAddr.calls (a0 : Int) (r : Bool) (w : World) (h : impl_isAddr.f a0 = some r) :
  Calls kd 35 #[.int .i64 a0] w fun e w' => e = .returned (.bool r) ∧ Drawn0 w w' := by
 have H : ((impl_within.f a0 0 4294967295).bind fun t101 => (some t101)) = some r := h
 clear h
 replace H := kq.mp H
 obtain ⟨t101, A20, H⟩ := H
 replace H : (some t101) = some r := H
 have A2 := kz A20
 clear A20
 obtain rfl := ky H
 go_enter Try.func35, Try.ntmps35
 go_wp2_with (((with_reducible refine gate_callee (f := 34) rfl ?_); refine goesL_ (some 4) rfl rfl Try.func34 (by kernel_rfl) rfl #[.int .i64 a0, .int .i64 0, .int .i64 4294967295] rfl (by (try simp only [kk, kf, ke]); rfl) ?_; (with_reducible refine (impl_within.calls a0 0 4294967295 t101 _ A2.1).mono ?_); rintro e w' ⟨rfl, ⟨nd, rfl⟩⟩; refine ⟨_, rfl, ?_⟩))
 go_ret
 exact ⟨by rfl, by repeat (first | exact zl _ | apply zk)⟩

/-! ### impl_sizeOf: function 36 -/
def impl_sizeOf.f (a0 : Int) : Option (Int) := if 0 ≤ (wrap64 (32 - a0)) then (some (shl .i64 1 (wrap64 (32 - a0)))) else (none)
theorem impl_sizeOf.calls (a0 : Int) (r : Int) (w : World) (h : impl_sizeOf.f a0 = some r) :
  Calls kd 36 #[.int .i64 a0] w fun e w' => e = .returned (.int .i64 r) ∧ Drawn0 w w' := by
 have H : (if 0 ≤ (wrap64 (32 - a0)) then (some (shl .i64 1 (wrap64 (32 - a0)))) else (none)) = some r := h
 clear h
 obtain ⟨ji2, hji2⟩ : ∃ j_ : Int, (wrap64 (32 - a0)) = j_ := ⟨_, rfl⟩
 replace H : (if 0 ≤ (ji2) then (some (shl .i64 1 (ji2))) else (none)) = some r := by (rw [hji2] at H; exact H)
 have hji2w : (IntKind.i64.wrap (32 - a0)) = ji2 := (zm _).trans hji2
 by_cases c3 : 0 ≤ (ji2)
 ·
  rw [if_pos c3] at H
  have c3b0 := eq_true c3
  have c3b1 : decide (0 ≤ (ji2)) = true := decide_eq_true c3
  clear c3
  obtain ⟨ji4, hji4⟩ : ∃ j_ : Int, (shl .i64 1 (ji2)) = j_ := ⟨_, rfl⟩
  replace H : (some ji4) = some r := by (rw [hji4] at H; exact H)
  have hji4_ : (IntKind.i64.wrap (1 * 2 ^ min (ji2).toNat 64)) = ji4 := hji4
  have hji4z : (ji2) ≤ 64 → (IntKind.i64.wrap (1 * 2 ^ (ji2).toNat)) = ji4 := shl_small hji4
  have hji4u : (IntKind.i64.wrap (2 ^ min (ji2).toNat 64)) = ji4 := by have h_ := hji4_; rw [Int.one_mul] at h_; exact h_
  have hji4v : (ji2) ≤ 64 → (IntKind.i64.wrap (2 ^ (ji2).toNat)) = ji4 := fun hle_ => by have h_ := hji4z hle_; rw [Int.one_mul] at h_; exact h_
  have hji4y : (wrap64 (1 * 2 ^ min (ji2).toNat 64)) = ji4 := (zm _).symm.trans hji4_
  have hji4x : (ji2) ≤ 64 → (wrap64 (1 * 2 ^ (ji2).toNat)) = ji4 := fun h_ => (zm _).symm.trans (hji4z h_)
  obtain rfl := ky H
  go_enter Try.func36, Try.ntmps36
  go_wp2
  go_ret
  exact ⟨by rfl, by repeat (exact zl _)⟩
 ·
  rw [if_neg c3] at H
  exact absurd H (by simp)

/-! ### impl_GoodPrefix: function 14 -/
def impl_GoodPrefix.f (a0_0 : Int) (a0_1 : Int) : Option (Bool) := (impl_within.f a0_1 0 32).bind fun t103 => (if t103 = true then ((impl_isAddr.f a0_0).bind fun t104 => (if t104 = true then ((impl_sizeOf.f a0_1).bind fun t105 => (if t105 = 0 then (none) else (some ((km a0_0 t105) == 0)))) else (some false))) else (some false))
theorem impl_GoodPrefix.calls (a0_0 : Int) (a0_1 : Int) (r : Bool) (w : World) (h : impl_GoodPrefix.f a0_0 a0_1 = some r) :
  Calls kd 14 #[.agg #[.int .i64 a0_0, .int .i64 a0_1]] w fun e w' => e = .returned (.bool r) ∧ Below w.heap.size w w' := by
 have hu26 := kb
 have HB := kz (Below.refl w.heap.size w)
 have H : ((impl_within.f a0_1 0 32).bind fun t103 => (if t103 = true then ((impl_isAddr.f a0_0).bind fun t104 => (if t104 = true then ((impl_sizeOf.f a0_1).bind fun t105 => (if t105 = 0 then (none) else (some ((km a0_0 t105) == 0)))) else (some false))) else (some false))) = some r := h
 clear h
 replace H := kq.mp H
 obtain ⟨t103, A20, H⟩ := H
 replace H : (if t103 = true then ((impl_isAddr.f a0_0).bind fun t104 => (if t104 = true then ((impl_sizeOf.f a0_1).bind fun t105 => (if t105 = 0 then (none) else (some ((km a0_0 t105) == 0)))) else (some false))) else (some false)) = some r := H
 have A2 := kz A20
 clear A20
 by_cases c3 : t103 = true
 ·
  subst c3
  have H1 : ((impl_isAddr.f a0_0).bind fun t104 => (if t104 = true then ((impl_sizeOf.f a0_1).bind fun t105 => (if t105 = 0 then (none) else (some ((km a0_0 t105) == 0)))) else (some false))) = some r := by rw [if_pos rfl] at H; exact H
  clear H
  have H := H1
  clear H1
  replace H := kq.mp H
  obtain ⟨t104, A40, H⟩ := H
  replace H : (if t104 = true then ((impl_sizeOf.f a0_1).bind fun t105 => (if t105 = 0 then (none) else (some ((km a0_0 t105) == 0)))) else (some false)) = some r := H
  have A4 := kz A40
  clear A40
  by_cases c5 : t104 = true
  ·
   subst c5
   have H1 : ((impl_sizeOf.f a0_1).bind fun t105 => (if t105 = 0 then (none) else (some ((km a0_0 t105) == 0)))) = some r := by rw [if_pos rfl] at H; exact H
   clear H
   have H := H1
   clear H1
   replace H := kq.mp H
   obtain ⟨t105, A60, H⟩ := H
   replace H : (if t105 = 0 then (none) else (some ((km a0_0 t105) == 0))) = some r := H
   have A6 := kz A60
   clear A60
   by_cases c7 : t105 = 0
   ·
    rw [if_pos c7] at H
    exact absurd H (by simp)
   ·
    rw [if_neg c7] at H
    have c7b0 : (t105 == 0) = false := beq_eq_false_iff_ne.mpr c7
    have c7b1 : (t105 != 0) = true := bne_iff_ne.mpr c7
    obtain rfl := ky H
    go_enter ko, Try.ntmps14
    go_wp2_with (((with_reducible refine zi (N := 1) rfl ?_); refine zh ?hg (N := 1) ?hd (cs := #[.int .i64 a0_0, .int .i64 a0_1]) (t := 26) ?hr ?_; (case hd => rfl); (case hg => rfl); (case hr => (go_simp; done)); intro gb102 hg w8 hbox hb; replace HB := kz (zg HB.1 hb); have zo := kz hbox; clear hb hbox hg; have hcz9_0 : w8.cell? ⟨gb102, 0, none⟩ = some (.int .i64 a0_0) := (zf zo.1 0).trans rfl; have hcz9_1 : w8.cell? ⟨gb102, 1, none⟩ = some (.int .i64 a0_1) := (zf zo.1 1).trans rfl; have hfz9_0 := zd zo.1 0; have hfz9_1 := zd zo.1 1))
    repeat (go_quiet (first | (go_at_call 34; (with_reducible refine (impl_within.calls a0_1 0 32 true _ A2.1).mono ?_); rintro e w' ⟨rfl, ⟨nd, rfl⟩⟩; (try exact ⟨rfl, _, kg _ _ _⟩)) | (go_at_call 35; (with_reducible refine (impl_isAddr.calls a0_0 true _ A4.1).mono ?_); rintro e w' ⟨rfl, ⟨nd, rfl⟩⟩; (try exact ⟨rfl, _, kg _ _ _⟩)) | (go_at_call 36; (with_reducible refine (impl_sizeOf.calls a0_1 t105 _ A6.1).mono ?_); rintro e w' ⟨rfl, ⟨nd, rfl⟩⟩; (try exact ⟨rfl, _, kg _ _ _⟩))); try go_wp2_with (fail))
    go_ret
    exact ⟨by rfl, by repeat ((with_reducible first | exact HB.1 | apply za))⟩
  ·
   replace c5 := kc.mpr c5
   subst c5
   have H1 : (some false) = some r := by rw [if_neg (show ¬ (false = true) by decide)] at H; exact H
   clear H
   have H := H1
   clear H1
   obtain rfl := ky H
   go_enter ko, Try.ntmps14
   go_wp2_with (((with_reducible refine zi (N := 1) rfl ?_); refine zh ?hg (N := 1) ?hd (cs := #[.int .i64 a0_0, .int .i64 a0_1]) (t := 26) ?hr ?_; (case hd => rfl); (case hg => rfl); (case hr => (go_simp; done)); intro gb102 hg w10 hbox hb; replace HB := kz (zg HB.1 hb); have zo := kz hbox; clear hb hbox hg; have hcz11_0 : w10.cell? ⟨gb102, 0, none⟩ = some (.int .i64 a0_0) := (zf zo.1 0).trans rfl; have hcz11_1 : w10.cell? ⟨gb102, 1, none⟩ = some (.int .i64 a0_1) := (zf zo.1 1).trans rfl; have hfz11_0 := zd zo.1 0; have hfz11_1 := zd zo.1 1))
   repeat (go_quiet (first | (go_at_call 34; (with_reducible refine (impl_within.calls a0_1 0 32 true _ A2.1).mono ?_); rintro e w' ⟨rfl, ⟨nd, rfl⟩⟩; (try exact ⟨rfl, _, kg _ _ _⟩)) | (go_at_call 35; (with_reducible refine (impl_isAddr.calls a0_0 false _ A4.1).mono ?_); rintro e w' ⟨rfl, ⟨nd, rfl⟩⟩; (try exact ⟨rfl, _, kg _ _ _⟩))); try go_wp2_with (fail))
   go_ret
   exact ⟨by rfl, by repeat ((with_reducible first | exact HB.1 | apply za))⟩
 ·
  replace c3 := kc.mpr c3
  subst c3
  have H1 : (some false) = some r := by rw [if_neg (show ¬ (false = true) by decide)] at H; exact H
  clear H
  have H := H1
  clear H1
  obtain rfl := ky H
  go_enter ko, Try.ntmps14
  go_wp2_with (((with_reducible refine zi (N := 1) rfl ?_); refine zh ?hg (N := 1) ?hd (cs := #[.int .i64 a0_0, .int .i64 a0_1]) (t := 26) ?hr ?_; (case hd => rfl); (case hg => rfl); (case hr => (go_simp; done)); intro gb102 hg w12 hbox hb; replace HB := kz (zg HB.1 hb); have zo := kz hbox; clear hb hbox hg; have hcz13_0 : w12.cell? ⟨gb102, 0, none⟩ = some (.int .i64 a0_0) := (zf zo.1 0).trans rfl; have hcz13_1 : w12.cell? ⟨gb102, 1, none⟩ = some (.int .i64 a0_1) := (zf zo.1 1).trans rfl; have hfz13_0 := zd zo.1 0; have hfz13_1 := zd zo.1 1))
  repeat (go_quiet ((go_at_call 34; (with_reducible refine (impl_within.calls a0_1 0 32 false _ A2.1).mono ?_); rintro e w' ⟨rfl, ⟨nd, rfl⟩⟩; (try exact ⟨rfl, _, kg _ _ _⟩))); try go_wp2_with (fail))
  go_ret
  exact ⟨by rfl, by repeat ((with_reducible first | exact HB.1 | apply za))⟩

/-! ### impl_Prefix_end: function 49 -/
def impl_Prefix_end.f (a0_0 : Int) (a0_1 : Int) : Option (Int) := (impl_sizeOf.f a0_1).bind fun t107 => (some (wrap64 ((wrap64 (a0_0 + t107)) - 1)))
theorem impl_Prefix_end.calls (a0_0 : Int) (a0_1 : Int) (r : Int) (w : World) (h : impl_Prefix_end.f a0_0 a0_1 = some r) :
  Calls kd 49 #[.agg #[.int .i64 a0_0, .int .i64 a0_1]] w fun e w' => e = .returned (.int .i64 r) ∧ Below w.heap.size w w' := by
 have hu26 := kb
 have HB := kz (Below.refl w.heap.size w)
 have H : ((impl_sizeOf.f a0_1).bind fun t107 => (some (wrap64 ((wrap64 (a0_0 + t107)) - 1)))) = some r := h
 clear h
 replace H := kq.mp H
 obtain ⟨t107, A20, H⟩ := H
 replace H : (some (wrap64 ((wrap64 (a0_0 + t107)) - 1))) = some r := H
 have A2 := kz A20
 clear A20
 obtain rfl := ky H
 go_enter Try.func49, Try.ntmps49
 go_wp2_with (((with_reducible refine zi (N := 1) rfl ?_); refine zh ?hg (N := 1) ?hd (cs := #[.int .i64 a0_0, .int .i64 a0_1]) (t := 26) ?hr ?_; (case hd => rfl); (case hg => rfl); (case hr => (go_simp; done)); intro gb106 hg w3 hbox hb; replace HB := kz (zg HB.1 hb); have zq := kz hbox; clear hb hbox hg; have hcz4_0 : w3.cell? ⟨gb106, 0, none⟩ = some (.int .i64 a0_0) := (zf zq.1 0).trans rfl; have hcz4_1 : w3.cell? ⟨gb106, 1, none⟩ = some (.int .i64 a0_1) := (zf zq.1 1).trans rfl; have hfz4_0 := zd zq.1 0; have hfz4_1 := zd zq.1 1))
 repeat (go_quiet ((go_at_call 36; (with_reducible refine (impl_sizeOf.calls a0_1 t107 _ A2.1).mono ?_); rintro e w' ⟨rfl, ⟨nd, rfl⟩⟩; (try exact ⟨rfl, _, kg _ _ _⟩))); try go_wp2_with (fail))
 go_ret
 exact ⟨by rfl, by repeat ((with_reducible first | exact HB.1 | apply za))⟩

/-! ### impl_Prefix_has: function 38 -/
def impl_Prefix_has.f (a0_0 : Int) (a0_1 : Int) (a1 : Int) : Option (Bool) := (impl_Prefix_end.f a0_0 a0_1).bind fun t109 => ((impl_within.f a1 a0_0 t109).bind fun t110 => (some t110))
theorem impl_Prefix_has.calls (a0_0 : Int) (a0_1 : Int) (a1 : Int) (r : Bool) (w : World) (h : impl_Prefix_has.f a0_0 a0_1 a1 = some r) :
  Calls kd 38 #[.agg #[.int .i64 a0_0, .int .i64 a0_1], .int .i64 a1] w fun e w' => e = .returned (.bool r) ∧ Below w.heap.size w w' := by
 have hu26 := kb
 have HB := kz (Below.refl w.heap.size w)
 have H : ((impl_Prefix_end.f a0_0 a0_1).bind fun t109 => ((impl_within.f a1 a0_0 t109).bind fun t110 => (some t110))) = some r := h
 clear h
 replace H := kq.mp H
 obtain ⟨t109, A30, H⟩ := H
 replace H : ((impl_within.f a1 a0_0 t109).bind fun t110 => (some t110)) = some r := H
 have A3 := kz A30
 clear A30
 replace H := kq.mp H
 obtain ⟨t110, A40, H⟩ := H
 replace H : (some t110) = some r := H
 have A4 := kz A40
 clear A40
 obtain rfl := ky H
 go_enter Try.func38, Try.ntmps38
 try go_wp2_with (((with_reducible refine zi (N := 2) rfl ?_); refine zh ?hg (N := 2) ?hd (cs := #[.int .i64 a0_0, .int .i64 a0_1]) (t := 26) ?hr ?_; (case hd => rfl); (case hg => rfl); (case hr => (go_simp; done)); intro gb108 hg w5 hbox hb; replace HB := kz (zg HB.1 hb); have zr := kz hbox; clear hb hbox hg))
 replace zr := kz (blk_drew zr.1)
 replace HB := kz (zb HB.1)
 refine start_ (n := 7) (S := fun w' => w'.cell? ⟨gb108, 0, none⟩ = some (.int .i64 a0_0) ∧ w'.cell? ⟨gb108, 1, none⟩ = some (.int .i64 a0_1)) (ds := []) #[ks,ks,ks,ks,ks,ks,ks] (by kernel_rfl) rfl rfl ⟨(zf zr.1 0).trans rfl, (zf zr.1 1).trans rfl⟩ (fun hHeld => ?_)
 generalize w5.drew = w6 at zr HB hHeld ⊢
 refine pure_ (i := 0) (N := some 5) (v := ?_) (a' := ?_) #[ku,ks,ks,ks,ks,ks,ks] rfl rfl (by kernel_rfl) (fun _ _ _ h => h) (Or.inl ⟨by rfl, ?_⟩) ?_ ?_
 rotate_left
 ·
  intro w'
  go_simp
  with_reducible rfl
 rotate_left
 ·
  simp only [kx, kj, kv, kh, zm, zn]
  rfl
 refine pure_ (i := 1) (N := some 6) (v := ?_) (a' := ?_) #[ku,ku,ks,ks,ks,ks,ks] rfl rfl (by kernel_rfl) (fun _ _ _ h => h) (Or.inl ⟨by rfl, ?_⟩) ?_ ?_
 rotate_left
 ·
  intro w'
  go_simp
  with_reducible rfl
 rotate_left
 ·
  simp only [kx, kj, kv, kh, zm, zn]
  rfl
 refine take_ (i := 2) (N := some 7) (v := ?_) (a' := ?_) #[ku,ku,ku,ks,ks,ks,ks] rfl rfl (by kernel_rfl) (fun _ _ _ h => h) (Or.inl ⟨by rfl, ?_⟩) hHeld ?_ ?_
 rotate_left
 ·
  rintro w' ⟨s0, s1⟩
  go_simp
  with_reducible rfl
 rotate_left
 ·
  simp only [kx, kj, kv, kh, zm, zn]
  rfl
 refine take_ (i := 3) (N := some 8) (v := ?_) (a' := ?_) #[ku,ku,ku,ku,ks,ks,ks] rfl rfl (by kernel_rfl) (fun _ _ _ h => h) (Or.inl ⟨by rfl, ?_⟩) hHeld ?_ ?_
 rotate_left
 ·
  rintro w' ⟨s0, s1⟩
  go_simp
  with_reducible rfl
 rotate_left
 ·
  simp only [kx, kj, kv, kh, zm, zn]
  rfl
 refine one_ (i := 4) (N := some 9) #[ku,ku,ku,ku,ku,ks,ks] rfl rfl (by kernel_rfl) (by decide) (fun K hK => ?_)
 refine goes_ Try.func49 (by kernel_rfl) rfl #[.agg #[.int .i64 a0_0, .int .i64 a0_1]] (by rfl) rfl rfl (by (try simp only [kk, kf, ke]); rfl) ?_
 with_reducible refine (impl_Prefix_end.calls a0_0 a0_1 t109 _ A3.1).mono ?_
 rintro e w7 ⟨rfl, hb⟩
 refine ⟨_, rfl, ?_⟩
 replace zr := kz (blk_below (g := gb108) (o := .cells #[.int .i64 a0_0, .int .i64 a0_1] 26 (0, 0)) zr.1 hb)
 replace HB := kz (zg HB.1 hb)
 (try clear hb)
 (try clear hb2)
 (try clear hk)
 (try clear hi)
 refine hK.out _ _ ⟨(zf zr.1 0).trans rfl, (zf zr.1 1).trans rfl⟩ (fun hHeld => ?_)
 clear hK K
 refine norm_ (a' := ?_) ?_ ?_
 rotate_left
 ·
  show kx _ (some 9) _ = _
  simp only [kx, kj, kv, kh, zm, zn]
  rfl
 refine one_ (i := 5) (N := some 10) #[ku,ku,ku,ku,ku,ku,ks] rfl rfl (by kernel_rfl) (by decide) (fun K hK => ?_)
 refine goes_ Try.func34 (by kernel_rfl) rfl #[.int .i64 a1, .int .i64 a0_0, .int .i64 t109] (by rfl) rfl rfl (by (try simp only [kk, kf, ke]); rfl) ?_
 with_reducible refine (impl_within.calls a1 a0_0 t109 t110 _ A4.1).mono ?_
 rintro e w' ⟨rfl, ⟨nd, rfl⟩⟩
 refine ⟨_, rfl, ?_⟩
 refine hK.out _ _ ⟨(zf zr.1 0).trans rfl, (zf zr.1 1).trans rfl⟩ (fun hHeld => ?_)
 clear hK K
 refine norm_ (a' := ?_) ?_ ?_
 rotate_left
 ·
  show kx _ (some 10) _ = _
  simp only [kx, kj, kv, kh, zm, zn]
  rfl
 refine pure_ (i := 6) (N := some 4) (v := ?_) (a' := ?_) #[ku,ku,ku,ku,ku,ku,ku] rfl rfl (by kernel_rfl) (fun _ _ _ h => h) (Or.inl ⟨by rfl, ?_⟩) ?_ ?_
 rotate_left
 ·
  intro w'
  go_simp
  with_reducible rfl
 rotate_left
 ·
  simp only [kx, kj, kv, kh, zm, zn]
  rfl
 refine done_ (by kernel_rfl) ?_
 try go_wp2
 go_ret
 exact ⟨by rfl, by repeat ((with_reducible first | exact HB.1 | apply za))⟩

/-! ### impl_HasAddr: function 16 -/
def impl_HasAddr.f (a0_0 : Int) (a0_1 : Int) (a1 : Int) : Option (Bool × Bool) := (impl_GoodPrefix.f a0_0 a0_1).bind fun t112 => (if t112 = true then ((impl_isAddr.f a1).bind fun t113 => (if t113 = true then ((impl_Prefix_has.f a0_0 a0_1 a1).bind fun t114 => (some (t114, true))) else (some (false, false)))) else (some (false, false)))
theorem impl_HasAddr.calls (a0_0 : Int) (a0_1 : Int) (a1 : Int) (r1 : Bool) (r2 : Bool) (w : World) (h : impl_HasAddr.f a0_0 a0_1 a1 = some (r1, r2)) :
  Calls kd 16 #[.agg #[.int .i64 a0_0, .int .i64 a0_1], .int .i64 a1] w fun e w' => e = .returned (.tuple #[.bool r1, .bool r2]) ∧ Below w.heap.size w w' := by
 have hu26 := kb
 have HB := kz (Below.refl w.heap.size w)
 have H : ((impl_GoodPrefix.f a0_0 a0_1).bind fun t112 => (if t112 = true then ((impl_isAddr.f a1).bind fun t113 => (if t113 = true then ((impl_Prefix_has.f a0_0 a0_1 a1).bind fun t114 => (some (t114, true))) else (some (false, false)))) else (some (false, false)))) = some (r1, r2) := h
 clear h
 replace H := kq.mp H
 obtain ⟨t112, A30, H⟩ := H
 replace H : (if t112 = true then ((impl_isAddr.f a1).bind fun t113 => (if t113 = true then ((impl_Prefix_has.f a0_0 a0_1 a1).bind fun t114 => (some (t114, true))) else (some (false, false)))) else (some (false, false))) = some (r1, r2) := H
 have A3 := kz A30
 clear A30
 by_cases c4 : t112 = true
 ·
  subst c4
  have H1 : ((impl_isAddr.f a1).bind fun t113 => (if t113 = true then ((impl_Prefix_has.f a0_0 a0_1 a1).bind fun t114 => (some (t114, true))) else (some (false, false)))) = some (r1, r2) := by rw [if_pos rfl] at H; exact H
  clear H
  have H := H1
  clear H1
  replace H := kq.mp H
  obtain ⟨t113, A50, H⟩ := H
  replace H : (if t113 = true then ((impl_Prefix_has.f a0_0 a0_1 a1).bind fun t114 => (some (t114, true))) else (some (false, false))) = some (r1, r2) := H
  have A5 := kz A50
  clear A50
  by_cases c6 : t113 = true
  ·
   subst c6
   have H1 : ((impl_Prefix_has.f a0_0 a0_1 a1).bind fun t114 => (some (t114, true))) = some (r1, r2) := by rw [if_pos rfl] at H; exact H
   clear H
   have H := H1
   clear H1
   replace H := kq.mp H
   obtain ⟨t114, A70, H⟩ := H
   replace H : (some (t114, true)) = some (r1, r2) := H
   have A7 := kz A70
   clear A70
   simp only [Option.some.injEq, Prod.mk.injEq] at H
   obtain ⟨rfl, rfl⟩ := H
   go_enter Try.func16, Try.ntmps16
   go_wp2_with (first | ((with_reducible refine zi (N := 2) rfl ?_); refine zh ?hg (N := 2) ?hd (cs := #[.int .i64 a0_0, .int .i64 a0_1]) (t := 26) ?hr ?_; (case hd => rfl); (case hg => rfl); (case hr => (go_simp; done)); intro gb111 hg w8 hbox hb; replace HB := kz (zg HB.1 hb); have zp := kz hbox; clear hb hbox hg; have hcz9_0 : w8.cell? ⟨gb111, 0, none⟩ = some (.int .i64 a0_0) := (zf zp.1 0).trans rfl; have hcz9_1 : w8.cell? ⟨gb111, 1, none⟩ = some (.int .i64 a0_1) := (zf zp.1 1).trans rfl; have hfz9_0 := zd zp.1 0; have hfz9_1 := zd zp.1 1) | ((with_reducible refine gate_callee (f := 14) rfl ?_); refine goesL_ (some 7) rfl rfl ko (by kernel_rfl) rfl #[.agg #[.int .i64 a0_0, .int .i64 a0_1]] rfl (by (try simp only [kk, kf, ke]); rfl) ?_; (with_reducible refine (impl_GoodPrefix.calls a0_0 a0_1 true _ A3.1).mono ?_); rintro e w10 ⟨rfl, hb⟩; refine ⟨_, rfl, ?_⟩; replace zp := kz (blk_below (g := gb111) (o := .cells #[.int .i64 a0_0, .int .i64 a0_1] 26 (0, 0)) zp.1 hb); replace HB := kz (zg HB.1 hb); (try clear hb); (try clear hb2); (try clear hk); (try clear hi)) | (go_at_call 35; (with_reducible refine (impl_isAddr.calls a1 true _ A5.1).mono ?_); rintro e w' ⟨rfl, ⟨nd, rfl⟩⟩; have hcz11_0 : w10.cell? ⟨gb111, 0, none⟩ = some (.int .i64 a0_0) := (zf zp.1 0).trans rfl; have hcz11_1 : w10.cell? ⟨gb111, 1, none⟩ = some (.int .i64 a0_1) := (zf zp.1 1).trans rfl; have hfz11_0 := zd zp.1 0; have hfz11_1 := zd zp.1 1) | ((with_reducible refine gate_callee (f := 38) rfl ?_); refine goesL_ (some 16) rfl rfl Try.func38 (by kernel_rfl) rfl #[.agg #[.int .i64 a0_0, .int .i64 a0_1], .int .i64 a1] rfl (by (try simp only [kk, kf, ke]); rfl) ?_; (with_reducible refine (impl_Prefix_has.calls a0_0 a0_1 a1 t114 _ A7.1).mono ?_); rintro e w12 ⟨rfl, hb⟩; refine ⟨_, rfl, ?_⟩; replace zp := kz (blk_below (g := gb111) (o := .cells #[.int .i64 a0_0, .int .i64 a0_1] 26 (0, 0)) (by (with_reducible repeat (refine blk_drewN ?_ _)); exact zp.1) hb); replace HB := kz (zg (by repeat ((with_reducible first | exact HB.1 | apply za))) hb); (try clear hb); (try clear hb2); (try clear hk); (try clear hi)))
   go_ret2
   exact ⟨by rfl, by exact HB.1⟩
  ·
   replace c6 := kc.mpr c6
   subst c6
   have H1 : (some (false, false)) = some (r1, r2) := by rw [if_neg (show ¬ (false = true) by decide)] at H; exact H
   clear H
   have H := H1
   clear H1
   simp only [Option.some.injEq, Prod.mk.injEq] at H
   obtain ⟨rfl, rfl⟩ := H
   go_enter Try.func16, Try.ntmps16
   go_wp2_with (first | ((with_reducible refine zi (N := 2) rfl ?_); refine zh ?hg (N := 2) ?hd (cs := #[.int .i64 a0_0, .int .i64 a0_1]) (t := 26) ?hr ?_; (case hd => rfl); (case hg => rfl); (case hr => (go_simp; done)); intro gb111 hg w13 hbox hb; replace HB := kz (zg HB.1 hb); have zp := kz hbox; clear hb hbox hg; have hcz14_0 : w13.cell? ⟨gb111, 0, none⟩ = some (.int .i64 a0_0) := (zf zp.1 0).trans rfl; have hcz14_1 : w13.cell? ⟨gb111, 1, none⟩ = some (.int .i64 a0_1) := (zf zp.1 1).trans rfl; have hfz14_0 := zd zp.1 0; have hfz14_1 := zd zp.1 1) | ((with_reducible refine gate_callee (f := 14) rfl ?_); refine goesL_ (some 7) rfl rfl ko (by kernel_rfl) rfl #[.agg #[.int .i64 a0_0, .int .i64 a0_1]] rfl (by (try simp only [kk, kf, ke]); rfl) ?_; (with_reducible refine (impl_GoodPrefix.calls a0_0 a0_1 true _ A3.1).mono ?_); rintro e w15 ⟨rfl, hb⟩; refine ⟨_, rfl, ?_⟩; replace zp := kz (blk_below (g := gb111) (o := .cells #[.int .i64 a0_0, .int .i64 a0_1] 26 (0, 0)) zp.1 hb); replace HB := kz (zg HB.1 hb); (try clear hb); (try clear hb2); (try clear hk); (try clear hi)) | (go_at_call 35; (with_reducible refine (impl_isAddr.calls a1 false _ A5.1).mono ?_); rintro e w' ⟨rfl, ⟨nd, rfl⟩⟩))
   go_ret2
   exact ⟨by rfl, by repeat ((with_reducible first | exact HB.1 | apply za))⟩
 ·
  replace c4 := kc.mpr c4
  subst c4
  have H1 : (some (false, false)) = some (r1, r2) := by rw [if_neg (show ¬ (false = true) by decide)] at H; exact H
  clear H
  have H := H1
  clear H1
  simp only [Option.some.injEq, Prod.mk.injEq] at H
  obtain ⟨rfl, rfl⟩ := H
  go_enter Try.func16, Try.ntmps16
  go_wp2_with (first | ((with_reducible refine zi (N := 2) rfl ?_); refine zh ?hg (N := 2) ?hd (cs := #[.int .i64 a0_0, .int .i64 a0_1]) (t := 26) ?hr ?_; (case hd => rfl); (case hg => rfl); (case hr => (go_simp; done)); intro gb111 hg w16 hbox hb; replace HB := kz (zg HB.1 hb); have zp := kz hbox; clear hb hbox hg; have hcz17_0 : w16.cell? ⟨gb111, 0, none⟩ = some (.int .i64 a0_0) := (zf zp.1 0).trans rfl; have hcz17_1 : w16.cell? ⟨gb111, 1, none⟩ = some (.int .i64 a0_1) := (zf zp.1 1).trans rfl; have hfz17_0 := zd zp.1 0; have hfz17_1 := zd zp.1 1) | ((with_reducible refine gate_callee (f := 14) rfl ?_); refine goesL_ (some 7) rfl rfl ko (by kernel_rfl) rfl #[.agg #[.int .i64 a0_0, .int .i64 a0_1]] rfl (by (try simp only [kk, kf, ke]); rfl) ?_; (with_reducible refine (impl_GoodPrefix.calls a0_0 a0_1 false _ A3.1).mono ?_); rintro e w18 ⟨rfl, hb⟩; refine ⟨_, rfl, ?_⟩; replace HB := kz (zg HB.1 hb); (try clear hb); (try clear hb2); (try clear hk); (try clear hi)))
  go_ret2
  exact ⟨by rfl, by exact HB.1⟩

/-! ### spec_l1In: function 31 -/
def spec_l1In.f (a0 : Int) (a1 : Int) (a2 : Int) : Option (Bool) := if a0 ≥ a1 then (some (decide (a0 ≤ a2))) else (some false)
theorem spec_l1In.calls (a0 : Int) (a1 : Int) (a2 : Int) (r : Bool) (w : World) (h : spec_l1In.f a0 a1 a2 = some r) :
  Calls kd 31 #[.int .i64 a0, .int .i64 a1, .int .i64 a2] w fun e w' => e = .returned (.bool r) ∧ Drawn0 w w' := by
 have H : (if a0 ≥ a1 then (some (decide (a0 ≤ a2))) else (some false)) = some r := h
 clear h
 by_cases c4 : a0 ≥ a1
 ·
  rw [if_pos c4] at H
  have c4b0 : decide (a1 ≤ a0) = true := decide_eq_true c4
  clear c4
  obtain rfl := ky H
  go_enter Try.func31, Try.ntmps31
  go_wp2
  go_ret
  exact ⟨by rfl, by repeat (exact zl _)⟩
 ·
  rw [if_neg c4] at H
  have c4b0 : decide (a1 ≤ a0) = false := decide_eq_false c4
  clear c4
  obtain rfl := ky H
  go_enter Try.func31, Try.ntmps31
  go_wp2
  go_ret
  exact ⟨by rfl, by repeat (exact zl _)⟩

/-! ### spec_l1Addr: function 32 -/
def spec_l1Addr.f (a0 : Int) : Option (Bool) := (spec_l1In.f a0 0 4294967295).bind fun t115 => (some t115)
theorem spec_l1Addr.calls (a0 : Int) (r : Bool) (w : World) (h : spec_l1Addr.f a0 = some r) :
  Calls kd 32 #[.int .i64 a0] w fun e w' => e = .returned (.bool r) ∧ Drawn0 w w' := by
 have H : ((spec_l1In.f a0 0 4294967295).bind fun t115 => (some t115)) = some r := h
 clear h
 replace H := kq.mp H
 obtain ⟨t115, A20, H⟩ := H
 replace H : (some t115) = some r := H
 have A2 := kz A20
 clear A20
 obtain rfl := ky H
 go_enter Try.func32, Try.ntmps32
 go_wp2_with (((with_reducible refine gate_callee (f := 31) rfl ?_); refine goesL_ (some 4) rfl rfl Try.func31 (by kernel_rfl) rfl #[.int .i64 a0, .int .i64 0, .int .i64 4294967295] rfl (by (try simp only [kk, kf, ke]); rfl) ?_; (with_reducible refine (spec_l1In.calls a0 0 4294967295 t115 _ A2.1).mono ?_); rintro e w' ⟨rfl, ⟨nd, rfl⟩⟩; refine ⟨_, rfl, ?_⟩))
 go_ret
 exact ⟨by rfl, by repeat (first | exact zl _ | apply zk)⟩

/-! ### spec_l1Size: function 33 -/
def spec_l1Size.f (a0_0 : Int) (a0_1 : Int) : Option (Int) := if 0 ≤ (IntKind.u64.wrap (wrap64 (32 - a0_1))) then (some (shl .i64 1 (IntKind.u64.wrap (wrap64 (32 - a0_1))))) else (none)
theorem spec_l1Size.calls (a0_0 : Int) (a0_1 : Int) (r : Int) (w : World) (h : spec_l1Size.f a0_0 a0_1 = some r) :
  Calls kd 33 #[.agg #[.int .i64 a0_0, .int .i64 a0_1]] w fun e w' => e = .returned (.int .i64 r) ∧ Below w.heap.size w w' := by
 have hu26 := kb
 have HB := kz (Below.refl w.heap.size w)
 have H : (if 0 ≤ (IntKind.u64.wrap (wrap64 (32 - a0_1))) then (some (shl .i64 1 (IntKind.u64.wrap (wrap64 (32 - a0_1))))) else (none)) = some r := h
 clear h
 obtain ⟨ji2, hji2⟩ : ∃ j_ : Int, (IntKind.u64.wrap (wrap64 (32 - a0_1))) = j_ := ⟨_, rfl⟩
 replace H : (if 0 ≤ (ji2) then (some (shl .i64 1 (ji2))) else (none)) = some r := by (rw [hji2] at H; exact H)
 by_cases c3 : 0 ≤ (ji2)
 ·
  rw [if_pos c3] at H
  have c3b0 := eq_true c3
  have c3b1 : decide (0 ≤ (ji2)) = true := decide_eq_true c3
  clear c3
  obtain ⟨ji4, hji4⟩ : ∃ j_ : Int, (shl .i64 1 (ji2)) = j_ := ⟨_, rfl⟩
  replace H : (some ji4) = some r := by (rw [hji4] at H; exact H)
  have hji4_ : (IntKind.i64.wrap (1 * 2 ^ min (ji2).toNat 64)) = ji4 := hji4
  have hji4z : (ji2) ≤ 64 → (IntKind.i64.wrap (1 * 2 ^ (ji2).toNat)) = ji4 := shl_small hji4
  have hji4u : (IntKind.i64.wrap (2 ^ min (ji2).toNat 64)) = ji4 := by have h_ := hji4_; rw [Int.one_mul] at h_; exact h_
  have hji4v : (ji2) ≤ 64 → (IntKind.i64.wrap (2 ^ (ji2).toNat)) = ji4 := fun hle_ => by have h_ := hji4z hle_; rw [Int.one_mul] at h_; exact h_
  have hji4y : (wrap64 (1 * 2 ^ min (ji2).toNat 64)) = ji4 := (zm _).symm.trans hji4_
  have hji4x : (ji2) ≤ 64 → (wrap64 (1 * 2 ^ (ji2).toNat)) = ji4 := fun h_ => (zm _).symm.trans (hji4z h_)
  obtain rfl := ky H
  go_enter Try.func33, Try.ntmps33
  go_wp2_with (((with_reducible refine zi (N := 1) rfl ?_); refine zh ?hg (N := 1) ?hd (cs := #[.int .i64 a0_0, .int .i64 a0_1]) (t := 26) ?hr ?_; (case hd => rfl); (case hg => rfl); (case hr => (go_simp; done)); intro gb116 hg w5 hbox hb; replace HB := kz (zg HB.1 hb); have BK116 := kz hbox; clear hb hbox hg; have hcz6_0 : w5.cell? ⟨gb116, 0, none⟩ = some (.int .i64 a0_0) := (zf BK116.1 0).trans rfl; have hcz6_1 : w5.cell? ⟨gb116, 1, none⟩ = some (.int .i64 a0_1) := (zf BK116.1 1).trans rfl; have hfz6_0 := zd BK116.1 0; have hfz6_1 := zd BK116.1 1))
  go_ret
  exact ⟨by rfl, by exact HB.1⟩
 ·
  rw [if_neg c3] at H
  exact absurd H (by simp)

end Go.Proofs.Ytkollihfejkklaa.PFnHalves
