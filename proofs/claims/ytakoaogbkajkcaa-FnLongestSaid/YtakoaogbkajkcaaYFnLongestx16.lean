/- Go functions told by Lean functions, printed by a program. No condition but what each statement says. -/
import Derived.Test.YtakoaogbkajkcaaYFnLongestx7
import Derived.Test.YtakoaogbkajkcaaYFnLongestx10
namespace Go.Proofs.Ytakoaogbkajkcaa.PFnLongest
open Go.RowKit Go.Proofs.YtakoaogbkajkcaaW.PrintWords Go.Proofs.YtakoaogbkajkcaaW.PrintLast Go.Proofs.YtakoaogbkajkcaaW.PrintMore
open List renaming setIfInBounds_toArray → kz, set_cons_zero → ky, set_cons_succ → kj, map_toArray → kh, map_cons → ke, map_nil → kb
open Aside0 renaming mk → kk
open Act renaming put → kv
open Option renaming bind_eq_some_iff → kg
open Option.some renaming inj → kf
open Or renaming inl → kd
open Bool renaming true → kc, false → ko
set_option maxHeartbeats 8000000
set_option maxRecDepth 100000
open Go.Proofs.YtakoaogbkajkcaaW.PrintLast renaming i64_w → zh, i32_w → zi, any_of → zj, pure_ → zn
open Go.Proofs.YtakoaogbkajkcaaW.PrintWords renaming pw_below_drewN → za, below_drew1 → zb, blk_frozen → zd, blk_cell → ze, below_step → zf, Aside0 → zo
attribute [local go_sem] max2_int min2_int max_two min_two max_three min_three max_four min_four
set_option linter.unusedVariables false
set_option linter.unusedSimpArgs false
/-! ### spec_l2Half: function 68 -/
def spec_l2Half.f (a0_0 : Int) (a0_1 : Int) (a0_2 : Bool) (a0_3 : Int) (a1 : Int) : Option (Int) := if a1 = 1 then (some a0_1) else (some a0_0)
theorem spec_l2Half.calls (a0_0 : Int) (a0_1 : Int) (a0_2 : Bool) (a0_3 : Int) (a1 : Int) (r : Int) (w : World) (h : spec_l2Half.f a0_0 a0_1 a0_2 a0_3 a1 = some r) :
  Calls Try.prog 68 #[.agg #[.int .i64 a0_0, .int .i64 a0_1, .bool a0_2, .int .i64 a0_3], .int .i64 a1] w fun e w' => e = .returned (.int .i64 r) ∧ Below w.heap.size w w' := by
 have hu86 := Try.underlying86
 have HB := kk (Below.refl w.heap.size w)
 have H : (if a1 = 1 then (some a0_1) else (some a0_0)) = some r := h
 clear h
 by_cases c3 : a1 = 1
 ·
  rw [if_pos c3] at H
  have c3b0 : (a1 == 1) = true := beq_iff_eq.mpr c3
  have c3b1 : (a1 != 1) = false := bne_eq_false_iff_eq.mpr c3
  clear c3
  obtain rfl := kf H
  go_enter Try.func68, Try.ntmps68
  go_wp2_with (((with_reducible refine gate_dst (N := 2) rfl ?_); refine box_event rfl (N := 2) rfl (cs := #[.int .i64 a0_0, .int .i64 a0_1, .bool a0_2, .int .i64 a0_3]) (t := 86) ?hr ?_; (case hr => go_simp; done); intro gb229 hg w4 hbox hb; replace HB := kk (zf HB.1 hb); have zr := kk hbox; clear hb hbox hg; have hcz5_0 : w4.cell? ⟨gb229, 0, none⟩ = some (.int .i64 a0_0) := (ze zr.1 0).trans rfl; have hcz5_1 : w4.cell? ⟨gb229, 1, none⟩ = some (.int .i64 a0_1) := (ze zr.1 1).trans rfl; have hcz5_2 : w4.cell? ⟨gb229, 2, none⟩ = some (.bool a0_2) := (ze zr.1 2).trans rfl; have hcz5_3 : w4.cell? ⟨gb229, 3, none⟩ = some (.int .i64 a0_3) := (ze zr.1 3).trans rfl; have hfz5_0 := zd zr.1 0; have hfz5_1 := zd zr.1 1; have hfz5_2 := zd zr.1 2; have hfz5_3 := zd zr.1 3))
  go_ret
  exact ⟨by rfl, by exact HB.1⟩
 ·
  rw [if_neg c3] at H
  have c3b0 : (a1 == 1) = false := beq_eq_false_iff_ne.mpr c3
  have c3b1 : (a1 != 1) = true := bne_iff_ne.mpr c3
  obtain rfl := kf H
  go_enter Try.func68, Try.ntmps68
  go_wp2_with (((with_reducible refine gate_dst (N := 2) rfl ?_); refine box_event rfl (N := 2) rfl (cs := #[.int .i64 a0_0, .int .i64 a0_1, .bool a0_2, .int .i64 a0_3]) (t := 86) ?hr ?_; (case hr => go_simp; done); intro gb229 hg w6 hbox hb; replace HB := kk (zf HB.1 hb); have zr := kk hbox; clear hb hbox hg; have hcz7_0 : w6.cell? ⟨gb229, 0, none⟩ = some (.int .i64 a0_0) := (ze zr.1 0).trans rfl; have hcz7_1 : w6.cell? ⟨gb229, 1, none⟩ = some (.int .i64 a0_1) := (ze zr.1 1).trans rfl; have hcz7_2 : w6.cell? ⟨gb229, 2, none⟩ = some (.bool a0_2) := (ze zr.1 2).trans rfl; have hcz7_3 : w6.cell? ⟨gb229, 3, none⟩ = some (.int .i64 a0_3) := (ze zr.1 3).trans rfl; have hfz7_0 := zd zr.1 0; have hfz7_1 := zd zr.1 1; have hfz7_2 := zd zr.1 2; have hfz7_3 := zd zr.1 3))
  go_ret
  exact ⟨by rfl, by exact HB.1⟩
/-! ### spec_l2Bit: function 69 -/
def spec_l2Bit.f (a0 : Int) (a1 : Int) : Option (Int) := if 0 ≤ (IntKind.u64.wrap (wrap64 (31 - a1))) then (some (Go.bits .and .i64 (shr .i64 a0 (IntKind.u64.wrap (wrap64 (31 - a1)))) 1)) else (none)
theorem spec_l2Bit.calls (a0 : Int) (a1 : Int) (r : Int) (w : World) (h : spec_l2Bit.f a0 a1 = some r) :
  Calls Try.prog 69 #[.int .i64 a0, .int .i64 a1] w fun e w' => e = .returned (.int .i64 r) ∧ Drawn0 w w' := by
 have H : (if 0 ≤ (IntKind.u64.wrap (wrap64 (31 - a1))) then (some (Go.bits .and .i64 (shr .i64 a0 (IntKind.u64.wrap (wrap64 (31 - a1)))) 1)) else (none)) = some r := h
 clear h
 obtain ⟨ji3, hji3⟩ : ∃ j_ : Int, (IntKind.u64.wrap (wrap64 (31 - a1))) = j_ := ⟨_, rfl⟩
 replace H : (if 0 ≤ (ji3) then (some (Go.bits .and .i64 (shr .i64 a0 (ji3)) 1)) else (none)) = some r := by (rw [hji3] at H; exact H)
 by_cases c4 : 0 ≤ (ji3)
 ·
  rw [if_pos c4] at H
  have c4b0 := eq_true c4
  have c4b1 : decide (0 ≤ (ji3)) = true := decide_eq_true c4
  clear c4
  obtain ⟨ji5, hji5⟩ : ∃ j_ : Int, (shr .i64 a0 (ji3)) = j_ := ⟨_, rfl⟩
  replace H : (some (Go.bits .and .i64 (ji5) 1)) = some r := by (rw [hji5] at H; exact H)
  have hji5_ : (a0 / 2 ^ min (ji3).toNat 64) = ji5 := hji5
  have hji5z : (ji3) ≤ 64 → (a0 / 2 ^ (ji3).toNat) = ji5 := shr_small hji5
  obtain rfl := kf H
  go_enter Try.func69, Try.ntmps69
  go_wp2
  go_ret
  exact ⟨by rfl, by repeat (exact Drawn0.refl _)⟩
 ·
  rw [if_neg c4] at H
  exact absurd H (by simp)
/-! ### spec_LookUp: function 26 -/
mutual
def spec_LookUp.j0 : Nat → List (S86) → Int → Bool → Option (Int × Int × Bool)
 | 0, _, _, _ => none
 | k + 1, x0, x1, x19 => if x19 = true then (some (0, 0, false)) else (spec_LookUp.l0 k x0 x1 false 0 0 0 0)
def spec_LookUp.l0 : Nat → List (S86) → Int → Bool → Int → Int → Int → Int → Option (Int × Int × Bool)
 | 0, _, _, _, _, _, _, _ => none
 | k + 1, x0, x1, x7, x8, x9, x10, x11 => if 0 ≤ x10 then (if x10 < (x0.length : Int) then (if (rd_T86 x0 x10).f2 = true then (spec_LookUp.j2 k x0 x1 true ((rd_T86 x0 x10).f3) x11 x10 x11) else (spec_LookUp.j2 k x0 x1 x7 x8 x9 x10 x11)) else (none)) else (none)
def spec_LookUp.j2 : Nat → List (S86) → Int → Bool → Int → Int → Int → Int → Option (Int × Int × Bool)
 | 0, _, _, _, _, _, _, _ => none
 | k + 1, x0, x1, x7, x8, x9, x10, x11 => if x11 = 32 then (some (x8, x9, x7)) else (if 0 ≤ x10 then (if x10 < (x0.length : Int) then ((spec_l2Bit.f x1 x11).bind fun t235 => ((spec_l2Half.f ((rd_T86 x0 x10).f0) ((rd_T86 x0 x10).f1) ((rd_T86 x0 x10).f2) ((rd_T86 x0 x10).f3) t235).bind fun t236 => (if t236 = 0 then (some (x8, x9, x7)) else (spec_LookUp.l0 k x0 x1 x7 x8 x9 t236 (wrap64 (x11 + 1)))))) else (none)) else (none))
end
def spec_LookUp.f (k : Nat) (l0 : List (S86)) (a1 : Int) : Option (Int × Int × Bool) := (spec_GoodTrie.f k l0).bind fun t230 => (if t230 = true then ((spec_l1Addr.f a1).bind fun t231 => (spec_LookUp.j0 k l0 a1 (!t231))) else (spec_LookUp.j0 k l0 a1 true))
def spec_LookUp.T14 : Bool × List (List Nat × List Nat) := (true, [([], []), ([], []), ([0, 1], [0, 1]), ([2], [2]), ([], []), ([], []), ([4, 5], [4, 5]), ([3, 6, 6], [3, 6]), ([7, 7, 0, 1, 2, 3, 4, 5, 6, 7], [1, 7])])
def spec_LookUp.B14 : List Nat := [0, 0, 3, 7, 0, 0, 48, 127, 255]
theorem spec_LookUp.tab14 : rtab .any (opsOf Try.f26 14) = spec_LookUp.T14 := by kernel_rfl
theorem spec_LookUp.bits14 : waitsOk spec_LookUp.T14.2 spec_LookUp.B14 = true := by kernel_rfl
theorem spec_LookUp.calls (k : Nat) (A0 : Option Addr) (c0 : Nat) (l0 : List (S86)) (a1 : Int) (r1 : Int) (r2 : Int) (r3 : Bool) (w : World) (hr0 : Kd.C k86 w A0 l0.length l0) (hc0 : l0.length ≤ c0) (h : spec_LookUp.f k l0 a1 = some (r1, r2, r3)) :
  Calls Try.prog 26 #[.slice A0 l0.length c0, .int .i64 a1] w fun e w' => e = .returned (.tuple #[.int .i64 r1, .int .i64 r2, .bool r3]) ∧ Below w.heap.size w w' := by
 have hu86 := Try.underlying86
 have HR0 := kk hr0
 have HC0 := kk hc0
 clear hr0 hc0
 have HB := kk (Below.refl w.heap.size w)
 have H : ((spec_GoodTrie.f k l0).bind fun t230 => (if t230 = true then ((spec_l1Addr.f a1).bind fun t231 => (spec_LookUp.j0 k l0 a1 (!t231))) else (spec_LookUp.j0 k l0 a1 true))) = some (r1, r2, r3) := h
 clear h
 have HC3 := kk H
 clear H
 go_enter Try.func26, Try.ntmps26
 go_upto_region 1 with (fail)
 go_cut [19] (fun v19 wc => ∃ (kq : Nat) (x19_2 : Bool), v19 = .bool x19_2 ∧ zo (spec_LookUp.j0 kq l0 a1 x19_2 = some (r1, r2, r3)) ∧ zo (kq ≤ k) ∧ zo (Below w.heap.size w wc))
 case first =>
  have H := HC3.1
  clear HC3
  replace H := kg.mp H
  obtain ⟨t230, A40, H⟩ := H
  replace H : (if t230 = true then ((spec_l1Addr.f a1).bind fun t231 => (spec_LookUp.j0 k l0 a1 (!t231))) else (spec_LookUp.j0 k l0 a1 true)) = some (r1, r2, r3) := H
  have A4 := kk A40
  clear A40
  by_cases c5 : t230 = true
  ·
   subst c5
   have H1 : ((spec_l1Addr.f a1).bind fun t231 => (spec_LookUp.j0 k l0 a1 (!t231))) = some (r1, r2, r3) := by rw [if_pos rfl] at H; exact H
   clear H
   have H := H1
   clear H1
   replace H := kg.mp H
   obtain ⟨t231, A60, H⟩ := H
   replace H : (spec_LookUp.j0 k l0 a1 (!t231)) = some (r1, r2, r3) := H
   have A6 := kk A60
   clear A60
   have H' := kk H
   clear H
   go_wp2_with (first | ((with_reducible refine gate_callee (f := 19) rfl ?_); refine goesL_ (some 13) rfl rfl Try.func19 (by kernel_rfl) rfl #[.slice A0 l0.length c0] rfl (by (try simp only [kh, ke, kb]); rfl) ?_; (with_reducible refine (spec_GoodTrie.calls k _ _ l0 true _ ?side1 ?side2 A4.1).mono ?_); (case side1 => repeat (exact (Kd.C_below HR0.1 HB.1))); (case side2 => exact HC0.1); rintro e w7 ⟨rfl, hb⟩; refine ⟨_, rfl, ?_⟩; replace HB := kk (zf HB.1 hb)) | (go_at_call 63; (with_reducible refine (spec_l1Addr.calls a1 t231 _ A6.1).mono ?_); rintro e w' ⟨rfl, ⟨nd, rfl⟩⟩))
   go_meet
   case rel => exact ⟨_, (!t231), (by rfl), H', ⟨by omega⟩, ⟨by repeat ((with_reducible first | exact HB.1 | apply za))⟩⟩
  ·
   replace c5 := Bool.eq_false_iff.mpr c5
   subst c5
   have H1 : (spec_LookUp.j0 k l0 a1 true) = some (r1, r2, r3) := by rw [if_neg (show ¬ (false = true) by decide)] at H; exact H
   clear H
   have H := H1
   clear H1
   have H' := kk H
   clear H
   go_wp2_with (((with_reducible refine gate_callee (f := 19) rfl ?_); refine goesL_ (some 13) rfl rfl Try.func19 (by kernel_rfl) rfl #[.slice A0 l0.length c0] rfl (by (try simp only [kh, ke, kb]); rfl) ?_; (with_reducible refine (spec_GoodTrie.calls k _ _ l0 false _ ?side1 ?side2 A4.1).mono ?_); (case side1 => repeat (exact (Kd.C_below HR0.1 HB.1))); (case side2 => exact HC0.1); rintro e w8 ⟨rfl, hb⟩; refine ⟨_, rfl, ?_⟩; replace HB := kk (zf HB.1 hb)))
   go_meet
   case rel => exact ⟨_, (true), (by rfl), H', ⟨by omega⟩, ⟨by exact HB.1⟩⟩
 case rest =>
  clear HC3
  obtain ⟨kq, x19_2, rfl, HA, HJ2, HB⟩ := hcut
  cases kq with
  | zero => exact absurd HA.1 (by simp [spec_LookUp.j0])
  | succ kj2 =>
   have H := HA.1
   clear HA
   simp only [spec_LookUp.j0] at H
   by_cases c9 : x19_2 = true
   ·
    subst c9
    have H1 : (some (0, 0, false)) = some (r1, r2, r3) := by rw [if_pos rfl] at H; exact H
    clear H
    have H := H1
    clear H1
    simp only [Option.some.injEq, Prod.mk.injEq] at H
    obtain ⟨rfl, rfl, rfl⟩ := H
    go_wp2
    go_ret3
    exact ⟨by rfl, by exact HB.1⟩
   ·
    replace c9 := Bool.eq_false_iff.mpr c9
    subst c9
    have H1 : (spec_LookUp.l0 kj2 l0 a1 false 0 0 0 0) = some (r1, r2, r3) := by rw [if_neg (show ¬ (false = true) by decide)] at H; exact H
    clear H
    have H := H1
    clear H1
    have H' := kk H
    clear H
    go_wp2
    go_loopg [7, 8, 9, 10, 11] kj2 (fun kq v7 v8 v9 v10 v11 w' => ∃ (x7_2 : Bool) (x8_2 : Int) (x9_2 : Int) (zp : Int) (zq : Int), v7 = .bool x7_2 ∧ v8 = .int .i64 x8_2 ∧ v9 = .int .i64 x9_2 ∧ v10 = .int .i64 zp ∧ v11 = .int .i64 zq ∧ zo (spec_LookUp.l0 kq l0 a1 x7_2 x8_2 x9_2 zp zq = some (r1, r2, r3)) ∧ zo (kq ≤ kj2) ∧ zo (Below w.heap.size w w'))
    case atStart => exact ⟨(false), (0), (0), (0), (0), (by rfl), (by rfl), (by rfl), (by rfl), (by rfl), H', ⟨Nat.le_refl _⟩, ⟨by exact HB.1⟩⟩
    case round =>
     clear H'
     obtain ⟨x7_2, x8_2, x9_2, zp, zq, rfl, rfl, rfl, rfl, rfl, HA, HK2, HB⟩ := hrel
     cases gk with
     | zero => exact absurd HA.1 (by simp [spec_LookUp.l0])
     | succ k2 =>
      have H := HA.1
      clear HA
      simp only [spec_LookUp.l0] at H
      by_cases c10 : 0 ≤ zp
      ·
       rw [if_pos c10] at H
       have c10b0 : decide (0 ≤ zp) = true := decide_eq_true c10
       clear c10
       by_cases c11 : zp < (l0.length : Int)
       ·
        rw [if_pos c11] at H
        have c11b0 : decide (zp < (l0.length : Int)) = true := decide_eq_true c11
        clear c11
        have HC12 := kk H
        clear H
        have p232 : 0 ≤ (zp : Int) := of_decide_eq_true (by (with_reducible assumption))
        have q232 : zp < (l0.length : Int) := of_decide_eq_true (by (with_reducible assumption))
        obtain ⟨ad232, e232, hx232_0, hx232_1, hx232_2, hx232_3⟩ := at_T86 HR0.1 zp p232 q232
        cases e232
        try replace hx232_0 := (HB.1.cell (World.block_lt_of_cell? w _ hx232_0)).trans hx232_0
        try replace hx232_1 := (HB.1.cell (World.block_lt_of_cell? w _ hx232_1)).trans hx232_1
        try replace hx232_2 := (HB.1.cell (World.block_lt_of_cell? w _ hx232_2)).trans hx232_2
        try replace hx232_3 := (HB.1.cell (World.block_lt_of_cell? w _ hx232_3)).trans hx232_3
        replace p232 := eq_true p232
        replace q232 := eq_true q232
        go_upto_if 26 with (fail)
        go_cut [7, 8, 9] (fun v7 v8 v9 wc => ∃ (kq : Nat) (zt : Bool) (zu : Int) (zv : Int), v7 = .bool zt ∧ v8 = .int .i64 zu ∧ v9 = .int .i64 zv ∧ zo (spec_LookUp.j2 kq l0 a1 zt zu zv zp zq = some (r1, r2, r3)) ∧ zo (kq ≤ k2) ∧ zo (Below w.heap.size w wc))
        case first =>
         have H := HC12.1
         clear HC12
         obtain ⟨bq13, hbq13⟩ : ∃ b_ : Bool, b_ = ((rd_T86 l0 zp).f2) := ⟨_, rfl⟩
         replace H : (if bq13 = true then (spec_LookUp.j2 k2 l0 a1 true ((rd_T86 l0 zp).f3) zq zp zq) else (spec_LookUp.j2 k2 l0 a1 x7_2 x8_2 x9_2 zp zq)) = some (r1, r2, r3) := by rw [← hbq13] at H; exact H
         have Nbq13 := kk hbq13
         clear hbq13
         (try rw [← Nbq13.1])
         by_cases c14 : bq13 = true
         ·
          subst c14
          have H1 : (spec_LookUp.j2 k2 l0 a1 true ((rd_T86 l0 zp).f3) zq zp zq) = some (r1, r2, r3) := by rw [if_pos rfl] at H; exact H
          clear H
          have H := H1
          clear H1
          have H' := kk H
          clear H
          have p233 : 0 ≤ (zp : Int) := of_decide_eq_true (by (with_reducible assumption))
          have q233 : zp < (l0.length : Int) := of_decide_eq_true (by (with_reducible assumption))
          obtain ⟨ad233, e233, hx233_0, hx233_1, hx233_2, hx233_3⟩ := at_T86 HR0.1 zp p233 q233
          (try rw [← Nbq13.1] at hx233_2)
          obtain rfl : ad232 = ad233 := (by injection e233)
          try replace hx233_0 := (HB.1.cell (World.block_lt_of_cell? w _ hx233_0)).trans hx233_0
          try replace hx233_1 := (HB.1.cell (World.block_lt_of_cell? w _ hx233_1)).trans hx233_1
          try replace hx233_2 := (HB.1.cell (World.block_lt_of_cell? w _ hx233_2)).trans hx233_2
          try replace hx233_3 := (HB.1.cell (World.block_lt_of_cell? w _ hx233_3)).trans hx233_3
          replace p233 := eq_true p233
          replace q233 := eq_true q233
          go_wp2
          go_meet
          case rel => (try rw [← Nbq13.1]); exact ⟨_, (true), ((rd_T86 l0 zp).f3), (zq), (by rfl), (by rfl), (by rfl), H', ⟨by have := HJ2.1; have := HK2.1; omega⟩, ⟨by exact HB.1⟩⟩
         ·
          replace c14 := Bool.eq_false_iff.mpr c14
          subst c14
          have H1 : (spec_LookUp.j2 k2 l0 a1 x7_2 x8_2 x9_2 zp zq) = some (r1, r2, r3) := by rw [if_neg (show ¬ (false = true) by decide)] at H; exact H
          clear H
          have H := H1
          clear H1
          have H' := kk H
          clear H
          go_wp2
          go_meet
          case rel => (try rw [← Nbq13.1]); exact ⟨_, (x7_2), (x8_2), (x9_2), (by rfl), (by rfl), (by rfl), H', ⟨by have := HJ2.1; have := HK2.1; omega⟩, ⟨by exact HB.1⟩⟩
        case rest =>
         clear HC12
         obtain ⟨kq, zt, zu, zv, rfl, rfl, rfl, HA, HJ11, HB⟩ := hcut
         cases kq with
         | zero => exact absurd HA.1 (by simp [spec_LookUp.j2])
         | succ kj11 =>
          have H := HA.1
          clear HA
          simp only [spec_LookUp.j2] at H
          by_cases c15 : zq = 32
          ·
           rw [if_pos c15] at H
           have c15b0 : (zq == 32) = true := beq_iff_eq.mpr c15
           have c15b1 : (zq != 32) = false := bne_eq_false_iff_eq.mpr c15
           clear c15
           simp only [Option.some.injEq, Prod.mk.injEq] at H
           obtain ⟨rfl, rfl, rfl⟩ := H
           go_wp2
           go_ret3
           exact ⟨by rfl, by exact HB.1⟩
          ·
           rw [if_neg c15] at H
           have c15b0 : (zq == 32) = false := beq_eq_false_iff_ne.mpr c15
           have c15b1 : (zq != 32) = true := bne_iff_ne.mpr c15
           by_cases c16 : 0 ≤ zp
           ·
            rw [if_pos c16] at H
            have c16b0 : decide (0 ≤ zp) = true := decide_eq_true c16
            clear c16
            by_cases c17 : zp < (l0.length : Int)
            ·
             rw [if_pos c17] at H
             have c17b0 : decide (zp < (l0.length : Int)) = true := decide_eq_true c17
             clear c17
             replace H := kg.mp H
             obtain ⟨t235, A180, H⟩ := H
             replace H : ((spec_l2Half.f ((rd_T86 l0 zp).f0) ((rd_T86 l0 zp).f1) ((rd_T86 l0 zp).f2) ((rd_T86 l0 zp).f3) t235).bind fun t236 => (if t236 = 0 then (some (zu, zv, zt)) else (spec_LookUp.l0 kj11 l0 a1 zt zu zv t236 (wrap64 (zq + 1))))) = some (r1, r2, r3) := H
             have A18 := kk A180
             clear A180
             replace H := kg.mp H
             obtain ⟨t236, A190, H⟩ := H
             replace H : (if t236 = 0 then (some (zu, zv, zt)) else (spec_LookUp.l0 kj11 l0 a1 zt zu zv t236 (wrap64 (zq + 1)))) = some (r1, r2, r3) := H
             have A19 := kk A190
             clear A190
             by_cases c20 : t236 = 0
             ·
              rw [if_pos c20] at H
              have c20b0 : (t236 == 0) = true := beq_iff_eq.mpr c20
              have c20b1 : (t236 != 0) = false := bne_eq_false_iff_eq.mpr c20
              clear c20
              simp only [Option.some.injEq, Prod.mk.injEq] at H
              obtain ⟨rfl, rfl, rfl⟩ := H
              try go_wp2
              replace HB := kk (zb HB.1)
              have p234 : 0 ≤ (zp : Int) := of_decide_eq_true (by (with_reducible assumption))
              have q234 : zp < (l0.length : Int) := of_decide_eq_true (by (with_reducible assumption))
              obtain ⟨ad234, e234, hx234_0, hx234_1, hx234_2, hx234_3⟩ := at_T86 HR0.1 zp p234 q234
              have hw234_3 := hx234_3
              have hw234_2 := hx234_2
              have hw234_1 := hx234_1
              have hw234_0 := hx234_0
              obtain rfl : ad232 = ad234 := (by injection e234)
              try replace hx234_0 := (HB.1.cell (World.block_lt_of_cell? w _ hx234_0)).trans hx234_0
              try replace hx234_1 := (HB.1.cell (World.block_lt_of_cell? w _ hx234_1)).trans hx234_1
              try replace hx234_2 := (HB.1.cell (World.block_lt_of_cell? w _ hx234_2)).trans hx234_2
              try replace hx234_3 := (HB.1.cell (World.block_lt_of_cell? w _ hx234_3)).trans hx234_3
              replace p234 := eq_true p234
              replace q234 := eq_true q234
              refine start_ (n := 9) (S := fun w' => w'.cell? (ad232.add ((zp).toNat * 4)) = some (.int .i64 ((rd_T86 l0 zp).f0)) ∧ w'.cell? ⟨(ad232.add ((zp).toNat * 4)).block, (ad232.add ((zp).toNat * 4)).off + 1, none⟩ = some (.int .i64 ((rd_T86 l0 zp).f1)) ∧ w'.cell? ⟨(ad232.add ((zp).toNat * 4)).block, (ad232.add ((zp).toNat * 4)).off + 2, none⟩ = some (.bool ((rd_T86 l0 zp).f2)) ∧ w'.cell? ⟨(ad232.add ((zp).toNat * 4)).block, (ad232.add ((zp).toNat * 4)).off + 3, none⟩ = some (.int .i64 ((rd_T86 l0 zp).f3))) (ds := []) #[ko,ko,ko,ko,ko,ko,ko,ko,ko] (by kernel_rfl) rfl rfl ⟨((HB.1.cell (World.block_lt_of_cell? w _ hw234_0)).trans hw234_0), ((HB.1.cell (World.block_lt_of_cell? w _ hw234_1)).trans hw234_1), ((HB.1.cell (World.block_lt_of_cell? w _ hw234_2)).trans hw234_2), ((HB.1.cell (World.block_lt_of_cell? w _ hw234_3)).trans hw234_3)⟩ (fun hHeld => ?_); refine with_tabW spec_LookUp.tab14 spec_LookUp.bits14 (fun HT_ HW_ => ?_)
              generalize wc.drew = w21 at HB hx234_0 hx234_1 hx234_2 hx234_3 hHeld ⊢
              refine zn (i := 0) (N := some 35) (v := ?_) (a' := ?_) #[kc,ko,ko,ko,ko,ko,ko,ko,ko] rfl rfl (zj HT_.1 (by kernel_rfl)) (fun _ _ _ h => h) (kd ⟨by rfl, ?_⟩) ?_ ?_
              rotate_left
              ·
               intro w'
               go_simp
               with_reducible rfl
              rotate_left
              ·
               simp only [kv, kz, ky, kj, zh, zi]
               rfl
              refine zn (i := 1) (N := some 36) (v := ?_) (a' := ?_) #[kc,kc,ko,ko,ko,ko,ko,ko,ko] rfl rfl (zj HT_.1 (by kernel_rfl)) (fun _ _ _ h => h) (kd ⟨by rfl, ?_⟩) ?_ ?_
              rotate_left
              ·
               intro w'
               go_simp
               with_reducible rfl
              rotate_left
              ·
               simp only [kv, kz, ky, kj, zh, zi]
               rfl
              refine zn (i := 2) (N := some 37) (v := ?_) (a' := ?_) #[kc,kc,kc,ko,ko,ko,ko,ko,ko] rfl rfl (zj HT_.1 (by kernel_rfl)) (fun _ _ _ h => h) (kd ⟨by rfl, ?_⟩) ?_ ?_
              rotate_left
              ·
               intro w'
               go_simp
               with_reducible rfl
              rotate_left
              ·
               simp only [kv, kz, ky, kj, zh, zi]
               rfl
              refine zn (i := 4) (N := some 39) (v := ?_) (a' := ?_) #[kc,kc,kc,ko,kc,ko,ko,ko,ko] rfl rfl (zj HT_.1 (by kernel_rfl)) (fun _ _ _ h => h) (kd ⟨by rfl, ?_⟩) ?_ ?_
              rotate_left
              ·
               intro w'
               go_simp
               with_reducible rfl
              rotate_left
              ·
               simp only [kv, kz, ky, kj, zh, zi]
               rfl
              refine zn (i := 5) (N := some 40) (v := ?_) (a' := ?_) #[kc,kc,kc,ko,kc,kc,ko,ko,ko] rfl rfl (zj HT_.1 (by kernel_rfl)) (fun _ _ _ h => h) (kd ⟨by rfl, ?_⟩) ?_ ?_
              rotate_left
              ·
               intro w'
               go_simp
               with_reducible rfl
              rotate_left
              ·
               simp only [kv, kz, ky, kj, zh, zi]
               rfl
              refine take_ (i := 3) (N := some 38) (v := ?_) (a' := ?_) #[kc,kc,kc,kc,kc,kc,ko,ko,ko] rfl rfl (take_ofW HT_.1 HW_.1 (by kernel_rfl)) (fun _ _ _ h => h) (kd ⟨by rfl, ?_⟩) hHeld ?_ ?_
              rotate_left
              ·
               rintro w' ⟨s0, s1, s2, s3⟩
               go_simp
               with_reducible rfl
              rotate_left
              ·
               simp only [kv, kz, ky, kj, zh, zi]
               rfl
              refine one_ (i := 6) (N := some 41) #[kc,kc,kc,kc,kc,kc,kc,ko,ko] rfl rfl (one_of HT_.1 (by kernel_rfl)) (by decide) (fun K hK => ?_)
              refine goes_ Try.func69 (by kernel_rfl) rfl #[.int .i64 a1, .int .i64 zq] (by rfl) rfl rfl (by (try simp only [kh, ke, kb]); rfl) ?_
              with_reducible refine (spec_l2Bit.calls a1 zq t235 _ A18.1).mono ?_
              rintro e w' ⟨rfl, ⟨nd, rfl⟩⟩
              refine ⟨_, rfl, ?_⟩
              refine hK.out _ _ ⟨((HB.1.cell (World.block_lt_of_cell? w _ hw234_0)).trans hw234_0), ((HB.1.cell (World.block_lt_of_cell? w _ hw234_1)).trans hw234_1), ((HB.1.cell (World.block_lt_of_cell? w _ hw234_2)).trans hw234_2), ((HB.1.cell (World.block_lt_of_cell? w _ hw234_3)).trans hw234_3)⟩ (fun hHeld => ?_)
              clear hK K
              refine norm_ (a' := ?_) ?_ ?_
              rotate_left
              ·
               show kv _ (some 41) _ = _
               simp only [kv, kz, ky, kj, zh, zi]
               rfl
              refine one_ (i := 7) (N := some 42) #[kc,kc,kc,kc,kc,kc,kc,kc,ko] rfl rfl (one_of HT_.1 (by kernel_rfl)) (by decide) (fun K hK => ?_)
              refine goes_ Try.func68 (by kernel_rfl) rfl #[.agg #[.int .i64 ((rd_T86 l0 zp).f0), .int .i64 ((rd_T86 l0 zp).f1), .bool ((rd_T86 l0 zp).f2), .int .i64 ((rd_T86 l0 zp).f3)], .int .i64 t235] (by rfl) rfl rfl (by (try simp only [kh, ke, kb]); rfl) ?_
              with_reducible refine (spec_l2Half.calls ((rd_T86 l0 zp).f0) ((rd_T86 l0 zp).f1) ((rd_T86 l0 zp).f2) ((rd_T86 l0 zp).f3) t235 t236 _ A19.1).mono ?_
              rintro e w22 ⟨rfl, hb⟩
              refine ⟨_, rfl, ?_⟩
              replace HB := kk (zf (by repeat ((with_reducible first | exact HB.1 | apply za))) hb)
              refine hK.out _ _ ⟨((HB.1.cell (World.block_lt_of_cell? w _ hw234_0)).trans hw234_0), ((HB.1.cell (World.block_lt_of_cell? w _ hw234_1)).trans hw234_1), ((HB.1.cell (World.block_lt_of_cell? w _ hw234_2)).trans hw234_2), ((HB.1.cell (World.block_lt_of_cell? w _ hw234_3)).trans hw234_3)⟩ (fun hHeld => ?_)
              clear hK K
              refine norm_ (a' := ?_) ?_ ?_
              rotate_left
              ·
               show kv _ (some 42) _ = _
               simp only [kv, kz, ky, kj, zh, zi]
               rfl
              refine zn (i := 8) (N := some 10) (v := ?_) (a' := ?_) #[kc,kc,kc,kc,kc,kc,kc,kc,kc] rfl rfl (zj HT_.1 (by kernel_rfl)) (fun _ _ _ h => h) (kd ⟨by rfl, ?_⟩) ?_ ?_
              rotate_left
              ·
               intro w'
               go_simp
               with_reducible rfl
              rotate_left
              ·
               simp only [kv, kz, ky, kj, zh, zi]
               rfl
              refine done_ (done_of HT_.1 (by kernel_rfl)) ?_
              try go_wp2
              go_ret3
              exact ⟨by rfl, by exact HB.1⟩
             ·
              rw [if_neg c20] at H
              have c20b0 : (t236 == 0) = false := beq_eq_false_iff_ne.mpr c20
              have c20b1 : (t236 != 0) = true := bne_iff_ne.mpr c20
              have H' := kk H
              clear H
              try go_wp2
              replace HB := kk (zb HB.1)
              have p234 : 0 ≤ (zp : Int) := of_decide_eq_true (by (with_reducible assumption))
              have q234 : zp < (l0.length : Int) := of_decide_eq_true (by (with_reducible assumption))
              obtain ⟨ad234, e234, hx234_0, hx234_1, hx234_2, hx234_3⟩ := at_T86 HR0.1 zp p234 q234
              have hw234_3 := hx234_3
              have hw234_2 := hx234_2
              have hw234_1 := hx234_1
              have hw234_0 := hx234_0
              obtain rfl : ad232 = ad234 := (by injection e234)
              try replace hx234_0 := (HB.1.cell (World.block_lt_of_cell? w _ hx234_0)).trans hx234_0
              try replace hx234_1 := (HB.1.cell (World.block_lt_of_cell? w _ hx234_1)).trans hx234_1
              try replace hx234_2 := (HB.1.cell (World.block_lt_of_cell? w _ hx234_2)).trans hx234_2
              try replace hx234_3 := (HB.1.cell (World.block_lt_of_cell? w _ hx234_3)).trans hx234_3
              replace p234 := eq_true p234
              replace q234 := eq_true q234
              refine start_ (n := 9) (S := fun w' => w'.cell? (ad232.add ((zp).toNat * 4)) = some (.int .i64 ((rd_T86 l0 zp).f0)) ∧ w'.cell? ⟨(ad232.add ((zp).toNat * 4)).block, (ad232.add ((zp).toNat * 4)).off + 1, none⟩ = some (.int .i64 ((rd_T86 l0 zp).f1)) ∧ w'.cell? ⟨(ad232.add ((zp).toNat * 4)).block, (ad232.add ((zp).toNat * 4)).off + 2, none⟩ = some (.bool ((rd_T86 l0 zp).f2)) ∧ w'.cell? ⟨(ad232.add ((zp).toNat * 4)).block, (ad232.add ((zp).toNat * 4)).off + 3, none⟩ = some (.int .i64 ((rd_T86 l0 zp).f3))) (ds := []) #[ko,ko,ko,ko,ko,ko,ko,ko,ko] (by kernel_rfl) rfl rfl ⟨((HB.1.cell (World.block_lt_of_cell? w _ hw234_0)).trans hw234_0), ((HB.1.cell (World.block_lt_of_cell? w _ hw234_1)).trans hw234_1), ((HB.1.cell (World.block_lt_of_cell? w _ hw234_2)).trans hw234_2), ((HB.1.cell (World.block_lt_of_cell? w _ hw234_3)).trans hw234_3)⟩ (fun hHeld => ?_); refine with_tabW spec_LookUp.tab14 spec_LookUp.bits14 (fun HT_ HW_ => ?_)
              generalize wc.drew = w23 at HB hx234_0 hx234_1 hx234_2 hx234_3 hHeld ⊢
              refine zn (i := 0) (N := some 35) (v := ?_) (a' := ?_) #[kc,ko,ko,ko,ko,ko,ko,ko,ko] rfl rfl (zj HT_.1 (by kernel_rfl)) (fun _ _ _ h => h) (kd ⟨by rfl, ?_⟩) ?_ ?_
              rotate_left
              ·
               intro w'
               go_simp
               with_reducible rfl
              rotate_left
              ·
               simp only [kv, kz, ky, kj, zh, zi]
               rfl
              refine zn (i := 1) (N := some 36) (v := ?_) (a' := ?_) #[kc,kc,ko,ko,ko,ko,ko,ko,ko] rfl rfl (zj HT_.1 (by kernel_rfl)) (fun _ _ _ h => h) (kd ⟨by rfl, ?_⟩) ?_ ?_
              rotate_left
              ·
               intro w'
               go_simp
               with_reducible rfl
              rotate_left
              ·
               simp only [kv, kz, ky, kj, zh, zi]
               rfl
              refine zn (i := 2) (N := some 37) (v := ?_) (a' := ?_) #[kc,kc,kc,ko,ko,ko,ko,ko,ko] rfl rfl (zj HT_.1 (by kernel_rfl)) (fun _ _ _ h => h) (kd ⟨by rfl, ?_⟩) ?_ ?_
              rotate_left
              ·
               intro w'
               go_simp
               with_reducible rfl
              rotate_left
              ·
               simp only [kv, kz, ky, kj, zh, zi]
               rfl
              refine zn (i := 4) (N := some 39) (v := ?_) (a' := ?_) #[kc,kc,kc,ko,kc,ko,ko,ko,ko] rfl rfl (zj HT_.1 (by kernel_rfl)) (fun _ _ _ h => h) (kd ⟨by rfl, ?_⟩) ?_ ?_
              rotate_left
              ·
               intro w'
               go_simp
               with_reducible rfl
              rotate_left
              ·
               simp only [kv, kz, ky, kj, zh, zi]
               rfl
              refine zn (i := 5) (N := some 40) (v := ?_) (a' := ?_) #[kc,kc,kc,ko,kc,kc,ko,ko,ko] rfl rfl (zj HT_.1 (by kernel_rfl)) (fun _ _ _ h => h) (kd ⟨by rfl, ?_⟩) ?_ ?_
              rotate_left
              ·
               intro w'
               go_simp
               with_reducible rfl
              rotate_left
              ·
               simp only [kv, kz, ky, kj, zh, zi]
               rfl
              refine take_ (i := 3) (N := some 38) (v := ?_) (a' := ?_) #[kc,kc,kc,kc,kc,kc,ko,ko,ko] rfl rfl (take_ofW HT_.1 HW_.1 (by kernel_rfl)) (fun _ _ _ h => h) (kd ⟨by rfl, ?_⟩) hHeld ?_ ?_
              rotate_left
              ·
               rintro w' ⟨s0, s1, s2, s3⟩
               go_simp
               with_reducible rfl
              rotate_left
              ·
               simp only [kv, kz, ky, kj, zh, zi]
               rfl
              refine one_ (i := 6) (N := some 41) #[kc,kc,kc,kc,kc,kc,kc,ko,ko] rfl rfl (one_of HT_.1 (by kernel_rfl)) (by decide) (fun K hK => ?_)
              refine goes_ Try.func69 (by kernel_rfl) rfl #[.int .i64 a1, .int .i64 zq] (by rfl) rfl rfl (by (try simp only [kh, ke, kb]); rfl) ?_
              with_reducible refine (spec_l2Bit.calls a1 zq t235 _ A18.1).mono ?_
              rintro e w' ⟨rfl, ⟨nd, rfl⟩⟩
              refine ⟨_, rfl, ?_⟩
              refine hK.out _ _ ⟨((HB.1.cell (World.block_lt_of_cell? w _ hw234_0)).trans hw234_0), ((HB.1.cell (World.block_lt_of_cell? w _ hw234_1)).trans hw234_1), ((HB.1.cell (World.block_lt_of_cell? w _ hw234_2)).trans hw234_2), ((HB.1.cell (World.block_lt_of_cell? w _ hw234_3)).trans hw234_3)⟩ (fun hHeld => ?_)
              clear hK K
              refine norm_ (a' := ?_) ?_ ?_
              rotate_left
              ·
               show kv _ (some 41) _ = _
               simp only [kv, kz, ky, kj, zh, zi]
               rfl
              refine one_ (i := 7) (N := some 42) #[kc,kc,kc,kc,kc,kc,kc,kc,ko] rfl rfl (one_of HT_.1 (by kernel_rfl)) (by decide) (fun K hK => ?_)
              refine goes_ Try.func68 (by kernel_rfl) rfl #[.agg #[.int .i64 ((rd_T86 l0 zp).f0), .int .i64 ((rd_T86 l0 zp).f1), .bool ((rd_T86 l0 zp).f2), .int .i64 ((rd_T86 l0 zp).f3)], .int .i64 t235] (by rfl) rfl rfl (by (try simp only [kh, ke, kb]); rfl) ?_
              with_reducible refine (spec_l2Half.calls ((rd_T86 l0 zp).f0) ((rd_T86 l0 zp).f1) ((rd_T86 l0 zp).f2) ((rd_T86 l0 zp).f3) t235 t236 _ A19.1).mono ?_
              rintro e w24 ⟨rfl, hb⟩
              refine ⟨_, rfl, ?_⟩
              replace HB := kk (zf (by repeat ((with_reducible first | exact HB.1 | apply za))) hb)
              refine hK.out _ _ ⟨((HB.1.cell (World.block_lt_of_cell? w _ hw234_0)).trans hw234_0), ((HB.1.cell (World.block_lt_of_cell? w _ hw234_1)).trans hw234_1), ((HB.1.cell (World.block_lt_of_cell? w _ hw234_2)).trans hw234_2), ((HB.1.cell (World.block_lt_of_cell? w _ hw234_3)).trans hw234_3)⟩ (fun hHeld => ?_)
              clear hK K
              refine norm_ (a' := ?_) ?_ ?_
              rotate_left
              ·
               show kv _ (some 42) _ = _
               simp only [kv, kz, ky, kj, zh, zi]
               rfl
              refine zn (i := 8) (N := some 10) (v := ?_) (a' := ?_) #[kc,kc,kc,kc,kc,kc,kc,kc,kc] rfl rfl (zj HT_.1 (by kernel_rfl)) (fun _ _ _ h => h) (kd ⟨by rfl, ?_⟩) ?_ ?_
              rotate_left
              ·
               intro w'
               go_simp
               with_reducible rfl
              rotate_left
              ·
               simp only [kv, kz, ky, kj, zh, zi]
               rfl
              refine done_ (done_of HT_.1 (by kernel_rfl)) ?_
              try go_wp2
              go_roundg kj11
              case measure => have := HJ2.1; have := HK2.1; have := HJ11.1; omega
              case rel => exact ⟨(zt), (zu), (zv), (t236), (wrap64 (zq + 1)), (by rfl), (by rfl), (by rfl), (by rfl), (by rfl), H', ⟨by have := HJ2.1; have := HK2.1; have := HJ11.1; omega⟩, ⟨by exact HB.1⟩⟩
            ·
             rw [if_neg c17] at H
             exact absurd H (by simp)
           ·
            rw [if_neg c16] at H
            exact absurd H (by simp)
       ·
        rw [if_neg c11] at H
        exact absurd H (by simp)
      ·
       rw [if_neg c10] at H
       exact absurd H (by simp)
/-! ### impl_TrieNode_half: function 70 -/
def impl_TrieNode_half.f (a0_0 : Int) (a0_1 : Int) (a0_2 : Bool) (a0_3 : Int) (a1 : Int) : Option (Int) := if a1 = 0 then (some a0_0) else (some a0_1)
theorem impl_TrieNode_half.calls (a0_0 : Int) (a0_1 : Int) (a0_2 : Bool) (a0_3 : Int) (a1 : Int) (r : Int) (w : World) (h : impl_TrieNode_half.f a0_0 a0_1 a0_2 a0_3 a1 = some r) :
  Calls Try.prog 70 #[.agg #[.int .i64 a0_0, .int .i64 a0_1, .bool a0_2, .int .i64 a0_3], .int .i64 a1] w fun e w' => e = .returned (.int .i64 r) ∧ Below w.heap.size w w' := by
 have hu86 := Try.underlying86
 have HB := kk (Below.refl w.heap.size w)
 have H : (if a1 = 0 then (some a0_0) else (some a0_1)) = some r := h
 clear h
 by_cases c3 : a1 = 0
 ·
  rw [if_pos c3] at H
  have c3b0 : (a1 == 0) = true := beq_iff_eq.mpr c3
  have c3b1 : (a1 != 0) = false := bne_eq_false_iff_eq.mpr c3
  clear c3
  obtain rfl := kf H
  go_enter Try.func70, Try.ntmps70
  go_wp2_with (((with_reducible refine gate_dst (N := 2) rfl ?_); refine box_event rfl (N := 2) rfl (cs := #[.int .i64 a0_0, .int .i64 a0_1, .bool a0_2, .int .i64 a0_3]) (t := 86) ?hr ?_; (case hr => go_simp; done); intro gb237 hg w4 hbox hb; replace HB := kk (zf HB.1 hb); have zs := kk hbox; clear hb hbox hg; have hcz5_0 : w4.cell? ⟨gb237, 0, none⟩ = some (.int .i64 a0_0) := (ze zs.1 0).trans rfl; have hcz5_1 : w4.cell? ⟨gb237, 1, none⟩ = some (.int .i64 a0_1) := (ze zs.1 1).trans rfl; have hcz5_2 : w4.cell? ⟨gb237, 2, none⟩ = some (.bool a0_2) := (ze zs.1 2).trans rfl; have hcz5_3 : w4.cell? ⟨gb237, 3, none⟩ = some (.int .i64 a0_3) := (ze zs.1 3).trans rfl; have hfz5_0 := zd zs.1 0; have hfz5_1 := zd zs.1 1; have hfz5_2 := zd zs.1 2; have hfz5_3 := zd zs.1 3))
  go_ret
  exact ⟨by rfl, by exact HB.1⟩
 ·
  rw [if_neg c3] at H
  have c3b0 : (a1 == 0) = false := beq_eq_false_iff_ne.mpr c3
  have c3b1 : (a1 != 0) = true := bne_iff_ne.mpr c3
  obtain rfl := kf H
  go_enter Try.func70, Try.ntmps70
  go_wp2_with (((with_reducible refine gate_dst (N := 2) rfl ?_); refine box_event rfl (N := 2) rfl (cs := #[.int .i64 a0_0, .int .i64 a0_1, .bool a0_2, .int .i64 a0_3]) (t := 86) ?hr ?_; (case hr => go_simp; done); intro gb237 hg w6 hbox hb; replace HB := kk (zf HB.1 hb); have zs := kk hbox; clear hb hbox hg; have hcz7_0 : w6.cell? ⟨gb237, 0, none⟩ = some (.int .i64 a0_0) := (ze zs.1 0).trans rfl; have hcz7_1 : w6.cell? ⟨gb237, 1, none⟩ = some (.int .i64 a0_1) := (ze zs.1 1).trans rfl; have hcz7_2 : w6.cell? ⟨gb237, 2, none⟩ = some (.bool a0_2) := (ze zs.1 2).trans rfl; have hcz7_3 : w6.cell? ⟨gb237, 3, none⟩ = some (.int .i64 a0_3) := (ze zs.1 3).trans rfl; have hfz7_0 := zd zs.1 0; have hfz7_1 := zd zs.1 1; have hfz7_2 := zd zs.1 2; have hfz7_3 := zd zs.1 3))
  go_ret
  exact ⟨by rfl, by exact HB.1⟩
/-! ### impl_bitOf: function 71 -/
def impl_bitOf.f (a0 : Int) (a1 : Int) : Option (Int) := if 0 ≤ (wrap64 (31 - a1)) then (some (Go.bits .and .i64 (shr .i64 a0 (wrap64 (31 - a1))) 1)) else (none)
theorem impl_bitOf.calls (a0 : Int) (a1 : Int) (r : Int) (w : World) (h : impl_bitOf.f a0 a1 = some r) :
  Calls Try.prog 71 #[.int .i64 a0, .int .i64 a1] w fun e w' => e = .returned (.int .i64 r) ∧ Drawn0 w w' := by
 have H : (if 0 ≤ (wrap64 (31 - a1)) then (some (Go.bits .and .i64 (shr .i64 a0 (wrap64 (31 - a1))) 1)) else (none)) = some r := h
 clear h
 obtain ⟨ji3, hji3⟩ : ∃ j_ : Int, (wrap64 (31 - a1)) = j_ := ⟨_, rfl⟩
 replace H : (if 0 ≤ (ji3) then (some (Go.bits .and .i64 (shr .i64 a0 (ji3)) 1)) else (none)) = some r := by (rw [hji3] at H; exact H)
 have hji3w : (IntKind.i64.wrap (31 - a1)) = ji3 := (zh _).trans hji3
 by_cases c4 : 0 ≤ (ji3)
 ·
  rw [if_pos c4] at H
  have c4b0 := eq_true c4
  have c4b1 : decide (0 ≤ (ji3)) = true := decide_eq_true c4
  clear c4
  obtain ⟨ji5, hji5⟩ : ∃ j_ : Int, (shr .i64 a0 (ji3)) = j_ := ⟨_, rfl⟩
  replace H : (some (Go.bits .and .i64 (ji5) 1)) = some r := by (rw [hji5] at H; exact H)
  have hji5_ : (a0 / 2 ^ min (ji3).toNat 64) = ji5 := hji5
  have hji5z : (ji3) ≤ 64 → (a0 / 2 ^ (ji3).toNat) = ji5 := shr_small hji5
  obtain rfl := kf H
  go_enter Try.func71, Try.ntmps71
  go_wp2
  go_ret
  exact ⟨by rfl, by repeat (exact Drawn0.refl _)⟩
 ·
  rw [if_neg c4] at H
  exact absurd H (by simp)
end Go.Proofs.Ytakoaogbkajkcaa.PFnLongest
