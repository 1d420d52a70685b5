/- Go functions told by Lean functions, printed by a program. No condition but what each statement says. -/
import Derived.Test.YtabejlfejlpkeaaYFnRangesx6
import Derived.Test.YtabejlfejlpkeaaYFnRangesx10
namespace Go.Proofs.Ytabejlfejlpkeaa.PFnRanges
open Go.RowKit Go.Proofs.YtabejlfejlpkeaaW.PrintWords Go.Proofs.YtabejlfejlpkeaaW.PrintLast Go.Proofs.YtabejlfejlpkeaaW.PrintMore
open List renaming setIfInBounds_toArray → kz, set_cons_zero → ky, set_cons_succ → kj, map_toArray → kh, map_cons → ke, map_nil → kb
open Aside0 renaming mk → kk
open Act renaming put → kv
open Or renaming inl → kg, inr → kc
open Option renaming bind_eq_some_iff → kf
open Option.some renaming inj → kd
open Int renaming tmod → ko
open Bool renaming eq_false_iff → kx, true → km, false → ku
set_option maxHeartbeats 8000000
set_option maxRecDepth 100000
open Go.Proofs.YtabejlfejlpkeaaW.PrintLast renaming i64_w → zd, i32_w → ze, any_of → zf, pure_ → zh, take_ofW → zo, one_of → zu, take_ → zw, norm_ → zx, goes_ → zy
open Go.Proofs.YtabejlfejlpkeaaW.PrintWords renaming pw_below_drewN → za, below_drew1 → zb, blk_cell → zg, below_size → zi, below_step → zj, below_set → zk, blk_drew → zl, blk_drewN → zm, box_event → zp, gate_dst → zs, Aside0 → zv
attribute [local go_sem] max2_int min2_int max_two min_two max_three min_three max_four min_four
set_option linter.unusedVariables false
set_option linter.unusedSimpArgs false
/-! ### impl_CountAddrs: function 25 -/
def impl_CountAddrs.l0 : Nat → Int → List (S74) → Int → Int → Option (Int × Bool)
 | 0, _, _, _, _ => none
 | k + 1, x4, x11, x12, x13 => if x13 < x12 then (if 0 ≤ x13 then (if x13 < (x11.length : Int) then (impl_CountAddrs.l0 k (wrap64 (x4 + (wrap64 ((wrap64 (((rd_T74 x11 x13).f1) - ((rd_T74 x11 x13).f0))) + 1)))) x11 x12 (wrap64 (x13 + 1))) else (none)) else (none)) else (some (x4, true))
def impl_CountAddrs.f (k : Nat) (l0 : List (S45)) : Option (Int × Bool) := (impl_arePrefixes.f k l0).bind fun t213 => (if t213 = true then ((impl_spansOf.f k l0).bind fun t214 => (impl_CountAddrs.l0 k 0 t214 (t214.length : Int) 0)) else (some (0, false)))
theorem impl_CountAddrs.calls (k : Nat) (A0 : Option Addr) (c0 : Nat) (l0 : List (S45)) (r1 : Int) (r2 : Bool) (w : World) (hr0 : Kd.C k45 w A0 l0.length l0) (hc0 : l0.length ≤ c0) (h : impl_CountAddrs.f k l0 = some (r1, r2)) :
  Calls Try.prog 25 #[.slice A0 l0.length c0] w fun e w' => e = .returned (.tuple #[.int .i64 r1, .bool r2]) ∧ Below w.heap.size w w' := by
 have hu74 := Try.underlying74
 have HR0 := kk hr0
 have HC0 := kk hc0
 clear hr0 hc0
 have HB := kk (Below.refl w.heap.size w)
 have H : ((impl_arePrefixes.f k l0).bind fun t213 => (if t213 = true then ((impl_spansOf.f k l0).bind fun t214 => (impl_CountAddrs.l0 k 0 t214 (t214.length : Int) 0)) else (some (0, false)))) = some (r1, r2) := h
 clear h
 replace H := kf.mp H
 obtain ⟨t213, A20, H⟩ := H
 replace H : (if t213 = true then ((impl_spansOf.f k l0).bind fun t214 => (impl_CountAddrs.l0 k 0 t214 (t214.length : Int) 0)) else (some (0, false))) = some (r1, r2) := H
 have A2 := kk A20
 clear A20
 by_cases c3 : t213 = true
 ·
  subst c3
  have H1 : ((impl_spansOf.f k l0).bind fun t214 => (impl_CountAddrs.l0 k 0 t214 (t214.length : Int) 0)) = some (r1, r2) := by rw [if_pos rfl] at H; exact H
  clear H
  have H := H1
  clear H1
  replace H := kf.mp H
  obtain ⟨t214, A40, H⟩ := H
  replace H : (impl_CountAddrs.l0 k 0 t214 (t214.length : Int) 0) = some (r1, r2) := H
  have A4 := kk A40
  clear A40
  have H' := kk H
  clear H
  go_enter Try.func25, Try.ntmps25
  go_wp2_with (first | ((with_reducible refine gate_callee (f := 54) rfl ?_); refine goesL_ (some 8) rfl rfl Try.func54 (by kernel_rfl) rfl #[.slice A0 l0.length c0] rfl (by (try simp only [kh, ke, kb]); rfl) ?_; (with_reducible refine (impl_arePrefixes.calls k _ _ l0 true _ ?side1 ?side2 A2.1).mono ?_); (case side1 => repeat (exact HR0.1)); (case side2 => exact HC0.1); rintro e w5 ⟨rfl, hb⟩; refine ⟨_, rfl, ?_⟩; replace HB := kk (zj HB.1 hb)) | ((with_reducible refine gate_callee (f := 63) rfl ?_); refine goesL_ (some 11) rfl rfl Try.func63 (by kernel_rfl) rfl #[.slice A0 l0.length c0] rfl (by (try simp only [kh, ke, kb]); rfl) ?_; (with_reducible refine (impl_spansOf.calls k _ _ l0 t214 _ ?side1 ?side2 A4.1).mono ?_); (case side1 => repeat (exact (Kd.C_below HR0.1 HB.1))); (case side2 => exact HC0.1); rintro e w6 ⟨v215, rfl, ho0, hb⟩; refine ⟨_, rfl, ?_⟩; have HO216 := kk (Kd.R_lower ho0 (zi HB.1)); replace HB := kk (zj HB.1 hb); obtain ⟨Ao7, co7, eo7⟩ := Kd.R_slice HO216.1; subst eo7))
  go_loopg [4, 13] k (fun kq v4 v13 w' => ∃ (x4_1 : Int) (zA : Int), v4 = .int .i64 x4_1 ∧ v13 = .int .i64 zA ∧ zv (impl_CountAddrs.l0 kq x4_1 t214 (t214.length : Int) zA = some (r1, r2)) ∧ zv (kq ≤ k) ∧ zv (Kd.R k74 74 w' w.heap.size (fun _ => True) (.slice Ao7 t214.length co7) t214) ∧ zv (Below w.heap.size w w'))
  case atStart => exact ⟨(0), (0), (by rfl), (by rfl), H', ⟨Nat.le_refl _⟩, ⟨by exact HO216.1⟩, ⟨by exact HB.1⟩⟩
  case round =>
   clear H'
   obtain ⟨x4_1, zA, rfl, rfl, HA, HK1, zE, HB⟩ := hrel
   cases gk with
   | zero => exact absurd HA.1 (by simp [impl_CountAddrs.l0])
   | succ k1 =>
    have H := HA.1
    clear HA
    simp only [impl_CountAddrs.l0] at H
    by_cases c8 : zA < (t214.length : Int)
    ·
     rw [if_pos c8] at H
     have c8b0 : decide (zA < (t214.length : Int)) = true := decide_eq_true c8
     clear c8
     by_cases c9 : 0 ≤ zA
     ·
      rw [if_pos c9] at H
      have c9b0 : decide (0 ≤ zA) = true := decide_eq_true c9
      clear c9
      by_cases c10 : zA < (t214.length : Int)
      ·
       rw [if_pos c10] at H
       have c10b0 : decide (zA < (t214.length : Int)) = true := decide_eq_true c10
       clear c10
       have H' := kk H
       clear H
       have p217 : 0 ≤ (zA : Int) := of_decide_eq_true (by (with_reducible assumption))
       have q217 : zA < (t214.length : Int) := of_decide_eq_true (by (with_reducible assumption))
       obtain ⟨ad217, e217, hx217_0, hx217_1⟩ := at_T74 (Kd.R_reads' zE.1).2.2 zA p217 q217
       cases e217
       replace p217 := eq_true p217
       replace q217 := eq_true q217
       go_wp2_with (((with_reducible refine zs (N := 6) rfl ?_); refine zp rfl (N := 6) rfl (cs := #[.int .i64 0, .int .i64 0]) (t := 74) ?hr ?_; (case hr => go_simp; done); intro gb218 hg w11 hbox hb; replace zE := kk (Kd.R_below (Kd.R_elderB zE.1 gb218 (Nat.le_of_eq hg.symm)) hb); have BK218 := kk hbox; have GE218 := kk (by rw [hg]; exact (zi HB.1) : w.heap.size ≤ gb218); replace HB := kk (zj HB.1 hb); clear hb hbox hg; have hcz12_0 : w11.cell? ⟨gb218, 0, none⟩ = some (.int .i64 0) := (zg BK218.1 0).trans rfl; have hcz12_1 : w11.cell? ⟨gb218, 1, none⟩ = some (.int .i64 0) := (zg BK218.1 1).trans rfl; have hfz12_0 := blk_frozen BK218.1 0; have hfz12_1 := blk_frozen BK218.1 1))
       go_roundg k1
       case measure => have := HK1.1; omega
       case rel => exact ⟨(wrap64 (x4_1 + (wrap64 ((wrap64 (((rd_T74 t214 zA).f1) - ((rd_T74 t214 zA).f0))) + 1)))), (wrap64 (zA + 1)), (by rfl), (by rfl), H', ⟨by have := HK1.1; omega⟩, ⟨by exact Kd.R_mono (Kd.R_far (p := ⟨gb218, 1, none⟩) (Kd.R_far (p := ⟨gb218, 0, none⟩) (Kd.R_mono zE.1 (fun k_ hk => (⟨hk, hk.2⟩ : _ ∧ k_ ≠ gb218))) (fun _ hk => hk.2) _) (fun _ hk => hk.2) _) (fun _ hk => trivial)⟩, ⟨by repeat ((with_reducible first | exact HB.1 | refine zk ?_ GE218.1))⟩⟩
      ·
       rw [if_neg c10] at H
       exact absurd H (by simp)
     ·
      rw [if_neg c9] at H
      exact absurd H (by simp)
    ·
     rw [if_neg c8] at H
     have c8b0 : decide (zA < (t214.length : Int)) = false := decide_eq_false c8
     clear c8
     simp only [Option.some.injEq, Prod.mk.injEq] at H
     obtain ⟨rfl, rfl⟩ := H
     go_wp2
     go_ret2
     exact ⟨by rfl, by exact HB.1⟩
 ·
  replace c3 := kx.mpr c3
  subst c3
  have H1 : (some (0, false)) = some (r1, r2) := by rw [if_neg (show ¬ (false = true) by decide)] at H; exact H
  clear H
  have H := H1
  clear H1
  simp only [Option.some.injEq, Prod.mk.injEq] at H
  obtain ⟨rfl, rfl⟩ := H
  go_enter Try.func25, Try.ntmps25
  go_wp2_with (((with_reducible refine gate_callee (f := 54) rfl ?_); refine goesL_ (some 8) rfl rfl Try.func54 (by kernel_rfl) rfl #[.slice A0 l0.length c0] rfl (by (try simp only [kh, ke, kb]); rfl) ?_; (with_reducible refine (impl_arePrefixes.calls k _ _ l0 false _ ?side1 ?side2 A2.1).mono ?_); (case side1 => repeat (exact HR0.1)); (case side2 => exact HC0.1); rintro e w13 ⟨rfl, hb⟩; refine ⟨_, rfl, ?_⟩; replace HB := kk (zj HB.1 hb)))
  go_ret2
  exact ⟨by rfl, by exact HB.1⟩
/-! ### spec_GoodPrefix: function 68 -/
def spec_GoodPrefix.f (a0_0 : Int) (a0_1 : Int) : Option (Bool) := (spec_l1In.f a0_1 0 32).bind fun t220 => (if t220 = true then ((spec_l1Addr.f a0_0).bind fun t221 => (if t221 = true then ((spec_l1Size.f a0_0 a0_1).bind fun t222 => (if t222 = 0 then (none) else (some ((ko a0_0 t222) == 0)))) else (some false))) else (some false))
def spec_GoodPrefix.T1 : Bool × List (List Nat × List Nat) := (true, [([], []), ([0], [0]), ([1], [1]), ([2, 2], [2]), ([3], [3]), ([4, 3], [3, 4]), ([5, 3, 3], [3, 5]), ([3, 6], [3, 6]), ([7, 6], [7]), ([8], [8]), ([9, 8], [8, 9]), ([8], [8]), ([11, 8, 8], [8, 11]), ([10, 12, 8], [8, 10, 12]), ([13, 8], [8, 13]), ([8, 14], [8, 14]), ([15, 12, 0, 1, 2, 3, 4, 5, 6, 7, 8, 9, 10, 11, 12, 13, 14, 15], [15])])
def spec_GoodPrefix.B1 : List Nat := [0, 1, 3, 7, 15, 31, 63, 127, 255, 511, 1023, 511, 2559, 8191, 16383, 32767, 65535]
theorem spec_GoodPrefix.tab1 : rtab .any (opsOf Try.f68 1) = spec_GoodPrefix.T1 := by kernel_rfl
theorem spec_GoodPrefix.bits1 : waitsOk spec_GoodPrefix.T1.2 spec_GoodPrefix.B1 = true := by kernel_rfl
theorem spec_GoodPrefix.calls (a0_0 : Int) (a0_1 : Int) (r : Bool) (w : World) (h : spec_GoodPrefix.f a0_0 a0_1 = some r) :
  Calls Try.prog 68 #[.agg #[.int .i64 a0_0, .int .i64 a0_1]] w fun e w' => e = .returned (.bool r) ∧ Below w.heap.size w w' := by
 have hu45 := Try.underlying45
 have HB := kk (Below.refl w.heap.size w)
 have H : ((spec_l1In.f a0_1 0 32).bind fun t220 => (if t220 = true then ((spec_l1Addr.f a0_0).bind fun t221 => (if t221 = true then ((spec_l1Size.f a0_0 a0_1).bind fun t222 => (if t222 = 0 then (none) else (some ((ko a0_0 t222) == 0)))) else (some false))) else (some false))) = some r := h
 clear h
 replace H := kf.mp H
 obtain ⟨t220, A20, H⟩ := H
 replace H : (if t220 = true then ((spec_l1Addr.f a0_0).bind fun t221 => (if t221 = true then ((spec_l1Size.f a0_0 a0_1).bind fun t222 => (if t222 = 0 then (none) else (some ((ko a0_0 t222) == 0)))) else (some false))) else (some false)) = some r := H
 have A2 := kk A20
 clear A20
 by_cases c3 : t220 = true
 ·
  subst c3
  have H1 : ((spec_l1Addr.f a0_0).bind fun t221 => (if t221 = true then ((spec_l1Size.f a0_0 a0_1).bind fun t222 => (if t222 = 0 then (none) else (some ((ko a0_0 t222) == 0)))) else (some false))) = some r := by rw [if_pos rfl] at H; exact H
  clear H
  have H := H1
  clear H1
  replace H := kf.mp H
  obtain ⟨t221, A40, H⟩ := H
  replace H : (if t221 = true then ((spec_l1Size.f a0_0 a0_1).bind fun t222 => (if t222 = 0 then (none) else (some ((ko a0_0 t222) == 0)))) else (some false)) = some r := H
  have A4 := kk A40
  clear A40
  by_cases c5 : t221 = true
  ·
   subst c5
   have H1 : ((spec_l1Size.f a0_0 a0_1).bind fun t222 => (if t222 = 0 then (none) else (some ((ko a0_0 t222) == 0)))) = some r := by rw [if_pos rfl] at H; exact H
   clear H
   have H := H1
   clear H1
   replace H := kf.mp H
   obtain ⟨t222, A60, H⟩ := H
   replace H : (if t222 = 0 then (none) else (some ((ko a0_0 t222) == 0))) = some r := H
   have A6 := kk A60
   clear A60
   by_cases c7 : t222 = 0
   ·
    rw [if_pos c7] at H
    exact absurd H (by simp)
   ·
    rw [if_neg c7] at H
    have c7b0 : (t222 == 0) = false := beq_eq_false_iff_ne.mpr c7
    have c7b1 : (t222 != 0) = true := bne_iff_ne.mpr c7
    obtain rfl := kd H
    go_enter Try.func68, Try.ntmps68
    try go_wp2_with (((with_reducible refine zs (N := 1) rfl ?_); refine zp rfl (N := 1) rfl (cs := #[.int .i64 a0_0, .int .i64 a0_1]) (t := 45) ?hr ?_; (case hr => go_simp; done); intro gb219 hg w8 hbox hb; replace HB := kk (zj HB.1 hb); have zz := kk hbox; clear hb hbox hg))
    replace zz := kk (zl zz.1)
    replace HB := kk (zb HB.1)
    refine start_ (n := 17) (S := fun w' => w'.cell? ⟨gb219, 0, none⟩ = some (.int .i64 a0_0) ∧ w'.cell? ⟨gb219, 1, none⟩ = some (.int .i64 a0_1)) (ds := []) #[ku,ku,ku,ku,ku,ku,ku,ku,ku,ku,ku,ku,ku,ku,ku,ku,ku] (by kernel_rfl) rfl rfl ⟨(zg zz.1 0).trans rfl, (zg zz.1 1).trans rfl⟩ (fun hHeld => ?_); refine with_tabW spec_GoodPrefix.tab1 spec_GoodPrefix.bits1 (fun HT_ HW_ => ?_)
    generalize w8.drew = w9 at zz HB hHeld ⊢
    refine zh (i := 0) (N := some 3) (v := ?_) (a' := ?_) #[km,ku,ku,ku,ku,ku,ku,ku,ku,ku,ku,ku,ku,ku,ku,ku,ku] rfl rfl (zf HT_.1 (by kernel_rfl)) (fun _ _ _ h => h) (kg ⟨by rfl, ?_⟩) ?_ ?_
    rotate_left
    ·
     intro w'
     go_simp
     with_reducible rfl
    rotate_left
    ·
     simp only [kv, kz, ky, kj, zd, ze]
     rfl
    refine zw (i := 1) (N := some 4) (v := ?_) (a' := ?_) #[km,km,ku,ku,ku,ku,ku,ku,ku,ku,ku,ku,ku,ku,ku,ku,ku] rfl rfl (zo HT_.1 HW_.1 (by kernel_rfl)) (fun _ _ _ h => h) (kg ⟨by rfl, ?_⟩) hHeld ?_ ?_
    rotate_left
    ·
     rintro w' ⟨s0, s1⟩
     go_simp
     with_reducible rfl
    rotate_left
    ·
     simp only [kv, kz, ky, kj, zd, ze]
     rfl
    refine one_ (i := 2) (N := some 5) #[km,km,km,ku,ku,ku,ku,ku,ku,ku,ku,ku,ku,ku,ku,ku,ku] rfl rfl (zu HT_.1 (by kernel_rfl)) (by decide) (fun K hK => ?_)
    refine zy Try.func82 (by kernel_rfl) rfl #[.int .i64 a0_1, .int .i64 0, .int .i64 32] (by rfl) rfl rfl (by (try simp only [kh, ke, kb]); rfl) ?_
    with_reducible refine (spec_l1In.calls a0_1 0 32 true _ A2.1).mono ?_
    rintro e w' ⟨rfl, ⟨nd, rfl⟩⟩
    refine ⟨_, rfl, ?_⟩
    refine hK.out _ _ ⟨(zg zz.1 0).trans rfl, (zg zz.1 1).trans rfl⟩ (fun hHeld => ?_)
    clear hK K
    refine zx (a' := ?_) ?_ ?_
    rotate_left
    ·
     show kv _ (some 5) _ = _
     simp only [kv, kz, ky, kj, zd, ze]
     rfl
    refine zh (i := 3) (N := some 6) (v := ?_) (a' := ?_) #[km,km,km,km,ku,ku,ku,ku,ku,ku,ku,ku,ku,ku,ku,ku,ku] rfl rfl (zf HT_.1 (by kernel_rfl)) (fun _ _ _ h => h) (kg ⟨by rfl, ?_⟩) ?_ ?_
    rotate_left
    ·
     intro w'
     go_simp
     with_reducible rfl
    rotate_left
    ·
     simp only [kv, kz, ky, kj, zd, ze]
     rfl
    refine zh (i := 4) (N := some 7) (v := ?_) (a' := ?_) #[km,km,km,km,km,ku,ku,ku,ku,ku,ku,ku,ku,ku,ku,ku,ku] rfl rfl (zf HT_.1 (by kernel_rfl)) (fun _ _ _ h => h) (kg ⟨by rfl, ?_⟩) ?_ ?_
    rotate_left
    ·
     intro w'
     go_simp
     with_reducible rfl
    rotate_left
    ·
     simp only [kv, kz, ky, kj, zd, ze]
     rfl
    refine zw (i := 5) (N := some 8) (v := ?_) (a' := ?_) #[km,km,km,km,km,km,ku,ku,ku,ku,ku,ku,ku,ku,ku,ku,ku] rfl rfl (zo HT_.1 HW_.1 (by kernel_rfl)) (fun _ _ _ h => h) (kg ⟨by rfl, ?_⟩) hHeld ?_ ?_
    rotate_left
    ·
     rintro w' ⟨s0, s1⟩
     go_simp
     with_reducible rfl
    rotate_left
    ·
     simp only [kv, kz, ky, kj, zd, ze]
     rfl
    refine one_ (i := 6) (N := some 9) #[km,km,km,km,km,km,km,ku,ku,ku,ku,ku,ku,ku,ku,ku,ku] rfl rfl (zu HT_.1 (by kernel_rfl)) (by decide) (fun K hK => ?_)
    refine zy Try.func52 (by kernel_rfl) rfl #[.int .i64 a0_0] (by rfl) rfl rfl (by (try simp only [kh, ke, kb]); rfl) ?_
    with_reducible refine (spec_l1Addr.calls a0_0 true _ A4.1).mono ?_
    rintro e w' ⟨rfl, ⟨nd, rfl⟩⟩
    refine ⟨_, rfl, ?_⟩
    refine hK.out _ _ ⟨(zg zz.1 0).trans rfl, (zg zz.1 1).trans rfl⟩ (fun hHeld => ?_)
    clear hK K
    refine zx (a' := ?_) ?_ ?_
    rotate_left
    ·
     show kv _ (some 9) _ = _
     simp only [kv, kz, ky, kj, zd, ze]
     rfl
    refine zh (i := 7) (N := some 10) (v := ?_) (a' := ?_) #[km,km,km,km,km,km,km,km,ku,ku,ku,ku,ku,ku,ku,ku,ku] rfl rfl (zf HT_.1 (by kernel_rfl)) (fun _ _ _ h => h) (kg ⟨by rfl, ?_⟩) ?_ ?_
    rotate_left
    ·
     intro w'
     go_simp
     with_reducible rfl
    rotate_left
    ·
     simp only [kv, kz, ky, kj, zd, ze]
     rfl
    refine zh (i := 8) (N := some 11) (v := ?_) (a' := ?_) #[km,km,km,km,km,km,km,km,km,ku,ku,ku,ku,ku,ku,ku,ku] rfl rfl (zf HT_.1 (by kernel_rfl)) (fun _ _ _ h => h) (kg ⟨by rfl, ?_⟩) ?_ ?_
    rotate_left
    ·
     intro w'
     go_simp
     with_reducible rfl
    rotate_left
    ·
     simp only [kv, kz, ky, kj, zd, ze]
     rfl
    refine zh (i := 9) (N := some 12) (v := ?_) (a' := ?_) #[km,km,km,km,km,km,km,km,km,km,ku,ku,ku,ku,ku,ku,ku] rfl rfl (zf HT_.1 (by kernel_rfl)) (fun _ _ _ h => h) (kg ⟨by rfl, ?_⟩) ?_ ?_
    rotate_left
    ·
     intro w'
     go_simp
     with_reducible rfl
    rotate_left
    ·
     simp only [kv, kz, ky, kj, zd, ze]
     rfl
    refine zw (i := 10) (N := some 13) (v := ?_) (a' := ?_) #[km,km,km,km,km,km,km,km,km,km,km,ku,ku,ku,ku,ku,ku] rfl rfl (zo HT_.1 HW_.1 (by kernel_rfl)) (fun _ _ _ h => h) (kg ⟨by rfl, ?_⟩) hHeld ?_ ?_
    rotate_left
    ·
     rintro w' ⟨s0, s1⟩
     go_simp
     with_reducible rfl
    rotate_left
    ·
     simp only [kv, kz, ky, kj, zd, ze]
     rfl
    refine zw (i := 11) (N := some 14) (v := ?_) (a' := ?_) #[km,km,km,km,km,km,km,km,km,km,km,km,ku,ku,ku,ku,ku] rfl rfl (zo HT_.1 HW_.1 (by kernel_rfl)) (fun _ _ _ h => h) (kg ⟨by rfl, ?_⟩) hHeld ?_ ?_
    rotate_left
    ·
     rintro w' ⟨s0, s1⟩
     go_simp
     with_reducible rfl
    rotate_left
    ·
     simp only [kv, kz, ky, kj, zd, ze]
     rfl
    refine one_ (i := 12) (N := some 15) #[km,km,km,km,km,km,km,km,km,km,km,km,km,ku,ku,ku,ku] rfl rfl (zu HT_.1 (by kernel_rfl)) (by decide) (fun K hK => ?_)
    refine zy Try.func62 (by kernel_rfl) rfl #[.agg #[.int .i64 a0_0, .int .i64 a0_1]] (by rfl) rfl rfl (by (try simp only [kh, ke, kb]); rfl) ?_
    with_reducible refine (spec_l1Size.calls a0_0 a0_1 t222 _ A6.1).mono ?_
    rintro e w10 ⟨rfl, hb⟩
    refine ⟨_, rfl, ?_⟩
    replace zz := kk (blk_below (g := gb219) (o := .cells #[.int .i64 a0_0, .int .i64 a0_1] 45 (0, 0)) (by (with_reducible repeat (refine zm ?_ _)); exact zz.1) hb)
    replace HB := kk (zj (by repeat ((with_reducible first | exact HB.1 | apply za))) hb)
    refine hK.out _ _ ⟨(zg zz.1 0).trans rfl, (zg zz.1 1).trans rfl⟩ (fun hHeld => ?_)
    clear hK K
    refine zx (a' := ?_) ?_ ?_
    rotate_left
    ·
     show kv _ (some 15) _ = _
     simp only [kv, kz, ky, kj, zd, ze]
     rfl
    refine zh (i := 13) (N := some 16) (v := ?_) (a' := ?_) #[km,km,km,km,km,km,km,km,km,km,km,km,km,km,ku,ku,ku] rfl rfl (zf HT_.1 (by kernel_rfl)) (fun _ _ _ h => h) (kg ⟨by rfl, ?_⟩) ?_ ?_
    rotate_left
    ·
     intro w'
     go_simp
     with_reducible rfl
    rotate_left
    ·
     simp only [kv, kz, ky, kj, zd, ze]
     rfl
    refine zh (i := 14) (N := some 17) (v := ?_) (a' := ?_) #[km,km,km,km,km,km,km,km,km,km,km,km,km,km,km,ku,ku] rfl rfl (zf HT_.1 (by kernel_rfl)) (fun _ _ _ h => h) (kg ⟨by rfl, ?_⟩) ?_ ?_
    rotate_left
    ·
     intro w'
     go_simp
     with_reducible rfl
    rotate_left
    ·
     simp only [kv, kz, ky, kj, zd, ze]
     rfl
    refine zh (i := 15) (N := some 18) (v := ?_) (a' := ?_) #[km,km,km,km,km,km,km,km,km,km,km,km,km,km,km,km,ku] rfl rfl (zf HT_.1 (by kernel_rfl)) (fun _ _ _ h => h) (kg ⟨by rfl, ?_⟩) ?_ ?_
    rotate_left
    ·
     intro w'
     go_simp
     with_reducible rfl
    rotate_left
    ·
     simp only [kv, kz, ky, kj, zd, ze]
     rfl
    refine zh (i := 16) (N := some 2) (v := ?_) (a' := ?_) #[km,km,km,km,km,km,km,km,km,km,km,km,km,km,km,km,km] rfl rfl (zf HT_.1 (by kernel_rfl)) (fun _ _ _ h => h) (kg ⟨by rfl, ?_⟩) ?_ ?_
    rotate_left
    ·
     intro w'
     go_simp
     with_reducible rfl
    rotate_left
    ·
     simp only [kv, kz, ky, kj, zd, ze]
     rfl
    refine done_ (done_of HT_.1 (by kernel_rfl)) ?_
    try go_wp2
    go_ret
    exact ⟨by rfl, by exact HB.1⟩
  ·
   replace c5 := kx.mpr c5
   subst c5
   have H1 : (some false) = some r := by rw [if_neg (show ¬ (false = true) by decide)] at H; exact H
   clear H
   have H := H1
   clear H1
   obtain rfl := kd H
   go_enter Try.func68, Try.ntmps68
   try go_wp2_with (((with_reducible refine zs (N := 1) rfl ?_); refine zp rfl (N := 1) rfl (cs := #[.int .i64 a0_0, .int .i64 a0_1]) (t := 45) ?hr ?_; (case hr => go_simp; done); intro gb219 hg w11 hbox hb; replace HB := kk (zj HB.1 hb); have zz := kk hbox; clear hb hbox hg))
   replace zz := kk (zl zz.1)
   replace HB := kk (zb HB.1)
   refine start_ (n := 17) (S := fun w' => w'.cell? ⟨gb219, 0, none⟩ = some (.int .i64 a0_0) ∧ w'.cell? ⟨gb219, 1, none⟩ = some (.int .i64 a0_1)) (ds := []) #[ku,ku,ku,ku,ku,ku,ku,ku,ku,ku,ku,ku,ku,ku,ku,ku,ku] (by kernel_rfl) rfl rfl ⟨(zg zz.1 0).trans rfl, (zg zz.1 1).trans rfl⟩ (fun hHeld => ?_); refine with_tabW spec_GoodPrefix.tab1 spec_GoodPrefix.bits1 (fun HT_ HW_ => ?_)
   generalize w11.drew = w12 at zz HB hHeld ⊢
   refine zh (i := 0) (N := some 3) (v := ?_) (a' := ?_) #[km,ku,ku,ku,ku,ku,ku,ku,ku,ku,ku,ku,ku,ku,ku,ku,ku] rfl rfl (zf HT_.1 (by kernel_rfl)) (fun _ _ _ h => h) (kg ⟨by rfl, ?_⟩) ?_ ?_
   rotate_left
   ·
    intro w'
    go_simp
    with_reducible rfl
   rotate_left
   ·
    simp only [kv, kz, ky, kj, zd, ze]
    rfl
   refine zw (i := 1) (N := some 4) (v := ?_) (a' := ?_) #[km,km,ku,ku,ku,ku,ku,ku,ku,ku,ku,ku,ku,ku,ku,ku,ku] rfl rfl (zo HT_.1 HW_.1 (by kernel_rfl)) (fun _ _ _ h => h) (kg ⟨by rfl, ?_⟩) hHeld ?_ ?_
   rotate_left
   ·
    rintro w' ⟨s0, s1⟩
    go_simp
    with_reducible rfl
   rotate_left
   ·
    simp only [kv, kz, ky, kj, zd, ze]
    rfl
   refine one_ (i := 2) (N := some 5) #[km,km,km,ku,ku,ku,ku,ku,ku,ku,ku,ku,ku,ku,ku,ku,ku] rfl rfl (zu HT_.1 (by kernel_rfl)) (by decide) (fun K hK => ?_)
   refine zy Try.func82 (by kernel_rfl) rfl #[.int .i64 a0_1, .int .i64 0, .int .i64 32] (by rfl) rfl rfl (by (try simp only [kh, ke, kb]); rfl) ?_
   with_reducible refine (spec_l1In.calls a0_1 0 32 true _ A2.1).mono ?_
   rintro e w' ⟨rfl, ⟨nd, rfl⟩⟩
   refine ⟨_, rfl, ?_⟩
   refine hK.out _ _ ⟨(zg zz.1 0).trans rfl, (zg zz.1 1).trans rfl⟩ (fun hHeld => ?_)
   clear hK K
   refine zx (a' := ?_) ?_ ?_
   rotate_left
   ·
    show kv _ (some 5) _ = _
    simp only [kv, kz, ky, kj, zd, ze]
    rfl
   refine zh (i := 3) (N := some 6) (v := ?_) (a' := ?_) #[km,km,km,km,ku,ku,ku,ku,ku,ku,ku,ku,ku,ku,ku,ku,ku] rfl rfl (zf HT_.1 (by kernel_rfl)) (fun _ _ _ h => h) (kg ⟨by rfl, ?_⟩) ?_ ?_
   rotate_left
   ·
    intro w'
    go_simp
    with_reducible rfl
   rotate_left
   ·
    simp only [kv, kz, ky, kj, zd, ze]
    rfl
   refine zh (i := 4) (N := some 7) (v := ?_) (a' := ?_) #[km,km,km,km,km,ku,ku,ku,ku,ku,ku,ku,ku,ku,ku,ku,ku] rfl rfl (zf HT_.1 (by kernel_rfl)) (fun _ _ _ h => h) (kg ⟨by rfl, ?_⟩) ?_ ?_
   rotate_left
   ·
    intro w'
    go_simp
    with_reducible rfl
   rotate_left
   ·
    simp only [kv, kz, ky, kj, zd, ze]
    rfl
   refine zw (i := 5) (N := some 8) (v := ?_) (a' := ?_) #[km,km,km,km,km,km,ku,ku,ku,ku,ku,ku,ku,ku,ku,ku,ku] rfl rfl (zo HT_.1 HW_.1 (by kernel_rfl)) (fun _ _ _ h => h) (kg ⟨by rfl, ?_⟩) hHeld ?_ ?_
   rotate_left
   ·
    rintro w' ⟨s0, s1⟩
    go_simp
    with_reducible rfl
   rotate_left
   ·
    simp only [kv, kz, ky, kj, zd, ze]
    rfl
   refine one_ (i := 6) (N := some 9) #[km,km,km,km,km,km,km,ku,ku,ku,ku,ku,ku,ku,ku,ku,ku] rfl rfl (zu HT_.1 (by kernel_rfl)) (by decide) (fun K hK => ?_)
   refine zy Try.func52 (by kernel_rfl) rfl #[.int .i64 a0_0] (by rfl) rfl rfl (by (try simp only [kh, ke, kb]); rfl) ?_
   with_reducible refine (spec_l1Addr.calls a0_0 false _ A4.1).mono ?_
   rintro e w' ⟨rfl, ⟨nd, rfl⟩⟩
   refine ⟨_, rfl, ?_⟩
   refine hK.out _ _ ⟨(zg zz.1 0).trans rfl, (zg zz.1 1).trans rfl⟩ (fun hHeld => ?_)
   clear hK K
   refine zx (a' := ?_) ?_ ?_
   rotate_left
   ·
    show kv _ (some 9) _ = _
    simp only [kv, kz, ky, kj, zd, ze]
    rfl
   refine zh (i := 7) (N := some 10) (v := ?_) (a' := ?_) #[km,km,km,km,km,km,km,km,ku,ku,ku,ku,ku,ku,ku,ku,ku] rfl rfl (zf HT_.1 (by kernel_rfl)) (fun _ _ _ h => h) (kg ⟨by rfl, ?_⟩) ?_ ?_
   rotate_left
   ·
    intro w'
    go_simp
    with_reducible rfl
   rotate_left
   ·
    simp only [kv, kz, ky, kj, zd, ze]
    rfl
   refine zh (i := 8) (N := some 11) (v := ?_) (a' := ?_) #[km,km,km,km,km,km,km,km,km,ku,ku,ku,ku,ku,ku,ku,ku] rfl rfl (zf HT_.1 (by kernel_rfl)) (fun _ _ _ h => h) (kg ⟨by rfl, ?_⟩) ?_ ?_
   rotate_left
   ·
    intro w'
    go_simp
    with_reducible rfl
   rotate_left
   ·
    simp only [kv, kz, ky, kj, zd, ze]
    rfl
   refine zh (i := 9) (N := some 12) (v := undef) (a' := ?_) #[km,km,km,km,km,km,km,km,km,km,ku,ku,ku,ku,ku,ku,ku] rfl rfl (zf HT_.1 (by kernel_rfl)) (fun _ _ _ h => h) (kc ⟨by rfl, rfl⟩) ?_ ?_
   rotate_left
   ·
    simp only [kv, kz, ky, kj, zd, ze]
    rfl
   refine zh (i := 10) (N := some 13) (v := undef) (a' := ?_) #[km,km,km,km,km,km,km,km,km,km,km,ku,ku,ku,ku,ku,ku] rfl rfl (zf HT_.1 (by kernel_rfl)) (fun _ _ _ h => h) (kc ⟨by rfl, rfl⟩) ?_ ?_
   rotate_left
   ·
    simp only [kv, kz, ky, kj, zd, ze]
    rfl
   refine zh (i := 11) (N := some 14) (v := undef) (a' := ?_) #[km,km,km,km,km,km,km,km,km,km,km,km,ku,ku,ku,ku,ku] rfl rfl (zf HT_.1 (by kernel_rfl)) (fun _ _ _ h => h) (kc ⟨by rfl, rfl⟩) ?_ ?_
   rotate_left
   ·
    simp only [kv, kz, ky, kj, zd, ze]
    rfl
   refine zh (i := 12) (N := some 15) (v := undef) (a' := ?_) #[km,km,km,km,km,km,km,km,km,km,km,km,km,ku,ku,ku,ku] rfl rfl (zf HT_.1 (by kernel_rfl)) (fun _ _ _ h => h) (kc ⟨by rfl, rfl⟩) ?_ ?_
   rotate_left
   ·
    simp only [kv, kz, ky, kj, zd, ze]
    rfl
   refine zh (i := 13) (N := some 16) (v := undef) (a' := ?_) #[km,km,km,km,km,km,km,km,km,km,km,km,km,km,ku,ku,ku] rfl rfl (zf HT_.1 (by kernel_rfl)) (fun _ _ _ h => h) (kc ⟨by rfl, rfl⟩) ?_ ?_
   rotate_left
   ·
    simp only [kv, kz, ky, kj, zd, ze]
    rfl
   refine zh (i := 14) (N := some 17) (v := undef) (a' := ?_) #[km,km,km,km,km,km,km,km,km,km,km,km,km,km,km,ku,ku] rfl rfl (zf HT_.1 (by kernel_rfl)) (fun _ _ _ h => h) (kc ⟨by rfl, rfl⟩) ?_ ?_
   rotate_left
   ·
    simp only [kv, kz, ky, kj, zd, ze]
    rfl
   refine zh (i := 15) (N := some 18) (v := ?_) (a' := ?_) #[km,km,km,km,km,km,km,km,km,km,km,km,km,km,km,km,ku] rfl rfl (zf HT_.1 (by kernel_rfl)) (fun _ _ _ h => h) (kg ⟨by rfl, ?_⟩) ?_ ?_
   rotate_left
   ·
    intro w'
    go_simp
    with_reducible rfl
   rotate_left
   ·
    simp only [kv, kz, ky, kj, zd, ze]
    rfl
   refine zh (i := 16) (N := some 2) (v := ?_) (a' := ?_) #[km,km,km,km,km,km,km,km,km,km,km,km,km,km,km,km,km] rfl rfl (zf HT_.1 (by kernel_rfl)) (fun _ _ _ h => h) (kg ⟨by rfl, ?_⟩) ?_ ?_
   rotate_left
   ·
    intro w'
    go_simp
    with_reducible rfl
   rotate_left
   ·
    simp only [kv, kz, ky, kj, zd, ze]
    rfl
   refine done_ (done_of HT_.1 (by kernel_rfl)) ?_
   try go_wp2
   go_ret
   exact ⟨by rfl, by repeat ((with_reducible first | exact HB.1 | apply za))⟩
 ·
  replace c3 := kx.mpr c3
  subst c3
  have H1 : (some false) = some r := by rw [if_neg (show ¬ (false = true) by decide)] at H; exact H
  clear H
  have H := H1
  clear H1
  obtain rfl := kd H
  go_enter Try.func68, Try.ntmps68
  try go_wp2_with (((with_reducible refine zs (N := 1) rfl ?_); refine zp rfl (N := 1) rfl (cs := #[.int .i64 a0_0, .int .i64 a0_1]) (t := 45) ?hr ?_; (case hr => go_simp; done); intro gb219 hg w13 hbox hb; replace HB := kk (zj HB.1 hb); have zz := kk hbox; clear hb hbox hg))
  replace zz := kk (zl zz.1)
  replace HB := kk (zb HB.1)
  refine start_ (n := 17) (S := fun w' => w'.cell? ⟨gb219, 0, none⟩ = some (.int .i64 a0_0) ∧ w'.cell? ⟨gb219, 1, none⟩ = some (.int .i64 a0_1)) (ds := []) #[ku,ku,ku,ku,ku,ku,ku,ku,ku,ku,ku,ku,ku,ku,ku,ku,ku] (by kernel_rfl) rfl rfl ⟨(zg zz.1 0).trans rfl, (zg zz.1 1).trans rfl⟩ (fun hHeld => ?_); refine with_tabW spec_GoodPrefix.tab1 spec_GoodPrefix.bits1 (fun HT_ HW_ => ?_)
  generalize w13.drew = w14 at zz HB hHeld ⊢
  refine zh (i := 0) (N := some 3) (v := ?_) (a' := ?_) #[km,ku,ku,ku,ku,ku,ku,ku,ku,ku,ku,ku,ku,ku,ku,ku,ku] rfl rfl (zf HT_.1 (by kernel_rfl)) (fun _ _ _ h => h) (kg ⟨by rfl, ?_⟩) ?_ ?_
  rotate_left
  ·
   intro w'
   go_simp
   with_reducible rfl
  rotate_left
  ·
   simp only [kv, kz, ky, kj, zd, ze]
   rfl
  refine zw (i := 1) (N := some 4) (v := ?_) (a' := ?_) #[km,km,ku,ku,ku,ku,ku,ku,ku,ku,ku,ku,ku,ku,ku,ku,ku] rfl rfl (zo HT_.1 HW_.1 (by kernel_rfl)) (fun _ _ _ h => h) (kg ⟨by rfl, ?_⟩) hHeld ?_ ?_
  rotate_left
  ·
   rintro w' ⟨s0, s1⟩
   go_simp
   with_reducible rfl
  rotate_left
  ·
   simp only [kv, kz, ky, kj, zd, ze]
   rfl
  refine one_ (i := 2) (N := some 5) #[km,km,km,ku,ku,ku,ku,ku,ku,ku,ku,ku,ku,ku,ku,ku,ku] rfl rfl (zu HT_.1 (by kernel_rfl)) (by decide) (fun K hK => ?_)
  refine zy Try.func82 (by kernel_rfl) rfl #[.int .i64 a0_1, .int .i64 0, .int .i64 32] (by rfl) rfl rfl (by (try simp only [kh, ke, kb]); rfl) ?_
  with_reducible refine (spec_l1In.calls a0_1 0 32 false _ A2.1).mono ?_
  rintro e w' ⟨rfl, ⟨nd, rfl⟩⟩
  refine ⟨_, rfl, ?_⟩
  refine hK.out _ _ ⟨(zg zz.1 0).trans rfl, (zg zz.1 1).trans rfl⟩ (fun hHeld => ?_)
  clear hK K
  refine zx (a' := ?_) ?_ ?_
  rotate_left
  ·
   show kv _ (some 5) _ = _
   simp only [kv, kz, ky, kj, zd, ze]
   rfl
  refine zh (i := 3) (N := some 6) (v := ?_) (a' := ?_) #[km,km,km,km,ku,ku,ku,ku,ku,ku,ku,ku,ku,ku,ku,ku,ku] rfl rfl (zf HT_.1 (by kernel_rfl)) (fun _ _ _ h => h) (kg ⟨by rfl, ?_⟩) ?_ ?_
  rotate_left
  ·
   intro w'
   go_simp
   with_reducible rfl
  rotate_left
  ·
   simp only [kv, kz, ky, kj, zd, ze]
   rfl
  refine zh (i := 4) (N := some 7) (v := undef) (a' := ?_) #[km,km,km,km,km,ku,ku,ku,ku,ku,ku,ku,ku,ku,ku,ku,ku] rfl rfl (zf HT_.1 (by kernel_rfl)) (fun _ _ _ h => h) (kc ⟨by rfl, rfl⟩) ?_ ?_
  rotate_left
  ·
   simp only [kv, kz, ky, kj, zd, ze]
   rfl
  refine zh (i := 5) (N := some 8) (v := undef) (a' := ?_) #[km,km,km,km,km,km,ku,ku,ku,ku,ku,ku,ku,ku,ku,ku,ku] rfl rfl (zf HT_.1 (by kernel_rfl)) (fun _ _ _ h => h) (kc ⟨by rfl, rfl⟩) ?_ ?_
  rotate_left
  ·
   simp only [kv, kz, ky, kj, zd, ze]
   rfl
  refine zh (i := 6) (N := some 9) (v := undef) (a' := ?_) #[km,km,km,km,km,km,km,ku,ku,ku,ku,ku,ku,ku,ku,ku,ku] rfl rfl (zf HT_.1 (by kernel_rfl)) (fun _ _ _ h => h) (kc ⟨by rfl, rfl⟩) ?_ ?_
  rotate_left
  ·
   simp only [kv, kz, ky, kj, zd, ze]
   rfl
  refine zh (i := 7) (N := some 10) (v := ?_) (a' := ?_) #[km,km,km,km,km,km,km,km,ku,ku,ku,ku,ku,ku,ku,ku,ku] rfl rfl (zf HT_.1 (by kernel_rfl)) (fun _ _ _ h => h) (kg ⟨by rfl, ?_⟩) ?_ ?_
  rotate_left
  ·
   intro w'
   go_simp
   with_reducible rfl
  rotate_left
  ·
   simp only [kv, kz, ky, kj, zd, ze]
   rfl
  refine zh (i := 8) (N := some 11) (v := ?_) (a' := ?_) #[km,km,km,km,km,km,km,km,km,ku,ku,ku,ku,ku,ku,ku,ku] rfl rfl (zf HT_.1 (by kernel_rfl)) (fun _ _ _ h => h) (kg ⟨by rfl, ?_⟩) ?_ ?_
  rotate_left
  ·
   intro w'
   go_simp
   with_reducible rfl
  rotate_left
  ·
   simp only [kv, kz, ky, kj, zd, ze]
   rfl
  refine zh (i := 9) (N := some 12) (v := undef) (a' := ?_) #[km,km,km,km,km,km,km,km,km,km,ku,ku,ku,ku,ku,ku,ku] rfl rfl (zf HT_.1 (by kernel_rfl)) (fun _ _ _ h => h) (kc ⟨by rfl, rfl⟩) ?_ ?_
  rotate_left
  ·
   simp only [kv, kz, ky, kj, zd, ze]
   rfl
  refine zh (i := 10) (N := some 13) (v := undef) (a' := ?_) #[km,km,km,km,km,km,km,km,km,km,km,ku,ku,ku,ku,ku,ku] rfl rfl (zf HT_.1 (by kernel_rfl)) (fun _ _ _ h => h) (kc ⟨by rfl, rfl⟩) ?_ ?_
  rotate_left
  ·
   simp only [kv, kz, ky, kj, zd, ze]
   rfl
  refine zh (i := 11) (N := some 14) (v := undef) (a' := ?_) #[km,km,km,km,km,km,km,km,km,km,km,km,ku,ku,ku,ku,ku] rfl rfl (zf HT_.1 (by kernel_rfl)) (fun _ _ _ h => h) (kc ⟨by rfl, rfl⟩) ?_ ?_
  rotate_left
  ·
   simp only [kv, kz, ky, kj, zd, ze]
   rfl
  refine zh (i := 12) (N := some 15) (v := undef) (a' := ?_) #[km,km,km,km,km,km,km,km,km,km,km,km,km,ku,ku,ku,ku] rfl rfl (zf HT_.1 (by kernel_rfl)) (fun _ _ _ h => h) (kc ⟨by rfl, rfl⟩) ?_ ?_
  rotate_left
  ·
   simp only [kv, kz, ky, kj, zd, ze]
   rfl
  refine zh (i := 13) (N := some 16) (v := undef) (a' := ?_) #[km,km,km,km,km,km,km,km,km,km,km,km,km,km,ku,ku,ku] rfl rfl (zf HT_.1 (by kernel_rfl)) (fun _ _ _ h => h) (kc ⟨by rfl, rfl⟩) ?_ ?_
  rotate_left
  ·
   simp only [kv, kz, ky, kj, zd, ze]
   rfl
  refine zh (i := 14) (N := some 17) (v := undef) (a' := ?_) #[km,km,km,km,km,km,km,km,km,km,km,km,km,km,km,ku,ku] rfl rfl (zf HT_.1 (by kernel_rfl)) (fun _ _ _ h => h) (kc ⟨by rfl, rfl⟩) ?_ ?_
  rotate_left
  ·
   simp only [kv, kz, ky, kj, zd, ze]
   rfl
  refine zh (i := 15) (N := some 18) (v := ?_) (a' := ?_) #[km,km,km,km,km,km,km,km,km,km,km,km,km,km,km,km,ku] rfl rfl (zf HT_.1 (by kernel_rfl)) (fun _ _ _ h => h) (kg ⟨by rfl, ?_⟩) ?_ ?_
  rotate_left
  ·
   intro w'
   go_simp
   with_reducible rfl
  rotate_left
  ·
   simp only [kv, kz, ky, kj, zd, ze]
   rfl
  refine zh (i := 16) (N := some 2) (v := ?_) (a' := ?_) #[km,km,km,km,km,km,km,km,km,km,km,km,km,km,km,km,km] rfl rfl (zf HT_.1 (by kernel_rfl)) (fun _ _ _ h => h) (kg ⟨by rfl, ?_⟩) ?_ ?_
  rotate_left
  ·
   intro w'
   go_simp
   with_reducible rfl
  rotate_left
  ·
   simp only [kv, kz, ky, kj, zd, ze]
   rfl
  refine done_ (done_of HT_.1 (by kernel_rfl)) ?_
  try go_wp2
  go_ret
  exact ⟨by rfl, by repeat ((with_reducible first | exact HB.1 | apply za))⟩
/-! ### spec_l3Good: function 44 -/
def spec_l3Good.l0 : Nat → List (S45) → List (S45) → Int → Int → Option (Bool)
 | 0, _, _, _, _ => none
 | k + 1, x0, x5, x6, x7 => if x7 < x6 then (if 0 ≤ x7 then (if x7 < (x5.length : Int) then ((spec_GoodPrefix.f ((rd_T45 x5 x7).f0) ((rd_T45 x5 x7).f1)).bind fun t225 => (if t225 = true then (spec_l3Good.l0 k x0 x5 x6 (wrap64 (x7 + 1))) else (some false))) else (none)) else (none)) else (some (decide ((x0.length : Int) ≤ 64)))
def spec_l3Good.f (k : Nat) (l0 : List (S45)) : Option (Bool) := spec_l3Good.l0 k l0 l0 (l0.length : Int) 0
theorem spec_l3Good.calls (k : Nat) (A0 : Option Addr) (c0 : Nat) (l0 : List (S45)) (r : Bool) (w : World) (hr0 : Kd.C k45 w A0 l0.length l0) (hc0 : l0.length ≤ c0) (h : spec_l3Good.f k l0 = some r) :
  Calls Try.prog 44 #[.slice A0 l0.length c0] w fun e w' => e = .returned (.bool r) ∧ Below w.heap.size w w' := by
 have hu45 := Try.underlying45
 have HR0 := kk hr0
 have HC0 := kk hc0
 clear hr0 hc0
 have HB := kk (Below.refl w.heap.size w)
 have H : (spec_l3Good.l0 k l0 l0 (l0.length : Int) 0) = some r := h
 clear h
 have H' := kk H
 clear H
 go_enter Try.func44, Try.ntmps44
 go_wp2
 go_loopg [7] k (fun kq v7 w' => ∃ (x7_1 : Int), v7 = .int .i64 x7_1 ∧ zv (spec_l3Good.l0 kq l0 l0 (l0.length : Int) x7_1 = some r) ∧ zv (kq ≤ k) ∧ zv (Below w.heap.size w w'))
 case atStart => exact ⟨(0), (by rfl), H', ⟨Nat.le_refl _⟩, ⟨by exact HB.1⟩⟩
 case round =>
  clear H'
  obtain ⟨x7_1, rfl, HA, HK1, HB⟩ := hrel
  cases gk with
  | zero => exact absurd HA.1 (by simp [spec_l3Good.l0])
  | succ k1 =>
   have H := HA.1
   clear HA
   simp only [spec_l3Good.l0] at H
   by_cases c2 : x7_1 < (l0.length : Int)
   ·
    rw [if_pos c2] at H
    have c2b0 : decide (x7_1 < (l0.length : Int)) = true := decide_eq_true c2
    clear c2
    by_cases c3 : 0 ≤ x7_1
    ·
     rw [if_pos c3] at H
     have c3b0 : decide (0 ≤ x7_1) = true := decide_eq_true c3
     clear c3
     by_cases c4 : x7_1 < (l0.length : Int)
     ·
      rw [if_pos c4] at H
      have c4b0 : decide (x7_1 < (l0.length : Int)) = true := decide_eq_true c4
      clear c4
      replace H := kf.mp H
      obtain ⟨t225, A50, H⟩ := H
      replace H : (if t225 = true then (spec_l3Good.l0 k1 l0 l0 (l0.length : Int) (wrap64 (x7_1 + 1))) else (some false)) = some r := H
      have A5 := kk A50
      clear A50
      by_cases c6 : t225 = true
      ·
       subst c6
       have H1 : (spec_l3Good.l0 k1 l0 l0 (l0.length : Int) (wrap64 (x7_1 + 1))) = some r := by rw [if_pos rfl] at H; exact H
       clear H
       have H := H1
       clear H1
       have H' := kk H
       clear H
       have p223 : 0 ≤ (x7_1 : Int) := of_decide_eq_true (by (with_reducible assumption))
       have q223 : x7_1 < (l0.length : Int) := of_decide_eq_true (by (with_reducible assumption))
       obtain ⟨ad223, e223, hx223_0, hx223_1⟩ := at_T45 HR0.1 x7_1 p223 q223
       cases e223
       try replace hx223_0 := (HB.1.cell (World.block_lt_of_cell? w _ hx223_0)).trans hx223_0
       try replace hx223_1 := (HB.1.cell (World.block_lt_of_cell? w _ hx223_1)).trans hx223_1
       replace p223 := eq_true p223
       replace q223 := eq_true q223
       go_wp2_with (first | ((with_reducible refine zs (N := 4) rfl ?_); refine zp rfl (N := 4) rfl (cs := #[.int .i64 0, .int .i64 0]) (t := 45) ?hr ?_; (case hr => go_simp; done); intro gb224 hg w7 hbox hb; have zB := kk hbox; have zF := kk (by rw [hg]; exact (zi HB.1) : w.heap.size ≤ gb224); replace HB := kk (zj HB.1 hb); clear hb hbox hg; have hcz8_0 : w7.cell? ⟨gb224, 0, none⟩ = some (.int .i64 0) := (zg zB.1 0).trans rfl; have hcz8_1 : w7.cell? ⟨gb224, 1, none⟩ = some (.int .i64 0) := (zg zB.1 1).trans rfl; have hfz8_0 := blk_frozen zB.1 0; have hfz8_1 := blk_frozen zB.1 1) | ((with_reducible refine gate_callee (f := 68) rfl ?_); refine goesL_ (some 12) rfl rfl Try.func68 (by kernel_rfl) rfl #[.agg #[.int .i64 ((rd_T45 l0 x7_1).f0), .int .i64 ((rd_T45 l0 x7_1).f1)]] rfl (by (try simp only [kh, ke, kb]); rfl) ?_; (with_reducible refine (spec_GoodPrefix.calls ((rd_T45 l0 x7_1).f0) ((rd_T45 l0 x7_1).f1) true _ A5.1).mono ?_); rintro e w9 ⟨rfl, hb⟩; refine ⟨_, rfl, ?_⟩; replace zB := kk (blk_below (g := gb224) (o := .cells #[.int .i64 ((rd_T45 l0 x7_1).f0), .int .i64 ((rd_T45 l0 x7_1).f1)] 45 (0, 0)) (by refine blk_put (cs := #[.int .i64 ((rd_T45 l0 x7_1).f0), .int .i64 0]) ?_ 1 _ rfl; refine blk_put (cs := #[.int .i64 0, .int .i64 0]) ?_ 0 _ rfl; exact zB.1) hb); replace HB := kk (zj (by repeat ((with_reducible first | exact HB.1 | refine zk ?_ zF.1))) hb)))
       go_roundg k1
       case measure => have := HK1.1; omega
       case rel => exact ⟨(wrap64 (x7_1 + 1)), (by rfl), H', ⟨by have := HK1.1; omega⟩, ⟨by exact HB.1⟩⟩
      ·
       replace c6 := kx.mpr c6
       subst c6
       have H1 : (some false) = some r := by rw [if_neg (show ¬ (false = true) by decide)] at H; exact H
       clear H
       have H := H1
       clear H1
       obtain rfl := kd H
       have p223 : 0 ≤ (x7_1 : Int) := of_decide_eq_true (by (with_reducible assumption))
       have q223 : x7_1 < (l0.length : Int) := of_decide_eq_true (by (with_reducible assumption))
       obtain ⟨ad223, e223, hx223_0, hx223_1⟩ := at_T45 HR0.1 x7_1 p223 q223
       cases e223
       try replace hx223_0 := (HB.1.cell (World.block_lt_of_cell? w _ hx223_0)).trans hx223_0
       try replace hx223_1 := (HB.1.cell (World.block_lt_of_cell? w _ hx223_1)).trans hx223_1
       replace p223 := eq_true p223
       replace q223 := eq_true q223
       go_wp2_with (first | ((with_reducible refine zs (N := 4) rfl ?_); refine zp rfl (N := 4) rfl (cs := #[.int .i64 0, .int .i64 0]) (t := 45) ?hr ?_; (case hr => go_simp; done); intro gb224 hg w10 hbox hb; have zB := kk hbox; have zF := kk (by rw [hg]; exact (zi HB.1) : w.heap.size ≤ gb224); replace HB := kk (zj HB.1 hb); clear hb hbox hg; have hcz11_0 : w10.cell? ⟨gb224, 0, none⟩ = some (.int .i64 0) := (zg zB.1 0).trans rfl; have hcz11_1 : w10.cell? ⟨gb224, 1, none⟩ = some (.int .i64 0) := (zg zB.1 1).trans rfl; have hfz11_0 := blk_frozen zB.1 0; have hfz11_1 := blk_frozen zB.1 1) | ((with_reducible refine gate_callee (f := 68) rfl ?_); refine goesL_ (some 12) rfl rfl Try.func68 (by kernel_rfl) rfl #[.agg #[.int .i64 ((rd_T45 l0 x7_1).f0), .int .i64 ((rd_T45 l0 x7_1).f1)]] rfl (by (try simp only [kh, ke, kb]); rfl) ?_; (with_reducible refine (spec_GoodPrefix.calls ((rd_T45 l0 x7_1).f0) ((rd_T45 l0 x7_1).f1) false _ A5.1).mono ?_); rintro e w12 ⟨rfl, hb⟩; refine ⟨_, rfl, ?_⟩; replace HB := kk (zj (by repeat ((with_reducible first | exact HB.1 | refine zk ?_ zF.1))) hb)))
       go_ret
       exact ⟨by rfl, by exact HB.1⟩
     ·
      rw [if_neg c4] at H
      exact absurd H (by simp)
    ·
     rw [if_neg c3] at H
     exact absurd H (by simp)
   ·
    rw [if_neg c2] at H
    have c2b0 : decide (x7_1 < (l0.length : Int)) = false := decide_eq_false c2
    clear c2
    obtain rfl := kd H
    go_wp2
    go_ret
    exact ⟨by rfl, by exact HB.1⟩
/-! ### spec_l1HasAddr: function 53 -/
def spec_l1HasAddr.f (a0_0 : Int) (a0_1 : Int) (a1 : Int) : Option (Bool) := (spec_l1Size.f a0_0 a0_1).bind fun t227 => (if t227 = 0 then (none) else (some ((wrap64 (a1 - (ko a1 t227))) == a0_0)))
def spec_l1HasAddr.T1 : Bool × List (List Nat × List Nat) := (true, [([], []), ([], []), ([], []), ([2], [2]), ([1, 3], [1, 3]), ([0, 4], [0, 4]), ([], []), ([6], [6]), ([5, 7], [5, 7]), ([8, 3, 0, 1, 2, 3, 4, 5, 6, 7, 8], [8])])
def spec_l1HasAddr.B1 : List Nat := [0, 0, 0, 4, 14, 31, 0, 64, 255, 511]
theorem spec_l1HasAddr.tab1 : rtab .any (opsOf Try.f53 1) = spec_l1HasAddr.T1 := by kernel_rfl
theorem spec_l1HasAddr.bits1 : waitsOk spec_l1HasAddr.T1.2 spec_l1HasAddr.B1 = true := by kernel_rfl
theorem spec_l1HasAddr.calls (a0_0 : Int) (a0_1 : Int) (a1 : Int) (r : Bool) (w : World) (h : spec_l1HasAddr.f a0_0 a0_1 a1 = some r) :
  Calls Try.prog 53 #[.agg #[.int .i64 a0_0, .int .i64 a0_1], .int .i64 a1] w fun e w' => e = .returned (.bool r) ∧ Below w.heap.size w w' := by
 have hu45 := Try.underlying45
 have HB := kk (Below.refl w.heap.size w)
 have H : ((spec_l1Size.f a0_0 a0_1).bind fun t227 => (if t227 = 0 then (none) else (some ((wrap64 (a1 - (ko a1 t227))) == a0_0)))) = some r := h
 clear h
 replace H := kf.mp H
 obtain ⟨t227, A30, H⟩ := H
 replace H : (if t227 = 0 then (none) else (some ((wrap64 (a1 - (ko a1 t227))) == a0_0))) = some r := H
 have A3 := kk A30
 clear A30
 by_cases c4 : t227 = 0
 ·
  rw [if_pos c4] at H
  exact absurd H (by simp)
 ·
  rw [if_neg c4] at H
  have c4b0 : (t227 == 0) = false := beq_eq_false_iff_ne.mpr c4
  have c4b1 : (t227 != 0) = true := bne_iff_ne.mpr c4
  obtain rfl := kd H
  go_enter Try.func53, Try.ntmps53
  try go_wp2_with (((with_reducible refine zs (N := 2) rfl ?_); refine zp rfl (N := 2) rfl (cs := #[.int .i64 a0_0, .int .i64 a0_1]) (t := 45) ?hr ?_; (case hr => go_simp; done); intro gb226 hg w5 hbox hb; replace HB := kk (zj HB.1 hb); have zC := kk hbox; clear hb hbox hg))
  replace zC := kk (zl zC.1)
  replace HB := kk (zb HB.1)
  refine start_ (n := 10) (S := fun w' => w'.cell? ⟨gb226, 0, none⟩ = some (.int .i64 a0_0) ∧ w'.cell? ⟨gb226, 1, none⟩ = some (.int .i64 a0_1)) (ds := []) #[ku,ku,ku,ku,ku,ku,ku,ku,ku,ku] (by kernel_rfl) rfl rfl ⟨(zg zC.1 0).trans rfl, (zg zC.1 1).trans rfl⟩ (fun hHeld => ?_); refine with_tabW spec_l1HasAddr.tab1 spec_l1HasAddr.bits1 (fun HT_ HW_ => ?_)
  generalize w5.drew = w6 at zC HB hHeld ⊢
  refine zh (i := 0) (N := some 5) (v := ?_) (a' := ?_) #[km,ku,ku,ku,ku,ku,ku,ku,ku,ku] rfl rfl (zf HT_.1 (by kernel_rfl)) (fun _ _ _ h => h) (kg ⟨by rfl, ?_⟩) ?_ ?_
  rotate_left
  ·
   intro w'
   go_simp
   with_reducible rfl
  rotate_left
  ·
   simp only [kv, kz, ky, kj, zd, ze]
   rfl
  refine zh (i := 1) (N := some 6) (v := ?_) (a' := ?_) #[km,km,ku,ku,ku,ku,ku,ku,ku,ku] rfl rfl (zf HT_.1 (by kernel_rfl)) (fun _ _ _ h => h) (kg ⟨by rfl, ?_⟩) ?_ ?_
  rotate_left
  ·
   intro w'
   go_simp
   with_reducible rfl
  rotate_left
  ·
   simp only [kv, kz, ky, kj, zd, ze]
   rfl
  refine zh (i := 6) (N := some 11) (v := ?_) (a' := ?_) #[km,km,ku,ku,ku,ku,km,ku,ku,ku] rfl rfl (zf HT_.1 (by kernel_rfl)) (fun _ _ _ h => h) (kg ⟨by rfl, ?_⟩) ?_ ?_
  rotate_left
  ·
   intro w'
   go_simp
   with_reducible rfl
  rotate_left
  ·
   simp only [kv, kz, ky, kj, zd, ze]
   rfl
  refine zw (i := 2) (N := some 7) (v := ?_) (a' := ?_) #[km,km,km,ku,ku,ku,km,ku,ku,ku] rfl rfl (zo HT_.1 HW_.1 (by kernel_rfl)) (fun _ _ _ h => h) (kg ⟨by rfl, ?_⟩) hHeld ?_ ?_
  rotate_left
  ·
   rintro w' ⟨s0, s1⟩
   go_simp
   with_reducible rfl
  rotate_left
  ·
   simp only [kv, kz, ky, kj, zd, ze]
   rfl
  refine zw (i := 7) (N := some 12) (v := ?_) (a' := ?_) #[km,km,km,ku,ku,ku,km,km,ku,ku] rfl rfl (zo HT_.1 HW_.1 (by kernel_rfl)) (fun _ _ _ h => h) (kg ⟨by rfl, ?_⟩) hHeld ?_ ?_
  rotate_left
  ·
   rintro w' ⟨s0, s1⟩
   go_simp
   with_reducible rfl
  rotate_left
  ·
   simp only [kv, kz, ky, kj, zd, ze]
   rfl
  refine one_ (i := 3) (N := some 8) #[km,km,km,km,ku,ku,km,km,ku,ku] rfl rfl (zu HT_.1 (by kernel_rfl)) (by decide) (fun K hK => ?_)
  refine zy Try.func62 (by kernel_rfl) rfl #[.agg #[.int .i64 a0_0, .int .i64 a0_1]] (by rfl) rfl rfl (by (try simp only [kh, ke, kb]); rfl) ?_
  with_reducible refine (spec_l1Size.calls a0_0 a0_1 t227 _ A3.1).mono ?_
  rintro e w7 ⟨rfl, hb⟩
  refine ⟨_, rfl, ?_⟩
  replace zC := kk (blk_below zC.1 hb)
  replace HB := kk (zj HB.1 hb)
  refine hK.out _ _ ⟨(zg zC.1 0).trans rfl, (zg zC.1 1).trans rfl⟩ (fun hHeld => ?_)
  clear hK K
  refine zx (a' := ?_) ?_ ?_
  rotate_left
  ·
   show kv _ (some 8) _ = _
   simp only [kv, kz, ky, kj, zd, ze]
   rfl
  refine zh (i := 4) (N := some 9) (v := ?_) (a' := ?_) #[km,km,km,km,km,ku,km,km,ku,ku] rfl rfl (zf HT_.1 (by kernel_rfl)) (fun _ _ _ h => h) (kg ⟨by rfl, ?_⟩) ?_ ?_
  rotate_left
  ·
   intro w'
   go_simp
   with_reducible rfl
  rotate_left
  ·
   simp only [kv, kz, ky, kj, zd, ze]
   rfl
  refine zh (i := 5) (N := some 10) (v := ?_) (a' := ?_) #[km,km,km,km,km,km,km,km,ku,ku] rfl rfl (zf HT_.1 (by kernel_rfl)) (fun _ _ _ h => h) (kg ⟨by rfl, ?_⟩) ?_ ?_
  rotate_left
  ·
   intro w'
   go_simp
   with_reducible rfl
  rotate_left
  ·
   simp only [kv, kz, ky, kj, zd, ze]
   rfl
  refine zh (i := 8) (N := some 13) (v := ?_) (a' := ?_) #[km,km,km,km,km,km,km,km,km,ku] rfl rfl (zf HT_.1 (by kernel_rfl)) (fun _ _ _ h => h) (kg ⟨by rfl, ?_⟩) ?_ ?_
  rotate_left
  ·
   intro w'
   go_simp
   with_reducible rfl
  rotate_left
  ·
   simp only [kv, kz, ky, kj, zd, ze]
   rfl
  refine zh (i := 9) (N := some 4) (v := ?_) (a' := ?_) #[km,km,km,km,km,km,km,km,km,km] rfl rfl (zf HT_.1 (by kernel_rfl)) (fun _ _ _ h => h) (kg ⟨by rfl, ?_⟩) ?_ ?_
  rotate_left
  ·
   intro w'
   go_simp
   with_reducible rfl
  rotate_left
  ·
   simp only [kv, kz, ky, kj, zd, ze]
   rfl
  refine done_ (done_of HT_.1 (by kernel_rfl)) ?_
  try go_wp2
  go_ret
  exact ⟨by rfl, by exact HB.1⟩
end Go.Proofs.Ytabejlfejlpkeaa.PFnRanges
