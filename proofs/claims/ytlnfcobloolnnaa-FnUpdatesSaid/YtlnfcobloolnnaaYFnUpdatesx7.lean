/- Go functions told by Lean functions, printed by a program. No condition but what each statement says. -/
import Derived.Test.YtlnfcobloolnnaaYFnUpdatesx6
namespace Go.Proofs.Ytlnfcobloolnnaa.PFnUpdates
open Go.RowKit Go.Proofs.YtlnfcobloolnnaaW.PrintWords Go.Proofs.YtlnfcobloolnnaaW.PrintLast Go.Proofs.YtlnfcobloolnnaaW.PrintMore
open List renaming setIfInBounds_toArray → kz, set_cons_zero → ky, set_cons_succ → kj, map_toArray → kg, map_cons → ke, map_nil → kc
open Act renaming put → kk
open Aside0 renaming mk → kv
open Or renaming inl → kh, inr → kd
open Option.some renaming inj → kf
open Option renaming bind_eq_some_iff → kb
open Int renaming tmod → ko
open Bool renaming true → kx, false → km
set_option maxHeartbeats 8000000
set_option maxRecDepth 100000
open Go.Proofs.YtlnfcobloolnnaaW.PrintLast renaming i64_w → zf, i32_w → zg, any_of → zh, pure_ → zj, take_ofW → zo, take_ → zp
open Go.Proofs.YtlnfcobloolnnaaW.PrintWords renaming pw_below_drewN → za, below_drew1 → zb, blk_cell → zc, blk_drew → zl, blk_drewN → zm
attribute [local go_sem] max2_int min2_int max_two min_two max_three min_three max_four min_four
set_option linter.unusedVariables false
set_option linter.unusedSimpArgs false
attribute [local go_sem high] eqA35
/-! ### spec_GoodPrefix: function 56 -/
def spec_GoodPrefix.f (a0_0 : Int) (a0_1 : Int) : Option (Bool) := (spec_l1In.f a0_1 0 32).bind fun t166 => (if t166 = true then ((spec_l1Addr.f a0_0).bind fun t167 => (if t167 = true then ((spec_l1Size.f a0_0 a0_1).bind fun t168 => (if t168 = 0 then (none) else (some ((ko a0_0 t168) == 0)))) else (some false))) else (some false))
def spec_GoodPrefix.T1 : Bool × List (List Nat × List Nat) := (true, [([], []), ([0], [0]), ([1], [1]), ([2, 2], [2]), ([3], [3]), ([4, 3], [3, 4]), ([5, 3, 3], [3, 5]), ([3, 6], [3, 6]), ([7, 6], [7]), ([8], [8]), ([9, 8], [8, 9]), ([8], [8]), ([11, 8, 8], [8, 11]), ([10, 12, 8], [8, 10, 12]), ([13, 8], [8, 13]), ([8, 14], [8, 14]), ([15, 12, 0, 1, 2, 3, 4, 5, 6, 7, 8, 9, 10, 11, 12, 13, 14, 15], [15])])
def spec_GoodPrefix.B1 : List Nat := [0, 1, 3, 7, 15, 31, 63, 127, 255, 511, 1023, 511, 2559, 8191, 16383, 32767, 65535]
theorem spec_GoodPrefix.tab1 : rtab .any (opsOf Try.f56 1) = spec_GoodPrefix.T1 := by kernel_rfl
theorem spec_GoodPrefix.bits1 : waitsOk spec_GoodPrefix.T1.2 spec_GoodPrefix.B1 = true := by kernel_rfl
theorem spec_GoodPrefix.calls (a0_0 : Int) (a0_1 : Int) (r : Bool) (w : World) (h : spec_GoodPrefix.f a0_0 a0_1 = some r) :
  Calls Try.prog 56 #[.agg #[.int .i64 a0_0, .int .i64 a0_1]] w fun e w' => e = .returned (.bool r) ∧ Below w.heap.size w w' := by
 have hu35 := Try.underlying35
 have HB := kv (Below.refl w.heap.size w)
 have H : ((spec_l1In.f a0_1 0 32).bind fun t166 => (if t166 = true then ((spec_l1Addr.f a0_0).bind fun t167 => (if t167 = true then ((spec_l1Size.f a0_0 a0_1).bind fun t168 => (if t168 = 0 then (none) else (some ((ko a0_0 t168) == 0)))) else (some false))) else (some false))) = some r := h
 clear h
 replace H := kb.mp H
 obtain ⟨t166, A20, H⟩ := H
 have A2 := kv A20
 clear A20
 by_cases c3 : t166 = true
 ·
  subst c3
  rw [if_pos rfl] at H
  replace H := kb.mp H
  obtain ⟨t167, A40, H⟩ := H
  have A4 := kv A40
  clear A40
  by_cases c5 : t167 = true
  ·
   subst c5
   rw [if_pos rfl] at H
   replace H := kb.mp H
   obtain ⟨t168, A60, H⟩ := H
   have A6 := kv A60
   clear A60
   by_cases c7 : t168 = 0
   ·
    rw [if_pos c7] at H
    exact absurd H (by simp)
   ·
    rw [if_neg c7] at H
    have c7b0 : (t168 == 0) = false := beq_eq_false_iff_ne.mpr c7
    have c7b1 : (t168 != 0) = true := bne_iff_ne.mpr c7
    obtain rfl := kf H
    go_enter Try.func56, Try.ntmps56
    try go_wp2_with (((with_reducible refine gate_dst (N := 1) rfl ?_); refine box_event ?hg (N := 1) ?hd (cs := #[.int .i64 a0_0, .int .i64 a0_1]) (t := 35) ?hr ?_; (case hd => rfl); (case hg => rfl); (case hr => (go_simp; done)); intro gb165 hg w8 hbox hb; replace HB := kv (below_step HB.1 hb); have zq := kv hbox; clear hb hbox hg))
    replace zq := kv (zl zq.1)
    replace HB := kv (zb HB.1)
    refine start_ (n := 17) (S := fun w' => w'.cell? ⟨gb165, 0, none⟩ = some (.int .i64 a0_0) ∧ w'.cell? ⟨gb165, 1, none⟩ = some (.int .i64 a0_1)) (ds := []) #[km,km,km,km,km,km,km,km,km,km,km,km,km,km,km,km,km] (by kernel_rfl) rfl rfl ⟨(zc zq.1 0).trans rfl, (zc zq.1 1).trans rfl⟩ (fun hHeld => ?_); refine with_tabW spec_GoodPrefix.tab1 spec_GoodPrefix.bits1 (fun HT_ HW_ => ?_)
    generalize w8.drew = w9 at zq HB hHeld ⊢
    refine zj (i := 0) (N := some 3) (v := ?_) (a' := ?_) #[kx,km,km,km,km,km,km,km,km,km,km,km,km,km,km,km,km] rfl rfl (zh HT_.1 (by kernel_rfl)) (fun _ _ _ h => h) (kh ⟨by rfl, ?_⟩) ?_ ?_
    rotate_left
    ·
     intro w'
     go_simp
     with_reducible rfl
    rotate_left
    ·
     simp only [kk, kz, ky, kj, zf, zg]
     rfl
    refine zp (i := 1) (N := some 4) (v := ?_) (a' := ?_) #[kx,kx,km,km,km,km,km,km,km,km,km,km,km,km,km,km,km] rfl rfl (zo HT_.1 HW_.1 (by kernel_rfl)) (fun _ _ _ h => h) (kh ⟨by rfl, ?_⟩) hHeld ?_ ?_
    rotate_left
    ·
     rintro w' ⟨s0, s1⟩
     go_simp
     with_reducible rfl
    rotate_left
    ·
     simp only [kk, kz, ky, kj, zf, zg]
     rfl
    refine one_ (i := 2) (N := some 5) #[kx,kx,kx,km,km,km,km,km,km,km,km,km,km,km,km,km,km] rfl rfl (one_of HT_.1 (by kernel_rfl)) (by decide) (fun K hK => ?_)
    refine goes_ Try.func47 (by kernel_rfl) rfl #[.int .i64 a0_1, .int .i64 0, .int .i64 32] (by rfl) rfl rfl (by (try simp only [kg, ke, kc]); rfl) ?_
    with_reducible refine (spec_l1In.calls a0_1 0 32 true _ A2.1).mono ?_
    rintro e w' ⟨rfl, ⟨nd, rfl⟩⟩
    refine ⟨_, rfl, ?_⟩
    refine hK.out _ _ ⟨(zc zq.1 0).trans rfl, (zc zq.1 1).trans rfl⟩ (fun hHeld => ?_)
    clear hK K
    refine norm_ (a' := ?_) ?_ ?_
    rotate_left
    ·
     show kk _ (some 5) _ = _
     simp only [kk, kz, ky, kj, zf, zg]
     rfl
    refine zj (i := 3) (N := some 6) (v := ?_) (a' := ?_) #[kx,kx,kx,kx,km,km,km,km,km,km,km,km,km,km,km,km,km] rfl rfl (zh HT_.1 (by kernel_rfl)) (fun _ _ _ h => h) (kh ⟨by rfl, ?_⟩) ?_ ?_
    rotate_left
    ·
     intro w'
     go_simp
     with_reducible rfl
    rotate_left
    ·
     simp only [kk, kz, ky, kj, zf, zg]
     rfl
    refine zj (i := 4) (N := some 7) (v := ?_) (a' := ?_) #[kx,kx,kx,kx,kx,km,km,km,km,km,km,km,km,km,km,km,km] rfl rfl (zh HT_.1 (by kernel_rfl)) (fun _ _ _ h => h) (kh ⟨by rfl, ?_⟩) ?_ ?_
    rotate_left
    ·
     intro w'
     go_simp
     with_reducible rfl
    rotate_left
    ·
     simp only [kk, kz, ky, kj, zf, zg]
     rfl
    refine zp (i := 5) (N := some 8) (v := ?_) (a' := ?_) #[kx,kx,kx,kx,kx,kx,km,km,km,km,km,km,km,km,km,km,km] rfl rfl (zo HT_.1 HW_.1 (by kernel_rfl)) (fun _ _ _ h => h) (kh ⟨by rfl, ?_⟩) hHeld ?_ ?_
    rotate_left
    ·
     rintro w' ⟨s0, s1⟩
     go_simp
     with_reducible rfl
    rotate_left
    ·
     simp only [kk, kz, ky, kj, zf, zg]
     rfl
    refine one_ (i := 6) (N := some 9) #[kx,kx,kx,kx,kx,kx,kx,km,km,km,km,km,km,km,km,km,km] rfl rfl (one_of HT_.1 (by kernel_rfl)) (by decide) (fun K hK => ?_)
    refine goes_ Try.func48 (by kernel_rfl) rfl #[.int .i64 a0_0] (by rfl) rfl rfl (by (try simp only [kg, ke, kc]); rfl) ?_
    with_reducible refine (spec_l1Addr.calls a0_0 true _ A4.1).mono ?_
    rintro e w' ⟨rfl, ⟨nd, rfl⟩⟩
    refine ⟨_, rfl, ?_⟩
    refine hK.out _ _ ⟨(zc zq.1 0).trans rfl, (zc zq.1 1).trans rfl⟩ (fun hHeld => ?_)
    clear hK K
    refine norm_ (a' := ?_) ?_ ?_
    rotate_left
    ·
     show kk _ (some 9) _ = _
     simp only [kk, kz, ky, kj, zf, zg]
     rfl
    refine zj (i := 7) (N := some 10) (v := ?_) (a' := ?_) #[kx,kx,kx,kx,kx,kx,kx,kx,km,km,km,km,km,km,km,km,km] rfl rfl (zh HT_.1 (by kernel_rfl)) (fun _ _ _ h => h) (kh ⟨by rfl, ?_⟩) ?_ ?_
    rotate_left
    ·
     intro w'
     go_simp
     with_reducible rfl
    rotate_left
    ·
     simp only [kk, kz, ky, kj, zf, zg]
     rfl
    refine zj (i := 8) (N := some 11) (v := ?_) (a' := ?_) #[kx,kx,kx,kx,kx,kx,kx,kx,kx,km,km,km,km,km,km,km,km] rfl rfl (zh HT_.1 (by kernel_rfl)) (fun _ _ _ h => h) (kh ⟨by rfl, ?_⟩) ?_ ?_
    rotate_left
    ·
     intro w'
     go_simp
     with_reducible rfl
    rotate_left
    ·
     simp only [kk, kz, ky, kj, zf, zg]
     rfl
    refine zj (i := 9) (N := some 12) (v := ?_) (a' := ?_) #[kx,kx,kx,kx,kx,kx,kx,kx,kx,kx,km,km,km,km,km,km,km] rfl rfl (zh HT_.1 (by kernel_rfl)) (fun _ _ _ h => h) (kh ⟨by rfl, ?_⟩) ?_ ?_
    rotate_left
    ·
     intro w'
     go_simp
     with_reducible rfl
    rotate_left
    ·
     simp only [kk, kz, ky, kj, zf, zg]
     rfl
    refine zp (i := 10) (N := some 13) (v := ?_) (a' := ?_) #[kx,kx,kx,kx,kx,kx,kx,kx,kx,kx,kx,km,km,km,km,km,km] rfl rfl (zo HT_.1 HW_.1 (by kernel_rfl)) (fun _ _ _ h => h) (kh ⟨by rfl, ?_⟩) hHeld ?_ ?_
    rotate_left
    ·
     rintro w' ⟨s0, s1⟩
     go_simp
     with_reducible rfl
    rotate_left
    ·
     simp only [kk, kz, ky, kj, zf, zg]
     rfl
    refine zp (i := 11) (N := some 14) (v := ?_) (a' := ?_) #[kx,kx,kx,kx,kx,kx,kx,kx,kx,kx,kx,kx,km,km,km,km,km] rfl rfl (zo HT_.1 HW_.1 (by kernel_rfl)) (fun _ _ _ h => h) (kh ⟨by rfl, ?_⟩) hHeld ?_ ?_
    rotate_left
    ·
     rintro w' ⟨s0, s1⟩
     go_simp
     with_reducible rfl
    rotate_left
    ·
     simp only [kk, kz, ky, kj, zf, zg]
     rfl
    refine one_ (i := 12) (N := some 15) #[kx,kx,kx,kx,kx,kx,kx,kx,kx,kx,kx,kx,kx,km,km,km,km] rfl rfl (one_of HT_.1 (by kernel_rfl)) (by decide) (fun K hK => ?_)
    refine goes_ Try.func101 (by kernel_rfl) rfl #[.agg #[.int .i64 a0_0, .int .i64 a0_1]] (by rfl) rfl rfl (by (try simp only [kg, ke, kc]); rfl) ?_
    with_reducible refine (spec_l1Size.calls a0_0 a0_1 t168 _ A6.1).mono ?_
    rintro e w10 ⟨rfl, hb⟩
    refine ⟨_, rfl, ?_⟩
    replace zq := kv (blk_below (g := gb165) (o := .cells #[.int .i64 a0_0, .int .i64 a0_1] 35 (0, 0)) (by (with_reducible repeat (refine zm ?_ _)); exact zq.1) hb)
    replace HB := kv (below_step (by repeat ((with_reducible first | exact HB.1 | apply za))) hb)
    (try clear hb)
    (try clear hb2)
    (try clear hk)
    (try clear hi)
    refine hK.out _ _ ⟨(zc zq.1 0).trans rfl, (zc zq.1 1).trans rfl⟩ (fun hHeld => ?_)
    clear hK K
    refine norm_ (a' := ?_) ?_ ?_
    rotate_left
    ·
     show kk _ (some 15) _ = _
     simp only [kk, kz, ky, kj, zf, zg]
     rfl
    refine zj (i := 13) (N := some 16) (v := ?_) (a' := ?_) #[kx,kx,kx,kx,kx,kx,kx,kx,kx,kx,kx,kx,kx,kx,km,km,km] rfl rfl (zh HT_.1 (by kernel_rfl)) (fun _ _ _ h => h) (kh ⟨by rfl, ?_⟩) ?_ ?_
    rotate_left
    ·
     intro w'
     go_simp
     with_reducible rfl
    rotate_left
    ·
     simp only [kk, kz, ky, kj, zf, zg]
     rfl
    refine zj (i := 14) (N := some 17) (v := ?_) (a' := ?_) #[kx,kx,kx,kx,kx,kx,kx,kx,kx,kx,kx,kx,kx,kx,kx,km,km] rfl rfl (zh HT_.1 (by kernel_rfl)) (fun _ _ _ h => h) (kh ⟨by rfl, ?_⟩) ?_ ?_
    rotate_left
    ·
     intro w'
     go_simp
     with_reducible rfl
    rotate_left
    ·
     simp only [kk, kz, ky, kj, zf, zg]
     rfl
    refine zj (i := 15) (N := some 18) (v := ?_) (a' := ?_) #[kx,kx,kx,kx,kx,kx,kx,kx,kx,kx,kx,kx,kx,kx,kx,kx,km] rfl rfl (zh HT_.1 (by kernel_rfl)) (fun _ _ _ h => h) (kh ⟨by rfl, ?_⟩) ?_ ?_
    rotate_left
    ·
     intro w'
     go_simp
     with_reducible rfl
    rotate_left
    ·
     simp only [kk, kz, ky, kj, zf, zg]
     rfl
    refine zj (i := 16) (N := some 2) (v := ?_) (a' := ?_) #[kx,kx,kx,kx,kx,kx,kx,kx,kx,kx,kx,kx,kx,kx,kx,kx,kx] rfl rfl (zh HT_.1 (by kernel_rfl)) (fun _ _ _ h => h) (kh ⟨by rfl, ?_⟩) ?_ ?_
    rotate_left
    ·
     intro w'
     go_simp
     with_reducible rfl
    rotate_left
    ·
     simp only [kk, kz, ky, kj, zf, zg]
     rfl
    refine done_ (done_of HT_.1 (by kernel_rfl)) ?_
    try go_wp2
    go_ret
    exact ⟨by rfl, by exact HB.1⟩
  ·
   replace c5 := Bool.eq_false_iff.mpr c5
   subst c5
   rw [if_neg (show ¬ (false = true) by decide)] at H
   obtain rfl := kf H
   go_enter Try.func56, Try.ntmps56
   try go_wp2_with (((with_reducible refine gate_dst (N := 1) rfl ?_); refine box_event ?hg (N := 1) ?hd (cs := #[.int .i64 a0_0, .int .i64 a0_1]) (t := 35) ?hr ?_; (case hd => rfl); (case hg => rfl); (case hr => (go_simp; done)); intro gb165 hg w11 hbox hb; replace HB := kv (below_step HB.1 hb); have zq := kv hbox; clear hb hbox hg))
   replace zq := kv (zl zq.1)
   replace HB := kv (zb HB.1)
   refine start_ (n := 17) (S := fun w' => w'.cell? ⟨gb165, 0, none⟩ = some (.int .i64 a0_0) ∧ w'.cell? ⟨gb165, 1, none⟩ = some (.int .i64 a0_1)) (ds := []) #[km,km,km,km,km,km,km,km,km,km,km,km,km,km,km,km,km] (by kernel_rfl) rfl rfl ⟨(zc zq.1 0).trans rfl, (zc zq.1 1).trans rfl⟩ (fun hHeld => ?_); refine with_tabW spec_GoodPrefix.tab1 spec_GoodPrefix.bits1 (fun HT_ HW_ => ?_)
   generalize w11.drew = w12 at zq HB hHeld ⊢
   refine zj (i := 0) (N := some 3) (v := ?_) (a' := ?_) #[kx,km,km,km,km,km,km,km,km,km,km,km,km,km,km,km,km] rfl rfl (zh HT_.1 (by kernel_rfl)) (fun _ _ _ h => h) (kh ⟨by rfl, ?_⟩) ?_ ?_
   rotate_left
   ·
    intro w'
    go_simp
    with_reducible rfl
   rotate_left
   ·
    simp only [kk, kz, ky, kj, zf, zg]
    rfl
   refine zp (i := 1) (N := some 4) (v := ?_) (a' := ?_) #[kx,kx,km,km,km,km,km,km,km,km,km,km,km,km,km,km,km] rfl rfl (zo HT_.1 HW_.1 (by kernel_rfl)) (fun _ _ _ h => h) (kh ⟨by rfl, ?_⟩) hHeld ?_ ?_
   rotate_left
   ·
    rintro w' ⟨s0, s1⟩
    go_simp
    with_reducible rfl
   rotate_left
   ·
    simp only [kk, kz, ky, kj, zf, zg]
    rfl
   refine one_ (i := 2) (N := some 5) #[kx,kx,kx,km,km,km,km,km,km,km,km,km,km,km,km,km,km] rfl rfl (one_of HT_.1 (by kernel_rfl)) (by decide) (fun K hK => ?_)
   refine goes_ Try.func47 (by kernel_rfl) rfl #[.int .i64 a0_1, .int .i64 0, .int .i64 32] (by rfl) rfl rfl (by (try simp only [kg, ke, kc]); rfl) ?_
   with_reducible refine (spec_l1In.calls a0_1 0 32 true _ A2.1).mono ?_
   rintro e w' ⟨rfl, ⟨nd, rfl⟩⟩
   refine ⟨_, rfl, ?_⟩
   refine hK.out _ _ ⟨(zc zq.1 0).trans rfl, (zc zq.1 1).trans rfl⟩ (fun hHeld => ?_)
   clear hK K
   refine norm_ (a' := ?_) ?_ ?_
   rotate_left
   ·
    show kk _ (some 5) _ = _
    simp only [kk, kz, ky, kj, zf, zg]
    rfl
   refine zj (i := 3) (N := some 6) (v := ?_) (a' := ?_) #[kx,kx,kx,kx,km,km,km,km,km,km,km,km,km,km,km,km,km] rfl rfl (zh HT_.1 (by kernel_rfl)) (fun _ _ _ h => h) (kh ⟨by rfl, ?_⟩) ?_ ?_
   rotate_left
   ·
    intro w'
    go_simp
    with_reducible rfl
   rotate_left
   ·
    simp only [kk, kz, ky, kj, zf, zg]
    rfl
   refine zj (i := 4) (N := some 7) (v := ?_) (a' := ?_) #[kx,kx,kx,kx,kx,km,km,km,km,km,km,km,km,km,km,km,km] rfl rfl (zh HT_.1 (by kernel_rfl)) (fun _ _ _ h => h) (kh ⟨by rfl, ?_⟩) ?_ ?_
   rotate_left
   ·
    intro w'
    go_simp
    with_reducible rfl
   rotate_left
   ·
    simp only [kk, kz, ky, kj, zf, zg]
    rfl
   refine zp (i := 5) (N := some 8) (v := ?_) (a' := ?_) #[kx,kx,kx,kx,kx,kx,km,km,km,km,km,km,km,km,km,km,km] rfl rfl (zo HT_.1 HW_.1 (by kernel_rfl)) (fun _ _ _ h => h) (kh ⟨by rfl, ?_⟩) hHeld ?_ ?_
   rotate_left
   ·
    rintro w' ⟨s0, s1⟩
    go_simp
    with_reducible rfl
   rotate_left
   ·
    simp only [kk, kz, ky, kj, zf, zg]
    rfl
   refine one_ (i := 6) (N := some 9) #[kx,kx,kx,kx,kx,kx,kx,km,km,km,km,km,km,km,km,km,km] rfl rfl (one_of HT_.1 (by kernel_rfl)) (by decide) (fun K hK => ?_)
   refine goes_ Try.func48 (by kernel_rfl) rfl #[.int .i64 a0_0] (by rfl) rfl rfl (by (try simp only [kg, ke, kc]); rfl) ?_
   with_reducible refine (spec_l1Addr.calls a0_0 false _ A4.1).mono ?_
   rintro e w' ⟨rfl, ⟨nd, rfl⟩⟩
   refine ⟨_, rfl, ?_⟩
   refine hK.out _ _ ⟨(zc zq.1 0).trans rfl, (zc zq.1 1).trans rfl⟩ (fun hHeld => ?_)
   clear hK K
   refine norm_ (a' := ?_) ?_ ?_
   rotate_left
   ·
    show kk _ (some 9) _ = _
    simp only [kk, kz, ky, kj, zf, zg]
    rfl
   refine zj (i := 7) (N := some 10) (v := ?_) (a' := ?_) #[kx,kx,kx,kx,kx,kx,kx,kx,km,km,km,km,km,km,km,km,km] rfl rfl (zh HT_.1 (by kernel_rfl)) (fun _ _ _ h => h) (kh ⟨by rfl, ?_⟩) ?_ ?_
   rotate_left
   ·
    intro w'
    go_simp
    with_reducible rfl
   rotate_left
   ·
    simp only [kk, kz, ky, kj, zf, zg]
    rfl
   refine zj (i := 8) (N := some 11) (v := ?_) (a' := ?_) #[kx,kx,kx,kx,kx,kx,kx,kx,kx,km,km,km,km,km,km,km,km] rfl rfl (zh HT_.1 (by kernel_rfl)) (fun _ _ _ h => h) (kh ⟨by rfl, ?_⟩) ?_ ?_
   rotate_left
   ·
    intro w'
    go_simp
    with_reducible rfl
   rotate_left
   ·
    simp only [kk, kz, ky, kj, zf, zg]
    rfl
   refine zj (i := 9) (N := some 12) (v := undef) (a' := ?_) #[kx,kx,kx,kx,kx,kx,kx,kx,kx,kx,km,km,km,km,km,km,km] rfl rfl (zh HT_.1 (by kernel_rfl)) (fun _ _ _ h => h) (kd ⟨by rfl, rfl⟩) ?_ ?_
   rotate_left
   ·
    simp only [kk, kz, ky, kj, zf, zg]
    rfl
   refine zj (i := 10) (N := some 13) (v := undef) (a' := ?_) #[kx,kx,kx,kx,kx,kx,kx,kx,kx,kx,kx,km,km,km,km,km,km] rfl rfl (zh HT_.1 (by kernel_rfl)) (fun _ _ _ h => h) (kd ⟨by rfl, rfl⟩) ?_ ?_
   rotate_left
   ·
    simp only [kk, kz, ky, kj, zf, zg]
    rfl
   refine zj (i := 11) (N := some 14) (v := undef) (a' := ?_) #[kx,kx,kx,kx,kx,kx,kx,kx,kx,kx,kx,kx,km,km,km,km,km] rfl rfl (zh HT_.1 (by kernel_rfl)) (fun _ _ _ h => h) (kd ⟨by rfl, rfl⟩) ?_ ?_
   rotate_left
   ·
    simp only [kk, kz, ky, kj, zf, zg]
    rfl
   refine zj (i := 12) (N := some 15) (v := undef) (a' := ?_) #[kx,kx,kx,kx,kx,kx,kx,kx,kx,kx,kx,kx,kx,km,km,km,km] rfl rfl (zh HT_.1 (by kernel_rfl)) (fun _ _ _ h => h) (kd ⟨by rfl, rfl⟩) ?_ ?_
   rotate_left
   ·
    simp only [kk, kz, ky, kj, zf, zg]
    rfl
   refine zj (i := 13) (N := some 16) (v := undef) (a' := ?_) #[kx,kx,kx,kx,kx,kx,kx,kx,kx,kx,kx,kx,kx,kx,km,km,km] rfl rfl (zh HT_.1 (by kernel_rfl)) (fun _ _ _ h => h) (kd ⟨by rfl, rfl⟩) ?_ ?_
   rotate_left
   ·
    simp only [kk, kz, ky, kj, zf, zg]
    rfl
   refine zj (i := 14) (N := some 17) (v := undef) (a' := ?_) #[kx,kx,kx,kx,kx,kx,kx,kx,kx,kx,kx,kx,kx,kx,kx,km,km] rfl rfl (zh HT_.1 (by kernel_rfl)) (fun _ _ _ h => h) (kd ⟨by rfl, rfl⟩) ?_ ?_
   rotate_left
   ·
    simp only [kk, kz, ky, kj, zf, zg]
    rfl
   refine zj (i := 15) (N := some 18) (v := ?_) (a' := ?_) #[kx,kx,kx,kx,kx,kx,kx,kx,kx,kx,kx,kx,kx,kx,kx,kx,km] rfl rfl (zh HT_.1 (by kernel_rfl)) (fun _ _ _ h => h) (kh ⟨by rfl, ?_⟩) ?_ ?_
   rotate_left
   ·
    intro w'
    go_simp
    with_reducible rfl
   rotate_left
   ·
    simp only [kk, kz, ky, kj, zf, zg]
    rfl
   refine zj (i := 16) (N := some 2) (v := ?_) (a' := ?_) #[kx,kx,kx,kx,kx,kx,kx,kx,kx,kx,kx,kx,kx,kx,kx,kx,kx] rfl rfl (zh HT_.1 (by kernel_rfl)) (fun _ _ _ h => h) (kh ⟨by rfl, ?_⟩) ?_ ?_
   rotate_left
   ·
    intro w'
    go_simp
    with_reducible rfl
   rotate_left
   ·
    simp only [kk, kz, ky, kj, zf, zg]
    rfl
   refine done_ (done_of HT_.1 (by kernel_rfl)) ?_
   try go_wp2
   go_ret
   exact ⟨by rfl, by repeat ((with_reducible first | exact HB.1 | apply za))⟩
 ·
  replace c3 := Bool.eq_false_iff.mpr c3
  subst c3
  rw [if_neg (show ¬ (false = true) by decide)] at H
  obtain rfl := kf H
  go_enter Try.func56, Try.ntmps56
  try go_wp2_with (((with_reducible refine gate_dst (N := 1) rfl ?_); refine box_event ?hg (N := 1) ?hd (cs := #[.int .i64 a0_0, .int .i64 a0_1]) (t := 35) ?hr ?_; (case hd => rfl); (case hg => rfl); (case hr => (go_simp; done)); intro gb165 hg w13 hbox hb; replace HB := kv (below_step HB.1 hb); have zq := kv hbox; clear hb hbox hg))
  replace zq := kv (zl zq.1)
  replace HB := kv (zb HB.1)
  refine start_ (n := 17) (S := fun w' => w'.cell? ⟨gb165, 0, none⟩ = some (.int .i64 a0_0) ∧ w'.cell? ⟨gb165, 1, none⟩ = some (.int .i64 a0_1)) (ds := []) #[km,km,km,km,km,km,km,km,km,km,km,km,km,km,km,km,km] (by kernel_rfl) rfl rfl ⟨(zc zq.1 0).trans rfl, (zc zq.1 1).trans rfl⟩ (fun hHeld => ?_); refine with_tabW spec_GoodPrefix.tab1 spec_GoodPrefix.bits1 (fun HT_ HW_ => ?_)
  generalize w13.drew = w14 at zq HB hHeld ⊢
  refine zj (i := 0) (N := some 3) (v := ?_) (a' := ?_) #[kx,km,km,km,km,km,km,km,km,km,km,km,km,km,km,km,km] rfl rfl (zh HT_.1 (by kernel_rfl)) (fun _ _ _ h => h) (kh ⟨by rfl, ?_⟩) ?_ ?_
  rotate_left
  ·
   intro w'
   go_simp
   with_reducible rfl
  rotate_left
  ·
   simp only [kk, kz, ky, kj, zf, zg]
   rfl
  refine zp (i := 1) (N := some 4) (v := ?_) (a' := ?_) #[kx,kx,km,km,km,km,km,km,km,km,km,km,km,km,km,km,km] rfl rfl (zo HT_.1 HW_.1 (by kernel_rfl)) (fun _ _ _ h => h) (kh ⟨by rfl, ?_⟩) hHeld ?_ ?_
  rotate_left
  ·
   rintro w' ⟨s0, s1⟩
   go_simp
   with_reducible rfl
  rotate_left
  ·
   simp only [kk, kz, ky, kj, zf, zg]
   rfl
  refine one_ (i := 2) (N := some 5) #[kx,kx,kx,km,km,km,km,km,km,km,km,km,km,km,km,km,km] rfl rfl (one_of HT_.1 (by kernel_rfl)) (by decide) (fun K hK => ?_)
  refine goes_ Try.func47 (by kernel_rfl) rfl #[.int .i64 a0_1, .int .i64 0, .int .i64 32] (by rfl) rfl rfl (by (try simp only [kg, ke, kc]); rfl) ?_
  with_reducible refine (spec_l1In.calls a0_1 0 32 false _ A2.1).mono ?_
  rintro e w' ⟨rfl, ⟨nd, rfl⟩⟩
  refine ⟨_, rfl, ?_⟩
  refine hK.out _ _ ⟨(zc zq.1 0).trans rfl, (zc zq.1 1).trans rfl⟩ (fun hHeld => ?_)
  clear hK K
  refine norm_ (a' := ?_) ?_ ?_
  rotate_left
  ·
   show kk _ (some 5) _ = _
   simp only [kk, kz, ky, kj, zf, zg]
   rfl
  refine zj (i := 3) (N := some 6) (v := ?_) (a' := ?_) #[kx,kx,kx,kx,km,km,km,km,km,km,km,km,km,km,km,km,km] rfl rfl (zh HT_.1 (by kernel_rfl)) (fun _ _ _ h => h) (kh ⟨by rfl, ?_⟩) ?_ ?_
  rotate_left
  ·
   intro w'
   go_simp
   with_reducible rfl
  rotate_left
  ·
   simp only [kk, kz, ky, kj, zf, zg]
   rfl
  refine zj (i := 4) (N := some 7) (v := undef) (a' := ?_) #[kx,kx,kx,kx,kx,km,km,km,km,km,km,km,km,km,km,km,km] rfl rfl (zh HT_.1 (by kernel_rfl)) (fun _ _ _ h => h) (kd ⟨by rfl, rfl⟩) ?_ ?_
  rotate_left
  ·
   simp only [kk, kz, ky, kj, zf, zg]
   rfl
  refine zj (i := 5) (N := some 8) (v := undef) (a' := ?_) #[kx,kx,kx,kx,kx,kx,km,km,km,km,km,km,km,km,km,km,km] rfl rfl (zh HT_.1 (by kernel_rfl)) (fun _ _ _ h => h) (kd ⟨by rfl, rfl⟩) ?_ ?_
  rotate_left
  ·
   simp only [kk, kz, ky, kj, zf, zg]
   rfl
  refine zj (i := 6) (N := some 9) (v := undef) (a' := ?_) #[kx,kx,kx,kx,kx,kx,kx,km,km,km,km,km,km,km,km,km,km] rfl rfl (zh HT_.1 (by kernel_rfl)) (fun _ _ _ h => h) (kd ⟨by rfl, rfl⟩) ?_ ?_
  rotate_left
  ·
   simp only [kk, kz, ky, kj, zf, zg]
   rfl
  refine zj (i := 7) (N := some 10) (v := ?_) (a' := ?_) #[kx,kx,kx,kx,kx,kx,kx,kx,km,km,km,km,km,km,km,km,km] rfl rfl (zh HT_.1 (by kernel_rfl)) (fun _ _ _ h => h) (kh ⟨by rfl, ?_⟩) ?_ ?_
  rotate_left
  ·
   intro w'
   go_simp
   with_reducible rfl
  rotate_left
  ·
   simp only [kk, kz, ky, kj, zf, zg]
   rfl
  refine zj (i := 8) (N := some 11) (v := ?_) (a' := ?_) #[kx,kx,kx,kx,kx,kx,kx,kx,kx,km,km,km,km,km,km,km,km] rfl rfl (zh HT_.1 (by kernel_rfl)) (fun _ _ _ h => h) (kh ⟨by rfl, ?_⟩) ?_ ?_
  rotate_left
  ·
   intro w'
   go_simp
   with_reducible rfl
  rotate_left
  ·
   simp only [kk, kz, ky, kj, zf, zg]
   rfl
  refine zj (i := 9) (N := some 12) (v := undef) (a' := ?_) #[kx,kx,kx,kx,kx,kx,kx,kx,kx,kx,km,km,km,km,km,km,km] rfl rfl (zh HT_.1 (by kernel_rfl)) (fun _ _ _ h => h) (kd ⟨by rfl, rfl⟩) ?_ ?_
  rotate_left
  ·
   simp only [kk, kz, ky, kj, zf, zg]
   rfl
  refine zj (i := 10) (N := some 13) (v := undef) (a' := ?_) #[kx,kx,kx,kx,kx,kx,kx,kx,kx,kx,kx,km,km,km,km,km,km] rfl rfl (zh HT_.1 (by kernel_rfl)) (fun _ _ _ h => h) (kd ⟨by rfl, rfl⟩) ?_ ?_
  rotate_left
  ·
   simp only [kk, kz, ky, kj, zf, zg]
   rfl
  refine zj (i := 11) (N := some 14) (v := undef) (a' := ?_) #[kx,kx,kx,kx,kx,kx,kx,kx,kx,kx,kx,kx,km,km,km,km,km] rfl rfl (zh HT_.1 (by kernel_rfl)) (fun _ _ _ h => h) (kd ⟨by rfl, rfl⟩) ?_ ?_
  rotate_left
  ·
   simp only [kk, kz, ky, kj, zf, zg]
   rfl
  refine zj (i := 12) (N := some 15) (v := undef) (a' := ?_) #[kx,kx,kx,kx,kx,kx,kx,kx,kx,kx,kx,kx,kx,km,km,km,km] rfl rfl (zh HT_.1 (by kernel_rfl)) (fun _ _ _ h => h) (kd ⟨by rfl, rfl⟩) ?_ ?_
  rotate_left
  ·
   simp only [kk, kz, ky, kj, zf, zg]
   rfl
  refine zj (i := 13) (N := some 16) (v := undef) (a' := ?_) #[kx,kx,kx,kx,kx,kx,kx,kx,kx,kx,kx,kx,kx,kx,km,km,km] rfl rfl (zh HT_.1 (by kernel_rfl)) (fun _ _ _ h => h) (kd ⟨by rfl, rfl⟩) ?_ ?_
  rotate_left
  ·
   simp only [kk, kz, ky, kj, zf, zg]
   rfl
  refine zj (i := 14) (N := some 17) (v := undef) (a' := ?_) #[kx,kx,kx,kx,kx,kx,kx,kx,kx,kx,kx,kx,kx,kx,kx,km,km] rfl rfl (zh HT_.1 (by kernel_rfl)) (fun _ _ _ h => h) (kd ⟨by rfl, rfl⟩) ?_ ?_
  rotate_left
  ·
   simp only [kk, kz, ky, kj, zf, zg]
   rfl
  refine zj (i := 15) (N := some 18) (v := ?_) (a' := ?_) #[kx,kx,kx,kx,kx,kx,kx,kx,kx,kx,kx,kx,kx,kx,kx,kx,km] rfl rfl (zh HT_.1 (by kernel_rfl)) (fun _ _ _ h => h) (kh ⟨by rfl, ?_⟩) ?_ ?_
  rotate_left
  ·
   intro w'
   go_simp
   with_reducible rfl
  rotate_left
  ·
   simp only [kk, kz, ky, kj, zf, zg]
   rfl
  refine zj (i := 16) (N := some 2) (v := ?_) (a' := ?_) #[kx,kx,kx,kx,kx,kx,kx,kx,kx,kx,kx,kx,kx,kx,kx,kx,kx] rfl rfl (zh HT_.1 (by kernel_rfl)) (fun _ _ _ h => h) (kh ⟨by rfl, ?_⟩) ?_ ?_
  rotate_left
  ·
   intro w'
   go_simp
   with_reducible rfl
  rotate_left
  ·
   simp only [kk, kz, ky, kj, zf, zg]
   rfl
  refine done_ (done_of HT_.1 (by kernel_rfl)) ?_
  try go_wp2
  go_ret
  exact ⟨by rfl, by repeat ((with_reducible first | exact HB.1 | apply za))⟩
/-! ### spec_l1Compare: function 107 -/
def spec_l1Compare.j0 : Nat → Bool → Int → Int → Int → Int → Option (Int)
 | 0, _, _, _, _, _ => none
 | k + 1, x5, x170000, x170001, x171000, x171001 => if x5 = true then (some (-1)) else (if (x170000 == x171000 && (x170001 == x171001)) = true then (some 0) else (some 1))
def spec_l1Compare.f (k : Nat) (a0_0 : Int) (a0_1 : Int) (a1_0 : Int) (a1_1 : Int) : Option (Int) := if a0_0 < a1_0 then (spec_l1Compare.j0 k true a0_0 a0_1 a1_0 a1_1) else (if a0_0 = a1_0 then (spec_l1Compare.j0 k (decide (a0_1 < a1_1)) a0_0 a0_1 a1_0 a1_1) else (spec_l1Compare.j0 k false a0_0 a0_1 a1_0 a1_1))
theorem spec_l1Compare.calls (k : Nat) (a0_0 : Int) (a0_1 : Int) (a1_0 : Int) (a1_1 : Int) (r : Int) (w : World) (h : spec_l1Compare.f k a0_0 a0_1 a1_0 a1_1 = some r) :
  Calls Try.prog 107 #[.agg #[.int .i64 a0_0, .int .i64 a0_1], .agg #[.int .i64 a1_0, .int .i64 a1_1]] w fun e w' => e = .returned (.int .i64 r) ∧ Below w.heap.size w w' := by
 have hu35 := Try.underlying35
 have HB := kv (Below.refl w.heap.size w)
 have H : (if a0_0 < a1_0 then (spec_l1Compare.j0 k true a0_0 a0_1 a1_0 a1_1) else (if a0_0 = a1_0 then (spec_l1Compare.j0 k (decide (a0_1 < a1_1)) a0_0 a0_1 a1_0 a1_1) else (spec_l1Compare.j0 k false a0_0 a0_1 a1_0 a1_1))) = some r := h
 clear h
 have HC3 := kv H
 clear H
 go_enter Try.func107, Try.ntmps107
 go_upto_region 1 with (first | ((with_reducible refine gate_dst (N := 2) rfl ?_); refine box_event ?hg (N := 2) ?hd (cs := #[.int .i64 a0_0, .int .i64 a0_1]) (t := 35) ?hr ?_; (case hd => rfl); (case hg => rfl); (case hr => (go_simp; done)); intro gb169 hg w4 hbox hb; replace HB := kv (below_step HB.1 hb); have zr := kv hbox; clear hb hbox hg) | ((with_reducible refine gate_dst (N := 3) rfl ?_); refine box_event ?hg (N := 3) ?hd (cs := #[.int .i64 a1_0, .int .i64 a1_1]) (t := 35) ?hr ?_; (case hd => rfl); (case hg => rfl); (case hr => (go_simp; done)); intro gb170 hg w5 hbox hb; replace HB := kv (below_step HB.1 hb); have zs := kv hbox; have zt := kv ((by rw [hg]; exact Nat.ne_of_lt (blk_lt (g := gb169) (o := .cells #[.int .i64 a0_0, .int .i64 a0_1] 35 (0, 0)) zr.1) : gb169 ≠ gb170)); have zu := kv ((by rw [hg]; exact Nat.ne_of_gt (blk_lt (g := gb169) (o := .cells #[.int .i64 a0_0, .int .i64 a0_1] 35 (0, 0)) zr.1) : gb170 ≠ gb169)); replace zr := kv (blk_below (g := gb169) (o := .cells #[.int .i64 a0_0, .int .i64 a0_1] 35 (0, 0)) zr.1 hb); clear hb hbox hg))
 (try simp only [kk, kz, ky, kj])
 go_cut [5] (fun v5 wc => ∃ (kq : Nat) (x5_2 : Bool), v5 = .bool x5_2 ∧ Aside0 (spec_l1Compare.j0 kq x5_2 a0_0 a0_1 a1_0 a1_1 = some r) ∧ Aside0 (kq ≤ k) ∧ Aside0 (wc.heap[gb169]? = some (.cells #[.int .i64 a0_0, .int .i64 a0_1] 35 (0, 0))) ∧ Aside0 (wc.heap[gb170]? = some (.cells #[.int .i64 a1_0, .int .i64 a1_1] 35 (0, 0))) ∧ Aside0 (Below w.heap.size w wc))
 case first =>
  have H := HC3.1
  clear HC3
  by_cases c6 : a0_0 < a1_0
  ·
   rw [if_pos c6] at H
   have c6b0 := decide_eq_true c6
   clear c6
   skip
   have H' := kv H
   clear H
   have hnb7 := zt.1
   have hnc7 := zu.1
   obtain ⟨hcz8_0, hcz8_1, hfz8_0, hfz8_1⟩ := bc2 zr.1
   obtain ⟨hcz9_0, hcz9_1, hfz9_0, hfz9_1⟩ := bc2 zs.1
   go_wp2
   go_meet
   case rel => exact ⟨_, (true), (by rfl), H', ⟨by omega⟩, ⟨by exact zr.1⟩, ⟨by exact zs.1⟩, ⟨by exact HB.1⟩⟩
  ·
   rw [if_neg c6] at H
   have c6b0 := decide_eq_false c6
   clear c6
   skip
   by_cases c10 : a0_0 = a1_0
   ·
    rw [if_pos c10] at H
    have c10b0 : (a0_0 == a1_0) = true := beq_iff_eq.mpr c10
    have c10b1 : (a0_0 != a1_0) = false := bne_eq_false_iff_eq.mpr c10
    clear c10
    have H' := kv H
    clear H
    have hnb11 := zt.1
    have hnc11 := zu.1
    obtain ⟨hcz12_0, hcz12_1, hfz12_0, hfz12_1⟩ := bc2 zr.1
    obtain ⟨hcz13_0, hcz13_1, hfz13_0, hfz13_1⟩ := bc2 zs.1
    go_wp2
    go_meet
    case rel => exact ⟨_, (decide (a0_1 < a1_1)), (by rfl), H', ⟨by omega⟩, ⟨by exact zr.1⟩, ⟨by exact zs.1⟩, ⟨by exact HB.1⟩⟩
   ·
    rw [if_neg c10] at H
    have c10b0 : (a0_0 == a1_0) = false := beq_eq_false_iff_ne.mpr c10
    have c10b1 : (a0_0 != a1_0) = true := bne_iff_ne.mpr c10
    have H' := kv H
    clear H
    have hnb14 := zt.1
    have hnc14 := zu.1
    obtain ⟨hcz15_0, hcz15_1, hfz15_0, hfz15_1⟩ := bc2 zr.1
    obtain ⟨hcz16_0, hcz16_1, hfz16_0, hfz16_1⟩ := bc2 zs.1
    go_wp2
    go_meet
    case rel => exact ⟨_, (false), (by rfl), H', ⟨by omega⟩, ⟨by exact zr.1⟩, ⟨by exact zs.1⟩, ⟨by exact HB.1⟩⟩
 case rest =>
  clear HC3
  (try clear c1); (try clear p2); (try clear c6); (try clear c6b0); (try clear c7); (try clear c10); (try clear c10b0); (try clear c10b1); (try clear c11); (try clear c14); (try clear hcz12_0); (try clear hcz12_1); (try clear hcz13_0); (try clear hcz13_1); (try clear hcz15_0); (try clear hcz15_1); (try clear hcz16_0); (try clear hcz16_1); (try clear hcz8_0); (try clear hcz8_1); (try clear hcz9_0); (try clear hcz9_1); (try clear hfz12_0); (try clear hfz12_1); (try clear hfz13_0); (try clear hfz13_1); (try clear hfz15_0); (try clear hfz15_1); (try clear hfz16_0); (try clear hfz16_1); (try clear hfz8_0); (try clear hfz8_1); (try clear hfz9_0); (try clear hfz9_1)
  obtain ⟨kq, x5_2, rfl, HA, HJ2, zr, zs, HB⟩ := hcut
  cases kq with
  | zero => exact absurd HA.1 (by simp [spec_l1Compare.j0])
  | succ kj2 =>
   have H := HA.1
   clear HA
   simp only [spec_l1Compare.j0] at H
   by_cases c17 : x5_2 = true
   ·
    subst c17
    rw [if_pos rfl] at H
    obtain rfl := kf H
    go_wp2
    go_ret
    exact ⟨by rfl, by exact HB.1⟩
   ·
    replace c17 := Bool.eq_false_iff.mpr c17
    subst c17
    rw [if_neg (show ¬ (false = true) by decide)] at H
    by_cases c18 : (a0_0 == a1_0 && (a0_1 == a1_1)) = true
    ·
     rw [if_pos c18] at H
     have c18b0 : (a0_0 == a1_0 && (a0_1 == a1_1)) = true := c18
     (try (have c18b1 : decide (a0_0 = a1_0 && (a0_1 == a1_1)) = true := by simpa using c18))
     (try (have c18b2 : (a0_0 == a1_0 && (a0_1 == a1_1)) = true := by simpa using c18))
     clear c18
     obtain rfl := kf H
     have hnb19 := zt.1
     have hnc19 := zu.1
     have hcz20_0 := bc2 zr.1
     have hcz21_0 := bc2 zs.1
     go_wp2
     go_ret
     exact ⟨by rfl, by exact HB.1⟩
    ·
     rw [if_neg c18] at H
     have c18b0 : (a0_0 == a1_0 && (a0_1 == a1_1)) = false := by simpa using c18
     (try (have c18b1 : decide (a0_0 = a1_0 && (a0_1 == a1_1)) = false := by simpa using c18))
     (try (have c18b2 : (a0_0 == a1_0 && (a0_1 == a1_1)) = false := by simpa using c18))
     (try (have c18b3 : ¬ (a0_0 = a1_0 && (a0_1 == a1_1)) := by simpa using c18))
     clear c18
     obtain rfl := kf H
     have hnb22 := zt.1
     have hnc22 := zu.1
     have hcz23_0 := bc2 zr.1
     have hcz24_0 := bc2 zs.1
     go_wp2
     go_ret
     exact ⟨by rfl, by exact HB.1⟩
end Go.Proofs.Ytlnfcobloolnnaa.PFnUpdates
