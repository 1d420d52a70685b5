/- Go functions told by Lean functions, printed by a program. No condition but what each statement says. -/
import Derived.Test.YtkollihfejkklaaYFnHalvesx2
namespace Go.Proofs.Ytkollihfejkklaa.PFnHalves
open Go.RowKit Go.Proofs.YtkollihfejkklaaW.PrintWords Go.Proofs.YtkollihfejkklaaW.PrintLast Go.Proofs.YtkollihfejkklaaW.PrintMore
open List renaming setIfInBounds_toArray → kz, set_cons_zero → kq, set_cons_succ → ky, map_toArray → kv, map_cons → kf, map_nil → kb
open Aside0 renaming mk → kj
open Act renaming put → kk
open Or renaming inl → kh, inr → km
open Option renaming bind_eq_some_iff → kg
open Try renaming underlying26 → ke, func12 → ks
open Option.some renaming injEq → kd
open Int renaming tmod → kc
open Nat renaming ne_of_lt → ko, ne_of_gt → kx
open Bool renaming eq_false_iff → ku, true → kt, false → kr
set_option maxHeartbeats 8000000
set_option maxRecDepth 100000
open Go.Proofs.YtkollihfejkklaaW.PrintLast renaming i64_w → zk, i32_w → zl, any_of → zm, pure_ → zp, take_ofW → zs, take_ → zx, one_of → zy, goesL_ → zz, norm_ → zA, goes_ → zB
open Go.Proofs.YtkollihfejkklaaW.PrintWords renaming pw_below_drewN → za, below_drew1 → zb, below_alloc → zc, blk_drewN → zd, blk_alloc → ze, blk_drew → zf, below_set → zg, blk_cell → zh, blk_frozen → zi, below_size → zj, below_step → zn, blk_below → zo, box_event → zq, gate_dst → zr, gate_callee → zt, blk_put → zu, blk_lt → zv, cell_far → zw
attribute [local go_sem] max2_int min2_int max_two min_two max_three min_three max_four min_four
set_option linter.unusedVariables false
set_option linter.unusedSimpArgs false

/-! ### spec_GoodPrefix: function 12 -/
def spec_GoodPrefix.f (a0_0 : Int) (a0_1 : Int) : Option (Bool) := (spec_l1In.f a0_1 0 32).bind fun t118 => (if t118 = true then ((spec_l1Addr.f a0_0).bind fun t119 => (if t119 = true then ((spec_l1Size.f a0_0 a0_1).bind fun t120 => (if t120 = 0 then (none) else (some ((kc a0_0 t120) == 0)))) else (some false))) else (some false))
def spec_GoodPrefix.T1 : Bool × List (List Nat × List Nat) := (true, [([], []), ([0], [0]), ([1], [1]), ([2, 2], [2]), ([3], [3]), ([4, 3], [3, 4]), ([5, 3, 3], [3, 5]), ([3, 6], [3, 6]), ([7, 6], [7]), ([8], [8]), ([9, 8], [8, 9]), ([8], [8]), ([11, 8, 8], [8, 11]), ([10, 12, 8], [8, 10, 12]), ([13, 8], [8, 13]), ([8, 14], [8, 14]), ([15, 12, 0, 1, 2, 3, 4, 5, 6, 7, 8, 9, 10, 11, 12, 13, 14, 15], [15])])
def spec_GoodPrefix.B1 : List Nat := [0, 1, 3, 7, 15, 31, 63, 127, 255, 511, 1023, 511, 2559, 8191, 16383, 32767, 65535]
theorem spec_GoodPrefix.tab1 : rtab .any (opsOf Try.f12 1) = spec_GoodPrefix.T1 := by kernel_rfl
theorem spec_GoodPrefix.bits1 : waitsOk spec_GoodPrefix.T1.2 spec_GoodPrefix.B1 = true := by kernel_rfl
theorem spec_GoodPrefix.calls (a0_0 : Int) (a0_1 : Int) (r : Bool) (w : World) (h : spec_GoodPrefix.f a0_0 a0_1 = some r) :
  Calls Try.prog 12 #[.agg #[.int .i64 a0_0, .int .i64 a0_1]] w fun e w' => e = .returned (.bool r) ∧ Below w.heap.size w w' := by
 have hu26 := ke
 have HB := kj (Below.refl w.heap.size w)
 have H : ((spec_l1In.f a0_1 0 32).bind fun t118 => (if t118 = true then ((spec_l1Addr.f a0_0).bind fun t119 => (if t119 = true then ((spec_l1Size.f a0_0 a0_1).bind fun t120 => (if t120 = 0 then (none) else (some ((kc a0_0 t120) == 0)))) else (some false))) else (some false))) = some r := h
 clear h
 replace H := kg.mp H
 obtain ⟨t118, A20, H⟩ := H
 replace H : (if t118 = true then ((spec_l1Addr.f a0_0).bind fun t119 => (if t119 = true then ((spec_l1Size.f a0_0 a0_1).bind fun t120 => (if t120 = 0 then (none) else (some ((kc a0_0 t120) == 0)))) else (some false))) else (some false)) = some r := H
 have A2 := kj A20
 clear A20
 by_cases c3 : t118 = true
 ·
  subst c3
  have H1 : ((spec_l1Addr.f a0_0).bind fun t119 => (if t119 = true then ((spec_l1Size.f a0_0 a0_1).bind fun t120 => (if t120 = 0 then (none) else (some ((kc a0_0 t120) == 0)))) else (some false))) = some r := by rw [if_pos rfl] at H; exact H
  clear H
  have H := H1
  clear H1
  replace H := kg.mp H
  obtain ⟨t119, A40, H⟩ := H
  replace H : (if t119 = true then ((spec_l1Size.f a0_0 a0_1).bind fun t120 => (if t120 = 0 then (none) else (some ((kc a0_0 t120) == 0)))) else (some false)) = some r := H
  have A4 := kj A40
  clear A40
  by_cases c5 : t119 = true
  ·
   subst c5
   have H1 : ((spec_l1Size.f a0_0 a0_1).bind fun t120 => (if t120 = 0 then (none) else (some ((kc a0_0 t120) == 0)))) = some r := by rw [if_pos rfl] at H; exact H
   clear H
   have H := H1
   clear H1
   replace H := kg.mp H
   obtain ⟨t120, A60, H⟩ := H
   replace H : (if t120 = 0 then (none) else (some ((kc a0_0 t120) == 0))) = some r := H
   have A6 := kj A60
   clear A60
   by_cases c7 : t120 = 0
   ·
    rw [if_pos c7] at H
    exact absurd H (by simp)
   ·
    rw [if_neg c7] at H
    have c7b0 : (t120 == 0) = false := beq_eq_false_iff_ne.mpr c7
    have c7b1 : (t120 != 0) = true := bne_iff_ne.mpr c7
    obtain rfl := Option.some.inj H
    go_enter ks, Try.ntmps12
    try go_wp2_with (((with_reducible refine zr (N := 1) rfl ?_); refine zq ?hg (N := 1) ?hd (cs := #[.int .i64 a0_0, .int .i64 a0_1]) (t := 26) ?hr ?_; (case hd => rfl); (case hg => rfl); (case hr => (go_simp; done)); intro gb117 hg w8 hbox hb; replace HB := kj (zn HB.1 hb); have zE := kj hbox; clear hb hbox hg))
    replace zE := kj (zf zE.1)
    replace HB := kj (zb HB.1)
    refine start_ (n := 17) (S := fun w' => w'.cell? ⟨gb117, 0, none⟩ = some (.int .i64 a0_0) ∧ w'.cell? ⟨gb117, 1, none⟩ = some (.int .i64 a0_1)) (ds := []) #[kr,kr,kr,kr,kr,kr,kr,kr,kr,kr,kr,kr,kr,kr,kr,kr,kr] (by kernel_rfl) rfl rfl ⟨(zh zE.1 0).trans rfl, (zh zE.1 1).trans rfl⟩ (fun hHeld => ?_); refine with_tabW spec_GoodPrefix.tab1 spec_GoodPrefix.bits1 (fun HT_ HW_ => ?_)
    generalize w8.drew = w9 at zE HB hHeld ⊢
    refine zp (i := 0) (N := some 3) (v := ?_) (a' := ?_) #[kt,kr,kr,kr,kr,kr,kr,kr,kr,kr,kr,kr,kr,kr,kr,kr,kr] rfl rfl (zm HT_.1 (by kernel_rfl)) (fun _ _ _ h => h) (kh ⟨by rfl, ?_⟩) ?_ ?_
    rotate_left
    ·
     intro w'
     go_simp
     with_reducible rfl
    rotate_left
    ·
     simp only [kk, kz, kq, ky, zk, zl]
     rfl
    refine zx (i := 1) (N := some 4) (v := ?_) (a' := ?_) #[kt,kt,kr,kr,kr,kr,kr,kr,kr,kr,kr,kr,kr,kr,kr,kr,kr] rfl rfl (zs HT_.1 HW_.1 (by kernel_rfl)) (fun _ _ _ h => h) (kh ⟨by rfl, ?_⟩) hHeld ?_ ?_
    rotate_left
    ·
     rintro w' ⟨s0, s1⟩
     go_simp
     with_reducible rfl
    rotate_left
    ·
     simp only [kk, kz, kq, ky, zk, zl]
     rfl
    refine one_ (i := 2) (N := some 5) #[kt,kt,kt,kr,kr,kr,kr,kr,kr,kr,kr,kr,kr,kr,kr,kr,kr] rfl rfl (zy HT_.1 (by kernel_rfl)) (by decide) (fun K hK => ?_)
    refine zB Try.func31 (by kernel_rfl) rfl #[.int .i64 a0_1, .int .i64 0, .int .i64 32] (by rfl) rfl rfl (by (try simp only [kv, kf, kb]); rfl) ?_
    with_reducible refine (spec_l1In.calls a0_1 0 32 true _ A2.1).mono ?_
    rintro e w' ⟨rfl, ⟨nd, rfl⟩⟩
    refine ⟨_, rfl, ?_⟩
    refine hK.out _ _ ⟨(zh zE.1 0).trans rfl, (zh zE.1 1).trans rfl⟩ (fun hHeld => ?_)
    clear hK K
    refine zA (a' := ?_) ?_ ?_
    rotate_left
    ·
     show kk _ (some 5) _ = _
     simp only [kk, kz, kq, ky, zk, zl]
     rfl
    refine zp (i := 3) (N := some 6) (v := ?_) (a' := ?_) #[kt,kt,kt,kt,kr,kr,kr,kr,kr,kr,kr,kr,kr,kr,kr,kr,kr] rfl rfl (zm HT_.1 (by kernel_rfl)) (fun _ _ _ h => h) (kh ⟨by rfl, ?_⟩) ?_ ?_
    rotate_left
    ·
     intro w'
     go_simp
     with_reducible rfl
    rotate_left
    ·
     simp only [kk, kz, kq, ky, zk, zl]
     rfl
    refine zp (i := 4) (N := some 7) (v := ?_) (a' := ?_) #[kt,kt,kt,kt,kt,kr,kr,kr,kr,kr,kr,kr,kr,kr,kr,kr,kr] rfl rfl (zm HT_.1 (by kernel_rfl)) (fun _ _ _ h => h) (kh ⟨by rfl, ?_⟩) ?_ ?_
    rotate_left
    ·
     intro w'
     go_simp
     with_reducible rfl
    rotate_left
    ·
     simp only [kk, kz, kq, ky, zk, zl]
     rfl
    refine zx (i := 5) (N := some 8) (v := ?_) (a' := ?_) #[kt,kt,kt,kt,kt,kt,kr,kr,kr,kr,kr,kr,kr,kr,kr,kr,kr] rfl rfl (zs HT_.1 HW_.1 (by kernel_rfl)) (fun _ _ _ h => h) (kh ⟨by rfl, ?_⟩) hHeld ?_ ?_
    rotate_left
    ·
     rintro w' ⟨s0, s1⟩
     go_simp
     with_reducible rfl
    rotate_left
    ·
     simp only [kk, kz, kq, ky, zk, zl]
     rfl
    refine one_ (i := 6) (N := some 9) #[kt,kt,kt,kt,kt,kt,kt,kr,kr,kr,kr,kr,kr,kr,kr,kr,kr] rfl rfl (zy HT_.1 (by kernel_rfl)) (by decide) (fun K hK => ?_)
    refine zB Try.func32 (by kernel_rfl) rfl #[.int .i64 a0_0] (by rfl) rfl rfl (by (try simp only [kv, kf, kb]); rfl) ?_
    with_reducible refine (spec_l1Addr.calls a0_0 true _ A4.1).mono ?_
    rintro e w' ⟨rfl, ⟨nd, rfl⟩⟩
    refine ⟨_, rfl, ?_⟩
    refine hK.out _ _ ⟨(zh zE.1 0).trans rfl, (zh zE.1 1).trans rfl⟩ (fun hHeld => ?_)
    clear hK K
    refine zA (a' := ?_) ?_ ?_
    rotate_left
    ·
     show kk _ (some 9) _ = _
     simp only [kk, kz, kq, ky, zk, zl]
     rfl
    refine zp (i := 7) (N := some 10) (v := ?_) (a' := ?_) #[kt,kt,kt,kt,kt,kt,kt,kt,kr,kr,kr,kr,kr,kr,kr,kr,kr] rfl rfl (zm HT_.1 (by kernel_rfl)) (fun _ _ _ h => h) (kh ⟨by rfl, ?_⟩) ?_ ?_
    rotate_left
    ·
     intro w'
     go_simp
     with_reducible rfl
    rotate_left
    ·
     simp only [kk, kz, kq, ky, zk, zl]
     rfl
    refine zp (i := 8) (N := some 11) (v := ?_) (a' := ?_) #[kt,kt,kt,kt,kt,kt,kt,kt,kt,kr,kr,kr,kr,kr,kr,kr,kr] rfl rfl (zm HT_.1 (by kernel_rfl)) (fun _ _ _ h => h) (kh ⟨by rfl, ?_⟩) ?_ ?_
    rotate_left
    ·
     intro w'
     go_simp
     with_reducible rfl
    rotate_left
    ·
     simp only [kk, kz, kq, ky, zk, zl]
     rfl
    refine zp (i := 9) (N := some 12) (v := ?_) (a' := ?_) #[kt,kt,kt,kt,kt,kt,kt,kt,kt,kt,kr,kr,kr,kr,kr,kr,kr] rfl rfl (zm HT_.1 (by kernel_rfl)) (fun _ _ _ h => h) (kh ⟨by rfl, ?_⟩) ?_ ?_
    rotate_left
    ·
     intro w'
     go_simp
     with_reducible rfl
    rotate_left
    ·
     simp only [kk, kz, kq, ky, zk, zl]
     rfl
    refine zx (i := 10) (N := some 13) (v := ?_) (a' := ?_) #[kt,kt,kt,kt,kt,kt,kt,kt,kt,kt,kt,kr,kr,kr,kr,kr,kr] rfl rfl (zs HT_.1 HW_.1 (by kernel_rfl)) (fun _ _ _ h => h) (kh ⟨by rfl, ?_⟩) hHeld ?_ ?_
    rotate_left
    ·
     rintro w' ⟨s0, s1⟩
     go_simp
     with_reducible rfl
    rotate_left
    ·
     simp only [kk, kz, kq, ky, zk, zl]
     rfl
    refine zx (i := 11) (N := some 14) (v := ?_) (a' := ?_) #[kt,kt,kt,kt,kt,kt,kt,kt,kt,kt,kt,kt,kr,kr,kr,kr,kr] rfl rfl (zs HT_.1 HW_.1 (by kernel_rfl)) (fun _ _ _ h => h) (kh ⟨by rfl, ?_⟩) hHeld ?_ ?_
    rotate_left
    ·
     rintro w' ⟨s0, s1⟩
     go_simp
     with_reducible rfl
    rotate_left
    ·
     simp only [kk, kz, kq, ky, zk, zl]
     rfl
    refine one_ (i := 12) (N := some 15) #[kt,kt,kt,kt,kt,kt,kt,kt,kt,kt,kt,kt,kt,kr,kr,kr,kr] rfl rfl (zy HT_.1 (by kernel_rfl)) (by decide) (fun K hK => ?_)
    refine zB Try.func33 (by kernel_rfl) rfl #[.agg #[.int .i64 a0_0, .int .i64 a0_1]] (by rfl) rfl rfl (by (try simp only [kv, kf, kb]); rfl) ?_
    with_reducible refine (spec_l1Size.calls a0_0 a0_1 t120 _ A6.1).mono ?_
    rintro e w10 ⟨rfl, hb⟩
    refine ⟨_, rfl, ?_⟩
    replace zE := kj (zo (g := gb117) (o := .cells #[.int .i64 a0_0, .int .i64 a0_1] 26 (0, 0)) (by (with_reducible repeat (refine zd ?_ _)); exact zE.1) hb)
    replace HB := kj (zn (by repeat ((with_reducible first | exact HB.1 | apply za))) hb)
    (try clear hb)
    (try clear hb2)
    (try clear hk)
    (try clear hi)
    refine hK.out _ _ ⟨(zh zE.1 0).trans rfl, (zh zE.1 1).trans rfl⟩ (fun hHeld => ?_)
    clear hK K
    refine zA (a' := ?_) ?_ ?_
    rotate_left
    ·
     show kk _ (some 15) _ = _
     simp only [kk, kz, kq, ky, zk, zl]
     rfl
    refine zp (i := 13) (N := some 16) (v := ?_) (a' := ?_) #[kt,kt,kt,kt,kt,kt,kt,kt,kt,kt,kt,kt,kt,kt,kr,kr,kr] rfl rfl (zm HT_.1 (by kernel_rfl)) (fun _ _ _ h => h) (kh ⟨by rfl, ?_⟩) ?_ ?_
    rotate_left
    ·
     intro w'
     go_simp
     with_reducible rfl
    rotate_left
    ·
     simp only [kk, kz, kq, ky, zk, zl]
     rfl
    refine zp (i := 14) (N := some 17) (v := ?_) (a' := ?_) #[kt,kt,kt,kt,kt,kt,kt,kt,kt,kt,kt,kt,kt,kt,kt,kr,kr] rfl rfl (zm HT_.1 (by kernel_rfl)) (fun _ _ _ h => h) (kh ⟨by rfl, ?_⟩) ?_ ?_
    rotate_left
    ·
     intro w'
     go_simp
     with_reducible rfl
    rotate_left
    ·
     simp only [kk, kz, kq, ky, zk, zl]
     rfl
    refine zp (i := 15) (N := some 18) (v := ?_) (a' := ?_) #[kt,kt,kt,kt,kt,kt,kt,kt,kt,kt,kt,kt,kt,kt,kt,kt,kr] rfl rfl (zm HT_.1 (by kernel_rfl)) (fun _ _ _ h => h) (kh ⟨by rfl, ?_⟩) ?_ ?_
    rotate_left
    ·
     intro w'
     go_simp
     with_reducible rfl
    rotate_left
    ·
     simp only [kk, kz, kq, ky, zk, zl]
     rfl
    refine zp (i := 16) (N := some 2) (v := ?_) (a' := ?_) #[kt,kt,kt,kt,kt,kt,kt,kt,kt,kt,kt,kt,kt,kt,kt,kt,kt] rfl rfl (zm HT_.1 (by kernel_rfl)) (fun _ _ _ h => h) (kh ⟨by rfl, ?_⟩) ?_ ?_
    rotate_left
    ·
     intro w'
     go_simp
     with_reducible rfl
    rotate_left
    ·
     simp only [kk, kz, kq, ky, zk, zl]
     rfl
    refine done_ (done_of HT_.1 (by kernel_rfl)) ?_
    try go_wp2
    go_ret
    exact ⟨by rfl, by exact HB.1⟩
  ·
   replace c5 := ku.mpr c5
   subst c5
   have H1 : (some false) = some r := by rw [if_neg (show ¬ (false = true) by decide)] at H; exact H
   clear H
   have H := H1
   clear H1
   obtain rfl := Option.some.inj H
   go_enter ks, Try.ntmps12
   try go_wp2_with (((with_reducible refine zr (N := 1) rfl ?_); refine zq ?hg (N := 1) ?hd (cs := #[.int .i64 a0_0, .int .i64 a0_1]) (t := 26) ?hr ?_; (case hd => rfl); (case hg => rfl); (case hr => (go_simp; done)); intro gb117 hg w11 hbox hb; replace HB := kj (zn HB.1 hb); have zE := kj hbox; clear hb hbox hg))
   replace zE := kj (zf zE.1)
   replace HB := kj (zb HB.1)
   refine start_ (n := 17) (S := fun w' => w'.cell? ⟨gb117, 0, none⟩ = some (.int .i64 a0_0) ∧ w'.cell? ⟨gb117, 1, none⟩ = some (.int .i64 a0_1)) (ds := []) #[kr,kr,kr,kr,kr,kr,kr,kr,kr,kr,kr,kr,kr,kr,kr,kr,kr] (by kernel_rfl) rfl rfl ⟨(zh zE.1 0).trans rfl, (zh zE.1 1).trans rfl⟩ (fun hHeld => ?_); refine with_tabW spec_GoodPrefix.tab1 spec_GoodPrefix.bits1 (fun HT_ HW_ => ?_)
   generalize w11.drew = w12 at zE HB hHeld ⊢
   refine zp (i := 0) (N := some 3) (v := ?_) (a' := ?_) #[kt,kr,kr,kr,kr,kr,kr,kr,kr,kr,kr,kr,kr,kr,kr,kr,kr] rfl rfl (zm HT_.1 (by kernel_rfl)) (fun _ _ _ h => h) (kh ⟨by rfl, ?_⟩) ?_ ?_
   rotate_left
   ·
    intro w'
    go_simp
    with_reducible rfl
   rotate_left
   ·
    simp only [kk, kz, kq, ky, zk, zl]
    rfl
   refine zx (i := 1) (N := some 4) (v := ?_) (a' := ?_) #[kt,kt,kr,kr,kr,kr,kr,kr,kr,kr,kr,kr,kr,kr,kr,kr,kr] rfl rfl (zs HT_.1 HW_.1 (by kernel_rfl)) (fun _ _ _ h => h) (kh ⟨by rfl, ?_⟩) hHeld ?_ ?_
   rotate_left
   ·
    rintro w' ⟨s0, s1⟩
    go_simp
    with_reducible rfl
   rotate_left
   ·
    simp only [kk, kz, kq, ky, zk, zl]
    rfl
   refine one_ (i := 2) (N := some 5) #[kt,kt,kt,kr,kr,kr,kr,kr,kr,kr,kr,kr,kr,kr,kr,kr,kr] rfl rfl (zy HT_.1 (by kernel_rfl)) (by decide) (fun K hK => ?_)
   refine zB Try.func31 (by kernel_rfl) rfl #[.int .i64 a0_1, .int .i64 0, .int .i64 32] (by rfl) rfl rfl (by (try simp only [kv, kf, kb]); rfl) ?_
   with_reducible refine (spec_l1In.calls a0_1 0 32 true _ A2.1).mono ?_
   rintro e w' ⟨rfl, ⟨nd, rfl⟩⟩
   refine ⟨_, rfl, ?_⟩
   refine hK.out _ _ ⟨(zh zE.1 0).trans rfl, (zh zE.1 1).trans rfl⟩ (fun hHeld => ?_)
   clear hK K
   refine zA (a' := ?_) ?_ ?_
   rotate_left
   ·
    show kk _ (some 5) _ = _
    simp only [kk, kz, kq, ky, zk, zl]
    rfl
   refine zp (i := 3) (N := some 6) (v := ?_) (a' := ?_) #[kt,kt,kt,kt,kr,kr,kr,kr,kr,kr,kr,kr,kr,kr,kr,kr,kr] rfl rfl (zm HT_.1 (by kernel_rfl)) (fun _ _ _ h => h) (kh ⟨by rfl, ?_⟩) ?_ ?_
   rotate_left
   ·
    intro w'
    go_simp
    with_reducible rfl
   rotate_left
   ·
    simp only [kk, kz, kq, ky, zk, zl]
    rfl
   refine zp (i := 4) (N := some 7) (v := ?_) (a' := ?_) #[kt,kt,kt,kt,kt,kr,kr,kr,kr,kr,kr,kr,kr,kr,kr,kr,kr] rfl rfl (zm HT_.1 (by kernel_rfl)) (fun _ _ _ h => h) (kh ⟨by rfl, ?_⟩) ?_ ?_
   rotate_left
   ·
    intro w'
    go_simp
    with_reducible rfl
   rotate_left
   ·
    simp only [kk, kz, kq, ky, zk, zl]
    rfl
   refine zx (i := 5) (N := some 8) (v := ?_) (a' := ?_) #[kt,kt,kt,kt,kt,kt,kr,kr,kr,kr,kr,kr,kr,kr,kr,kr,kr] rfl rfl (zs HT_.1 HW_.1 (by kernel_rfl)) (fun _ _ _ h => h) (kh ⟨by rfl, ?_⟩) hHeld ?_ ?_
   rotate_left
   ·
    rintro w' ⟨s0, s1⟩
    go_simp
    with_reducible rfl
   rotate_left
   ·
    simp only [kk, kz, kq, ky, zk, zl]
    rfl
   refine one_ (i := 6) (N := some 9) #[kt,kt,kt,kt,kt,kt,kt,kr,kr,kr,kr,kr,kr,kr,kr,kr,kr] rfl rfl (zy HT_.1 (by kernel_rfl)) (by decide) (fun K hK => ?_)
   refine zB Try.func32 (by kernel_rfl) rfl #[.int .i64 a0_0] (by rfl) rfl rfl (by (try simp only [kv, kf, kb]); rfl) ?_
   with_reducible refine (spec_l1Addr.calls a0_0 false _ A4.1).mono ?_
   rintro e w' ⟨rfl, ⟨nd, rfl⟩⟩
   refine ⟨_, rfl, ?_⟩
   refine hK.out _ _ ⟨(zh zE.1 0).trans rfl, (zh zE.1 1).trans rfl⟩ (fun hHeld => ?_)
   clear hK K
   refine zA (a' := ?_) ?_ ?_
   rotate_left
   ·
    show kk _ (some 9) _ = _
    simp only [kk, kz, kq, ky, zk, zl]
    rfl
   refine zp (i := 7) (N := some 10) (v := ?_) (a' := ?_) #[kt,kt,kt,kt,kt,kt,kt,kt,kr,kr,kr,kr,kr,kr,kr,kr,kr] rfl rfl (zm HT_.1 (by kernel_rfl)) (fun _ _ _ h => h) (kh ⟨by rfl, ?_⟩) ?_ ?_
   rotate_left
   ·
    intro w'
    go_simp
    with_reducible rfl
   rotate_left
   ·
    simp only [kk, kz, kq, ky, zk, zl]
    rfl
   refine zp (i := 8) (N := some 11) (v := ?_) (a' := ?_) #[kt,kt,kt,kt,kt,kt,kt,kt,kt,kr,kr,kr,kr,kr,kr,kr,kr] rfl rfl (zm HT_.1 (by kernel_rfl)) (fun _ _ _ h => h) (kh ⟨by rfl, ?_⟩) ?_ ?_
   rotate_left
   ·
    intro w'
    go_simp
    with_reducible rfl
   rotate_left
   ·
    simp only [kk, kz, kq, ky, zk, zl]
    rfl
   refine zp (i := 9) (N := some 12) (v := undef) (a' := ?_) #[kt,kt,kt,kt,kt,kt,kt,kt,kt,kt,kr,kr,kr,kr,kr,kr,kr] rfl rfl (zm HT_.1 (by kernel_rfl)) (fun _ _ _ h => h) (km ⟨by rfl, rfl⟩) ?_ ?_
   rotate_left
   ·
    simp only [kk, kz, kq, ky, zk, zl]
    rfl
   refine zp (i := 10) (N := some 13) (v := undef) (a' := ?_) #[kt,kt,kt,kt,kt,kt,kt,kt,kt,kt,kt,kr,kr,kr,kr,kr,kr] rfl rfl (zm HT_.1 (by kernel_rfl)) (fun _ _ _ h => h) (km ⟨by rfl, rfl⟩) ?_ ?_
   rotate_left
   ·
    simp only [kk, kz, kq, ky, zk, zl]
    rfl
   refine zp (i := 11) (N := some 14) (v := undef) (a' := ?_) #[kt,kt,kt,kt,kt,kt,kt,kt,kt,kt,kt,kt,kr,kr,kr,kr,kr] rfl rfl (zm HT_.1 (by kernel_rfl)) (fun _ _ _ h => h) (km ⟨by rfl, rfl⟩) ?_ ?_
   rotate_left
   ·
    simp only [kk, kz, kq, ky, zk, zl]
    rfl
   refine zp (i := 12) (N := some 15) (v := undef) (a' := ?_) #[kt,kt,kt,kt,kt,kt,kt,kt,kt,kt,kt,kt,kt,kr,kr,kr,kr] rfl rfl (zm HT_.1 (by kernel_rfl)) (fun _ _ _ h => h) (km ⟨by rfl, rfl⟩) ?_ ?_
   rotate_left
   ·
    simp only [kk, kz, kq, ky, zk, zl]
    rfl
   refine zp (i := 13) (N := some 16) (v := undef) (a' := ?_) #[kt,kt,kt,kt,kt,kt,kt,kt,kt,kt,kt,kt,kt,kt,kr,kr,kr] rfl rfl (zm HT_.1 (by kernel_rfl)) (fun _ _ _ h => h) (km ⟨by rfl, rfl⟩) ?_ ?_
   rotate_left
   ·
    simp only [kk, kz, kq, ky, zk, zl]
    rfl
   refine zp (i := 14) (N := some 17) (v := undef) (a' := ?_) #[kt,kt,kt,kt,kt,kt,kt,kt,kt,kt,kt,kt,kt,kt,kt,kr,kr] rfl rfl (zm HT_.1 (by kernel_rfl)) (fun _ _ _ h => h) (km ⟨by rfl, rfl⟩) ?_ ?_
   rotate_left
   ·
    simp only [kk, kz, kq, ky, zk, zl]
    rfl
   refine zp (i := 15) (N := some 18) (v := ?_) (a' := ?_) #[kt,kt,kt,kt,kt,kt,kt,kt,kt,kt,kt,kt,kt,kt,kt,kt,kr] rfl rfl (zm HT_.1 (by kernel_rfl)) (fun _ _ _ h => h) (kh ⟨by rfl, ?_⟩) ?_ ?_
   rotate_left
   ·
    intro w'
    go_simp
    with_reducible rfl
   rotate_left
   ·
    simp only [kk, kz, kq, ky, zk, zl]
    rfl
   refine zp (i := 16) (N := some 2) (v := ?_) (a' := ?_) #[kt,kt,kt,kt,kt,kt,kt,kt,kt,kt,kt,kt,kt,kt,kt,kt,kt] rfl rfl (zm HT_.1 (by kernel_rfl)) (fun _ _ _ h => h) (kh ⟨by rfl, ?_⟩) ?_ ?_
   rotate_left
   ·
    intro w'
    go_simp
    with_reducible rfl
   rotate_left
   ·
    simp only [kk, kz, kq, ky, zk, zl]
    rfl
   refine done_ (done_of HT_.1 (by kernel_rfl)) ?_
   try go_wp2
   go_ret
   exact ⟨by rfl, by repeat ((with_reducible first | exact HB.1 | apply za))⟩
 ·
  replace c3 := ku.mpr c3
  subst c3
  have H1 : (some false) = some r := by rw [if_neg (show ¬ (false = true) by decide)] at H; exact H
  clear H
  have H := H1
  clear H1
  obtain rfl := Option.some.inj H
  go_enter ks, Try.ntmps12
  try go_wp2_with (((with_reducible refine zr (N := 1) rfl ?_); refine zq ?hg (N := 1) ?hd (cs := #[.int .i64 a0_0, .int .i64 a0_1]) (t := 26) ?hr ?_; (case hd => rfl); (case hg => rfl); (case hr => (go_simp; done)); intro gb117 hg w13 hbox hb; replace HB := kj (zn HB.1 hb); have zE := kj hbox; clear hb hbox hg))
  replace zE := kj (zf zE.1)
  replace HB := kj (zb HB.1)
  refine start_ (n := 17) (S := fun w' => w'.cell? ⟨gb117, 0, none⟩ = some (.int .i64 a0_0) ∧ w'.cell? ⟨gb117, 1, none⟩ = some (.int .i64 a0_1)) (ds := []) #[kr,kr,kr,kr,kr,kr,kr,kr,kr,kr,kr,kr,kr,kr,kr,kr,kr] (by kernel_rfl) rfl rfl ⟨(zh zE.1 0).trans rfl, (zh zE.1 1).trans rfl⟩ (fun hHeld => ?_); refine with_tabW spec_GoodPrefix.tab1 spec_GoodPrefix.bits1 (fun HT_ HW_ => ?_)
  generalize w13.drew = w14 at zE HB hHeld ⊢
  refine zp (i := 0) (N := some 3) (v := ?_) (a' := ?_) #[kt,kr,kr,kr,kr,kr,kr,kr,kr,kr,kr,kr,kr,kr,kr,kr,kr] rfl rfl (zm HT_.1 (by kernel_rfl)) (fun _ _ _ h => h) (kh ⟨by rfl, ?_⟩) ?_ ?_
  rotate_left
  ·
   intro w'
   go_simp
   with_reducible rfl
  rotate_left
  ·
   simp only [kk, kz, kq, ky, zk, zl]
   rfl
  refine zx (i := 1) (N := some 4) (v := ?_) (a' := ?_) #[kt,kt,kr,kr,kr,kr,kr,kr,kr,kr,kr,kr,kr,kr,kr,kr,kr] rfl rfl (zs HT_.1 HW_.1 (by kernel_rfl)) (fun _ _ _ h => h) (kh ⟨by rfl, ?_⟩) hHeld ?_ ?_
  rotate_left
  ·
   rintro w' ⟨s0, s1⟩
   go_simp
   with_reducible rfl
  rotate_left
  ·
   simp only [kk, kz, kq, ky, zk, zl]
   rfl
  refine one_ (i := 2) (N := some 5) #[kt,kt,kt,kr,kr,kr,kr,kr,kr,kr,kr,kr,kr,kr,kr,kr,kr] rfl rfl (zy HT_.1 (by kernel_rfl)) (by decide) (fun K hK => ?_)
  refine zB Try.func31 (by kernel_rfl) rfl #[.int .i64 a0_1, .int .i64 0, .int .i64 32] (by rfl) rfl rfl (by (try simp only [kv, kf, kb]); rfl) ?_
  with_reducible refine (spec_l1In.calls a0_1 0 32 false _ A2.1).mono ?_
  rintro e w' ⟨rfl, ⟨nd, rfl⟩⟩
  refine ⟨_, rfl, ?_⟩
  refine hK.out _ _ ⟨(zh zE.1 0).trans rfl, (zh zE.1 1).trans rfl⟩ (fun hHeld => ?_)
  clear hK K
  refine zA (a' := ?_) ?_ ?_
  rotate_left
  ·
   show kk _ (some 5) _ = _
   simp only [kk, kz, kq, ky, zk, zl]
   rfl
  refine zp (i := 3) (N := some 6) (v := ?_) (a' := ?_) #[kt,kt,kt,kt,kr,kr,kr,kr,kr,kr,kr,kr,kr,kr,kr,kr,kr] rfl rfl (zm HT_.1 (by kernel_rfl)) (fun _ _ _ h => h) (kh ⟨by rfl, ?_⟩) ?_ ?_
  rotate_left
  ·
   intro w'
   go_simp
   with_reducible rfl
  rotate_left
  ·
   simp only [kk, kz, kq, ky, zk, zl]
   rfl
  refine zp (i := 4) (N := some 7) (v := undef) (a' := ?_) #[kt,kt,kt,kt,kt,kr,kr,kr,kr,kr,kr,kr,kr,kr,kr,kr,kr] rfl rfl (zm HT_.1 (by kernel_rfl)) (fun _ _ _ h => h) (km ⟨by rfl, rfl⟩) ?_ ?_
  rotate_left
  ·
   simp only [kk, kz, kq, ky, zk, zl]
   rfl
  refine zp (i := 5) (N := some 8) (v := undef) (a' := ?_) #[kt,kt,kt,kt,kt,kt,kr,kr,kr,kr,kr,kr,kr,kr,kr,kr,kr] rfl rfl (zm HT_.1 (by kernel_rfl)) (fun _ _ _ h => h) (km ⟨by rfl, rfl⟩) ?_ ?_
  rotate_left
  ·
   simp only [kk, kz, kq, ky, zk, zl]
   rfl
  refine zp (i := 6) (N := some 9) (v := undef) (a' := ?_) #[kt,kt,kt,kt,kt,kt,kt,kr,kr,kr,kr,kr,kr,kr,kr,kr,kr] rfl rfl (zm HT_.1 (by kernel_rfl)) (fun _ _ _ h => h) (km ⟨by rfl, rfl⟩) ?_ ?_
  rotate_left
  ·
   simp only [kk, kz, kq, ky, zk, zl]
   rfl
  refine zp (i := 7) (N := some 10) (v := ?_) (a' := ?_) #[kt,kt,kt,kt,kt,kt,kt,kt,kr,kr,kr,kr,kr,kr,kr,kr,kr] rfl rfl (zm HT_.1 (by kernel_rfl)) (fun _ _ _ h => h) (kh ⟨by rfl, ?_⟩) ?_ ?_
  rotate_left
  ·
   intro w'
   go_simp
   with_reducible rfl
  rotate_left
  ·
   simp only [kk, kz, kq, ky, zk, zl]
   rfl
  refine zp (i := 8) (N := some 11) (v := ?_) (a' := ?_) #[kt,kt,kt,kt,kt,kt,kt,kt,kt,kr,kr,kr,kr,kr,kr,kr,kr] rfl rfl (zm HT_.1 (by kernel_rfl)) (fun _ _ _ h => h) (kh ⟨by rfl, ?_⟩) ?_ ?_
  rotate_left
  ·
   intro w'
   go_simp
   with_reducible rfl
  rotate_left
  ·
   simp only [kk, kz, kq, ky, zk, zl]
   rfl
  refine zp (i := 9) (N := some 12) (v := undef) (a' := ?_) #[kt,kt,kt,kt,kt,kt,kt,kt,kt,kt,kr,kr,kr,kr,kr,kr,kr] rfl rfl (zm HT_.1 (by kernel_rfl)) (fun _ _ _ h => h) (km ⟨by rfl, rfl⟩) ?_ ?_
  rotate_left
  ·
   simp only [kk, kz, kq, ky, zk, zl]
   rfl
  refine zp (i := 10) (N := some 13) (v := undef) (a' := ?_) #[kt,kt,kt,kt,kt,kt,kt,kt,kt,kt,kt,kr,kr,kr,kr,kr,kr] rfl rfl (zm HT_.1 (by kernel_rfl)) (fun _ _ _ h => h) (km ⟨by rfl, rfl⟩) ?_ ?_
  rotate_left
  ·
   simp only [kk, kz, kq, ky, zk, zl]
   rfl
  refine zp (i := 11) (N := some 14) (v := undef) (a' := ?_) #[kt,kt,kt,kt,kt,kt,kt,kt,kt,kt,kt,kt,kr,kr,kr,kr,kr] rfl rfl (zm HT_.1 (by kernel_rfl)) (fun _ _ _ h => h) (km ⟨by rfl, rfl⟩) ?_ ?_
  rotate_left
  ·
   simp only [kk, kz, kq, ky, zk, zl]
   rfl
  refine zp (i := 12) (N := some 15) (v := undef) (a' := ?_) #[kt,kt,kt,kt,kt,kt,kt,kt,kt,kt,kt,kt,kt,kr,kr,kr,kr] rfl rfl (zm HT_.1 (by kernel_rfl)) (fun _ _ _ h => h) (km ⟨by rfl, rfl⟩) ?_ ?_
  rotate_left
  ·
   simp only [kk, kz, kq, ky, zk, zl]
   rfl
  refine zp (i := 13) (N := some 16) (v := undef) (a' := ?_) #[kt,kt,kt,kt,kt,kt,kt,kt,kt,kt,kt,kt,kt,kt,kr,kr,kr] rfl rfl (zm HT_.1 (by kernel_rfl)) (fun _ _ _ h => h) (km ⟨by rfl, rfl⟩) ?_ ?_
  rotate_left
  ·
   simp only [kk, kz, kq, ky, zk, zl]
   rfl
  refine zp (i := 14) (N := some 17) (v := undef) (a' := ?_) #[kt,kt,kt,kt,kt,kt,kt,kt,kt,kt,kt,kt,kt,kt,kt,kr,kr] rfl rfl (zm HT_.1 (by kernel_rfl)) (fun _ _ _ h => h) (km ⟨by rfl, rfl⟩) ?_ ?_
  rotate_left
  ·
   simp only [kk, kz, kq, ky, zk, zl]
   rfl
  refine zp (i := 15) (N := some 18) (v := ?_) (a' := ?_) #[kt,kt,kt,kt,kt,kt,kt,kt,kt,kt,kt,kt,kt,kt,kt,kt,kr] rfl rfl (zm HT_.1 (by kernel_rfl)) (fun _ _ _ h => h) (kh ⟨by rfl, ?_⟩) ?_ ?_
  rotate_left
  ·
   intro w'
   go_simp
   with_reducible rfl
  rotate_left
  ·
   simp only [kk, kz, kq, ky, zk, zl]
   rfl
  refine zp (i := 16) (N := some 2) (v := ?_) (a' := ?_) #[kt,kt,kt,kt,kt,kt,kt,kt,kt,kt,kt,kt,kt,kt,kt,kt,kt] rfl rfl (zm HT_.1 (by kernel_rfl)) (fun _ _ _ h => h) (kh ⟨by rfl, ?_⟩) ?_ ?_
  rotate_left
  ·
   intro w'
   go_simp
   with_reducible rfl
  rotate_left
  ·
   simp only [kk, kz, kq, ky, zk, zl]
   rfl
  refine done_ (done_of HT_.1 (by kernel_rfl)) ?_
  try go_wp2
  go_ret
  exact ⟨by rfl, by repeat ((with_reducible first | exact HB.1 | apply za))⟩

/-! ### spec_l1Parent: function 41 -/
def spec_l1Parent.f (a0_0 : Int) (a0_1 : Int) : Option (Int × Int) := (spec_l1Size.f a0_0 a0_1).bind fun t123 => (if (wrap64 (2 * t123)) = 0 then (none) else (some (wrap64 (a0_0 - (kc a0_0 (wrap64 (2 * t123)))), wrap64 (a0_1 - 1))))
def spec_l1Parent.T2 : Bool × List (List Nat × List Nat) := (true, [([], []), ([0], [0]), ([], []), ([2], [2]), ([], []), ([3, 4], [3, 4]), ([1, 5], [1, 5]), ([], []), ([7], [7]), ([8], [8]), ([6, 9], [6, 9]), ([10, 0, 1, 2, 3, 4, 5, 6, 7, 8, 9, 10], [10])])
def spec_l1Parent.B2 : List Nat := [0, 1, 0, 4, 0, 28, 63, 0, 128, 384, 1023, 2047]
theorem spec_l1Parent.tab2 : rtab .any (opsOf Try.f41 2) = spec_l1Parent.T2 := by kernel_rfl
theorem spec_l1Parent.bits2 : waitsOk spec_l1Parent.T2.2 spec_l1Parent.B2 = true := by kernel_rfl
theorem spec_l1Parent.calls (a0_0 : Int) (a0_1 : Int) (r1 : Int) (r2 : Int) (w : World) (h : spec_l1Parent.f a0_0 a0_1 = some (r1, r2)) :
  Calls Try.prog 41 #[.agg #[.int .i64 a0_0, .int .i64 a0_1]] w fun e w' => e = .returned (.agg #[.int .i64 r1, .int .i64 r2]) ∧ Below w.heap.size w w' := by
 have hu26 := ke
 have HB := kj (Below.refl w.heap.size w)
 have H : ((spec_l1Size.f a0_0 a0_1).bind fun t123 => (if (wrap64 (2 * t123)) = 0 then (none) else (some (wrap64 (a0_0 - (kc a0_0 (wrap64 (2 * t123)))), wrap64 (a0_1 - 1))))) = some (r1, r2) := h
 clear h
 replace H := kg.mp H
 obtain ⟨t123, A20, H⟩ := H
 replace H : (if (wrap64 (2 * t123)) = 0 then (none) else (some (wrap64 (a0_0 - (kc a0_0 (wrap64 (2 * t123)))), wrap64 (a0_1 - 1)))) = some (r1, r2) := H
 have A2 := kj A20
 clear A20
 by_cases c3 : (wrap64 (2 * t123)) = 0
 ·
  rw [if_pos c3] at H
  exact absurd H (by simp)
 ·
  rw [if_neg c3] at H
  have c3b0 : ((wrap64 (2 * t123)) == 0) = false := beq_eq_false_iff_ne.mpr c3
  have c3b1 : ((wrap64 (2 * t123)) != 0) = true := bne_iff_ne.mpr c3
  simp only [kd, Prod.mk.injEq] at H
  obtain ⟨rfl, rfl⟩ := H
  go_enter Try.func41, Try.ntmps41
  try go_wp2_with (first | ((with_reducible refine zr (N := 1) rfl ?_); refine zq ?hg (N := 1) ?hd (cs := #[.int .i64 a0_0, .int .i64 a0_1]) (t := 26) ?hr ?_; (case hd => rfl); (case hg => rfl); (case hr => (go_simp; done)); intro gb121 hg w4 hbox hb; replace HB := kj (zn HB.1 hb); have zI := kj hbox; clear hb hbox hg) | ((with_reducible refine zr (N := 2) rfl ?_); refine zq ?hg (N := 2) ?hd (cs := #[.int .i64 0, .int .i64 0]) (t := 26) ?hr ?_; (case hd => rfl); (case hg => rfl); (case hr => (go_simp; done)); intro gb122 hg w5 hbox hb; have zP := kj hbox; have GE122 := kj ((by rw [hg]; exact (zj HB.1) : w.heap.size ≤ gb122)); replace HB := kj (zn HB.1 hb); have zK := kj ((by rw [hg]; exact ko (zv (g := gb121) (o := .cells #[.int .i64 a0_0, .int .i64 a0_1] 26 (0, 0)) zI.1) : gb121 ≠ gb122)); have NB122_121 := kj ((by rw [hg]; exact kx (zv (g := gb121) (o := .cells #[.int .i64 a0_0, .int .i64 a0_1] 26 (0, 0)) zI.1) : gb122 ≠ gb121)); replace zI := kj (zo (g := gb121) (o := .cells #[.int .i64 a0_0, .int .i64 a0_1] 26 (0, 0)) zI.1 hb); clear hb hbox hg; have hnb6 := zK.1; have hnc6 := NB122_121.1; have hcz7_0 : w5.cell? ⟨gb121, 0, none⟩ = some (.int .i64 a0_0) := (zh zI.1 0).trans rfl; have hcz7_1 : w5.cell? ⟨gb121, 1, none⟩ = some (.int .i64 a0_1) := (zh zI.1 1).trans rfl; have hfz7_0 := zi zI.1 0; have hfz7_1 := zi zI.1 1) | ((with_reducible refine zt (f := 33) rfl ?_); refine zz (some 5) rfl rfl Try.func33 (by kernel_rfl) rfl #[.agg #[.int .i64 a0_0, .int .i64 a0_1]] rfl (by (try simp only [kv, kf, kb]); rfl) ?_; (with_reducible refine (spec_l1Size.calls a0_0 a0_1 t123 _ A2.1).mono ?_); rintro e w8 ⟨rfl, hb⟩; refine ⟨_, rfl, ?_⟩; replace zI := kj (zo (g := gb121) (o := .cells #[.int .i64 a0_0, .int .i64 a0_1] 26 (0, 0)) zI.1 hb); replace zP := kj (zo (g := gb122) (o := .cells #[.int .i64 0, .int .i64 0] 26 (0, 0)) zP.1 hb); replace HB := kj (zn HB.1 hb); (try clear hb); (try clear hb2); (try clear hk); (try clear hi)))
  replace zI := kj (zf zI.1)
  replace zP := kj (zf zP.1)
  replace HB := kj (zb HB.1)
  refine start_ (n := 12) (S := fun w' => w'.cell? ⟨gb121, 0, none⟩ = some (.int .i64 a0_0) ∧ w'.cell? ⟨gb121, 1, none⟩ = some (.int .i64 a0_1)) (ds := []) #[kr,kr,kr,kr,kr,kr,kr,kr,kr,kr,kr,kr] (by kernel_rfl) rfl rfl ⟨(zh zI.1 0).trans rfl, (zh zI.1 1).trans rfl⟩ (fun hHeld => ?_); refine with_tabW spec_l1Parent.tab2 spec_l1Parent.bits2 (fun HT_ HW_ => ?_)
  generalize w8.drew = w9 at zI zP HB hHeld ⊢
  refine zp (i := 0) (N := some 7) (v := ?_) (a' := ?_) #[kt,kr,kr,kr,kr,kr,kr,kr,kr,kr,kr,kr] rfl rfl (zm HT_.1 (by kernel_rfl)) (fun _ _ _ h => h) (kh ⟨by rfl, ?_⟩) ?_ ?_
  rotate_left
  ·
   intro w'
   go_simp
   with_reducible rfl
  rotate_left
  ·
   simp only [kk, kz, kq, ky, zk, zl]
   rfl
  refine zp (i := 2) (N := some 9) (v := ?_) (a' := ?_) #[kt,kr,kt,kr,kr,kr,kr,kr,kr,kr,kr,kr] rfl rfl (zm HT_.1 (by kernel_rfl)) (fun _ _ _ h => h) (kh ⟨by rfl, ?_⟩) ?_ ?_
  rotate_left
  ·
   intro w'
   go_simp
   with_reducible rfl
  rotate_left
  ·
   simp only [kk, kz, kq, ky, zk, zl]
   rfl
  refine zp (i := 4) (N := some 11) (v := ?_) (a' := ?_) #[kt,kr,kt,kr,kt,kr,kr,kr,kr,kr,kr,kr] rfl rfl (zm HT_.1 (by kernel_rfl)) (fun _ _ _ h => h) (kh ⟨by rfl, ?_⟩) ?_ ?_
  rotate_left
  ·
   intro w'
   go_simp
   with_reducible rfl
  rotate_left
  ·
   simp only [kk, kz, kq, ky, zk, zl]
   rfl
  refine zp (i := 7) (N := some 14) (v := ?_) (a' := ?_) #[kt,kr,kt,kr,kt,kr,kr,kt,kr,kr,kr,kr] rfl rfl (zm HT_.1 (by kernel_rfl)) (fun _ _ _ h => h) (kh ⟨by rfl, ?_⟩) ?_ ?_
  rotate_left
  ·
   intro w'
   go_simp
   with_reducible rfl
  rotate_left
  ·
   simp only [kk, kz, kq, ky, zk, zl]
   rfl
  refine zx (i := 1) (N := some 8) (v := ?_) (a' := ?_) #[kt,kt,kt,kr,kt,kr,kr,kt,kr,kr,kr,kr] rfl rfl (zs HT_.1 HW_.1 (by kernel_rfl)) (fun _ _ _ h => h) (kh ⟨by rfl, ?_⟩) hHeld ?_ ?_
  rotate_left
  ·
   rintro w' ⟨s0, s1⟩
   go_simp
   with_reducible rfl
  rotate_left
  ·
   simp only [kk, kz, kq, ky, zk, zl]
   rfl
  refine zx (i := 3) (N := some 10) (v := ?_) (a' := ?_) #[kt,kt,kt,kt,kt,kr,kr,kt,kr,kr,kr,kr] rfl rfl (zs HT_.1 HW_.1 (by kernel_rfl)) (fun _ _ _ h => h) (kh ⟨by rfl, ?_⟩) hHeld ?_ ?_
  rotate_left
  ·
   rintro w' ⟨s0, s1⟩
   go_simp
   with_reducible rfl
  rotate_left
  ·
   simp only [kk, kz, kq, ky, zk, zl]
   rfl
  refine zp (i := 5) (N := some 12) (v := ?_) (a' := ?_) #[kt,kt,kt,kt,kt,kt,kr,kt,kr,kr,kr,kr] rfl rfl (zm HT_.1 (by kernel_rfl)) (fun _ _ _ h => h) (kh ⟨by rfl, ?_⟩) ?_ ?_
  rotate_left
  ·
   intro w'
   go_simp
   with_reducible rfl
  rotate_left
  ·
   simp only [kk, kz, kq, ky, zk, zl]
   rfl
  refine zp (i := 6) (N := some 13) (v := ?_) (a' := ?_) #[kt,kt,kt,kt,kt,kt,kt,kt,kr,kr,kr,kr] rfl rfl (zm HT_.1 (by kernel_rfl)) (fun _ _ _ h => h) (kh ⟨by rfl, ?_⟩) ?_ ?_
  rotate_left
  ·
   intro w'
   go_simp
   with_reducible rfl
  rotate_left
  ·
   simp only [kk, kz, kq, ky, zk, zl]
   rfl
  refine zx (i := 8) (N := some 15) (v := ?_) (a' := ?_) #[kt,kt,kt,kt,kt,kt,kt,kt,kt,kr,kr,kr] rfl rfl (zs HT_.1 HW_.1 (by kernel_rfl)) (fun _ _ _ h => h) (kh ⟨by rfl, ?_⟩) hHeld ?_ ?_
  rotate_left
  ·
   rintro w' ⟨s0, s1⟩
   go_simp
   with_reducible rfl
  rotate_left
  ·
   simp only [kk, kz, kq, ky, zk, zl]
   rfl
  refine zp (i := 9) (N := some 16) (v := ?_) (a' := ?_) #[kt,kt,kt,kt,kt,kt,kt,kt,kt,kt,kr,kr] rfl rfl (zm HT_.1 (by kernel_rfl)) (fun _ _ _ h => h) (kh ⟨by rfl, ?_⟩) ?_ ?_
  rotate_left
  ·
   intro w'
   go_simp
   with_reducible rfl
  rotate_left
  ·
   simp only [kk, kz, kq, ky, zk, zl]
   rfl
  refine zp (i := 10) (N := some 17) (v := ?_) (a' := ?_) #[kt,kt,kt,kt,kt,kt,kt,kt,kt,kt,kt,kr] rfl rfl (zm HT_.1 (by kernel_rfl)) (fun _ _ _ h => h) (kh ⟨by rfl, ?_⟩) ?_ ?_
  rotate_left
  ·
   intro w'
   go_simp
   with_reducible rfl
  rotate_left
  ·
   simp only [kk, kz, kq, ky, zk, zl]
   rfl
  refine one_ (i := 11) (N := none) #[kt,kt,kt,kt,kt,kt,kt,kt,kt,kt,kt,kt] rfl rfl (zy HT_.1 (by kernel_rfl)) (by decide) (fun K hK => ?_)
  have hs10 : w9.cell? ⟨gb122, 0, none⟩ = some (.int .i64 0) := (zh zP.1 0).trans rfl
  have hfs10 := zi zP.1 0
  have hns10_0 := zK.1
  have hms10_0 := NB122_121.1
  have hs11 : w9.cell? ⟨gb122, 1, none⟩ = some (.int .i64 0) := (zh zP.1 1).trans rfl
  have hfs11 := zi zP.1 1
  have hns11_0 := zK.1
  have hms11_0 := NB122_121.1
  refine skip_ (w1 := ?_) (by rfl) rfl ?_ ?_
  rotate_left
  ·
   go_simp
   rfl
  refine hK.out _ _ ⟨((zw (p := ⟨gb122, _, none⟩) zK.1 _).trans (((zw (p := ⟨gb122, _, none⟩) zK.1 _).trans (hHeld.1)))), ((zw (p := ⟨gb122, _, none⟩) zK.1 _).trans (((zw (p := ⟨gb122, _, none⟩) zK.1 _).trans (hHeld.2))))⟩ (fun hHeld => ?_)
  clear hK K
  refine done_ (done_of HT_.1 (by kernel_rfl)) ?_
  try go_wp2
  refine bodyPost_ret (results_cell_row rfl _ _ gb122 26 #[.int .i64 (wrap64 (a0_0 - (kc a0_0 (wrap64 (2 * t123))))), .int .i64 (wrap64 (a0_1 - 1))] (0, 0) _ rfl (by refine zu (cs := #[.int .i64 (wrap64 (a0_0 - (kc a0_0 (wrap64 (2 * t123))))), .int .i64 0]) ?_ 1 _ rfl; refine zu (cs := #[.int .i64 0, .int .i64 0]) ?_ 0 _ rfl; exact zP.1) ke rfl (by kernel_rfl)) rfl ?_
  exact ⟨by rfl, by repeat ((with_reducible first | exact HB.1 | refine zg ?_ GE122.1))⟩

/-! ### spec_ParentOf: function 19 -/
def spec_ParentOf.f (a0_0 : Int) (a0_1 : Int) : Option (Int × Int × Bool) := (spec_GoodPrefix.f a0_0 a0_1).bind fun t126 => (if t126 = true then (if a0_1 = 0 then (some (0, 0, false)) else ((spec_l1Parent.f a0_0 a0_1).bind fun bt127 => (some (bt127.1, bt127.2, true)))) else (some (0, 0, false)))
theorem spec_ParentOf.calls (a0_0 : Int) (a0_1 : Int) (r1 : Int) (r2 : Int) (r3 : Bool) (w : World) (h : spec_ParentOf.f a0_0 a0_1 = some (r1, r2, r3)) :
  Calls Try.prog 19 #[.agg #[.int .i64 a0_0, .int .i64 a0_1]] w fun e w' => e = .returned (.tuple #[.agg #[.int .i64 r1, .int .i64 r2], .bool r3]) ∧ Below w.heap.size w w' := by
 have hu26 := ke
 have HB := kj (Below.refl w.heap.size w)
 have H : ((spec_GoodPrefix.f a0_0 a0_1).bind fun t126 => (if t126 = true then (if a0_1 = 0 then (some (0, 0, false)) else ((spec_l1Parent.f a0_0 a0_1).bind fun bt127 => (some (bt127.1, bt127.2, true)))) else (some (0, 0, false)))) = some (r1, r2, r3) := h
 clear h
 replace H := kg.mp H
 obtain ⟨t126, A20, H⟩ := H
 replace H : (if t126 = true then (if a0_1 = 0 then (some (0, 0, false)) else ((spec_l1Parent.f a0_0 a0_1).bind fun bt127 => (some (bt127.1, bt127.2, true)))) else (some (0, 0, false))) = some (r1, r2, r3) := H
 have A2 := kj A20
 clear A20
 by_cases c3 : t126 = true
 ·
  subst c3
  have H1 : (if a0_1 = 0 then (some (0, 0, false)) else ((spec_l1Parent.f a0_0 a0_1).bind fun bt127 => (some (bt127.1, bt127.2, true)))) = some (r1, r2, r3) := by rw [if_pos rfl] at H; exact H
  clear H
  have H := H1
  clear H1
  by_cases c4 : a0_1 = 0
  ·
   rw [if_pos c4] at H
   have c4b0 : (a0_1 == 0) = true := beq_iff_eq.mpr c4
   have c4b1 : (a0_1 != 0) = false := bne_eq_false_iff_eq.mpr c4
   clear c4
   simp only [kd, Prod.mk.injEq] at H
   obtain ⟨rfl, rfl, rfl⟩ := H
   go_enter Try.func19, Try.ntmps19
   go_wp2_with (first | ((with_reducible refine zr (N := 1) rfl ?_); refine zq ?hg (N := 1) ?hd (cs := #[.int .i64 a0_0, .int .i64 a0_1]) (t := 26) ?hr ?_; (case hd => rfl); (case hg => rfl); (case hr => (go_simp; done)); intro gb124 hg w5 hbox hb; replace HB := kj (zn HB.1 hb); have zD := kj hbox; clear hb hbox hg) | ((with_reducible refine zr (N := 2) rfl ?_); refine zq ?hg (N := 2) ?hd (cs := #[.int .i64 0, .int .i64 0]) (t := 26) ?hr ?_; (case hd => rfl); (case hg => rfl); (case hr => (go_simp; done)); intro gb125 hg w6 hbox hb; have zG := kj hbox; have zQ := kj ((by rw [hg]; exact (zj HB.1) : w.heap.size ≤ gb125)); replace HB := kj (zn HB.1 hb); have zN := kj ((by rw [hg]; exact ko (zv (g := gb124) (o := .cells #[.int .i64 a0_0, .int .i64 a0_1] 26 (0, 0)) zD.1) : gb124 ≠ gb125)); have zO := kj ((by rw [hg]; exact kx (zv (g := gb124) (o := .cells #[.int .i64 a0_0, .int .i64 a0_1] 26 (0, 0)) zD.1) : gb125 ≠ gb124)); replace zD := kj (zo (g := gb124) (o := .cells #[.int .i64 a0_0, .int .i64 a0_1] 26 (0, 0)) zD.1 hb); clear hb hbox hg; have hnb7 := zN.1; have hnc7 := zO.1; have hcz8_0 : w6.cell? ⟨gb124, 0, none⟩ = some (.int .i64 a0_0) := (zh zD.1 0).trans rfl; have hcz8_1 : w6.cell? ⟨gb124, 1, none⟩ = some (.int .i64 a0_1) := (zh zD.1 1).trans rfl; have hfz8_0 := zi zD.1 0; have hfz8_1 := zi zD.1 1) | ((with_reducible refine zt (f := 12) rfl ?_); refine zz (some 5) rfl rfl ks (by kernel_rfl) rfl #[.agg #[.int .i64 a0_0, .int .i64 a0_1]] rfl (by (try simp only [kv, kf, kb]); rfl) ?_; (with_reducible refine (spec_GoodPrefix.calls a0_0 a0_1 true _ A2.1).mono ?_); rintro e w9 ⟨rfl, hb⟩; refine ⟨_, rfl, ?_⟩; replace zD := kj (zo (g := gb124) (o := .cells #[.int .i64 a0_0, .int .i64 a0_1] 26 (0, 0)) zD.1 hb); replace zG := kj (zo (g := gb125) (o := .cells #[.int .i64 0, .int .i64 0] 26 (0, 0)) zG.1 hb); replace HB := kj (zn HB.1 hb); (try clear hb); (try clear hb2); (try clear hk); (try clear hi); have hcz10_0 : w9.cell? ⟨gb124, 0, none⟩ = some (.int .i64 a0_0) := (zh zD.1 0).trans rfl; have hcz10_1 : w9.cell? ⟨gb124, 1, none⟩ = some (.int .i64 a0_1) := (zh zD.1 1).trans rfl; have hfz10_0 := zi zD.1 0; have hfz10_1 := zi zD.1 1; have hcz11_0 : w9.cell? ⟨gb125, 0, none⟩ = some (.int .i64 0) := (zh zG.1 0).trans rfl; have hcz11_1 : w9.cell? ⟨gb125, 1, none⟩ = some (.int .i64 0) := (zh zG.1 1).trans rfl; have hfz11_0 := zi zG.1 0; have hfz11_1 := zi zG.1 1))
   refine bodyPost_ret (results_ct rfl _ _ gb125 26 #[.int .i64 0, .int .i64 0] (0, 0) _ rfl (by refine zu (cs := #[.int .i64 0, .int .i64 0]) ?_ 1 _ rfl; refine zu (cs := #[.int .i64 0, .int .i64 0]) ?_ 0 _ rfl; exact zG.1) ke rfl (by kernel_rfl)) rfl ?_
   exact ⟨by rfl, by repeat ((with_reducible first | exact HB.1 | refine zg ?_ zQ.1))⟩
  ·
   rw [if_neg c4] at H
   have c4b0 : (a0_1 == 0) = false := beq_eq_false_iff_ne.mpr c4
   have c4b1 : (a0_1 != 0) = true := bne_iff_ne.mpr c4
   replace H := kg.mp H
   obtain ⟨⟨t127, t128⟩, A120, H⟩ := H
   replace H : (some (t127, t128, true)) = some (r1, r2, r3) := H
   have A12 := kj A120
   clear A120
   simp only [kd, Prod.mk.injEq] at H
   obtain ⟨rfl, rfl, rfl⟩ := H
   go_enter Try.func19, Try.ntmps19
   go_wp2_with (first | ((with_reducible refine zr (N := 1) rfl ?_); refine zq ?hg (N := 1) ?hd (cs := #[.int .i64 a0_0, .int .i64 a0_1]) (t := 26) ?hr ?_; (case hd => rfl); (case hg => rfl); (case hr => (go_simp; done)); intro gb124 hg w13 hbox hb; replace HB := kj (zn HB.1 hb); have zD := kj hbox; clear hb hbox hg) | ((with_reducible refine zr (N := 2) rfl ?_); refine zq ?hg (N := 2) ?hd (cs := #[.int .i64 0, .int .i64 0]) (t := 26) ?hr ?_; (case hd => rfl); (case hg => rfl); (case hr => (go_simp; done)); intro gb125 hg w14 hbox hb; have zG := kj hbox; have zQ := kj ((by rw [hg]; exact (zj HB.1) : w.heap.size ≤ gb125)); replace HB := kj (zn HB.1 hb); have zN := kj ((by rw [hg]; exact ko (zv (g := gb124) (o := .cells #[.int .i64 a0_0, .int .i64 a0_1] 26 (0, 0)) zD.1) : gb124 ≠ gb125)); have zO := kj ((by rw [hg]; exact kx (zv (g := gb124) (o := .cells #[.int .i64 a0_0, .int .i64 a0_1] 26 (0, 0)) zD.1) : gb125 ≠ gb124)); replace zD := kj (zo (g := gb124) (o := .cells #[.int .i64 a0_0, .int .i64 a0_1] 26 (0, 0)) zD.1 hb); clear hb hbox hg; have hnb15 := zN.1; have hnc15 := zO.1; have hcz16_0 : w14.cell? ⟨gb124, 0, none⟩ = some (.int .i64 a0_0) := (zh zD.1 0).trans rfl; have hcz16_1 : w14.cell? ⟨gb124, 1, none⟩ = some (.int .i64 a0_1) := (zh zD.1 1).trans rfl; have hfz16_0 := zi zD.1 0; have hfz16_1 := zi zD.1 1) | ((with_reducible refine zt (f := 12) rfl ?_); refine zz (some 5) rfl rfl ks (by kernel_rfl) rfl #[.agg #[.int .i64 a0_0, .int .i64 a0_1]] rfl (by (try simp only [kv, kf, kb]); rfl) ?_; (with_reducible refine (spec_GoodPrefix.calls a0_0 a0_1 true _ A2.1).mono ?_); rintro e w17 ⟨rfl, hb⟩; refine ⟨_, rfl, ?_⟩; replace zD := kj (zo (g := gb124) (o := .cells #[.int .i64 a0_0, .int .i64 a0_1] 26 (0, 0)) zD.1 hb); replace zG := kj (zo (g := gb125) (o := .cells #[.int .i64 0, .int .i64 0] 26 (0, 0)) zG.1 hb); replace HB := kj (zn HB.1 hb); (try clear hb); (try clear hb2); (try clear hk); (try clear hi); have hcz18_0 : w17.cell? ⟨gb124, 0, none⟩ = some (.int .i64 a0_0) := (zh zD.1 0).trans rfl; have hcz18_1 : w17.cell? ⟨gb124, 1, none⟩ = some (.int .i64 a0_1) := (zh zD.1 1).trans rfl; have hfz18_0 := zi zD.1 0; have hfz18_1 := zi zD.1 1) | ((with_reducible refine zt (f := 41) rfl ?_); refine zz (some 14) rfl rfl Try.func41 (by kernel_rfl) rfl #[.agg #[.int .i64 a0_0, .int .i64 a0_1]] rfl (by (try simp only [kv, kf, kb]); rfl) ?_; (with_reducible refine (spec_l1Parent.calls a0_0 a0_1 t127 t128 _ A12.1).mono ?_); rintro e w19 ⟨rfl, hb⟩; refine ⟨_, rfl, ?_⟩; replace zD := kj (zo (g := gb124) (o := .cells #[.int .i64 a0_0, .int .i64 a0_1] 26 (0, 0)) zD.1 hb); replace zG := kj (zo (g := gb125) (o := .cells #[.int .i64 0, .int .i64 0] 26 (0, 0)) zG.1 hb); replace HB := kj (zn HB.1 hb); (try clear hb); (try clear hb2); (try clear hk); (try clear hi); have hcz20_0 : w19.cell? ⟨gb125, 0, none⟩ = some (.int .i64 0) := (zh zG.1 0).trans rfl; have hcz20_1 : w19.cell? ⟨gb125, 1, none⟩ = some (.int .i64 0) := (zh zG.1 1).trans rfl; have hfz20_0 := zi zG.1 0; have hfz20_1 := zi zG.1 1))
   refine bodyPost_ret (results_ct rfl _ _ gb125 26 #[.int .i64 t127, .int .i64 t128] (0, 0) _ rfl (by refine zu (cs := #[.int .i64 t127, .int .i64 0]) ?_ 1 _ rfl; refine zu (cs := #[.int .i64 0, .int .i64 0]) ?_ 0 _ rfl; exact zG.1) ke rfl (by kernel_rfl)) rfl ?_
   exact ⟨by rfl, by repeat ((with_reducible first | exact HB.1 | refine zg ?_ zQ.1))⟩
 ·
  replace c3 := ku.mpr c3
  subst c3
  have H1 : (some (0, 0, false)) = some (r1, r2, r3) := by rw [if_neg (show ¬ (false = true) by decide)] at H; exact H
  clear H
  have H := H1
  clear H1
  simp only [kd, Prod.mk.injEq] at H
  obtain ⟨rfl, rfl, rfl⟩ := H
  go_enter Try.func19, Try.ntmps19
  go_wp2_with (first | ((with_reducible refine zr (N := 1) rfl ?_); refine zq ?hg (N := 1) ?hd (cs := #[.int .i64 a0_0, .int .i64 a0_1]) (t := 26) ?hr ?_; (case hd => rfl); (case hg => rfl); (case hr => (go_simp; done)); intro gb124 hg w21 hbox hb; replace HB := kj (zn HB.1 hb); have zD := kj hbox; clear hb hbox hg) | ((with_reducible refine zr (N := 2) rfl ?_); refine zq ?hg (N := 2) ?hd (cs := #[.int .i64 0, .int .i64 0]) (t := 26) ?hr ?_; (case hd => rfl); (case hg => rfl); (case hr => (go_simp; done)); intro gb125 hg w22 hbox hb; have zG := kj hbox; have zQ := kj ((by rw [hg]; exact (zj HB.1) : w.heap.size ≤ gb125)); replace HB := kj (zn HB.1 hb); have zN := kj ((by rw [hg]; exact ko (zv (g := gb124) (o := .cells #[.int .i64 a0_0, .int .i64 a0_1] 26 (0, 0)) zD.1) : gb124 ≠ gb125)); have zO := kj ((by rw [hg]; exact kx (zv (g := gb124) (o := .cells #[.int .i64 a0_0, .int .i64 a0_1] 26 (0, 0)) zD.1) : gb125 ≠ gb124)); replace zD := kj (zo (g := gb124) (o := .cells #[.int .i64 a0_0, .int .i64 a0_1] 26 (0, 0)) zD.1 hb); clear hb hbox hg; have hnb23 := zN.1; have hnc23 := zO.1; have hcz24_0 : w22.cell? ⟨gb124, 0, none⟩ = some (.int .i64 a0_0) := (zh zD.1 0).trans rfl; have hcz24_1 : w22.cell? ⟨gb124, 1, none⟩ = some (.int .i64 a0_1) := (zh zD.1 1).trans rfl; have hfz24_0 := zi zD.1 0; have hfz24_1 := zi zD.1 1) | ((with_reducible refine zt (f := 12) rfl ?_); refine zz (some 5) rfl rfl ks (by kernel_rfl) rfl #[.agg #[.int .i64 a0_0, .int .i64 a0_1]] rfl (by (try simp only [kv, kf, kb]); rfl) ?_; (with_reducible refine (spec_GoodPrefix.calls a0_0 a0_1 false _ A2.1).mono ?_); rintro e w25 ⟨rfl, hb⟩; refine ⟨_, rfl, ?_⟩; replace zG := kj (zo (g := gb125) (o := .cells #[.int .i64 0, .int .i64 0] 26 (0, 0)) zG.1 hb); replace HB := kj (zn HB.1 hb); (try clear hb); (try clear hb2); (try clear hk); (try clear hi); have hcz26_0 : w25.cell? ⟨gb125, 0, none⟩ = some (.int .i64 0) := (zh zG.1 0).trans rfl; have hcz26_1 : w25.cell? ⟨gb125, 1, none⟩ = some (.int .i64 0) := (zh zG.1 1).trans rfl; have hfz26_0 := zi zG.1 0; have hfz26_1 := zi zG.1 1))
  refine bodyPost_ret (results_ct rfl _ _ gb125 26 #[.int .i64 0, .int .i64 0] (0, 0) _ rfl (by refine zu (cs := #[.int .i64 0, .int .i64 0]) ?_ 1 _ rfl; refine zu (cs := #[.int .i64 0, .int .i64 0]) ?_ 0 _ rfl; exact zG.1) ke rfl (by kernel_rfl)) rfl ?_
  exact ⟨by rfl, by repeat ((with_reducible first | exact HB.1 | refine zg ?_ zQ.1))⟩

/-! ### impl_ParentOf: function 20 -/
def impl_ParentOf.f (a0_0 : Int) (a0_1 : Int) : Option (Int × Int × Bool) := (impl_GoodPrefix.f a0_0 a0_1).bind fun t131 => (if t131 = true then (if a0_1 = 0 then (some (0, 0, false)) else ((impl_sizeOf.f a0_1).bind fun t132 => (some (Go.bits .andNot .i64 a0_0 t132, wrap64 (a0_1 - 1), true)))) else (some (0, 0, false)))
def impl_ParentOf.T3 : Bool × List (List Nat × List Nat) := (true, [([], []), ([0], [0]), ([], []), ([2], [2]), ([3], [3]), ([1, 4], [1, 4]), ([], []), ([6], [6]), ([7], [7]), ([5, 8], [5, 8]), ([9, 4, 0, 1, 2, 3, 4, 5, 6, 7, 8, 9], [9]), ([10, 0, 1, 2, 3, 4, 5, 6, 7, 8, 9, 10], [])])
def impl_ParentOf.B3 : List Nat := [0, 1, 0, 4, 12, 31, 0, 64, 192, 511, 1023, 2047]
theorem impl_ParentOf.tab3 : rtab .any (opsOf Try.f20 3) = impl_ParentOf.T3 := by kernel_rfl
theorem impl_ParentOf.bits3 : waitsOk impl_ParentOf.T3.2 impl_ParentOf.B3 = true := by kernel_rfl
theorem impl_ParentOf.calls (a0_0 : Int) (a0_1 : Int) (r1 : Int) (r2 : Int) (r3 : Bool) (w : World) (h : impl_ParentOf.f a0_0 a0_1 = some (r1, r2, r3)) :
  Calls Try.prog 20 #[.agg #[.int .i64 a0_0, .int .i64 a0_1]] w fun e w' => e = .returned (.tuple #[.agg #[.int .i64 r1, .int .i64 r2], .bool r3]) ∧ Below w.heap.size w w' := by
 have hu26 := ke
 have HB := kj (Below.refl w.heap.size w)
 have H : ((impl_GoodPrefix.f a0_0 a0_1).bind fun t131 => (if t131 = true then (if a0_1 = 0 then (some (0, 0, false)) else ((impl_sizeOf.f a0_1).bind fun t132 => (some (Go.bits .andNot .i64 a0_0 t132, wrap64 (a0_1 - 1), true)))) else (some (0, 0, false)))) = some (r1, r2, r3) := h
 clear h
 replace H := kg.mp H
 obtain ⟨t131, A20, H⟩ := H
 replace H : (if t131 = true then (if a0_1 = 0 then (some (0, 0, false)) else ((impl_sizeOf.f a0_1).bind fun t132 => (some (Go.bits .andNot .i64 a0_0 t132, wrap64 (a0_1 - 1), true)))) else (some (0, 0, false))) = some (r1, r2, r3) := H
 have A2 := kj A20
 clear A20
 by_cases c3 : t131 = true
 ·
  subst c3
  have H1 : (if a0_1 = 0 then (some (0, 0, false)) else ((impl_sizeOf.f a0_1).bind fun t132 => (some (Go.bits .andNot .i64 a0_0 t132, wrap64 (a0_1 - 1), true)))) = some (r1, r2, r3) := by rw [if_pos rfl] at H; exact H
  clear H
  have H := H1
  clear H1
  by_cases c4 : a0_1 = 0
  ·
   rw [if_pos c4] at H
   have c4b0 : (a0_1 == 0) = true := beq_iff_eq.mpr c4
   have c4b1 : (a0_1 != 0) = false := bne_eq_false_iff_eq.mpr c4
   clear c4
   simp only [kd, Prod.mk.injEq] at H
   obtain ⟨rfl, rfl, rfl⟩ := H
   go_enter Try.func20, Try.ntmps20
   go_wp2_with (first | ((with_reducible refine zr (N := 1) rfl ?_); refine zq ?hg (N := 1) ?hd (cs := #[.int .i64 a0_0, .int .i64 a0_1]) (t := 26) ?hr ?_; (case hd => rfl); (case hg => rfl); (case hr => (go_simp; done)); intro gb129 hg w5 hbox hb; replace HB := kj (zn HB.1 hb); have zC := kj hbox; clear hb hbox hg) | ((with_reducible refine zr (N := 2) rfl ?_); refine zq ?hg (N := 2) ?hd (cs := #[.int .i64 0, .int .i64 0]) (t := 26) ?hr ?_; (case hd => rfl); (case hg => rfl); (case hr => (go_simp; done)); intro gb130 hg w6 hbox hb; have zF := kj hbox; have zR := kj ((by rw [hg]; exact (zj HB.1) : w.heap.size ≤ gb130)); replace HB := kj (zn HB.1 hb); have zH := kj ((by rw [hg]; exact ko (zv (g := gb129) (o := .cells #[.int .i64 a0_0, .int .i64 a0_1] 26 (0, 0)) zC.1) : gb129 ≠ gb130)); have zL := kj ((by rw [hg]; exact kx (zv (g := gb129) (o := .cells #[.int .i64 a0_0, .int .i64 a0_1] 26 (0, 0)) zC.1) : gb130 ≠ gb129)); replace zC := kj (zo (g := gb129) (o := .cells #[.int .i64 a0_0, .int .i64 a0_1] 26 (0, 0)) zC.1 hb); clear hb hbox hg; have hnb7 := zH.1; have hnc7 := zL.1; have hcz8_0 : w6.cell? ⟨gb129, 0, none⟩ = some (.int .i64 a0_0) := (zh zC.1 0).trans rfl; have hcz8_1 : w6.cell? ⟨gb129, 1, none⟩ = some (.int .i64 a0_1) := (zh zC.1 1).trans rfl; have hfz8_0 := zi zC.1 0; have hfz8_1 := zi zC.1 1) | ((with_reducible refine zt (f := 14) rfl ?_); refine zz (some 5) rfl rfl Try.func14 (by kernel_rfl) rfl #[.agg #[.int .i64 a0_0, .int .i64 a0_1]] rfl (by (try simp only [kv, kf, kb]); rfl) ?_; (with_reducible refine (impl_GoodPrefix.calls a0_0 a0_1 true _ A2.1).mono ?_); rintro e w9 ⟨rfl, hb⟩; refine ⟨_, rfl, ?_⟩; replace zC := kj (zo (g := gb129) (o := .cells #[.int .i64 a0_0, .int .i64 a0_1] 26 (0, 0)) zC.1 hb); replace zF := kj (zo (g := gb130) (o := .cells #[.int .i64 0, .int .i64 0] 26 (0, 0)) zF.1 hb); replace HB := kj (zn HB.1 hb); (try clear hb); (try clear hb2); (try clear hk); (try clear hi); have hcz10_0 : w9.cell? ⟨gb129, 0, none⟩ = some (.int .i64 a0_0) := (zh zC.1 0).trans rfl; have hcz10_1 : w9.cell? ⟨gb129, 1, none⟩ = some (.int .i64 a0_1) := (zh zC.1 1).trans rfl; have hfz10_0 := zi zC.1 0; have hfz10_1 := zi zC.1 1; have hcz11_0 : w9.cell? ⟨gb130, 0, none⟩ = some (.int .i64 0) := (zh zF.1 0).trans rfl; have hcz11_1 : w9.cell? ⟨gb130, 1, none⟩ = some (.int .i64 0) := (zh zF.1 1).trans rfl; have hfz11_0 := zi zF.1 0; have hfz11_1 := zi zF.1 1))
   refine bodyPost_ret (results_ct rfl _ _ gb130 26 #[.int .i64 0, .int .i64 0] (0, 0) _ rfl (by refine zu (cs := #[.int .i64 0, .int .i64 0]) ?_ 1 _ rfl; refine zu (cs := #[.int .i64 0, .int .i64 0]) ?_ 0 _ rfl; exact zF.1) ke rfl (by kernel_rfl)) rfl ?_
   exact ⟨by rfl, by repeat ((with_reducible first | exact HB.1 | refine zg ?_ zR.1))⟩
  ·
   rw [if_neg c4] at H
   have c4b0 : (a0_1 == 0) = false := beq_eq_false_iff_ne.mpr c4
   have c4b1 : (a0_1 != 0) = true := bne_iff_ne.mpr c4
   replace H := kg.mp H
   obtain ⟨t132, A120, H⟩ := H
   replace H : (some (Go.bits .andNot .i64 a0_0 t132, wrap64 (a0_1 - 1), true)) = some (r1, r2, r3) := H
   have A12 := kj A120
   clear A120
   simp only [kd, Prod.mk.injEq] at H
   obtain ⟨rfl, rfl, rfl⟩ := H
   go_enter Try.func20, Try.ntmps20
   try go_wp2_with (first | ((with_reducible refine zr (N := 1) rfl ?_); refine zq ?hg (N := 1) ?hd (cs := #[.int .i64 a0_0, .int .i64 a0_1]) (t := 26) ?hr ?_; (case hd => rfl); (case hg => rfl); (case hr => (go_simp; done)); intro gb129 hg w13 hbox hb; replace HB := kj (zn HB.1 hb); have zC := kj hbox; clear hb hbox hg) | ((with_reducible refine zr (N := 2) rfl ?_); refine zq ?hg (N := 2) ?hd (cs := #[.int .i64 0, .int .i64 0]) (t := 26) ?hr ?_; (case hd => rfl); (case hg => rfl); (case hr => (go_simp; done)); intro gb130 hg w14 hbox hb; have zF := kj hbox; have zR := kj ((by rw [hg]; exact (zj HB.1) : w.heap.size ≤ gb130)); replace HB := kj (zn HB.1 hb); have zH := kj ((by rw [hg]; exact ko (zv (g := gb129) (o := .cells #[.int .i64 a0_0, .int .i64 a0_1] 26 (0, 0)) zC.1) : gb129 ≠ gb130)); have zL := kj ((by rw [hg]; exact kx (zv (g := gb129) (o := .cells #[.int .i64 a0_0, .int .i64 a0_1] 26 (0, 0)) zC.1) : gb130 ≠ gb129)); replace zC := kj (zo (g := gb129) (o := .cells #[.int .i64 a0_0, .int .i64 a0_1] 26 (0, 0)) zC.1 hb); clear hb hbox hg; have hnb15 := zH.1; have hnc15 := zL.1; have hcz16_0 : w14.cell? ⟨gb129, 0, none⟩ = some (.int .i64 a0_0) := (zh zC.1 0).trans rfl; have hcz16_1 : w14.cell? ⟨gb129, 1, none⟩ = some (.int .i64 a0_1) := (zh zC.1 1).trans rfl; have hfz16_0 := zi zC.1 0; have hfz16_1 := zi zC.1 1) | ((with_reducible refine zt (f := 14) rfl ?_); refine zz (some 5) rfl rfl Try.func14 (by kernel_rfl) rfl #[.agg #[.int .i64 a0_0, .int .i64 a0_1]] rfl (by (try simp only [kv, kf, kb]); rfl) ?_; (with_reducible refine (impl_GoodPrefix.calls a0_0 a0_1 true _ A2.1).mono ?_); rintro e w17 ⟨rfl, hb⟩; refine ⟨_, rfl, ?_⟩; replace zC := kj (zo (g := gb129) (o := .cells #[.int .i64 a0_0, .int .i64 a0_1] 26 (0, 0)) zC.1 hb); replace zF := kj (zo (g := gb130) (o := .cells #[.int .i64 0, .int .i64 0] 26 (0, 0)) zF.1 hb); replace HB := kj (zn HB.1 hb); (try clear hb); (try clear hb2); (try clear hk); (try clear hi); have hcz18_0 : w17.cell? ⟨gb129, 0, none⟩ = some (.int .i64 a0_0) := (zh zC.1 0).trans rfl; have hcz18_1 : w17.cell? ⟨gb129, 1, none⟩ = some (.int .i64 a0_1) := (zh zC.1 1).trans rfl; have hfz18_0 := zi zC.1 0; have hfz18_1 := zi zC.1 1))
   replace zC := kj (zf zC.1)
   replace zF := kj (zf zF.1)
   replace HB := kj (zb HB.1)
   refine start_ (n := 12) (S := fun w' => w'.cell? ⟨gb129, 0, none⟩ = some (.int .i64 a0_0) ∧ w'.cell? ⟨gb129, 1, none⟩ = some (.int .i64 a0_1)) (ds := []) #[kr,kr,kr,kr,kr,kr,kr,kr,kr,kr,kr,kr] (by kernel_rfl) rfl rfl ⟨(zh zC.1 0).trans rfl, (zh zC.1 1).trans rfl⟩ (fun hHeld => ?_); refine with_tabW impl_ParentOf.tab3 impl_ParentOf.bits3 (fun HT_ HW_ => ?_)
   generalize w17.drew = w19 at zC zF HB hHeld ⊢
   refine zp (i := 0) (N := some 13) (v := ?_) (a' := ?_) #[kt,kr,kr,kr,kr,kr,kr,kr,kr,kr,kr,kr] rfl rfl (zm HT_.1 (by kernel_rfl)) (fun _ _ _ h => h) (kh ⟨by rfl, ?_⟩) ?_ ?_
   rotate_left
   ·
    intro w'
    go_simp
    with_reducible rfl
   rotate_left
   ·
    simp only [kk, kz, kq, ky, zk, zl]
    rfl
   refine zp (i := 2) (N := some 15) (v := ?_) (a' := ?_) #[kt,kr,kt,kr,kr,kr,kr,kr,kr,kr,kr,kr] rfl rfl (zm HT_.1 (by kernel_rfl)) (fun _ _ _ h => h) (kh ⟨by rfl, ?_⟩) ?_ ?_
   rotate_left
   ·
    intro w'
    go_simp
    with_reducible rfl
   rotate_left
   ·
    simp only [kk, kz, kq, ky, zk, zl]
    rfl
   refine zp (i := 6) (N := some 19) (v := ?_) (a' := ?_) #[kt,kr,kt,kr,kr,kr,kt,kr,kr,kr,kr,kr] rfl rfl (zm HT_.1 (by kernel_rfl)) (fun _ _ _ h => h) (kh ⟨by rfl, ?_⟩) ?_ ?_
   rotate_left
   ·
    intro w'
    go_simp
    with_reducible rfl
   rotate_left
   ·
    simp only [kk, kz, kq, ky, zk, zl]
    rfl
   refine zx (i := 1) (N := some 14) (v := ?_) (a' := ?_) #[kt,kt,kt,kr,kr,kr,kt,kr,kr,kr,kr,kr] rfl rfl (zs HT_.1 HW_.1 (by kernel_rfl)) (fun _ _ _ h => h) (kh ⟨by rfl, ?_⟩) hHeld ?_ ?_
   rotate_left
   ·
    rintro w' ⟨s0, s1⟩
    go_simp
    with_reducible rfl
   rotate_left
   ·
    simp only [kk, kz, kq, ky, zk, zl]
    rfl
   refine zx (i := 3) (N := some 16) (v := ?_) (a' := ?_) #[kt,kt,kt,kt,kr,kr,kt,kr,kr,kr,kr,kr] rfl rfl (zs HT_.1 HW_.1 (by kernel_rfl)) (fun _ _ _ h => h) (kh ⟨by rfl, ?_⟩) hHeld ?_ ?_
   rotate_left
   ·
    rintro w' ⟨s0, s1⟩
    go_simp
    with_reducible rfl
   rotate_left
   ·
    simp only [kk, kz, kq, ky, zk, zl]
    rfl
   refine zx (i := 7) (N := some 20) (v := ?_) (a' := ?_) #[kt,kt,kt,kt,kr,kr,kt,kt,kr,kr,kr,kr] rfl rfl (zs HT_.1 HW_.1 (by kernel_rfl)) (fun _ _ _ h => h) (kh ⟨by rfl, ?_⟩) hHeld ?_ ?_
   rotate_left
   ·
    rintro w' ⟨s0, s1⟩
    go_simp
    with_reducible rfl
   rotate_left
   ·
    simp only [kk, kz, kq, ky, zk, zl]
    rfl
   refine zp (i := 8) (N := some 21) (v := ?_) (a' := ?_) #[kt,kt,kt,kt,kr,kr,kt,kt,kt,kr,kr,kr] rfl rfl (zm HT_.1 (by kernel_rfl)) (fun _ _ _ h => h) (kh ⟨by rfl, ?_⟩) ?_ ?_
   rotate_left
   ·
    intro w'
    go_simp
    with_reducible rfl
   rotate_left
   ·
    simp only [kk, kz, kq, ky, zk, zl]
    rfl
   refine one_ (i := 4) (N := some 17) #[kt,kt,kt,kt,kt,kr,kt,kt,kt,kr,kr,kr] rfl rfl (zy HT_.1 (by kernel_rfl)) (by decide) (fun K hK => ?_)
   refine zB Try.func36 (by kernel_rfl) rfl #[.int .i64 a0_1] (by rfl) rfl rfl (by (try simp only [kv, kf, kb]); rfl) ?_
   with_reducible refine (impl_sizeOf.calls a0_1 t132 _ A12.1).mono ?_
   rintro e w' ⟨rfl, ⟨nd, rfl⟩⟩
   refine ⟨_, rfl, ?_⟩
   refine hK.out _ _ ⟨(zh zC.1 0).trans rfl, (zh zC.1 1).trans rfl⟩ (fun hHeld => ?_)
   clear hK K
   refine zA (a' := ?_) ?_ ?_
   rotate_left
   ·
    show kk _ (some 17) _ = _
    simp only [kk, kz, kq, ky, zk, zl]
    rfl
   refine zp (i := 5) (N := some 18) (v := ?_) (a' := ?_) #[kt,kt,kt,kt,kt,kt,kt,kt,kt,kr,kr,kr] rfl rfl (zm HT_.1 (by kernel_rfl)) (fun _ _ _ h => h) (kh ⟨by rfl, ?_⟩) ?_ ?_
   rotate_left
   ·
    intro w'
    go_simp
    with_reducible rfl
   rotate_left
   ·
    simp only [kk, kz, kq, ky, zk, zl]
    rfl
   refine zp (i := 9) (N := some 22) (v := ?_) (a' := ?_) #[kt,kt,kt,kt,kt,kt,kt,kt,kt,kt,kr,kr] rfl rfl (zm HT_.1 (by kernel_rfl)) (fun _ _ _ h => h) (kh ⟨by rfl, ?_⟩) ?_ ?_
   rotate_left
   ·
    intro w'
    go_simp
    with_reducible rfl
   rotate_left
   ·
    simp only [kk, kz, kq, ky, zk, zl]
    rfl
   refine one_ (i := 10) (N := none) #[kt,kt,kt,kt,kt,kt,kt,kt,kt,kt,kt,kr] rfl rfl (zy HT_.1 (by kernel_rfl)) (by decide) (fun K hK => ?_)
   have hs20 : w19.cell? ⟨gb130, 0, none⟩ = some (.int .i64 0) := (zh zF.1 0).trans rfl
   have hfs20 := zi zF.1 0
   have hns20_0 := zH.1
   have hms20_0 := zL.1
   have hs21 : w19.cell? ⟨gb130, 1, none⟩ = some (.int .i64 0) := (zh zF.1 1).trans rfl
   have hfs21 := zi zF.1 1
   have hns21_0 := zH.1
   have hms21_0 := zL.1
   refine skip_ (w1 := ?_) (by rfl) rfl ?_ ?_
   rotate_left
   ·
    go_simp
    rfl
   refine hK.out _ _ ⟨((zw (p := ⟨gb130, _, none⟩) zH.1 _).trans (((zw (p := ⟨gb130, _, none⟩) zH.1 _).trans (hHeld.1)))), ((zw (p := ⟨gb130, _, none⟩) zH.1 _).trans (((zw (p := ⟨gb130, _, none⟩) zH.1 _).trans (hHeld.2))))⟩ (fun hHeld => ?_)
   clear hK K
   refine zp (i := 11) (N := some 3) (v := ?_) (a' := ?_) #[kt,kt,kt,kt,kt,kt,kt,kt,kt,kt,kt,kt] rfl rfl (zm HT_.1 (by kernel_rfl)) (fun _ _ _ h => h) (kh ⟨by rfl, ?_⟩) ?_ ?_
   rotate_left
   ·
    intro w'
    go_simp
    with_reducible rfl
   rotate_left
   ·
    simp only [kk, kz, kq, ky, zk, zl]
    rfl
   refine done_ (done_of HT_.1 (by kernel_rfl)) ?_
   try go_wp2
   refine bodyPost_ret (results_ct rfl _ _ gb130 26 #[.int .i64 (Go.bits .andNot .i64 a0_0 t132), .int .i64 (wrap64 (a0_1 - 1))] (0, 0) _ rfl (by refine zu (cs := #[.int .i64 (Go.bits .andNot .i64 a0_0 t132), .int .i64 0]) ?_ 1 _ rfl; refine zu (cs := #[.int .i64 0, .int .i64 0]) ?_ 0 _ rfl; (with_reducible repeat (refine zd ?_ _)); exact zF.1) ke rfl (by kernel_rfl)) rfl ?_
   exact ⟨by rfl, by repeat ((with_reducible first | exact HB.1 | apply za | refine zg ?_ zR.1))⟩
 ·
  replace c3 := ku.mpr c3
  subst c3
  have H1 : (some (0, 0, false)) = some (r1, r2, r3) := by rw [if_neg (show ¬ (false = true) by decide)] at H; exact H
  clear H
  have H := H1
  clear H1
  simp only [kd, Prod.mk.injEq] at H
  obtain ⟨rfl, rfl, rfl⟩ := H
  go_enter Try.func20, Try.ntmps20
  go_wp2_with (first | ((with_reducible refine zr (N := 1) rfl ?_); refine zq ?hg (N := 1) ?hd (cs := #[.int .i64 a0_0, .int .i64 a0_1]) (t := 26) ?hr ?_; (case hd => rfl); (case hg => rfl); (case hr => (go_simp; done)); intro gb129 hg w22 hbox hb; replace HB := kj (zn HB.1 hb); have zC := kj hbox; clear hb hbox hg) | ((with_reducible refine zr (N := 2) rfl ?_); refine zq ?hg (N := 2) ?hd (cs := #[.int .i64 0, .int .i64 0]) (t := 26) ?hr ?_; (case hd => rfl); (case hg => rfl); (case hr => (go_simp; done)); intro gb130 hg w23 hbox hb; have zF := kj hbox; have zR := kj ((by rw [hg]; exact (zj HB.1) : w.heap.size ≤ gb130)); replace HB := kj (zn HB.1 hb); have zH := kj ((by rw [hg]; exact ko (zv (g := gb129) (o := .cells #[.int .i64 a0_0, .int .i64 a0_1] 26 (0, 0)) zC.1) : gb129 ≠ gb130)); have zL := kj ((by rw [hg]; exact kx (zv (g := gb129) (o := .cells #[.int .i64 a0_0, .int .i64 a0_1] 26 (0, 0)) zC.1) : gb130 ≠ gb129)); replace zC := kj (zo (g := gb129) (o := .cells #[.int .i64 a0_0, .int .i64 a0_1] 26 (0, 0)) zC.1 hb); clear hb hbox hg; have hnb24 := zH.1; have hnc24 := zL.1; have hcz25_0 : w23.cell? ⟨gb129, 0, none⟩ = some (.int .i64 a0_0) := (zh zC.1 0).trans rfl; have hcz25_1 : w23.cell? ⟨gb129, 1, none⟩ = some (.int .i64 a0_1) := (zh zC.1 1).trans rfl; have hfz25_0 := zi zC.1 0; have hfz25_1 := zi zC.1 1) | ((with_reducible refine zt (f := 14) rfl ?_); refine zz (some 5) rfl rfl Try.func14 (by kernel_rfl) rfl #[.agg #[.int .i64 a0_0, .int .i64 a0_1]] rfl (by (try simp only [kv, kf, kb]); rfl) ?_; (with_reducible refine (impl_GoodPrefix.calls a0_0 a0_1 false _ A2.1).mono ?_); rintro e w26 ⟨rfl, hb⟩; refine ⟨_, rfl, ?_⟩; replace zF := kj (zo (g := gb130) (o := .cells #[.int .i64 0, .int .i64 0] 26 (0, 0)) zF.1 hb); replace HB := kj (zn HB.1 hb); (try clear hb); (try clear hb2); (try clear hk); (try clear hi); have hcz27_0 : w26.cell? ⟨gb130, 0, none⟩ = some (.int .i64 0) := (zh zF.1 0).trans rfl; have hcz27_1 : w26.cell? ⟨gb130, 1, none⟩ = some (.int .i64 0) := (zh zF.1 1).trans rfl; have hfz27_0 := zi zF.1 0; have hfz27_1 := zi zF.1 1))
  refine bodyPost_ret (results_ct rfl _ _ gb130 26 #[.int .i64 0, .int .i64 0] (0, 0) _ rfl (by refine zu (cs := #[.int .i64 0, .int .i64 0]) ?_ 1 _ rfl; refine zu (cs := #[.int .i64 0, .int .i64 0]) ?_ 0 _ rfl; exact zF.1) ke rfl (by kernel_rfl)) rfl ?_
  exact ⟨by rfl, by repeat ((with_reducible first | exact HB.1 | refine zg ?_ zR.1))⟩

end Go.Proofs.Ytkollihfejkklaa.PFnHalves
