/- Go functions told by Lean functions, printed by a program. No condition but what each statement says. -/
import Derived.Test.YtakoaogbkajkcaaYFnExactRemoveFromx10
namespace Go.Proofs.Ytakoaogbkajkcaa.PFnExactRemoveFrom
open Go.RowKit Go.Proofs.YtakoaogbkajkcaaW.PrintWords Go.Proofs.YtakoaogbkajkcaaW.PrintLast Go.Proofs.YtakoaogbkajkcaaW.PrintMore
open List renaming setIfInBounds_toArray → kz, map_toArray → kq, set_cons_zero → ky, set_cons_succ → kj, map_cons → kk, map_nil → kv
open Aside0 renaming mk → kh
open Try renaming func105 → kg, func102 → kd, ntmps102 → kc
open Option renaming bind_eq_some_iff → kf
open Option.some renaming inj → ke
open Act renaming put → kb
open Bool renaming true → ko, false → kx
set_option maxHeartbeats 8000000
set_option maxRecDepth 100000
open Go.Proofs.YtakoaogbkajkcaaW.PrintLast renaming goesL_ → zg, i64_w → zi, i32_w → zj
open Go.Proofs.YtakoaogbkajkcaaW.PrintWords renaming blk_cell → za, pw_below_drewN → zb, gate_callee → zc, below_drew1 → zd, blk_drew → zh
attribute [local go_sem] max2_int min2_int max_two min_two max_three min_three max_four min_four
set_option linter.unusedVariables false
set_option linter.unusedSimpArgs false
/-! ### cmp_Compare_int: function 102 -/
def cmp_Compare_int.f (a0 : Int) (a1 : Int) : Option (Int) := (cmp_isNaN_int.f a0).bind fun t283 => ((cmp_isNaN_int.f a1).bind fun t284 => (if t283 = true then (if t284 = true then (some 0) else (some (-1))) else (if t284 = true then (some 1) else (if a0 < a1 then (some (-1)) else (if a0 > a1 then (some 1) else (some 0))))))
theorem cmp_Compare_int.calls (a0 : Int) (a1 : Int) (r : Int) (w : World) (h : cmp_Compare_int.f a0 a1 = some r) :
  Calls Try.prog 102 #[.int .i64 a0, .int .i64 a1] w fun e w' => e = .returned (.int .i64 r) ∧ Drawn0 w w' := by
 have H : ((cmp_isNaN_int.f a0).bind fun t283 => ((cmp_isNaN_int.f a1).bind fun t284 => (if t283 = true then (if t284 = true then (some 0) else (some (-1))) else (if t284 = true then (some 1) else (if a0 < a1 then (some (-1)) else (if a0 > a1 then (some 1) else (some 0))))))) = some r := h
 clear h
 replace H := kf.mp H
 obtain ⟨t283, A30, H⟩ := H
 replace H : ((cmp_isNaN_int.f a1).bind fun t284 => (if t283 = true then (if t284 = true then (some 0) else (some (-1))) else (if t284 = true then (some 1) else (if a0 < a1 then (some (-1)) else (if a0 > a1 then (some 1) else (some 0)))))) = some r := H
 have A3 := kh A30
 clear A30
 replace H := kf.mp H
 obtain ⟨t284, A40, H⟩ := H
 replace H : (if t283 = true then (if t284 = true then (some 0) else (some (-1))) else (if t284 = true then (some 1) else (if a0 < a1 then (some (-1)) else (if a0 > a1 then (some 1) else (some 0))))) = some r := H
 have A4 := kh A40
 clear A40
 by_cases c5 : t283 = true
 ·
  subst c5
  have H1 : (if t284 = true then (some 0) else (some (-1))) = some r := by rw [if_pos rfl] at H; exact H
  clear H
  have H := H1
  clear H1
  by_cases c6 : t284 = true
  ·
   subst c6
   have H1 : (some 0) = some r := by rw [if_pos rfl] at H; exact H
   clear H
   have H := H1
   clear H1
   obtain rfl := ke H
   go_enter kd, kc
   go_wp2_with (first | ((with_reducible refine zc (f := 105) rfl ?_); refine zg (some 8) rfl rfl kg (by kernel_rfl) rfl #[.int .i64 a0] rfl (by (try simp only [kq, kk, kv]); rfl) ?_; (with_reducible refine (cmp_isNaN_int.calls a0 true _ A3.1).mono ?_); rintro e w' ⟨rfl, ⟨nd, rfl⟩⟩; refine ⟨_, rfl, ?_⟩) | ((with_reducible refine zc (f := 105) rfl ?_); refine zg (some 10) rfl rfl kg (by kernel_rfl) rfl #[.int .i64 a1] rfl (by (try simp only [kq, kk, kv]); rfl) ?_; (with_reducible refine (cmp_isNaN_int.calls a1 true _ A4.1).mono ?_); rintro e w' ⟨rfl, ⟨nd, rfl⟩⟩; refine ⟨_, rfl, ?_⟩))
   go_ret
   exact ⟨by rfl, by repeat (first | exact Drawn0.refl _ | apply Drawn0.step)⟩
  ·
   replace c6 := Bool.eq_false_iff.mpr c6
   subst c6
   have H1 : (some (-1)) = some r := by rw [if_neg (show ¬ (false = true) by decide)] at H; exact H
   clear H
   have H := H1
   clear H1
   obtain rfl := ke H
   go_enter kd, kc
   go_wp2_with (first | ((with_reducible refine zc (f := 105) rfl ?_); refine zg (some 8) rfl rfl kg (by kernel_rfl) rfl #[.int .i64 a0] rfl (by (try simp only [kq, kk, kv]); rfl) ?_; (with_reducible refine (cmp_isNaN_int.calls a0 true _ A3.1).mono ?_); rintro e w' ⟨rfl, ⟨nd, rfl⟩⟩; refine ⟨_, rfl, ?_⟩) | ((with_reducible refine zc (f := 105) rfl ?_); refine zg (some 10) rfl rfl kg (by kernel_rfl) rfl #[.int .i64 a1] rfl (by (try simp only [kq, kk, kv]); rfl) ?_; (with_reducible refine (cmp_isNaN_int.calls a1 false _ A4.1).mono ?_); rintro e w' ⟨rfl, ⟨nd, rfl⟩⟩; refine ⟨_, rfl, ?_⟩))
   go_ret
   exact ⟨by rfl, by repeat (first | exact Drawn0.refl _ | apply Drawn0.step)⟩
 ·
  replace c5 := Bool.eq_false_iff.mpr c5
  subst c5
  have H1 : (if t284 = true then (some 1) else (if a0 < a1 then (some (-1)) else (if a0 > a1 then (some 1) else (some 0)))) = some r := by rw [if_neg (show ¬ (false = true) by decide)] at H; exact H
  clear H
  have H := H1
  clear H1
  by_cases c7 : t284 = true
  ·
   subst c7
   have H1 : (some 1) = some r := by rw [if_pos rfl] at H; exact H
   clear H
   have H := H1
   clear H1
   obtain rfl := ke H
   go_enter kd, kc
   go_wp2_with (first | ((with_reducible refine zc (f := 105) rfl ?_); refine zg (some 8) rfl rfl kg (by kernel_rfl) rfl #[.int .i64 a0] rfl (by (try simp only [kq, kk, kv]); rfl) ?_; (with_reducible refine (cmp_isNaN_int.calls a0 false _ A3.1).mono ?_); rintro e w' ⟨rfl, ⟨nd, rfl⟩⟩; refine ⟨_, rfl, ?_⟩) | ((with_reducible refine zc (f := 105) rfl ?_); refine zg (some 10) rfl rfl kg (by kernel_rfl) rfl #[.int .i64 a1] rfl (by (try simp only [kq, kk, kv]); rfl) ?_; (with_reducible refine (cmp_isNaN_int.calls a1 true _ A4.1).mono ?_); rintro e w' ⟨rfl, ⟨nd, rfl⟩⟩; refine ⟨_, rfl, ?_⟩))
   go_ret
   exact ⟨by rfl, by repeat (first | exact Drawn0.refl _ | apply Drawn0.step)⟩
  ·
   replace c7 := Bool.eq_false_iff.mpr c7
   subst c7
   have H1 : (if a0 < a1 then (some (-1)) else (if a0 > a1 then (some 1) else (some 0))) = some r := by rw [if_neg (show ¬ (false = true) by decide)] at H; exact H
   clear H
   have H := H1
   clear H1
   by_cases c8 : a0 < a1
   ·
    rw [if_pos c8] at H
    have c8b0 : decide (a0 < a1) = true := decide_eq_true c8
    clear c8
    obtain rfl := ke H
    go_enter kd, kc
    go_wp2_with (first | ((with_reducible refine zc (f := 105) rfl ?_); refine zg (some 8) rfl rfl kg (by kernel_rfl) rfl #[.int .i64 a0] rfl (by (try simp only [kq, kk, kv]); rfl) ?_; (with_reducible refine (cmp_isNaN_int.calls a0 false _ A3.1).mono ?_); rintro e w' ⟨rfl, ⟨nd, rfl⟩⟩; refine ⟨_, rfl, ?_⟩) | ((with_reducible refine zc (f := 105) rfl ?_); refine zg (some 10) rfl rfl kg (by kernel_rfl) rfl #[.int .i64 a1] rfl (by (try simp only [kq, kk, kv]); rfl) ?_; (with_reducible refine (cmp_isNaN_int.calls a1 false _ A4.1).mono ?_); rintro e w' ⟨rfl, ⟨nd, rfl⟩⟩; refine ⟨_, rfl, ?_⟩))
    go_ret
    exact ⟨by rfl, by repeat (first | exact Drawn0.refl _ | apply Drawn0.step)⟩
   ·
    rw [if_neg c8] at H
    have c8b0 : decide (a0 < a1) = false := decide_eq_false c8
    clear c8
    by_cases c9 : a0 > a1
    ·
     rw [if_pos c9] at H
     have c9b0 : decide (a1 < a0) = true := decide_eq_true c9
     clear c9
     obtain rfl := ke H
     go_enter kd, kc
     go_wp2_with (first | ((with_reducible refine zc (f := 105) rfl ?_); refine zg (some 8) rfl rfl kg (by kernel_rfl) rfl #[.int .i64 a0] rfl (by (try simp only [kq, kk, kv]); rfl) ?_; (with_reducible refine (cmp_isNaN_int.calls a0 false _ A3.1).mono ?_); rintro e w' ⟨rfl, ⟨nd, rfl⟩⟩; refine ⟨_, rfl, ?_⟩) | ((with_reducible refine zc (f := 105) rfl ?_); refine zg (some 10) rfl rfl kg (by kernel_rfl) rfl #[.int .i64 a1] rfl (by (try simp only [kq, kk, kv]); rfl) ?_; (with_reducible refine (cmp_isNaN_int.calls a1 false _ A4.1).mono ?_); rintro e w' ⟨rfl, ⟨nd, rfl⟩⟩; refine ⟨_, rfl, ?_⟩))
     go_ret
     exact ⟨by rfl, by repeat (first | exact Drawn0.refl _ | apply Drawn0.step)⟩
    ·
     rw [if_neg c9] at H
     have c9b0 : decide (a1 < a0) = false := decide_eq_false c9
     clear c9
     obtain rfl := ke H
     go_enter kd, kc
     go_wp2_with (first | ((with_reducible refine zc (f := 105) rfl ?_); refine zg (some 8) rfl rfl kg (by kernel_rfl) rfl #[.int .i64 a0] rfl (by (try simp only [kq, kk, kv]); rfl) ?_; (with_reducible refine (cmp_isNaN_int.calls a0 false _ A3.1).mono ?_); rintro e w' ⟨rfl, ⟨nd, rfl⟩⟩; refine ⟨_, rfl, ?_⟩) | ((with_reducible refine zc (f := 105) rfl ?_); refine zg (some 10) rfl rfl kg (by kernel_rfl) rfl #[.int .i64 a1] rfl (by (try simp only [kq, kk, kv]); rfl) ?_; (with_reducible refine (cmp_isNaN_int.calls a1 false _ A4.1).mono ?_); rintro e w' ⟨rfl, ⟨nd, rfl⟩⟩; refine ⟨_, rfl, ?_⟩))
     go_ret
     exact ⟨by rfl, by repeat (first | exact Drawn0.refl _ | apply Drawn0.step)⟩
/-! ### impl_compare: function 89 -/
def impl_compare.f (k : Nat) (a0_0 : Int) (a0_1 : Int) (a1_0 : Int) (a1_1 : Int) : Option (Int) := (cmp_Compare_int.f a0_0 a1_0).bind fun t287 => ((cmp_Compare_int.f a0_1 a1_1).bind fun t288 => ((cmp_Or_int.f k (([t287, t288] : List Int))).bind fun t292 => (some t292)))
def impl_compare.T1 : Bool × List (List Nat × List Nat) := (true, [([], []), ([0], [0]), ([], []), ([2], [2]), ([1, 3], [1, 3]), ([], []), ([5], [5]), ([], []), ([7], [7]), ([6, 8, 4], [6, 8]), ([4, 9], [4, 9]), ([10, 9], [10]), ([11, 11, 0, 1, 2, 3, 4, 5, 6, 7, 8, 9, 10, 11], [11])])
def impl_compare.B1 : List Nat := [0, 1, 0, 4, 15, 0, 32, 0, 128, 511, 1023, 2047, 4095]
theorem impl_compare.tab1 : rtab .any (opsOf Try.f89 1) = impl_compare.T1 := by kernel_rfl
theorem impl_compare.bits1 : waitsOk impl_compare.T1.2 impl_compare.B1 = true := by kernel_rfl
theorem impl_compare.calls (k : Nat) (a0_0 : Int) (a0_1 : Int) (a1_0 : Int) (a1_1 : Int) (r : Int) (w : World) (h : impl_compare.f k a0_0 a0_1 a1_0 a1_1 = some r) :
  Calls Try.prog 89 #[.agg #[.int .i64 a0_0, .int .i64 a0_1], .agg #[.int .i64 a1_0, .int .i64 a1_1]] w fun e w' => e = .returned (.int .i64 r) ∧ Below w.heap.size w w' := by
 have hu37 := Try.underlying37
 have HB := kh (Below.refl w.heap.size w)
 have H : ((cmp_Compare_int.f a0_0 a1_0).bind fun t287 => ((cmp_Compare_int.f a0_1 a1_1).bind fun t288 => ((cmp_Or_int.f k (([t287, t288] : List Int))).bind fun t292 => (some t292)))) = some r := h
 clear h
 replace H := kf.mp H
 obtain ⟨t287, A30, H⟩ := H
 replace H : ((cmp_Compare_int.f a0_1 a1_1).bind fun t288 => ((cmp_Or_int.f k (([t287, t288] : List Int))).bind fun t292 => (some t292))) = some r := H
 have A3 := kh A30
 clear A30
 replace H := kf.mp H
 obtain ⟨t288, A40, H⟩ := H
 replace H : ((cmp_Or_int.f k (([t287, t288] : List Int))).bind fun t292 => (some t292)) = some r := H
 have A4 := kh A40
 clear A40
 obtain ⟨y289, hy289⟩ : ∃ y_ : List Int, y_ = (([t287, t288] : List Int)) := ⟨_, rfl⟩
 replace H : ((cmp_Or_int.f k y289).bind fun t292 => (some t292)) = some r := by (rw [hy289]; with_reducible exact H)
 have Ny289 := kh hy289
 clear hy289
 replace H := kf.mp H
 obtain ⟨t292, A50, H⟩ := H
 replace H : (some t292) = some r := H
 have A5 := kh A50
 clear A50
 obtain rfl := ke H
 go_enter Try.func89, Try.ntmps89
 try go_wp2_with (first | ((with_reducible refine gate_dst (N := 2) rfl ?_); refine box_event ?hg (N := 2) ?hd (cs := #[.int .i64 a0_0, .int .i64 a0_1]) (t := 37) ?hr ?_; (case hd => rfl); (case hg => rfl); (case hr => (go_simp; done)); intro gb285 hg w6 hbox hb; replace HB := kh (below_step HB.1 hb); have zk := kh hbox; clear hb hbox hg) | ((with_reducible refine gate_dst (N := 3) rfl ?_); refine box_event ?hg (N := 3) ?hd (cs := #[.int .i64 a1_0, .int .i64 a1_1]) (t := 37) ?hr ?_; (case hd => rfl); (case hg => rfl); (case hr => (go_simp; done)); intro gb286 hg w7 hbox hb; replace zk := kh (blk_below (g := gb285) (o := .cells #[.int .i64 a0_0, .int .i64 a0_1] 37 (0, 0)) zk.1 hb); replace HB := kh (below_step HB.1 hb); have zl := kh hbox; clear hb hbox hg))
 replace zk := kh (zh zk.1)
 replace zl := kh (zh zl.1)
 replace HB := kh (zd HB.1)
 refine start_ (n := 13) (S := fun w' => w'.cell? ⟨gb285, 0, none⟩ = some (.int .i64 a0_0) ∧ w'.cell? ⟨gb285, 1, none⟩ = some (.int .i64 a0_1) ∧ w'.cell? ⟨gb286, 0, none⟩ = some (.int .i64 a1_0) ∧ w'.cell? ⟨gb286, 1, none⟩ = some (.int .i64 a1_1)) (ds := []) #[kx,kx,kx,kx,kx,kx,kx,kx,kx,kx,kx,kx,kx] (by kernel_rfl) rfl rfl ⟨(za zk.1 0).trans rfl, (za zk.1 1).trans rfl, (za zl.1 0).trans rfl, (za zl.1 1).trans rfl⟩ (fun hHeld => ?_); refine with_tabW impl_compare.tab1 impl_compare.bits1 (fun HT_ HW_ => ?_)
 generalize w7.drew = w8 at zk zl HB hHeld ⊢
 refine pure_ (i := 0) (N := some 5) (v := ?_) (a' := ?_) #[ko,kx,kx,kx,kx,kx,kx,kx,kx,kx,kx,kx,kx] rfl rfl (any_of HT_.1 (by kernel_rfl)) (fun _ _ _ h => h) (Or.inl ⟨by rfl, ?_⟩) ?_ ?_
 rotate_left
 ·
  intro w'
  go_simp
  with_reducible rfl
 rotate_left
 ·
  simp only [kb, kz, ky, kj, zi, zj]
  rfl
 refine pure_ (i := 2) (N := some 7) (v := ?_) (a' := ?_) #[ko,kx,ko,kx,kx,kx,kx,kx,kx,kx,kx,kx,kx] rfl rfl (any_of HT_.1 (by kernel_rfl)) (fun _ _ _ h => h) (Or.inl ⟨by rfl, ?_⟩) ?_ ?_
 rotate_left
 ·
  intro w'
  go_simp
  with_reducible rfl
 rotate_left
 ·
  simp only [kb, kz, ky, kj, zi, zj]
  rfl
 refine pure_ (i := 5) (N := some 10) (v := ?_) (a' := ?_) #[ko,kx,ko,kx,kx,ko,kx,kx,kx,kx,kx,kx,kx] rfl rfl (any_of HT_.1 (by kernel_rfl)) (fun _ _ _ h => h) (Or.inl ⟨by rfl, ?_⟩) ?_ ?_
 rotate_left
 ·
  intro w'
  go_simp
  with_reducible rfl
 rotate_left
 ·
  simp only [kb, kz, ky, kj, zi, zj]
  rfl
 refine pure_ (i := 7) (N := some 12) (v := ?_) (a' := ?_) #[ko,kx,ko,kx,kx,ko,kx,ko,kx,kx,kx,kx,kx] rfl rfl (any_of HT_.1 (by kernel_rfl)) (fun _ _ _ h => h) (Or.inl ⟨by rfl, ?_⟩) ?_ ?_
 rotate_left
 ·
  intro w'
  go_simp
  with_reducible rfl
 rotate_left
 ·
  simp only [kb, kz, ky, kj, zi, zj]
  rfl
 refine take_ (i := 1) (N := some 6) (v := ?_) (a' := ?_) #[ko,ko,ko,kx,kx,ko,kx,ko,kx,kx,kx,kx,kx] rfl rfl (take_ofW HT_.1 HW_.1 (by kernel_rfl)) (fun _ _ _ h => h) (Or.inl ⟨by rfl, ?_⟩) hHeld ?_ ?_
 rotate_left
 ·
  rintro w' ⟨s0, s1, s2, s3⟩
  go_simp
  with_reducible rfl
 rotate_left
 ·
  simp only [kb, kz, ky, kj, zi, zj]
  rfl
 refine take_ (i := 3) (N := some 8) (v := ?_) (a' := ?_) #[ko,ko,ko,ko,kx,ko,kx,ko,kx,kx,kx,kx,kx] rfl rfl (take_ofW HT_.1 HW_.1 (by kernel_rfl)) (fun _ _ _ h => h) (Or.inl ⟨by rfl, ?_⟩) hHeld ?_ ?_
 rotate_left
 ·
  rintro w' ⟨s0, s1, s2, s3⟩
  go_simp
  with_reducible rfl
 rotate_left
 ·
  simp only [kb, kz, ky, kj, zi, zj]
  rfl
 refine take_ (i := 6) (N := some 11) (v := ?_) (a' := ?_) #[ko,ko,ko,ko,kx,ko,ko,ko,kx,kx,kx,kx,kx] rfl rfl (take_ofW HT_.1 HW_.1 (by kernel_rfl)) (fun _ _ _ h => h) (Or.inl ⟨by rfl, ?_⟩) hHeld ?_ ?_
 rotate_left
 ·
  rintro w' ⟨s0, s1, s2, s3⟩
  go_simp
  with_reducible rfl
 rotate_left
 ·
  simp only [kb, kz, ky, kj, zi, zj]
  rfl
 refine take_ (i := 8) (N := some 13) (v := ?_) (a' := ?_) #[ko,ko,ko,ko,kx,ko,ko,ko,ko,kx,kx,kx,kx] rfl rfl (take_ofW HT_.1 HW_.1 (by kernel_rfl)) (fun _ _ _ h => h) (Or.inl ⟨by rfl, ?_⟩) hHeld ?_ ?_
 rotate_left
 ·
  rintro w' ⟨s0, s1, s2, s3⟩
  go_simp
  with_reducible rfl
 rotate_left
 ·
  simp only [kb, kz, ky, kj, zi, zj]
  rfl
 refine one_ (i := 4) (N := some 9) #[ko,ko,ko,ko,ko,ko,ko,ko,ko,kx,kx,kx,kx] rfl rfl (one_of HT_.1 (by kernel_rfl)) (by decide) (fun K hK => ?_)
 refine goes_ kd (by kernel_rfl) rfl #[.int .i64 a0_0, .int .i64 a1_0] (by rfl) rfl rfl (by (try simp only [kq, kk, kv]); rfl) ?_
 with_reducible refine (cmp_Compare_int.calls a0_0 a1_0 t287 _ A3.1).mono ?_
 rintro e w' ⟨rfl, ⟨nd, rfl⟩⟩
 refine ⟨_, rfl, ?_⟩
 refine hK.out _ _ ⟨(za zk.1 0).trans rfl, (za zk.1 1).trans rfl, (za zl.1 0).trans rfl, (za zl.1 1).trans rfl⟩ (fun hHeld => ?_)
 clear hK K
 refine norm_ (a' := ?_) ?_ ?_
 rotate_left
 ·
  show kb _ (some 9) _ = _
  simp only [kb, kz, ky, kj, zi, zj]
  rfl
 refine one_ (i := 9) (N := some 14) #[ko,ko,ko,ko,ko,ko,ko,ko,ko,ko,kx,kx,kx] rfl rfl (one_of HT_.1 (by kernel_rfl)) (by decide) (fun K hK => ?_)
 refine goes_ kd (by kernel_rfl) rfl #[.int .i64 a0_1, .int .i64 a1_1] (by rfl) rfl rfl (by (try simp only [kq, kk, kv]); rfl) ?_
 with_reducible refine (cmp_Compare_int.calls a0_1 a1_1 t288 _ A4.1).mono ?_
 rintro e w' ⟨rfl, ⟨nd, rfl⟩⟩
 refine ⟨_, rfl, ?_⟩
 refine hK.out _ _ ⟨(za zk.1 0).trans rfl, (za zk.1 1).trans rfl, (za zl.1 0).trans rfl, (za zl.1 1).trans rfl⟩ (fun hHeld => ?_)
 clear hK K
 refine norm_ (a' := ?_) ?_ ?_
 rotate_left
 ·
  show kb _ (some 14) _ = _
  simp only [kb, kz, ky, kj, zi, zj]
  rfl
 refine one_ (i := 10) (N := some 15) #[ko,ko,ko,ko,ko,ko,ko,ko,ko,ko,ko,kx,kx] rfl rfl (one_of HT_.1 (by kernel_rfl)) (by decide) (fun K hK => ?_)
 refine Kd.R_lit_step (Kd.int .i64) _ 3 ?hg (N := 15) ?hd (xs := ([t287, t288] : List Int)) (inner := [.int .i64 t287, .int .i64 t288]) (ok := fun _ => True) (okp := fun _ => True) ?hr ?hp (fun _ hk => hk) trivial (Below.refl _ _) (Nat.le_refl _) (by simp) ?_; (case hd => rfl); (case hg => rfl); (case hr => (go_simp; done)); (case hp => exact (Reps.one (show Kd.M (Kd.int .i64) _ _ _ t287 [.int .i64 t287] from rfl) (Reps.one (show Kd.M (Kd.int .i64) _ _ _ t288 [.int .i64 t288] from rfl) (Reps.none _ _))))
 intro v290 w9 ho10 hb hg_ hnew_
 clear hg_ hnew_
 (rw [← Ny289.1] at ho10)
 have HO291 := kh (Kd.R_lower ho10 (below_size (by repeat ((with_reducible first | exact HB.1 | apply zb)))))
 replace zk := kh (blk_below (g := gb285) (o := .cells #[.int .i64 a0_0, .int .i64 a0_1] 37 (0, 0)) (by (with_reducible repeat (refine blk_drewN ?_ _)); exact zk.1) hb)
 replace zl := kh (blk_below (g := gb286) (o := .cells #[.int .i64 a1_0, .int .i64 a1_1] 37 (0, 0)) (by (with_reducible repeat (refine blk_drewN ?_ _)); exact zl.1) hb)
 replace HB := kh (below_step (by repeat ((with_reducible first | exact HB.1 | apply zb))) hb)
 clear hb ho10
 obtain ⟨Ao11, co11, eo11⟩ := Kd.R_slice HO291.1
 (subst eo11)
 refine hK.out _ _ ⟨(za zk.1 0).trans rfl, (za zk.1 1).trans rfl, (za zl.1 0).trans rfl, (za zl.1 1).trans rfl⟩ (fun hHeld => ?_)
 clear hK K
 refine norm_ (a' := ?_) ?_ ?_
 rotate_left
 ·
  show kb _ (some 15) _ = _
  simp only [kb, kz, ky, kj, zi, zj]
  rfl
 refine one_ (i := 11) (N := some 16) #[ko,ko,ko,ko,ko,ko,ko,ko,ko,ko,ko,ko,kx] rfl rfl (one_of HT_.1 (by kernel_rfl)) (by decide) (fun K hK => ?_)
 refine goes_ Try.func101 (by kernel_rfl) rfl #[.slice Ao11 y289.length co11] (by rfl) rfl rfl (by (try simp only [kq, kk, kv]); rfl) ?_
 with_reducible refine (cmp_Or_int.calls k _ _ y289 t292 _ ?side1 ?side2 A5.1).mono ?_
 (case side1 => repeat (exact (Kd.R_reads' HO291.1).2.2))
 (case side2 => exact (Kd.R_reads' HO291.1).2.1)
 rintro e w' ⟨rfl, ⟨nd, rfl⟩⟩
 refine ⟨_, rfl, ?_⟩
 refine hK.out _ _ ⟨(za zk.1 0).trans rfl, (za zk.1 1).trans rfl, (za zl.1 0).trans rfl, (za zl.1 1).trans rfl⟩ (fun hHeld => ?_)
 clear hK K
 refine norm_ (a' := ?_) ?_ ?_
 rotate_left
 ·
  show kb _ (some 16) _ = _
  simp only [kb, kz, ky, kj, zi, zj]
  rfl
 refine pure_ (i := 12) (N := some 4) (v := ?_) (a' := ?_) #[ko,ko,ko,ko,ko,ko,ko,ko,ko,ko,ko,ko,ko] rfl rfl (any_of HT_.1 (by kernel_rfl)) (fun _ _ _ h => h) (Or.inl ⟨by rfl, ?_⟩) ?_ ?_
 rotate_left
 ·
  intro w'
  go_simp
  with_reducible rfl
 rotate_left
 ·
  simp only [kb, kz, ky, kj, zi, zj]
  rfl
 refine done_ (done_of HT_.1 (by kernel_rfl)) ?_
 try go_wp2
 go_ret
 exact ⟨by rfl, by repeat ((with_reducible first | exact HB.1 | apply zb))⟩
end Go.Proofs.Ytakoaogbkajkcaa.PFnExactRemoveFrom
