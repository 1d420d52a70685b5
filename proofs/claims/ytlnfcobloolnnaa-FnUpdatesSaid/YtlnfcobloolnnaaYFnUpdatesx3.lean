/- Go functions told by Lean functions, printed by a program. No condition but what each statement says. -/
import Derived.Test.YtlnfcobloolnnaaYFnUpdatesx2
namespace Go.Proofs.Ytlnfcobloolnnaa.PFnUpdates
open Go.RowKit Go.Proofs.YtlnfcobloolnnaaW.PrintWords Go.Proofs.YtlnfcobloolnnaaW.PrintLast Go.Proofs.YtlnfcobloolnnaaW.PrintMore
open List renaming setIfInBounds_toArray → kz, map_toArray → kq, set_cons_zero → ky, set_cons_succ → kj, map_cons → kk, map_nil → kv
open Aside0 renaming mk → kh
open Try renaming func125 → kg, func123 → kd, ntmps123 → kc
open Option renaming bind_eq_some_iff → kf
open Option.some renaming inj → ke
open Act renaming put → kb
open Bool renaming true → ko, false → kx
set_option maxHeartbeats 8000000
set_option maxRecDepth 100000
open Go.Proofs.YtlnfcobloolnnaaW.PrintLast renaming goesL_ → zg, i64_w → zi, i32_w → zj
open Go.Proofs.YtlnfcobloolnnaaW.PrintWords renaming blk_cell → za, pw_below_drewN → zb, gate_callee → zc, below_drew1 → zd, blk_drew → zh
attribute [local go_sem] max2_int min2_int max_two min_two max_three min_three max_four min_four
set_option linter.unusedVariables false
set_option linter.unusedSimpArgs false
/-! ### cmp_Compare_int: function 123 -/
def cmp_Compare_int.f (a0 : Int) (a1 : Int) : Option (Int) := (cmp_isNaN_int.f a0).bind fun t124 => ((cmp_isNaN_int.f a1).bind fun t125 => (if t124 = true then (if t125 = true then (some 0) else (some (-1))) else (if t125 = true then (some 1) else (if a0 < a1 then (some (-1)) else (if a0 > a1 then (some 1) else (some 0))))))
theorem cmp_Compare_int.calls (a0 : Int) (a1 : Int) (r : Int) (w : World) (h : cmp_Compare_int.f a0 a1 = some r) :
  Calls Try.prog 123 #[.int .i64 a0, .int .i64 a1] w fun e w' => e = .returned (.int .i64 r) ∧ Drawn0 w w' := by
 have H : ((cmp_isNaN_int.f a0).bind fun t124 => ((cmp_isNaN_int.f a1).bind fun t125 => (if t124 = true then (if t125 = true then (some 0) else (some (-1))) else (if t125 = true then (some 1) else (if a0 < a1 then (some (-1)) else (if a0 > a1 then (some 1) else (some 0))))))) = some r := h
 clear h
 replace H := kf.mp H
 obtain ⟨t124, A30, H⟩ := H
 have A3 := kh A30
 clear A30
 replace H := kf.mp H
 obtain ⟨t125, A40, H⟩ := H
 have A4 := kh A40
 clear A40
 by_cases c5 : t124 = true
 ·
  subst c5
  rw [if_pos rfl] at H
  by_cases c6 : t125 = true
  ·
   subst c6
   rw [if_pos rfl] at H
   obtain rfl := ke H
   go_enter kd, kc
   go_wp2_with (first | ((with_reducible refine zc (f := 125) rfl ?_); refine zg (some 8) rfl rfl kg (by kernel_rfl) rfl #[.int .i64 a0] rfl (by (try simp only [kq, kk, kv]); rfl) ?_; (with_reducible refine (cmp_isNaN_int.calls a0 true _ A3.1).mono ?_); rintro e w' ⟨rfl, ⟨nd, rfl⟩⟩; refine ⟨_, rfl, ?_⟩) | ((with_reducible refine zc (f := 125) rfl ?_); refine zg (some 10) rfl rfl kg (by kernel_rfl) rfl #[.int .i64 a1] rfl (by (try simp only [kq, kk, kv]); rfl) ?_; (with_reducible refine (cmp_isNaN_int.calls a1 true _ A4.1).mono ?_); rintro e w' ⟨rfl, ⟨nd, rfl⟩⟩; refine ⟨_, rfl, ?_⟩))
   go_ret
   exact ⟨by rfl, by repeat (first | exact Drawn0.refl _ | apply Drawn0.step)⟩
  ·
   replace c6 := Bool.eq_false_iff.mpr c6
   subst c6
   rw [if_neg (show ¬ (false = true) by decide)] at H
   obtain rfl := ke H
   go_enter kd, kc
   go_wp2_with (first | ((with_reducible refine zc (f := 125) rfl ?_); refine zg (some 8) rfl rfl kg (by kernel_rfl) rfl #[.int .i64 a0] rfl (by (try simp only [kq, kk, kv]); rfl) ?_; (with_reducible refine (cmp_isNaN_int.calls a0 true _ A3.1).mono ?_); rintro e w' ⟨rfl, ⟨nd, rfl⟩⟩; refine ⟨_, rfl, ?_⟩) | ((with_reducible refine zc (f := 125) rfl ?_); refine zg (some 10) rfl rfl kg (by kernel_rfl) rfl #[.int .i64 a1] rfl (by (try simp only [kq, kk, kv]); rfl) ?_; (with_reducible refine (cmp_isNaN_int.calls a1 false _ A4.1).mono ?_); rintro e w' ⟨rfl, ⟨nd, rfl⟩⟩; refine ⟨_, rfl, ?_⟩))
   go_ret
   exact ⟨by rfl, by repeat (first | exact Drawn0.refl _ | apply Drawn0.step)⟩
 ·
  replace c5 := Bool.eq_false_iff.mpr c5
  subst c5
  rw [if_neg (show ¬ (false = true) by decide)] at H
  by_cases c7 : t125 = true
  ·
   subst c7
   rw [if_pos rfl] at H
   obtain rfl := ke H
   go_enter kd, kc
   go_wp2_with (first | ((with_reducible refine zc (f := 125) rfl ?_); refine zg (some 8) rfl rfl kg (by kernel_rfl) rfl #[.int .i64 a0] rfl (by (try simp only [kq, kk, kv]); rfl) ?_; (with_reducible refine (cmp_isNaN_int.calls a0 false _ A3.1).mono ?_); rintro e w' ⟨rfl, ⟨nd, rfl⟩⟩; refine ⟨_, rfl, ?_⟩) | ((with_reducible refine zc (f := 125) rfl ?_); refine zg (some 10) rfl rfl kg (by kernel_rfl) rfl #[.int .i64 a1] rfl (by (try simp only [kq, kk, kv]); rfl) ?_; (with_reducible refine (cmp_isNaN_int.calls a1 true _ A4.1).mono ?_); rintro e w' ⟨rfl, ⟨nd, rfl⟩⟩; refine ⟨_, rfl, ?_⟩))
   go_ret
   exact ⟨by rfl, by repeat (first | exact Drawn0.refl _ | apply Drawn0.step)⟩
  ·
   replace c7 := Bool.eq_false_iff.mpr c7
   subst c7
   rw [if_neg (show ¬ (false = true) by decide)] at H
   by_cases c8 : a0 < a1
   ·
    rw [if_pos c8] at H
    have c8b0 := decide_eq_true c8
    clear c8
    obtain rfl := ke H
    go_enter kd, kc
    go_wp2_with (first | ((with_reducible refine zc (f := 125) rfl ?_); refine zg (some 8) rfl rfl kg (by kernel_rfl) rfl #[.int .i64 a0] rfl (by (try simp only [kq, kk, kv]); rfl) ?_; (with_reducible refine (cmp_isNaN_int.calls a0 false _ A3.1).mono ?_); rintro e w' ⟨rfl, ⟨nd, rfl⟩⟩; refine ⟨_, rfl, ?_⟩) | ((with_reducible refine zc (f := 125) rfl ?_); refine zg (some 10) rfl rfl kg (by kernel_rfl) rfl #[.int .i64 a1] rfl (by (try simp only [kq, kk, kv]); rfl) ?_; (with_reducible refine (cmp_isNaN_int.calls a1 false _ A4.1).mono ?_); rintro e w' ⟨rfl, ⟨nd, rfl⟩⟩; refine ⟨_, rfl, ?_⟩))
    go_ret
    exact ⟨by rfl, by repeat (first | exact Drawn0.refl _ | apply Drawn0.step)⟩
   ·
    rw [if_neg c8] at H
    have c8b0 := decide_eq_false c8
    clear c8
    by_cases c9 : a0 > a1
    ·
     rw [if_pos c9] at H
     have c9b0 := decide_eq_true c9
     clear c9
     obtain rfl := ke H
     go_enter kd, kc
     go_wp2_with (first | ((with_reducible refine zc (f := 125) rfl ?_); refine zg (some 8) rfl rfl kg (by kernel_rfl) rfl #[.int .i64 a0] rfl (by (try simp only [kq, kk, kv]); rfl) ?_; (with_reducible refine (cmp_isNaN_int.calls a0 false _ A3.1).mono ?_); rintro e w' ⟨rfl, ⟨nd, rfl⟩⟩; refine ⟨_, rfl, ?_⟩) | ((with_reducible refine zc (f := 125) rfl ?_); refine zg (some 10) rfl rfl kg (by kernel_rfl) rfl #[.int .i64 a1] rfl (by (try simp only [kq, kk, kv]); rfl) ?_; (with_reducible refine (cmp_isNaN_int.calls a1 false _ A4.1).mono ?_); rintro e w' ⟨rfl, ⟨nd, rfl⟩⟩; refine ⟨_, rfl, ?_⟩))
     go_ret
     exact ⟨by rfl, by repeat (first | exact Drawn0.refl _ | apply Drawn0.step)⟩
    ·
     rw [if_neg c9] at H
     have c9b0 := decide_eq_false c9
     clear c9
     obtain rfl := ke H
     go_enter kd, kc
     go_wp2_with (first | ((with_reducible refine zc (f := 125) rfl ?_); refine zg (some 8) rfl rfl kg (by kernel_rfl) rfl #[.int .i64 a0] rfl (by (try simp only [kq, kk, kv]); rfl) ?_; (with_reducible refine (cmp_isNaN_int.calls a0 false _ A3.1).mono ?_); rintro e w' ⟨rfl, ⟨nd, rfl⟩⟩; refine ⟨_, rfl, ?_⟩) | ((with_reducible refine zc (f := 125) rfl ?_); refine zg (some 10) rfl rfl kg (by kernel_rfl) rfl #[.int .i64 a1] rfl (by (try simp only [kq, kk, kv]); rfl) ?_; (with_reducible refine (cmp_isNaN_int.calls a1 false _ A4.1).mono ?_); rintro e w' ⟨rfl, ⟨nd, rfl⟩⟩; refine ⟨_, rfl, ?_⟩))
     go_ret
     exact ⟨by rfl, by repeat (first | exact Drawn0.refl _ | apply Drawn0.step)⟩
/-! ### impl_compare: function 108 -/
def impl_compare.f (k : Nat) (a0_0 : Int) (a0_1 : Int) (a1_0 : Int) (a1_1 : Int) : Option (Int) := (cmp_Compare_int.f a0_0 a1_0).bind fun t128 => ((cmp_Compare_int.f a0_1 a1_1).bind fun t129 => ((cmp_Or_int.f k (([t128, t129] : List Int))).bind fun t133 => (some t133)))
def impl_compare.T1 : Bool × List (List Nat × List Nat) := (true, [([], []), ([0], [0]), ([], []), ([2], [2]), ([1, 3], [1, 3]), ([], []), ([5], [5]), ([], []), ([7], [7]), ([6, 8, 4], [6, 8]), ([4, 9], [4, 9]), ([10, 9], [10]), ([11, 11, 0, 1, 2, 3, 4, 5, 6, 7, 8, 9, 10, 11], [11])])
def impl_compare.B1 : List Nat := [0, 1, 0, 4, 15, 0, 32, 0, 128, 511, 1023, 2047, 4095]
theorem impl_compare.tab1 : rtab .any (opsOf Try.f108 1) = impl_compare.T1 := by kernel_rfl
theorem impl_compare.bits1 : waitsOk impl_compare.T1.2 impl_compare.B1 = true := by kernel_rfl
theorem impl_compare.calls (k : Nat) (a0_0 : Int) (a0_1 : Int) (a1_0 : Int) (a1_1 : Int) (r : Int) (w : World) (h : impl_compare.f k a0_0 a0_1 a1_0 a1_1 = some r) :
  Calls Try.prog 108 #[.agg #[.int .i64 a0_0, .int .i64 a0_1], .agg #[.int .i64 a1_0, .int .i64 a1_1]] w fun e w' => e = .returned (.int .i64 r) ∧ Below w.heap.size w w' := by
 have hu35 := Try.underlying35
 have HB := kh (Below.refl w.heap.size w)
 have H : ((cmp_Compare_int.f a0_0 a1_0).bind fun t128 => ((cmp_Compare_int.f a0_1 a1_1).bind fun t129 => ((cmp_Or_int.f k (([t128, t129] : List Int))).bind fun t133 => (some t133)))) = some r := h
 clear h
 replace H := kf.mp H
 obtain ⟨t128, A30, H⟩ := H
 have A3 := kh A30
 clear A30
 replace H := kf.mp H
 obtain ⟨t129, A40, H⟩ := H
 have A4 := kh A40
 clear A40
 obtain ⟨y130, hy130⟩ : ∃ y_ : List Int, y_ = (([t128, t129] : List Int)) := ⟨_, rfl⟩
 replace H : ((cmp_Or_int.f k y130).bind fun t133 => (some t133)) = some r := by (rw [hy130]; with_reducible exact H)
 have Ny130 := kh hy130
 clear hy130
 replace H := kf.mp H
 obtain ⟨t133, A50, H⟩ := H
 have A5 := kh A50
 clear A50
 obtain rfl := ke H
 go_enter Try.func108, Try.ntmps108
 try go_wp2_with (first | ((with_reducible refine gate_dst (N := 2) rfl ?_); refine box_event ?hg (N := 2) ?hd (cs := #[.int .i64 a0_0, .int .i64 a0_1]) (t := 35) ?hr ?_; (case hd => rfl); (case hg => rfl); (case hr => (go_simp; done)); intro gb126 hg w6 hbox hb; replace HB := kh (below_step HB.1 hb); have zk := kh hbox; clear hb hbox hg) | ((with_reducible refine gate_dst (N := 3) rfl ?_); refine box_event ?hg (N := 3) ?hd (cs := #[.int .i64 a1_0, .int .i64 a1_1]) (t := 35) ?hr ?_; (case hd => rfl); (case hg => rfl); (case hr => (go_simp; done)); intro gb127 hg w7 hbox hb; replace zk := kh (blk_below (g := gb126) (o := .cells #[.int .i64 a0_0, .int .i64 a0_1] 35 (0, 0)) zk.1 hb); replace HB := kh (below_step HB.1 hb); have zl := kh hbox; clear hb hbox hg))
 replace zk := kh (zh zk.1)
 replace zl := kh (zh zl.1)
 replace HB := kh (zd HB.1)
 refine start_ (n := 13) (S := fun w' => w'.cell? ⟨gb126, 0, none⟩ = some (.int .i64 a0_0) ∧ w'.cell? ⟨gb126, 1, none⟩ = some (.int .i64 a0_1) ∧ w'.cell? ⟨gb127, 0, none⟩ = some (.int .i64 a1_0) ∧ w'.cell? ⟨gb127, 1, none⟩ = some (.int .i64 a1_1)) (ds := []) #[kx,kx,kx,kx,kx,kx,kx,kx,kx,kx,kx,kx,kx] (by kernel_rfl) rfl rfl ⟨(za zk.1 0).trans rfl, (za zk.1 1).trans rfl, (za zl.1 0).trans rfl, (za zl.1 1).trans rfl⟩ (fun hHeld => ?_); refine with_tabW impl_compare.tab1 impl_compare.bits1 (fun HT_ HW_ => ?_)
 generalize w7.drew = w8 at zk zl HB hHeld ⊢
 refine pure_ (i := 0) (N := some 5) (v := ?_) (a' := ?_) #[ko,kx,kx,kx,kx,kx,kx,kx,kx,kx,kx,kx,kx] rfl rfl (any_of HT_.1 (by kernel_rfl)) (fun _ _ _ h => h) (Or.inl ⟨by rfl, ?_⟩) ?_ ?_
 rotate_left
 ·
  intro w'
  go_simp
  with_reducible rfl
 rotate_left
 ·
  simp only [kb, kz, ky, kj, zi, zj]
  rfl
 refine pure_ (i := 2) (N := some 7) (v := ?_) (a' := ?_) #[ko,kx,ko,kx,kx,kx,kx,kx,kx,kx,kx,kx,kx] rfl rfl (any_of HT_.1 (by kernel_rfl)) (fun _ _ _ h => h) (Or.inl ⟨by rfl, ?_⟩) ?_ ?_
 rotate_left
 ·
  intro w'
  go_simp
  with_reducible rfl
 rotate_left
 ·
  simp only [kb, kz, ky, kj, zi, zj]
  rfl
 refine pure_ (i := 5) (N := some 10) (v := ?_) (a' := ?_) #[ko,kx,ko,kx,kx,ko,kx,kx,kx,kx,kx,kx,kx] rfl rfl (any_of HT_.1 (by kernel_rfl)) (fun _ _ _ h => h) (Or.inl ⟨by rfl, ?_⟩) ?_ ?_
 rotate_left
 ·
  intro w'
  go_simp
  with_reducible rfl
 rotate_left
 ·
  simp only [kb, kz, ky, kj, zi, zj]
  rfl
 refine pure_ (i := 7) (N := some 12) (v := ?_) (a' := ?_) #[ko,kx,ko,kx,kx,ko,kx,ko,kx,kx,kx,kx,kx] rfl rfl (any_of HT_.1 (by kernel_rfl)) (fun _ _ _ h => h) (Or.inl ⟨by rfl, ?_⟩) ?_ ?_
 rotate_left
 ·
  intro w'
  go_simp
  with_reducible rfl
 rotate_left
 ·
  simp only [kb, kz, ky, kj, zi, zj]
  rfl
 refine take_ (i := 1) (N := some 6) (v := ?_) (a' := ?_) #[ko,ko,ko,kx,kx,ko,kx,ko,kx,kx,kx,kx,kx] rfl rfl (take_ofW HT_.1 HW_.1 (by kernel_rfl)) (fun _ _ _ h => h) (Or.inl ⟨by rfl, ?_⟩) hHeld ?_ ?_
 rotate_left
 ·
  rintro w' ⟨s0, s1, s2, s3⟩
  go_simp
  with_reducible rfl
 rotate_left
 ·
  simp only [kb, kz, ky, kj, zi, zj]
  rfl
 refine take_ (i := 3) (N := some 8) (v := ?_) (a' := ?_) #[ko,ko,ko,ko,kx,ko,kx,ko,kx,kx,kx,kx,kx] rfl rfl (take_ofW HT_.1 HW_.1 (by kernel_rfl)) (fun _ _ _ h => h) (Or.inl ⟨by rfl, ?_⟩) hHeld ?_ ?_
 rotate_left
 ·
  rintro w' ⟨s0, s1, s2, s3⟩
  go_simp
  with_reducible rfl
 rotate_left
 ·
  simp only [kb, kz, ky, kj, zi, zj]
  rfl
 refine take_ (i := 6) (N := some 11) (v := ?_) (a' := ?_) #[ko,ko,ko,ko,kx,ko,ko,ko,kx,kx,kx,kx,kx] rfl rfl (take_ofW HT_.1 HW_.1 (by kernel_rfl)) (fun _ _ _ h => h) (Or.inl ⟨by rfl, ?_⟩) hHeld ?_ ?_
 rotate_left
 ·
  rintro w' ⟨s0, s1, s2, s3⟩
  go_simp
  with_reducible rfl
 rotate_left
 ·
  simp only [kb, kz, ky, kj, zi, zj]
  rfl
 refine take_ (i := 8) (N := some 13) (v := ?_) (a' := ?_) #[ko,ko,ko,ko,kx,ko,ko,ko,ko,kx,kx,kx,kx] rfl rfl (take_ofW HT_.1 HW_.1 (by kernel_rfl)) (fun _ _ _ h => h) (Or.inl ⟨by rfl, ?_⟩) hHeld ?_ ?_
 rotate_left
 ·
  rintro w' ⟨s0, s1, s2, s3⟩
  go_simp
  with_reducible rfl
 rotate_left
 ·
  simp only [kb, kz, ky, kj, zi, zj]
  rfl
 refine one_ (i := 4) (N := some 9) #[ko,ko,ko,ko,ko,ko,ko,ko,ko,kx,kx,kx,kx] rfl rfl (one_of HT_.1 (by kernel_rfl)) (by decide) (fun K hK => ?_)
 refine goes_ kd (by kernel_rfl) rfl #[.int .i64 a0_0, .int .i64 a1_0] (by rfl) rfl rfl (by (try simp only [kq, kk, kv]); rfl) ?_
 with_reducible refine (cmp_Compare_int.calls a0_0 a1_0 t128 _ A3.1).mono ?_
 rintro e w' ⟨rfl, ⟨nd, rfl⟩⟩
 refine ⟨_, rfl, ?_⟩
 refine hK.out _ _ ⟨(za zk.1 0).trans rfl, (za zk.1 1).trans rfl, (za zl.1 0).trans rfl, (za zl.1 1).trans rfl⟩ (fun hHeld => ?_)
 clear hK K
 refine norm_ (a' := ?_) ?_ ?_
 rotate_left
 ·
  show kb _ (some 9) _ = _
  simp only [kb, kz, ky, kj, zi, zj]
  rfl
 refine one_ (i := 9) (N := some 14) #[ko,ko,ko,ko,ko,ko,ko,ko,ko,ko,kx,kx,kx] rfl rfl (one_of HT_.1 (by kernel_rfl)) (by decide) (fun K hK => ?_)
 refine goes_ kd (by kernel_rfl) rfl #[.int .i64 a0_1, .int .i64 a1_1] (by rfl) rfl rfl (by (try simp only [kq, kk, kv]); rfl) ?_
 with_reducible refine (cmp_Compare_int.calls a0_1 a1_1 t129 _ A4.1).mono ?_
 rintro e w' ⟨rfl, ⟨nd, rfl⟩⟩
 refine ⟨_, rfl, ?_⟩
 refine hK.out _ _ ⟨(za zk.1 0).trans rfl, (za zk.1 1).trans rfl, (za zl.1 0).trans rfl, (za zl.1 1).trans rfl⟩ (fun hHeld => ?_)
 clear hK K
 refine norm_ (a' := ?_) ?_ ?_
 rotate_left
 ·
  show kb _ (some 14) _ = _
  simp only [kb, kz, ky, kj, zi, zj]
  rfl
 refine one_ (i := 10) (N := some 15) #[ko,ko,ko,ko,ko,ko,ko,ko,ko,ko,ko,kx,kx] rfl rfl (one_of HT_.1 (by kernel_rfl)) (by decide) (fun K hK => ?_)
 refine Kd.R_lit_step (Kd.int .i64) _ 3 ?hg (N := 15) ?hd (xs := ([t128, t129] : List Int)) (inner := [.int .i64 t128, .int .i64 t129]) (ok := fun _ => True) (okp := fun _ => True) ?hr ?hp (fun _ hk => hk) trivial (Below.refl _ _) (Nat.le_refl _) (by simp) ?_; (case hd => rfl); (case hg => rfl); (case hr => (go_simp; done)); (case hp => exact (Reps.one (show Kd.M (Kd.int .i64) _ _ _ t128 [.int .i64 t128] from rfl) (Reps.one (show Kd.M (Kd.int .i64) _ _ _ t129 [.int .i64 t129] from rfl) (Reps.none _ _))))
 intro v131 w9 ho10 hb hg_ hnew_
 clear hg_ hnew_
 (rw [← Ny130.1] at ho10)
 have HO132 := kh (Kd.R_lower ho10 (below_size (by repeat ((with_reducible first | exact HB.1 | apply zb)))))
 replace zk := kh (blk_below (g := gb126) (o := .cells #[.int .i64 a0_0, .int .i64 a0_1] 35 (0, 0)) (by (with_reducible repeat (refine blk_drewN ?_ _)); exact zk.1) hb)
 replace zl := kh (blk_below (g := gb127) (o := .cells #[.int .i64 a1_0, .int .i64 a1_1] 35 (0, 0)) (by (with_reducible repeat (refine blk_drewN ?_ _)); exact zl.1) hb)
 replace HB := kh (below_step (by repeat ((with_reducible first | exact HB.1 | apply zb))) hb)
 clear hb ho10
 obtain ⟨Ao11, co11, eo11⟩ := Kd.R_slice HO132.1
 (subst eo11)
 refine hK.out _ _ ⟨(za zk.1 0).trans rfl, (za zk.1 1).trans rfl, (za zl.1 0).trans rfl, (za zl.1 1).trans rfl⟩ (fun hHeld => ?_)
 clear hK K
 refine norm_ (a' := ?_) ?_ ?_
 rotate_left
 ·
  show kb _ (some 15) _ = _
  simp only [kb, kz, ky, kj, zi, zj]
  rfl
 refine one_ (i := 11) (N := some 16) #[ko,ko,ko,ko,ko,ko,ko,ko,ko,ko,ko,ko,kx] rfl rfl (one_of HT_.1 (by kernel_rfl)) (by decide) (fun K hK => ?_)
 refine goes_ Try.func122 (by kernel_rfl) rfl #[.slice Ao11 y130.length co11] (by rfl) rfl rfl (by (try simp only [kq, kk, kv]); rfl) ?_
 with_reducible refine (cmp_Or_int.calls k _ _ y130 t133 _ ?side1 ?side2 A5.1).mono ?_
 (case side1 => repeat (exact (Kd.R_reads' HO132.1).2.2))
 (case side2 => exact (Kd.R_reads' HO132.1).2.1)
 rintro e w' ⟨rfl, ⟨nd, rfl⟩⟩
 refine ⟨_, rfl, ?_⟩
 refine hK.out _ _ ⟨(za zk.1 0).trans rfl, (za zk.1 1).trans rfl, (za zl.1 0).trans rfl, (za zl.1 1).trans rfl⟩ (fun hHeld => ?_)
 clear hK K
 refine norm_ (a' := ?_) ?_ ?_
 rotate_left
 ·
  show kb _ (some 16) _ = _
  simp only [kb, kz, ky, kj, zi, zj]
  rfl
 refine pure_ (i := 12) (N := some 4) (v := ?_) (a' := ?_) #[ko,ko,ko,ko,ko,ko,ko,ko,ko,ko,ko,ko,ko] rfl rfl (any_of HT_.1 (by kernel_rfl)) (fun _ _ _ h => h) (Or.inl ⟨by rfl, ?_⟩) ?_ ?_
 rotate_left
 ·
  intro w'
  go_simp
  with_reducible rfl
 rotate_left
 ·
  simp only [kb, kz, ky, kj, zi, zj]
  rfl
 refine done_ (done_of HT_.1 (by kernel_rfl)) ?_
 try go_wp2
 go_ret
 exact ⟨by rfl, by repeat ((with_reducible first | exact HB.1 | apply zb))⟩
end Go.Proofs.Ytlnfcobloolnnaa.PFnUpdates
