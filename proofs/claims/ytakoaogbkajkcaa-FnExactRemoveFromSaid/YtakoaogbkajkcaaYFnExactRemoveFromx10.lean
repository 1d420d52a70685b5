/- Go functions told by Lean functions, printed by a program. No condition but what each statement says. -/
import Derived.Test.YtakoaogbkajkcaaYFnExactRemoveFromx9
namespace Go.Proofs.Ytakoaogbkajkcaa.PFnExactRemoveFrom
open Go.RowKit Go.Proofs.YtakoaogbkajkcaaW.PrintWords Go.Proofs.YtakoaogbkajkcaaW.PrintLast Go.Proofs.YtakoaogbkajkcaaW.PrintMore
open Aside0 renaming mk → kz
open List renaming setIfInBounds_toArray → ky, set_cons_zero → kj, set_cons_succ → kk, map_toArray → kf, map_cons → kb, map_nil → kd
open Nat renaming ne_of_lt → kv, ne_of_gt → kh, le_trans → ks
open Option renaming bind_eq_some_iff → kg
open Option.some renaming inj → ke
open Act renaming put → kc
open World renaming drewN_drewN → ko
open Try renaming underlying37 → kx, prog → kt, func73 → kr
open Or renaming inl → km
open Bool renaming eq_false_iff → ku, true → kn, false → kl
open Int renaming tmod → kp
set_option maxHeartbeats 8000000
set_option maxRecDepth 100000
open Go.Proofs.YtakoaogbkajkcaaW.PrintLast renaming i64_w → zJ, i32_w → zM, goesL_ → zO, any_of → zQ, pure_ → zR
open Go.Proofs.YtakoaogbkajkcaaW.PrintWords renaming blk_drewN → zb, blk_drew → zd, pw_below_drewN → ze, below_set → zf, below_drew1 → zg, blk_frozen → zi, blk_cell → zj, below_size → zn, blk_far → zo, blk_below → zr, below_step → zs, Aside0 → zt, blk_lt → zv, box_event → zw, gate_dst → zy, blk_put → zz, gate_callee → zC, blk_kept → zE, cell_far → zP
open Go.Proofs.YtakoaogbkajkcaaW.PrintWords.Drawn0 renaming step → zH, refl → zI
open Go.Proofs.YtakoaogbkajkcaaW.PrintWords.Kd renaming R_far → zx, R_below → zB, R_mono → zD, R_ne → zF, R_types → zG
open Go.Proofs.YtakoaogbkajkcaaW.PrintWords.Kept renaming setCell → za, below → zA
attribute [local go_sem] max2_int min2_int max_two min_two max_three min_three max_four min_four
set_option linter.unusedVariables false
set_option linter.unusedSimpArgs false
/-! ### impl_sizeOf: function 96 -/
def impl_sizeOf.f (a0 : Int) : Option (Int) := if 0 ≤ (wrap64 (32 - a0)) then (some (shl .i64 1 (wrap64 (32 - a0)))) else (none)
theorem impl_sizeOf.calls (a0 : Int) (r : Int) (w : World) (h : impl_sizeOf.f a0 = some r) :
  Calls kt 96 #[.int .i64 a0] w fun e w' => e = .returned (.int .i64 r) ∧ Drawn0 w w' := by
 have H : (if 0 ≤ (wrap64 (32 - a0)) then (some (shl .i64 1 (wrap64 (32 - a0)))) else (none)) = some r := h
 clear h
 obtain ⟨ji2, hji2⟩ : ∃ j_ : Int, (wrap64 (32 - a0)) = j_ := ⟨_, rfl⟩
 replace H : (if 0 ≤ (ji2) then (some (shl .i64 1 (ji2))) else (none)) = some r := by (rw [hji2] at H; exact H)
 have hji2w : (IntKind.i64.wrap (32 - a0)) = ji2 := (zJ _).trans hji2
 by_cases c3 : 0 ≤ (ji2)
 ·
  rw [if_pos c3] at H
  have c3b0 := eq_true c3
  have c3b1 : decide (0 ≤ (ji2)) = true := decide_eq_true c3
  clear c3
  obtain ⟨ji4, hji4⟩ : ∃ j_ : Int, (shl .i64 1 (ji2)) = j_ := ⟨_, rfl⟩
  replace H : (some ji4) = some r := by (rw [hji4] at H; exact H)
  have hji4_ : (IntKind.i64.wrap (1 * 2 ^ min (ji2).toNat 64)) = ji4 := hji4
  have hji4z : (ji2) ≤ 64 → (IntKind.i64.wrap (1 * 2 ^ (ji2).toNat)) = ji4 := shl_small hji4
  have hji4u : (IntKind.i64.wrap (2 ^ min (ji2).toNat 64)) = ji4 := by have h_ := hji4_; rw [Int.one_mul] at h_; exact h_
  have hji4v : (ji2) ≤ 64 → (IntKind.i64.wrap (2 ^ (ji2).toNat)) = ji4 := fun hle_ => by have h_ := hji4z hle_; rw [Int.one_mul] at h_; exact h_
  have hji4y : (wrap64 (1 * 2 ^ min (ji2).toNat 64)) = ji4 := (zJ _).symm.trans hji4_
  have hji4x : (ji2) ≤ 64 → (wrap64 (1 * 2 ^ (ji2).toNat)) = ji4 := fun h_ => (zJ _).symm.trans (hji4z h_)
  obtain rfl := ke H
  go_enter Try.func96, Try.ntmps96
  go_wp2
  go_ret
  exact ⟨by rfl, by repeat (exact zI _)⟩
 ·
  rw [if_neg c3] at H
  exact absurd H (by simp)
/-! ### impl_Prefix_halves: function 95 -/
def impl_Prefix_halves.f (a0_0 : Int) (a0_1 : Int) : Option (Int × Int × Int × Int) := (impl_sizeOf.f (wrap64 (a0_1 + 1))).bind fun t251 => (some (a0_0, wrap64 (a0_1 + 1), wrap64 (a0_0 + t251), wrap64 (a0_1 + 1)))
def impl_Prefix_halves.T1 : Bool × List (List Nat × List Nat) := (true, [([], []), ([0], [0]), ([], []), ([2], [2]), ([3], [3]), ([1, 4], [1, 4]), ([], []), ([6], [6]), ([], []), ([8], [8]), ([9], [9]), ([10], [10]), ([7, 11], [7, 11]), ([], []), ([13], [13]), ([14], [14]), ([12, 15], [12, 15]), ([5, 11, 0, 1, 2, 3, 4, 5], [5]), ([16, 17, 0, 1, 2, 3, 4, 5, 6, 7, 8, 9, 10, 11, 12, 13, 14, 15, 16, 17], [16])])
def impl_Prefix_halves.B1 : List Nat := [0, 1, 0, 4, 12, 31, 0, 64, 0, 256, 768, 1792, 4032, 0, 8192, 24576, 65472, 3903, 262143]
theorem impl_Prefix_halves.tab1 : rtab .any (opsOf Try.f95 1) = impl_Prefix_halves.T1 := by kernel_rfl
theorem impl_Prefix_halves.bits1 : waitsOk impl_Prefix_halves.T1.2 impl_Prefix_halves.B1 = true := by kernel_rfl
theorem impl_Prefix_halves.calls (a0_0 : Int) (a0_1 : Int) (r1 : Int) (r2 : Int) (r3 : Int) (r4 : Int) (w : World) (h : impl_Prefix_halves.f a0_0 a0_1 = some (r1, r2, r3, r4)) :
  Calls kt 95 #[.agg #[.int .i64 a0_0, .int .i64 a0_1]] w fun e w' => e = .returned (.tuple #[.agg #[.int .i64 r1, .int .i64 r2], .agg #[.int .i64 r3, .int .i64 r4]]) ∧ Below w.heap.size w w' := by
 have hu37 := kx
 have HB := kz (Below.refl w.heap.size w)
 have H : ((impl_sizeOf.f (wrap64 (a0_1 + 1))).bind fun t251 => (some (a0_0, wrap64 (a0_1 + 1), wrap64 (a0_0 + t251), wrap64 (a0_1 + 1)))) = some (r1, r2, r3, r4) := h
 clear h
 replace H := kg.mp H
 obtain ⟨t251, A20, H⟩ := H
 replace H : (some (a0_0, wrap64 (a0_1 + 1), wrap64 (a0_0 + t251), wrap64 (a0_1 + 1))) = some (r1, r2, r3, r4) := H
 have A2 := kz A20
 clear A20
 simp only [Option.some.injEq, Prod.mk.injEq] at H
 obtain ⟨rfl, rfl, rfl, rfl⟩ := H
 go_enter Try.func95, Try.ntmps95
 try go_wp2_with (first | ((with_reducible refine zy (N := 1) rfl ?_); refine zw ?hg (N := 1) ?hd (cs := #[.int .i64 a0_0, .int .i64 a0_1]) (t := 37) ?hr ?_; (case hd => rfl); (case hg => rfl); (case hr => (go_simp; done)); intro gb248 hg w3 hbox hb; replace HB := kz (zs HB.1 hb); have ql := kz hbox; clear hb hbox hg) | ((with_reducible refine zy (N := 2) rfl ?_); refine zw ?hg (N := 2) ?hd (cs := #[.int .i64 0, .int .i64 0]) (t := 37) ?hr ?_; (case hd => rfl); (case hg => rfl); (case hr => (go_simp; done)); intro gb249 hg w4 hbox hb; have qw := kz hbox; have GE249 := kz ((by rw [hg]; exact (zn HB.1) : w.heap.size ≤ gb249)); replace HB := kz (zs HB.1 hb); have qs := kz ((by rw [hg]; exact kv (zv (g := gb248) (o := .cells #[.int .i64 a0_0, .int .i64 a0_1] 37 (0, 0)) ql.1) : gb248 ≠ gb249)); have NB249_248 := kz ((by rw [hg]; exact kh (zv (g := gb248) (o := .cells #[.int .i64 a0_0, .int .i64 a0_1] 37 (0, 0)) ql.1) : gb249 ≠ gb248)); replace ql := kz (zr (g := gb248) (o := .cells #[.int .i64 a0_0, .int .i64 a0_1] 37 (0, 0)) ql.1 hb); clear hb hbox hg) | ((with_reducible refine zy (N := 3) rfl ?_); refine zw ?hg (N := 3) ?hd (cs := #[.int .i64 0, .int .i64 0]) (t := 37) ?hr ?_; (case hd => rfl); (case hg => rfl); (case hr => (go_simp; done)); intro gb250 hg w5 hbox hb; have qz := kz hbox; have GE250 := kz ((by rw [hg]; exact (zn HB.1) : w.heap.size ≤ gb250)); replace HB := kz (zs HB.1 hb); have qt := kz ((by rw [hg]; exact kv (zv (g := gb248) (o := .cells #[.int .i64 a0_0, .int .i64 a0_1] 37 (0, 0)) ql.1) : gb248 ≠ gb250)); have NB250_248 := kz ((by rw [hg]; exact kh (zv (g := gb248) (o := .cells #[.int .i64 a0_0, .int .i64 a0_1] 37 (0, 0)) ql.1) : gb250 ≠ gb248)); replace ql := kz (zr (g := gb248) (o := .cells #[.int .i64 a0_0, .int .i64 a0_1] 37 (0, 0)) ql.1 hb); have qu := kz ((by rw [hg]; exact kv (zv (g := gb249) (o := .cells #[.int .i64 0, .int .i64 0] 37 (0, 0)) qw.1) : gb249 ≠ gb250)); have qv := kz ((by rw [hg]; exact kh (zv (g := gb249) (o := .cells #[.int .i64 0, .int .i64 0] 37 (0, 0)) qw.1) : gb250 ≠ gb249)); replace qw := kz (zr (g := gb249) (o := .cells #[.int .i64 0, .int .i64 0] 37 (0, 0)) qw.1 hb); clear hb hbox hg))
 replace ql := kz (zd ql.1)
 replace qw := kz (zd qw.1)
 replace qz := kz (zd qz.1)
 replace HB := kz (zg HB.1)
 refine start_ (n := 19) (S := fun w' => w'.cell? ⟨gb248, 0, none⟩ = some (.int .i64 a0_0) ∧ w'.cell? ⟨gb248, 1, none⟩ = some (.int .i64 a0_1)) (ds := []) #[kl,kl,kl,kl,kl,kl,kl,kl,kl,kl,kl,kl,kl,kl,kl,kl,kl,kl,kl] (by kernel_rfl) rfl rfl ⟨(zj ql.1 0).trans rfl, (zj ql.1 1).trans rfl⟩ (fun hHeld => ?_); refine with_tabW impl_Prefix_halves.tab1 impl_Prefix_halves.bits1 (fun HT_ HW_ => ?_)
 generalize w5.drew = w6 at ql qw qz HB hHeld ⊢
 refine zR (i := 0) (N := some 4) (v := ?_) (a' := ?_) #[kn,kl,kl,kl,kl,kl,kl,kl,kl,kl,kl,kl,kl,kl,kl,kl,kl,kl,kl] rfl rfl (zQ HT_.1 (by kernel_rfl)) (fun _ _ _ h => h) (km ⟨by rfl, ?_⟩) ?_ ?_
 rotate_left
 ·
  intro w'
  go_simp
  with_reducible rfl
 rotate_left
 ·
  simp only [kc, ky, kj, kk, zJ, zM]
  rfl
 refine zR (i := 2) (N := some 6) (v := ?_) (a' := ?_) #[kn,kl,kn,kl,kl,kl,kl,kl,kl,kl,kl,kl,kl,kl,kl,kl,kl,kl,kl] rfl rfl (zQ HT_.1 (by kernel_rfl)) (fun _ _ _ h => h) (km ⟨by rfl, ?_⟩) ?_ ?_
 rotate_left
 ·
  intro w'
  go_simp
  with_reducible rfl
 rotate_left
 ·
  simp only [kc, ky, kj, kk, zJ, zM]
  rfl
 refine zR (i := 6) (N := some 10) (v := ?_) (a' := ?_) #[kn,kl,kn,kl,kl,kl,kn,kl,kl,kl,kl,kl,kl,kl,kl,kl,kl,kl,kl] rfl rfl (zQ HT_.1 (by kernel_rfl)) (fun _ _ _ h => h) (km ⟨by rfl, ?_⟩) ?_ ?_
 rotate_left
 ·
  intro w'
  go_simp
  with_reducible rfl
 rotate_left
 ·
  simp only [kc, ky, kj, kk, zJ, zM]
  rfl
 refine zR (i := 8) (N := some 12) (v := ?_) (a' := ?_) #[kn,kl,kn,kl,kl,kl,kn,kl,kn,kl,kl,kl,kl,kl,kl,kl,kl,kl,kl] rfl rfl (zQ HT_.1 (by kernel_rfl)) (fun _ _ _ h => h) (km ⟨by rfl, ?_⟩) ?_ ?_
 rotate_left
 ·
  intro w'
  go_simp
  with_reducible rfl
 rotate_left
 ·
  simp only [kc, ky, kj, kk, zJ, zM]
  rfl
 refine zR (i := 13) (N := some 17) (v := ?_) (a' := ?_) #[kn,kl,kn,kl,kl,kl,kn,kl,kn,kl,kl,kl,kl,kn,kl,kl,kl,kl,kl] rfl rfl (zQ HT_.1 (by kernel_rfl)) (fun _ _ _ h => h) (km ⟨by rfl, ?_⟩) ?_ ?_
 rotate_left
 ·
  intro w'
  go_simp
  with_reducible rfl
 rotate_left
 ·
  simp only [kc, ky, kj, kk, zJ, zM]
  rfl
 refine take_ (i := 1) (N := some 5) (v := ?_) (a' := ?_) #[kn,kn,kn,kl,kl,kl,kn,kl,kn,kl,kl,kl,kl,kn,kl,kl,kl,kl,kl] rfl rfl (take_ofW HT_.1 HW_.1 (by kernel_rfl)) (fun _ _ _ h => h) (km ⟨by rfl, ?_⟩) hHeld ?_ ?_
 rotate_left
 ·
  rintro w' ⟨s0, s1⟩
  go_simp
  with_reducible rfl
 rotate_left
 ·
  simp only [kc, ky, kj, kk, zJ, zM]
  rfl
 refine take_ (i := 3) (N := some 7) (v := ?_) (a' := ?_) #[kn,kn,kn,kn,kl,kl,kn,kl,kn,kl,kl,kl,kl,kn,kl,kl,kl,kl,kl] rfl rfl (take_ofW HT_.1 HW_.1 (by kernel_rfl)) (fun _ _ _ h => h) (km ⟨by rfl, ?_⟩) hHeld ?_ ?_
 rotate_left
 ·
  rintro w' ⟨s0, s1⟩
  go_simp
  with_reducible rfl
 rotate_left
 ·
  simp only [kc, ky, kj, kk, zJ, zM]
  rfl
 refine zR (i := 4) (N := some 8) (v := ?_) (a' := ?_) #[kn,kn,kn,kn,kn,kl,kn,kl,kn,kl,kl,kl,kl,kn,kl,kl,kl,kl,kl] rfl rfl (zQ HT_.1 (by kernel_rfl)) (fun _ _ _ h => h) (km ⟨by rfl, ?_⟩) ?_ ?_
 rotate_left
 ·
  intro w'
  go_simp
  with_reducible rfl
 rotate_left
 ·
  simp only [kc, ky, kj, kk, zJ, zM]
  rfl
 refine zR (i := 5) (N := some 9) (v := ?_) (a' := ?_) #[kn,kn,kn,kn,kn,kn,kn,kl,kn,kl,kl,kl,kl,kn,kl,kl,kl,kl,kl] rfl rfl (zQ HT_.1 (by kernel_rfl)) (fun _ _ _ h => h) (km ⟨by rfl, ?_⟩) ?_ ?_
 rotate_left
 ·
  intro w'
  go_simp
  with_reducible rfl
 rotate_left
 ·
  simp only [kc, ky, kj, kk, zJ, zM]
  rfl
 refine take_ (i := 7) (N := some 11) (v := ?_) (a' := ?_) #[kn,kn,kn,kn,kn,kn,kn,kn,kn,kl,kl,kl,kl,kn,kl,kl,kl,kl,kl] rfl rfl (take_ofW HT_.1 HW_.1 (by kernel_rfl)) (fun _ _ _ h => h) (km ⟨by rfl, ?_⟩) hHeld ?_ ?_
 rotate_left
 ·
  rintro w' ⟨s0, s1⟩
  go_simp
  with_reducible rfl
 rotate_left
 ·
  simp only [kc, ky, kj, kk, zJ, zM]
  rfl
 refine take_ (i := 9) (N := some 13) (v := ?_) (a' := ?_) #[kn,kn,kn,kn,kn,kn,kn,kn,kn,kn,kl,kl,kl,kn,kl,kl,kl,kl,kl] rfl rfl (take_ofW HT_.1 HW_.1 (by kernel_rfl)) (fun _ _ _ h => h) (km ⟨by rfl, ?_⟩) hHeld ?_ ?_
 rotate_left
 ·
  rintro w' ⟨s0, s1⟩
  go_simp
  with_reducible rfl
 rotate_left
 ·
  simp only [kc, ky, kj, kk, zJ, zM]
  rfl
 refine zR (i := 10) (N := some 14) (v := ?_) (a' := ?_) #[kn,kn,kn,kn,kn,kn,kn,kn,kn,kn,kn,kl,kl,kn,kl,kl,kl,kl,kl] rfl rfl (zQ HT_.1 (by kernel_rfl)) (fun _ _ _ h => h) (km ⟨by rfl, ?_⟩) ?_ ?_
 rotate_left
 ·
  intro w'
  go_simp
  with_reducible rfl
 rotate_left
 ·
  simp only [kc, ky, kj, kk, zJ, zM]
  rfl
 refine take_ (i := 14) (N := some 18) (v := ?_) (a' := ?_) #[kn,kn,kn,kn,kn,kn,kn,kn,kn,kn,kn,kl,kl,kn,kn,kl,kl,kl,kl] rfl rfl (take_ofW HT_.1 HW_.1 (by kernel_rfl)) (fun _ _ _ h => h) (km ⟨by rfl, ?_⟩) hHeld ?_ ?_
 rotate_left
 ·
  rintro w' ⟨s0, s1⟩
  go_simp
  with_reducible rfl
 rotate_left
 ·
  simp only [kc, ky, kj, kk, zJ, zM]
  rfl
 refine zR (i := 15) (N := some 19) (v := ?_) (a' := ?_) #[kn,kn,kn,kn,kn,kn,kn,kn,kn,kn,kn,kl,kl,kn,kn,kn,kl,kl,kl] rfl rfl (zQ HT_.1 (by kernel_rfl)) (fun _ _ _ h => h) (km ⟨by rfl, ?_⟩) ?_ ?_
 rotate_left
 ·
  intro w'
  go_simp
  with_reducible rfl
 rotate_left
 ·
  simp only [kc, ky, kj, kk, zJ, zM]
  rfl
 refine one_ (i := 11) (N := some 15) #[kn,kn,kn,kn,kn,kn,kn,kn,kn,kn,kn,kn,kl,kn,kn,kn,kl,kl,kl] rfl rfl (one_of HT_.1 (by kernel_rfl)) (by decide) (fun K hK => ?_)
 refine goes_ Try.func96 (by kernel_rfl) rfl #[.int .i64 (wrap64 (a0_1 + 1))] (by rfl) rfl rfl (by (try simp only [kf, kb, kd]); rfl) ?_
 with_reducible refine (impl_sizeOf.calls (wrap64 (a0_1 + 1)) t251 _ A2.1).mono ?_
 rintro e w' ⟨rfl, ⟨nd, rfl⟩⟩
 refine ⟨_, rfl, ?_⟩
 refine hK.out _ _ ⟨(zj ql.1 0).trans rfl, (zj ql.1 1).trans rfl⟩ (fun hHeld => ?_)
 clear hK K
 refine norm_ (a' := ?_) ?_ ?_
 rotate_left
 ·
  show kc _ (some 15) _ = _
  simp only [kc, ky, kj, kk, zJ, zM]
  rfl
 refine zR (i := 12) (N := some 16) (v := ?_) (a' := ?_) #[kn,kn,kn,kn,kn,kn,kn,kn,kn,kn,kn,kn,kn,kn,kn,kn,kl,kl,kl] rfl rfl (zQ HT_.1 (by kernel_rfl)) (fun _ _ _ h => h) (km ⟨by rfl, ?_⟩) ?_ ?_
 rotate_left
 ·
  intro w'
  go_simp
  with_reducible rfl
 rotate_left
 ·
  simp only [kc, ky, kj, kk, zJ, zM]
  rfl
 refine zR (i := 16) (N := some 20) (v := ?_) (a' := ?_) #[kn,kn,kn,kn,kn,kn,kn,kn,kn,kn,kn,kn,kn,kn,kn,kn,kn,kl,kl] rfl rfl (zQ HT_.1 (by kernel_rfl)) (fun _ _ _ h => h) (km ⟨by rfl, ?_⟩) ?_ ?_
 rotate_left
 ·
  intro w'
  go_simp
  with_reducible rfl
 rotate_left
 ·
  simp only [kc, ky, kj, kk, zJ, zM]
  rfl
 refine one_ (i := 17) (N := none) #[kn,kn,kn,kn,kn,kn,kn,kn,kn,kn,kn,kn,kn,kn,kn,kn,kn,kn,kl] rfl rfl (one_of HT_.1 (by kernel_rfl)) (by decide) (fun K hK => ?_)
 have hs7 : w6.cell? ⟨gb249, 0, none⟩ = some (.int .i64 0) := (zj qw.1 0).trans rfl
 have hfs7 := zi qw.1 0
 have hns7_0 := qs.1
 have hns7_2 := qv.1
 have hms7_0 := NB249_248.1
 have hms7_2 := qu.1
 have hs8 : w6.cell? ⟨gb249, 1, none⟩ = some (.int .i64 0) := (zj qw.1 1).trans rfl
 have hfs8 := zi qw.1 1
 have hns8_0 := qs.1
 have hns8_2 := qv.1
 have hms8_0 := NB249_248.1
 have hms8_2 := qu.1
 refine skip_ (w1 := ?_) (by rfl) rfl ?_ ?_
 rotate_left
 ·
  go_simp
  rfl
 refine hK.out _ _ ⟨((zP (p := ⟨gb249, _, none⟩) qs.1 _).trans (((zP (p := ⟨gb249, _, none⟩) qs.1 _).trans (hHeld.1)))), ((zP (p := ⟨gb249, _, none⟩) qs.1 _).trans (((zP (p := ⟨gb249, _, none⟩) qs.1 _).trans (hHeld.2))))⟩ (fun hHeld => ?_)
 clear hK K
 refine one_ (i := 18) (N := none) #[kn,kn,kn,kn,kn,kn,kn,kn,kn,kn,kn,kn,kn,kn,kn,kn,kn,kn,kn] rfl rfl (one_of HT_.1 (by kernel_rfl)) (by decide) (fun K hK => ?_)
 have hs9 : w6.cell? ⟨gb250, 0, none⟩ = some (.int .i64 0) := (zj qz.1 0).trans rfl
 have hfs9 := zi qz.1 0
 have hns9_0 := qt.1
 have hns9_1 := qu.1
 have hms9_0 := NB250_248.1
 have hms9_1 := qv.1
 have hs10 : w6.cell? ⟨gb250, 1, none⟩ = some (.int .i64 0) := (zj qz.1 1).trans rfl
 have hfs10 := zi qz.1 1
 have hns10_0 := qt.1
 have hns10_1 := qu.1
 have hms10_0 := NB250_248.1
 have hms10_1 := qv.1
 refine skip_ (w1 := ?_) (by rfl) rfl ?_ ?_
 rotate_left
 ·
  go_simp
  rfl
 refine hK.out _ _ ⟨((zP (p := ⟨gb250, _, none⟩) qt.1 _).trans (((zP (p := ⟨gb250, _, none⟩) qt.1 _).trans (hHeld.1)))), ((zP (p := ⟨gb250, _, none⟩) qt.1 _).trans (((zP (p := ⟨gb250, _, none⟩) qt.1 _).trans (hHeld.2))))⟩ (fun hHeld => ?_)
 clear hK K
 refine done_ (done_of HT_.1 (by kernel_rfl)) ?_
 try go_wp2
 refine bodyPost_ret (results_cc rfl _ _ gb249 gb250 37 37 #[.int .i64 a0_0, .int .i64 (wrap64 (a0_1 + 1))] #[.int .i64 (wrap64 (a0_0 + t251)), .int .i64 (wrap64 (a0_1 + 1))] (0, 0) (0, 0) _ _ rfl (by refine zo ?_ qu.1 _; refine zo ?_ qu.1 _; refine zz (cs := #[.int .i64 a0_0, .int .i64 0]) ?_ 1 _ rfl; refine zz (cs := #[.int .i64 0, .int .i64 0]) ?_ 0 _ rfl; (with_reducible repeat (refine zb ?_ _)); exact qw.1) kx rfl (by kernel_rfl) rfl (by refine zz (cs := #[.int .i64 (wrap64 (a0_0 + t251)), .int .i64 0]) ?_ 1 _ rfl; refine zz (cs := #[.int .i64 0, .int .i64 0]) ?_ 0 _ rfl; refine zo ?_ qv.1 _; refine zo ?_ qv.1 _; (with_reducible repeat (refine zb ?_ _)); exact qz.1) kx rfl (by kernel_rfl)) rfl ?_
 exact ⟨by rfl, by repeat ((with_reducible first | exact HB.1 | apply ze | refine zf ?_ GE249.1 | refine zf ?_ GE250.1))⟩
/-! ### impl_entriesBelow: function 73 -/
mutual
def impl_entriesBelow.j0 : Nat → List (S86) → List (S39) → Int → Int → Int → Int → Bool → Int → Option ((List (S39)))
 | 0, _, _, _, _, _, _, _, _ => none
 | k + 1, x0, x3, x253000, x253001, x255000, x255001, x255002, x255003 => if x253001 = 32 then (some x3) else ((impl_Prefix_halves.f x253000 x253001).bind fun bt258 => (if x255000 > 0 then ((impl_entriesBelow.f k x0 x255000 bt258.1 bt258.2.1 x3).bind fun t264 => (if x255001 > 0 then ((impl_entriesBelow.f k x0 x255001 bt258.2.2.1 bt258.2.2.2 t264).bind fun t267 => (some t267)) else (some t264))) else (if x255001 > 0 then ((impl_entriesBelow.f k x0 x255001 bt258.2.2.1 bt258.2.2.2 x3).bind fun t270 => (some t270)) else (some x3))))
def impl_entriesBelow.f : Nat → List (S86) → Int → Int → Int → List (S39) → Option ((List (S39)))
 | 0, _, _, _, _, _ => none
 | k + 1, l0, a1, a2_0, a2_1, l3 => if 0 ≤ a1 then (if a1 < (l0.length : Int) then (if (rd_T86 l0 a1).f2 = true then (if l3.length < 5864062014805 then (impl_entriesBelow.j0 k l0 (l3 ++ [(⟨(⟨a2_0, a2_1⟩ : S37), (rd_T86 l0 a1).f3⟩ : S39)]) a2_0 a2_1 ((rd_T86 l0 a1).f0) ((rd_T86 l0 a1).f1) ((rd_T86 l0 a1).f2) ((rd_T86 l0 a1).f3)) else (none)) else (impl_entriesBelow.j0 k l0 l3 a2_0 a2_1 ((rd_T86 l0 a1).f0) ((rd_T86 l0 a1).f1) ((rd_T86 l0 a1).f2) ((rd_T86 l0 a1).f3))) else (none)) else (none)
end
theorem impl_entriesBelow.calls (k : Nat) : ∀ (A0 : Option Addr) (c0 : Nat) (l0 : List (S86)) (a1 : Int) (a2_0 : Int) (a2_1 : Int) (P3_ : Nat → Prop) (u9000_ : Value) (l3 : List (S39)) (r : List (S39)) (w0 w : World) (hB : Below w0.heap.size w0 w) (hr0 : ∀ W_, Kept w W_ (fun k_ => P3_ k_) → Kd.C k86 W_ A0 l0.length l0) (hc0 : l0.length ≤ c0) (ho3 : Kd.R k39 39 w w0.heap.size P3_ u9000_ l3) (h : impl_entriesBelow.f k l0 a1 a2_0 a2_1 l3 = some r),
  Calls kt 73 #[.slice A0 l0.length c0, .int .i64 a1, .agg #[.int .i64 a2_0, .int .i64 a2_1], u9000_] w fun e w' => ∃ v0_ : Value, e = .returned (v0_) ∧ Kd.R k39 39 w' w0.heap.size (fun k_ => (P3_ k_ ∨ w.heap.size ≤ k_)) v0_ r ∧ Below w0.heap.size w0 w' ∧ Kept w w' (fun k_ => P3_ k_) := by
 induction k using Nat.strongRecOn with
 | _ k ih =>
 intro A0 c0 l0 a1 a2_0 a2_1 P3_ u9000_ l3 r w0 w hB hr0 hc0 ho3 h
 cases k with
 | zero => exact absurd h (by simp [impl_entriesBelow.f])
 | succ k =>
 simp only [impl_entriesBelow.f] at h
 have hu37 := kx
 have hu86 := Try.underlying86
 have hu39 := Try.underlying39
 have HR0 := kz hr0
 have HC0 := kz hc0
 clear hr0 hc0
 have HO3 := kz (show Kd.R k39 39 w w0.heap.size (fun k_ => (P3_ k_ ∨ w.heap.size ≤ k_)) u9000_ l3 from zD ho3 (fun k_ hk => (.inl hk)))
 have HK := kz (Kept.refl w (fun k_ => P3_ k_))
 have HW0 := kz hB.size
 have HB := kz hB
 clear hB
 have H : (if 0 ≤ a1 then (if a1 < (l0.length : Int) then (if (rd_T86 l0 a1).f2 = true then (if l3.length < 5864062014805 then (impl_entriesBelow.j0 k l0 (l3 ++ [(⟨(⟨a2_0, a2_1⟩ : S37), (rd_T86 l0 a1).f3⟩ : S39)]) a2_0 a2_1 ((rd_T86 l0 a1).f0) ((rd_T86 l0 a1).f1) ((rd_T86 l0 a1).f2) ((rd_T86 l0 a1).f3)) else (none)) else (impl_entriesBelow.j0 k l0 l3 a2_0 a2_1 ((rd_T86 l0 a1).f0) ((rd_T86 l0 a1).f1) ((rd_T86 l0 a1).f2) ((rd_T86 l0 a1).f3))) else (none)) else (none)) = some r := h
 clear h
 by_cases c5 : 0 ≤ a1
 ·
  rw [if_pos c5] at H
  have c5b0 : decide (0 ≤ a1) = true := decide_eq_true c5
  clear c5
  by_cases c6 : a1 < (l0.length : Int)
  ·
   rw [if_pos c6] at H
   have c6b0 : decide (a1 < (l0.length : Int)) = true := decide_eq_true c6
   clear c6
   have HC7 := kz H
   clear H
   go_enter kr, Try.ntmps73
   go_upto_if 17 with (first | ((with_reducible refine zy (N := 6) rfl ?_); refine zw ?hg (N := 6) ?hd (cs := #[.int .i64 a2_0, .int .i64 a2_1]) (t := 37) ?hr ?_; (case hd => rfl); (case hg => rfl); (case hr => (go_simp; done)); intro gb252 hg w8 hbox hb; replace HO3 := kz (zB HO3.1 hb); replace HK := kz (zA (S := (fun k_ => P3_ k_)) HK.1 hb); replace HB := kz (zs HB.1 hb); have zT := kz hbox; clear hb hbox hg; have p253 : 0 ≤ (a1 : Int) := of_decide_eq_true (by (with_reducible assumption)); have q253 : a1 < (l0.length : Int) := of_decide_eq_true (by (with_reducible assumption)); obtain ⟨ad253, e253, hx253_0, hx253_1, hx253_2, hx253_3⟩ := at_T86 (Kd.C_kept_now HR0.1 HK.1) a1 p253 q253; cases e253; replace p253 := eq_true p253; replace q253 := eq_true q253) | ((with_reducible refine zy (N := 9) rfl ?_); refine zw ?hg (N := 9) ?hd (cs := #[.int .i64 0, .int .i64 0, .bool false, .int .i64 0]) (t := 86) ?hr ?_; (case hd => rfl); (case hg => rfl); (case hr => (go_simp; done)); intro gb254 hg w9 hbox hb; replace HO3 := kz (zB HO3.1 hb); have zS := kz hbox; have zX := kz ((by rw [hg]; exact (by exact HK.1.1) : w.heap.size ≤ gb254)); replace HK := kz (zA (S := (fun k_ => P3_ k_)) HK.1 hb); have qa := kz ((by rw [hg]; exact (zn HB.1) : w0.heap.size ≤ gb254)); replace HB := kz (zs HB.1 hb); have qb := kz ((by rw [hg]; exact kv (zv (g := gb252) (o := .cells #[.int .i64 a2_0, .int .i64 a2_1] 37 (0, 0)) zT.1) : gb252 ≠ gb254)); have qm := kz ((by rw [hg]; exact kh (zv (g := gb252) (o := .cells #[.int .i64 a2_0, .int .i64 a2_1] 37 (0, 0)) zT.1) : gb254 ≠ gb252)); replace zT := kz (zr (g := gb252) (o := .cells #[.int .i64 a2_0, .int .i64 a2_1] 37 (0, 0)) zT.1 hb); clear hb hbox hg; have hnb10 := qm.1; have hnc10 := qb.1; have hcz11_0 : w9.cell? ⟨gb254, 0, none⟩ = some (.int .i64 0) := (zj zS.1 0).trans rfl; have hcz11_1 : w9.cell? ⟨gb254, 1, none⟩ = some (.int .i64 0) := (zj zS.1 1).trans rfl; have hcz11_2 : w9.cell? ⟨gb254, 2, none⟩ = some (.bool false) := (zj zS.1 2).trans rfl; have hcz11_3 : w9.cell? ⟨gb254, 3, none⟩ = some (.int .i64 0) := (zj zS.1 3).trans rfl; have hfz11_0 := zi zS.1 0; have hfz11_1 := zi zS.1 1; have hfz11_2 := zi zS.1 2; have hfz11_3 := zi zS.1 3))
   (try simp only [kc, ky, kj, kk])
   go_cut [3] (fun v3 wc => ∃ (kq : Nat) (x3_6 : List (S39)), zt (impl_entriesBelow.j0 kq l0 x3_6 a2_0 a2_1 ((rd_T86 l0 a1).f0) ((rd_T86 l0 a1).f1) ((rd_T86 l0 a1).f2) ((rd_T86 l0 a1).f3) = some r) ∧ zt (kq ≤ k) ∧ zt (Kd.R k39 39 wc w0.heap.size (fun k_ => (P3_ k_ ∨ w.heap.size ≤ k_)) v3 x3_6) ∧ zt (wc.heap[gb252]? = some (.cells #[.int .i64 a2_0, .int .i64 a2_1] 37 (0, 0))) ∧ zt (wc.heap[gb254]? = some (.cells #[.int .i64 ((rd_T86 l0 a1).f0), .int .i64 ((rd_T86 l0 a1).f1), .bool ((rd_T86 l0 a1).f2), .int .i64 ((rd_T86 l0 a1).f3)] 86 (0, 0))) ∧ zt (Kept w wc (fun k_ => P3_ k_)) ∧ zt (Below w0.heap.size w0 wc))
   case first =>
    have H := HC7.1
    clear HC7
    obtain ⟨bq12, hbq12⟩ : ∃ b_ : Bool, b_ = ((rd_T86 l0 a1).f2) := ⟨_, rfl⟩
    replace H : (if bq12 = true then (if l3.length < 5864062014805 then (impl_entriesBelow.j0 k l0 (l3 ++ [(⟨(⟨a2_0, a2_1⟩ : S37), (rd_T86 l0 a1).f3⟩ : S39)]) a2_0 a2_1 ((rd_T86 l0 a1).f0) ((rd_T86 l0 a1).f1) bq12 ((rd_T86 l0 a1).f3)) else (none)) else (impl_entriesBelow.j0 k l0 l3 a2_0 a2_1 ((rd_T86 l0 a1).f0) ((rd_T86 l0 a1).f1) bq12 ((rd_T86 l0 a1).f3))) = some r := by rw [← hbq12] at H; exact H
    have Nbq12 := kz hbq12
    clear hbq12
    (try rw [← Nbq12.1])
    by_cases c13 : bq12 = true
    ·
     subst c13
     have H1 : (if l3.length < 5864062014805 then (impl_entriesBelow.j0 k l0 (l3 ++ [(⟨(⟨a2_0, a2_1⟩ : S37), (rd_T86 l0 a1).f3⟩ : S39)]) a2_0 a2_1 ((rd_T86 l0 a1).f0) ((rd_T86 l0 a1).f1) true ((rd_T86 l0 a1).f3)) else (none)) = some r := by rw [if_pos rfl] at H; exact H
     clear H
     have H := H1
     clear H1
     by_cases c14 : l3.length < 5864062014805
     ·
      rw [if_pos c14] at H
      have LMc14 := kz c14
      clear c14
      obtain ⟨y255, hy255⟩ : ∃ y_ : List (S39), y_ = (l3 ++ [(⟨(⟨a2_0, a2_1⟩ : S37), (rd_T86 l0 a1).f3⟩ : S39)]) := ⟨_, rfl⟩
      replace H : (impl_entriesBelow.j0 k l0 y255 a2_0 a2_1 ((rd_T86 l0 a1).f0) ((rd_T86 l0 a1).f1) true ((rd_T86 l0 a1).f3)) = some r := by (rw [hy255]; with_reducible exact H)
      have Ny255 := kz hy255
      clear hy255
      have H' := kz H
      clear H
      have hnb15 := qb.1
      have hnc15 := qm.1
      have hcz16_0 : w9.cell? ⟨gb252, 0, none⟩ = some (.int .i64 a2_0) := (zj zT.1 0).trans rfl
      have hcz16_1 : w9.cell? ⟨gb252, 1, none⟩ = some (.int .i64 a2_1) := (zj zT.1 1).trans rfl
      have hfz16_0 := zi zT.1 0
      have hfz16_1 := zi zT.1 1
      have hcz17_0 : w9.cell? ⟨gb254, 0, none⟩ = some (.int .i64 0) := (zj zS.1 0).trans rfl
      have hcz17_1 : w9.cell? ⟨gb254, 1, none⟩ = some (.int .i64 0) := (zj zS.1 1).trans rfl
      have hcz17_2 : w9.cell? ⟨gb254, 2, none⟩ = some (.bool false) := (zj zS.1 2).trans rfl
      have hcz17_3 : w9.cell? ⟨gb254, 3, none⟩ = some (.int .i64 0) := (zj zS.1 3).trans rfl
      have hfz17_0 := zi zS.1 0
      have hfz17_1 := zi zS.1 1
      have hfz17_2 := zi zS.1 2
      have hfz17_3 := zi zS.1 3
      go_wp2_with (((with_reducible refine gate_builtin (b := .append) (xs := #[.tmp 18, .tmp 23]) rfl ?_); at_builtin; refine Kd.R_append k39 (w0 := w0) w0.heap.size rfl (.tmp 18) (.tmp 23) 25 39 (.agg #[(.int .i64 0), (.int .i64 0), (.int .i64 0)]) 24 rfl Try.underlying25 info39 rfl (by decide) (by omega) u9000_ l3 (⟨(⟨a2_0, a2_1⟩ : S37), (rd_T86 l0 a1).f3⟩ : S39) [.int .i64 a2_0, .int .i64 a2_1, .int .i64 ((rd_T86 l0 a1).f3)] (fun k_ => (P3_ k_ ∨ w.heap.size ≤ k_)) (fun _ => False) rfl (by (go_simp; done)) ?aP (fun _ hk => hk.elim) ?aF ?aO ?aB ?aS ?aL ?_; (case aP => exact k39_mkM _ _ _ (⟨(⟨a2_0, a2_1⟩ : S37), (rd_T86 l0 a1).f3⟩ : S39)); (case aB => exact (by repeat ((with_reducible first | exact HB.1 | refine zf ?_ qa.1)))); (case aF => exact (fun k_ hk => (.inr (ks (show Kept w _ (fun k_ => P3_ k_) from by repeat ((with_reducible first | exact HK.1 | refine za ?_ (.inr zX.1) _))).1 hk)))); (case aO => exact (by exact zD (zx (p := ⟨gb254, 3, none⟩) (zx (p := ⟨gb254, 2, none⟩) (zx (p := ⟨gb254, 1, none⟩) (zx (p := ⟨gb254, 0, none⟩) (zG HO3.1 zS.1 (by decide)) (fun _ hk => hk.2) (.int .i64 ((rd_T86 l0 a1).f0))) (fun _ hk => hk.2) (.int .i64 ((rd_T86 l0 a1).f1))) (fun _ hk => hk.2) (.bool (true))) (fun _ hk => hk.2) (.int .i64 ((rd_T86 l0 a1).f3))) (fun _ hk => hk.1))); (case aS => exact (zn (by repeat ((with_reducible first | exact HB.1 | refine zf ?_ qa.1))))); (case aL => have := LMc14.1; omega); intro v256 w18 ho hb hg hat; rw [← Ny255.1] at ho; replace zT := kz (blk_grown (g := gb252) (o := .cells #[.int .i64 a2_0, .int .i64 a2_1] 37 (0, 0)) (by refine zo ?_ qb.1 _; refine zo ?_ qb.1 _; refine zo ?_ qb.1 _; refine zo ?_ qb.1 _; exact zT.1) hg (zF HO3.1 zT.1 (by decide))); replace zS := kz (blk_grown (g := gb254) (o := .cells #[.int .i64 ((rd_T86 l0 a1).f0), .int .i64 ((rd_T86 l0 a1).f1), .bool true, .int .i64 ((rd_T86 l0 a1).f3)] 86 (0, 0)) (by refine zz (cs := #[.int .i64 ((rd_T86 l0 a1).f0), .int .i64 ((rd_T86 l0 a1).f1), .bool (true), .int .i64 0]) ?_ 3 _ rfl; refine zz (cs := #[.int .i64 ((rd_T86 l0 a1).f0), .int .i64 ((rd_T86 l0 a1).f1), .bool false, .int .i64 0]) ?_ 2 _ rfl; refine zz (cs := #[.int .i64 ((rd_T86 l0 a1).f0), .int .i64 0, .bool false, .int .i64 0]) ?_ 1 _ rfl; refine zz (cs := #[.int .i64 0, .int .i64 0, .bool false, .int .i64 0]) ?_ 0 _ rfl; exact zS.1) hg (zF HO3.1 zS.1 (by decide))); replace HB := kz hb; replace HK := kz (Kept.of_grown (S := (fun k_ => P3_ k_)) hg (by repeat ((with_reducible first | exact HK.1 | refine za ?_ (.inr zX.1) _))) (fun k_ e_ => (HO3.1.1 k_ e_))); have HO257 := kz ho; clear ho hb hg hat))
      go_meet
      case rel => (try rw [← Nbq12.1]); exact ⟨_, (y255), H', ⟨by omega⟩, ⟨by (try rw [← Nbq12.1]); exact HO257.1⟩, ⟨by (try rw [← Nbq12.1]); exact zT.1⟩, ⟨by (try rw [← Nbq12.1]); exact zS.1⟩, ⟨by exact HK.1⟩, ⟨by exact HB.1⟩⟩
     ·
      rw [if_neg c14] at H
      exact absurd H (by simp)
    ·
     replace c13 := ku.mpr c13
     subst c13
     have H1 : (impl_entriesBelow.j0 k l0 l3 a2_0 a2_1 ((rd_T86 l0 a1).f0) ((rd_T86 l0 a1).f1) false ((rd_T86 l0 a1).f3)) = some r := by rw [if_neg (show ¬ (false = true) by decide)] at H; exact H
     clear H
     have H := H1
     clear H1
     have H' := kz H
     clear H
     go_wp2
     go_meet
     case rel => (try rw [← Nbq12.1]); exact ⟨_, (l3), H', ⟨by omega⟩, ⟨by (try rw [← Nbq12.1]); exact zD (zx (p := ⟨gb254, 3, none⟩) (zx (p := ⟨gb254, 2, none⟩) (zx (p := ⟨gb254, 1, none⟩) (zx (p := ⟨gb254, 0, none⟩) (zG HO3.1 zS.1 (by decide)) (fun _ hk => hk.2) (.int .i64 ((rd_T86 l0 a1).f0))) (fun _ hk => hk.2) (.int .i64 ((rd_T86 l0 a1).f1))) (fun _ hk => hk.2) (.bool (false))) (fun _ hk => hk.2) (.int .i64 ((rd_T86 l0 a1).f3))) (fun _ hk => hk.1)⟩, ⟨by (try rw [← Nbq12.1]); refine zo ?_ qb.1 _; refine zo ?_ qb.1 _; refine zo ?_ qb.1 _; refine zo ?_ qb.1 _; exact zT.1⟩, ⟨by (try rw [← Nbq12.1]); refine zz (cs := #[.int .i64 ((rd_T86 l0 a1).f0), .int .i64 ((rd_T86 l0 a1).f1), .bool (false), .int .i64 0]) ?_ 3 _ rfl; refine zz (cs := #[.int .i64 ((rd_T86 l0 a1).f0), .int .i64 ((rd_T86 l0 a1).f1), .bool false, .int .i64 0]) ?_ 2 _ rfl; refine zz (cs := #[.int .i64 ((rd_T86 l0 a1).f0), .int .i64 0, .bool false, .int .i64 0]) ?_ 1 _ rfl; refine zz (cs := #[.int .i64 0, .int .i64 0, .bool false, .int .i64 0]) ?_ 0 _ rfl; exact zS.1⟩, ⟨by repeat ((with_reducible first | exact HK.1 | refine za ?_ (.inr zX.1) _))⟩, ⟨by repeat ((with_reducible first | exact HB.1 | refine zf ?_ qa.1))⟩⟩
   case rest =>
    clear HC7
    (try clear c1); (try clear q1); (try clear p2); (try clear q2); (try clear hx2); (try clear c5); (try clear c5b0); (try clear c6); (try clear c6b0); (try clear c7); (try clear c10); (try clear q12); (try clear c13); (try clear c14); (try clear c15); (try clear hcz11_0); (try clear hcz11_1); (try clear hcz11_2); (try clear hcz11_3); (try clear hcz16_0); (try clear hcz16_1); (try clear hcz17_0); (try clear hcz17_1); (try clear hcz17_2); (try clear hcz17_3); (try clear hfz11_0); (try clear hfz11_1); (try clear hfz11_2); (try clear hfz11_3); (try clear hfz16_0); (try clear hfz16_1); (try clear hfz17_0); (try clear hfz17_1); (try clear hfz17_2); (try clear hfz17_3); (try clear hx253_0); (try clear hx253_1); (try clear hx253_2); (try clear hx253_3); (try clear p253); (try clear q253)
    obtain ⟨kq, x3_6, HA, HJ6, HO_3, zT, zS, HK, HB⟩ := hcut
    cases kq with
    | zero => exact absurd HA.1 (by simp [impl_entriesBelow.j0])
    | succ kj6 =>
     have H := HA.1
     clear HA
     simp only [impl_entriesBelow.j0] at H
     by_cases c19 : a2_1 = 32
     ·
      rw [if_pos c19] at H
      have c19b0 : (a2_1 == 32) = true := beq_iff_eq.mpr c19
      have c19b1 : (a2_1 != 32) = false := bne_eq_false_iff_eq.mpr c19
      clear c19
      obtain rfl := ke H
      have hnb20 := qb.1
      have hnc20 := qm.1
      have hcz21_0 : wc.cell? ⟨gb252, 0, none⟩ = some (.int .i64 a2_0) := (zj zT.1 0).trans rfl
      have hcz21_1 : wc.cell? ⟨gb252, 1, none⟩ = some (.int .i64 a2_1) := (zj zT.1 1).trans rfl
      have hfz21_0 := zi zT.1 0
      have hfz21_1 := zi zT.1 1
      go_wp2
      go_ret
      exact ⟨_, by rfl, by exact HO_3.1, by exact HB.1, by exact HK.1⟩
     ·
      rw [if_neg c19] at H
      have c19b0 : (a2_1 == 32) = false := beq_eq_false_iff_ne.mpr c19
      have c19b1 : (a2_1 != 32) = true := bne_iff_ne.mpr c19
      replace H := kg.mp H
      obtain ⟨⟨t258, t259, t260, t261⟩, A220, H⟩ := H
      replace H : (if ((rd_T86 l0 a1).f0) > 0 then ((impl_entriesBelow.f kj6 l0 ((rd_T86 l0 a1).f0) t258 t259 x3_6).bind fun t264 => (if ((rd_T86 l0 a1).f1) > 0 then ((impl_entriesBelow.f kj6 l0 ((rd_T86 l0 a1).f1) t260 t261 t264).bind fun t267 => (some t267)) else (some t264))) else (if ((rd_T86 l0 a1).f1) > 0 then ((impl_entriesBelow.f kj6 l0 ((rd_T86 l0 a1).f1) t260 t261 x3_6).bind fun t270 => (some t270)) else (some x3_6))) = some r := H
      have A22 := kz A220
      clear A220
      by_cases c23 : ((rd_T86 l0 a1).f0) > 0
      ·
       rw [if_pos c23] at H
       have c23b0 : decide (0 < ((rd_T86 l0 a1).f0)) = true := decide_eq_true c23
       clear c23
       replace H := kg.mp H
       obtain ⟨t264, A240, H⟩ := H
       replace H : (if ((rd_T86 l0 a1).f1) > 0 then ((impl_entriesBelow.f kj6 l0 ((rd_T86 l0 a1).f1) t260 t261 t264).bind fun t267 => (some t267)) else (some t264)) = some r := H
       have A24 := kz A240
       clear A240
       by_cases c25 : ((rd_T86 l0 a1).f1) > 0
       ·
        rw [if_pos c25] at H
        have c25b0 : decide (0 < ((rd_T86 l0 a1).f1)) = true := decide_eq_true c25
        clear c25
        replace H := kg.mp H
        obtain ⟨t267, A260, H⟩ := H
        replace H : (some t267) = some r := H
        have A26 := kz A260
        clear A260
        obtain rfl := ke H
        have hnb27 := qb.1
        have hnc27 := qm.1
        have hcz28_0 : wc.cell? ⟨gb252, 0, none⟩ = some (.int .i64 a2_0) := (zj zT.1 0).trans rfl
        have hcz28_1 : wc.cell? ⟨gb252, 1, none⟩ = some (.int .i64 a2_1) := (zj zT.1 1).trans rfl
        have hfz28_0 := zi zT.1 0
        have hfz28_1 := zi zT.1 1
        go_wp2_with (first | ((with_reducible refine zC (f := 95) rfl ?_); refine zO (some 31) rfl rfl Try.func95 (by kernel_rfl) rfl #[.agg #[.int .i64 a2_0, .int .i64 a2_1]] rfl (by (try simp only [kf, kb, kd]); rfl) ?_; (with_reducible refine (impl_Prefix_halves.calls a2_0 a2_1 t258 t259 t260 t261 _ A22.1).mono ?_); rintro e w29 ⟨rfl, hb⟩; refine ⟨_, rfl, ?_⟩; replace HO_3 := kz (zB HO_3.1 hb); replace zT := kz (zr (g := gb252) (o := .cells #[.int .i64 a2_0, .int .i64 a2_1] 37 (0, 0)) zT.1 hb); replace zS := kz (zr (g := gb254) (o := .cells #[.int .i64 ((rd_T86 l0 a1).f0), .int .i64 ((rd_T86 l0 a1).f1), .bool ((rd_T86 l0 a1).f2), .int .i64 ((rd_T86 l0 a1).f3)] 86 (0, 0)) zS.1 hb); replace HK := kz (zA (S := (fun k_ => P3_ k_)) HK.1 hb); replace HB := kz (zs HB.1 hb); (try clear hb); (try clear hb2); (try clear hk); (try clear hi)) | ((with_reducible refine zy (N := 10) rfl ?_); refine zw ?hg (N := 10) ?hd (cs := #[.int .i64 0, .int .i64 0]) (t := 37) ?hr ?_; (case hd => rfl); (case hg => rfl); (case hr => (go_simp; done)); intro gb262 hg w30 hbox hb; replace HO_3 := kz (zB HO_3.1 hb); have zU := kz hbox; have qc := kz ((by rw [hg]; exact (by exact HK.1.1) : w.heap.size ≤ gb262)); replace HK := kz (zA (S := (fun k_ => P3_ k_)) HK.1 hb); have qj := kz ((by rw [hg]; exact (zn HB.1) : w0.heap.size ≤ gb262)); replace HB := kz (zs HB.1 hb); have qd := kz ((by rw [hg]; exact kv (zv (g := gb252) (o := .cells #[.int .i64 a2_0, .int .i64 a2_1] 37 (0, 0)) zT.1) : gb252 ≠ gb262)); have qn := kz ((by rw [hg]; exact kh (zv (g := gb252) (o := .cells #[.int .i64 a2_0, .int .i64 a2_1] 37 (0, 0)) zT.1) : gb262 ≠ gb252)); replace zT := kz (zr (g := gb252) (o := .cells #[.int .i64 a2_0, .int .i64 a2_1] 37 (0, 0)) zT.1 hb); have qe := kz ((by rw [hg]; exact kv (zv (g := gb254) (o := .cells #[.int .i64 ((rd_T86 l0 a1).f0), .int .i64 ((rd_T86 l0 a1).f1), .bool ((rd_T86 l0 a1).f2), .int .i64 ((rd_T86 l0 a1).f3)] 86 (0, 0)) zS.1) : gb254 ≠ gb262)); have qo := kz ((by rw [hg]; exact kh (zv (g := gb254) (o := .cells #[.int .i64 ((rd_T86 l0 a1).f0), .int .i64 ((rd_T86 l0 a1).f1), .bool ((rd_T86 l0 a1).f2), .int .i64 ((rd_T86 l0 a1).f3)] 86 (0, 0)) zS.1) : gb262 ≠ gb254)); replace zS := kz (zr (g := gb254) (o := .cells #[.int .i64 ((rd_T86 l0 a1).f0), .int .i64 ((rd_T86 l0 a1).f1), .bool ((rd_T86 l0 a1).f2), .int .i64 ((rd_T86 l0 a1).f3)] 86 (0, 0)) zS.1 hb); clear hb hbox hg) | ((with_reducible refine zy (N := 11) rfl ?_); refine zw ?hg (N := 11) ?hd (cs := #[.int .i64 0, .int .i64 0]) (t := 37) ?hr ?_; (case hd => rfl); (case hg => rfl); (case hr => (go_simp; done)); intro gb263 hg w31 hbox hb; replace HO_3 := kz (zB HO_3.1 hb); have zV := kz hbox; have qk := kz ((by rw [hg]; exact (by exact HK.1.1) : w.heap.size ≤ gb263)); replace HK := kz (zA (S := (fun k_ => P3_ k_)) HK.1 hb); have qr := kz ((by rw [hg]; exact (zn HB.1) : w0.heap.size ≤ gb263)); replace HB := kz (zs HB.1 hb); have qf := kz ((by rw [hg]; exact kv (zv (g := gb252) (o := .cells #[.int .i64 a2_0, .int .i64 a2_1] 37 (0, 0)) zT.1) : gb252 ≠ gb263)); have qp := kz ((by rw [hg]; exact kh (zv (g := gb252) (o := .cells #[.int .i64 a2_0, .int .i64 a2_1] 37 (0, 0)) zT.1) : gb263 ≠ gb252)); replace zT := kz (zr (g := gb252) (o := .cells #[.int .i64 a2_0, .int .i64 a2_1] 37 (0, 0)) zT.1 hb); have qg := kz ((by rw [hg]; exact kv (zv (g := gb254) (o := .cells #[.int .i64 ((rd_T86 l0 a1).f0), .int .i64 ((rd_T86 l0 a1).f1), .bool ((rd_T86 l0 a1).f2), .int .i64 ((rd_T86 l0 a1).f3)] 86 (0, 0)) zS.1) : gb254 ≠ gb263)); have qq := kz ((by rw [hg]; exact kh (zv (g := gb254) (o := .cells #[.int .i64 ((rd_T86 l0 a1).f0), .int .i64 ((rd_T86 l0 a1).f1), .bool ((rd_T86 l0 a1).f2), .int .i64 ((rd_T86 l0 a1).f3)] 86 (0, 0)) zS.1) : gb263 ≠ gb254)); replace zS := kz (zr (g := gb254) (o := .cells #[.int .i64 ((rd_T86 l0 a1).f0), .int .i64 ((rd_T86 l0 a1).f1), .bool ((rd_T86 l0 a1).f2), .int .i64 ((rd_T86 l0 a1).f3)] 86 (0, 0)) zS.1 hb); have qh := kz ((by rw [hg]; exact kv (zv (g := gb262) (o := .cells #[.int .i64 0, .int .i64 0] 37 (0, 0)) zU.1) : gb262 ≠ gb263)); have qi := kz ((by rw [hg]; exact kh (zv (g := gb262) (o := .cells #[.int .i64 0, .int .i64 0] 37 (0, 0)) zU.1) : gb263 ≠ gb262)); replace zU := kz (zr (g := gb262) (o := .cells #[.int .i64 0, .int .i64 0] 37 (0, 0)) zU.1 hb); clear hb hbox hg; have hnb32 := qn.1; have hnc32 := qd.1; have hnb33 := qo.1; have hnc33 := qe.1; have hnb34 := qh.1; have hnc34 := qi.1; have hcz35_0 : w31.cell? ⟨gb262, 0, none⟩ = some (.int .i64 0) := (zj zU.1 0).trans rfl; have hcz35_1 : w31.cell? ⟨gb262, 1, none⟩ = some (.int .i64 0) := (zj zU.1 1).trans rfl; have hfz35_0 := zi zU.1 0; have hfz35_1 := zi zU.1 1) | ((with_reducible refine gate_store (t := 37) (p := 10) rfl ?_); refine store_event (t := 37) (p := 10) (v := ?vo_w36) (w1 := ((w31.setCell ⟨gb262, 0, none⟩ (.int .i64 t258)).setCell ⟨gb262, 1, none⟩ (.int .i64 t259))) ?hg ?ho ?hn ?hr ?_; (case ho => rfl); (case hg => rfl); (case hn => rfl); (case hr => (go_simp; done)); intro w36 hw; have n0_ : zt (Kd.R k39 39 w36 w0.heap.size (fun k_ => (P3_ k_ ∨ w.heap.size ≤ k_)) u3 x3_6) := ⟨(by rw [hw]; exact (by exact zD (zx (p := ⟨gb262, 1, none⟩) (zx (p := ⟨gb262, 0, none⟩) (zG HO_3.1 zU.1 (by decide)) (fun _ hk => hk.2) (.int .i64 t258)) (fun _ hk => hk.2) (.int .i64 t259)) (fun _ hk => hk.1)))⟩; have n1_ : zt (w36.heap[gb252]? = some (.cells #[.int .i64 a2_0, .int .i64 a2_1] 37 (0, 0))) := ⟨(by rw [hw]; exact (by refine zo ?_ qd.1 _; refine zo ?_ qd.1 _; exact zT.1))⟩; have n2_ : zt (w36.heap[gb254]? = some (.cells #[.int .i64 ((rd_T86 l0 a1).f0), .int .i64 ((rd_T86 l0 a1).f1), .bool ((rd_T86 l0 a1).f2), .int .i64 ((rd_T86 l0 a1).f3)] 86 (0, 0))) := ⟨(by rw [hw]; exact (by refine zo ?_ qe.1 _; refine zo ?_ qe.1 _; exact zS.1))⟩; have n3_ : zt (w36.heap[gb262]? = some (.cells #[.int .i64 t258, .int .i64 t259] 37 (0, 0))) := ⟨(by rw [hw]; exact (by refine zz (cs := #[.int .i64 t258, .int .i64 0]) ?_ 1 _ rfl; refine zz (cs := #[.int .i64 0, .int .i64 0]) ?_ 0 _ rfl; exact zU.1))⟩; have n4_ : zt (w36.heap[gb263]? = some (.cells #[.int .i64 0, .int .i64 0] 37 (0, 0))) := ⟨(by rw [hw]; exact (by refine zo ?_ qi.1 _; refine zo ?_ qi.1 _; exact zV.1))⟩; have n5_ : zt (Kept w w36 (fun k_ => P3_ k_)) := ⟨(by rw [hw]; exact (by repeat ((with_reducible first | exact HK.1 | refine za ?_ (.inr qc.1) _))))⟩; have n6_ : zt (Below w0.heap.size w0 w36) := ⟨(by rw [hw]; exact (by repeat ((with_reducible first | exact HB.1 | refine zf ?_ qj.1))))⟩; clear hw HO_3 zT zS zU zV HK HB; have HO_3 := n0_; have zT := n1_; have zS := n2_; have zU := n3_; have zV := n4_; have HK := n5_; have HB := n6_; clear n0_ n1_ n2_ n3_ n4_ n5_ n6_; have hnb37 := qp.1; have hnc37 := qf.1; have hnb38 := qq.1; have hnc38 := qg.1; have hcz39_0 : w36.cell? ⟨gb263, 0, none⟩ = some (.int .i64 0) := (zj zV.1 0).trans rfl; have hcz39_1 : w36.cell? ⟨gb263, 1, none⟩ = some (.int .i64 0) := (zj zV.1 1).trans rfl; have hfz39_0 := zi zV.1 0; have hfz39_1 := zi zV.1 1) | ((with_reducible refine gate_store (t := 37) (p := 11) rfl ?_); refine store_event (t := 37) (p := 11) (v := ?vo_w40) (w1 := ((w36.setCell ⟨gb263, 0, none⟩ (.int .i64 t260)).setCell ⟨gb263, 1, none⟩ (.int .i64 t261))) ?hg ?ho ?hn ?hr ?_; (case ho => rfl); (case hg => rfl); (case hn => rfl); (case hr => (go_simp; done)); intro w40 hw; have n0_ : zt (Kd.R k39 39 w40 w0.heap.size (fun k_ => (P3_ k_ ∨ w.heap.size ≤ k_)) u3 x3_6) := ⟨(by rw [hw]; exact (by exact zD (zx (p := ⟨gb263, 1, none⟩) (zx (p := ⟨gb263, 0, none⟩) (zG HO_3.1 zV.1 (by decide)) (fun _ hk => hk.2) (.int .i64 t260)) (fun _ hk => hk.2) (.int .i64 t261)) (fun _ hk => hk.1)))⟩; have n1_ : zt (w40.heap[gb252]? = some (.cells #[.int .i64 a2_0, .int .i64 a2_1] 37 (0, 0))) := ⟨(by rw [hw]; exact (by refine zo ?_ qf.1 _; refine zo ?_ qf.1 _; exact zT.1))⟩; have n2_ : zt (w40.heap[gb254]? = some (.cells #[.int .i64 ((rd_T86 l0 a1).f0), .int .i64 ((rd_T86 l0 a1).f1), .bool ((rd_T86 l0 a1).f2), .int .i64 ((rd_T86 l0 a1).f3)] 86 (0, 0))) := ⟨(by rw [hw]; exact (by refine zo ?_ qg.1 _; refine zo ?_ qg.1 _; exact zS.1))⟩; have n3_ : zt (w40.heap[gb262]? = some (.cells #[.int .i64 t258, .int .i64 t259] 37 (0, 0))) := ⟨(by rw [hw]; exact (by refine zo ?_ qh.1 _; refine zo ?_ qh.1 _; exact zU.1))⟩; have n4_ : zt (w40.heap[gb263]? = some (.cells #[.int .i64 t260, .int .i64 t261] 37 (0, 0))) := ⟨(by rw [hw]; exact (by refine zz (cs := #[.int .i64 t260, .int .i64 0]) ?_ 1 _ rfl; refine zz (cs := #[.int .i64 0, .int .i64 0]) ?_ 0 _ rfl; exact zV.1))⟩; have n5_ : zt (Kept w w40 (fun k_ => P3_ k_)) := ⟨(by rw [hw]; exact (by repeat ((with_reducible first | exact HK.1 | refine za ?_ (.inr qk.1) _))))⟩; have n6_ : zt (Below w0.heap.size w0 w40) := ⟨(by rw [hw]; exact (by repeat ((with_reducible first | exact HB.1 | refine zf ?_ qr.1))))⟩; clear hw HO_3 zT zS zU zV HK HB; have HO_3 := n0_; have zT := n1_; have zS := n2_; have zU := n3_; have zV := n4_; have HK := n5_; have HB := n6_; clear n0_ n1_ n2_ n3_ n4_ n5_ n6_; have hcz41_0 : w40.cell? ⟨gb254, 0, none⟩ = some (.int .i64 ((rd_T86 l0 a1).f0)) := (zj zS.1 0).trans rfl; have hcz41_1 : w40.cell? ⟨gb254, 1, none⟩ = some (.int .i64 ((rd_T86 l0 a1).f1)) := (zj zS.1 1).trans rfl; have hcz41_2 : w40.cell? ⟨gb254, 2, none⟩ = some (.bool ((rd_T86 l0 a1).f2)) := (zj zS.1 2).trans rfl; have hcz41_3 : w40.cell? ⟨gb254, 3, none⟩ = some (.int .i64 ((rd_T86 l0 a1).f3)) := (zj zS.1 3).trans rfl; have hfz41_0 := zi zS.1 0; have hfz41_1 := zi zS.1 1; have hfz41_2 := zi zS.1 2; have hfz41_3 := zi zS.1 3; have hcz42_0 : w40.cell? ⟨gb262, 0, none⟩ = some (.int .i64 t258) := (zj zU.1 0).trans rfl; have hcz42_1 : w40.cell? ⟨gb262, 1, none⟩ = some (.int .i64 t259) := (zj zU.1 1).trans rfl; have hfz42_0 := zi zU.1 0; have hfz42_1 := zi zU.1 1; obtain ⟨Ao43, co43, eo43⟩ := Kd.R_slice HO_3.1; subst eo43) | ((with_reducible refine zC (f := 73) rfl ?_); refine zO (some 42) rfl rfl kr (by kernel_rfl) rfl #[.slice (some ad253) l0.length c0, .int .i64 ((rd_T86 l0 a1).f0), .agg #[.int .i64 t258, .int .i64 t259], .slice Ao43 x3_6.length co43] rfl (by (try simp only [kf, kb, kd]); rfl) ?_; (with_reducible refine (ih kj6 (by have := HJ6.1; omega) _ _ l0 ((rd_T86 l0 a1).f0) t258 t259 (fun k_ => some k_ = (.slice Ao43 x3_6.length co43 : Value).ownBlock) (.slice Ao43 x3_6.length co43) x3_6 t264 w0 _ ?side1 ?side2 ?side3 ?side4 A24.1).mono ?_); (case side1 => repeat (with_reducible exact HB.1)); (case side2 => exact Kd.C_kept_call HR0.1 HK.1 (fun k_ hs_ => (fun e_ => (HO_3.1.1 k_ e_.symm)) hs_)); (case side3 => exact HC0.1); (case side4 => exact Kd.R_tight rfl HO_3.1); rintro e w44 ⟨v265, rfl, ho0, hb, hkp⟩; refine ⟨_, rfl, ?_⟩; replace zT := kz (zE zT.1 hkp (fun hs_ => (fun e_ => (zF HO_3.1 zT.1 (by decide)) e_) hs_)); replace zS := kz (zE zS.1 hkp (fun hs_ => (fun e_ => (zF HO_3.1 zS.1 (by decide)) e_) hs_)); replace zU := kz (zE zU.1 hkp (fun hs_ => (fun e_ => (zF HO_3.1 zU.1 (by decide)) e_) hs_)); replace zV := kz (zE zV.1 hkp (fun hs_ => (fun e_ => (zF HO_3.1 zV.1 (by decide)) e_) hs_)); have qx := kz (zD (ok' := fun k_ => (P3_ k_ ∨ w.heap.size ≤ k_)) ho0 (fun k_ hk_ => Or.elim hk_ (fun hs_ => (HO_3.1.1 k_ (hs_).symm)) (fun hn_ => (.inr (ks (by exact HK.1.1) hn_))))); replace HK := kz (Kept.then_ (S := (fun k_ => P3_ k_)) HK.1 hkp (fun k_ hs_ => (fun e_ => (HO_3.1.1 k_ e_.symm)) hs_)); replace HB := kz hb; (try clear hb); (try clear hkp); (try clear ho0); have hcz45_0 : w44.cell? ⟨gb254, 0, none⟩ = some (.int .i64 ((rd_T86 l0 a1).f0)) := (zj zS.1 0).trans rfl; have hcz45_1 : w44.cell? ⟨gb254, 1, none⟩ = some (.int .i64 ((rd_T86 l0 a1).f1)) := (zj zS.1 1).trans rfl; have hcz45_2 : w44.cell? ⟨gb254, 2, none⟩ = some (.bool ((rd_T86 l0 a1).f2)) := (zj zS.1 2).trans rfl; have hcz45_3 : w44.cell? ⟨gb254, 3, none⟩ = some (.int .i64 ((rd_T86 l0 a1).f3)) := (zj zS.1 3).trans rfl; have hfz45_0 := zi zS.1 0; have hfz45_1 := zi zS.1 1; have hfz45_2 := zi zS.1 2; have hfz45_3 := zi zS.1 3; have hcz46_0 : w44.cell? ⟨gb263, 0, none⟩ = some (.int .i64 t260) := (zj zV.1 0).trans rfl; have hcz46_1 : w44.cell? ⟨gb263, 1, none⟩ = some (.int .i64 t261) := (zj zV.1 1).trans rfl; have hfz46_0 := zi zV.1 0; have hfz46_1 := zi zV.1 1; obtain ⟨Ao47, co47, eo47⟩ := Kd.R_slice qx.1; subst eo47) | ((with_reducible refine zC (f := 73) rfl ?_); refine zO (some 51) rfl rfl kr (by kernel_rfl) rfl #[.slice (some ad253) l0.length c0, .int .i64 ((rd_T86 l0 a1).f1), .agg #[.int .i64 t260, .int .i64 t261], .slice Ao47 t264.length co47] rfl (by (try simp only [kf, kb, kd]); rfl) ?_; (with_reducible refine (ih kj6 (by have := HJ6.1; omega) _ _ l0 ((rd_T86 l0 a1).f1) t260 t261 (fun k_ => some k_ = (.slice Ao47 t264.length co47 : Value).ownBlock) (.slice Ao47 t264.length co47) t264 t267 w0 _ ?side1 ?side2 ?side3 ?side4 A26.1).mono ?_); (case side1 => repeat (with_reducible exact HB.1)); (case side2 => exact Kd.C_kept_call HR0.1 HK.1 (fun k_ hs_ => (fun e_ => (qx.1.1 k_ e_.symm)) hs_)); (case side3 => exact HC0.1); (case side4 => exact Kd.R_tight rfl qx.1); rintro e w48 ⟨v268, rfl, ho0, hb, hkp⟩; refine ⟨_, rfl, ?_⟩; replace zT := kz (zE zT.1 hkp (fun hs_ => (fun e_ => (zF qx.1 zT.1 (by decide)) e_) hs_)); replace zS := kz (zE zS.1 hkp (fun hs_ => (fun e_ => (zF qx.1 zS.1 (by decide)) e_) hs_)); replace zU := kz (zE zU.1 hkp (fun hs_ => (fun e_ => (zF qx.1 zU.1 (by decide)) e_) hs_)); replace zV := kz (zE zV.1 hkp (fun hs_ => (fun e_ => (zF qx.1 zV.1 (by decide)) e_) hs_)); have HO269 := kz (zD (ok' := fun k_ => (P3_ k_ ∨ w.heap.size ≤ k_)) ho0 (fun k_ hk_ => Or.elim hk_ (fun hs_ => (qx.1.1 k_ (hs_).symm)) (fun hn_ => (.inr (ks (by exact HK.1.1) hn_))))); replace HK := kz (Kept.then_ (S := (fun k_ => P3_ k_)) HK.1 hkp (fun k_ hs_ => (fun e_ => (qx.1.1 k_ e_.symm)) hs_)); replace HB := kz hb; (try clear hb); (try clear hkp); (try clear ho0)))
        go_ret
        exact ⟨_, by rfl, by exact HO269.1, by exact HB.1, by exact HK.1⟩
       ·
        rw [if_neg c25] at H
        have c25b0 : decide (0 < ((rd_T86 l0 a1).f1)) = false := decide_eq_false c25
        clear c25
        obtain rfl := ke H
        have hnb49 := qb.1
        have hnc49 := qm.1
        have hcz50_0 : wc.cell? ⟨gb252, 0, none⟩ = some (.int .i64 a2_0) := (zj zT.1 0).trans rfl
        have hcz50_1 : wc.cell? ⟨gb252, 1, none⟩ = some (.int .i64 a2_1) := (zj zT.1 1).trans rfl
        have hfz50_0 := zi zT.1 0
        have hfz50_1 := zi zT.1 1
        go_wp2_with (first | ((with_reducible refine zC (f := 95) rfl ?_); refine zO (some 31) rfl rfl Try.func95 (by kernel_rfl) rfl #[.agg #[.int .i64 a2_0, .int .i64 a2_1]] rfl (by (try simp only [kf, kb, kd]); rfl) ?_; (with_reducible refine (impl_Prefix_halves.calls a2_0 a2_1 t258 t259 t260 t261 _ A22.1).mono ?_); rintro e w51 ⟨rfl, hb⟩; refine ⟨_, rfl, ?_⟩; replace HO_3 := kz (zB HO_3.1 hb); replace zT := kz (zr (g := gb252) (o := .cells #[.int .i64 a2_0, .int .i64 a2_1] 37 (0, 0)) zT.1 hb); replace zS := kz (zr (g := gb254) (o := .cells #[.int .i64 ((rd_T86 l0 a1).f0), .int .i64 ((rd_T86 l0 a1).f1), .bool ((rd_T86 l0 a1).f2), .int .i64 ((rd_T86 l0 a1).f3)] 86 (0, 0)) zS.1 hb); replace HK := kz (zA (S := (fun k_ => P3_ k_)) HK.1 hb); replace HB := kz (zs HB.1 hb); (try clear hb); (try clear hb2); (try clear hk); (try clear hi)) | ((with_reducible refine zy (N := 10) rfl ?_); refine zw ?hg (N := 10) ?hd (cs := #[.int .i64 0, .int .i64 0]) (t := 37) ?hr ?_; (case hd => rfl); (case hg => rfl); (case hr => (go_simp; done)); intro gb262 hg w52 hbox hb; replace HO_3 := kz (zB HO_3.1 hb); have zU := kz hbox; have qc := kz ((by rw [hg]; exact (by exact HK.1.1) : w.heap.size ≤ gb262)); replace HK := kz (zA (S := (fun k_ => P3_ k_)) HK.1 hb); have qj := kz ((by rw [hg]; exact (zn HB.1) : w0.heap.size ≤ gb262)); replace HB := kz (zs HB.1 hb); have qd := kz ((by rw [hg]; exact kv (zv (g := gb252) (o := .cells #[.int .i64 a2_0, .int .i64 a2_1] 37 (0, 0)) zT.1) : gb252 ≠ gb262)); have qn := kz ((by rw [hg]; exact kh (zv (g := gb252) (o := .cells #[.int .i64 a2_0, .int .i64 a2_1] 37 (0, 0)) zT.1) : gb262 ≠ gb252)); replace zT := kz (zr (g := gb252) (o := .cells #[.int .i64 a2_0, .int .i64 a2_1] 37 (0, 0)) zT.1 hb); have qe := kz ((by rw [hg]; exact kv (zv (g := gb254) (o := .cells #[.int .i64 ((rd_T86 l0 a1).f0), .int .i64 ((rd_T86 l0 a1).f1), .bool ((rd_T86 l0 a1).f2), .int .i64 ((rd_T86 l0 a1).f3)] 86 (0, 0)) zS.1) : gb254 ≠ gb262)); have qo := kz ((by rw [hg]; exact kh (zv (g := gb254) (o := .cells #[.int .i64 ((rd_T86 l0 a1).f0), .int .i64 ((rd_T86 l0 a1).f1), .bool ((rd_T86 l0 a1).f2), .int .i64 ((rd_T86 l0 a1).f3)] 86 (0, 0)) zS.1) : gb262 ≠ gb254)); replace zS := kz (zr (g := gb254) (o := .cells #[.int .i64 ((rd_T86 l0 a1).f0), .int .i64 ((rd_T86 l0 a1).f1), .bool ((rd_T86 l0 a1).f2), .int .i64 ((rd_T86 l0 a1).f3)] 86 (0, 0)) zS.1 hb); clear hb hbox hg) | ((with_reducible refine zy (N := 11) rfl ?_); refine zw ?hg (N := 11) ?hd (cs := #[.int .i64 0, .int .i64 0]) (t := 37) ?hr ?_; (case hd => rfl); (case hg => rfl); (case hr => (go_simp; done)); intro gb263 hg w53 hbox hb; replace HO_3 := kz (zB HO_3.1 hb); have zV := kz hbox; have qk := kz ((by rw [hg]; exact (by exact HK.1.1) : w.heap.size ≤ gb263)); replace HK := kz (zA (S := (fun k_ => P3_ k_)) HK.1 hb); have qr := kz ((by rw [hg]; exact (zn HB.1) : w0.heap.size ≤ gb263)); replace HB := kz (zs HB.1 hb); have qf := kz ((by rw [hg]; exact kv (zv (g := gb252) (o := .cells #[.int .i64 a2_0, .int .i64 a2_1] 37 (0, 0)) zT.1) : gb252 ≠ gb263)); have qp := kz ((by rw [hg]; exact kh (zv (g := gb252) (o := .cells #[.int .i64 a2_0, .int .i64 a2_1] 37 (0, 0)) zT.1) : gb263 ≠ gb252)); replace zT := kz (zr (g := gb252) (o := .cells #[.int .i64 a2_0, .int .i64 a2_1] 37 (0, 0)) zT.1 hb); have qg := kz ((by rw [hg]; exact kv (zv (g := gb254) (o := .cells #[.int .i64 ((rd_T86 l0 a1).f0), .int .i64 ((rd_T86 l0 a1).f1), .bool ((rd_T86 l0 a1).f2), .int .i64 ((rd_T86 l0 a1).f3)] 86 (0, 0)) zS.1) : gb254 ≠ gb263)); have qq := kz ((by rw [hg]; exact kh (zv (g := gb254) (o := .cells #[.int .i64 ((rd_T86 l0 a1).f0), .int .i64 ((rd_T86 l0 a1).f1), .bool ((rd_T86 l0 a1).f2), .int .i64 ((rd_T86 l0 a1).f3)] 86 (0, 0)) zS.1) : gb263 ≠ gb254)); replace zS := kz (zr (g := gb254) (o := .cells #[.int .i64 ((rd_T86 l0 a1).f0), .int .i64 ((rd_T86 l0 a1).f1), .bool ((rd_T86 l0 a1).f2), .int .i64 ((rd_T86 l0 a1).f3)] 86 (0, 0)) zS.1 hb); have qh := kz ((by rw [hg]; exact kv (zv (g := gb262) (o := .cells #[.int .i64 0, .int .i64 0] 37 (0, 0)) zU.1) : gb262 ≠ gb263)); have qi := kz ((by rw [hg]; exact kh (zv (g := gb262) (o := .cells #[.int .i64 0, .int .i64 0] 37 (0, 0)) zU.1) : gb263 ≠ gb262)); replace zU := kz (zr (g := gb262) (o := .cells #[.int .i64 0, .int .i64 0] 37 (0, 0)) zU.1 hb); clear hb hbox hg; have hnb54 := qn.1; have hnc54 := qd.1; have hnb55 := qo.1; have hnc55 := qe.1; have hnb56 := qh.1; have hnc56 := qi.1; have hcz57_0 : w53.cell? ⟨gb262, 0, none⟩ = some (.int .i64 0) := (zj zU.1 0).trans rfl; have hcz57_1 : w53.cell? ⟨gb262, 1, none⟩ = some (.int .i64 0) := (zj zU.1 1).trans rfl; have hfz57_0 := zi zU.1 0; have hfz57_1 := zi zU.1 1) | ((with_reducible refine gate_store (t := 37) (p := 10) rfl ?_); refine store_event (t := 37) (p := 10) (v := ?vo_w58) (w1 := ((w53.setCell ⟨gb262, 0, none⟩ (.int .i64 t258)).setCell ⟨gb262, 1, none⟩ (.int .i64 t259))) ?hg ?ho ?hn ?hr ?_; (case ho => rfl); (case hg => rfl); (case hn => rfl); (case hr => (go_simp; done)); intro w58 hw; have n0_ : zt (Kd.R k39 39 w58 w0.heap.size (fun k_ => (P3_ k_ ∨ w.heap.size ≤ k_)) u3 x3_6) := ⟨(by rw [hw]; exact (by exact zD (zx (p := ⟨gb262, 1, none⟩) (zx (p := ⟨gb262, 0, none⟩) (zG HO_3.1 zU.1 (by decide)) (fun _ hk => hk.2) (.int .i64 t258)) (fun _ hk => hk.2) (.int .i64 t259)) (fun _ hk => hk.1)))⟩; have n1_ : zt (w58.heap[gb252]? = some (.cells #[.int .i64 a2_0, .int .i64 a2_1] 37 (0, 0))) := ⟨(by rw [hw]; exact (by refine zo ?_ qd.1 _; refine zo ?_ qd.1 _; exact zT.1))⟩; have n2_ : zt (w58.heap[gb254]? = some (.cells #[.int .i64 ((rd_T86 l0 a1).f0), .int .i64 ((rd_T86 l0 a1).f1), .bool ((rd_T86 l0 a1).f2), .int .i64 ((rd_T86 l0 a1).f3)] 86 (0, 0))) := ⟨(by rw [hw]; exact (by refine zo ?_ qe.1 _; refine zo ?_ qe.1 _; exact zS.1))⟩; have n3_ : zt (w58.heap[gb262]? = some (.cells #[.int .i64 t258, .int .i64 t259] 37 (0, 0))) := ⟨(by rw [hw]; exact (by refine zz (cs := #[.int .i64 t258, .int .i64 0]) ?_ 1 _ rfl; refine zz (cs := #[.int .i64 0, .int .i64 0]) ?_ 0 _ rfl; exact zU.1))⟩; have n4_ : zt (w58.heap[gb263]? = some (.cells #[.int .i64 0, .int .i64 0] 37 (0, 0))) := ⟨(by rw [hw]; exact (by refine zo ?_ qi.1 _; refine zo ?_ qi.1 _; exact zV.1))⟩; have n5_ : zt (Kept w w58 (fun k_ => P3_ k_)) := ⟨(by rw [hw]; exact (by repeat ((with_reducible first | exact HK.1 | refine za ?_ (.inr qc.1) _))))⟩; have n6_ : zt (Below w0.heap.size w0 w58) := ⟨(by rw [hw]; exact (by repeat ((with_reducible first | exact HB.1 | refine zf ?_ qj.1))))⟩; clear hw HO_3 zT zS zU zV HK HB; have HO_3 := n0_; have zT := n1_; have zS := n2_; have zU := n3_; have zV := n4_; have HK := n5_; have HB := n6_; clear n0_ n1_ n2_ n3_ n4_ n5_ n6_; have hnb59 := qp.1; have hnc59 := qf.1; have hnb60 := qq.1; have hnc60 := qg.1; have hcz61_0 : w58.cell? ⟨gb263, 0, none⟩ = some (.int .i64 0) := (zj zV.1 0).trans rfl; have hcz61_1 : w58.cell? ⟨gb263, 1, none⟩ = some (.int .i64 0) := (zj zV.1 1).trans rfl; have hfz61_0 := zi zV.1 0; have hfz61_1 := zi zV.1 1) | ((with_reducible refine gate_store (t := 37) (p := 11) rfl ?_); refine store_event (t := 37) (p := 11) (v := ?vo_w62) (w1 := ((w58.setCell ⟨gb263, 0, none⟩ (.int .i64 t260)).setCell ⟨gb263, 1, none⟩ (.int .i64 t261))) ?hg ?ho ?hn ?hr ?_; (case ho => rfl); (case hg => rfl); (case hn => rfl); (case hr => (go_simp; done)); intro w62 hw; have n0_ : zt (Kd.R k39 39 w62 w0.heap.size (fun k_ => (P3_ k_ ∨ w.heap.size ≤ k_)) u3 x3_6) := ⟨(by rw [hw]; exact (by exact zD (zx (p := ⟨gb263, 1, none⟩) (zx (p := ⟨gb263, 0, none⟩) (zG HO_3.1 zV.1 (by decide)) (fun _ hk => hk.2) (.int .i64 t260)) (fun _ hk => hk.2) (.int .i64 t261)) (fun _ hk => hk.1)))⟩; have n1_ : zt (w62.heap[gb252]? = some (.cells #[.int .i64 a2_0, .int .i64 a2_1] 37 (0, 0))) := ⟨(by rw [hw]; exact (by refine zo ?_ qf.1 _; refine zo ?_ qf.1 _; exact zT.1))⟩; have n2_ : zt (w62.heap[gb254]? = some (.cells #[.int .i64 ((rd_T86 l0 a1).f0), .int .i64 ((rd_T86 l0 a1).f1), .bool ((rd_T86 l0 a1).f2), .int .i64 ((rd_T86 l0 a1).f3)] 86 (0, 0))) := ⟨(by rw [hw]; exact (by refine zo ?_ qg.1 _; refine zo ?_ qg.1 _; exact zS.1))⟩; have n3_ : zt (w62.heap[gb262]? = some (.cells #[.int .i64 t258, .int .i64 t259] 37 (0, 0))) := ⟨(by rw [hw]; exact (by refine zo ?_ qh.1 _; refine zo ?_ qh.1 _; exact zU.1))⟩; have n4_ : zt (w62.heap[gb263]? = some (.cells #[.int .i64 t260, .int .i64 t261] 37 (0, 0))) := ⟨(by rw [hw]; exact (by refine zz (cs := #[.int .i64 t260, .int .i64 0]) ?_ 1 _ rfl; refine zz (cs := #[.int .i64 0, .int .i64 0]) ?_ 0 _ rfl; exact zV.1))⟩; have n5_ : zt (Kept w w62 (fun k_ => P3_ k_)) := ⟨(by rw [hw]; exact (by repeat ((with_reducible first | exact HK.1 | refine za ?_ (.inr qk.1) _))))⟩; have n6_ : zt (Below w0.heap.size w0 w62) := ⟨(by rw [hw]; exact (by repeat ((with_reducible first | exact HB.1 | refine zf ?_ qr.1))))⟩; clear hw HO_3 zT zS zU zV HK HB; have HO_3 := n0_; have zT := n1_; have zS := n2_; have zU := n3_; have zV := n4_; have HK := n5_; have HB := n6_; clear n0_ n1_ n2_ n3_ n4_ n5_ n6_; have hcz63_0 : w62.cell? ⟨gb254, 0, none⟩ = some (.int .i64 ((rd_T86 l0 a1).f0)) := (zj zS.1 0).trans rfl; have hcz63_1 : w62.cell? ⟨gb254, 1, none⟩ = some (.int .i64 ((rd_T86 l0 a1).f1)) := (zj zS.1 1).trans rfl; have hcz63_2 : w62.cell? ⟨gb254, 2, none⟩ = some (.bool ((rd_T86 l0 a1).f2)) := (zj zS.1 2).trans rfl; have hcz63_3 : w62.cell? ⟨gb254, 3, none⟩ = some (.int .i64 ((rd_T86 l0 a1).f3)) := (zj zS.1 3).trans rfl; have hfz63_0 := zi zS.1 0; have hfz63_1 := zi zS.1 1; have hfz63_2 := zi zS.1 2; have hfz63_3 := zi zS.1 3; have hcz64_0 : w62.cell? ⟨gb262, 0, none⟩ = some (.int .i64 t258) := (zj zU.1 0).trans rfl; have hcz64_1 : w62.cell? ⟨gb262, 1, none⟩ = some (.int .i64 t259) := (zj zU.1 1).trans rfl; have hfz64_0 := zi zU.1 0; have hfz64_1 := zi zU.1 1; obtain ⟨Ao65, co65, eo65⟩ := Kd.R_slice HO_3.1; subst eo65) | ((with_reducible refine zC (f := 73) rfl ?_); refine zO (some 42) rfl rfl kr (by kernel_rfl) rfl #[.slice (some ad253) l0.length c0, .int .i64 ((rd_T86 l0 a1).f0), .agg #[.int .i64 t258, .int .i64 t259], .slice Ao65 x3_6.length co65] rfl (by (try simp only [kf, kb, kd]); rfl) ?_; (with_reducible refine (ih kj6 (by have := HJ6.1; omega) _ _ l0 ((rd_T86 l0 a1).f0) t258 t259 (fun k_ => some k_ = (.slice Ao65 x3_6.length co65 : Value).ownBlock) (.slice Ao65 x3_6.length co65) x3_6 t264 w0 _ ?side1 ?side2 ?side3 ?side4 A24.1).mono ?_); (case side1 => repeat (with_reducible exact HB.1)); (case side2 => exact Kd.C_kept_call HR0.1 HK.1 (fun k_ hs_ => (fun e_ => (HO_3.1.1 k_ e_.symm)) hs_)); (case side3 => exact HC0.1); (case side4 => exact Kd.R_tight rfl HO_3.1); rintro e w66 ⟨v265, rfl, ho0, hb, hkp⟩; refine ⟨_, rfl, ?_⟩; replace zT := kz (zE zT.1 hkp (fun hs_ => (fun e_ => (zF HO_3.1 zT.1 (by decide)) e_) hs_)); replace zS := kz (zE zS.1 hkp (fun hs_ => (fun e_ => (zF HO_3.1 zS.1 (by decide)) e_) hs_)); replace zU := kz (zE zU.1 hkp (fun hs_ => (fun e_ => (zF HO_3.1 zU.1 (by decide)) e_) hs_)); replace zV := kz (zE zV.1 hkp (fun hs_ => (fun e_ => (zF HO_3.1 zV.1 (by decide)) e_) hs_)); have qx := kz (zD (ok' := fun k_ => (P3_ k_ ∨ w.heap.size ≤ k_)) ho0 (fun k_ hk_ => Or.elim hk_ (fun hs_ => (HO_3.1.1 k_ (hs_).symm)) (fun hn_ => (.inr (ks (by exact HK.1.1) hn_))))); replace HK := kz (Kept.then_ (S := (fun k_ => P3_ k_)) HK.1 hkp (fun k_ hs_ => (fun e_ => (HO_3.1.1 k_ e_.symm)) hs_)); replace HB := kz hb; (try clear hb); (try clear hkp); (try clear ho0); have hcz67_0 : w66.cell? ⟨gb254, 0, none⟩ = some (.int .i64 ((rd_T86 l0 a1).f0)) := (zj zS.1 0).trans rfl; have hcz67_1 : w66.cell? ⟨gb254, 1, none⟩ = some (.int .i64 ((rd_T86 l0 a1).f1)) := (zj zS.1 1).trans rfl; have hcz67_2 : w66.cell? ⟨gb254, 2, none⟩ = some (.bool ((rd_T86 l0 a1).f2)) := (zj zS.1 2).trans rfl; have hcz67_3 : w66.cell? ⟨gb254, 3, none⟩ = some (.int .i64 ((rd_T86 l0 a1).f3)) := (zj zS.1 3).trans rfl; have hfz67_0 := zi zS.1 0; have hfz67_1 := zi zS.1 1; have hfz67_2 := zi zS.1 2; have hfz67_3 := zi zS.1 3))
        go_ret
        exact ⟨_, by rfl, by exact qx.1, by exact HB.1, by exact HK.1⟩
      ·
       rw [if_neg c23] at H
       have c23b0 : decide (0 < ((rd_T86 l0 a1).f0)) = false := decide_eq_false c23
       clear c23
       by_cases c68 : ((rd_T86 l0 a1).f1) > 0
       ·
        rw [if_pos c68] at H
        have c68b0 : decide (0 < ((rd_T86 l0 a1).f1)) = true := decide_eq_true c68
        clear c68
        replace H := kg.mp H
        obtain ⟨t270, A690, H⟩ := H
        replace H : (some t270) = some r := H
        have A69 := kz A690
        clear A690
        obtain rfl := ke H
        have hnb70 := qb.1
        have hnc70 := qm.1
        have hcz71_0 : wc.cell? ⟨gb252, 0, none⟩ = some (.int .i64 a2_0) := (zj zT.1 0).trans rfl
        have hcz71_1 : wc.cell? ⟨gb252, 1, none⟩ = some (.int .i64 a2_1) := (zj zT.1 1).trans rfl
        have hfz71_0 := zi zT.1 0
        have hfz71_1 := zi zT.1 1
        go_wp2_with (first | ((with_reducible refine zC (f := 95) rfl ?_); refine zO (some 31) rfl rfl Try.func95 (by kernel_rfl) rfl #[.agg #[.int .i64 a2_0, .int .i64 a2_1]] rfl (by (try simp only [kf, kb, kd]); rfl) ?_; (with_reducible refine (impl_Prefix_halves.calls a2_0 a2_1 t258 t259 t260 t261 _ A22.1).mono ?_); rintro e w72 ⟨rfl, hb⟩; refine ⟨_, rfl, ?_⟩; replace HO_3 := kz (zB HO_3.1 hb); replace zT := kz (zr (g := gb252) (o := .cells #[.int .i64 a2_0, .int .i64 a2_1] 37 (0, 0)) zT.1 hb); replace zS := kz (zr (g := gb254) (o := .cells #[.int .i64 ((rd_T86 l0 a1).f0), .int .i64 ((rd_T86 l0 a1).f1), .bool ((rd_T86 l0 a1).f2), .int .i64 ((rd_T86 l0 a1).f3)] 86 (0, 0)) zS.1 hb); replace HK := kz (zA (S := (fun k_ => P3_ k_)) HK.1 hb); replace HB := kz (zs HB.1 hb); (try clear hb); (try clear hb2); (try clear hk); (try clear hi)) | ((with_reducible refine zy (N := 10) rfl ?_); refine zw ?hg (N := 10) ?hd (cs := #[.int .i64 0, .int .i64 0]) (t := 37) ?hr ?_; (case hd => rfl); (case hg => rfl); (case hr => (go_simp; done)); intro gb262 hg w73 hbox hb; replace HO_3 := kz (zB HO_3.1 hb); have zU := kz hbox; have qc := kz ((by rw [hg]; exact (by exact HK.1.1) : w.heap.size ≤ gb262)); replace HK := kz (zA (S := (fun k_ => P3_ k_)) HK.1 hb); have qj := kz ((by rw [hg]; exact (zn HB.1) : w0.heap.size ≤ gb262)); replace HB := kz (zs HB.1 hb); have qd := kz ((by rw [hg]; exact kv (zv (g := gb252) (o := .cells #[.int .i64 a2_0, .int .i64 a2_1] 37 (0, 0)) zT.1) : gb252 ≠ gb262)); have qn := kz ((by rw [hg]; exact kh (zv (g := gb252) (o := .cells #[.int .i64 a2_0, .int .i64 a2_1] 37 (0, 0)) zT.1) : gb262 ≠ gb252)); replace zT := kz (zr (g := gb252) (o := .cells #[.int .i64 a2_0, .int .i64 a2_1] 37 (0, 0)) zT.1 hb); have qe := kz ((by rw [hg]; exact kv (zv (g := gb254) (o := .cells #[.int .i64 ((rd_T86 l0 a1).f0), .int .i64 ((rd_T86 l0 a1).f1), .bool ((rd_T86 l0 a1).f2), .int .i64 ((rd_T86 l0 a1).f3)] 86 (0, 0)) zS.1) : gb254 ≠ gb262)); have qo := kz ((by rw [hg]; exact kh (zv (g := gb254) (o := .cells #[.int .i64 ((rd_T86 l0 a1).f0), .int .i64 ((rd_T86 l0 a1).f1), .bool ((rd_T86 l0 a1).f2), .int .i64 ((rd_T86 l0 a1).f3)] 86 (0, 0)) zS.1) : gb262 ≠ gb254)); replace zS := kz (zr (g := gb254) (o := .cells #[.int .i64 ((rd_T86 l0 a1).f0), .int .i64 ((rd_T86 l0 a1).f1), .bool ((rd_T86 l0 a1).f2), .int .i64 ((rd_T86 l0 a1).f3)] 86 (0, 0)) zS.1 hb); clear hb hbox hg) | ((with_reducible refine zy (N := 11) rfl ?_); refine zw ?hg (N := 11) ?hd (cs := #[.int .i64 0, .int .i64 0]) (t := 37) ?hr ?_; (case hd => rfl); (case hg => rfl); (case hr => (go_simp; done)); intro gb263 hg w74 hbox hb; replace HO_3 := kz (zB HO_3.1 hb); have zV := kz hbox; have qk := kz ((by rw [hg]; exact (by exact HK.1.1) : w.heap.size ≤ gb263)); replace HK := kz (zA (S := (fun k_ => P3_ k_)) HK.1 hb); have qr := kz ((by rw [hg]; exact (zn HB.1) : w0.heap.size ≤ gb263)); replace HB := kz (zs HB.1 hb); have qf := kz ((by rw [hg]; exact kv (zv (g := gb252) (o := .cells #[.int .i64 a2_0, .int .i64 a2_1] 37 (0, 0)) zT.1) : gb252 ≠ gb263)); have qp := kz ((by rw [hg]; exact kh (zv (g := gb252) (o := .cells #[.int .i64 a2_0, .int .i64 a2_1] 37 (0, 0)) zT.1) : gb263 ≠ gb252)); replace zT := kz (zr (g := gb252) (o := .cells #[.int .i64 a2_0, .int .i64 a2_1] 37 (0, 0)) zT.1 hb); have qg := kz ((by rw [hg]; exact kv (zv (g := gb254) (o := .cells #[.int .i64 ((rd_T86 l0 a1).f0), .int .i64 ((rd_T86 l0 a1).f1), .bool ((rd_T86 l0 a1).f2), .int .i64 ((rd_T86 l0 a1).f3)] 86 (0, 0)) zS.1) : gb254 ≠ gb263)); have qq := kz ((by rw [hg]; exact kh (zv (g := gb254) (o := .cells #[.int .i64 ((rd_T86 l0 a1).f0), .int .i64 ((rd_T86 l0 a1).f1), .bool ((rd_T86 l0 a1).f2), .int .i64 ((rd_T86 l0 a1).f3)] 86 (0, 0)) zS.1) : gb263 ≠ gb254)); replace zS := kz (zr (g := gb254) (o := .cells #[.int .i64 ((rd_T86 l0 a1).f0), .int .i64 ((rd_T86 l0 a1).f1), .bool ((rd_T86 l0 a1).f2), .int .i64 ((rd_T86 l0 a1).f3)] 86 (0, 0)) zS.1 hb); have qh := kz ((by rw [hg]; exact kv (zv (g := gb262) (o := .cells #[.int .i64 0, .int .i64 0] 37 (0, 0)) zU.1) : gb262 ≠ gb263)); have qi := kz ((by rw [hg]; exact kh (zv (g := gb262) (o := .cells #[.int .i64 0, .int .i64 0] 37 (0, 0)) zU.1) : gb263 ≠ gb262)); replace zU := kz (zr (g := gb262) (o := .cells #[.int .i64 0, .int .i64 0] 37 (0, 0)) zU.1 hb); clear hb hbox hg; have hnb75 := qn.1; have hnc75 := qd.1; have hnb76 := qo.1; have hnc76 := qe.1; have hnb77 := qh.1; have hnc77 := qi.1; have hcz78_0 : w74.cell? ⟨gb262, 0, none⟩ = some (.int .i64 0) := (zj zU.1 0).trans rfl; have hcz78_1 : w74.cell? ⟨gb262, 1, none⟩ = some (.int .i64 0) := (zj zU.1 1).trans rfl; have hfz78_0 := zi zU.1 0; have hfz78_1 := zi zU.1 1) | ((with_reducible refine gate_store (t := 37) (p := 10) rfl ?_); refine store_event (t := 37) (p := 10) (v := ?vo_w79) (w1 := ((w74.setCell ⟨gb262, 0, none⟩ (.int .i64 t258)).setCell ⟨gb262, 1, none⟩ (.int .i64 t259))) ?hg ?ho ?hn ?hr ?_; (case ho => rfl); (case hg => rfl); (case hn => rfl); (case hr => (go_simp; done)); intro w79 hw; have n0_ : zt (Kd.R k39 39 w79 w0.heap.size (fun k_ => (P3_ k_ ∨ w.heap.size ≤ k_)) u3 x3_6) := ⟨(by rw [hw]; exact (by exact zD (zx (p := ⟨gb262, 1, none⟩) (zx (p := ⟨gb262, 0, none⟩) (zG HO_3.1 zU.1 (by decide)) (fun _ hk => hk.2) (.int .i64 t258)) (fun _ hk => hk.2) (.int .i64 t259)) (fun _ hk => hk.1)))⟩; have n1_ : zt (w79.heap[gb252]? = some (.cells #[.int .i64 a2_0, .int .i64 a2_1] 37 (0, 0))) := ⟨(by rw [hw]; exact (by refine zo ?_ qd.1 _; refine zo ?_ qd.1 _; exact zT.1))⟩; have n2_ : zt (w79.heap[gb254]? = some (.cells #[.int .i64 ((rd_T86 l0 a1).f0), .int .i64 ((rd_T86 l0 a1).f1), .bool ((rd_T86 l0 a1).f2), .int .i64 ((rd_T86 l0 a1).f3)] 86 (0, 0))) := ⟨(by rw [hw]; exact (by refine zo ?_ qe.1 _; refine zo ?_ qe.1 _; exact zS.1))⟩; have n3_ : zt (w79.heap[gb262]? = some (.cells #[.int .i64 t258, .int .i64 t259] 37 (0, 0))) := ⟨(by rw [hw]; exact (by refine zz (cs := #[.int .i64 t258, .int .i64 0]) ?_ 1 _ rfl; refine zz (cs := #[.int .i64 0, .int .i64 0]) ?_ 0 _ rfl; exact zU.1))⟩; have n4_ : zt (w79.heap[gb263]? = some (.cells #[.int .i64 0, .int .i64 0] 37 (0, 0))) := ⟨(by rw [hw]; exact (by refine zo ?_ qi.1 _; refine zo ?_ qi.1 _; exact zV.1))⟩; have n5_ : zt (Kept w w79 (fun k_ => P3_ k_)) := ⟨(by rw [hw]; exact (by repeat ((with_reducible first | exact HK.1 | refine za ?_ (.inr qc.1) _))))⟩; have n6_ : zt (Below w0.heap.size w0 w79) := ⟨(by rw [hw]; exact (by repeat ((with_reducible first | exact HB.1 | refine zf ?_ qj.1))))⟩; clear hw HO_3 zT zS zU zV HK HB; have HO_3 := n0_; have zT := n1_; have zS := n2_; have zU := n3_; have zV := n4_; have HK := n5_; have HB := n6_; clear n0_ n1_ n2_ n3_ n4_ n5_ n6_; have hnb80 := qp.1; have hnc80 := qf.1; have hnb81 := qq.1; have hnc81 := qg.1; have hcz82_0 : w79.cell? ⟨gb263, 0, none⟩ = some (.int .i64 0) := (zj zV.1 0).trans rfl; have hcz82_1 : w79.cell? ⟨gb263, 1, none⟩ = some (.int .i64 0) := (zj zV.1 1).trans rfl; have hfz82_0 := zi zV.1 0; have hfz82_1 := zi zV.1 1) | ((with_reducible refine gate_store (t := 37) (p := 11) rfl ?_); refine store_event (t := 37) (p := 11) (v := ?vo_w83) (w1 := ((w79.setCell ⟨gb263, 0, none⟩ (.int .i64 t260)).setCell ⟨gb263, 1, none⟩ (.int .i64 t261))) ?hg ?ho ?hn ?hr ?_; (case ho => rfl); (case hg => rfl); (case hn => rfl); (case hr => (go_simp; done)); intro w83 hw; have n0_ : zt (Kd.R k39 39 w83 w0.heap.size (fun k_ => (P3_ k_ ∨ w.heap.size ≤ k_)) u3 x3_6) := ⟨(by rw [hw]; exact (by exact zD (zx (p := ⟨gb263, 1, none⟩) (zx (p := ⟨gb263, 0, none⟩) (zG HO_3.1 zV.1 (by decide)) (fun _ hk => hk.2) (.int .i64 t260)) (fun _ hk => hk.2) (.int .i64 t261)) (fun _ hk => hk.1)))⟩; have n1_ : zt (w83.heap[gb252]? = some (.cells #[.int .i64 a2_0, .int .i64 a2_1] 37 (0, 0))) := ⟨(by rw [hw]; exact (by refine zo ?_ qf.1 _; refine zo ?_ qf.1 _; exact zT.1))⟩; have n2_ : zt (w83.heap[gb254]? = some (.cells #[.int .i64 ((rd_T86 l0 a1).f0), .int .i64 ((rd_T86 l0 a1).f1), .bool ((rd_T86 l0 a1).f2), .int .i64 ((rd_T86 l0 a1).f3)] 86 (0, 0))) := ⟨(by rw [hw]; exact (by refine zo ?_ qg.1 _; refine zo ?_ qg.1 _; exact zS.1))⟩; have n3_ : zt (w83.heap[gb262]? = some (.cells #[.int .i64 t258, .int .i64 t259] 37 (0, 0))) := ⟨(by rw [hw]; exact (by refine zo ?_ qh.1 _; refine zo ?_ qh.1 _; exact zU.1))⟩; have n4_ : zt (w83.heap[gb263]? = some (.cells #[.int .i64 t260, .int .i64 t261] 37 (0, 0))) := ⟨(by rw [hw]; exact (by refine zz (cs := #[.int .i64 t260, .int .i64 0]) ?_ 1 _ rfl; refine zz (cs := #[.int .i64 0, .int .i64 0]) ?_ 0 _ rfl; exact zV.1))⟩; have n5_ : zt (Kept w w83 (fun k_ => P3_ k_)) := ⟨(by rw [hw]; exact (by repeat ((with_reducible first | exact HK.1 | refine za ?_ (.inr qk.1) _))))⟩; have n6_ : zt (Below w0.heap.size w0 w83) := ⟨(by rw [hw]; exact (by repeat ((with_reducible first | exact HB.1 | refine zf ?_ qr.1))))⟩; clear hw HO_3 zT zS zU zV HK HB; have HO_3 := n0_; have zT := n1_; have zS := n2_; have zU := n3_; have zV := n4_; have HK := n5_; have HB := n6_; clear n0_ n1_ n2_ n3_ n4_ n5_ n6_; have hcz84_0 : w83.cell? ⟨gb254, 0, none⟩ = some (.int .i64 ((rd_T86 l0 a1).f0)) := (zj zS.1 0).trans rfl; have hcz84_1 : w83.cell? ⟨gb254, 1, none⟩ = some (.int .i64 ((rd_T86 l0 a1).f1)) := (zj zS.1 1).trans rfl; have hcz84_2 : w83.cell? ⟨gb254, 2, none⟩ = some (.bool ((rd_T86 l0 a1).f2)) := (zj zS.1 2).trans rfl; have hcz84_3 : w83.cell? ⟨gb254, 3, none⟩ = some (.int .i64 ((rd_T86 l0 a1).f3)) := (zj zS.1 3).trans rfl; have hfz84_0 := zi zS.1 0; have hfz84_1 := zi zS.1 1; have hfz84_2 := zi zS.1 2; have hfz84_3 := zi zS.1 3; have hcz85_0 : w83.cell? ⟨gb263, 0, none⟩ = some (.int .i64 t260) := (zj zV.1 0).trans rfl; have hcz85_1 : w83.cell? ⟨gb263, 1, none⟩ = some (.int .i64 t261) := (zj zV.1 1).trans rfl; have hfz85_0 := zi zV.1 0; have hfz85_1 := zi zV.1 1; obtain ⟨Ao86, co86, eo86⟩ := Kd.R_slice HO_3.1; subst eo86) | ((with_reducible refine zC (f := 73) rfl ?_); refine zO (some 51) rfl rfl kr (by kernel_rfl) rfl #[.slice (some ad253) l0.length c0, .int .i64 ((rd_T86 l0 a1).f1), .agg #[.int .i64 t260, .int .i64 t261], .slice Ao86 x3_6.length co86] rfl (by (try simp only [kf, kb, kd]); rfl) ?_; (with_reducible refine (ih kj6 (by have := HJ6.1; omega) _ _ l0 ((rd_T86 l0 a1).f1) t260 t261 (fun k_ => some k_ = (.slice Ao86 x3_6.length co86 : Value).ownBlock) (.slice Ao86 x3_6.length co86) x3_6 t270 w0 _ ?side1 ?side2 ?side3 ?side4 A69.1).mono ?_); (case side1 => repeat (with_reducible exact HB.1)); (case side2 => exact Kd.C_kept_call HR0.1 HK.1 (fun k_ hs_ => (fun e_ => (HO_3.1.1 k_ e_.symm)) hs_)); (case side3 => exact HC0.1); (case side4 => exact Kd.R_tight rfl HO_3.1); rintro e w87 ⟨v271, rfl, ho0, hb, hkp⟩; refine ⟨_, rfl, ?_⟩; replace zT := kz (zE zT.1 hkp (fun hs_ => (fun e_ => (zF HO_3.1 zT.1 (by decide)) e_) hs_)); replace zS := kz (zE zS.1 hkp (fun hs_ => (fun e_ => (zF HO_3.1 zS.1 (by decide)) e_) hs_)); replace zU := kz (zE zU.1 hkp (fun hs_ => (fun e_ => (zF HO_3.1 zU.1 (by decide)) e_) hs_)); replace zV := kz (zE zV.1 hkp (fun hs_ => (fun e_ => (zF HO_3.1 zV.1 (by decide)) e_) hs_)); have HO272 := kz (zD (ok' := fun k_ => (P3_ k_ ∨ w.heap.size ≤ k_)) ho0 (fun k_ hk_ => Or.elim hk_ (fun hs_ => (HO_3.1.1 k_ (hs_).symm)) (fun hn_ => (.inr (ks (by exact HK.1.1) hn_))))); replace HK := kz (Kept.then_ (S := (fun k_ => P3_ k_)) HK.1 hkp (fun k_ hs_ => (fun e_ => (HO_3.1.1 k_ e_.symm)) hs_)); replace HB := kz hb; (try clear hb); (try clear hkp); (try clear ho0)))
        go_ret
        exact ⟨_, by rfl, by exact HO272.1, by exact HB.1, by exact HK.1⟩
       ·
        rw [if_neg c68] at H
        have c68b0 : decide (0 < ((rd_T86 l0 a1).f1)) = false := decide_eq_false c68
        clear c68
        obtain rfl := ke H
        have hnb88 := qb.1
        have hnc88 := qm.1
        have hcz89_0 : wc.cell? ⟨gb252, 0, none⟩ = some (.int .i64 a2_0) := (zj zT.1 0).trans rfl
        have hcz89_1 : wc.cell? ⟨gb252, 1, none⟩ = some (.int .i64 a2_1) := (zj zT.1 1).trans rfl
        have hfz89_0 := zi zT.1 0
        have hfz89_1 := zi zT.1 1
        go_wp2_with (first | ((with_reducible refine zC (f := 95) rfl ?_); refine zO (some 31) rfl rfl Try.func95 (by kernel_rfl) rfl #[.agg #[.int .i64 a2_0, .int .i64 a2_1]] rfl (by (try simp only [kf, kb, kd]); rfl) ?_; (with_reducible refine (impl_Prefix_halves.calls a2_0 a2_1 t258 t259 t260 t261 _ A22.1).mono ?_); rintro e w90 ⟨rfl, hb⟩; refine ⟨_, rfl, ?_⟩; replace HO_3 := kz (zB HO_3.1 hb); replace zT := kz (zr (g := gb252) (o := .cells #[.int .i64 a2_0, .int .i64 a2_1] 37 (0, 0)) zT.1 hb); replace zS := kz (zr (g := gb254) (o := .cells #[.int .i64 ((rd_T86 l0 a1).f0), .int .i64 ((rd_T86 l0 a1).f1), .bool ((rd_T86 l0 a1).f2), .int .i64 ((rd_T86 l0 a1).f3)] 86 (0, 0)) zS.1 hb); replace HK := kz (zA (S := (fun k_ => P3_ k_)) HK.1 hb); replace HB := kz (zs HB.1 hb); (try clear hb); (try clear hb2); (try clear hk); (try clear hi)) | ((with_reducible refine zy (N := 10) rfl ?_); refine zw ?hg (N := 10) ?hd (cs := #[.int .i64 0, .int .i64 0]) (t := 37) ?hr ?_; (case hd => rfl); (case hg => rfl); (case hr => (go_simp; done)); intro gb262 hg w91 hbox hb; replace HO_3 := kz (zB HO_3.1 hb); have zU := kz hbox; have qc := kz ((by rw [hg]; exact (by exact HK.1.1) : w.heap.size ≤ gb262)); replace HK := kz (zA (S := (fun k_ => P3_ k_)) HK.1 hb); have qj := kz ((by rw [hg]; exact (zn HB.1) : w0.heap.size ≤ gb262)); replace HB := kz (zs HB.1 hb); have qd := kz ((by rw [hg]; exact kv (zv (g := gb252) (o := .cells #[.int .i64 a2_0, .int .i64 a2_1] 37 (0, 0)) zT.1) : gb252 ≠ gb262)); have qn := kz ((by rw [hg]; exact kh (zv (g := gb252) (o := .cells #[.int .i64 a2_0, .int .i64 a2_1] 37 (0, 0)) zT.1) : gb262 ≠ gb252)); replace zT := kz (zr (g := gb252) (o := .cells #[.int .i64 a2_0, .int .i64 a2_1] 37 (0, 0)) zT.1 hb); have qe := kz ((by rw [hg]; exact kv (zv (g := gb254) (o := .cells #[.int .i64 ((rd_T86 l0 a1).f0), .int .i64 ((rd_T86 l0 a1).f1), .bool ((rd_T86 l0 a1).f2), .int .i64 ((rd_T86 l0 a1).f3)] 86 (0, 0)) zS.1) : gb254 ≠ gb262)); have qo := kz ((by rw [hg]; exact kh (zv (g := gb254) (o := .cells #[.int .i64 ((rd_T86 l0 a1).f0), .int .i64 ((rd_T86 l0 a1).f1), .bool ((rd_T86 l0 a1).f2), .int .i64 ((rd_T86 l0 a1).f3)] 86 (0, 0)) zS.1) : gb262 ≠ gb254)); replace zS := kz (zr (g := gb254) (o := .cells #[.int .i64 ((rd_T86 l0 a1).f0), .int .i64 ((rd_T86 l0 a1).f1), .bool ((rd_T86 l0 a1).f2), .int .i64 ((rd_T86 l0 a1).f3)] 86 (0, 0)) zS.1 hb); clear hb hbox hg) | ((with_reducible refine zy (N := 11) rfl ?_); refine zw ?hg (N := 11) ?hd (cs := #[.int .i64 0, .int .i64 0]) (t := 37) ?hr ?_; (case hd => rfl); (case hg => rfl); (case hr => (go_simp; done)); intro gb263 hg w92 hbox hb; replace HO_3 := kz (zB HO_3.1 hb); have zV := kz hbox; have qk := kz ((by rw [hg]; exact (by exact HK.1.1) : w.heap.size ≤ gb263)); replace HK := kz (zA (S := (fun k_ => P3_ k_)) HK.1 hb); have qr := kz ((by rw [hg]; exact (zn HB.1) : w0.heap.size ≤ gb263)); replace HB := kz (zs HB.1 hb); have qf := kz ((by rw [hg]; exact kv (zv (g := gb252) (o := .cells #[.int .i64 a2_0, .int .i64 a2_1] 37 (0, 0)) zT.1) : gb252 ≠ gb263)); have qp := kz ((by rw [hg]; exact kh (zv (g := gb252) (o := .cells #[.int .i64 a2_0, .int .i64 a2_1] 37 (0, 0)) zT.1) : gb263 ≠ gb252)); have qg := kz ((by rw [hg]; exact kv (zv (g := gb254) (o := .cells #[.int .i64 ((rd_T86 l0 a1).f0), .int .i64 ((rd_T86 l0 a1).f1), .bool ((rd_T86 l0 a1).f2), .int .i64 ((rd_T86 l0 a1).f3)] 86 (0, 0)) zS.1) : gb254 ≠ gb263)); have qq := kz ((by rw [hg]; exact kh (zv (g := gb254) (o := .cells #[.int .i64 ((rd_T86 l0 a1).f0), .int .i64 ((rd_T86 l0 a1).f1), .bool ((rd_T86 l0 a1).f2), .int .i64 ((rd_T86 l0 a1).f3)] 86 (0, 0)) zS.1) : gb263 ≠ gb254)); replace zS := kz (zr (g := gb254) (o := .cells #[.int .i64 ((rd_T86 l0 a1).f0), .int .i64 ((rd_T86 l0 a1).f1), .bool ((rd_T86 l0 a1).f2), .int .i64 ((rd_T86 l0 a1).f3)] 86 (0, 0)) zS.1 hb); have qh := kz ((by rw [hg]; exact kv (zv (g := gb262) (o := .cells #[.int .i64 0, .int .i64 0] 37 (0, 0)) zU.1) : gb262 ≠ gb263)); have qi := kz ((by rw [hg]; exact kh (zv (g := gb262) (o := .cells #[.int .i64 0, .int .i64 0] 37 (0, 0)) zU.1) : gb263 ≠ gb262)); replace zU := kz (zr (g := gb262) (o := .cells #[.int .i64 0, .int .i64 0] 37 (0, 0)) zU.1 hb); clear hb hbox hg; have hnb93 := qn.1; have hnc93 := qd.1; have hnb94 := qo.1; have hnc94 := qe.1; have hnb95 := qh.1; have hnc95 := qi.1; have hcz96_0 : w92.cell? ⟨gb262, 0, none⟩ = some (.int .i64 0) := (zj zU.1 0).trans rfl; have hcz96_1 : w92.cell? ⟨gb262, 1, none⟩ = some (.int .i64 0) := (zj zU.1 1).trans rfl; have hfz96_0 := zi zU.1 0; have hfz96_1 := zi zU.1 1; have hnb97 := qp.1; have hnc97 := qf.1; have hnb98 := qq.1; have hnc98 := qg.1; have hcz99_0 : w92.cell? ⟨gb263, 0, none⟩ = some (.int .i64 0) := (zj zV.1 0).trans rfl; have hcz99_1 : w92.cell? ⟨gb263, 1, none⟩ = some (.int .i64 0) := (zj zV.1 1).trans rfl; have hfz99_0 := zi zV.1 0; have hfz99_1 := zi zV.1 1; have hcz100_0 : w92.cell? ⟨gb254, 0, none⟩ = some (.int .i64 ((rd_T86 l0 a1).f0)) := (zj zS.1 0).trans rfl; have hcz100_1 : w92.cell? ⟨gb254, 1, none⟩ = some (.int .i64 ((rd_T86 l0 a1).f1)) := (zj zS.1 1).trans rfl; have hcz100_2 : w92.cell? ⟨gb254, 2, none⟩ = some (.bool ((rd_T86 l0 a1).f2)) := (zj zS.1 2).trans rfl; have hcz100_3 : w92.cell? ⟨gb254, 3, none⟩ = some (.int .i64 ((rd_T86 l0 a1).f3)) := (zj zS.1 3).trans rfl; have hfz100_0 := zi zS.1 0; have hfz100_1 := zi zS.1 1; have hfz100_2 := zi zS.1 2; have hfz100_3 := zi zS.1 3))
        go_ret
        exact ⟨_, by rfl, by exact zD (zx (p := ⟨gb263, 1, none⟩) (zx (p := ⟨gb263, 0, none⟩) (zx (p := ⟨gb262, 1, none⟩) (zx (p := ⟨gb262, 0, none⟩) (zG (zG HO_3.1 zU.1 (by decide)) zV.1 (by decide)) (fun _ hk => hk.1.2) (.int .i64 t258)) (fun _ hk => hk.1.2) (.int .i64 t259)) (fun _ hk => hk.2) (.int .i64 t260)) (fun _ hk => hk.2) (.int .i64 t261)) (fun _ hk => hk.1.1), by repeat ((with_reducible first | exact HB.1 | refine zf ?_ qj.1 | refine zf ?_ qr.1)), by repeat ((with_reducible first | exact HK.1 | refine za ?_ (.inr qc.1) _ | refine za ?_ (.inr qk.1) _))⟩
  ·
   rw [if_neg c6] at H
   exact absurd H (by simp)
 ·
  rw [if_neg c5] at H
  exact absurd H (by simp)
/-! ### impl_TrieEntries: function 29 -/
def impl_TrieEntries.f (k : Nat) (l0 : List (S86)) : Option ((List (S39)) × Bool) := (impl_GoodTrie.f k l0).bind fun t273 => (if t273 = true then ((impl_entriesBelow.f k l0 0 0 0 ([] : List (S39))).bind fun t274 => (some (t274, true))) else (some (([] : List (S39)), false)))
theorem impl_TrieEntries.calls (k : Nat) (A0 : Option Addr) (c0 : Nat) (l0 : List (S86)) (r1 : List (S39)) (r2 : Bool) (w : World) (hr0 : Kd.C k86 w A0 l0.length l0) (hc0 : l0.length ≤ c0) (h : impl_TrieEntries.f k l0 = some (r1, r2)) :
  Calls kt 29 #[.slice A0 l0.length c0] w fun e w' => ∃ v0_ : Value, e = .returned (.tuple #[v0_, .bool r2]) ∧ Kd.R k39 39 w' w.heap.size (fun _ => True) v0_ r1 ∧ Below w.heap.size w w' := by
 have hu37 := kx
 have HR0 := kz hr0
 have HC0 := kz hc0
 clear hr0 hc0
 have HB := kz (Below.refl w.heap.size w)
 have H : ((impl_GoodTrie.f k l0).bind fun t273 => (if t273 = true then ((impl_entriesBelow.f k l0 0 0 0 ([] : List (S39))).bind fun t274 => (some (t274, true))) else (some (([] : List (S39)), false)))) = some (r1, r2) := h
 clear h
 replace H := kg.mp H
 obtain ⟨t273, A20, H⟩ := H
 replace H : (if t273 = true then ((impl_entriesBelow.f k l0 0 0 0 ([] : List (S39))).bind fun t274 => (some (t274, true))) else (some (([] : List (S39)), false))) = some (r1, r2) := H
 have A2 := kz A20
 clear A20
 by_cases c3 : t273 = true
 ·
  subst c3
  have H1 : ((impl_entriesBelow.f k l0 0 0 0 ([] : List (S39))).bind fun t274 => (some (t274, true))) = some (r1, r2) := by rw [if_pos rfl] at H; exact H
  clear H
  have H := H1
  clear H1
  replace H := kg.mp H
  obtain ⟨t274, A40, H⟩ := H
  replace H : (some (t274, true)) = some (r1, r2) := H
  have A4 := kz A40
  clear A40
  simp only [Option.some.injEq, Prod.mk.injEq] at H
  obtain ⟨rfl, rfl⟩ := H
  go_enter Try.func29, Try.ntmps29
  go_wp2_with (first | ((with_reducible refine zC (f := 21) rfl ?_); refine zO (some 5) rfl rfl Try.func21 (by kernel_rfl) rfl #[.slice A0 l0.length c0] rfl (by (try simp only [kf, kb, kd]); rfl) ?_; (with_reducible refine (impl_GoodTrie.calls k _ _ l0 true _ ?side1 ?side2 A2.1).mono ?_); (case side1 => repeat (exact HR0.1)); (case side2 => exact HC0.1); rintro e w5 ⟨rfl, hb⟩; refine ⟨_, rfl, ?_⟩; replace HB := kz (zs HB.1 hb); (try clear hb); (try clear hb2); (try clear hk); (try clear hi)) | ((with_reducible refine zC (f := 73) rfl ?_); refine zO (some 9) rfl rfl kr (by kernel_rfl) rfl #[.slice A0 l0.length c0, .int .i64 0, .agg #[.int .i64 0, .int .i64 0], .slice none 0 0] rfl (by (try simp only [kf, kb, kd]); rfl) ?_; (refine (impl_entriesBelow.calls k _ _ l0 0 0 0 (fun k_ => some k_ = (.slice none 0 0 : Value).ownBlock) (.slice none 0 0) ([] : List (S39)) t274 w _ ?side1 ?side2 ?side3 ?side4 A4.1).mono ?_); (case side1 => repeat (with_reducible exact HB.1)); (case side2 => exact Kd.C_kept_came k86_heap HR0.1 HB.1 (fun k_ hs_ => (fun e_ => by simp [Value.ownBlock] at e_) hs_)); (case side3 => exact HC0.1); (case side4 => exact Kd.R_nil _ _ _ _ _); rintro e w6 ⟨v275, rfl, ho0, hb, hkp⟩; refine ⟨_, rfl, ?_⟩; have HO276 := kz (zD (ok' := fun k_ => True) ho0 (fun k_ hk_ => trivial)); replace HB := kz hb; (try clear hb); (try clear hkp); (try clear ho0)))
  go_ret2
  exact ⟨_, by rfl, by exact HO276.1, by exact HB.1⟩
 ·
  replace c3 := ku.mpr c3
  subst c3
  have H1 : (some (([] : List (S39)), false)) = some (r1, r2) := by rw [if_neg (show ¬ (false = true) by decide)] at H; exact H
  clear H
  have H := H1
  clear H1
  simp only [Option.some.injEq, Prod.mk.injEq] at H
  obtain ⟨rfl, rfl⟩ := H
  go_enter Try.func29, Try.ntmps29
  go_wp2_with (((with_reducible refine zC (f := 21) rfl ?_); refine zO (some 5) rfl rfl Try.func21 (by kernel_rfl) rfl #[.slice A0 l0.length c0] rfl (by (try simp only [kf, kb, kd]); rfl) ?_; (with_reducible refine (impl_GoodTrie.calls k _ _ l0 false _ ?side1 ?side2 A2.1).mono ?_); (case side1 => repeat (exact HR0.1)); (case side2 => exact HC0.1); rintro e w7 ⟨rfl, hb⟩; refine ⟨_, rfl, ?_⟩; replace HB := kz (zs HB.1 hb); (try clear hb); (try clear hb2); (try clear hk); (try clear hi)))
  go_ret2
  exact ⟨_, by rfl, by exact Kd.R_nil _ _ _ _ _, by exact HB.1⟩
/-! ### impl_isAddr: function 65 -/
def impl_isAddr.f (a0 : Int) : Option (Bool) := (impl_within.f a0 0 4294967295).bind fun t277 => (some t277)
theorem impl_isAddr.calls (a0 : Int) (r : Bool) (w : World) (h : impl_isAddr.f a0 = some r) :
  Calls kt 65 #[.int .i64 a0] w fun e w' => e = .returned (.bool r) ∧ Drawn0 w w' := by
 have H : ((impl_within.f a0 0 4294967295).bind fun t277 => (some t277)) = some r := h
 clear h
 replace H := kg.mp H
 obtain ⟨t277, A20, H⟩ := H
 replace H : (some t277) = some r := H
 have A2 := kz A20
 clear A20
 obtain rfl := ke H
 go_enter Try.func65, Try.ntmps65
 go_wp2_with (((with_reducible refine zC (f := 60) rfl ?_); refine zO (some 4) rfl rfl Try.func60 (by kernel_rfl) rfl #[.int .i64 a0, .int .i64 0, .int .i64 4294967295] rfl (by (try simp only [kf, kb, kd]); rfl) ?_; (with_reducible refine (impl_within.calls a0 0 4294967295 t277 _ A2.1).mono ?_); rintro e w' ⟨rfl, ⟨nd, rfl⟩⟩; refine ⟨_, rfl, ?_⟩))
 go_ret
 exact ⟨by rfl, by repeat (first | exact zI _ | apply zH)⟩
/-! ### impl_GoodPrefix: function 75 -/
def impl_GoodPrefix.f (a0_0 : Int) (a0_1 : Int) : Option (Bool) := (impl_within.f a0_1 0 32).bind fun t279 => (if t279 = true then ((impl_isAddr.f a0_0).bind fun t280 => (if t280 = true then ((impl_sizeOf.f a0_1).bind fun t281 => (if t281 = 0 then (none) else (some ((kp a0_0 t281) == 0)))) else (some false))) else (some false))
theorem impl_GoodPrefix.calls (a0_0 : Int) (a0_1 : Int) (r : Bool) (w : World) (h : impl_GoodPrefix.f a0_0 a0_1 = some r) :
  Calls kt 75 #[.agg #[.int .i64 a0_0, .int .i64 a0_1]] w fun e w' => e = .returned (.bool r) ∧ Below w.heap.size w w' := by
 have hu37 := kx
 have HB := kz (Below.refl w.heap.size w)
 have H : ((impl_within.f a0_1 0 32).bind fun t279 => (if t279 = true then ((impl_isAddr.f a0_0).bind fun t280 => (if t280 = true then ((impl_sizeOf.f a0_1).bind fun t281 => (if t281 = 0 then (none) else (some ((kp a0_0 t281) == 0)))) else (some false))) else (some false))) = some r := h
 clear h
 replace H := kg.mp H
 obtain ⟨t279, A20, H⟩ := H
 replace H : (if t279 = true then ((impl_isAddr.f a0_0).bind fun t280 => (if t280 = true then ((impl_sizeOf.f a0_1).bind fun t281 => (if t281 = 0 then (none) else (some ((kp a0_0 t281) == 0)))) else (some false))) else (some false)) = some r := H
 have A2 := kz A20
 clear A20
 by_cases c3 : t279 = true
 ·
  subst c3
  have H1 : ((impl_isAddr.f a0_0).bind fun t280 => (if t280 = true then ((impl_sizeOf.f a0_1).bind fun t281 => (if t281 = 0 then (none) else (some ((kp a0_0 t281) == 0)))) else (some false))) = some r := by rw [if_pos rfl] at H; exact H
  clear H
  have H := H1
  clear H1
  replace H := kg.mp H
  obtain ⟨t280, A40, H⟩ := H
  replace H : (if t280 = true then ((impl_sizeOf.f a0_1).bind fun t281 => (if t281 = 0 then (none) else (some ((kp a0_0 t281) == 0)))) else (some false)) = some r := H
  have A4 := kz A40
  clear A40
  by_cases c5 : t280 = true
  ·
   subst c5
   have H1 : ((impl_sizeOf.f a0_1).bind fun t281 => (if t281 = 0 then (none) else (some ((kp a0_0 t281) == 0)))) = some r := by rw [if_pos rfl] at H; exact H
   clear H
   have H := H1
   clear H1
   replace H := kg.mp H
   obtain ⟨t281, A60, H⟩ := H
   replace H : (if t281 = 0 then (none) else (some ((kp a0_0 t281) == 0))) = some r := H
   have A6 := kz A60
   clear A60
   by_cases c7 : t281 = 0
   ·
    rw [if_pos c7] at H
    exact absurd H (by simp)
   ·
    rw [if_neg c7] at H
    have c7b0 : (t281 == 0) = false := beq_eq_false_iff_ne.mpr c7
    have c7b1 : (t281 != 0) = true := bne_iff_ne.mpr c7
    obtain rfl := ke H
    go_enter Try.func75, Try.ntmps75
    go_wp2_with (((with_reducible refine zy (N := 1) rfl ?_); refine zw ?hg (N := 1) ?hd (cs := #[.int .i64 a0_0, .int .i64 a0_1]) (t := 37) ?hr ?_; (case hd => rfl); (case hg => rfl); (case hr => (go_simp; done)); intro gb278 hg w8 hbox hb; replace HB := kz (zs HB.1 hb); have zY := kz hbox; clear hb hbox hg; have hcz9_0 : w8.cell? ⟨gb278, 0, none⟩ = some (.int .i64 a0_0) := (zj zY.1 0).trans rfl; have hcz9_1 : w8.cell? ⟨gb278, 1, none⟩ = some (.int .i64 a0_1) := (zj zY.1 1).trans rfl; have hfz9_0 := zi zY.1 0; have hfz9_1 := zi zY.1 1))
    repeat (go_quiet (first | (go_at_call 60; (with_reducible refine (impl_within.calls a0_1 0 32 true _ A2.1).mono ?_); rintro e w' ⟨rfl, ⟨nd, rfl⟩⟩; (try exact ⟨rfl, _, ko _ _ _⟩)) | (go_at_call 65; (with_reducible refine (impl_isAddr.calls a0_0 true _ A4.1).mono ?_); rintro e w' ⟨rfl, ⟨nd, rfl⟩⟩; (try exact ⟨rfl, _, ko _ _ _⟩)) | (go_at_call 96; (with_reducible refine (impl_sizeOf.calls a0_1 t281 _ A6.1).mono ?_); rintro e w' ⟨rfl, ⟨nd, rfl⟩⟩; (try exact ⟨rfl, _, ko _ _ _⟩))); try go_wp2_with (fail))
    go_ret
    exact ⟨by rfl, by repeat ((with_reducible first | exact HB.1 | apply ze))⟩
  ·
   replace c5 := ku.mpr c5
   subst c5
   have H1 : (some false) = some r := by rw [if_neg (show ¬ (false = true) by decide)] at H; exact H
   clear H
   have H := H1
   clear H1
   obtain rfl := ke H
   go_enter Try.func75, Try.ntmps75
   go_wp2_with (((with_reducible refine zy (N := 1) rfl ?_); refine zw ?hg (N := 1) ?hd (cs := #[.int .i64 a0_0, .int .i64 a0_1]) (t := 37) ?hr ?_; (case hd => rfl); (case hg => rfl); (case hr => (go_simp; done)); intro gb278 hg w10 hbox hb; replace HB := kz (zs HB.1 hb); have zY := kz hbox; clear hb hbox hg; have hcz11_0 : w10.cell? ⟨gb278, 0, none⟩ = some (.int .i64 a0_0) := (zj zY.1 0).trans rfl; have hcz11_1 : w10.cell? ⟨gb278, 1, none⟩ = some (.int .i64 a0_1) := (zj zY.1 1).trans rfl; have hfz11_0 := zi zY.1 0; have hfz11_1 := zi zY.1 1))
   repeat (go_quiet (first | (go_at_call 60; (with_reducible refine (impl_within.calls a0_1 0 32 true _ A2.1).mono ?_); rintro e w' ⟨rfl, ⟨nd, rfl⟩⟩; (try exact ⟨rfl, _, ko _ _ _⟩)) | (go_at_call 65; (with_reducible refine (impl_isAddr.calls a0_0 false _ A4.1).mono ?_); rintro e w' ⟨rfl, ⟨nd, rfl⟩⟩; (try exact ⟨rfl, _, ko _ _ _⟩))); try go_wp2_with (fail))
   go_ret
   exact ⟨by rfl, by repeat ((with_reducible first | exact HB.1 | apply ze))⟩
 ·
  replace c3 := ku.mpr c3
  subst c3
  have H1 : (some false) = some r := by rw [if_neg (show ¬ (false = true) by decide)] at H; exact H
  clear H
  have H := H1
  clear H1
  obtain rfl := ke H
  go_enter Try.func75, Try.ntmps75
  go_wp2_with (((with_reducible refine zy (N := 1) rfl ?_); refine zw ?hg (N := 1) ?hd (cs := #[.int .i64 a0_0, .int .i64 a0_1]) (t := 37) ?hr ?_; (case hd => rfl); (case hg => rfl); (case hr => (go_simp; done)); intro gb278 hg w12 hbox hb; replace HB := kz (zs HB.1 hb); have zY := kz hbox; clear hb hbox hg; have hcz13_0 : w12.cell? ⟨gb278, 0, none⟩ = some (.int .i64 a0_0) := (zj zY.1 0).trans rfl; have hcz13_1 : w12.cell? ⟨gb278, 1, none⟩ = some (.int .i64 a0_1) := (zj zY.1 1).trans rfl; have hfz13_0 := zi zY.1 0; have hfz13_1 := zi zY.1 1))
  repeat (go_quiet ((go_at_call 60; (with_reducible refine (impl_within.calls a0_1 0 32 false _ A2.1).mono ?_); rintro e w' ⟨rfl, ⟨nd, rfl⟩⟩; (try exact ⟨rfl, _, ko _ _ _⟩))); try go_wp2_with (fail))
  go_ret
  exact ⟨by rfl, by repeat ((with_reducible first | exact HB.1 | apply ze))⟩
/-! ### cmp_Or_int: function 101 -/
def cmp_Or_int.l0 : Nat → Int → List Int → Int → Int → Option (Int)
 | 0, _, _, _, _ => none
 | k + 1, x3, x6, x7, x8 => if x8 < x7 then (if 0 ≤ x8 then (if x8 < (x6.length : Int) then (if (rd x6 x8) = x3 then (cmp_Or_int.l0 k x3 x6 x7 (wrap64 (x8 + 1))) else (some (rd x6 x8))) else (none)) else (none)) else (some x3)
def cmp_Or_int.f (k : Nat) (l0 : List Int) : Option (Int) := cmp_Or_int.l0 k 0 l0 (l0.length : Int) 0
theorem cmp_Or_int.calls (k : Nat) (A0 : Option Addr) (c0 : Nat) (l0 : List Int) (r : Int) (w : World) (hr0 : Kd.C (Kd.int .i64) w A0 l0.length l0) (hc0 : l0.length ≤ c0) (h : cmp_Or_int.f k l0 = some r) :
  Calls kt 101 #[.slice A0 l0.length c0] w fun e w' => e = .returned (.int .i64 r) ∧ Drawn0 w w' := by
 have HR0 := kz hr0
 have HC0 := kz hc0
 clear hr0 hc0
 have H : (cmp_Or_int.l0 k 0 l0 (l0.length : Int) 0) = some r := h
 clear h
 have H' := kz H
 clear H
 go_enter Try.func101, Try.ntmps101
 go_wp2
 go_loopg [8] k (fun kq v8 w' => ∃ (x8_1 : Int), v8 = .int .i64 x8_1 ∧ zt (cmp_Or_int.l0 kq 0 l0 (l0.length : Int) x8_1 = some r) ∧ zt (kq ≤ k) ∧ Drawn0 w w')
 case atStart => exact ⟨(0), (by rfl), H', ⟨Nat.le_refl _⟩, by repeat (exact zI _)⟩
 case round =>
  clear H'
  (try clear c1)
  obtain ⟨x8_1, rfl, HA, HK1, ⟨m1, rfl⟩⟩ := hrel
  cases gk with
  | zero => exact absurd HA.1 (by simp [cmp_Or_int.l0])
  | succ k1 =>
   have H := HA.1
   clear HA
   simp only [cmp_Or_int.l0] at H
   by_cases c2 : x8_1 < (l0.length : Int)
   ·
    rw [if_pos c2] at H
    have c2b0 : decide (x8_1 < (l0.length : Int)) = true := decide_eq_true c2
    clear c2
    by_cases c3 : 0 ≤ x8_1
    ·
     rw [if_pos c3] at H
     have c3b0 : decide (0 ≤ x8_1) = true := decide_eq_true c3
     clear c3
     by_cases c4 : x8_1 < (l0.length : Int)
     ·
      rw [if_pos c4] at H
      have c4b0 : decide (x8_1 < (l0.length : Int)) = true := decide_eq_true c4
      clear c4
      by_cases c5 : (rd l0 x8_1) = 0
      ·
       rw [if_pos c5] at H
       have c5b0 : ((rd l0 x8_1) == 0) = true := beq_iff_eq.mpr c5
       have c5b1 : ((rd l0 x8_1) != 0) = false := bne_eq_false_iff_eq.mpr c5
       clear c5
       have H' := kz H
       clear H
       have p282 : 0 ≤ (x8_1 : Int) := of_decide_eq_true (by (with_reducible assumption))
       have q282 : x8_1 < (l0.length : Int) := of_decide_eq_true (by (with_reducible assumption))
       obtain ⟨ad282, e282, hx282_0⟩ := Kd.at_int HR0.1 x8_1 p282 q282
       cases e282
       replace p282 := eq_true p282
       replace q282 := eq_true q282
       go_wp2
       go_roundg k1
       case measure => have := HK1.1; omega
       case rel => exact ⟨(wrap64 (x8_1 + 1)), (by rfl), H', ⟨by have := HK1.1; omega⟩, by repeat (first | exact zI _ | apply zH)⟩
      ·
       rw [if_neg c5] at H
       have c5b0 : ((rd l0 x8_1) == 0) = false := beq_eq_false_iff_ne.mpr c5
       have c5b1 : ((rd l0 x8_1) != 0) = true := bne_iff_ne.mpr c5
       obtain rfl := ke H
       have p282 : 0 ≤ (x8_1 : Int) := of_decide_eq_true (by (with_reducible assumption))
       have q282 : x8_1 < (l0.length : Int) := of_decide_eq_true (by (with_reducible assumption))
       obtain ⟨ad282, e282, hx282_0⟩ := Kd.at_int HR0.1 x8_1 p282 q282
       cases e282
       replace p282 := eq_true p282
       replace q282 := eq_true q282
       go_wp2
       go_ret
       exact ⟨by rfl, by repeat (first | exact zI _ | apply zH)⟩
     ·
      rw [if_neg c4] at H
      exact absurd H (by simp)
    ·
     rw [if_neg c3] at H
     exact absurd H (by simp)
   ·
    rw [if_neg c2] at H
    have c2b0 : decide (x8_1 < (l0.length : Int)) = false := decide_eq_false c2
    clear c2
    obtain rfl := ke H
    go_wp2
    go_ret
    exact ⟨by rfl, by repeat (first | exact zI _ | apply zH)⟩
/-! ### cmp_isNaN_int: function 105 -/
def cmp_isNaN_int.f (a0 : Int) : Option (Bool) := some (a0 != a0)
theorem cmp_isNaN_int.calls (a0 : Int) (r : Bool) (w : World) (h : cmp_isNaN_int.f a0 = some r) :
  Calls kt 105 #[.int .i64 a0] w fun e w' => e = .returned (.bool r) ∧ Drawn0 w w' := by
 have H : (some (a0 != a0)) = some r := h
 clear h
 obtain rfl := ke H
 go_enter Try.func105, Try.ntmps105
 go_wp2
 go_ret
 exact ⟨by rfl, by repeat (exact zI _)⟩
end Go.Proofs.Ytakoaogbkajkcaa.PFnExactRemoveFrom
