/- Go functions told by Lean functions, printed by a program. No condition but what each statement says. -/
import Derived.Test.YtakoaogbkajkcaaYFnTrieStepsx9
namespace Go.Proofs.Ytakoaogbkajkcaa.PFnTrieSteps
open Go.RowKit Go.Proofs.YtakoaogbkajkcaaW.PrintWords Go.Proofs.YtakoaogbkajkcaaW.PrintLast Go.Proofs.YtakoaogbkajkcaaW.PrintMore
open Aside0 renaming mk → kz
open List renaming setIfInBounds_toArray → ky, set_cons_zero → kj, set_cons_succ → kk, map_toArray → kg, map_cons → ke, map_nil → kb
open Nat renaming ne_of_lt → kv, ne_of_gt → kh, le_trans → km
open Option renaming bind_eq_some_iff → kf
open Act renaming put → kd
open Option.some renaming inj → kc
open Try renaming underlying37 → ko, func73 → ku
open Or renaming inl → kx
open Bool renaming true → ks, false → kt
set_option maxHeartbeats 8000000
set_option maxRecDepth 100000
open Go.Proofs.YtakoaogbkajkcaaW.PrintLast renaming i64_w → zH, i32_w → zI, goesL_ → zJ, any_of → zL, pure_ → zM
open Go.Proofs.YtakoaogbkajkcaaW.PrintWords renaming blk_drewN → zb, blk_drew → zd, below_set → ze, pw_below_drewN → zf, blk_frozen → zg, below_drew1 → zh, blk_cell → zj, blk_far → zn, blk_below → zq, Aside0 → zs, blk_lt → zt, below_step → zu, below_size → zw, blk_put → zx, gate_callee → zA, blk_kept → zC, box_event → zD, gate_dst → zG, cell_far → zK
open Go.Proofs.YtakoaogbkajkcaaW.PrintWords.Kd renaming R_far → zv, R_below → zz, R_mono → zB, R_ne → zE, R_types → zF
open Go.Proofs.YtakoaogbkajkcaaW.PrintWords.Kept renaming setCell → za, below → zy
attribute [local go_sem] max2_int min2_int max_two min_two max_three min_three max_four min_four
set_option linter.unusedVariables false
set_option linter.unusedSimpArgs false
/-! ### impl_sizeOf: function 96 -/
def impl_sizeOf.f (a0 : Int) : Option (Int) := if 0 ≤ (wrap64 (32 - a0)) then (some (shl .i64 1 (wrap64 (32 - a0)))) else (none)
theorem impl_sizeOf.calls (a0 : Int) (r : Int) (w : World) (h : impl_sizeOf.f a0 = some r) :
  Calls Try.prog 96 #[.int .i64 a0] w fun e w' => e = .returned (.int .i64 r) ∧ Drawn0 w w' := by
 have H : (if 0 ≤ (wrap64 (32 - a0)) then (some (shl .i64 1 (wrap64 (32 - a0)))) else (none)) = some r := h
 clear h
 obtain ⟨ji2, hji2⟩ : ∃ j_ : Int, (wrap64 (32 - a0)) = j_ := ⟨_, rfl⟩
 replace H : (if 0 ≤ (ji2) then (some (shl .i64 1 (ji2))) else (none)) = some r := by (rw [hji2] at H; exact H)
 have hji2w : (IntKind.i64.wrap (32 - a0)) = ji2 := (zH _).trans hji2
 by_cases c3 : 0 ≤ (ji2)
 ·
  rw [if_pos c3] at H
  have c3b0 := eq_true c3
  have c3b1 : decide (0 ≤ (ji2)) = true := decide_eq_true c3
  clear c3
  obtain ⟨ji4, hji4⟩ : ∃ j_ : Int, (shl .i64 1 (ji2)) = j_ := ⟨_, rfl⟩
  replace H : (some ji4) = some r := by (rw [hji4] at H; exact H)
  have hji4_ : (IntKind.i64.wrap (1 * 2 ^ min (ji2).toNat 64)) = ji4 := hji4
  have hji4z : (ji2) ≤ 64 → (IntKind.i64.wrap (1 * 2 ^ (ji2).toNat)) = ji4 := shl_small hji4
  have hji4u : (IntKind.i64.wrap (2 ^ min (ji2).toNat 64)) = ji4 := by have h_ := hji4_; rw [Int.one_mul] at h_; exact h_
  have hji4v : (ji2) ≤ 64 → (IntKind.i64.wrap (2 ^ (ji2).toNat)) = ji4 := fun hle_ => by have h_ := hji4z hle_; rw [Int.one_mul] at h_; exact h_
  have hji4y : (wrap64 (1 * 2 ^ min (ji2).toNat 64)) = ji4 := (zH _).symm.trans hji4_
  have hji4x : (ji2) ≤ 64 → (wrap64 (1 * 2 ^ (ji2).toNat)) = ji4 := fun h_ => (zH _).symm.trans (hji4z h_)
  obtain rfl := kc H
  go_enter Try.func96, Try.ntmps96
  go_wp2
  go_ret
  exact ⟨by rfl, by repeat (exact Drawn0.refl _)⟩
 ·
  rw [if_neg c3] at H
  exact absurd H (by simp)
/-! ### impl_Prefix_halves: function 95 -/
def impl_Prefix_halves.f (a0_0 : Int) (a0_1 : Int) : Option (Int × Int × Int × Int) := (impl_sizeOf.f (wrap64 (a0_1 + 1))).bind fun t188 => (some (a0_0, wrap64 (a0_1 + 1), wrap64 (a0_0 + t188), wrap64 (a0_1 + 1)))
def impl_Prefix_halves.T1 : Bool × List (List Nat × List Nat) := (true, [([], []), ([0], [0]), ([], []), ([2], [2]), ([3], [3]), ([1, 4], [1, 4]), ([], []), ([6], [6]), ([], []), ([8], [8]), ([9], [9]), ([10], [10]), ([7, 11], [7, 11]), ([], []), ([13], [13]), ([14], [14]), ([12, 15], [12, 15]), ([5, 11, 0, 1, 2, 3, 4, 5], [5]), ([16, 17, 0, 1, 2, 3, 4, 5, 6, 7, 8, 9, 10, 11, 12, 13, 14, 15, 16, 17], [16])])
def impl_Prefix_halves.B1 : List Nat := [0, 1, 0, 4, 12, 31, 0, 64, 0, 256, 768, 1792, 4032, 0, 8192, 24576, 65472, 3903, 262143]
theorem impl_Prefix_halves.tab1 : rtab .any (opsOf Try.f95 1) = impl_Prefix_halves.T1 := by kernel_rfl
theorem impl_Prefix_halves.bits1 : waitsOk impl_Prefix_halves.T1.2 impl_Prefix_halves.B1 = true := by kernel_rfl
theorem impl_Prefix_halves.calls (a0_0 : Int) (a0_1 : Int) (r1 : Int) (r2 : Int) (r3 : Int) (r4 : Int) (w : World) (h : impl_Prefix_halves.f a0_0 a0_1 = some (r1, r2, r3, r4)) :
  Calls Try.prog 95 #[.agg #[.int .i64 a0_0, .int .i64 a0_1]] w fun e w' => e = .returned (.tuple #[.agg #[.int .i64 r1, .int .i64 r2], .agg #[.int .i64 r3, .int .i64 r4]]) ∧ Below w.heap.size w w' := by
 have hu37 := ko
 have HB := kz (Below.refl w.heap.size w)
 have H : ((impl_sizeOf.f (wrap64 (a0_1 + 1))).bind fun t188 => (some (a0_0, wrap64 (a0_1 + 1), wrap64 (a0_0 + t188), wrap64 (a0_1 + 1)))) = some (r1, r2, r3, r4) := h
 clear h
 replace H := kf.mp H
 obtain ⟨t188, A20, H⟩ := H
 replace H : (some (a0_0, wrap64 (a0_1 + 1), wrap64 (a0_0 + t188), wrap64 (a0_1 + 1))) = some (r1, r2, r3, r4) := H
 have A2 := kz A20
 clear A20
 simp only [Option.some.injEq, Prod.mk.injEq] at H
 obtain ⟨rfl, rfl, rfl, rfl⟩ := H
 go_enter Try.func95, Try.ntmps95
 try go_wp2_with (first | ((with_reducible refine zG (N := 1) rfl ?_); refine zD rfl (N := 1) rfl (cs := #[.int .i64 a0_0, .int .i64 a0_1]) (t := 37) ?hr ?_; (case hr => go_simp; done); intro gb185 hg w3 hbox hb; replace HB := kz (zu HB.1 hb); have qf := kz hbox; clear hb hbox hg) | ((with_reducible refine zG (N := 2) rfl ?_); refine zD rfl (N := 2) rfl (cs := #[.int .i64 0, .int .i64 0]) (t := 37) ?hr ?_; (case hr => go_simp; done); intro gb186 hg w4 hbox hb; have qq := kz hbox; have GE186 := kz (by rw [hg]; exact (zw HB.1) : w.heap.size ≤ gb186); replace HB := kz (zu HB.1 hb); have qm := kz (by rw [hg]; exact kv (zt qf.1) : gb185 ≠ gb186); have NB186_185 := kz (by rw [hg]; exact kh (zt qf.1) : gb186 ≠ gb185); replace qf := kz (zq qf.1 hb); clear hb hbox hg) | ((with_reducible refine zG (N := 3) rfl ?_); refine zD rfl (N := 3) rfl (cs := #[.int .i64 0, .int .i64 0]) (t := 37) ?hr ?_; (case hr => go_simp; done); intro gb187 hg w5 hbox hb; have qs := kz hbox; have GE187 := kz (by rw [hg]; exact (zw HB.1) : w.heap.size ≤ gb187); replace HB := kz (zu HB.1 hb); have qn := kz (by rw [hg]; exact kv (zt qf.1) : gb185 ≠ gb187); have NB187_185 := kz (by rw [hg]; exact kh (zt qf.1) : gb187 ≠ gb185); replace qf := kz (zq qf.1 hb); have qo := kz (by rw [hg]; exact kv (zt qq.1) : gb186 ≠ gb187); have qp := kz (by rw [hg]; exact kh (zt qq.1) : gb187 ≠ gb186); replace qq := kz (zq qq.1 hb); clear hb hbox hg))
 replace qf := kz (zd qf.1)
 replace qq := kz (zd qq.1)
 replace qs := kz (zd qs.1)
 replace HB := kz (zh HB.1)
 refine start_ (n := 19) (S := fun w' => w'.cell? ⟨gb185, 0, none⟩ = some (.int .i64 a0_0) ∧ w'.cell? ⟨gb185, 1, none⟩ = some (.int .i64 a0_1)) (ds := []) #[kt,kt,kt,kt,kt,kt,kt,kt,kt,kt,kt,kt,kt,kt,kt,kt,kt,kt,kt] (by kernel_rfl) rfl rfl ⟨(zj qf.1 0).trans rfl, (zj qf.1 1).trans rfl⟩ (fun hHeld => ?_); refine with_tabW impl_Prefix_halves.tab1 impl_Prefix_halves.bits1 (fun HT_ HW_ => ?_)
 generalize w5.drew = w6 at qf qq qs HB hHeld ⊢
 refine zM (i := 0) (N := some 4) (v := ?_) (a' := ?_) #[ks,kt,kt,kt,kt,kt,kt,kt,kt,kt,kt,kt,kt,kt,kt,kt,kt,kt,kt] rfl rfl (zL HT_.1 (by kernel_rfl)) (fun _ _ _ h => h) (kx ⟨by rfl, ?_⟩) ?_ ?_
 rotate_left
 ·
  intro w'
  go_simp
  with_reducible rfl
 rotate_left
 ·
  simp only [kd, ky, kj, kk, zH, zI]
  rfl
 refine zM (i := 2) (N := some 6) (v := ?_) (a' := ?_) #[ks,kt,ks,kt,kt,kt,kt,kt,kt,kt,kt,kt,kt,kt,kt,kt,kt,kt,kt] rfl rfl (zL HT_.1 (by kernel_rfl)) (fun _ _ _ h => h) (kx ⟨by rfl, ?_⟩) ?_ ?_
 rotate_left
 ·
  intro w'
  go_simp
  with_reducible rfl
 rotate_left
 ·
  simp only [kd, ky, kj, kk, zH, zI]
  rfl
 refine zM (i := 6) (N := some 10) (v := ?_) (a' := ?_) #[ks,kt,ks,kt,kt,kt,ks,kt,kt,kt,kt,kt,kt,kt,kt,kt,kt,kt,kt] rfl rfl (zL HT_.1 (by kernel_rfl)) (fun _ _ _ h => h) (kx ⟨by rfl, ?_⟩) ?_ ?_
 rotate_left
 ·
  intro w'
  go_simp
  with_reducible rfl
 rotate_left
 ·
  simp only [kd, ky, kj, kk, zH, zI]
  rfl
 refine zM (i := 8) (N := some 12) (v := ?_) (a' := ?_) #[ks,kt,ks,kt,kt,kt,ks,kt,ks,kt,kt,kt,kt,kt,kt,kt,kt,kt,kt] rfl rfl (zL HT_.1 (by kernel_rfl)) (fun _ _ _ h => h) (kx ⟨by rfl, ?_⟩) ?_ ?_
 rotate_left
 ·
  intro w'
  go_simp
  with_reducible rfl
 rotate_left
 ·
  simp only [kd, ky, kj, kk, zH, zI]
  rfl
 refine zM (i := 13) (N := some 17) (v := ?_) (a' := ?_) #[ks,kt,ks,kt,kt,kt,ks,kt,ks,kt,kt,kt,kt,ks,kt,kt,kt,kt,kt] rfl rfl (zL HT_.1 (by kernel_rfl)) (fun _ _ _ h => h) (kx ⟨by rfl, ?_⟩) ?_ ?_
 rotate_left
 ·
  intro w'
  go_simp
  with_reducible rfl
 rotate_left
 ·
  simp only [kd, ky, kj, kk, zH, zI]
  rfl
 refine take_ (i := 1) (N := some 5) (v := ?_) (a' := ?_) #[ks,ks,ks,kt,kt,kt,ks,kt,ks,kt,kt,kt,kt,ks,kt,kt,kt,kt,kt] rfl rfl (take_ofW HT_.1 HW_.1 (by kernel_rfl)) (fun _ _ _ h => h) (kx ⟨by rfl, ?_⟩) hHeld ?_ ?_
 rotate_left
 ·
  rintro w' ⟨s0, s1⟩
  go_simp
  with_reducible rfl
 rotate_left
 ·
  simp only [kd, ky, kj, kk, zH, zI]
  rfl
 refine take_ (i := 3) (N := some 7) (v := ?_) (a' := ?_) #[ks,ks,ks,ks,kt,kt,ks,kt,ks,kt,kt,kt,kt,ks,kt,kt,kt,kt,kt] rfl rfl (take_ofW HT_.1 HW_.1 (by kernel_rfl)) (fun _ _ _ h => h) (kx ⟨by rfl, ?_⟩) hHeld ?_ ?_
 rotate_left
 ·
  rintro w' ⟨s0, s1⟩
  go_simp
  with_reducible rfl
 rotate_left
 ·
  simp only [kd, ky, kj, kk, zH, zI]
  rfl
 refine zM (i := 4) (N := some 8) (v := ?_) (a' := ?_) #[ks,ks,ks,ks,ks,kt,ks,kt,ks,kt,kt,kt,kt,ks,kt,kt,kt,kt,kt] rfl rfl (zL HT_.1 (by kernel_rfl)) (fun _ _ _ h => h) (kx ⟨by rfl, ?_⟩) ?_ ?_
 rotate_left
 ·
  intro w'
  go_simp
  with_reducible rfl
 rotate_left
 ·
  simp only [kd, ky, kj, kk, zH, zI]
  rfl
 refine zM (i := 5) (N := some 9) (v := ?_) (a' := ?_) #[ks,ks,ks,ks,ks,ks,ks,kt,ks,kt,kt,kt,kt,ks,kt,kt,kt,kt,kt] rfl rfl (zL HT_.1 (by kernel_rfl)) (fun _ _ _ h => h) (kx ⟨by rfl, ?_⟩) ?_ ?_
 rotate_left
 ·
  intro w'
  go_simp
  with_reducible rfl
 rotate_left
 ·
  simp only [kd, ky, kj, kk, zH, zI]
  rfl
 refine take_ (i := 7) (N := some 11) (v := ?_) (a' := ?_) #[ks,ks,ks,ks,ks,ks,ks,ks,ks,kt,kt,kt,kt,ks,kt,kt,kt,kt,kt] rfl rfl (take_ofW HT_.1 HW_.1 (by kernel_rfl)) (fun _ _ _ h => h) (kx ⟨by rfl, ?_⟩) hHeld ?_ ?_
 rotate_left
 ·
  rintro w' ⟨s0, s1⟩
  go_simp
  with_reducible rfl
 rotate_left
 ·
  simp only [kd, ky, kj, kk, zH, zI]
  rfl
 refine take_ (i := 9) (N := some 13) (v := ?_) (a' := ?_) #[ks,ks,ks,ks,ks,ks,ks,ks,ks,ks,kt,kt,kt,ks,kt,kt,kt,kt,kt] rfl rfl (take_ofW HT_.1 HW_.1 (by kernel_rfl)) (fun _ _ _ h => h) (kx ⟨by rfl, ?_⟩) hHeld ?_ ?_
 rotate_left
 ·
  rintro w' ⟨s0, s1⟩
  go_simp
  with_reducible rfl
 rotate_left
 ·
  simp only [kd, ky, kj, kk, zH, zI]
  rfl
 refine zM (i := 10) (N := some 14) (v := ?_) (a' := ?_) #[ks,ks,ks,ks,ks,ks,ks,ks,ks,ks,ks,kt,kt,ks,kt,kt,kt,kt,kt] rfl rfl (zL HT_.1 (by kernel_rfl)) (fun _ _ _ h => h) (kx ⟨by rfl, ?_⟩) ?_ ?_
 rotate_left
 ·
  intro w'
  go_simp
  with_reducible rfl
 rotate_left
 ·
  simp only [kd, ky, kj, kk, zH, zI]
  rfl
 refine take_ (i := 14) (N := some 18) (v := ?_) (a' := ?_) #[ks,ks,ks,ks,ks,ks,ks,ks,ks,ks,ks,kt,kt,ks,ks,kt,kt,kt,kt] rfl rfl (take_ofW HT_.1 HW_.1 (by kernel_rfl)) (fun _ _ _ h => h) (kx ⟨by rfl, ?_⟩) hHeld ?_ ?_
 rotate_left
 ·
  rintro w' ⟨s0, s1⟩
  go_simp
  with_reducible rfl
 rotate_left
 ·
  simp only [kd, ky, kj, kk, zH, zI]
  rfl
 refine zM (i := 15) (N := some 19) (v := ?_) (a' := ?_) #[ks,ks,ks,ks,ks,ks,ks,ks,ks,ks,ks,kt,kt,ks,ks,ks,kt,kt,kt] rfl rfl (zL HT_.1 (by kernel_rfl)) (fun _ _ _ h => h) (kx ⟨by rfl, ?_⟩) ?_ ?_
 rotate_left
 ·
  intro w'
  go_simp
  with_reducible rfl
 rotate_left
 ·
  simp only [kd, ky, kj, kk, zH, zI]
  rfl
 refine one_ (i := 11) (N := some 15) #[ks,ks,ks,ks,ks,ks,ks,ks,ks,ks,ks,ks,kt,ks,ks,ks,kt,kt,kt] rfl rfl (one_of HT_.1 (by kernel_rfl)) (by decide) (fun K hK => ?_)
 refine goes_ Try.func96 (by kernel_rfl) rfl #[.int .i64 (wrap64 (a0_1 + 1))] (by rfl) rfl rfl (by (try simp only [kg, ke, kb]); rfl) ?_
 with_reducible refine (impl_sizeOf.calls (wrap64 (a0_1 + 1)) t188 _ A2.1).mono ?_
 rintro e w' ⟨rfl, ⟨nd, rfl⟩⟩
 refine ⟨_, rfl, ?_⟩
 refine hK.out _ _ ⟨(zj qf.1 0).trans rfl, (zj qf.1 1).trans rfl⟩ (fun hHeld => ?_)
 clear hK K
 refine norm_ (a' := ?_) ?_ ?_
 rotate_left
 ·
  show kd _ (some 15) _ = _
  simp only [kd, ky, kj, kk, zH, zI]
  rfl
 refine zM (i := 12) (N := some 16) (v := ?_) (a' := ?_) #[ks,ks,ks,ks,ks,ks,ks,ks,ks,ks,ks,ks,ks,ks,ks,ks,kt,kt,kt] rfl rfl (zL HT_.1 (by kernel_rfl)) (fun _ _ _ h => h) (kx ⟨by rfl, ?_⟩) ?_ ?_
 rotate_left
 ·
  intro w'
  go_simp
  with_reducible rfl
 rotate_left
 ·
  simp only [kd, ky, kj, kk, zH, zI]
  rfl
 refine zM (i := 16) (N := some 20) (v := ?_) (a' := ?_) #[ks,ks,ks,ks,ks,ks,ks,ks,ks,ks,ks,ks,ks,ks,ks,ks,ks,kt,kt] rfl rfl (zL HT_.1 (by kernel_rfl)) (fun _ _ _ h => h) (kx ⟨by rfl, ?_⟩) ?_ ?_
 rotate_left
 ·
  intro w'
  go_simp
  with_reducible rfl
 rotate_left
 ·
  simp only [kd, ky, kj, kk, zH, zI]
  rfl
 refine one_ (i := 17) (N := none) #[ks,ks,ks,ks,ks,ks,ks,ks,ks,ks,ks,ks,ks,ks,ks,ks,ks,ks,kt] rfl rfl (one_of HT_.1 (by kernel_rfl)) (by decide) (fun K hK => ?_)
 have hs7 : w6.cell? ⟨gb186, 0, none⟩ = some (.int .i64 0) := (zj qq.1 0).trans rfl
 have hfs7 := zg qq.1 0
 have hns7_0 := qm.1
 have hns7_2 := qp.1
 have hms7_0 := NB186_185.1
 have hms7_2 := qo.1
 have hs8 : w6.cell? ⟨gb186, 1, none⟩ = some (.int .i64 0) := (zj qq.1 1).trans rfl
 have hfs8 := zg qq.1 1
 have hns8_0 := qm.1
 have hns8_2 := qp.1
 have hms8_0 := NB186_185.1
 have hms8_2 := qo.1
 refine skip_ (w1 := ?_) (by rfl) rfl ?_ ?_
 rotate_left
 ·
  go_simp
  rfl
 refine hK.out _ _ ⟨((zK (p := ⟨gb186, _, none⟩) qm.1 _).trans (((zK (p := ⟨gb186, _, none⟩) qm.1 _).trans (hHeld.1)))), ((zK (p := ⟨gb186, _, none⟩) qm.1 _).trans (((zK (p := ⟨gb186, _, none⟩) qm.1 _).trans (hHeld.2))))⟩ (fun hHeld => ?_)
 clear hK K
 refine one_ (i := 18) (N := none) #[ks,ks,ks,ks,ks,ks,ks,ks,ks,ks,ks,ks,ks,ks,ks,ks,ks,ks,ks] rfl rfl (one_of HT_.1 (by kernel_rfl)) (by decide) (fun K hK => ?_)
 have hs9 : w6.cell? ⟨gb187, 0, none⟩ = some (.int .i64 0) := (zj qs.1 0).trans rfl
 have hfs9 := zg qs.1 0
 have hns9_0 := qn.1
 have hns9_1 := qo.1
 have hms9_0 := NB187_185.1
 have hms9_1 := qp.1
 have hs10 : w6.cell? ⟨gb187, 1, none⟩ = some (.int .i64 0) := (zj qs.1 1).trans rfl
 have hfs10 := zg qs.1 1
 have hns10_0 := qn.1
 have hns10_1 := qo.1
 have hms10_0 := NB187_185.1
 have hms10_1 := qp.1
 refine skip_ (w1 := ?_) (by rfl) rfl ?_ ?_
 rotate_left
 ·
  go_simp
  rfl
 refine hK.out _ _ ⟨((zK (p := ⟨gb187, _, none⟩) qn.1 _).trans (((zK (p := ⟨gb187, _, none⟩) qn.1 _).trans (hHeld.1)))), ((zK (p := ⟨gb187, _, none⟩) qn.1 _).trans (((zK (p := ⟨gb187, _, none⟩) qn.1 _).trans (hHeld.2))))⟩ (fun hHeld => ?_)
 clear hK K
 refine done_ (done_of HT_.1 (by kernel_rfl)) ?_
 try go_wp2
 refine bodyPost_ret (results_cc rfl _ _ gb186 gb187 37 37 #[.int .i64 a0_0, .int .i64 (wrap64 (a0_1 + 1))] #[.int .i64 (wrap64 (a0_0 + t188)), .int .i64 (wrap64 (a0_1 + 1))] (0, 0) (0, 0) _ _ rfl (by refine zn ?_ qo.1 _; refine zn ?_ qo.1 _; refine zx (cs := #[.int .i64 a0_0, .int .i64 0]) ?_ 1 _ rfl; refine zx (cs := #[.int .i64 0, .int .i64 0]) ?_ 0 _ rfl; (with_reducible repeat (refine zb ?_ _)); exact qq.1) ko rfl (by kernel_rfl) rfl (by refine zx (cs := #[.int .i64 (wrap64 (a0_0 + t188)), .int .i64 0]) ?_ 1 _ rfl; refine zx (cs := #[.int .i64 0, .int .i64 0]) ?_ 0 _ rfl; refine zn ?_ qp.1 _; refine zn ?_ qp.1 _; (with_reducible repeat (refine zb ?_ _)); exact qs.1) ko rfl (by kernel_rfl)) rfl ?_
 exact ⟨by rfl, by repeat ((with_reducible first | exact HB.1 | apply zf | refine ze ?_ GE186.1 | refine ze ?_ GE187.1))⟩
/-! ### impl_entriesBelow: function 73 -/
mutual
def impl_entriesBelow.j0 : Nat → List (S86) → List (S39) → Int → Int → Int → Int → Bool → Int → Option ((List (S39)))
 | 0, _, _, _, _, _, _, _, _ => none
 | k + 1, x0, x3, x190000, x190001, x192000, x192001, x192002, x192003 => if x190001 = 32 then (some x3) else ((impl_Prefix_halves.f x190000 x190001).bind fun bt195 => (if x192000 > 0 then ((impl_entriesBelow.f k x0 x192000 bt195.1 bt195.2.1 x3).bind fun t201 => (if x192001 > 0 then ((impl_entriesBelow.f k x0 x192001 bt195.2.2.1 bt195.2.2.2 t201).bind fun t204 => (some t204)) else (some t201))) else (if x192001 > 0 then ((impl_entriesBelow.f k x0 x192001 bt195.2.2.1 bt195.2.2.2 x3).bind fun t207 => (some t207)) else (some x3))))
def impl_entriesBelow.f : Nat → List (S86) → Int → Int → Int → List (S39) → Option ((List (S39)))
 | 0, _, _, _, _, _ => none
 | k + 1, l0, a1, a2_0, a2_1, l3 => if 0 ≤ a1 then (if a1 < (l0.length : Int) then (if (rd_T86 l0 a1).f2 = true then (if l3.length < 5864062014805 then (impl_entriesBelow.j0 k l0 (l3 ++ [(⟨(⟨a2_0, a2_1⟩ : S37), (rd_T86 l0 a1).f3⟩ : S39)]) a2_0 a2_1 ((rd_T86 l0 a1).f0) ((rd_T86 l0 a1).f1) ((rd_T86 l0 a1).f2) ((rd_T86 l0 a1).f3)) else (none)) else (impl_entriesBelow.j0 k l0 l3 a2_0 a2_1 ((rd_T86 l0 a1).f0) ((rd_T86 l0 a1).f1) ((rd_T86 l0 a1).f2) ((rd_T86 l0 a1).f3))) else (none)) else (none)
end
theorem impl_entriesBelow.calls (k : Nat) : ∀ (A0 : Option Addr) (c0 : Nat) (l0 : List (S86)) (a1 : Int) (a2_0 : Int) (a2_1 : Int) (P3_ : Nat → Prop) (u9000_ : Value) (l3 : List (S39)) (r : List (S39)) (w0 w : World) (hB : Below w0.heap.size w0 w) (hr0 : ∀ W_, Kept w W_ (fun k_ => P3_ k_) → Kd.C k86 W_ A0 l0.length l0) (hc0 : l0.length ≤ c0) (ho3 : Kd.R k39 39 w w0.heap.size P3_ u9000_ l3) (h : impl_entriesBelow.f k l0 a1 a2_0 a2_1 l3 = some r),
  Calls Try.prog 73 #[.slice A0 l0.length c0, .int .i64 a1, .agg #[.int .i64 a2_0, .int .i64 a2_1], u9000_] w fun e w' => ∃ v0_ : Value, e = .returned (v0_) ∧ Kd.R k39 39 w' w0.heap.size (fun k_ => (P3_ k_ ∨ w.heap.size ≤ k_)) v0_ r ∧ Below w0.heap.size w0 w' ∧ Kept w w' (fun k_ => P3_ k_) := by
 induction k using Nat.strongRecOn with
 | _ k ih =>
 intro A0 c0 l0 a1 a2_0 a2_1 P3_ u9000_ l3 r w0 w hB hr0 hc0 ho3 h
 cases k with
 | zero => exact absurd h (by simp [impl_entriesBelow.f])
 | succ k =>
 simp only [impl_entriesBelow.f] at h
 have hu37 := ko
 have hu86 := Try.underlying86
 have hu39 := Try.underlying39
 have HR0 := kz hr0
 have HC0 := kz hc0
 clear hr0 hc0
 have HO3 := kz (show Kd.R k39 39 w w0.heap.size (fun k_ => (P3_ k_ ∨ w.heap.size ≤ k_)) u9000_ l3 from zB ho3 (fun k_ hk => (.inl hk)))
 have HK := kz (Kept.refl w (fun k_ => P3_ k_))
 have HW0 := kz hB.size
 have HB := kz hB
 clear hB
 have H : (if 0 ≤ a1 then (if a1 < (l0.length : Int) then (if (rd_T86 l0 a1).f2 = true then (if l3.length < 5864062014805 then (impl_entriesBelow.j0 k l0 (l3 ++ [(⟨(⟨a2_0, a2_1⟩ : S37), (rd_T86 l0 a1).f3⟩ : S39)]) a2_0 a2_1 ((rd_T86 l0 a1).f0) ((rd_T86 l0 a1).f1) ((rd_T86 l0 a1).f2) ((rd_T86 l0 a1).f3)) else (none)) else (impl_entriesBelow.j0 k l0 l3 a2_0 a2_1 ((rd_T86 l0 a1).f0) ((rd_T86 l0 a1).f1) ((rd_T86 l0 a1).f2) ((rd_T86 l0 a1).f3))) else (none)) else (none)) = some r := h
 clear h
 by_cases c5 : 0 ≤ a1
 ·
  rw [if_pos c5] at H
  have c5b0 : decide (0 ≤ a1) = true := decide_eq_true c5
  clear c5
  by_cases c6 : a1 < (l0.length : Int)
  ·
   rw [if_pos c6] at H
   have c6b0 : decide (a1 < (l0.length : Int)) = true := decide_eq_true c6
   clear c6
   have HC7 := kz H
   clear H
   go_enter ku, Try.ntmps73
   go_upto_if 17 with (first | ((with_reducible refine zG (N := 6) rfl ?_); refine zD rfl (N := 6) rfl (cs := #[.int .i64 a2_0, .int .i64 a2_1]) (t := 37) ?hr ?_; (case hr => go_simp; done); intro gb189 hg w8 hbox hb; replace HO3 := kz (zz HO3.1 hb); replace HK := kz (zy HK.1 hb); replace HB := kz (zu HB.1 hb); have zO := kz hbox; clear hb hbox hg; have p190 : 0 ≤ (a1 : Int) := of_decide_eq_true (by (with_reducible assumption)); have q190 : a1 < (l0.length : Int) := of_decide_eq_true (by (with_reducible assumption)); obtain ⟨ad190, e190, hx190_0, hx190_1, hx190_2, hx190_3⟩ := at_T86 (Kd.C_kept_now HR0.1 HK.1) a1 p190 q190; cases e190; replace p190 := eq_true p190; replace q190 := eq_true q190) | ((with_reducible refine zG (N := 9) rfl ?_); refine zD rfl (N := 9) rfl (cs := #[.int .i64 0, .int .i64 0, .bool false, .int .i64 0]) (t := 86) ?hr ?_; (case hr => go_simp; done); intro gb191 hg w9 hbox hb; replace HO3 := kz (zz HO3.1 hb); have zN := kz hbox; have zS := kz (by rw [hg]; exact (by exact HK.1.1) : w.heap.size ≤ gb191); replace HK := kz (zy HK.1 hb); have zU := kz (by rw [hg]; exact (zw HB.1) : w0.heap.size ≤ gb191); replace HB := kz (zu HB.1 hb); have zV := kz (by rw [hg]; exact kv (zt zO.1) : gb189 ≠ gb191); have qg := kz (by rw [hg]; exact kh (zt zO.1) : gb191 ≠ gb189); replace zO := kz (zq zO.1 hb); clear hb hbox hg; have hnb10 := qg.1; have hnc10 := zV.1; have hcz11_0 : w9.cell? ⟨gb191, 0, none⟩ = some (.int .i64 0) := (zj zN.1 0).trans rfl; have hcz11_1 : w9.cell? ⟨gb191, 1, none⟩ = some (.int .i64 0) := (zj zN.1 1).trans rfl; have hcz11_2 : w9.cell? ⟨gb191, 2, none⟩ = some (.bool false) := (zj zN.1 2).trans rfl; have hcz11_3 : w9.cell? ⟨gb191, 3, none⟩ = some (.int .i64 0) := (zj zN.1 3).trans rfl; have hfz11_0 := zg zN.1 0; have hfz11_1 := zg zN.1 1; have hfz11_2 := zg zN.1 2; have hfz11_3 := zg zN.1 3))
   (try simp only [kd, ky, kj, kk])
   go_cut [3] (fun v3 wc => ∃ (kq : Nat) (x3_6 : List (S39)), zs (impl_entriesBelow.j0 kq l0 x3_6 a2_0 a2_1 ((rd_T86 l0 a1).f0) ((rd_T86 l0 a1).f1) ((rd_T86 l0 a1).f2) ((rd_T86 l0 a1).f3) = some r) ∧ zs (kq ≤ k) ∧ zs (Kd.R k39 39 wc w0.heap.size (fun k_ => (P3_ k_ ∨ w.heap.size ≤ k_)) v3 x3_6) ∧ zs (wc.heap[gb189]? = some (.cells #[.int .i64 a2_0, .int .i64 a2_1] 37 (0, 0))) ∧ zs (wc.heap[gb191]? = some (.cells #[.int .i64 ((rd_T86 l0 a1).f0), .int .i64 ((rd_T86 l0 a1).f1), .bool ((rd_T86 l0 a1).f2), .int .i64 ((rd_T86 l0 a1).f3)] 86 (0, 0))) ∧ zs (Kept w wc (fun k_ => P3_ k_)) ∧ zs (Below w0.heap.size w0 wc))
   case first =>
    have H := HC7.1
    clear HC7
    obtain ⟨bq12, hbq12⟩ : ∃ b_ : Bool, b_ = ((rd_T86 l0 a1).f2) := ⟨_, rfl⟩
    replace H : (if bq12 = true then (if l3.length < 5864062014805 then (impl_entriesBelow.j0 k l0 (l3 ++ [(⟨(⟨a2_0, a2_1⟩ : S37), (rd_T86 l0 a1).f3⟩ : S39)]) a2_0 a2_1 ((rd_T86 l0 a1).f0) ((rd_T86 l0 a1).f1) bq12 ((rd_T86 l0 a1).f3)) else (none)) else (impl_entriesBelow.j0 k l0 l3 a2_0 a2_1 ((rd_T86 l0 a1).f0) ((rd_T86 l0 a1).f1) bq12 ((rd_T86 l0 a1).f3))) = some r := by rw [← hbq12] at H; exact H
    have Nbq12 := kz hbq12
    clear hbq12
    (try rw [← Nbq12.1])
    by_cases c13 : bq12 = true
    ·
     subst c13
     have H1 : (if l3.length < 5864062014805 then (impl_entriesBelow.j0 k l0 (l3 ++ [(⟨(⟨a2_0, a2_1⟩ : S37), (rd_T86 l0 a1).f3⟩ : S39)]) a2_0 a2_1 ((rd_T86 l0 a1).f0) ((rd_T86 l0 a1).f1) true ((rd_T86 l0 a1).f3)) else (none)) = some r := by rw [if_pos rfl] at H; exact H
     clear H
     have H := H1
     clear H1
     by_cases c14 : l3.length < 5864062014805
     ·
      rw [if_pos c14] at H
      have LMc14 := kz c14
      clear c14
      obtain ⟨y192, hy192⟩ : ∃ y_ : List (S39), y_ = (l3 ++ [(⟨(⟨a2_0, a2_1⟩ : S37), (rd_T86 l0 a1).f3⟩ : S39)]) := ⟨_, rfl⟩
      replace H : (impl_entriesBelow.j0 k l0 y192 a2_0 a2_1 ((rd_T86 l0 a1).f0) ((rd_T86 l0 a1).f1) true ((rd_T86 l0 a1).f3)) = some r := by (rw [hy192]; with_reducible exact H)
      have Ny192 := kz hy192
      clear hy192
      have H' := kz H
      clear H
      have hnb15 := zV.1
      have hnc15 := qg.1
      have hcz16_0 : w9.cell? ⟨gb189, 0, none⟩ = some (.int .i64 a2_0) := (zj zO.1 0).trans rfl
      have hcz16_1 : w9.cell? ⟨gb189, 1, none⟩ = some (.int .i64 a2_1) := (zj zO.1 1).trans rfl
      have hfz16_0 := zg zO.1 0
      have hfz16_1 := zg zO.1 1
      have hcz17_0 : w9.cell? ⟨gb191, 0, none⟩ = some (.int .i64 0) := (zj zN.1 0).trans rfl
      have hcz17_1 : w9.cell? ⟨gb191, 1, none⟩ = some (.int .i64 0) := (zj zN.1 1).trans rfl
      have hcz17_2 : w9.cell? ⟨gb191, 2, none⟩ = some (.bool false) := (zj zN.1 2).trans rfl
      have hcz17_3 : w9.cell? ⟨gb191, 3, none⟩ = some (.int .i64 0) := (zj zN.1 3).trans rfl
      have hfz17_0 := zg zN.1 0
      have hfz17_1 := zg zN.1 1
      have hfz17_2 := zg zN.1 2
      have hfz17_3 := zg zN.1 3
      go_wp2_with (((with_reducible refine gate_builtin (b := .append) (xs := #[.tmp 18, .tmp 23]) rfl ?_); at_builtin; refine Kd.R_append k39 (w0 := w0) w0.heap.size rfl (.tmp 18) (.tmp 23) 25 39 (.agg #[(.int .i64 0), (.int .i64 0), (.int .i64 0)]) 24 rfl Try.underlying25 info39 rfl (by decide) (by omega) u9000_ l3 (⟨(⟨a2_0, a2_1⟩ : S37), (rd_T86 l0 a1).f3⟩ : S39) [.int .i64 a2_0, .int .i64 a2_1, .int .i64 ((rd_T86 l0 a1).f3)] (fun k_ => (P3_ k_ ∨ w.heap.size ≤ k_)) (fun _ => False) rfl (by (go_simp; done)) ?aP (fun _ hk => hk.elim) ?aF ?aO ?aB ?aS ?aL ?_; (case aP => exact k39_mkM _ _ _ (⟨(⟨a2_0, a2_1⟩ : S37), (rd_T86 l0 a1).f3⟩ : S39)); (case aB => exact (by repeat ((with_reducible first | exact HB.1 | refine ze ?_ zU.1)))); (case aF => exact (fun k_ hk => (.inr (km (show Kept w _ (fun k_ => P3_ k_) from by repeat ((with_reducible first | exact HK.1 | refine za ?_ (.inr zS.1) _))).1 hk)))); (case aO => exact (by exact zB (zv (p := ⟨gb191, 3, none⟩) (zv (p := ⟨gb191, 2, none⟩) (zv (p := ⟨gb191, 1, none⟩) (zv (p := ⟨gb191, 0, none⟩) (zF HO3.1 zN.1 (by decide)) (fun _ hk => hk.2) _) (fun _ hk => hk.2) _) (fun _ hk => hk.2) _) (fun _ hk => hk.2) _) (fun _ hk => hk.1))); (case aS => exact (zw (by repeat ((with_reducible first | exact HB.1 | refine ze ?_ zU.1))))); (case aL => have := LMc14.1; omega); intro v193 w18 ho hb hg hat; rw [← Ny192.1] at ho; replace zO := kz (blk_grown (g := gb189) (o := .cells #[.int .i64 a2_0, .int .i64 a2_1] 37 (0, 0)) (by refine zn ?_ zV.1 _; refine zn ?_ zV.1 _; refine zn ?_ zV.1 _; refine zn ?_ zV.1 _; exact zO.1) hg (zE HO3.1 zO.1 (by decide))); replace zN := kz (blk_grown (g := gb191) (o := .cells #[.int .i64 ((rd_T86 l0 a1).f0), .int .i64 ((rd_T86 l0 a1).f1), .bool true, .int .i64 ((rd_T86 l0 a1).f3)] 86 (0, 0)) (by refine zx (cs := #[.int .i64 ((rd_T86 l0 a1).f0), .int .i64 ((rd_T86 l0 a1).f1), .bool (true), .int .i64 0]) ?_ 3 _ rfl; refine zx (cs := #[.int .i64 ((rd_T86 l0 a1).f0), .int .i64 ((rd_T86 l0 a1).f1), .bool false, .int .i64 0]) ?_ 2 _ rfl; refine zx (cs := #[.int .i64 ((rd_T86 l0 a1).f0), .int .i64 0, .bool false, .int .i64 0]) ?_ 1 _ rfl; refine zx (cs := #[.int .i64 0, .int .i64 0, .bool false, .int .i64 0]) ?_ 0 _ rfl; exact zN.1) hg (zE HO3.1 zN.1 (by decide))); replace HB := kz hb; replace HK := kz (Kept.of_grown (S := (fun k_ => P3_ k_)) hg (by repeat ((with_reducible first | exact HK.1 | refine za ?_ (.inr zS.1) _))) (fun k_ e_ => (HO3.1.1 k_ e_))); have HO194 := kz ho; clear ho hb hg hat))
      go_meet
      case rel => (try rw [← Nbq12.1]); exact ⟨_, (y192), H', ⟨by omega⟩, ⟨by (try rw [← Nbq12.1]); exact HO194.1⟩, ⟨by (try rw [← Nbq12.1]); exact zO.1⟩, ⟨by (try rw [← Nbq12.1]); exact zN.1⟩, ⟨by exact HK.1⟩, ⟨by exact HB.1⟩⟩
     ·
      rw [if_neg c14] at H
      exact absurd H (by simp)
    ·
     replace c13 := Bool.eq_false_iff.mpr c13
     subst c13
     have H1 : (impl_entriesBelow.j0 k l0 l3 a2_0 a2_1 ((rd_T86 l0 a1).f0) ((rd_T86 l0 a1).f1) false ((rd_T86 l0 a1).f3)) = some r := by rw [if_neg (show ¬ (false = true) by decide)] at H; exact H
     clear H
     have H := H1
     clear H1
     have H' := kz H
     clear H
     go_wp2
     go_meet
     case rel => (try rw [← Nbq12.1]); exact ⟨_, (l3), H', ⟨by omega⟩, ⟨by (try rw [← Nbq12.1]); exact zB (zv (p := ⟨gb191, 3, none⟩) (zv (p := ⟨gb191, 2, none⟩) (zv (p := ⟨gb191, 1, none⟩) (zv (p := ⟨gb191, 0, none⟩) (zF HO3.1 zN.1 (by decide)) (fun _ hk => hk.2) _) (fun _ hk => hk.2) _) (fun _ hk => hk.2) _) (fun _ hk => hk.2) _) (fun _ hk => hk.1)⟩, ⟨by (try rw [← Nbq12.1]); refine zn ?_ zV.1 _; refine zn ?_ zV.1 _; refine zn ?_ zV.1 _; refine zn ?_ zV.1 _; exact zO.1⟩, ⟨by (try rw [← Nbq12.1]); refine zx (cs := #[.int .i64 ((rd_T86 l0 a1).f0), .int .i64 ((rd_T86 l0 a1).f1), .bool (false), .int .i64 0]) ?_ 3 _ rfl; refine zx (cs := #[.int .i64 ((rd_T86 l0 a1).f0), .int .i64 ((rd_T86 l0 a1).f1), .bool false, .int .i64 0]) ?_ 2 _ rfl; refine zx (cs := #[.int .i64 ((rd_T86 l0 a1).f0), .int .i64 0, .bool false, .int .i64 0]) ?_ 1 _ rfl; refine zx (cs := #[.int .i64 0, .int .i64 0, .bool false, .int .i64 0]) ?_ 0 _ rfl; exact zN.1⟩, ⟨by repeat ((with_reducible first | exact HK.1 | refine za ?_ (.inr zS.1) _))⟩, ⟨by repeat ((with_reducible first | exact HB.1 | refine ze ?_ zU.1))⟩⟩
   case rest =>
    clear HC7
    obtain ⟨kq, x3_6, HA, HJ6, HO_3, zO, zN, HK, HB⟩ := hcut
    cases kq with
    | zero => exact absurd HA.1 (by simp [impl_entriesBelow.j0])
    | succ kj6 =>
     have H := HA.1
     clear HA
     simp only [impl_entriesBelow.j0] at H
     by_cases c19 : a2_1 = 32
     ·
      rw [if_pos c19] at H
      have c19b0 : (a2_1 == 32) = true := beq_iff_eq.mpr c19
      have c19b1 : (a2_1 != 32) = false := bne_eq_false_iff_eq.mpr c19
      clear c19
      obtain rfl := kc H
      have hnb20 := zV.1
      have hnc20 := qg.1
      have hcz21_0 : wc.cell? ⟨gb189, 0, none⟩ = some (.int .i64 a2_0) := (zj zO.1 0).trans rfl
      have hcz21_1 : wc.cell? ⟨gb189, 1, none⟩ = some (.int .i64 a2_1) := (zj zO.1 1).trans rfl
      have hfz21_0 := zg zO.1 0
      have hfz21_1 := zg zO.1 1
      go_wp2
      go_ret
      exact ⟨_, by rfl, by exact HO_3.1, by exact HB.1, by exact HK.1⟩
     ·
      rw [if_neg c19] at H
      have c19b0 : (a2_1 == 32) = false := beq_eq_false_iff_ne.mpr c19
      have c19b1 : (a2_1 != 32) = true := bne_iff_ne.mpr c19
      replace H := kf.mp H
      obtain ⟨⟨t195, t196, t197, t198⟩, A220, H⟩ := H
      replace H : (if ((rd_T86 l0 a1).f0) > 0 then ((impl_entriesBelow.f kj6 l0 ((rd_T86 l0 a1).f0) t195 t196 x3_6).bind fun t201 => (if ((rd_T86 l0 a1).f1) > 0 then ((impl_entriesBelow.f kj6 l0 ((rd_T86 l0 a1).f1) t197 t198 t201).bind fun t204 => (some t204)) else (some t201))) else (if ((rd_T86 l0 a1).f1) > 0 then ((impl_entriesBelow.f kj6 l0 ((rd_T86 l0 a1).f1) t197 t198 x3_6).bind fun t207 => (some t207)) else (some x3_6))) = some r := H
      have A22 := kz A220
      clear A220
      by_cases c23 : ((rd_T86 l0 a1).f0) > 0
      ·
       rw [if_pos c23] at H
       have c23b0 : decide (0 < ((rd_T86 l0 a1).f0)) = true := decide_eq_true c23
       clear c23
       replace H := kf.mp H
       obtain ⟨t201, A240, H⟩ := H
       replace H : (if ((rd_T86 l0 a1).f1) > 0 then ((impl_entriesBelow.f kj6 l0 ((rd_T86 l0 a1).f1) t197 t198 t201).bind fun t204 => (some t204)) else (some t201)) = some r := H
       have A24 := kz A240
       clear A240
       by_cases c25 : ((rd_T86 l0 a1).f1) > 0
       ·
        rw [if_pos c25] at H
        have c25b0 : decide (0 < ((rd_T86 l0 a1).f1)) = true := decide_eq_true c25
        clear c25
        replace H := kf.mp H
        obtain ⟨t204, A260, H⟩ := H
        replace H : (some t204) = some r := H
        have A26 := kz A260
        clear A260
        obtain rfl := kc H
        have hnb27 := zV.1
        have hnc27 := qg.1
        have hcz28_0 : wc.cell? ⟨gb189, 0, none⟩ = some (.int .i64 a2_0) := (zj zO.1 0).trans rfl
        have hcz28_1 : wc.cell? ⟨gb189, 1, none⟩ = some (.int .i64 a2_1) := (zj zO.1 1).trans rfl
        have hfz28_0 := zg zO.1 0
        have hfz28_1 := zg zO.1 1
        go_wp2_with (first | ((with_reducible refine zA (f := 95) rfl ?_); refine zJ (some 31) rfl rfl Try.func95 (by kernel_rfl) rfl #[.agg #[.int .i64 a2_0, .int .i64 a2_1]] rfl (by (try simp only [kg, ke, kb]); rfl) ?_; (with_reducible refine (impl_Prefix_halves.calls a2_0 a2_1 t195 t196 t197 t198 _ A22.1).mono ?_); rintro e w29 ⟨rfl, hb⟩; refine ⟨_, rfl, ?_⟩; replace HO_3 := kz (zz HO_3.1 hb); replace zO := kz (zq zO.1 hb); replace zN := kz (zq zN.1 hb); replace HK := kz (zy HK.1 hb); replace HB := kz (zu HB.1 hb)) | ((with_reducible refine zG (N := 10) rfl ?_); refine zD rfl (N := 10) rfl (cs := #[.int .i64 0, .int .i64 0]) (t := 37) ?hr ?_; (case hr => go_simp; done); intro gb199 hg w30 hbox hb; replace HO_3 := kz (zz HO_3.1 hb); have zP := kz hbox; have zW := kz (by rw [hg]; exact (by exact HK.1.1) : w.heap.size ≤ gb199); replace HK := kz (zy HK.1 hb); have qd := kz (by rw [hg]; exact (zw HB.1) : w0.heap.size ≤ gb199); replace HB := kz (zu HB.1 hb); have zX := kz (by rw [hg]; exact kv (zt zO.1) : gb189 ≠ gb199); have qh := kz (by rw [hg]; exact kh (zt zO.1) : gb199 ≠ gb189); replace zO := kz (zq zO.1 hb); have zY := kz (by rw [hg]; exact kv (zt zN.1) : gb191 ≠ gb199); have qi := kz (by rw [hg]; exact kh (zt zN.1) : gb199 ≠ gb191); replace zN := kz (zq zN.1 hb); clear hb hbox hg) | ((with_reducible refine zG (N := 11) rfl ?_); refine zD rfl (N := 11) rfl (cs := #[.int .i64 0, .int .i64 0]) (t := 37) ?hr ?_; (case hr => go_simp; done); intro gb200 hg w31 hbox hb; replace HO_3 := kz (zz HO_3.1 hb); have zQ := kz hbox; have qe := kz (by rw [hg]; exact (by exact HK.1.1) : w.heap.size ≤ gb200); replace HK := kz (zy HK.1 hb); have ql := kz (by rw [hg]; exact (zw HB.1) : w0.heap.size ≤ gb200); replace HB := kz (zu HB.1 hb); have zZ := kz (by rw [hg]; exact kv (zt zO.1) : gb189 ≠ gb200); have qj := kz (by rw [hg]; exact kh (zt zO.1) : gb200 ≠ gb189); replace zO := kz (zq zO.1 hb); have qa := kz (by rw [hg]; exact kv (zt zN.1) : gb191 ≠ gb200); have qk := kz (by rw [hg]; exact kh (zt zN.1) : gb200 ≠ gb191); replace zN := kz (zq zN.1 hb); have qb := kz (by rw [hg]; exact kv (zt zP.1) : gb199 ≠ gb200); have qc := kz (by rw [hg]; exact kh (zt zP.1) : gb200 ≠ gb199); replace zP := kz (zq zP.1 hb); clear hb hbox hg; have hnb32 := qh.1; have hnc32 := zX.1; have hnb33 := qi.1; have hnc33 := zY.1; have hnb34 := qb.1; have hnc34 := qc.1; have hcz35_0 : w31.cell? ⟨gb199, 0, none⟩ = some (.int .i64 0) := (zj zP.1 0).trans rfl; have hcz35_1 : w31.cell? ⟨gb199, 1, none⟩ = some (.int .i64 0) := (zj zP.1 1).trans rfl; have hfz35_0 := zg zP.1 0; have hfz35_1 := zg zP.1 1) | ((with_reducible refine gate_store (t := 37) (p := 10) rfl ?_); refine store_event (t := 37) (p := 10) (v := ?vo_w36) (w1 := ((w31.setCell ⟨gb199, 0, none⟩ (.int .i64 t195)).setCell ⟨gb199, 1, none⟩ (.int .i64 t196))) ?hg ?ho ?hn ?hr ?_; (case ho => rfl); (case hg => rfl); (case hn => rfl); (case hr => go_simp; done); intro w36 hw; have n0_ : zs (Kd.R k39 39 w36 w0.heap.size (fun k_ => (P3_ k_ ∨ w.heap.size ≤ k_)) u3 x3_6) := ⟨by rw [hw]; exact zB (zv (p := ⟨gb199, 1, none⟩) (zv (p := ⟨gb199, 0, none⟩) (zF HO_3.1 zP.1 (by decide)) (fun _ hk => hk.2) _) (fun _ hk => hk.2) _) (fun _ hk => hk.1)⟩; have n1_ : zs (w36.heap[gb189]? = some (.cells #[.int .i64 a2_0, .int .i64 a2_1] 37 (0, 0))) := ⟨by rw [hw]; refine zn ?_ zX.1 _; refine zn ?_ zX.1 _; exact zO.1⟩; have n2_ : zs (w36.heap[gb191]? = some (.cells #[.int .i64 ((rd_T86 l0 a1).f0), .int .i64 ((rd_T86 l0 a1).f1), .bool ((rd_T86 l0 a1).f2), .int .i64 ((rd_T86 l0 a1).f3)] 86 (0, 0))) := ⟨by rw [hw]; refine zn ?_ zY.1 _; refine zn ?_ zY.1 _; exact zN.1⟩; have n3_ : zs (w36.heap[gb199]? = some (.cells #[.int .i64 t195, .int .i64 t196] 37 (0, 0))) := ⟨by rw [hw]; refine zx (cs := #[.int .i64 t195, .int .i64 0]) ?_ 1 _ rfl; refine zx (cs := #[.int .i64 0, .int .i64 0]) ?_ 0 _ rfl; exact zP.1⟩; have n4_ : zs (w36.heap[gb200]? = some (.cells #[.int .i64 0, .int .i64 0] 37 (0, 0))) := ⟨by rw [hw]; refine zn ?_ qc.1 _; refine zn ?_ qc.1 _; exact zQ.1⟩; have n5_ : zs (Kept w w36 (fun k_ => P3_ k_)) := ⟨by rw [hw]; repeat ((with_reducible first | exact HK.1 | refine za ?_ (.inr zW.1) _))⟩; have n6_ : zs (Below w0.heap.size w0 w36) := ⟨by rw [hw]; repeat ((with_reducible first | exact HB.1 | refine ze ?_ qd.1))⟩; clear hw HO_3 zO zN zP zQ HK HB; have HO_3 := n0_; have zO := n1_; have zN := n2_; have zP := n3_; have zQ := n4_; have HK := n5_; have HB := n6_; clear n0_ n1_ n2_ n3_ n4_ n5_ n6_; have hnb37 := qj.1; have hnc37 := zZ.1; have hnb38 := qk.1; have hnc38 := qa.1; have hcz39_0 : w36.cell? ⟨gb200, 0, none⟩ = some (.int .i64 0) := (zj zQ.1 0).trans rfl; have hcz39_1 : w36.cell? ⟨gb200, 1, none⟩ = some (.int .i64 0) := (zj zQ.1 1).trans rfl; have hfz39_0 := zg zQ.1 0; have hfz39_1 := zg zQ.1 1) | ((with_reducible refine gate_store (t := 37) (p := 11) rfl ?_); refine store_event (t := 37) (p := 11) (v := ?vo_w40) (w1 := ((w36.setCell ⟨gb200, 0, none⟩ (.int .i64 t197)).setCell ⟨gb200, 1, none⟩ (.int .i64 t198))) ?hg ?ho ?hn ?hr ?_; (case ho => rfl); (case hg => rfl); (case hn => rfl); (case hr => go_simp; done); intro w40 hw; have n0_ : zs (Kd.R k39 39 w40 w0.heap.size (fun k_ => (P3_ k_ ∨ w.heap.size ≤ k_)) u3 x3_6) := ⟨by rw [hw]; exact zB (zv (p := ⟨gb200, 1, none⟩) (zv (p := ⟨gb200, 0, none⟩) (zF HO_3.1 zQ.1 (by decide)) (fun _ hk => hk.2) _) (fun _ hk => hk.2) _) (fun _ hk => hk.1)⟩; have n1_ : zs (w40.heap[gb189]? = some (.cells #[.int .i64 a2_0, .int .i64 a2_1] 37 (0, 0))) := ⟨by rw [hw]; refine zn ?_ zZ.1 _; refine zn ?_ zZ.1 _; exact zO.1⟩; have n2_ : zs (w40.heap[gb191]? = some (.cells #[.int .i64 ((rd_T86 l0 a1).f0), .int .i64 ((rd_T86 l0 a1).f1), .bool ((rd_T86 l0 a1).f2), .int .i64 ((rd_T86 l0 a1).f3)] 86 (0, 0))) := ⟨by rw [hw]; refine zn ?_ qa.1 _; refine zn ?_ qa.1 _; exact zN.1⟩; have n3_ : zs (w40.heap[gb199]? = some (.cells #[.int .i64 t195, .int .i64 t196] 37 (0, 0))) := ⟨by rw [hw]; refine zn ?_ qb.1 _; refine zn ?_ qb.1 _; exact zP.1⟩; have n4_ : zs (w40.heap[gb200]? = some (.cells #[.int .i64 t197, .int .i64 t198] 37 (0, 0))) := ⟨by rw [hw]; refine zx (cs := #[.int .i64 t197, .int .i64 0]) ?_ 1 _ rfl; refine zx (cs := #[.int .i64 0, .int .i64 0]) ?_ 0 _ rfl; exact zQ.1⟩; have n5_ : zs (Kept w w40 (fun k_ => P3_ k_)) := ⟨by rw [hw]; repeat ((with_reducible first | exact HK.1 | refine za ?_ (.inr qe.1) _))⟩; have n6_ : zs (Below w0.heap.size w0 w40) := ⟨by rw [hw]; repeat ((with_reducible first | exact HB.1 | refine ze ?_ ql.1))⟩; clear hw HO_3 zO zN zP zQ HK HB; have HO_3 := n0_; have zO := n1_; have zN := n2_; have zP := n3_; have zQ := n4_; have HK := n5_; have HB := n6_; clear n0_ n1_ n2_ n3_ n4_ n5_ n6_; have hcz41_0 : w40.cell? ⟨gb191, 0, none⟩ = some (.int .i64 ((rd_T86 l0 a1).f0)) := (zj zN.1 0).trans rfl; have hcz41_1 : w40.cell? ⟨gb191, 1, none⟩ = some (.int .i64 ((rd_T86 l0 a1).f1)) := (zj zN.1 1).trans rfl; have hcz41_2 : w40.cell? ⟨gb191, 2, none⟩ = some (.bool ((rd_T86 l0 a1).f2)) := (zj zN.1 2).trans rfl; have hcz41_3 : w40.cell? ⟨gb191, 3, none⟩ = some (.int .i64 ((rd_T86 l0 a1).f3)) := (zj zN.1 3).trans rfl; have hfz41_0 := zg zN.1 0; have hfz41_1 := zg zN.1 1; have hfz41_2 := zg zN.1 2; have hfz41_3 := zg zN.1 3; have hcz42_0 : w40.cell? ⟨gb199, 0, none⟩ = some (.int .i64 t195) := (zj zP.1 0).trans rfl; have hcz42_1 : w40.cell? ⟨gb199, 1, none⟩ = some (.int .i64 t196) := (zj zP.1 1).trans rfl; have hfz42_0 := zg zP.1 0; have hfz42_1 := zg zP.1 1; obtain ⟨Ao43, co43, eo43⟩ := Kd.R_slice HO_3.1; subst eo43) | ((with_reducible refine zA (f := 73) rfl ?_); refine zJ (some 42) rfl rfl ku (by kernel_rfl) rfl #[.slice (some ad190) l0.length c0, .int .i64 ((rd_T86 l0 a1).f0), .agg #[.int .i64 t195, .int .i64 t196], .slice Ao43 x3_6.length co43] rfl (by (try simp only [kg, ke, kb]); rfl) ?_; (with_reducible refine (ih kj6 (by have := HJ6.1; omega) _ _ l0 ((rd_T86 l0 a1).f0) t195 t196 (fun k_ => some k_ = (.slice Ao43 x3_6.length co43 : Value).ownBlock) (.slice Ao43 x3_6.length co43) x3_6 t201 w0 _ ?side1 ?side2 ?side3 ?side4 A24.1).mono ?_); (case side1 => repeat (with_reducible exact HB.1)); (case side2 => exact Kd.C_kept_call HR0.1 HK.1 (fun k_ hs_ => (fun e_ => (HO_3.1.1 k_ e_.symm)) hs_)); (case side3 => exact HC0.1); (case side4 => exact Kd.R_tight rfl HO_3.1); rintro e w44 ⟨v202, rfl, ho0, hb, hkp⟩; refine ⟨_, rfl, ?_⟩; replace zO := kz (zC zO.1 hkp (fun hs_ => (fun e_ => (zE HO_3.1 zO.1 (by decide)) e_) hs_)); replace zN := kz (zC zN.1 hkp (fun hs_ => (fun e_ => (zE HO_3.1 zN.1 (by decide)) e_) hs_)); replace zP := kz (zC zP.1 hkp (fun hs_ => (fun e_ => (zE HO_3.1 zP.1 (by decide)) e_) hs_)); replace zQ := kz (zC zQ.1 hkp (fun hs_ => (fun e_ => (zE HO_3.1 zQ.1 (by decide)) e_) hs_)); have qr := kz (zB (ok' := fun k_ => (P3_ k_ ∨ w.heap.size ≤ k_)) ho0 (fun k_ hk_ => Or.elim hk_ (fun hs_ => (HO_3.1.1 k_ (hs_).symm)) (fun hn_ => (.inr (km (by exact HK.1.1) hn_))))); replace HK := kz (Kept.then_ HK.1 hkp (fun k_ hs_ => (fun e_ => (HO_3.1.1 k_ e_.symm)) hs_)); replace HB := kz hb; have hcz45_0 : w44.cell? ⟨gb191, 0, none⟩ = some (.int .i64 ((rd_T86 l0 a1).f0)) := (zj zN.1 0).trans rfl; have hcz45_1 : w44.cell? ⟨gb191, 1, none⟩ = some (.int .i64 ((rd_T86 l0 a1).f1)) := (zj zN.1 1).trans rfl; have hcz45_2 : w44.cell? ⟨gb191, 2, none⟩ = some (.bool ((rd_T86 l0 a1).f2)) := (zj zN.1 2).trans rfl; have hcz45_3 : w44.cell? ⟨gb191, 3, none⟩ = some (.int .i64 ((rd_T86 l0 a1).f3)) := (zj zN.1 3).trans rfl; have hfz45_0 := zg zN.1 0; have hfz45_1 := zg zN.1 1; have hfz45_2 := zg zN.1 2; have hfz45_3 := zg zN.1 3; have hcz46_0 : w44.cell? ⟨gb200, 0, none⟩ = some (.int .i64 t197) := (zj zQ.1 0).trans rfl; have hcz46_1 : w44.cell? ⟨gb200, 1, none⟩ = some (.int .i64 t198) := (zj zQ.1 1).trans rfl; have hfz46_0 := zg zQ.1 0; have hfz46_1 := zg zQ.1 1; obtain ⟨Ao47, co47, eo47⟩ := Kd.R_slice qr.1; subst eo47) | ((with_reducible refine zA (f := 73) rfl ?_); refine zJ (some 51) rfl rfl ku (by kernel_rfl) rfl #[.slice (some ad190) l0.length c0, .int .i64 ((rd_T86 l0 a1).f1), .agg #[.int .i64 t197, .int .i64 t198], .slice Ao47 t201.length co47] rfl (by (try simp only [kg, ke, kb]); rfl) ?_; (with_reducible refine (ih kj6 (by have := HJ6.1; omega) _ _ l0 ((rd_T86 l0 a1).f1) t197 t198 (fun k_ => some k_ = (.slice Ao47 t201.length co47 : Value).ownBlock) (.slice Ao47 t201.length co47) t201 t204 w0 _ ?side1 ?side2 ?side3 ?side4 A26.1).mono ?_); (case side1 => repeat (with_reducible exact HB.1)); (case side2 => exact Kd.C_kept_call HR0.1 HK.1 (fun k_ hs_ => (fun e_ => (qr.1.1 k_ e_.symm)) hs_)); (case side3 => exact HC0.1); (case side4 => exact Kd.R_tight rfl qr.1); rintro e w48 ⟨v205, rfl, ho0, hb, hkp⟩; refine ⟨_, rfl, ?_⟩; replace zO := kz (zC zO.1 hkp (fun hs_ => (fun e_ => (zE qr.1 zO.1 (by decide)) e_) hs_)); replace zN := kz (zC zN.1 hkp (fun hs_ => (fun e_ => (zE qr.1 zN.1 (by decide)) e_) hs_)); replace zP := kz (zC zP.1 hkp (fun hs_ => (fun e_ => (zE qr.1 zP.1 (by decide)) e_) hs_)); replace zQ := kz (zC zQ.1 hkp (fun hs_ => (fun e_ => (zE qr.1 zQ.1 (by decide)) e_) hs_)); have HO206 := kz (zB (ok' := fun k_ => (P3_ k_ ∨ w.heap.size ≤ k_)) ho0 (fun k_ hk_ => Or.elim hk_ (fun hs_ => (qr.1.1 k_ (hs_).symm)) (fun hn_ => (.inr (km (by exact HK.1.1) hn_))))); replace HK := kz (Kept.then_ HK.1 hkp (fun k_ hs_ => (fun e_ => (qr.1.1 k_ e_.symm)) hs_)); replace HB := kz hb))
        go_ret
        exact ⟨_, by rfl, by exact HO206.1, by exact HB.1, by exact HK.1⟩
       ·
        rw [if_neg c25] at H
        have c25b0 : decide (0 < ((rd_T86 l0 a1).f1)) = false := decide_eq_false c25
        clear c25
        obtain rfl := kc H
        have hnb49 := zV.1
        have hnc49 := qg.1
        have hcz50_0 : wc.cell? ⟨gb189, 0, none⟩ = some (.int .i64 a2_0) := (zj zO.1 0).trans rfl
        have hcz50_1 : wc.cell? ⟨gb189, 1, none⟩ = some (.int .i64 a2_1) := (zj zO.1 1).trans rfl
        have hfz50_0 := zg zO.1 0
        have hfz50_1 := zg zO.1 1
        go_wp2_with (first | ((with_reducible refine zA (f := 95) rfl ?_); refine zJ (some 31) rfl rfl Try.func95 (by kernel_rfl) rfl #[.agg #[.int .i64 a2_0, .int .i64 a2_1]] rfl (by (try simp only [kg, ke, kb]); rfl) ?_; (with_reducible refine (impl_Prefix_halves.calls a2_0 a2_1 t195 t196 t197 t198 _ A22.1).mono ?_); rintro e w51 ⟨rfl, hb⟩; refine ⟨_, rfl, ?_⟩; replace HO_3 := kz (zz HO_3.1 hb); replace zO := kz (zq zO.1 hb); replace zN := kz (zq zN.1 hb); replace HK := kz (zy HK.1 hb); replace HB := kz (zu HB.1 hb)) | ((with_reducible refine zG (N := 10) rfl ?_); refine zD rfl (N := 10) rfl (cs := #[.int .i64 0, .int .i64 0]) (t := 37) ?hr ?_; (case hr => go_simp; done); intro gb199 hg w52 hbox hb; replace HO_3 := kz (zz HO_3.1 hb); have zP := kz hbox; have zW := kz (by rw [hg]; exact (by exact HK.1.1) : w.heap.size ≤ gb199); replace HK := kz (zy HK.1 hb); have qd := kz (by rw [hg]; exact (zw HB.1) : w0.heap.size ≤ gb199); replace HB := kz (zu HB.1 hb); have zX := kz (by rw [hg]; exact kv (zt zO.1) : gb189 ≠ gb199); have qh := kz (by rw [hg]; exact kh (zt zO.1) : gb199 ≠ gb189); replace zO := kz (zq zO.1 hb); have zY := kz (by rw [hg]; exact kv (zt zN.1) : gb191 ≠ gb199); have qi := kz (by rw [hg]; exact kh (zt zN.1) : gb199 ≠ gb191); replace zN := kz (zq zN.1 hb); clear hb hbox hg) | ((with_reducible refine zG (N := 11) rfl ?_); refine zD rfl (N := 11) rfl (cs := #[.int .i64 0, .int .i64 0]) (t := 37) ?hr ?_; (case hr => go_simp; done); intro gb200 hg w53 hbox hb; replace HO_3 := kz (zz HO_3.1 hb); have zQ := kz hbox; have qe := kz (by rw [hg]; exact (by exact HK.1.1) : w.heap.size ≤ gb200); replace HK := kz (zy HK.1 hb); have ql := kz (by rw [hg]; exact (zw HB.1) : w0.heap.size ≤ gb200); replace HB := kz (zu HB.1 hb); have zZ := kz (by rw [hg]; exact kv (zt zO.1) : gb189 ≠ gb200); have qj := kz (by rw [hg]; exact kh (zt zO.1) : gb200 ≠ gb189); replace zO := kz (zq zO.1 hb); have qa := kz (by rw [hg]; exact kv (zt zN.1) : gb191 ≠ gb200); have qk := kz (by rw [hg]; exact kh (zt zN.1) : gb200 ≠ gb191); replace zN := kz (zq zN.1 hb); have qb := kz (by rw [hg]; exact kv (zt zP.1) : gb199 ≠ gb200); have qc := kz (by rw [hg]; exact kh (zt zP.1) : gb200 ≠ gb199); replace zP := kz (zq zP.1 hb); clear hb hbox hg; have hnb54 := qh.1; have hnc54 := zX.1; have hnb55 := qi.1; have hnc55 := zY.1; have hnb56 := qb.1; have hnc56 := qc.1; have hcz57_0 : w53.cell? ⟨gb199, 0, none⟩ = some (.int .i64 0) := (zj zP.1 0).trans rfl; have hcz57_1 : w53.cell? ⟨gb199, 1, none⟩ = some (.int .i64 0) := (zj zP.1 1).trans rfl; have hfz57_0 := zg zP.1 0; have hfz57_1 := zg zP.1 1) | ((with_reducible refine gate_store (t := 37) (p := 10) rfl ?_); refine store_event (t := 37) (p := 10) (v := ?vo_w58) (w1 := ((w53.setCell ⟨gb199, 0, none⟩ (.int .i64 t195)).setCell ⟨gb199, 1, none⟩ (.int .i64 t196))) ?hg ?ho ?hn ?hr ?_; (case ho => rfl); (case hg => rfl); (case hn => rfl); (case hr => go_simp; done); intro w58 hw; have n0_ : zs (Kd.R k39 39 w58 w0.heap.size (fun k_ => (P3_ k_ ∨ w.heap.size ≤ k_)) u3 x3_6) := ⟨by rw [hw]; exact zB (zv (p := ⟨gb199, 1, none⟩) (zv (p := ⟨gb199, 0, none⟩) (zF HO_3.1 zP.1 (by decide)) (fun _ hk => hk.2) _) (fun _ hk => hk.2) _) (fun _ hk => hk.1)⟩; have n1_ : zs (w58.heap[gb189]? = some (.cells #[.int .i64 a2_0, .int .i64 a2_1] 37 (0, 0))) := ⟨by rw [hw]; refine zn ?_ zX.1 _; refine zn ?_ zX.1 _; exact zO.1⟩; have n2_ : zs (w58.heap[gb191]? = some (.cells #[.int .i64 ((rd_T86 l0 a1).f0), .int .i64 ((rd_T86 l0 a1).f1), .bool ((rd_T86 l0 a1).f2), .int .i64 ((rd_T86 l0 a1).f3)] 86 (0, 0))) := ⟨by rw [hw]; refine zn ?_ zY.1 _; refine zn ?_ zY.1 _; exact zN.1⟩; have n3_ : zs (w58.heap[gb199]? = some (.cells #[.int .i64 t195, .int .i64 t196] 37 (0, 0))) := ⟨by rw [hw]; refine zx (cs := #[.int .i64 t195, .int .i64 0]) ?_ 1 _ rfl; refine zx (cs := #[.int .i64 0, .int .i64 0]) ?_ 0 _ rfl; exact zP.1⟩; have n4_ : zs (w58.heap[gb200]? = some (.cells #[.int .i64 0, .int .i64 0] 37 (0, 0))) := ⟨by rw [hw]; refine zn ?_ qc.1 _; refine zn ?_ qc.1 _; exact zQ.1⟩; have n5_ : zs (Kept w w58 (fun k_ => P3_ k_)) := ⟨by rw [hw]; repeat ((with_reducible first | exact HK.1 | refine za ?_ (.inr zW.1) _))⟩; have n6_ : zs (Below w0.heap.size w0 w58) := ⟨by rw [hw]; repeat ((with_reducible first | exact HB.1 | refine ze ?_ qd.1))⟩; clear hw HO_3 zO zN zP zQ HK HB; have HO_3 := n0_; have zO := n1_; have zN := n2_; have zP := n3_; have zQ := n4_; have HK := n5_; have HB := n6_; clear n0_ n1_ n2_ n3_ n4_ n5_ n6_; have hnb59 := qj.1; have hnc59 := zZ.1; have hnb60 := qk.1; have hnc60 := qa.1; have hcz61_0 : w58.cell? ⟨gb200, 0, none⟩ = some (.int .i64 0) := (zj zQ.1 0).trans rfl; have hcz61_1 : w58.cell? ⟨gb200, 1, none⟩ = some (.int .i64 0) := (zj zQ.1 1).trans rfl; have hfz61_0 := zg zQ.1 0; have hfz61_1 := zg zQ.1 1) | ((with_reducible refine gate_store (t := 37) (p := 11) rfl ?_); refine store_event (t := 37) (p := 11) (v := ?vo_w62) (w1 := ((w58.setCell ⟨gb200, 0, none⟩ (.int .i64 t197)).setCell ⟨gb200, 1, none⟩ (.int .i64 t198))) ?hg ?ho ?hn ?hr ?_; (case ho => rfl); (case hg => rfl); (case hn => rfl); (case hr => go_simp; done); intro w62 hw; have n0_ : zs (Kd.R k39 39 w62 w0.heap.size (fun k_ => (P3_ k_ ∨ w.heap.size ≤ k_)) u3 x3_6) := ⟨by rw [hw]; exact zB (zv (p := ⟨gb200, 1, none⟩) (zv (p := ⟨gb200, 0, none⟩) (zF HO_3.1 zQ.1 (by decide)) (fun _ hk => hk.2) _) (fun _ hk => hk.2) _) (fun _ hk => hk.1)⟩; have n1_ : zs (w62.heap[gb189]? = some (.cells #[.int .i64 a2_0, .int .i64 a2_1] 37 (0, 0))) := ⟨by rw [hw]; refine zn ?_ zZ.1 _; refine zn ?_ zZ.1 _; exact zO.1⟩; have n2_ : zs (w62.heap[gb191]? = some (.cells #[.int .i64 ((rd_T86 l0 a1).f0), .int .i64 ((rd_T86 l0 a1).f1), .bool ((rd_T86 l0 a1).f2), .int .i64 ((rd_T86 l0 a1).f3)] 86 (0, 0))) := ⟨by rw [hw]; refine zn ?_ qa.1 _; refine zn ?_ qa.1 _; exact zN.1⟩; have n3_ : zs (w62.heap[gb199]? = some (.cells #[.int .i64 t195, .int .i64 t196] 37 (0, 0))) := ⟨by rw [hw]; refine zn ?_ qb.1 _; refine zn ?_ qb.1 _; exact zP.1⟩; have n4_ : zs (w62.heap[gb200]? = some (.cells #[.int .i64 t197, .int .i64 t198] 37 (0, 0))) := ⟨by rw [hw]; refine zx (cs := #[.int .i64 t197, .int .i64 0]) ?_ 1 _ rfl; refine zx (cs := #[.int .i64 0, .int .i64 0]) ?_ 0 _ rfl; exact zQ.1⟩; have n5_ : zs (Kept w w62 (fun k_ => P3_ k_)) := ⟨by rw [hw]; repeat ((with_reducible first | exact HK.1 | refine za ?_ (.inr qe.1) _))⟩; have n6_ : zs (Below w0.heap.size w0 w62) := ⟨by rw [hw]; repeat ((with_reducible first | exact HB.1 | refine ze ?_ ql.1))⟩; clear hw HO_3 zO zN zP zQ HK HB; have HO_3 := n0_; have zO := n1_; have zN := n2_; have zP := n3_; have zQ := n4_; have HK := n5_; have HB := n6_; clear n0_ n1_ n2_ n3_ n4_ n5_ n6_; have hcz63_0 : w62.cell? ⟨gb191, 0, none⟩ = some (.int .i64 ((rd_T86 l0 a1).f0)) := (zj zN.1 0).trans rfl; have hcz63_1 : w62.cell? ⟨gb191, 1, none⟩ = some (.int .i64 ((rd_T86 l0 a1).f1)) := (zj zN.1 1).trans rfl; have hcz63_2 : w62.cell? ⟨gb191, 2, none⟩ = some (.bool ((rd_T86 l0 a1).f2)) := (zj zN.1 2).trans rfl; have hcz63_3 : w62.cell? ⟨gb191, 3, none⟩ = some (.int .i64 ((rd_T86 l0 a1).f3)) := (zj zN.1 3).trans rfl; have hfz63_0 := zg zN.1 0; have hfz63_1 := zg zN.1 1; have hfz63_2 := zg zN.1 2; have hfz63_3 := zg zN.1 3; have hcz64_0 : w62.cell? ⟨gb199, 0, none⟩ = some (.int .i64 t195) := (zj zP.1 0).trans rfl; have hcz64_1 : w62.cell? ⟨gb199, 1, none⟩ = some (.int .i64 t196) := (zj zP.1 1).trans rfl; have hfz64_0 := zg zP.1 0; have hfz64_1 := zg zP.1 1; obtain ⟨Ao65, co65, eo65⟩ := Kd.R_slice HO_3.1; subst eo65) | ((with_reducible refine zA (f := 73) rfl ?_); refine zJ (some 42) rfl rfl ku (by kernel_rfl) rfl #[.slice (some ad190) l0.length c0, .int .i64 ((rd_T86 l0 a1).f0), .agg #[.int .i64 t195, .int .i64 t196], .slice Ao65 x3_6.length co65] rfl (by (try simp only [kg, ke, kb]); rfl) ?_; (with_reducible refine (ih kj6 (by have := HJ6.1; omega) _ _ l0 ((rd_T86 l0 a1).f0) t195 t196 (fun k_ => some k_ = (.slice Ao65 x3_6.length co65 : Value).ownBlock) (.slice Ao65 x3_6.length co65) x3_6 t201 w0 _ ?side1 ?side2 ?side3 ?side4 A24.1).mono ?_); (case side1 => repeat (with_reducible exact HB.1)); (case side2 => exact Kd.C_kept_call HR0.1 HK.1 (fun k_ hs_ => (fun e_ => (HO_3.1.1 k_ e_.symm)) hs_)); (case side3 => exact HC0.1); (case side4 => exact Kd.R_tight rfl HO_3.1); rintro e w66 ⟨v202, rfl, ho0, hb, hkp⟩; refine ⟨_, rfl, ?_⟩; replace zO := kz (zC zO.1 hkp (fun hs_ => (fun e_ => (zE HO_3.1 zO.1 (by decide)) e_) hs_)); replace zN := kz (zC zN.1 hkp (fun hs_ => (fun e_ => (zE HO_3.1 zN.1 (by decide)) e_) hs_)); replace zP := kz (zC zP.1 hkp (fun hs_ => (fun e_ => (zE HO_3.1 zP.1 (by decide)) e_) hs_)); replace zQ := kz (zC zQ.1 hkp (fun hs_ => (fun e_ => (zE HO_3.1 zQ.1 (by decide)) e_) hs_)); have qr := kz (zB (ok' := fun k_ => (P3_ k_ ∨ w.heap.size ≤ k_)) ho0 (fun k_ hk_ => Or.elim hk_ (fun hs_ => (HO_3.1.1 k_ (hs_).symm)) (fun hn_ => (.inr (km (by exact HK.1.1) hn_))))); replace HK := kz (Kept.then_ HK.1 hkp (fun k_ hs_ => (fun e_ => (HO_3.1.1 k_ e_.symm)) hs_)); replace HB := kz hb; have hcz67_0 : w66.cell? ⟨gb191, 0, none⟩ = some (.int .i64 ((rd_T86 l0 a1).f0)) := (zj zN.1 0).trans rfl; have hcz67_1 : w66.cell? ⟨gb191, 1, none⟩ = some (.int .i64 ((rd_T86 l0 a1).f1)) := (zj zN.1 1).trans rfl; have hcz67_2 : w66.cell? ⟨gb191, 2, none⟩ = some (.bool ((rd_T86 l0 a1).f2)) := (zj zN.1 2).trans rfl; have hcz67_3 : w66.cell? ⟨gb191, 3, none⟩ = some (.int .i64 ((rd_T86 l0 a1).f3)) := (zj zN.1 3).trans rfl; have hfz67_0 := zg zN.1 0; have hfz67_1 := zg zN.1 1; have hfz67_2 := zg zN.1 2; have hfz67_3 := zg zN.1 3))
        go_ret
        exact ⟨_, by rfl, by exact qr.1, by exact HB.1, by exact HK.1⟩
      ·
       rw [if_neg c23] at H
       have c23b0 : decide (0 < ((rd_T86 l0 a1).f0)) = false := decide_eq_false c23
       clear c23
       by_cases c68 : ((rd_T86 l0 a1).f1) > 0
       ·
        rw [if_pos c68] at H
        have c68b0 : decide (0 < ((rd_T86 l0 a1).f1)) = true := decide_eq_true c68
        clear c68
        replace H := kf.mp H
        obtain ⟨t207, A690, H⟩ := H
        replace H : (some t207) = some r := H
        have A69 := kz A690
        clear A690
        obtain rfl := kc H
        have hnb70 := zV.1
        have hnc70 := qg.1
        have hcz71_0 : wc.cell? ⟨gb189, 0, none⟩ = some (.int .i64 a2_0) := (zj zO.1 0).trans rfl
        have hcz71_1 : wc.cell? ⟨gb189, 1, none⟩ = some (.int .i64 a2_1) := (zj zO.1 1).trans rfl
        have hfz71_0 := zg zO.1 0
        have hfz71_1 := zg zO.1 1
        go_wp2_with (first | ((with_reducible refine zA (f := 95) rfl ?_); refine zJ (some 31) rfl rfl Try.func95 (by kernel_rfl) rfl #[.agg #[.int .i64 a2_0, .int .i64 a2_1]] rfl (by (try simp only [kg, ke, kb]); rfl) ?_; (with_reducible refine (impl_Prefix_halves.calls a2_0 a2_1 t195 t196 t197 t198 _ A22.1).mono ?_); rintro e w72 ⟨rfl, hb⟩; refine ⟨_, rfl, ?_⟩; replace HO_3 := kz (zz HO_3.1 hb); replace zO := kz (zq zO.1 hb); replace zN := kz (zq zN.1 hb); replace HK := kz (zy HK.1 hb); replace HB := kz (zu HB.1 hb)) | ((with_reducible refine zG (N := 10) rfl ?_); refine zD rfl (N := 10) rfl (cs := #[.int .i64 0, .int .i64 0]) (t := 37) ?hr ?_; (case hr => go_simp; done); intro gb199 hg w73 hbox hb; replace HO_3 := kz (zz HO_3.1 hb); have zP := kz hbox; have zW := kz (by rw [hg]; exact (by exact HK.1.1) : w.heap.size ≤ gb199); replace HK := kz (zy HK.1 hb); have qd := kz (by rw [hg]; exact (zw HB.1) : w0.heap.size ≤ gb199); replace HB := kz (zu HB.1 hb); have zX := kz (by rw [hg]; exact kv (zt zO.1) : gb189 ≠ gb199); have qh := kz (by rw [hg]; exact kh (zt zO.1) : gb199 ≠ gb189); replace zO := kz (zq zO.1 hb); have zY := kz (by rw [hg]; exact kv (zt zN.1) : gb191 ≠ gb199); have qi := kz (by rw [hg]; exact kh (zt zN.1) : gb199 ≠ gb191); replace zN := kz (zq zN.1 hb); clear hb hbox hg) | ((with_reducible refine zG (N := 11) rfl ?_); refine zD rfl (N := 11) rfl (cs := #[.int .i64 0, .int .i64 0]) (t := 37) ?hr ?_; (case hr => go_simp; done); intro gb200 hg w74 hbox hb; replace HO_3 := kz (zz HO_3.1 hb); have zQ := kz hbox; have qe := kz (by rw [hg]; exact (by exact HK.1.1) : w.heap.size ≤ gb200); replace HK := kz (zy HK.1 hb); have ql := kz (by rw [hg]; exact (zw HB.1) : w0.heap.size ≤ gb200); replace HB := kz (zu HB.1 hb); have zZ := kz (by rw [hg]; exact kv (zt zO.1) : gb189 ≠ gb200); have qj := kz (by rw [hg]; exact kh (zt zO.1) : gb200 ≠ gb189); replace zO := kz (zq zO.1 hb); have qa := kz (by rw [hg]; exact kv (zt zN.1) : gb191 ≠ gb200); have qk := kz (by rw [hg]; exact kh (zt zN.1) : gb200 ≠ gb191); replace zN := kz (zq zN.1 hb); have qb := kz (by rw [hg]; exact kv (zt zP.1) : gb199 ≠ gb200); have qc := kz (by rw [hg]; exact kh (zt zP.1) : gb200 ≠ gb199); replace zP := kz (zq zP.1 hb); clear hb hbox hg; have hnb75 := qh.1; have hnc75 := zX.1; have hnb76 := qi.1; have hnc76 := zY.1; have hnb77 := qb.1; have hnc77 := qc.1; have hcz78_0 : w74.cell? ⟨gb199, 0, none⟩ = some (.int .i64 0) := (zj zP.1 0).trans rfl; have hcz78_1 : w74.cell? ⟨gb199, 1, none⟩ = some (.int .i64 0) := (zj zP.1 1).trans rfl; have hfz78_0 := zg zP.1 0; have hfz78_1 := zg zP.1 1) | ((with_reducible refine gate_store (t := 37) (p := 10) rfl ?_); refine store_event (t := 37) (p := 10) (v := ?vo_w79) (w1 := ((w74.setCell ⟨gb199, 0, none⟩ (.int .i64 t195)).setCell ⟨gb199, 1, none⟩ (.int .i64 t196))) ?hg ?ho ?hn ?hr ?_; (case ho => rfl); (case hg => rfl); (case hn => rfl); (case hr => go_simp; done); intro w79 hw; have n0_ : zs (Kd.R k39 39 w79 w0.heap.size (fun k_ => (P3_ k_ ∨ w.heap.size ≤ k_)) u3 x3_6) := ⟨by rw [hw]; exact zB (zv (p := ⟨gb199, 1, none⟩) (zv (p := ⟨gb199, 0, none⟩) (zF HO_3.1 zP.1 (by decide)) (fun _ hk => hk.2) _) (fun _ hk => hk.2) _) (fun _ hk => hk.1)⟩; have n1_ : zs (w79.heap[gb189]? = some (.cells #[.int .i64 a2_0, .int .i64 a2_1] 37 (0, 0))) := ⟨by rw [hw]; refine zn ?_ zX.1 _; refine zn ?_ zX.1 _; exact zO.1⟩; have n2_ : zs (w79.heap[gb191]? = some (.cells #[.int .i64 ((rd_T86 l0 a1).f0), .int .i64 ((rd_T86 l0 a1).f1), .bool ((rd_T86 l0 a1).f2), .int .i64 ((rd_T86 l0 a1).f3)] 86 (0, 0))) := ⟨by rw [hw]; refine zn ?_ zY.1 _; refine zn ?_ zY.1 _; exact zN.1⟩; have n3_ : zs (w79.heap[gb199]? = some (.cells #[.int .i64 t195, .int .i64 t196] 37 (0, 0))) := ⟨by rw [hw]; refine zx (cs := #[.int .i64 t195, .int .i64 0]) ?_ 1 _ rfl; refine zx (cs := #[.int .i64 0, .int .i64 0]) ?_ 0 _ rfl; exact zP.1⟩; have n4_ : zs (w79.heap[gb200]? = some (.cells #[.int .i64 0, .int .i64 0] 37 (0, 0))) := ⟨by rw [hw]; refine zn ?_ qc.1 _; refine zn ?_ qc.1 _; exact zQ.1⟩; have n5_ : zs (Kept w w79 (fun k_ => P3_ k_)) := ⟨by rw [hw]; repeat ((with_reducible first | exact HK.1 | refine za ?_ (.inr zW.1) _))⟩; have n6_ : zs (Below w0.heap.size w0 w79) := ⟨by rw [hw]; repeat ((with_reducible first | exact HB.1 | refine ze ?_ qd.1))⟩; clear hw HO_3 zO zN zP zQ HK HB; have HO_3 := n0_; have zO := n1_; have zN := n2_; have zP := n3_; have zQ := n4_; have HK := n5_; have HB := n6_; clear n0_ n1_ n2_ n3_ n4_ n5_ n6_; have hnb80 := qj.1; have hnc80 := zZ.1; have hnb81 := qk.1; have hnc81 := qa.1; have hcz82_0 : w79.cell? ⟨gb200, 0, none⟩ = some (.int .i64 0) := (zj zQ.1 0).trans rfl; have hcz82_1 : w79.cell? ⟨gb200, 1, none⟩ = some (.int .i64 0) := (zj zQ.1 1).trans rfl; have hfz82_0 := zg zQ.1 0; have hfz82_1 := zg zQ.1 1) | ((with_reducible refine gate_store (t := 37) (p := 11) rfl ?_); refine store_event (t := 37) (p := 11) (v := ?vo_w83) (w1 := ((w79.setCell ⟨gb200, 0, none⟩ (.int .i64 t197)).setCell ⟨gb200, 1, none⟩ (.int .i64 t198))) ?hg ?ho ?hn ?hr ?_; (case ho => rfl); (case hg => rfl); (case hn => rfl); (case hr => go_simp; done); intro w83 hw; have n0_ : zs (Kd.R k39 39 w83 w0.heap.size (fun k_ => (P3_ k_ ∨ w.heap.size ≤ k_)) u3 x3_6) := ⟨by rw [hw]; exact zB (zv (p := ⟨gb200, 1, none⟩) (zv (p := ⟨gb200, 0, none⟩) (zF HO_3.1 zQ.1 (by decide)) (fun _ hk => hk.2) _) (fun _ hk => hk.2) _) (fun _ hk => hk.1)⟩; have n1_ : zs (w83.heap[gb189]? = some (.cells #[.int .i64 a2_0, .int .i64 a2_1] 37 (0, 0))) := ⟨by rw [hw]; refine zn ?_ zZ.1 _; refine zn ?_ zZ.1 _; exact zO.1⟩; have n2_ : zs (w83.heap[gb191]? = some (.cells #[.int .i64 ((rd_T86 l0 a1).f0), .int .i64 ((rd_T86 l0 a1).f1), .bool ((rd_T86 l0 a1).f2), .int .i64 ((rd_T86 l0 a1).f3)] 86 (0, 0))) := ⟨by rw [hw]; refine zn ?_ qa.1 _; refine zn ?_ qa.1 _; exact zN.1⟩; have n3_ : zs (w83.heap[gb199]? = some (.cells #[.int .i64 t195, .int .i64 t196] 37 (0, 0))) := ⟨by rw [hw]; refine zn ?_ qb.1 _; refine zn ?_ qb.1 _; exact zP.1⟩; have n4_ : zs (w83.heap[gb200]? = some (.cells #[.int .i64 t197, .int .i64 t198] 37 (0, 0))) := ⟨by rw [hw]; refine zx (cs := #[.int .i64 t197, .int .i64 0]) ?_ 1 _ rfl; refine zx (cs := #[.int .i64 0, .int .i64 0]) ?_ 0 _ rfl; exact zQ.1⟩; have n5_ : zs (Kept w w83 (fun k_ => P3_ k_)) := ⟨by rw [hw]; repeat ((with_reducible first | exact HK.1 | refine za ?_ (.inr qe.1) _))⟩; have n6_ : zs (Below w0.heap.size w0 w83) := ⟨by rw [hw]; repeat ((with_reducible first | exact HB.1 | refine ze ?_ ql.1))⟩; clear hw HO_3 zO zN zP zQ HK HB; have HO_3 := n0_; have zO := n1_; have zN := n2_; have zP := n3_; have zQ := n4_; have HK := n5_; have HB := n6_; clear n0_ n1_ n2_ n3_ n4_ n5_ n6_; have hcz84_0 : w83.cell? ⟨gb191, 0, none⟩ = some (.int .i64 ((rd_T86 l0 a1).f0)) := (zj zN.1 0).trans rfl; have hcz84_1 : w83.cell? ⟨gb191, 1, none⟩ = some (.int .i64 ((rd_T86 l0 a1).f1)) := (zj zN.1 1).trans rfl; have hcz84_2 : w83.cell? ⟨gb191, 2, none⟩ = some (.bool ((rd_T86 l0 a1).f2)) := (zj zN.1 2).trans rfl; have hcz84_3 : w83.cell? ⟨gb191, 3, none⟩ = some (.int .i64 ((rd_T86 l0 a1).f3)) := (zj zN.1 3).trans rfl; have hfz84_0 := zg zN.1 0; have hfz84_1 := zg zN.1 1; have hfz84_2 := zg zN.1 2; have hfz84_3 := zg zN.1 3; have hcz85_0 : w83.cell? ⟨gb200, 0, none⟩ = some (.int .i64 t197) := (zj zQ.1 0).trans rfl; have hcz85_1 : w83.cell? ⟨gb200, 1, none⟩ = some (.int .i64 t198) := (zj zQ.1 1).trans rfl; have hfz85_0 := zg zQ.1 0; have hfz85_1 := zg zQ.1 1; obtain ⟨Ao86, co86, eo86⟩ := Kd.R_slice HO_3.1; subst eo86) | ((with_reducible refine zA (f := 73) rfl ?_); refine zJ (some 51) rfl rfl ku (by kernel_rfl) rfl #[.slice (some ad190) l0.length c0, .int .i64 ((rd_T86 l0 a1).f1), .agg #[.int .i64 t197, .int .i64 t198], .slice Ao86 x3_6.length co86] rfl (by (try simp only [kg, ke, kb]); rfl) ?_; (with_reducible refine (ih kj6 (by have := HJ6.1; omega) _ _ l0 ((rd_T86 l0 a1).f1) t197 t198 (fun k_ => some k_ = (.slice Ao86 x3_6.length co86 : Value).ownBlock) (.slice Ao86 x3_6.length co86) x3_6 t207 w0 _ ?side1 ?side2 ?side3 ?side4 A69.1).mono ?_); (case side1 => repeat (with_reducible exact HB.1)); (case side2 => exact Kd.C_kept_call HR0.1 HK.1 (fun k_ hs_ => (fun e_ => (HO_3.1.1 k_ e_.symm)) hs_)); (case side3 => exact HC0.1); (case side4 => exact Kd.R_tight rfl HO_3.1); rintro e w87 ⟨v208, rfl, ho0, hb, hkp⟩; refine ⟨_, rfl, ?_⟩; replace zO := kz (zC zO.1 hkp (fun hs_ => (fun e_ => (zE HO_3.1 zO.1 (by decide)) e_) hs_)); replace zN := kz (zC zN.1 hkp (fun hs_ => (fun e_ => (zE HO_3.1 zN.1 (by decide)) e_) hs_)); replace zP := kz (zC zP.1 hkp (fun hs_ => (fun e_ => (zE HO_3.1 zP.1 (by decide)) e_) hs_)); replace zQ := kz (zC zQ.1 hkp (fun hs_ => (fun e_ => (zE HO_3.1 zQ.1 (by decide)) e_) hs_)); have HO209 := kz (zB (ok' := fun k_ => (P3_ k_ ∨ w.heap.size ≤ k_)) ho0 (fun k_ hk_ => Or.elim hk_ (fun hs_ => (HO_3.1.1 k_ (hs_).symm)) (fun hn_ => (.inr (km (by exact HK.1.1) hn_))))); replace HK := kz (Kept.then_ HK.1 hkp (fun k_ hs_ => (fun e_ => (HO_3.1.1 k_ e_.symm)) hs_)); replace HB := kz hb))
        go_ret
        exact ⟨_, by rfl, by exact HO209.1, by exact HB.1, by exact HK.1⟩
       ·
        rw [if_neg c68] at H
        have c68b0 : decide (0 < ((rd_T86 l0 a1).f1)) = false := decide_eq_false c68
        clear c68
        obtain rfl := kc H
        have hnb88 := zV.1
        have hnc88 := qg.1
        have hcz89_0 : wc.cell? ⟨gb189, 0, none⟩ = some (.int .i64 a2_0) := (zj zO.1 0).trans rfl
        have hcz89_1 : wc.cell? ⟨gb189, 1, none⟩ = some (.int .i64 a2_1) := (zj zO.1 1).trans rfl
        have hfz89_0 := zg zO.1 0
        have hfz89_1 := zg zO.1 1
        go_wp2_with (first | ((with_reducible refine zA (f := 95) rfl ?_); refine zJ (some 31) rfl rfl Try.func95 (by kernel_rfl) rfl #[.agg #[.int .i64 a2_0, .int .i64 a2_1]] rfl (by (try simp only [kg, ke, kb]); rfl) ?_; (with_reducible refine (impl_Prefix_halves.calls a2_0 a2_1 t195 t196 t197 t198 _ A22.1).mono ?_); rintro e w90 ⟨rfl, hb⟩; refine ⟨_, rfl, ?_⟩; replace HO_3 := kz (zz HO_3.1 hb); replace zO := kz (zq zO.1 hb); replace zN := kz (zq zN.1 hb); replace HK := kz (zy HK.1 hb); replace HB := kz (zu HB.1 hb)) | ((with_reducible refine zG (N := 10) rfl ?_); refine zD rfl (N := 10) rfl (cs := #[.int .i64 0, .int .i64 0]) (t := 37) ?hr ?_; (case hr => go_simp; done); intro gb199 hg w91 hbox hb; replace HO_3 := kz (zz HO_3.1 hb); have zP := kz hbox; have zW := kz (by rw [hg]; exact (by exact HK.1.1) : w.heap.size ≤ gb199); replace HK := kz (zy HK.1 hb); have qd := kz (by rw [hg]; exact (zw HB.1) : w0.heap.size ≤ gb199); replace HB := kz (zu HB.1 hb); have zX := kz (by rw [hg]; exact kv (zt zO.1) : gb189 ≠ gb199); have qh := kz (by rw [hg]; exact kh (zt zO.1) : gb199 ≠ gb189); replace zO := kz (zq zO.1 hb); have zY := kz (by rw [hg]; exact kv (zt zN.1) : gb191 ≠ gb199); have qi := kz (by rw [hg]; exact kh (zt zN.1) : gb199 ≠ gb191); replace zN := kz (zq zN.1 hb); clear hb hbox hg) | ((with_reducible refine zG (N := 11) rfl ?_); refine zD rfl (N := 11) rfl (cs := #[.int .i64 0, .int .i64 0]) (t := 37) ?hr ?_; (case hr => go_simp; done); intro gb200 hg w92 hbox hb; replace HO_3 := kz (zz HO_3.1 hb); have zQ := kz hbox; have qe := kz (by rw [hg]; exact (by exact HK.1.1) : w.heap.size ≤ gb200); replace HK := kz (zy HK.1 hb); have ql := kz (by rw [hg]; exact (zw HB.1) : w0.heap.size ≤ gb200); replace HB := kz (zu HB.1 hb); have zZ := kz (by rw [hg]; exact kv (zt zO.1) : gb189 ≠ gb200); have qj := kz (by rw [hg]; exact kh (zt zO.1) : gb200 ≠ gb189); have qa := kz (by rw [hg]; exact kv (zt zN.1) : gb191 ≠ gb200); have qk := kz (by rw [hg]; exact kh (zt zN.1) : gb200 ≠ gb191); replace zN := kz (zq zN.1 hb); have qb := kz (by rw [hg]; exact kv (zt zP.1) : gb199 ≠ gb200); have qc := kz (by rw [hg]; exact kh (zt zP.1) : gb200 ≠ gb199); replace zP := kz (zq zP.1 hb); clear hb hbox hg; have hnb93 := qh.1; have hnc93 := zX.1; have hnb94 := qi.1; have hnc94 := zY.1; have hnb95 := qb.1; have hnc95 := qc.1; have hcz96_0 : w92.cell? ⟨gb199, 0, none⟩ = some (.int .i64 0) := (zj zP.1 0).trans rfl; have hcz96_1 : w92.cell? ⟨gb199, 1, none⟩ = some (.int .i64 0) := (zj zP.1 1).trans rfl; have hfz96_0 := zg zP.1 0; have hfz96_1 := zg zP.1 1; have hnb97 := qj.1; have hnc97 := zZ.1; have hnb98 := qk.1; have hnc98 := qa.1; have hcz99_0 : w92.cell? ⟨gb200, 0, none⟩ = some (.int .i64 0) := (zj zQ.1 0).trans rfl; have hcz99_1 : w92.cell? ⟨gb200, 1, none⟩ = some (.int .i64 0) := (zj zQ.1 1).trans rfl; have hfz99_0 := zg zQ.1 0; have hfz99_1 := zg zQ.1 1; have hcz100_0 : w92.cell? ⟨gb191, 0, none⟩ = some (.int .i64 ((rd_T86 l0 a1).f0)) := (zj zN.1 0).trans rfl; have hcz100_1 : w92.cell? ⟨gb191, 1, none⟩ = some (.int .i64 ((rd_T86 l0 a1).f1)) := (zj zN.1 1).trans rfl; have hcz100_2 : w92.cell? ⟨gb191, 2, none⟩ = some (.bool ((rd_T86 l0 a1).f2)) := (zj zN.1 2).trans rfl; have hcz100_3 : w92.cell? ⟨gb191, 3, none⟩ = some (.int .i64 ((rd_T86 l0 a1).f3)) := (zj zN.1 3).trans rfl; have hfz100_0 := zg zN.1 0; have hfz100_1 := zg zN.1 1; have hfz100_2 := zg zN.1 2; have hfz100_3 := zg zN.1 3))
        go_ret
        exact ⟨_, by rfl, by exact zB (zv (p := ⟨gb200, 1, none⟩) (zv (p := ⟨gb200, 0, none⟩) (zv (p := ⟨gb199, 1, none⟩) (zv (p := ⟨gb199, 0, none⟩) (zF (zF HO_3.1 zP.1 (by decide)) zQ.1 (by decide)) (fun _ hk => hk.1.2) (.int .i64 t195)) (fun _ hk => hk.1.2) (.int .i64 t196)) (fun _ hk => hk.2) _) (fun _ hk => hk.2) _) (fun _ hk => hk.1.1), by repeat ((with_reducible first | exact HB.1 | refine ze ?_ qd.1 | refine ze ?_ ql.1)), by repeat ((with_reducible first | exact HK.1 | refine za ?_ (.inr zW.1) _ | refine za ?_ (.inr qe.1) _))⟩
  ·
   rw [if_neg c6] at H
   exact absurd H (by simp)
 ·
  rw [if_neg c5] at H
  exact absurd H (by simp)
/-! ### impl_TrieEntries: function 29 -/
def impl_TrieEntries.f (k : Nat) (l0 : List (S86)) : Option ((List (S39)) × Bool) := (impl_GoodTrie.f k l0).bind fun t210 => (if t210 = true then ((impl_entriesBelow.f k l0 0 0 0 ([] : List (S39))).bind fun t211 => (some (t211, true))) else (some (([] : List (S39)), false)))
theorem impl_TrieEntries.calls (k : Nat) (A0 : Option Addr) (c0 : Nat) (l0 : List (S86)) (r1 : List (S39)) (r2 : Bool) (w : World) (hr0 : Kd.C k86 w A0 l0.length l0) (hc0 : l0.length ≤ c0) (h : impl_TrieEntries.f k l0 = some (r1, r2)) :
  Calls Try.prog 29 #[.slice A0 l0.length c0] w fun e w' => ∃ v0_ : Value, e = .returned (.tuple #[v0_, .bool r2]) ∧ Kd.R k39 39 w' w.heap.size (fun _ => True) v0_ r1 ∧ Below w.heap.size w w' := by
 have hu37 := ko
 have HR0 := kz hr0
 have HC0 := kz hc0
 clear hr0 hc0
 have HB := kz (Below.refl w.heap.size w)
 have H : ((impl_GoodTrie.f k l0).bind fun t210 => (if t210 = true then ((impl_entriesBelow.f k l0 0 0 0 ([] : List (S39))).bind fun t211 => (some (t211, true))) else (some (([] : List (S39)), false)))) = some (r1, r2) := h
 clear h
 replace H := kf.mp H
 obtain ⟨t210, A20, H⟩ := H
 replace H : (if t210 = true then ((impl_entriesBelow.f k l0 0 0 0 ([] : List (S39))).bind fun t211 => (some (t211, true))) else (some (([] : List (S39)), false))) = some (r1, r2) := H
 have A2 := kz A20
 clear A20
 by_cases c3 : t210 = true
 ·
  subst c3
  have H1 : ((impl_entriesBelow.f k l0 0 0 0 ([] : List (S39))).bind fun t211 => (some (t211, true))) = some (r1, r2) := by rw [if_pos rfl] at H; exact H
  clear H
  have H := H1
  clear H1
  replace H := kf.mp H
  obtain ⟨t211, A40, H⟩ := H
  replace H : (some (t211, true)) = some (r1, r2) := H
  have A4 := kz A40
  clear A40
  simp only [Option.some.injEq, Prod.mk.injEq] at H
  obtain ⟨rfl, rfl⟩ := H
  go_enter Try.func29, Try.ntmps29
  go_wp2_with (first | ((with_reducible refine zA (f := 21) rfl ?_); refine zJ (some 5) rfl rfl Try.func21 (by kernel_rfl) rfl #[.slice A0 l0.length c0] rfl (by (try simp only [kg, ke, kb]); rfl) ?_; (with_reducible refine (impl_GoodTrie.calls k _ _ l0 true _ ?side1 ?side2 A2.1).mono ?_); (case side1 => repeat (exact HR0.1)); (case side2 => exact HC0.1); rintro e w5 ⟨rfl, hb⟩; refine ⟨_, rfl, ?_⟩; replace HB := kz (zu HB.1 hb)) | ((with_reducible refine zA (f := 73) rfl ?_); refine zJ (some 9) rfl rfl ku (by kernel_rfl) rfl #[.slice A0 l0.length c0, .int .i64 0, .agg #[.int .i64 0, .int .i64 0], .slice none 0 0] rfl (by (try simp only [kg, ke, kb]); rfl) ?_; (refine (impl_entriesBelow.calls k _ _ l0 0 0 0 (fun k_ => some k_ = (.slice none 0 0 : Value).ownBlock) (.slice none 0 0) ([] : List (S39)) t211 w _ ?side1 ?side2 ?side3 ?side4 A4.1).mono ?_); (case side1 => repeat (with_reducible exact HB.1)); (case side2 => exact Kd.C_kept_came k86_heap HR0.1 HB.1 (fun k_ hs_ => (fun e_ => by simp [Value.ownBlock] at e_) hs_)); (case side3 => exact HC0.1); (case side4 => exact Kd.R_nil _ _ _ _ _); rintro e w6 ⟨v212, rfl, ho0, hb, hkp⟩; refine ⟨_, rfl, ?_⟩; have HO213 := kz (zB (ok' := fun k_ => True) ho0 (fun k_ hk_ => trivial)); replace HB := kz hb))
  go_ret2
  exact ⟨_, by rfl, by exact HO213.1, by exact HB.1⟩
 ·
  replace c3 := Bool.eq_false_iff.mpr c3
  subst c3
  have H1 : (some (([] : List (S39)), false)) = some (r1, r2) := by rw [if_neg (show ¬ (false = true) by decide)] at H; exact H
  clear H
  have H := H1
  clear H1
  simp only [Option.some.injEq, Prod.mk.injEq] at H
  obtain ⟨rfl, rfl⟩ := H
  go_enter Try.func29, Try.ntmps29
  go_wp2_with (((with_reducible refine zA (f := 21) rfl ?_); refine zJ (some 5) rfl rfl Try.func21 (by kernel_rfl) rfl #[.slice A0 l0.length c0] rfl (by (try simp only [kg, ke, kb]); rfl) ?_; (with_reducible refine (impl_GoodTrie.calls k _ _ l0 false _ ?side1 ?side2 A2.1).mono ?_); (case side1 => repeat (exact HR0.1)); (case side2 => exact HC0.1); rintro e w7 ⟨rfl, hb⟩; refine ⟨_, rfl, ?_⟩; replace HB := kz (zu HB.1 hb)))
  go_ret2
  exact ⟨_, by rfl, by exact Kd.R_nil _ _ _ _ _, by exact HB.1⟩
/-! ### spec_l1Addr: function 63 -/
def spec_l1Addr.f (a0 : Int) : Option (Bool) := (spec_l1In.f a0 0 4294967295).bind fun t214 => (some t214)
theorem spec_l1Addr.calls (a0 : Int) (r : Bool) (w : World) (h : spec_l1Addr.f a0 = some r) :
  Calls Try.prog 63 #[.int .i64 a0] w fun e w' => e = .returned (.bool r) ∧ Drawn0 w w' := by
 have H : ((spec_l1In.f a0 0 4294967295).bind fun t214 => (some t214)) = some r := h
 clear h
 replace H := kf.mp H
 obtain ⟨t214, A20, H⟩ := H
 replace H : (some t214) = some r := H
 have A2 := kz A20
 clear A20
 obtain rfl := kc H
 go_enter Try.func63, Try.ntmps63
 go_wp2_with (((with_reducible refine zA (f := 58) rfl ?_); refine zJ (some 4) rfl rfl Try.func58 (by kernel_rfl) rfl #[.int .i64 a0, .int .i64 0, .int .i64 4294967295] rfl (by (try simp only [kg, ke, kb]); rfl) ?_; (with_reducible refine (spec_l1In.calls a0 0 4294967295 t214 _ A2.1).mono ?_); rintro e w' ⟨rfl, ⟨nd, rfl⟩⟩; refine ⟨_, rfl, ?_⟩))
 go_ret
 exact ⟨by rfl, by repeat (first | exact Drawn0.refl _ | apply Drawn0.step)⟩
end Go.Proofs.Ytakoaogbkajkcaa.PFnTrieSteps
