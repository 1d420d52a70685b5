/- Go functions told by Lean functions, printed by a program. No condition but what each statement says. -/
import Derived.Test.YtakoaogbkajkcaaYFnLongestx9
import Derived.Test.YtakoaogbkajkcaaYFnLongestx16
namespace Go.Proofs.Ytakoaogbkajkcaa.PFnLongest
open Go.RowKit Go.Proofs.YtakoaogbkajkcaaW.PrintWords Go.Proofs.YtakoaogbkajkcaaW.PrintLast Go.Proofs.YtakoaogbkajkcaaW.PrintMore
open Aside0 renaming mk → kz
open List renaming setIfInBounds_toArray → ky, set_cons_zero → kj, set_cons_succ → kk, map_toArray → kv, map_cons → kf, map_nil → kb
open Nat renaming ne_of_lt → kh, ne_of_gt → kg, add_zero → ko, mul_one → km, le_trans → ku
open Option renaming bind_eq_some_iff → ke
open Act renaming put → kd
open Try renaming underlying37 → kc, func73 → kt
open Option.some renaming inj → kx
open Or renaming inl → ks
open Bool renaming true → kr, false → kp
set_option maxHeartbeats 8000000
set_option maxRecDepth 100000
open Go.Proofs.YtakoaogbkajkcaaW.PrintLast renaming goesL_ → zL, i64_w → zR, i32_w → zS, any_of → zV, pure_ → zW
open Go.Proofs.YtakoaogbkajkcaaW.PrintWords renaming blk_drewN → zb, blk_drew → zd, below_set → ze, pw_below_drewN → zf, below_drew1 → zg, blk_frozen → zi, blk_cell → zl, Aside0 → zq, blk_below → zr, blk_far → zs, blk_lt → zt, below_step → zu, below_size → zv, gate_callee → zw, blk_put → zA, box_event → zE, blk_kept → zF, store_event → zG, gate_dst → zH, gate_store → zI, blk_grown → zO, cell_far → zU
open Go.Proofs.YtakoaogbkajkcaaW.PrintWords.Kd renaming R_drewN → zn, R_far → zy, R_below → zz, R_ne → zB, R_mono → zC, R_reads' → zD, R_types → zJ, R_slice → zP, R_elem → zQ
open Go.Proofs.YtakoaogbkajkcaaW.PrintWords.Kept renaming setCell → za, drewN → zj, below → zx, of_grown → zK
attribute [local go_sem] max2_int min2_int max_two min_two max_three min_three max_four min_four
set_option linter.unusedVariables false
set_option linter.unusedSimpArgs false
/-! ### impl_Prefix_halves: function 95 -/
def impl_Prefix_halves.f (a0_0 : Int) (a0_1 : Int) : Option (Int × Int × Int × Int) := (impl_sizeOf.f (wrap64 (a0_1 + 1))).bind fun t248 => (some (a0_0, wrap64 (a0_1 + 1), wrap64 (a0_0 + t248), wrap64 (a0_1 + 1)))
def impl_Prefix_halves.T1 : Bool × List (List Nat × List Nat) := (true, [([], []), ([0], [0]), ([], []), ([2], [2]), ([3], [3]), ([1, 4], [1, 4]), ([], []), ([6], [6]), ([], []), ([8], [8]), ([9], [9]), ([10], [10]), ([7, 11], [7, 11]), ([], []), ([13], [13]), ([14], [14]), ([12, 15], [12, 15]), ([5, 11, 0, 1, 2, 3, 4, 5], [5]), ([16, 17, 0, 1, 2, 3, 4, 5, 6, 7, 8, 9, 10, 11, 12, 13, 14, 15, 16, 17], [16])])
def impl_Prefix_halves.B1 : List Nat := [0, 1, 0, 4, 12, 31, 0, 64, 0, 256, 768, 1792, 4032, 0, 8192, 24576, 65472, 3903, 262143]
theorem impl_Prefix_halves.tab1 : rtab .any (opsOf Try.f95 1) = impl_Prefix_halves.T1 := by kernel_rfl
theorem impl_Prefix_halves.bits1 : waitsOk impl_Prefix_halves.T1.2 impl_Prefix_halves.B1 = true := by kernel_rfl
theorem impl_Prefix_halves.calls (a0_0 : Int) (a0_1 : Int) (r1 : Int) (r2 : Int) (r3 : Int) (r4 : Int) (w : World) (h : impl_Prefix_halves.f a0_0 a0_1 = some (r1, r2, r3, r4)) :
  Calls Try.prog 95 #[.agg #[.int .i64 a0_0, .int .i64 a0_1]] w fun e w' => e = .returned (.tuple #[.agg #[.int .i64 r1, .int .i64 r2], .agg #[.int .i64 r3, .int .i64 r4]]) ∧ Below w.heap.size w w' := by
 have hu37 := kc
 have HB := kz (Below.refl w.heap.size w)
 have H : ((impl_sizeOf.f (wrap64 (a0_1 + 1))).bind fun t248 => (some (a0_0, wrap64 (a0_1 + 1), wrap64 (a0_0 + t248), wrap64 (a0_1 + 1)))) = some (r1, r2, r3, r4) := h
 clear h
 replace H := ke.mp H
 obtain ⟨t248, A20, H⟩ := H
 replace H : (some (a0_0, wrap64 (a0_1 + 1), wrap64 (a0_0 + t248), wrap64 (a0_1 + 1))) = some (r1, r2, r3, r4) := H
 have A2 := kz A20
 clear A20
 simp only [Option.some.injEq, Prod.mk.injEq] at H
 obtain ⟨rfl, rfl, rfl, rfl⟩ := H
 go_enter Try.func95, Try.ntmps95
 try go_wp2_with (first | ((with_reducible refine zH (N := 1) rfl ?_); refine zE rfl (N := 1) rfl (cs := #[.int .i64 a0_0, .int .i64 a0_1]) (t := 37) ?hr ?_; (case hr => go_simp; done); intro gb245 hg w3 hbox hb; replace HB := kz (zu HB.1 hb); have qr := kz hbox; clear hb hbox hg) | ((with_reducible refine zH (N := 2) rfl ?_); refine zE rfl (N := 2) rfl (cs := #[.int .i64 0, .int .i64 0]) (t := 37) ?hr ?_; (case hr => go_simp; done); intro gb246 hg w4 hbox hb; have qD := kz hbox; have GE246 := kz (by rw [hg]; exact (zv HB.1) : w.heap.size ≤ gb246); replace HB := kz (zu HB.1 hb); have qz := kz (by rw [hg]; exact kh (zt qr.1) : gb245 ≠ gb246); have NB246_245 := kz (by rw [hg]; exact kg (zt qr.1) : gb246 ≠ gb245); replace qr := kz (zr qr.1 hb); clear hb hbox hg) | ((with_reducible refine zH (N := 3) rfl ?_); refine zE rfl (N := 3) rfl (cs := #[.int .i64 0, .int .i64 0]) (t := 37) ?hr ?_; (case hr => go_simp; done); intro gb247 hg w5 hbox hb; have qG := kz hbox; have GE247 := kz (by rw [hg]; exact (zv HB.1) : w.heap.size ≤ gb247); replace HB := kz (zu HB.1 hb); have qA := kz (by rw [hg]; exact kh (zt qr.1) : gb245 ≠ gb247); have NB247_245 := kz (by rw [hg]; exact kg (zt qr.1) : gb247 ≠ gb245); replace qr := kz (zr qr.1 hb); have qB := kz (by rw [hg]; exact kh (zt qD.1) : gb246 ≠ gb247); have qC := kz (by rw [hg]; exact kg (zt qD.1) : gb247 ≠ gb246); replace qD := kz (zr qD.1 hb); clear hb hbox hg))
 replace qr := kz (zd qr.1)
 replace qD := kz (zd qD.1)
 replace qG := kz (zd qG.1)
 replace HB := kz (zg HB.1)
 refine start_ (n := 19) (S := fun w' => w'.cell? ⟨gb245, 0, none⟩ = some (.int .i64 a0_0) ∧ w'.cell? ⟨gb245, 1, none⟩ = some (.int .i64 a0_1)) (ds := []) #[kp,kp,kp,kp,kp,kp,kp,kp,kp,kp,kp,kp,kp,kp,kp,kp,kp,kp,kp] (by kernel_rfl) rfl rfl ⟨(zl qr.1 0).trans rfl, (zl qr.1 1).trans rfl⟩ (fun hHeld => ?_); refine with_tabW impl_Prefix_halves.tab1 impl_Prefix_halves.bits1 (fun HT_ HW_ => ?_)
 generalize w5.drew = w6 at qr qD qG HB hHeld ⊢
 refine zW (i := 0) (N := some 4) (v := ?_) (a' := ?_) #[kr,kp,kp,kp,kp,kp,kp,kp,kp,kp,kp,kp,kp,kp,kp,kp,kp,kp,kp] rfl rfl (zV HT_.1 (by kernel_rfl)) (fun _ _ _ h => h) (ks ⟨by rfl, ?_⟩) ?_ ?_
 rotate_left
 ·
  intro w'
  go_simp
  with_reducible rfl
 rotate_left
 ·
  simp only [kd, ky, kj, kk, zR, zS]
  rfl
 refine zW (i := 2) (N := some 6) (v := ?_) (a' := ?_) #[kr,kp,kr,kp,kp,kp,kp,kp,kp,kp,kp,kp,kp,kp,kp,kp,kp,kp,kp] rfl rfl (zV HT_.1 (by kernel_rfl)) (fun _ _ _ h => h) (ks ⟨by rfl, ?_⟩) ?_ ?_
 rotate_left
 ·
  intro w'
  go_simp
  with_reducible rfl
 rotate_left
 ·
  simp only [kd, ky, kj, kk, zR, zS]
  rfl
 refine zW (i := 6) (N := some 10) (v := ?_) (a' := ?_) #[kr,kp,kr,kp,kp,kp,kr,kp,kp,kp,kp,kp,kp,kp,kp,kp,kp,kp,kp] rfl rfl (zV HT_.1 (by kernel_rfl)) (fun _ _ _ h => h) (ks ⟨by rfl, ?_⟩) ?_ ?_
 rotate_left
 ·
  intro w'
  go_simp
  with_reducible rfl
 rotate_left
 ·
  simp only [kd, ky, kj, kk, zR, zS]
  rfl
 refine zW (i := 8) (N := some 12) (v := ?_) (a' := ?_) #[kr,kp,kr,kp,kp,kp,kr,kp,kr,kp,kp,kp,kp,kp,kp,kp,kp,kp,kp] rfl rfl (zV HT_.1 (by kernel_rfl)) (fun _ _ _ h => h) (ks ⟨by rfl, ?_⟩) ?_ ?_
 rotate_left
 ·
  intro w'
  go_simp
  with_reducible rfl
 rotate_left
 ·
  simp only [kd, ky, kj, kk, zR, zS]
  rfl
 refine zW (i := 13) (N := some 17) (v := ?_) (a' := ?_) #[kr,kp,kr,kp,kp,kp,kr,kp,kr,kp,kp,kp,kp,kr,kp,kp,kp,kp,kp] rfl rfl (zV HT_.1 (by kernel_rfl)) (fun _ _ _ h => h) (ks ⟨by rfl, ?_⟩) ?_ ?_
 rotate_left
 ·
  intro w'
  go_simp
  with_reducible rfl
 rotate_left
 ·
  simp only [kd, ky, kj, kk, zR, zS]
  rfl
 refine take_ (i := 1) (N := some 5) (v := ?_) (a' := ?_) #[kr,kr,kr,kp,kp,kp,kr,kp,kr,kp,kp,kp,kp,kr,kp,kp,kp,kp,kp] rfl rfl (take_ofW HT_.1 HW_.1 (by kernel_rfl)) (fun _ _ _ h => h) (ks ⟨by rfl, ?_⟩) hHeld ?_ ?_
 rotate_left
 ·
  rintro w' ⟨s0, s1⟩
  go_simp
  with_reducible rfl
 rotate_left
 ·
  simp only [kd, ky, kj, kk, zR, zS]
  rfl
 refine take_ (i := 3) (N := some 7) (v := ?_) (a' := ?_) #[kr,kr,kr,kr,kp,kp,kr,kp,kr,kp,kp,kp,kp,kr,kp,kp,kp,kp,kp] rfl rfl (take_ofW HT_.1 HW_.1 (by kernel_rfl)) (fun _ _ _ h => h) (ks ⟨by rfl, ?_⟩) hHeld ?_ ?_
 rotate_left
 ·
  rintro w' ⟨s0, s1⟩
  go_simp
  with_reducible rfl
 rotate_left
 ·
  simp only [kd, ky, kj, kk, zR, zS]
  rfl
 refine zW (i := 4) (N := some 8) (v := ?_) (a' := ?_) #[kr,kr,kr,kr,kr,kp,kr,kp,kr,kp,kp,kp,kp,kr,kp,kp,kp,kp,kp] rfl rfl (zV HT_.1 (by kernel_rfl)) (fun _ _ _ h => h) (ks ⟨by rfl, ?_⟩) ?_ ?_
 rotate_left
 ·
  intro w'
  go_simp
  with_reducible rfl
 rotate_left
 ·
  simp only [kd, ky, kj, kk, zR, zS]
  rfl
 refine zW (i := 5) (N := some 9) (v := ?_) (a' := ?_) #[kr,kr,kr,kr,kr,kr,kr,kp,kr,kp,kp,kp,kp,kr,kp,kp,kp,kp,kp] rfl rfl (zV HT_.1 (by kernel_rfl)) (fun _ _ _ h => h) (ks ⟨by rfl, ?_⟩) ?_ ?_
 rotate_left
 ·
  intro w'
  go_simp
  with_reducible rfl
 rotate_left
 ·
  simp only [kd, ky, kj, kk, zR, zS]
  rfl
 refine take_ (i := 7) (N := some 11) (v := ?_) (a' := ?_) #[kr,kr,kr,kr,kr,kr,kr,kr,kr,kp,kp,kp,kp,kr,kp,kp,kp,kp,kp] rfl rfl (take_ofW HT_.1 HW_.1 (by kernel_rfl)) (fun _ _ _ h => h) (ks ⟨by rfl, ?_⟩) hHeld ?_ ?_
 rotate_left
 ·
  rintro w' ⟨s0, s1⟩
  go_simp
  with_reducible rfl
 rotate_left
 ·
  simp only [kd, ky, kj, kk, zR, zS]
  rfl
 refine take_ (i := 9) (N := some 13) (v := ?_) (a' := ?_) #[kr,kr,kr,kr,kr,kr,kr,kr,kr,kr,kp,kp,kp,kr,kp,kp,kp,kp,kp] rfl rfl (take_ofW HT_.1 HW_.1 (by kernel_rfl)) (fun _ _ _ h => h) (ks ⟨by rfl, ?_⟩) hHeld ?_ ?_
 rotate_left
 ·
  rintro w' ⟨s0, s1⟩
  go_simp
  with_reducible rfl
 rotate_left
 ·
  simp only [kd, ky, kj, kk, zR, zS]
  rfl
 refine zW (i := 10) (N := some 14) (v := ?_) (a' := ?_) #[kr,kr,kr,kr,kr,kr,kr,kr,kr,kr,kr,kp,kp,kr,kp,kp,kp,kp,kp] rfl rfl (zV HT_.1 (by kernel_rfl)) (fun _ _ _ h => h) (ks ⟨by rfl, ?_⟩) ?_ ?_
 rotate_left
 ·
  intro w'
  go_simp
  with_reducible rfl
 rotate_left
 ·
  simp only [kd, ky, kj, kk, zR, zS]
  rfl
 refine take_ (i := 14) (N := some 18) (v := ?_) (a' := ?_) #[kr,kr,kr,kr,kr,kr,kr,kr,kr,kr,kr,kp,kp,kr,kr,kp,kp,kp,kp] rfl rfl (take_ofW HT_.1 HW_.1 (by kernel_rfl)) (fun _ _ _ h => h) (ks ⟨by rfl, ?_⟩) hHeld ?_ ?_
 rotate_left
 ·
  rintro w' ⟨s0, s1⟩
  go_simp
  with_reducible rfl
 rotate_left
 ·
  simp only [kd, ky, kj, kk, zR, zS]
  rfl
 refine zW (i := 15) (N := some 19) (v := ?_) (a' := ?_) #[kr,kr,kr,kr,kr,kr,kr,kr,kr,kr,kr,kp,kp,kr,kr,kr,kp,kp,kp] rfl rfl (zV HT_.1 (by kernel_rfl)) (fun _ _ _ h => h) (ks ⟨by rfl, ?_⟩) ?_ ?_
 rotate_left
 ·
  intro w'
  go_simp
  with_reducible rfl
 rotate_left
 ·
  simp only [kd, ky, kj, kk, zR, zS]
  rfl
 refine one_ (i := 11) (N := some 15) #[kr,kr,kr,kr,kr,kr,kr,kr,kr,kr,kr,kr,kp,kr,kr,kr,kp,kp,kp] rfl rfl (one_of HT_.1 (by kernel_rfl)) (by decide) (fun K hK => ?_)
 refine goes_ Try.func96 (by kernel_rfl) rfl #[.int .i64 (wrap64 (a0_1 + 1))] (by rfl) rfl rfl (by (try simp only [kv, kf, kb]); rfl) ?_
 with_reducible refine (impl_sizeOf.calls (wrap64 (a0_1 + 1)) t248 _ A2.1).mono ?_
 rintro e w' ⟨rfl, ⟨nd, rfl⟩⟩
 refine ⟨_, rfl, ?_⟩
 refine hK.out _ _ ⟨(zl qr.1 0).trans rfl, (zl qr.1 1).trans rfl⟩ (fun hHeld => ?_)
 clear hK K
 refine norm_ (a' := ?_) ?_ ?_
 rotate_left
 ·
  show kd _ (some 15) _ = _
  simp only [kd, ky, kj, kk, zR, zS]
  rfl
 refine zW (i := 12) (N := some 16) (v := ?_) (a' := ?_) #[kr,kr,kr,kr,kr,kr,kr,kr,kr,kr,kr,kr,kr,kr,kr,kr,kp,kp,kp] rfl rfl (zV HT_.1 (by kernel_rfl)) (fun _ _ _ h => h) (ks ⟨by rfl, ?_⟩) ?_ ?_
 rotate_left
 ·
  intro w'
  go_simp
  with_reducible rfl
 rotate_left
 ·
  simp only [kd, ky, kj, kk, zR, zS]
  rfl
 refine zW (i := 16) (N := some 20) (v := ?_) (a' := ?_) #[kr,kr,kr,kr,kr,kr,kr,kr,kr,kr,kr,kr,kr,kr,kr,kr,kr,kp,kp] rfl rfl (zV HT_.1 (by kernel_rfl)) (fun _ _ _ h => h) (ks ⟨by rfl, ?_⟩) ?_ ?_
 rotate_left
 ·
  intro w'
  go_simp
  with_reducible rfl
 rotate_left
 ·
  simp only [kd, ky, kj, kk, zR, zS]
  rfl
 refine one_ (i := 17) (N := none) #[kr,kr,kr,kr,kr,kr,kr,kr,kr,kr,kr,kr,kr,kr,kr,kr,kr,kr,kp] rfl rfl (one_of HT_.1 (by kernel_rfl)) (by decide) (fun K hK => ?_)
 have hs7 : w6.cell? ⟨gb246, 0, none⟩ = some (.int .i64 0) := (zl qD.1 0).trans rfl
 have hfs7 := zi qD.1 0
 have hns7_0 := qz.1
 have hns7_2 := qC.1
 have hms7_0 := NB246_245.1
 have hms7_2 := qB.1
 have hs8 : w6.cell? ⟨gb246, 1, none⟩ = some (.int .i64 0) := (zl qD.1 1).trans rfl
 have hfs8 := zi qD.1 1
 have hns8_0 := qz.1
 have hns8_2 := qC.1
 have hms8_0 := NB246_245.1
 have hms8_2 := qB.1
 refine skip_ (w1 := ?_) (by rfl) rfl ?_ ?_
 rotate_left
 ·
  go_simp
  rfl
 refine hK.out _ _ ⟨((zU (p := ⟨gb246, _, none⟩) qz.1 _).trans (((zU (p := ⟨gb246, _, none⟩) qz.1 _).trans (hHeld.1)))), ((zU (p := ⟨gb246, _, none⟩) qz.1 _).trans (((zU (p := ⟨gb246, _, none⟩) qz.1 _).trans (hHeld.2))))⟩ (fun hHeld => ?_)
 clear hK K
 refine one_ (i := 18) (N := none) #[kr,kr,kr,kr,kr,kr,kr,kr,kr,kr,kr,kr,kr,kr,kr,kr,kr,kr,kr] rfl rfl (one_of HT_.1 (by kernel_rfl)) (by decide) (fun K hK => ?_)
 have hs9 : w6.cell? ⟨gb247, 0, none⟩ = some (.int .i64 0) := (zl qG.1 0).trans rfl
 have hfs9 := zi qG.1 0
 have hns9_0 := qA.1
 have hns9_1 := qB.1
 have hms9_0 := NB247_245.1
 have hms9_1 := qC.1
 have hs10 : w6.cell? ⟨gb247, 1, none⟩ = some (.int .i64 0) := (zl qG.1 1).trans rfl
 have hfs10 := zi qG.1 1
 have hns10_0 := qA.1
 have hns10_1 := qB.1
 have hms10_0 := NB247_245.1
 have hms10_1 := qC.1
 refine skip_ (w1 := ?_) (by rfl) rfl ?_ ?_
 rotate_left
 ·
  go_simp
  rfl
 refine hK.out _ _ ⟨((zU (p := ⟨gb247, _, none⟩) qA.1 _).trans (((zU (p := ⟨gb247, _, none⟩) qA.1 _).trans (hHeld.1)))), ((zU (p := ⟨gb247, _, none⟩) qA.1 _).trans (((zU (p := ⟨gb247, _, none⟩) qA.1 _).trans (hHeld.2))))⟩ (fun hHeld => ?_)
 clear hK K
 refine done_ (done_of HT_.1 (by kernel_rfl)) ?_
 try go_wp2
 refine bodyPost_ret (results_cc rfl _ _ gb246 gb247 37 37 #[.int .i64 a0_0, .int .i64 (wrap64 (a0_1 + 1))] #[.int .i64 (wrap64 (a0_0 + t248)), .int .i64 (wrap64 (a0_1 + 1))] (0, 0) (0, 0) _ _ rfl (by refine zs ?_ qB.1 _; refine zs ?_ qB.1 _; refine zA (cs := #[.int .i64 a0_0, .int .i64 0]) ?_ 1 _ rfl; refine zA (cs := #[.int .i64 0, .int .i64 0]) ?_ 0 _ rfl; (with_reducible repeat (refine zb ?_ _)); exact qD.1) kc rfl (by kernel_rfl) rfl (by refine zA (cs := #[.int .i64 (wrap64 (a0_0 + t248)), .int .i64 0]) ?_ 1 _ rfl; refine zA (cs := #[.int .i64 0, .int .i64 0]) ?_ 0 _ rfl; refine zs ?_ qC.1 _; refine zs ?_ qC.1 _; (with_reducible repeat (refine zb ?_ _)); exact qG.1) kc rfl (by kernel_rfl)) rfl ?_
 exact ⟨by rfl, by repeat ((with_reducible first | exact HB.1 | apply zf | refine ze ?_ GE246.1 | refine ze ?_ GE247.1))⟩
/-! ### impl_entriesBelow: function 73 -/
mutual
def impl_entriesBelow.j0 : Nat → List (S86) → List (S39) → Int → Int → Int → Int → Bool → Int → Option ((List (S39)))
 | 0, _, _, _, _, _, _, _, _ => none
 | k + 1, x0, x3, x250000, x250001, x252000, x252001, x252002, x252003 => if x250001 = 32 then (some x3) else ((impl_Prefix_halves.f x250000 x250001).bind fun bt255 => (if x252000 > 0 then ((impl_entriesBelow.f k x0 x252000 bt255.1 bt255.2.1 x3).bind fun t261 => (if x252001 > 0 then ((impl_entriesBelow.f k x0 x252001 bt255.2.2.1 bt255.2.2.2 t261).bind fun t264 => (some t264)) else (some t261))) else (if x252001 > 0 then ((impl_entriesBelow.f k x0 x252001 bt255.2.2.1 bt255.2.2.2 x3).bind fun t267 => (some t267)) else (some x3))))
def impl_entriesBelow.f : Nat → List (S86) → Int → Int → Int → List (S39) → Option ((List (S39)))
 | 0, _, _, _, _, _ => none
 | k + 1, l0, a1, a2_0, a2_1, l3 => if 0 ≤ a1 then (if a1 < (l0.length : Int) then (if (rd_T86 l0 a1).f2 = true then (if l3.length < 5864062014805 then (impl_entriesBelow.j0 k l0 (l3 ++ [(⟨(⟨a2_0, a2_1⟩ : S37), (rd_T86 l0 a1).f3⟩ : S39)]) a2_0 a2_1 ((rd_T86 l0 a1).f0) ((rd_T86 l0 a1).f1) ((rd_T86 l0 a1).f2) ((rd_T86 l0 a1).f3)) else (none)) else (impl_entriesBelow.j0 k l0 l3 a2_0 a2_1 ((rd_T86 l0 a1).f0) ((rd_T86 l0 a1).f1) ((rd_T86 l0 a1).f2) ((rd_T86 l0 a1).f3))) else (none)) else (none)
end
theorem impl_entriesBelow.calls (k : Nat) : ∀ (A0 : Option Addr) (c0 : Nat) (l0 : List (S86)) (a1 : Int) (a2_0 : Int) (a2_1 : Int) (P3_ : Nat → Prop) (u9000_ : Value) (l3 : List (S39)) (r : List (S39)) (w0 w : World) (hB : Below w0.heap.size w0 w) (hr0 : ∀ W_, Kept w W_ (fun k_ => P3_ k_) → Kd.C k86 W_ A0 l0.length l0) (hc0 : l0.length ≤ c0) (ho3 : Kd.R k39 39 w w0.heap.size P3_ u9000_ l3) (h : impl_entriesBelow.f k l0 a1 a2_0 a2_1 l3 = some r),
  Calls Try.prog 73 #[.slice A0 l0.length c0, .int .i64 a1, .agg #[.int .i64 a2_0, .int .i64 a2_1], u9000_] w fun e w' => ∃ v0_ : Value, e = .returned (v0_) ∧ Kd.R k39 39 w' w0.heap.size (fun k_ => (P3_ k_ ∨ w.heap.size ≤ k_)) v0_ r ∧ Below w0.heap.size w0 w' ∧ Kept w w' (fun k_ => P3_ k_) := by
 induction k using Nat.strongRecOn with
 | _ k ih =>
 intro A0 c0 l0 a1 a2_0 a2_1 P3_ u9000_ l3 r w0 w hB hr0 hc0 ho3 h
 cases k with
 | zero => exact absurd h (by simp [impl_entriesBelow.f])
 | succ k =>
 simp only [impl_entriesBelow.f] at h
 have hu37 := kc
 have hu86 := Try.underlying86
 have hu39 := Try.underlying39
 have HR0 := kz hr0
 have HC0 := kz hc0
 clear hr0 hc0
 have HO3 := kz (show Kd.R k39 39 w w0.heap.size (fun k_ => (P3_ k_ ∨ w.heap.size ≤ k_)) u9000_ l3 from zC ho3 (fun k_ hk => (.inl hk)))
 have HK := kz (Kept.refl w (fun k_ => P3_ k_))
 have HW0 := kz hB.size
 have HB := kz hB
 clear hB
 have H : (if 0 ≤ a1 then (if a1 < (l0.length : Int) then (if (rd_T86 l0 a1).f2 = true then (if l3.length < 5864062014805 then (impl_entriesBelow.j0 k l0 (l3 ++ [(⟨(⟨a2_0, a2_1⟩ : S37), (rd_T86 l0 a1).f3⟩ : S39)]) a2_0 a2_1 ((rd_T86 l0 a1).f0) ((rd_T86 l0 a1).f1) ((rd_T86 l0 a1).f2) ((rd_T86 l0 a1).f3)) else (none)) else (impl_entriesBelow.j0 k l0 l3 a2_0 a2_1 ((rd_T86 l0 a1).f0) ((rd_T86 l0 a1).f1) ((rd_T86 l0 a1).f2) ((rd_T86 l0 a1).f3))) else (none)) else (none)) = some r := h
 clear h
 by_cases c5 : 0 ≤ a1
 ·
  rw [if_pos c5] at H
  have c5b0 : decide (0 ≤ a1) = true := decide_eq_true c5
  clear c5
  by_cases c6 : a1 < (l0.length : Int)
  ·
   rw [if_pos c6] at H
   have c6b0 : decide (a1 < (l0.length : Int)) = true := decide_eq_true c6
   clear c6
   have HC7 := kz H
   clear H
   go_enter kt, Try.ntmps73
   go_upto_if 17 with (first | ((with_reducible refine zH (N := 6) rfl ?_); refine zE rfl (N := 6) rfl (cs := #[.int .i64 a2_0, .int .i64 a2_1]) (t := 37) ?hr ?_; (case hr => go_simp; done); intro gb249 hg w8 hbox hb; replace HO3 := kz (zz HO3.1 hb); replace HK := kz (zx HK.1 hb); replace HB := kz (zu HB.1 hb); have zY := kz hbox; clear hb hbox hg; have p250 : 0 ≤ (a1 : Int) := of_decide_eq_true (by (with_reducible assumption)); have q250 : a1 < (l0.length : Int) := of_decide_eq_true (by (with_reducible assumption)); obtain ⟨ad250, e250, hx250_0, hx250_1, hx250_2, hx250_3⟩ := at_T86 (Kd.C_kept_now HR0.1 HK.1) a1 p250 q250; cases e250; replace p250 := eq_true p250; replace q250 := eq_true q250) | ((with_reducible refine zH (N := 9) rfl ?_); refine zE rfl (N := 9) rfl (cs := #[.int .i64 0, .int .i64 0, .bool false, .int .i64 0]) (t := 86) ?hr ?_; (case hr => go_simp; done); intro gb251 hg w9 hbox hb; replace HO3 := kz (zz HO3.1 hb); have zX := kz hbox; have qd := kz (by rw [hg]; exact (by exact HK.1.1) : w.heap.size ≤ gb251); replace HK := kz (zx HK.1 hb); have qf := kz (by rw [hg]; exact (zv HB.1) : w0.heap.size ≤ gb251); replace HB := kz (zu HB.1 hb); have qg := kz (by rw [hg]; exact kh (zt zY.1) : gb249 ≠ gb251); have qt := kz (by rw [hg]; exact kg (zt zY.1) : gb251 ≠ gb249); replace zY := kz (zr zY.1 hb); clear hb hbox hg; have hnb10 := qt.1; have hnc10 := qg.1; have hcz11_0 : w9.cell? ⟨gb251, 0, none⟩ = some (.int .i64 0) := (zl zX.1 0).trans rfl; have hcz11_1 : w9.cell? ⟨gb251, 1, none⟩ = some (.int .i64 0) := (zl zX.1 1).trans rfl; have hcz11_2 : w9.cell? ⟨gb251, 2, none⟩ = some (.bool false) := (zl zX.1 2).trans rfl; have hcz11_3 : w9.cell? ⟨gb251, 3, none⟩ = some (.int .i64 0) := (zl zX.1 3).trans rfl; have hfz11_0 := zi zX.1 0; have hfz11_1 := zi zX.1 1; have hfz11_2 := zi zX.1 2; have hfz11_3 := zi zX.1 3))
   (try simp only [kd, ky, kj, kk])
   go_cut [3] (fun v3 wc => ∃ (kq : Nat) (x3_6 : List (S39)), zq (impl_entriesBelow.j0 kq l0 x3_6 a2_0 a2_1 ((rd_T86 l0 a1).f0) ((rd_T86 l0 a1).f1) ((rd_T86 l0 a1).f2) ((rd_T86 l0 a1).f3) = some r) ∧ zq (kq ≤ k) ∧ zq (Kd.R k39 39 wc w0.heap.size (fun k_ => (P3_ k_ ∨ w.heap.size ≤ k_)) v3 x3_6) ∧ zq (wc.heap[gb249]? = some (.cells #[.int .i64 a2_0, .int .i64 a2_1] 37 (0, 0))) ∧ zq (wc.heap[gb251]? = some (.cells #[.int .i64 ((rd_T86 l0 a1).f0), .int .i64 ((rd_T86 l0 a1).f1), .bool ((rd_T86 l0 a1).f2), .int .i64 ((rd_T86 l0 a1).f3)] 86 (0, 0))) ∧ zq (Kept w wc (fun k_ => P3_ k_)) ∧ zq (Below w0.heap.size w0 wc))
   case first =>
    have H := HC7.1
    clear HC7
    obtain ⟨bq12, hbq12⟩ : ∃ b_ : Bool, b_ = ((rd_T86 l0 a1).f2) := ⟨_, rfl⟩
    replace H : (if bq12 = true then (if l3.length < 5864062014805 then (impl_entriesBelow.j0 k l0 (l3 ++ [(⟨(⟨a2_0, a2_1⟩ : S37), (rd_T86 l0 a1).f3⟩ : S39)]) a2_0 a2_1 ((rd_T86 l0 a1).f0) ((rd_T86 l0 a1).f1) bq12 ((rd_T86 l0 a1).f3)) else (none)) else (impl_entriesBelow.j0 k l0 l3 a2_0 a2_1 ((rd_T86 l0 a1).f0) ((rd_T86 l0 a1).f1) bq12 ((rd_T86 l0 a1).f3))) = some r := by rw [← hbq12] at H; exact H
    have Nbq12 := kz hbq12
    clear hbq12
    (try rw [← Nbq12.1])
    by_cases c13 : bq12 = true
    ·
     subst c13
     have H1 : (if l3.length < 5864062014805 then (impl_entriesBelow.j0 k l0 (l3 ++ [(⟨(⟨a2_0, a2_1⟩ : S37), (rd_T86 l0 a1).f3⟩ : S39)]) a2_0 a2_1 ((rd_T86 l0 a1).f0) ((rd_T86 l0 a1).f1) true ((rd_T86 l0 a1).f3)) else (none)) = some r := by rw [if_pos rfl] at H; exact H
     clear H
     have H := H1
     clear H1
     by_cases c14 : l3.length < 5864062014805
     ·
      rw [if_pos c14] at H
      have LMc14 := kz c14
      clear c14
      obtain ⟨y252, hy252⟩ : ∃ y_ : List (S39), y_ = (l3 ++ [(⟨(⟨a2_0, a2_1⟩ : S37), (rd_T86 l0 a1).f3⟩ : S39)]) := ⟨_, rfl⟩
      replace H : (impl_entriesBelow.j0 k l0 y252 a2_0 a2_1 ((rd_T86 l0 a1).f0) ((rd_T86 l0 a1).f1) true ((rd_T86 l0 a1).f3)) = some r := by (rw [hy252]; with_reducible exact H)
      have Ny252 := kz hy252
      clear hy252
      have H' := kz H
      clear H
      have hnb15 := qg.1
      have hnc15 := qt.1
      have hcz16_0 : w9.cell? ⟨gb249, 0, none⟩ = some (.int .i64 a2_0) := (zl zY.1 0).trans rfl
      have hcz16_1 : w9.cell? ⟨gb249, 1, none⟩ = some (.int .i64 a2_1) := (zl zY.1 1).trans rfl
      have hfz16_0 := zi zY.1 0
      have hfz16_1 := zi zY.1 1
      have hcz17_0 : w9.cell? ⟨gb251, 0, none⟩ = some (.int .i64 0) := (zl zX.1 0).trans rfl
      have hcz17_1 : w9.cell? ⟨gb251, 1, none⟩ = some (.int .i64 0) := (zl zX.1 1).trans rfl
      have hcz17_2 : w9.cell? ⟨gb251, 2, none⟩ = some (.bool false) := (zl zX.1 2).trans rfl
      have hcz17_3 : w9.cell? ⟨gb251, 3, none⟩ = some (.int .i64 0) := (zl zX.1 3).trans rfl
      have hfz17_0 := zi zX.1 0
      have hfz17_1 := zi zX.1 1
      have hfz17_2 := zi zX.1 2
      have hfz17_3 := zi zX.1 3
      go_wp2_with (((with_reducible refine gate_builtin (b := .append) (xs := #[.tmp 18, .tmp 23]) rfl ?_); at_builtin; refine Kd.R_append k39 (w0 := w0) w0.heap.size rfl (.tmp 18) (.tmp 23) 25 39 (.agg #[(.int .i64 0), (.int .i64 0), (.int .i64 0)]) 24 rfl Try.underlying25 info39 rfl (by decide) (by omega) u9000_ l3 (⟨(⟨a2_0, a2_1⟩ : S37), (rd_T86 l0 a1).f3⟩ : S39) [.int .i64 a2_0, .int .i64 a2_1, .int .i64 ((rd_T86 l0 a1).f3)] (fun k_ => (P3_ k_ ∨ w.heap.size ≤ k_)) (fun _ => False) rfl (by (go_simp; done)) ?aP (fun _ hk => hk.elim) ?aF ?aO ?aB ?aS ?aL ?_; (case aP => exact k39_mkM _ _ _ (⟨(⟨a2_0, a2_1⟩ : S37), (rd_T86 l0 a1).f3⟩ : S39)); (case aB => exact (by repeat ((with_reducible first | exact HB.1 | refine ze ?_ qf.1)))); (case aF => exact (fun k_ hk => (.inr (ku (show Kept w _ (fun k_ => P3_ k_) from by repeat ((with_reducible first | exact HK.1 | refine za ?_ (.inr qd.1) _))).1 hk)))); (case aO => exact (by exact zC (zy (p := ⟨gb251, 3, none⟩) (zy (p := ⟨gb251, 2, none⟩) (zy (p := ⟨gb251, 1, none⟩) (zy (p := ⟨gb251, 0, none⟩) (zJ HO3.1 zX.1 (by decide)) (fun _ hk => hk.2) _) (fun _ hk => hk.2) _) (fun _ hk => hk.2) _) (fun _ hk => hk.2) _) (fun _ hk => hk.1))); (case aS => exact (zv (by repeat ((with_reducible first | exact HB.1 | refine ze ?_ qf.1))))); (case aL => have := LMc14.1; omega); intro v253 w18 ho hb hg hat; rw [← Ny252.1] at ho; replace zY := kz (zO (g := gb249) (o := .cells #[.int .i64 a2_0, .int .i64 a2_1] 37 (0, 0)) (by refine zs ?_ qg.1 _; refine zs ?_ qg.1 _; refine zs ?_ qg.1 _; refine zs ?_ qg.1 _; exact zY.1) hg (zB HO3.1 zY.1 (by decide))); replace zX := kz (zO (g := gb251) (o := .cells #[.int .i64 ((rd_T86 l0 a1).f0), .int .i64 ((rd_T86 l0 a1).f1), .bool true, .int .i64 ((rd_T86 l0 a1).f3)] 86 (0, 0)) (by refine zA (cs := #[.int .i64 ((rd_T86 l0 a1).f0), .int .i64 ((rd_T86 l0 a1).f1), .bool (true), .int .i64 0]) ?_ 3 _ rfl; refine zA (cs := #[.int .i64 ((rd_T86 l0 a1).f0), .int .i64 ((rd_T86 l0 a1).f1), .bool false, .int .i64 0]) ?_ 2 _ rfl; refine zA (cs := #[.int .i64 ((rd_T86 l0 a1).f0), .int .i64 0, .bool false, .int .i64 0]) ?_ 1 _ rfl; refine zA (cs := #[.int .i64 0, .int .i64 0, .bool false, .int .i64 0]) ?_ 0 _ rfl; exact zX.1) hg (zB HO3.1 zX.1 (by decide))); replace HB := kz hb; replace HK := kz (zK (S := (fun k_ => P3_ k_)) hg (by repeat ((with_reducible first | exact HK.1 | refine za ?_ (.inr qd.1) _))) (fun k_ e_ => (HO3.1.1 k_ e_))); have HO254 := kz ho; clear ho hb hg hat))
      go_meet
      case rel => (try rw [← Nbq12.1]); exact ⟨_, (y252), H', ⟨by omega⟩, ⟨by (try rw [← Nbq12.1]); exact HO254.1⟩, ⟨by (try rw [← Nbq12.1]); exact zY.1⟩, ⟨by (try rw [← Nbq12.1]); exact zX.1⟩, ⟨by exact HK.1⟩, ⟨by exact HB.1⟩⟩
     ·
      rw [if_neg c14] at H
      exact absurd H (by simp)
    ·
     replace c13 := Bool.eq_false_iff.mpr c13
     subst c13
     have H1 : (impl_entriesBelow.j0 k l0 l3 a2_0 a2_1 ((rd_T86 l0 a1).f0) ((rd_T86 l0 a1).f1) false ((rd_T86 l0 a1).f3)) = some r := by rw [if_neg (show ¬ (false = true) by decide)] at H; exact H
     clear H
     have H := H1
     clear H1
     have H' := kz H
     clear H
     go_wp2
     go_meet
     case rel => (try rw [← Nbq12.1]); exact ⟨_, (l3), H', ⟨by omega⟩, ⟨by (try rw [← Nbq12.1]); exact zC (zy (p := ⟨gb251, 3, none⟩) (zy (p := ⟨gb251, 2, none⟩) (zy (p := ⟨gb251, 1, none⟩) (zy (p := ⟨gb251, 0, none⟩) (zJ HO3.1 zX.1 (by decide)) (fun _ hk => hk.2) _) (fun _ hk => hk.2) _) (fun _ hk => hk.2) _) (fun _ hk => hk.2) _) (fun _ hk => hk.1)⟩, ⟨by (try rw [← Nbq12.1]); refine zs ?_ qg.1 _; refine zs ?_ qg.1 _; refine zs ?_ qg.1 _; refine zs ?_ qg.1 _; exact zY.1⟩, ⟨by (try rw [← Nbq12.1]); refine zA (cs := #[.int .i64 ((rd_T86 l0 a1).f0), .int .i64 ((rd_T86 l0 a1).f1), .bool (false), .int .i64 0]) ?_ 3 _ rfl; refine zA (cs := #[.int .i64 ((rd_T86 l0 a1).f0), .int .i64 ((rd_T86 l0 a1).f1), .bool false, .int .i64 0]) ?_ 2 _ rfl; refine zA (cs := #[.int .i64 ((rd_T86 l0 a1).f0), .int .i64 0, .bool false, .int .i64 0]) ?_ 1 _ rfl; refine zA (cs := #[.int .i64 0, .int .i64 0, .bool false, .int .i64 0]) ?_ 0 _ rfl; exact zX.1⟩, ⟨by repeat ((with_reducible first | exact HK.1 | refine za ?_ (.inr qd.1) _))⟩, ⟨by repeat ((with_reducible first | exact HB.1 | refine ze ?_ qf.1))⟩⟩
   case rest =>
    clear HC7
    obtain ⟨kq, x3_6, HA, HJ6, HO_3, zY, zX, HK, HB⟩ := hcut
    cases kq with
    | zero => exact absurd HA.1 (by simp [impl_entriesBelow.j0])
    | succ kj6 =>
     have H := HA.1
     clear HA
     simp only [impl_entriesBelow.j0] at H
     by_cases c19 : a2_1 = 32
     ·
      rw [if_pos c19] at H
      have c19b0 : (a2_1 == 32) = true := beq_iff_eq.mpr c19
      have c19b1 : (a2_1 != 32) = false := bne_eq_false_iff_eq.mpr c19
      clear c19
      obtain rfl := kx H
      have hnb20 := qg.1
      have hnc20 := qt.1
      have hcz21_0 : wc.cell? ⟨gb249, 0, none⟩ = some (.int .i64 a2_0) := (zl zY.1 0).trans rfl
      have hcz21_1 : wc.cell? ⟨gb249, 1, none⟩ = some (.int .i64 a2_1) := (zl zY.1 1).trans rfl
      have hfz21_0 := zi zY.1 0
      have hfz21_1 := zi zY.1 1
      go_wp2
      go_ret
      exact ⟨_, by rfl, by exact HO_3.1, by exact HB.1, by exact HK.1⟩
     ·
      rw [if_neg c19] at H
      have c19b0 : (a2_1 == 32) = false := beq_eq_false_iff_ne.mpr c19
      have c19b1 : (a2_1 != 32) = true := bne_iff_ne.mpr c19
      replace H := ke.mp H
      obtain ⟨⟨t255, t256, t257, t258⟩, A220, H⟩ := H
      replace H : (if ((rd_T86 l0 a1).f0) > 0 then ((impl_entriesBelow.f kj6 l0 ((rd_T86 l0 a1).f0) t255 t256 x3_6).bind fun t261 => (if ((rd_T86 l0 a1).f1) > 0 then ((impl_entriesBelow.f kj6 l0 ((rd_T86 l0 a1).f1) t257 t258 t261).bind fun t264 => (some t264)) else (some t261))) else (if ((rd_T86 l0 a1).f1) > 0 then ((impl_entriesBelow.f kj6 l0 ((rd_T86 l0 a1).f1) t257 t258 x3_6).bind fun t267 => (some t267)) else (some x3_6))) = some r := H
      have A22 := kz A220
      clear A220
      by_cases c23 : ((rd_T86 l0 a1).f0) > 0
      ·
       rw [if_pos c23] at H
       have c23b0 : decide (0 < ((rd_T86 l0 a1).f0)) = true := decide_eq_true c23
       clear c23
       replace H := ke.mp H
       obtain ⟨t261, A240, H⟩ := H
       replace H : (if ((rd_T86 l0 a1).f1) > 0 then ((impl_entriesBelow.f kj6 l0 ((rd_T86 l0 a1).f1) t257 t258 t261).bind fun t264 => (some t264)) else (some t261)) = some r := H
       have A24 := kz A240
       clear A240
       by_cases c25 : ((rd_T86 l0 a1).f1) > 0
       ·
        rw [if_pos c25] at H
        have c25b0 : decide (0 < ((rd_T86 l0 a1).f1)) = true := decide_eq_true c25
        clear c25
        replace H := ke.mp H
        obtain ⟨t264, A260, H⟩ := H
        replace H : (some t264) = some r := H
        have A26 := kz A260
        clear A260
        obtain rfl := kx H
        have hnb27 := qg.1
        have hnc27 := qt.1
        have hcz28_0 : wc.cell? ⟨gb249, 0, none⟩ = some (.int .i64 a2_0) := (zl zY.1 0).trans rfl
        have hcz28_1 : wc.cell? ⟨gb249, 1, none⟩ = some (.int .i64 a2_1) := (zl zY.1 1).trans rfl
        have hfz28_0 := zi zY.1 0
        have hfz28_1 := zi zY.1 1
        go_wp2_with (first | ((with_reducible refine zw (f := 95) rfl ?_); refine zL (some 31) rfl rfl Try.func95 (by kernel_rfl) rfl #[.agg #[.int .i64 a2_0, .int .i64 a2_1]] rfl (by (try simp only [kv, kf, kb]); rfl) ?_; (with_reducible refine (impl_Prefix_halves.calls a2_0 a2_1 t255 t256 t257 t258 _ A22.1).mono ?_); rintro e w29 ⟨rfl, hb⟩; refine ⟨_, rfl, ?_⟩; replace HO_3 := kz (zz HO_3.1 hb); replace zY := kz (zr zY.1 hb); replace zX := kz (zr zX.1 hb); replace HK := kz (zx HK.1 hb); replace HB := kz (zu HB.1 hb)) | ((with_reducible refine zH (N := 10) rfl ?_); refine zE rfl (N := 10) rfl (cs := #[.int .i64 0, .int .i64 0]) (t := 37) ?hr ?_; (case hr => go_simp; done); intro gb259 hg w30 hbox hb; replace HO_3 := kz (zz HO_3.1 hb); have zZ := kz hbox; have qh := kz (by rw [hg]; exact (by exact HK.1.1) : w.heap.size ≤ gb259); replace HK := kz (zx HK.1 hb); have qo := kz (by rw [hg]; exact (zv HB.1) : w0.heap.size ≤ gb259); replace HB := kz (zu HB.1 hb); have qi := kz (by rw [hg]; exact kh (zt zY.1) : gb249 ≠ gb259); have qu := kz (by rw [hg]; exact kg (zt zY.1) : gb259 ≠ gb249); replace zY := kz (zr zY.1 hb); have qj := kz (by rw [hg]; exact kh (zt zX.1) : gb251 ≠ gb259); have qv := kz (by rw [hg]; exact kg (zt zX.1) : gb259 ≠ gb251); replace zX := kz (zr zX.1 hb); clear hb hbox hg) | ((with_reducible refine zH (N := 11) rfl ?_); refine zE rfl (N := 11) rfl (cs := #[.int .i64 0, .int .i64 0]) (t := 37) ?hr ?_; (case hr => go_simp; done); intro gb260 hg w31 hbox hb; replace HO_3 := kz (zz HO_3.1 hb); have qa := kz hbox; have qp := kz (by rw [hg]; exact (by exact HK.1.1) : w.heap.size ≤ gb260); replace HK := kz (zx HK.1 hb); have qy := kz (by rw [hg]; exact (zv HB.1) : w0.heap.size ≤ gb260); replace HB := kz (zu HB.1 hb); have qk := kz (by rw [hg]; exact kh (zt zY.1) : gb249 ≠ gb260); have qw := kz (by rw [hg]; exact kg (zt zY.1) : gb260 ≠ gb249); replace zY := kz (zr zY.1 hb); have ql := kz (by rw [hg]; exact kh (zt zX.1) : gb251 ≠ gb260); have qx := kz (by rw [hg]; exact kg (zt zX.1) : gb260 ≠ gb251); replace zX := kz (zr zX.1 hb); have qm := kz (by rw [hg]; exact kh (zt zZ.1) : gb259 ≠ gb260); have qn := kz (by rw [hg]; exact kg (zt zZ.1) : gb260 ≠ gb259); replace zZ := kz (zr zZ.1 hb); clear hb hbox hg; have hnb32 := qu.1; have hnc32 := qi.1; have hnb33 := qv.1; have hnc33 := qj.1; have hnb34 := qm.1; have hnc34 := qn.1; have hcz35_0 : w31.cell? ⟨gb259, 0, none⟩ = some (.int .i64 0) := (zl zZ.1 0).trans rfl; have hcz35_1 : w31.cell? ⟨gb259, 1, none⟩ = some (.int .i64 0) := (zl zZ.1 1).trans rfl; have hfz35_0 := zi zZ.1 0; have hfz35_1 := zi zZ.1 1) | ((with_reducible refine zI (t := 37) (p := 10) rfl ?_); refine zG (t := 37) (p := 10) (v := ?vo_w36) (w1 := ((w31.setCell ⟨gb259, 0, none⟩ (.int .i64 t255)).setCell ⟨gb259, 1, none⟩ (.int .i64 t256))) ?hg ?ho ?hn ?hr ?_; (case ho => rfl); (case hg => rfl); (case hn => rfl); (case hr => go_simp; done); intro w36 hw; have n0_ : zq (Kd.R k39 39 w36 w0.heap.size (fun k_ => (P3_ k_ ∨ w.heap.size ≤ k_)) u3 x3_6) := ⟨by rw [hw]; exact zC (zy (p := ⟨gb259, 1, none⟩) (zy (p := ⟨gb259, 0, none⟩) (zJ HO_3.1 zZ.1 (by decide)) (fun _ hk => hk.2) _) (fun _ hk => hk.2) _) (fun _ hk => hk.1)⟩; have n1_ : zq (w36.heap[gb249]? = some (.cells #[.int .i64 a2_0, .int .i64 a2_1] 37 (0, 0))) := ⟨by rw [hw]; refine zs ?_ qi.1 _; refine zs ?_ qi.1 _; exact zY.1⟩; have n2_ : zq (w36.heap[gb251]? = some (.cells #[.int .i64 ((rd_T86 l0 a1).f0), .int .i64 ((rd_T86 l0 a1).f1), .bool ((rd_T86 l0 a1).f2), .int .i64 ((rd_T86 l0 a1).f3)] 86 (0, 0))) := ⟨by rw [hw]; refine zs ?_ qj.1 _; refine zs ?_ qj.1 _; exact zX.1⟩; have n3_ : zq (w36.heap[gb259]? = some (.cells #[.int .i64 t255, .int .i64 t256] 37 (0, 0))) := ⟨by rw [hw]; refine zA (cs := #[.int .i64 t255, .int .i64 0]) ?_ 1 _ rfl; refine zA (cs := #[.int .i64 0, .int .i64 0]) ?_ 0 _ rfl; exact zZ.1⟩; have n4_ : zq (w36.heap[gb260]? = some (.cells #[.int .i64 0, .int .i64 0] 37 (0, 0))) := ⟨by rw [hw]; refine zs ?_ qn.1 _; refine zs ?_ qn.1 _; exact qa.1⟩; have n5_ : zq (Kept w w36 (fun k_ => P3_ k_)) := ⟨by rw [hw]; repeat ((with_reducible first | exact HK.1 | refine za ?_ (.inr qh.1) _))⟩; have n6_ : zq (Below w0.heap.size w0 w36) := ⟨by rw [hw]; repeat ((with_reducible first | exact HB.1 | refine ze ?_ qo.1))⟩; clear hw HO_3 zY zX zZ qa HK HB; have HO_3 := n0_; have zY := n1_; have zX := n2_; have zZ := n3_; have qa := n4_; have HK := n5_; have HB := n6_; clear n0_ n1_ n2_ n3_ n4_ n5_ n6_; have hnb37 := qw.1; have hnc37 := qk.1; have hnb38 := qx.1; have hnc38 := ql.1; have hcz39_0 : w36.cell? ⟨gb260, 0, none⟩ = some (.int .i64 0) := (zl qa.1 0).trans rfl; have hcz39_1 : w36.cell? ⟨gb260, 1, none⟩ = some (.int .i64 0) := (zl qa.1 1).trans rfl; have hfz39_0 := zi qa.1 0; have hfz39_1 := zi qa.1 1) | ((with_reducible refine zI (t := 37) (p := 11) rfl ?_); refine zG (t := 37) (p := 11) (v := ?vo_w40) (w1 := ((w36.setCell ⟨gb260, 0, none⟩ (.int .i64 t257)).setCell ⟨gb260, 1, none⟩ (.int .i64 t258))) ?hg ?ho ?hn ?hr ?_; (case ho => rfl); (case hg => rfl); (case hn => rfl); (case hr => go_simp; done); intro w40 hw; have n0_ : zq (Kd.R k39 39 w40 w0.heap.size (fun k_ => (P3_ k_ ∨ w.heap.size ≤ k_)) u3 x3_6) := ⟨by rw [hw]; exact zC (zy (p := ⟨gb260, 1, none⟩) (zy (p := ⟨gb260, 0, none⟩) (zJ HO_3.1 qa.1 (by decide)) (fun _ hk => hk.2) _) (fun _ hk => hk.2) _) (fun _ hk => hk.1)⟩; have n1_ : zq (w40.heap[gb249]? = some (.cells #[.int .i64 a2_0, .int .i64 a2_1] 37 (0, 0))) := ⟨by rw [hw]; refine zs ?_ qk.1 _; refine zs ?_ qk.1 _; exact zY.1⟩; have n2_ : zq (w40.heap[gb251]? = some (.cells #[.int .i64 ((rd_T86 l0 a1).f0), .int .i64 ((rd_T86 l0 a1).f1), .bool ((rd_T86 l0 a1).f2), .int .i64 ((rd_T86 l0 a1).f3)] 86 (0, 0))) := ⟨by rw [hw]; refine zs ?_ ql.1 _; refine zs ?_ ql.1 _; exact zX.1⟩; have n3_ : zq (w40.heap[gb259]? = some (.cells #[.int .i64 t255, .int .i64 t256] 37 (0, 0))) := ⟨by rw [hw]; refine zs ?_ qm.1 _; refine zs ?_ qm.1 _; exact zZ.1⟩; have n4_ : zq (w40.heap[gb260]? = some (.cells #[.int .i64 t257, .int .i64 t258] 37 (0, 0))) := ⟨by rw [hw]; refine zA (cs := #[.int .i64 t257, .int .i64 0]) ?_ 1 _ rfl; refine zA (cs := #[.int .i64 0, .int .i64 0]) ?_ 0 _ rfl; exact qa.1⟩; have n5_ : zq (Kept w w40 (fun k_ => P3_ k_)) := ⟨by rw [hw]; repeat ((with_reducible first | exact HK.1 | refine za ?_ (.inr qp.1) _))⟩; have n6_ : zq (Below w0.heap.size w0 w40) := ⟨by rw [hw]; repeat ((with_reducible first | exact HB.1 | refine ze ?_ qy.1))⟩; clear hw HO_3 zY zX zZ qa HK HB; have HO_3 := n0_; have zY := n1_; have zX := n2_; have zZ := n3_; have qa := n4_; have HK := n5_; have HB := n6_; clear n0_ n1_ n2_ n3_ n4_ n5_ n6_; have hcz41_0 : w40.cell? ⟨gb251, 0, none⟩ = some (.int .i64 ((rd_T86 l0 a1).f0)) := (zl zX.1 0).trans rfl; have hcz41_1 : w40.cell? ⟨gb251, 1, none⟩ = some (.int .i64 ((rd_T86 l0 a1).f1)) := (zl zX.1 1).trans rfl; have hcz41_2 : w40.cell? ⟨gb251, 2, none⟩ = some (.bool ((rd_T86 l0 a1).f2)) := (zl zX.1 2).trans rfl; have hcz41_3 : w40.cell? ⟨gb251, 3, none⟩ = some (.int .i64 ((rd_T86 l0 a1).f3)) := (zl zX.1 3).trans rfl; have hfz41_0 := zi zX.1 0; have hfz41_1 := zi zX.1 1; have hfz41_2 := zi zX.1 2; have hfz41_3 := zi zX.1 3; have hcz42_0 : w40.cell? ⟨gb259, 0, none⟩ = some (.int .i64 t255) := (zl zZ.1 0).trans rfl; have hcz42_1 : w40.cell? ⟨gb259, 1, none⟩ = some (.int .i64 t256) := (zl zZ.1 1).trans rfl; have hfz42_0 := zi zZ.1 0; have hfz42_1 := zi zZ.1 1; obtain ⟨Ao43, co43, eo43⟩ := zP HO_3.1; subst eo43) | ((with_reducible refine zw (f := 73) rfl ?_); refine zL (some 42) rfl rfl kt (by kernel_rfl) rfl #[.slice (some ad250) l0.length c0, .int .i64 ((rd_T86 l0 a1).f0), .agg #[.int .i64 t255, .int .i64 t256], .slice Ao43 x3_6.length co43] rfl (by (try simp only [kv, kf, kb]); rfl) ?_; (with_reducible refine (ih kj6 (by have := HJ6.1; omega) _ _ l0 ((rd_T86 l0 a1).f0) t255 t256 (fun k_ => some k_ = (.slice Ao43 x3_6.length co43 : Value).ownBlock) (.slice Ao43 x3_6.length co43) x3_6 t261 w0 _ ?side1 ?side2 ?side3 ?side4 A24.1).mono ?_); (case side1 => repeat (with_reducible exact HB.1)); (case side2 => exact Kd.C_kept_call HR0.1 HK.1 (fun k_ hs_ => (fun e_ => (HO_3.1.1 k_ e_.symm)) hs_)); (case side3 => exact HC0.1); (case side4 => exact Kd.R_tight rfl HO_3.1); rintro e w44 ⟨v262, rfl, ho0, hb, hkp⟩; refine ⟨_, rfl, ?_⟩; replace zY := kz (zF zY.1 hkp (fun hs_ => (fun e_ => (zB HO_3.1 zY.1 (by decide)) e_) hs_)); replace zX := kz (zF zX.1 hkp (fun hs_ => (fun e_ => (zB HO_3.1 zX.1 (by decide)) e_) hs_)); replace zZ := kz (zF zZ.1 hkp (fun hs_ => (fun e_ => (zB HO_3.1 zZ.1 (by decide)) e_) hs_)); replace qa := kz (zF qa.1 hkp (fun hs_ => (fun e_ => (zB HO_3.1 qa.1 (by decide)) e_) hs_)); have qF := kz (zC (ok' := fun k_ => (P3_ k_ ∨ w.heap.size ≤ k_)) ho0 (fun k_ hk_ => Or.elim hk_ (fun hs_ => (HO_3.1.1 k_ (hs_).symm)) (fun hn_ => (.inr (ku (by exact HK.1.1) hn_))))); replace HK := kz (Kept.then_ HK.1 hkp (fun k_ hs_ => (fun e_ => (HO_3.1.1 k_ e_.symm)) hs_)); replace HB := kz hb; have hcz45_0 : w44.cell? ⟨gb251, 0, none⟩ = some (.int .i64 ((rd_T86 l0 a1).f0)) := (zl zX.1 0).trans rfl; have hcz45_1 : w44.cell? ⟨gb251, 1, none⟩ = some (.int .i64 ((rd_T86 l0 a1).f1)) := (zl zX.1 1).trans rfl; have hcz45_2 : w44.cell? ⟨gb251, 2, none⟩ = some (.bool ((rd_T86 l0 a1).f2)) := (zl zX.1 2).trans rfl; have hcz45_3 : w44.cell? ⟨gb251, 3, none⟩ = some (.int .i64 ((rd_T86 l0 a1).f3)) := (zl zX.1 3).trans rfl; have hfz45_0 := zi zX.1 0; have hfz45_1 := zi zX.1 1; have hfz45_2 := zi zX.1 2; have hfz45_3 := zi zX.1 3; have hcz46_0 : w44.cell? ⟨gb260, 0, none⟩ = some (.int .i64 t257) := (zl qa.1 0).trans rfl; have hcz46_1 : w44.cell? ⟨gb260, 1, none⟩ = some (.int .i64 t258) := (zl qa.1 1).trans rfl; have hfz46_0 := zi qa.1 0; have hfz46_1 := zi qa.1 1; obtain ⟨Ao47, co47, eo47⟩ := zP qF.1; subst eo47) | ((with_reducible refine zw (f := 73) rfl ?_); refine zL (some 51) rfl rfl kt (by kernel_rfl) rfl #[.slice (some ad250) l0.length c0, .int .i64 ((rd_T86 l0 a1).f1), .agg #[.int .i64 t257, .int .i64 t258], .slice Ao47 t261.length co47] rfl (by (try simp only [kv, kf, kb]); rfl) ?_; (with_reducible refine (ih kj6 (by have := HJ6.1; omega) _ _ l0 ((rd_T86 l0 a1).f1) t257 t258 (fun k_ => some k_ = (.slice Ao47 t261.length co47 : Value).ownBlock) (.slice Ao47 t261.length co47) t261 t264 w0 _ ?side1 ?side2 ?side3 ?side4 A26.1).mono ?_); (case side1 => repeat (with_reducible exact HB.1)); (case side2 => exact Kd.C_kept_call HR0.1 HK.1 (fun k_ hs_ => (fun e_ => (qF.1.1 k_ e_.symm)) hs_)); (case side3 => exact HC0.1); (case side4 => exact Kd.R_tight rfl qF.1); rintro e w48 ⟨v265, rfl, ho0, hb, hkp⟩; refine ⟨_, rfl, ?_⟩; replace zY := kz (zF zY.1 hkp (fun hs_ => (fun e_ => (zB qF.1 zY.1 (by decide)) e_) hs_)); replace zX := kz (zF zX.1 hkp (fun hs_ => (fun e_ => (zB qF.1 zX.1 (by decide)) e_) hs_)); replace zZ := kz (zF zZ.1 hkp (fun hs_ => (fun e_ => (zB qF.1 zZ.1 (by decide)) e_) hs_)); replace qa := kz (zF qa.1 hkp (fun hs_ => (fun e_ => (zB qF.1 qa.1 (by decide)) e_) hs_)); have HO266 := kz (zC (ok' := fun k_ => (P3_ k_ ∨ w.heap.size ≤ k_)) ho0 (fun k_ hk_ => Or.elim hk_ (fun hs_ => (qF.1.1 k_ (hs_).symm)) (fun hn_ => (.inr (ku (by exact HK.1.1) hn_))))); replace HK := kz (Kept.then_ HK.1 hkp (fun k_ hs_ => (fun e_ => (qF.1.1 k_ e_.symm)) hs_)); replace HB := kz hb))
        go_ret
        exact ⟨_, by rfl, by exact HO266.1, by exact HB.1, by exact HK.1⟩
       ·
        rw [if_neg c25] at H
        have c25b0 : decide (0 < ((rd_T86 l0 a1).f1)) = false := decide_eq_false c25
        clear c25
        obtain rfl := kx H
        have hnb49 := qg.1
        have hnc49 := qt.1
        have hcz50_0 : wc.cell? ⟨gb249, 0, none⟩ = some (.int .i64 a2_0) := (zl zY.1 0).trans rfl
        have hcz50_1 : wc.cell? ⟨gb249, 1, none⟩ = some (.int .i64 a2_1) := (zl zY.1 1).trans rfl
        have hfz50_0 := zi zY.1 0
        have hfz50_1 := zi zY.1 1
        go_wp2_with (first | ((with_reducible refine zw (f := 95) rfl ?_); refine zL (some 31) rfl rfl Try.func95 (by kernel_rfl) rfl #[.agg #[.int .i64 a2_0, .int .i64 a2_1]] rfl (by (try simp only [kv, kf, kb]); rfl) ?_; (with_reducible refine (impl_Prefix_halves.calls a2_0 a2_1 t255 t256 t257 t258 _ A22.1).mono ?_); rintro e w51 ⟨rfl, hb⟩; refine ⟨_, rfl, ?_⟩; replace HO_3 := kz (zz HO_3.1 hb); replace zY := kz (zr zY.1 hb); replace zX := kz (zr zX.1 hb); replace HK := kz (zx HK.1 hb); replace HB := kz (zu HB.1 hb)) | ((with_reducible refine zH (N := 10) rfl ?_); refine zE rfl (N := 10) rfl (cs := #[.int .i64 0, .int .i64 0]) (t := 37) ?hr ?_; (case hr => go_simp; done); intro gb259 hg w52 hbox hb; replace HO_3 := kz (zz HO_3.1 hb); have zZ := kz hbox; have qh := kz (by rw [hg]; exact (by exact HK.1.1) : w.heap.size ≤ gb259); replace HK := kz (zx HK.1 hb); have qo := kz (by rw [hg]; exact (zv HB.1) : w0.heap.size ≤ gb259); replace HB := kz (zu HB.1 hb); have qi := kz (by rw [hg]; exact kh (zt zY.1) : gb249 ≠ gb259); have qu := kz (by rw [hg]; exact kg (zt zY.1) : gb259 ≠ gb249); replace zY := kz (zr zY.1 hb); have qj := kz (by rw [hg]; exact kh (zt zX.1) : gb251 ≠ gb259); have qv := kz (by rw [hg]; exact kg (zt zX.1) : gb259 ≠ gb251); replace zX := kz (zr zX.1 hb); clear hb hbox hg) | ((with_reducible refine zH (N := 11) rfl ?_); refine zE rfl (N := 11) rfl (cs := #[.int .i64 0, .int .i64 0]) (t := 37) ?hr ?_; (case hr => go_simp; done); intro gb260 hg w53 hbox hb; replace HO_3 := kz (zz HO_3.1 hb); have qa := kz hbox; have qp := kz (by rw [hg]; exact (by exact HK.1.1) : w.heap.size ≤ gb260); replace HK := kz (zx HK.1 hb); have qy := kz (by rw [hg]; exact (zv HB.1) : w0.heap.size ≤ gb260); replace HB := kz (zu HB.1 hb); have qk := kz (by rw [hg]; exact kh (zt zY.1) : gb249 ≠ gb260); have qw := kz (by rw [hg]; exact kg (zt zY.1) : gb260 ≠ gb249); replace zY := kz (zr zY.1 hb); have ql := kz (by rw [hg]; exact kh (zt zX.1) : gb251 ≠ gb260); have qx := kz (by rw [hg]; exact kg (zt zX.1) : gb260 ≠ gb251); replace zX := kz (zr zX.1 hb); have qm := kz (by rw [hg]; exact kh (zt zZ.1) : gb259 ≠ gb260); have qn := kz (by rw [hg]; exact kg (zt zZ.1) : gb260 ≠ gb259); replace zZ := kz (zr zZ.1 hb); clear hb hbox hg; have hnb54 := qu.1; have hnc54 := qi.1; have hnb55 := qv.1; have hnc55 := qj.1; have hnb56 := qm.1; have hnc56 := qn.1; have hcz57_0 : w53.cell? ⟨gb259, 0, none⟩ = some (.int .i64 0) := (zl zZ.1 0).trans rfl; have hcz57_1 : w53.cell? ⟨gb259, 1, none⟩ = some (.int .i64 0) := (zl zZ.1 1).trans rfl; have hfz57_0 := zi zZ.1 0; have hfz57_1 := zi zZ.1 1) | ((with_reducible refine zI (t := 37) (p := 10) rfl ?_); refine zG (t := 37) (p := 10) (v := ?vo_w58) (w1 := ((w53.setCell ⟨gb259, 0, none⟩ (.int .i64 t255)).setCell ⟨gb259, 1, none⟩ (.int .i64 t256))) ?hg ?ho ?hn ?hr ?_; (case ho => rfl); (case hg => rfl); (case hn => rfl); (case hr => go_simp; done); intro w58 hw; have n0_ : zq (Kd.R k39 39 w58 w0.heap.size (fun k_ => (P3_ k_ ∨ w.heap.size ≤ k_)) u3 x3_6) := ⟨by rw [hw]; exact zC (zy (p := ⟨gb259, 1, none⟩) (zy (p := ⟨gb259, 0, none⟩) (zJ HO_3.1 zZ.1 (by decide)) (fun _ hk => hk.2) _) (fun _ hk => hk.2) _) (fun _ hk => hk.1)⟩; have n1_ : zq (w58.heap[gb249]? = some (.cells #[.int .i64 a2_0, .int .i64 a2_1] 37 (0, 0))) := ⟨by rw [hw]; refine zs ?_ qi.1 _; refine zs ?_ qi.1 _; exact zY.1⟩; have n2_ : zq (w58.heap[gb251]? = some (.cells #[.int .i64 ((rd_T86 l0 a1).f0), .int .i64 ((rd_T86 l0 a1).f1), .bool ((rd_T86 l0 a1).f2), .int .i64 ((rd_T86 l0 a1).f3)] 86 (0, 0))) := ⟨by rw [hw]; refine zs ?_ qj.1 _; refine zs ?_ qj.1 _; exact zX.1⟩; have n3_ : zq (w58.heap[gb259]? = some (.cells #[.int .i64 t255, .int .i64 t256] 37 (0, 0))) := ⟨by rw [hw]; refine zA (cs := #[.int .i64 t255, .int .i64 0]) ?_ 1 _ rfl; refine zA (cs := #[.int .i64 0, .int .i64 0]) ?_ 0 _ rfl; exact zZ.1⟩; have n4_ : zq (w58.heap[gb260]? = some (.cells #[.int .i64 0, .int .i64 0] 37 (0, 0))) := ⟨by rw [hw]; refine zs ?_ qn.1 _; refine zs ?_ qn.1 _; exact qa.1⟩; have n5_ : zq (Kept w w58 (fun k_ => P3_ k_)) := ⟨by rw [hw]; repeat ((with_reducible first | exact HK.1 | refine za ?_ (.inr qh.1) _))⟩; have n6_ : zq (Below w0.heap.size w0 w58) := ⟨by rw [hw]; repeat ((with_reducible first | exact HB.1 | refine ze ?_ qo.1))⟩; clear hw HO_3 zY zX zZ qa HK HB; have HO_3 := n0_; have zY := n1_; have zX := n2_; have zZ := n3_; have qa := n4_; have HK := n5_; have HB := n6_; clear n0_ n1_ n2_ n3_ n4_ n5_ n6_; have hnb59 := qw.1; have hnc59 := qk.1; have hnb60 := qx.1; have hnc60 := ql.1; have hcz61_0 : w58.cell? ⟨gb260, 0, none⟩ = some (.int .i64 0) := (zl qa.1 0).trans rfl; have hcz61_1 : w58.cell? ⟨gb260, 1, none⟩ = some (.int .i64 0) := (zl qa.1 1).trans rfl; have hfz61_0 := zi qa.1 0; have hfz61_1 := zi qa.1 1) | ((with_reducible refine zI (t := 37) (p := 11) rfl ?_); refine zG (t := 37) (p := 11) (v := ?vo_w62) (w1 := ((w58.setCell ⟨gb260, 0, none⟩ (.int .i64 t257)).setCell ⟨gb260, 1, none⟩ (.int .i64 t258))) ?hg ?ho ?hn ?hr ?_; (case ho => rfl); (case hg => rfl); (case hn => rfl); (case hr => go_simp; done); intro w62 hw; have n0_ : zq (Kd.R k39 39 w62 w0.heap.size (fun k_ => (P3_ k_ ∨ w.heap.size ≤ k_)) u3 x3_6) := ⟨by rw [hw]; exact zC (zy (p := ⟨gb260, 1, none⟩) (zy (p := ⟨gb260, 0, none⟩) (zJ HO_3.1 qa.1 (by decide)) (fun _ hk => hk.2) _) (fun _ hk => hk.2) _) (fun _ hk => hk.1)⟩; have n1_ : zq (w62.heap[gb249]? = some (.cells #[.int .i64 a2_0, .int .i64 a2_1] 37 (0, 0))) := ⟨by rw [hw]; refine zs ?_ qk.1 _; refine zs ?_ qk.1 _; exact zY.1⟩; have n2_ : zq (w62.heap[gb251]? = some (.cells #[.int .i64 ((rd_T86 l0 a1).f0), .int .i64 ((rd_T86 l0 a1).f1), .bool ((rd_T86 l0 a1).f2), .int .i64 ((rd_T86 l0 a1).f3)] 86 (0, 0))) := ⟨by rw [hw]; refine zs ?_ ql.1 _; refine zs ?_ ql.1 _; exact zX.1⟩; have n3_ : zq (w62.heap[gb259]? = some (.cells #[.int .i64 t255, .int .i64 t256] 37 (0, 0))) := ⟨by rw [hw]; refine zs ?_ qm.1 _; refine zs ?_ qm.1 _; exact zZ.1⟩; have n4_ : zq (w62.heap[gb260]? = some (.cells #[.int .i64 t257, .int .i64 t258] 37 (0, 0))) := ⟨by rw [hw]; refine zA (cs := #[.int .i64 t257, .int .i64 0]) ?_ 1 _ rfl; refine zA (cs := #[.int .i64 0, .int .i64 0]) ?_ 0 _ rfl; exact qa.1⟩; have n5_ : zq (Kept w w62 (fun k_ => P3_ k_)) := ⟨by rw [hw]; repeat ((with_reducible first | exact HK.1 | refine za ?_ (.inr qp.1) _))⟩; have n6_ : zq (Below w0.heap.size w0 w62) := ⟨by rw [hw]; repeat ((with_reducible first | exact HB.1 | refine ze ?_ qy.1))⟩; clear hw HO_3 zY zX zZ qa HK HB; have HO_3 := n0_; have zY := n1_; have zX := n2_; have zZ := n3_; have qa := n4_; have HK := n5_; have HB := n6_; clear n0_ n1_ n2_ n3_ n4_ n5_ n6_; have hcz63_0 : w62.cell? ⟨gb251, 0, none⟩ = some (.int .i64 ((rd_T86 l0 a1).f0)) := (zl zX.1 0).trans rfl; have hcz63_1 : w62.cell? ⟨gb251, 1, none⟩ = some (.int .i64 ((rd_T86 l0 a1).f1)) := (zl zX.1 1).trans rfl; have hcz63_2 : w62.cell? ⟨gb251, 2, none⟩ = some (.bool ((rd_T86 l0 a1).f2)) := (zl zX.1 2).trans rfl; have hcz63_3 : w62.cell? ⟨gb251, 3, none⟩ = some (.int .i64 ((rd_T86 l0 a1).f3)) := (zl zX.1 3).trans rfl; have hfz63_0 := zi zX.1 0; have hfz63_1 := zi zX.1 1; have hfz63_2 := zi zX.1 2; have hfz63_3 := zi zX.1 3; have hcz64_0 : w62.cell? ⟨gb259, 0, none⟩ = some (.int .i64 t255) := (zl zZ.1 0).trans rfl; have hcz64_1 : w62.cell? ⟨gb259, 1, none⟩ = some (.int .i64 t256) := (zl zZ.1 1).trans rfl; have hfz64_0 := zi zZ.1 0; have hfz64_1 := zi zZ.1 1; obtain ⟨Ao65, co65, eo65⟩ := zP HO_3.1; subst eo65) | ((with_reducible refine zw (f := 73) rfl ?_); refine zL (some 42) rfl rfl kt (by kernel_rfl) rfl #[.slice (some ad250) l0.length c0, .int .i64 ((rd_T86 l0 a1).f0), .agg #[.int .i64 t255, .int .i64 t256], .slice Ao65 x3_6.length co65] rfl (by (try simp only [kv, kf, kb]); rfl) ?_; (with_reducible refine (ih kj6 (by have := HJ6.1; omega) _ _ l0 ((rd_T86 l0 a1).f0) t255 t256 (fun k_ => some k_ = (.slice Ao65 x3_6.length co65 : Value).ownBlock) (.slice Ao65 x3_6.length co65) x3_6 t261 w0 _ ?side1 ?side2 ?side3 ?side4 A24.1).mono ?_); (case side1 => repeat (with_reducible exact HB.1)); (case side2 => exact Kd.C_kept_call HR0.1 HK.1 (fun k_ hs_ => (fun e_ => (HO_3.1.1 k_ e_.symm)) hs_)); (case side3 => exact HC0.1); (case side4 => exact Kd.R_tight rfl HO_3.1); rintro e w66 ⟨v262, rfl, ho0, hb, hkp⟩; refine ⟨_, rfl, ?_⟩; replace zY := kz (zF zY.1 hkp (fun hs_ => (fun e_ => (zB HO_3.1 zY.1 (by decide)) e_) hs_)); replace zX := kz (zF zX.1 hkp (fun hs_ => (fun e_ => (zB HO_3.1 zX.1 (by decide)) e_) hs_)); replace zZ := kz (zF zZ.1 hkp (fun hs_ => (fun e_ => (zB HO_3.1 zZ.1 (by decide)) e_) hs_)); replace qa := kz (zF qa.1 hkp (fun hs_ => (fun e_ => (zB HO_3.1 qa.1 (by decide)) e_) hs_)); have qF := kz (zC (ok' := fun k_ => (P3_ k_ ∨ w.heap.size ≤ k_)) ho0 (fun k_ hk_ => Or.elim hk_ (fun hs_ => (HO_3.1.1 k_ (hs_).symm)) (fun hn_ => (.inr (ku (by exact HK.1.1) hn_))))); replace HK := kz (Kept.then_ HK.1 hkp (fun k_ hs_ => (fun e_ => (HO_3.1.1 k_ e_.symm)) hs_)); replace HB := kz hb; have hcz67_0 : w66.cell? ⟨gb251, 0, none⟩ = some (.int .i64 ((rd_T86 l0 a1).f0)) := (zl zX.1 0).trans rfl; have hcz67_1 : w66.cell? ⟨gb251, 1, none⟩ = some (.int .i64 ((rd_T86 l0 a1).f1)) := (zl zX.1 1).trans rfl; have hcz67_2 : w66.cell? ⟨gb251, 2, none⟩ = some (.bool ((rd_T86 l0 a1).f2)) := (zl zX.1 2).trans rfl; have hcz67_3 : w66.cell? ⟨gb251, 3, none⟩ = some (.int .i64 ((rd_T86 l0 a1).f3)) := (zl zX.1 3).trans rfl; have hfz67_0 := zi zX.1 0; have hfz67_1 := zi zX.1 1; have hfz67_2 := zi zX.1 2; have hfz67_3 := zi zX.1 3))
        go_ret
        exact ⟨_, by rfl, by exact qF.1, by exact HB.1, by exact HK.1⟩
      ·
       rw [if_neg c23] at H
       have c23b0 : decide (0 < ((rd_T86 l0 a1).f0)) = false := decide_eq_false c23
       clear c23
       by_cases c68 : ((rd_T86 l0 a1).f1) > 0
       ·
        rw [if_pos c68] at H
        have c68b0 : decide (0 < ((rd_T86 l0 a1).f1)) = true := decide_eq_true c68
        clear c68
        replace H := ke.mp H
        obtain ⟨t267, A690, H⟩ := H
        replace H : (some t267) = some r := H
        have A69 := kz A690
        clear A690
        obtain rfl := kx H
        have hnb70 := qg.1
        have hnc70 := qt.1
        have hcz71_0 : wc.cell? ⟨gb249, 0, none⟩ = some (.int .i64 a2_0) := (zl zY.1 0).trans rfl
        have hcz71_1 : wc.cell? ⟨gb249, 1, none⟩ = some (.int .i64 a2_1) := (zl zY.1 1).trans rfl
        have hfz71_0 := zi zY.1 0
        have hfz71_1 := zi zY.1 1
        go_wp2_with (first | ((with_reducible refine zw (f := 95) rfl ?_); refine zL (some 31) rfl rfl Try.func95 (by kernel_rfl) rfl #[.agg #[.int .i64 a2_0, .int .i64 a2_1]] rfl (by (try simp only [kv, kf, kb]); rfl) ?_; (with_reducible refine (impl_Prefix_halves.calls a2_0 a2_1 t255 t256 t257 t258 _ A22.1).mono ?_); rintro e w72 ⟨rfl, hb⟩; refine ⟨_, rfl, ?_⟩; replace HO_3 := kz (zz HO_3.1 hb); replace zY := kz (zr zY.1 hb); replace zX := kz (zr zX.1 hb); replace HK := kz (zx HK.1 hb); replace HB := kz (zu HB.1 hb)) | ((with_reducible refine zH (N := 10) rfl ?_); refine zE rfl (N := 10) rfl (cs := #[.int .i64 0, .int .i64 0]) (t := 37) ?hr ?_; (case hr => go_simp; done); intro gb259 hg w73 hbox hb; replace HO_3 := kz (zz HO_3.1 hb); have zZ := kz hbox; have qh := kz (by rw [hg]; exact (by exact HK.1.1) : w.heap.size ≤ gb259); replace HK := kz (zx HK.1 hb); have qo := kz (by rw [hg]; exact (zv HB.1) : w0.heap.size ≤ gb259); replace HB := kz (zu HB.1 hb); have qi := kz (by rw [hg]; exact kh (zt zY.1) : gb249 ≠ gb259); have qu := kz (by rw [hg]; exact kg (zt zY.1) : gb259 ≠ gb249); replace zY := kz (zr zY.1 hb); have qj := kz (by rw [hg]; exact kh (zt zX.1) : gb251 ≠ gb259); have qv := kz (by rw [hg]; exact kg (zt zX.1) : gb259 ≠ gb251); replace zX := kz (zr zX.1 hb); clear hb hbox hg) | ((with_reducible refine zH (N := 11) rfl ?_); refine zE rfl (N := 11) rfl (cs := #[.int .i64 0, .int .i64 0]) (t := 37) ?hr ?_; (case hr => go_simp; done); intro gb260 hg w74 hbox hb; replace HO_3 := kz (zz HO_3.1 hb); have qa := kz hbox; have qp := kz (by rw [hg]; exact (by exact HK.1.1) : w.heap.size ≤ gb260); replace HK := kz (zx HK.1 hb); have qy := kz (by rw [hg]; exact (zv HB.1) : w0.heap.size ≤ gb260); replace HB := kz (zu HB.1 hb); have qk := kz (by rw [hg]; exact kh (zt zY.1) : gb249 ≠ gb260); have qw := kz (by rw [hg]; exact kg (zt zY.1) : gb260 ≠ gb249); replace zY := kz (zr zY.1 hb); have ql := kz (by rw [hg]; exact kh (zt zX.1) : gb251 ≠ gb260); have qx := kz (by rw [hg]; exact kg (zt zX.1) : gb260 ≠ gb251); replace zX := kz (zr zX.1 hb); have qm := kz (by rw [hg]; exact kh (zt zZ.1) : gb259 ≠ gb260); have qn := kz (by rw [hg]; exact kg (zt zZ.1) : gb260 ≠ gb259); replace zZ := kz (zr zZ.1 hb); clear hb hbox hg; have hnb75 := qu.1; have hnc75 := qi.1; have hnb76 := qv.1; have hnc76 := qj.1; have hnb77 := qm.1; have hnc77 := qn.1; have hcz78_0 : w74.cell? ⟨gb259, 0, none⟩ = some (.int .i64 0) := (zl zZ.1 0).trans rfl; have hcz78_1 : w74.cell? ⟨gb259, 1, none⟩ = some (.int .i64 0) := (zl zZ.1 1).trans rfl; have hfz78_0 := zi zZ.1 0; have hfz78_1 := zi zZ.1 1) | ((with_reducible refine zI (t := 37) (p := 10) rfl ?_); refine zG (t := 37) (p := 10) (v := ?vo_w79) (w1 := ((w74.setCell ⟨gb259, 0, none⟩ (.int .i64 t255)).setCell ⟨gb259, 1, none⟩ (.int .i64 t256))) ?hg ?ho ?hn ?hr ?_; (case ho => rfl); (case hg => rfl); (case hn => rfl); (case hr => go_simp; done); intro w79 hw; have n0_ : zq (Kd.R k39 39 w79 w0.heap.size (fun k_ => (P3_ k_ ∨ w.heap.size ≤ k_)) u3 x3_6) := ⟨by rw [hw]; exact zC (zy (p := ⟨gb259, 1, none⟩) (zy (p := ⟨gb259, 0, none⟩) (zJ HO_3.1 zZ.1 (by decide)) (fun _ hk => hk.2) _) (fun _ hk => hk.2) _) (fun _ hk => hk.1)⟩; have n1_ : zq (w79.heap[gb249]? = some (.cells #[.int .i64 a2_0, .int .i64 a2_1] 37 (0, 0))) := ⟨by rw [hw]; refine zs ?_ qi.1 _; refine zs ?_ qi.1 _; exact zY.1⟩; have n2_ : zq (w79.heap[gb251]? = some (.cells #[.int .i64 ((rd_T86 l0 a1).f0), .int .i64 ((rd_T86 l0 a1).f1), .bool ((rd_T86 l0 a1).f2), .int .i64 ((rd_T86 l0 a1).f3)] 86 (0, 0))) := ⟨by rw [hw]; refine zs ?_ qj.1 _; refine zs ?_ qj.1 _; exact zX.1⟩; have n3_ : zq (w79.heap[gb259]? = some (.cells #[.int .i64 t255, .int .i64 t256] 37 (0, 0))) := ⟨by rw [hw]; refine zA (cs := #[.int .i64 t255, .int .i64 0]) ?_ 1 _ rfl; refine zA (cs := #[.int .i64 0, .int .i64 0]) ?_ 0 _ rfl; exact zZ.1⟩; have n4_ : zq (w79.heap[gb260]? = some (.cells #[.int .i64 0, .int .i64 0] 37 (0, 0))) := ⟨by rw [hw]; refine zs ?_ qn.1 _; refine zs ?_ qn.1 _; exact qa.1⟩; have n5_ : zq (Kept w w79 (fun k_ => P3_ k_)) := ⟨by rw [hw]; repeat ((with_reducible first | exact HK.1 | refine za ?_ (.inr qh.1) _))⟩; have n6_ : zq (Below w0.heap.size w0 w79) := ⟨by rw [hw]; repeat ((with_reducible first | exact HB.1 | refine ze ?_ qo.1))⟩; clear hw HO_3 zY zX zZ qa HK HB; have HO_3 := n0_; have zY := n1_; have zX := n2_; have zZ := n3_; have qa := n4_; have HK := n5_; have HB := n6_; clear n0_ n1_ n2_ n3_ n4_ n5_ n6_; have hnb80 := qw.1; have hnc80 := qk.1; have hnb81 := qx.1; have hnc81 := ql.1; have hcz82_0 : w79.cell? ⟨gb260, 0, none⟩ = some (.int .i64 0) := (zl qa.1 0).trans rfl; have hcz82_1 : w79.cell? ⟨gb260, 1, none⟩ = some (.int .i64 0) := (zl qa.1 1).trans rfl; have hfz82_0 := zi qa.1 0; have hfz82_1 := zi qa.1 1) | ((with_reducible refine zI (t := 37) (p := 11) rfl ?_); refine zG (t := 37) (p := 11) (v := ?vo_w83) (w1 := ((w79.setCell ⟨gb260, 0, none⟩ (.int .i64 t257)).setCell ⟨gb260, 1, none⟩ (.int .i64 t258))) ?hg ?ho ?hn ?hr ?_; (case ho => rfl); (case hg => rfl); (case hn => rfl); (case hr => go_simp; done); intro w83 hw; have n0_ : zq (Kd.R k39 39 w83 w0.heap.size (fun k_ => (P3_ k_ ∨ w.heap.size ≤ k_)) u3 x3_6) := ⟨by rw [hw]; exact zC (zy (p := ⟨gb260, 1, none⟩) (zy (p := ⟨gb260, 0, none⟩) (zJ HO_3.1 qa.1 (by decide)) (fun _ hk => hk.2) _) (fun _ hk => hk.2) _) (fun _ hk => hk.1)⟩; have n1_ : zq (w83.heap[gb249]? = some (.cells #[.int .i64 a2_0, .int .i64 a2_1] 37 (0, 0))) := ⟨by rw [hw]; refine zs ?_ qk.1 _; refine zs ?_ qk.1 _; exact zY.1⟩; have n2_ : zq (w83.heap[gb251]? = some (.cells #[.int .i64 ((rd_T86 l0 a1).f0), .int .i64 ((rd_T86 l0 a1).f1), .bool ((rd_T86 l0 a1).f2), .int .i64 ((rd_T86 l0 a1).f3)] 86 (0, 0))) := ⟨by rw [hw]; refine zs ?_ ql.1 _; refine zs ?_ ql.1 _; exact zX.1⟩; have n3_ : zq (w83.heap[gb259]? = some (.cells #[.int .i64 t255, .int .i64 t256] 37 (0, 0))) := ⟨by rw [hw]; refine zs ?_ qm.1 _; refine zs ?_ qm.1 _; exact zZ.1⟩; have n4_ : zq (w83.heap[gb260]? = some (.cells #[.int .i64 t257, .int .i64 t258] 37 (0, 0))) := ⟨by rw [hw]; refine zA (cs := #[.int .i64 t257, .int .i64 0]) ?_ 1 _ rfl; refine zA (cs := #[.int .i64 0, .int .i64 0]) ?_ 0 _ rfl; exact qa.1⟩; have n5_ : zq (Kept w w83 (fun k_ => P3_ k_)) := ⟨by rw [hw]; repeat ((with_reducible first | exact HK.1 | refine za ?_ (.inr qp.1) _))⟩; have n6_ : zq (Below w0.heap.size w0 w83) := ⟨by rw [hw]; repeat ((with_reducible first | exact HB.1 | refine ze ?_ qy.1))⟩; clear hw HO_3 zY zX zZ qa HK HB; have HO_3 := n0_; have zY := n1_; have zX := n2_; have zZ := n3_; have qa := n4_; have HK := n5_; have HB := n6_; clear n0_ n1_ n2_ n3_ n4_ n5_ n6_; have hcz84_0 : w83.cell? ⟨gb251, 0, none⟩ = some (.int .i64 ((rd_T86 l0 a1).f0)) := (zl zX.1 0).trans rfl; have hcz84_1 : w83.cell? ⟨gb251, 1, none⟩ = some (.int .i64 ((rd_T86 l0 a1).f1)) := (zl zX.1 1).trans rfl; have hcz84_2 : w83.cell? ⟨gb251, 2, none⟩ = some (.bool ((rd_T86 l0 a1).f2)) := (zl zX.1 2).trans rfl; have hcz84_3 : w83.cell? ⟨gb251, 3, none⟩ = some (.int .i64 ((rd_T86 l0 a1).f3)) := (zl zX.1 3).trans rfl; have hfz84_0 := zi zX.1 0; have hfz84_1 := zi zX.1 1; have hfz84_2 := zi zX.1 2; have hfz84_3 := zi zX.1 3; have hcz85_0 : w83.cell? ⟨gb260, 0, none⟩ = some (.int .i64 t257) := (zl qa.1 0).trans rfl; have hcz85_1 : w83.cell? ⟨gb260, 1, none⟩ = some (.int .i64 t258) := (zl qa.1 1).trans rfl; have hfz85_0 := zi qa.1 0; have hfz85_1 := zi qa.1 1; obtain ⟨Ao86, co86, eo86⟩ := zP HO_3.1; subst eo86) | ((with_reducible refine zw (f := 73) rfl ?_); refine zL (some 51) rfl rfl kt (by kernel_rfl) rfl #[.slice (some ad250) l0.length c0, .int .i64 ((rd_T86 l0 a1).f1), .agg #[.int .i64 t257, .int .i64 t258], .slice Ao86 x3_6.length co86] rfl (by (try simp only [kv, kf, kb]); rfl) ?_; (with_reducible refine (ih kj6 (by have := HJ6.1; omega) _ _ l0 ((rd_T86 l0 a1).f1) t257 t258 (fun k_ => some k_ = (.slice Ao86 x3_6.length co86 : Value).ownBlock) (.slice Ao86 x3_6.length co86) x3_6 t267 w0 _ ?side1 ?side2 ?side3 ?side4 A69.1).mono ?_); (case side1 => repeat (with_reducible exact HB.1)); (case side2 => exact Kd.C_kept_call HR0.1 HK.1 (fun k_ hs_ => (fun e_ => (HO_3.1.1 k_ e_.symm)) hs_)); (case side3 => exact HC0.1); (case side4 => exact Kd.R_tight rfl HO_3.1); rintro e w87 ⟨v268, rfl, ho0, hb, hkp⟩; refine ⟨_, rfl, ?_⟩; replace zY := kz (zF zY.1 hkp (fun hs_ => (fun e_ => (zB HO_3.1 zY.1 (by decide)) e_) hs_)); replace zX := kz (zF zX.1 hkp (fun hs_ => (fun e_ => (zB HO_3.1 zX.1 (by decide)) e_) hs_)); replace zZ := kz (zF zZ.1 hkp (fun hs_ => (fun e_ => (zB HO_3.1 zZ.1 (by decide)) e_) hs_)); replace qa := kz (zF qa.1 hkp (fun hs_ => (fun e_ => (zB HO_3.1 qa.1 (by decide)) e_) hs_)); have HO269 := kz (zC (ok' := fun k_ => (P3_ k_ ∨ w.heap.size ≤ k_)) ho0 (fun k_ hk_ => Or.elim hk_ (fun hs_ => (HO_3.1.1 k_ (hs_).symm)) (fun hn_ => (.inr (ku (by exact HK.1.1) hn_))))); replace HK := kz (Kept.then_ HK.1 hkp (fun k_ hs_ => (fun e_ => (HO_3.1.1 k_ e_.symm)) hs_)); replace HB := kz hb))
        go_ret
        exact ⟨_, by rfl, by exact HO269.1, by exact HB.1, by exact HK.1⟩
       ·
        rw [if_neg c68] at H
        have c68b0 : decide (0 < ((rd_T86 l0 a1).f1)) = false := decide_eq_false c68
        clear c68
        obtain rfl := kx H
        have hnb88 := qg.1
        have hnc88 := qt.1
        have hcz89_0 : wc.cell? ⟨gb249, 0, none⟩ = some (.int .i64 a2_0) := (zl zY.1 0).trans rfl
        have hcz89_1 : wc.cell? ⟨gb249, 1, none⟩ = some (.int .i64 a2_1) := (zl zY.1 1).trans rfl
        have hfz89_0 := zi zY.1 0
        have hfz89_1 := zi zY.1 1
        go_wp2_with (first | ((with_reducible refine zw (f := 95) rfl ?_); refine zL (some 31) rfl rfl Try.func95 (by kernel_rfl) rfl #[.agg #[.int .i64 a2_0, .int .i64 a2_1]] rfl (by (try simp only [kv, kf, kb]); rfl) ?_; (with_reducible refine (impl_Prefix_halves.calls a2_0 a2_1 t255 t256 t257 t258 _ A22.1).mono ?_); rintro e w90 ⟨rfl, hb⟩; refine ⟨_, rfl, ?_⟩; replace HO_3 := kz (zz HO_3.1 hb); replace zY := kz (zr zY.1 hb); replace zX := kz (zr zX.1 hb); replace HK := kz (zx HK.1 hb); replace HB := kz (zu HB.1 hb)) | ((with_reducible refine zH (N := 10) rfl ?_); refine zE rfl (N := 10) rfl (cs := #[.int .i64 0, .int .i64 0]) (t := 37) ?hr ?_; (case hr => go_simp; done); intro gb259 hg w91 hbox hb; replace HO_3 := kz (zz HO_3.1 hb); have zZ := kz hbox; have qh := kz (by rw [hg]; exact (by exact HK.1.1) : w.heap.size ≤ gb259); replace HK := kz (zx HK.1 hb); have qo := kz (by rw [hg]; exact (zv HB.1) : w0.heap.size ≤ gb259); replace HB := kz (zu HB.1 hb); have qi := kz (by rw [hg]; exact kh (zt zY.1) : gb249 ≠ gb259); have qu := kz (by rw [hg]; exact kg (zt zY.1) : gb259 ≠ gb249); replace zY := kz (zr zY.1 hb); have qj := kz (by rw [hg]; exact kh (zt zX.1) : gb251 ≠ gb259); have qv := kz (by rw [hg]; exact kg (zt zX.1) : gb259 ≠ gb251); replace zX := kz (zr zX.1 hb); clear hb hbox hg) | ((with_reducible refine zH (N := 11) rfl ?_); refine zE rfl (N := 11) rfl (cs := #[.int .i64 0, .int .i64 0]) (t := 37) ?hr ?_; (case hr => go_simp; done); intro gb260 hg w92 hbox hb; replace HO_3 := kz (zz HO_3.1 hb); have qa := kz hbox; have qp := kz (by rw [hg]; exact (by exact HK.1.1) : w.heap.size ≤ gb260); replace HK := kz (zx HK.1 hb); have qy := kz (by rw [hg]; exact (zv HB.1) : w0.heap.size ≤ gb260); replace HB := kz (zu HB.1 hb); have qk := kz (by rw [hg]; exact kh (zt zY.1) : gb249 ≠ gb260); have qw := kz (by rw [hg]; exact kg (zt zY.1) : gb260 ≠ gb249); have ql := kz (by rw [hg]; exact kh (zt zX.1) : gb251 ≠ gb260); have qx := kz (by rw [hg]; exact kg (zt zX.1) : gb260 ≠ gb251); replace zX := kz (zr zX.1 hb); have qm := kz (by rw [hg]; exact kh (zt zZ.1) : gb259 ≠ gb260); have qn := kz (by rw [hg]; exact kg (zt zZ.1) : gb260 ≠ gb259); replace zZ := kz (zr zZ.1 hb); clear hb hbox hg; have hnb93 := qu.1; have hnc93 := qi.1; have hnb94 := qv.1; have hnc94 := qj.1; have hnb95 := qm.1; have hnc95 := qn.1; have hcz96_0 : w92.cell? ⟨gb259, 0, none⟩ = some (.int .i64 0) := (zl zZ.1 0).trans rfl; have hcz96_1 : w92.cell? ⟨gb259, 1, none⟩ = some (.int .i64 0) := (zl zZ.1 1).trans rfl; have hfz96_0 := zi zZ.1 0; have hfz96_1 := zi zZ.1 1; have hnb97 := qw.1; have hnc97 := qk.1; have hnb98 := qx.1; have hnc98 := ql.1; have hcz99_0 : w92.cell? ⟨gb260, 0, none⟩ = some (.int .i64 0) := (zl qa.1 0).trans rfl; have hcz99_1 : w92.cell? ⟨gb260, 1, none⟩ = some (.int .i64 0) := (zl qa.1 1).trans rfl; have hfz99_0 := zi qa.1 0; have hfz99_1 := zi qa.1 1; have hcz100_0 : w92.cell? ⟨gb251, 0, none⟩ = some (.int .i64 ((rd_T86 l0 a1).f0)) := (zl zX.1 0).trans rfl; have hcz100_1 : w92.cell? ⟨gb251, 1, none⟩ = some (.int .i64 ((rd_T86 l0 a1).f1)) := (zl zX.1 1).trans rfl; have hcz100_2 : w92.cell? ⟨gb251, 2, none⟩ = some (.bool ((rd_T86 l0 a1).f2)) := (zl zX.1 2).trans rfl; have hcz100_3 : w92.cell? ⟨gb251, 3, none⟩ = some (.int .i64 ((rd_T86 l0 a1).f3)) := (zl zX.1 3).trans rfl; have hfz100_0 := zi zX.1 0; have hfz100_1 := zi zX.1 1; have hfz100_2 := zi zX.1 2; have hfz100_3 := zi zX.1 3))
        go_ret
        exact ⟨_, by rfl, by exact zC (zy (p := ⟨gb260, 1, none⟩) (zy (p := ⟨gb260, 0, none⟩) (zy (p := ⟨gb259, 1, none⟩) (zy (p := ⟨gb259, 0, none⟩) (zJ (zJ HO_3.1 zZ.1 (by decide)) qa.1 (by decide)) (fun _ hk => hk.1.2) (.int .i64 t255)) (fun _ hk => hk.1.2) (.int .i64 t256)) (fun _ hk => hk.2) _) (fun _ hk => hk.2) _) (fun _ hk => hk.1.1), by repeat ((with_reducible first | exact HB.1 | refine ze ?_ qo.1 | refine ze ?_ qy.1)), by repeat ((with_reducible first | exact HK.1 | refine za ?_ (.inr qh.1) _ | refine za ?_ (.inr qp.1) _))⟩
  ·
   rw [if_neg c6] at H
   exact absurd H (by simp)
 ·
  rw [if_neg c5] at H
  exact absurd H (by simp)
/-! ### impl_TrieEntries: function 29 -/
def impl_TrieEntries.f (k : Nat) (l0 : List (S86)) : Option ((List (S39)) × Bool) := (impl_GoodTrie.f k l0).bind fun t270 => (if t270 = true then ((impl_entriesBelow.f k l0 0 0 0 ([] : List (S39))).bind fun t271 => (some (t271, true))) else (some (([] : List (S39)), false)))
theorem impl_TrieEntries.calls (k : Nat) (A0 : Option Addr) (c0 : Nat) (l0 : List (S86)) (r1 : List (S39)) (r2 : Bool) (w : World) (hr0 : Kd.C k86 w A0 l0.length l0) (hc0 : l0.length ≤ c0) (h : impl_TrieEntries.f k l0 = some (r1, r2)) :
  Calls Try.prog 29 #[.slice A0 l0.length c0] w fun e w' => ∃ v0_ : Value, e = .returned (.tuple #[v0_, .bool r2]) ∧ Kd.R k39 39 w' w.heap.size (fun _ => True) v0_ r1 ∧ Below w.heap.size w w' := by
 have hu37 := kc
 have HR0 := kz hr0
 have HC0 := kz hc0
 clear hr0 hc0
 have HB := kz (Below.refl w.heap.size w)
 have H : ((impl_GoodTrie.f k l0).bind fun t270 => (if t270 = true then ((impl_entriesBelow.f k l0 0 0 0 ([] : List (S39))).bind fun t271 => (some (t271, true))) else (some (([] : List (S39)), false)))) = some (r1, r2) := h
 clear h
 replace H := ke.mp H
 obtain ⟨t270, A20, H⟩ := H
 replace H : (if t270 = true then ((impl_entriesBelow.f k l0 0 0 0 ([] : List (S39))).bind fun t271 => (some (t271, true))) else (some (([] : List (S39)), false))) = some (r1, r2) := H
 have A2 := kz A20
 clear A20
 by_cases c3 : t270 = true
 ·
  subst c3
  have H1 : ((impl_entriesBelow.f k l0 0 0 0 ([] : List (S39))).bind fun t271 => (some (t271, true))) = some (r1, r2) := by rw [if_pos rfl] at H; exact H
  clear H
  have H := H1
  clear H1
  replace H := ke.mp H
  obtain ⟨t271, A40, H⟩ := H
  replace H : (some (t271, true)) = some (r1, r2) := H
  have A4 := kz A40
  clear A40
  simp only [Option.some.injEq, Prod.mk.injEq] at H
  obtain ⟨rfl, rfl⟩ := H
  go_enter Try.func29, Try.ntmps29
  go_wp2_with (first | ((with_reducible refine zw (f := 21) rfl ?_); refine zL (some 5) rfl rfl Try.func21 (by kernel_rfl) rfl #[.slice A0 l0.length c0] rfl (by (try simp only [kv, kf, kb]); rfl) ?_; (with_reducible refine (impl_GoodTrie.calls k _ _ l0 true _ ?side1 ?side2 A2.1).mono ?_); (case side1 => repeat (exact HR0.1)); (case side2 => exact HC0.1); rintro e w5 ⟨rfl, hb⟩; refine ⟨_, rfl, ?_⟩; replace HB := kz (zu HB.1 hb)) | ((with_reducible refine zw (f := 73) rfl ?_); refine zL (some 9) rfl rfl kt (by kernel_rfl) rfl #[.slice A0 l0.length c0, .int .i64 0, .agg #[.int .i64 0, .int .i64 0], .slice none 0 0] rfl (by (try simp only [kv, kf, kb]); rfl) ?_; (refine (impl_entriesBelow.calls k _ _ l0 0 0 0 (fun k_ => some k_ = (.slice none 0 0 : Value).ownBlock) (.slice none 0 0) ([] : List (S39)) t271 w _ ?side1 ?side2 ?side3 ?side4 A4.1).mono ?_); (case side1 => repeat (with_reducible exact HB.1)); (case side2 => exact Kd.C_kept_came k86_heap HR0.1 HB.1 (fun k_ hs_ => (fun e_ => by simp [Value.ownBlock] at e_) hs_)); (case side3 => exact HC0.1); (case side4 => exact Kd.R_nil _ _ _ _ _); rintro e w6 ⟨v272, rfl, ho0, hb, hkp⟩; refine ⟨_, rfl, ?_⟩; have HO273 := kz (zC (ok' := fun k_ => True) ho0 (fun k_ hk_ => trivial)); replace HB := kz hb))
  go_ret2
  exact ⟨_, by rfl, by exact HO273.1, by exact HB.1⟩
 ·
  replace c3 := Bool.eq_false_iff.mpr c3
  subst c3
  have H1 : (some (([] : List (S39)), false)) = some (r1, r2) := by rw [if_neg (show ¬ (false = true) by decide)] at H; exact H
  clear H
  have H := H1
  clear H1
  simp only [Option.some.injEq, Prod.mk.injEq] at H
  obtain ⟨rfl, rfl⟩ := H
  go_enter Try.func29, Try.ntmps29
  go_wp2_with (((with_reducible refine zw (f := 21) rfl ?_); refine zL (some 5) rfl rfl Try.func21 (by kernel_rfl) rfl #[.slice A0 l0.length c0] rfl (by (try simp only [kv, kf, kb]); rfl) ?_; (with_reducible refine (impl_GoodTrie.calls k _ _ l0 false _ ?side1 ?side2 A2.1).mono ?_); (case side1 => repeat (exact HR0.1)); (case side2 => exact HC0.1); rintro e w7 ⟨rfl, hb⟩; refine ⟨_, rfl, ?_⟩; replace HB := kz (zu HB.1 hb)))
  go_ret2
  exact ⟨_, by rfl, by exact Kd.R_nil _ _ _ _ _, by exact HB.1⟩
/-! ### spec_l2Insert: function 74 -/
def spec_l2Insert.l0 : Nat → List (S86) → Int → Int → Int → Int → Int → Option ((List (S86)))
 | 0, _, _, _, _, _, _ => none
 | k + 1, x0, x2, x7, x8, x275000, x275001 => if x8 < x275001 then ((spec_l2Bit.f x275000 x8).bind fun t277 => (if 0 ≤ x7 then (if x7 < (x0.length : Int) then ((spec_l2Half.f ((rd_T86 x0 x7).f0) ((rd_T86 x0 x7).f1) ((rd_T86 x0 x7).f2) ((rd_T86 x0 x7).f3) t277).bind fun t279 => (if t279 = 0 then (if x0.length < 4398046511104 then ((some (x0 ++ [(⟨0, 0, false, 0⟩ : S86)] : List (S86))).bind fun y280 => (if t277 = 1 then (if x7 < (y280.length : Int) then (spec_l2Insert.l0 k (y280.set (x7 : Int).toNat (⟨(rd_T86 y280 x7).f0, (x0.length : Int), (rd_T86 y280 x7).f2, (rd_T86 y280 x7).f3⟩ : S86)) x2 (x0.length : Int) (wrap64 (x8 + 1)) x275000 x275001) else (none)) else (if x7 < (y280.length : Int) then (spec_l2Insert.l0 k (y280.set (x7 : Int).toNat (⟨(x0.length : Int), (rd_T86 y280 x7).f1, (rd_T86 y280 x7).f2, (rd_T86 y280 x7).f3⟩ : S86)) x2 (x0.length : Int) (wrap64 (x8 + 1)) x275000 x275001) else (none)))) else (none)) else (spec_l2Insert.l0 k x0 x2 t279 (wrap64 (x8 + 1)) x275000 x275001))) else (none)) else (none))) else (if 0 ≤ x7 then (if x7 < (x0.length : Int) then ((some (x0.set (x7 : Int).toNat (⟨(rd_T86 x0 x7).f0, (rd_T86 x0 x7).f1, true, (rd_T86 x0 x7).f3⟩ : S86) : List (S86))).bind fun y275 => (some (y275.set (x7 : Int).toNat (⟨(rd_T86 y275 x7).f0, (rd_T86 y275 x7).f1, (rd_T86 y275 x7).f2, x2⟩ : S86)))) else (none)) else (none))
def spec_l2Insert.f (k : Nat) (l0 : List (S86)) (a1_0 : Int) (a1_1 : Int) (a2 : Int) : Option ((List (S86))) := spec_l2Insert.l0 k l0 a2 0 0 a1_0 a1_1
theorem spec_l2Insert.calls (k : Nat) (P0_ : Nat → Prop) (u9000_ : Value) (l0 : List (S86)) (a1_0 : Int) (a1_1 : Int) (a2 : Int) (r : List (S86)) (w0 w : World) (hB : Below w0.heap.size w0 w) (ho0 : Kd.R k86 86 w w0.heap.size P0_ u9000_ l0) (h : spec_l2Insert.f k l0 a1_0 a1_1 a2 = some r) :
  Calls Try.prog 74 #[u9000_, .agg #[.int .i64 a1_0, .int .i64 a1_1], .int .i64 a2] w fun e w' => ∃ v0_ : Value, e = .returned (v0_) ∧ Kd.R k86 86 w' w0.heap.size (fun k_ => (P0_ k_ ∨ w.heap.size ≤ k_)) v0_ r ∧ Below w0.heap.size w0 w' ∧ Kept w w' (fun k_ => P0_ k_) := by
 have hu37 := kc
 have hu86 := Try.underlying86
 have HO0 := kz (show Kd.R k86 86 w w0.heap.size (fun k_ => (P0_ k_ ∨ w.heap.size ≤ k_)) u9000_ l0 from zC ho0 (fun k_ hk => (.inl hk)))
 have HK := kz (Kept.refl w (fun k_ => P0_ k_))
 have HW0 := kz hB.size
 have HB := kz hB
 clear hB
 have H : (spec_l2Insert.l0 k l0 a2 0 0 a1_0 a1_1) = some r := h
 clear h
 have H' := kz H
 clear H
 go_enter Try.func74, Try.ntmps74
 go_wp2_with (((with_reducible refine zH (N := 4) rfl ?_); refine zE rfl (N := 4) rfl (cs := #[.int .i64 a1_0, .int .i64 a1_1]) (t := 37) ?hr ?_; (case hr => go_simp; done); intro gb274 hg w4 hbox hb; replace HO0 := kz (zz HO0.1 hb); replace HK := kz (zx HK.1 hb); replace HB := kz (zu HB.1 hb); have qb := kz hbox; clear hb hbox hg))
 go_loopg [0, 7, 8] k (fun kq v0 v7 v8 w' => ∃ (x0_1 : List (S86)) (x7_1 : Int) (x8_1 : Int), v7 = .int .i64 x7_1 ∧ v8 = .int .i64 x8_1 ∧ zq (spec_l2Insert.l0 kq x0_1 a2 x7_1 x8_1 a1_0 a1_1 = some r) ∧ zq (kq ≤ k) ∧ zq (Kd.R k86 86 w' w0.heap.size (fun k_ => (P0_ k_ ∨ w.heap.size ≤ k_)) v0 x0_1) ∧ zq (w'.heap[gb274]? = some (.cells #[.int .i64 a1_0, .int .i64 a1_1] 37 (0, 0))) ∧ zq (Kept w w' (fun k_ => P0_ k_)) ∧ zq (Below w0.heap.size w0 w'))
 case atStart => exact ⟨(l0), (0), (0), (by rfl), (by rfl), H', ⟨Nat.le_refl _⟩, ⟨by exact HO0.1⟩, ⟨by exact qb.1⟩, ⟨by exact HK.1⟩, ⟨by exact HB.1⟩⟩
 case round =>
  clear H'
  obtain ⟨x0_1, x7_1, x8_1, rfl, rfl, HA, HK1, HO_0, qb, HK, HB⟩ := hrel
  cases gk with
  | zero => exact absurd HA.1 (by simp [spec_l2Insert.l0])
  | succ k1 =>
   have H := HA.1
   clear HA
   simp only [spec_l2Insert.l0] at H
   by_cases c5 : x8_1 < a1_1
   ·
    rw [if_pos c5] at H
    have c5b0 : decide (x8_1 < a1_1) = true := decide_eq_true c5
    clear c5
    replace H := ke.mp H
    obtain ⟨t277, A60, H⟩ := H
    replace H : (if 0 ≤ x7_1 then (if x7_1 < (x0_1.length : Int) then ((spec_l2Half.f ((rd_T86 x0_1 x7_1).f0) ((rd_T86 x0_1 x7_1).f1) ((rd_T86 x0_1 x7_1).f2) ((rd_T86 x0_1 x7_1).f3) t277).bind fun t279 => (if t279 = 0 then (if x0_1.length < 4398046511104 then ((some (x0_1 ++ [(⟨0, 0, false, 0⟩ : S86)] : List (S86))).bind fun y280 => (if t277 = 1 then (if x7_1 < (y280.length : Int) then (spec_l2Insert.l0 k1 (y280.set (x7_1 : Int).toNat (⟨(rd_T86 y280 x7_1).f0, (x0_1.length : Int), (rd_T86 y280 x7_1).f2, (rd_T86 y280 x7_1).f3⟩ : S86)) a2 (x0_1.length : Int) (wrap64 (x8_1 + 1)) a1_0 a1_1) else (none)) else (if x7_1 < (y280.length : Int) then (spec_l2Insert.l0 k1 (y280.set (x7_1 : Int).toNat (⟨(x0_1.length : Int), (rd_T86 y280 x7_1).f1, (rd_T86 y280 x7_1).f2, (rd_T86 y280 x7_1).f3⟩ : S86)) a2 (x0_1.length : Int) (wrap64 (x8_1 + 1)) a1_0 a1_1) else (none)))) else (none)) else (spec_l2Insert.l0 k1 x0_1 a2 t279 (wrap64 (x8_1 + 1)) a1_0 a1_1))) else (none)) else (none)) = some r := H
    have A6 := kz A60
    clear A60
    by_cases c7 : 0 ≤ x7_1
    ·
     rw [if_pos c7] at H
     have c7b0 : decide (0 ≤ x7_1) = true := decide_eq_true c7
     clear c7
     by_cases c8 : x7_1 < (x0_1.length : Int)
     ·
      rw [if_pos c8] at H
      have c8b0 : decide (x7_1 < (x0_1.length : Int)) = true := decide_eq_true c8
      clear c8
      replace H := ke.mp H
      obtain ⟨t279, A90, H⟩ := H
      replace H : (if t279 = 0 then (if x0_1.length < 4398046511104 then ((some (x0_1 ++ [(⟨0, 0, false, 0⟩ : S86)] : List (S86))).bind fun y280 => (if t277 = 1 then (if x7_1 < (y280.length : Int) then (spec_l2Insert.l0 k1 (y280.set (x7_1 : Int).toNat (⟨(rd_T86 y280 x7_1).f0, (x0_1.length : Int), (rd_T86 y280 x7_1).f2, (rd_T86 y280 x7_1).f3⟩ : S86)) a2 (x0_1.length : Int) (wrap64 (x8_1 + 1)) a1_0 a1_1) else (none)) else (if x7_1 < (y280.length : Int) then (spec_l2Insert.l0 k1 (y280.set (x7_1 : Int).toNat (⟨(x0_1.length : Int), (rd_T86 y280 x7_1).f1, (rd_T86 y280 x7_1).f2, (rd_T86 y280 x7_1).f3⟩ : S86)) a2 (x0_1.length : Int) (wrap64 (x8_1 + 1)) a1_0 a1_1) else (none)))) else (none)) else (spec_l2Insert.l0 k1 x0_1 a2 t279 (wrap64 (x8_1 + 1)) a1_0 a1_1)) = some r := H
      have A9 := kz A90
      clear A90
      by_cases c10 : t279 = 0
      ·
       rw [if_pos c10] at H
       have c10b0 : (t279 == 0) = true := beq_iff_eq.mpr c10
       have c10b1 : (t279 != 0) = false := bne_eq_false_iff_eq.mpr c10
       clear c10
       by_cases c11 : x0_1.length < 4398046511104
       ·
        rw [if_pos c11] at H
        have LMc11 := kz c11
        clear c11
        obtain ⟨y280, hy280⟩ : ∃ y_ : List (S86), y_ = (x0_1 ++ [(⟨0, 0, false, 0⟩ : S86)]) := ⟨_, rfl⟩
        replace H : (if t277 = 1 then (if x7_1 < (y280.length : Int) then (spec_l2Insert.l0 k1 (y280.set (x7_1 : Int).toNat (⟨(rd_T86 y280 x7_1).f0, (x0_1.length : Int), (rd_T86 y280 x7_1).f2, (rd_T86 y280 x7_1).f3⟩ : S86)) a2 (x0_1.length : Int) (wrap64 (x8_1 + 1)) a1_0 a1_1) else (none)) else (if x7_1 < (y280.length : Int) then (spec_l2Insert.l0 k1 (y280.set (x7_1 : Int).toNat (⟨(x0_1.length : Int), (rd_T86 y280 x7_1).f1, (rd_T86 y280 x7_1).f2, (rd_T86 y280 x7_1).f3⟩ : S86)) a2 (x0_1.length : Int) (wrap64 (x8_1 + 1)) a1_0 a1_1) else (none))) = some r := by (have H2_ := (Option.bind_some _ _).symm.trans H; rw [hy280]; with_reducible exact H2_)
        have Ny280 := kz hy280
        clear hy280
        by_cases c12 : t277 = 1
        ·
         rw [if_pos c12] at H
         have c12b0 : (t277 == 1) = true := beq_iff_eq.mpr c12
         have c12b1 : (t277 != 1) = false := bne_eq_false_iff_eq.mpr c12
         clear c12
         by_cases c13 : x7_1 < (y280.length : Int)
         ·
          rw [if_pos c13] at H
          have c13b0 : decide (x7_1 < (y280.length : Int)) = true := decide_eq_true c13
          clear c13
          obtain ⟨y283, hy283⟩ : ∃ y_ : List (S86), y_ = (y280.set (x7_1 : Int).toNat (⟨(rd_T86 y280 x7_1).f0, (x0_1.length : Int), (rd_T86 y280 x7_1).f2, (rd_T86 y280 x7_1).f3⟩ : S86)) := ⟨_, rfl⟩
          replace H : (spec_l2Insert.l0 k1 y283 a2 (x0_1.length : Int) (wrap64 (x8_1 + 1)) a1_0 a1_1) = some r := by (rw [hy283]; with_reducible exact H)
          have Ny283 := kz hy283
          clear hy283
          have H' := kz H
          clear H
          have hcz15_0 : wr.cell? ⟨gb274, 0, none⟩ = some (.int .i64 a1_0) := (zl qb.1 0).trans rfl
          have hcz15_1 : wr.cell? ⟨gb274, 1, none⟩ = some (.int .i64 a1_1) := (zl qb.1 1).trans rfl
          have hfz15_0 := zi qb.1 0
          have hfz15_1 := zi qb.1 1
          go_wp2_with (first | ((with_reducible refine zw (f := 69) rfl ?_); refine zL (some 20) rfl rfl Try.func69 (by kernel_rfl) rfl #[.int .i64 a1_0, .int .i64 x8_1] rfl (by (try simp only [kv, kf, kb]); rfl) ?_; (with_reducible refine (spec_l2Bit.calls a1_0 x8_1 t277 _ A6.1).mono ?_); rintro e w' ⟨rfl, ⟨nd, rfl⟩⟩; refine ⟨_, rfl, ?_⟩; (try (rw [drewN_self wr]; generalize hq_ : World.drewN wr _ = wr; have n0_ : zq (Kd.R k86 86 wr w0.heap.size (fun k_ => (P0_ k_ ∨ w.heap.size ≤ k_)) u0 x0_1) := ⟨by rw [← hq_]; exact (by (with_reducible repeat (apply zn)); exact HO_0.1)⟩; have n1_ : zq (wr.heap[gb274]? = some (.cells #[.int .i64 a1_0, .int .i64 a1_1] 37 (0, 0))) := ⟨by rw [← hq_]; exact (by (with_reducible repeat (refine zb ?_ _)); exact qb.1)⟩; have n2_ : zq (Kept w wr (fun k_ => P0_ k_)) := ⟨by rw [← hq_]; exact (by repeat ((with_reducible first | exact HK.1 | apply zj)))⟩; have n3_ : zq (Below w0.heap.size w0 wr) := ⟨by rw [← hq_]; exact (by repeat ((with_reducible first | exact HB.1 | apply zf)))⟩; clear HO_0 qb HK HB hq_; have HO_0 := n0_; have qb := n1_; have HK := n2_; have HB := n3_; clear n0_ n1_ n2_ n3_)); obtain ⟨Ao16, co16, eo16⟩ := zP HO_0.1; subst eo16; have p278 : 0 ≤ (x7_1 : Int) := of_decide_eq_true (by (with_reducible assumption)); have q278 : x7_1 < (x0_1.length : Int) := of_decide_eq_true (by (with_reducible assumption)); obtain ⟨ad278, e278, hx278_0, hx278_1, hx278_2, hx278_3⟩ := at_T86 (zD HO_0.1).2.2 x7_1 p278 q278; cases e278; replace p278 := eq_true p278; replace q278 := eq_true q278) | ((with_reducible refine zw (f := 68) rfl ?_); refine zL (some 26) rfl rfl Try.func68 (by kernel_rfl) rfl #[.agg #[.int .i64 ((rd_T86 x0_1 x7_1).f0), .int .i64 ((rd_T86 x0_1 x7_1).f1), .bool ((rd_T86 x0_1 x7_1).f2), .int .i64 ((rd_T86 x0_1 x7_1).f3)], .int .i64 t277] rfl (by (try simp only [kv, kf, kb]); rfl) ?_; (with_reducible refine (spec_l2Half.calls ((rd_T86 x0_1 x7_1).f0) ((rd_T86 x0_1 x7_1).f1) ((rd_T86 x0_1 x7_1).f2) ((rd_T86 x0_1 x7_1).f3) t277 t279 _ A9.1).mono ?_); rintro e w17 ⟨rfl, hb⟩; refine ⟨_, rfl, ?_⟩; replace HO_0 := kz (zz HO_0.1 hb); replace qb := kz (zr qb.1 hb); replace HK := kz (zx HK.1 hb); replace HB := kz (zu HB.1 hb)) | ((with_reducible refine gate_builtin (b := .append) (xs := #[.tmp 31, .tmp 33]) rfl ?_); at_builtin; refine Kd.R_append k86 (w0 := w0) w0.heap.size rfl (.tmp 31) (.tmp 33) 32 86 (.agg #[(.int .i64 0), (.int .i64 0), (.bool false), (.int .i64 0)]) 32 rfl Try.underlying32 info86 rfl (by decide) (by omega) (.slice (some ad278) x0_1.length co16) x0_1 (⟨0, 0, false, 0⟩ : S86) [.int .i64 0, .int .i64 0, .bool false, .int .i64 0] (fun k_ => (P0_ k_ ∨ w.heap.size ≤ k_)) (fun _ => False) rfl rfl ?aP (fun _ hk => hk.elim) ?aF ?aO ?aB ?aS ?aL ?_; (case aP => exact k86_mkM _ _ _ (⟨0, 0, false, 0⟩ : S86)); (case aB => exact HB.1); (case aF => exact (fun k_ hk => (.inr (ku (by exact HK.1.1) hk)))); (case aO => exact HO_0.1); (case aS => exact (zv HB.1)); (case aL => have := LMc11.1; omega); intro v281 w18 ho hb hg hat; rw [← Ny280.1] at ho; replace qb := kz (zO qb.1 hg (zB HO_0.1 qb.1 (by decide))); replace HB := kz hb; replace HK := kz (zK (S := (fun k_ => P0_ k_)) hg HK.1 (fun k_ e_ => (HO_0.1.1 k_ e_))); have qq := kz ho; clear ho hb hg hat; have p14 : 0 ≤ (x7_1 : Int) := of_decide_eq_true (by (with_reducible assumption)); have q14 : (x7_1 : Int) < ((y280.length : Int) : Int) := of_decide_eq_true (by (with_reducible assumption)); obtain ⟨go14, co14, eo14, gb14, gl14, cl14, HG14⟩ := Kd.R_form qq.1 (by omega); (cases eo14); have GB14 := kz gb14; have GG14 := kz HG14; clear gb14 gl14 HG14; have HMgo14 := kz (show (P0_ go14 ∨ w.heap.size ≤ go14) from (qq.1.1 _ rfl)); obtain ⟨ce14, hcl14, hM14, hcc14, hfr14⟩ := zQ qq.1 z86 (x7_1 : Int) p14 q14; obtain rfl := k86_openM hM14; have hx14_0 : w18.cell? ⟨go14, (x7_1 : Int).toNat * 4, none⟩ = some (.int .i64 ((rd_T86 y280 x7_1).f0)) := hcc14 0 _ rfl; have hx14_1 : w18.cell? ⟨go14, (x7_1 : Int).toNat * 4 + 1, none⟩ = some (.int .i64 ((rd_T86 y280 x7_1).f1)) := hcc14 1 _ rfl; have hx14_2 : w18.cell? ⟨go14, (x7_1 : Int).toNat * 4 + 2, none⟩ = some (.bool ((rd_T86 y280 x7_1).f2)) := hcc14 2 _ rfl; have hx14_3 : w18.cell? ⟨go14, (x7_1 : Int).toNat * 4 + 3, none⟩ = some (.int .i64 ((rd_T86 y280 x7_1).f3)) := hcc14 3 _ rfl; have hf14_0 : w18.frozen? ⟨go14, (x7_1 : Int).toNat * 4, none⟩ = false := hfr14 0; have hf14_1 : w18.frozen? ⟨go14, (x7_1 : Int).toNat * 4 + 1, none⟩ = false := hfr14 1; have hf14_2 : w18.frozen? ⟨go14, (x7_1 : Int).toNat * 4 + 2, none⟩ = false := hfr14 2; have hf14_3 : w18.frozen? ⟨go14, (x7_1 : Int).toNat * 4 + 3, none⟩ = false := hfr14 3; clear hcl14 hcc14 hfr14 hM14; replace p14 := eq_true p14; replace q14 := eq_true q14; have HX19 := kz qq.1; obtain ⟨ce19, hcl19, hM19, hcc19, hfr19⟩ := zQ HX19.1 z86 (x7_1 : Int) (of_decide_eq_true (by (with_reducible assumption))) (by have h_ : (x7_1 : Int) < ((y280.length : Int) : Int) := of_decide_eq_true (by (with_reducible assumption)); exact h_); obtain rfl := k86_openM hM19; have HP19 := Kd.R_seg HX19.1 (x7_1 : Int) (of_decide_eq_true (by (with_reducible assumption))) (by have h_ : (x7_1 : Int) < ((y280.length : Int) : Int) := of_decide_eq_true (by (with_reducible assumption)); exact h_) (seg := [.int .i64 (x0_1.length : Int)]) (j := 1) hcl19 hcc19 (show 2 ≤ 4 from by decide) (x' := (⟨(rd_T86 y280 x7_1).f0, (x0_1.length : Int), (rd_T86 y280 x7_1).f2, (rd_T86 y280 x7_1).f3⟩ : S86)) (k86_mkM _ _ _ (⟨(rd_T86 y280 x7_1).f0, (x0_1.length : Int), (rd_T86 y280 x7_1).f2, (rd_T86 y280 x7_1).f3⟩ : S86) ) (fun _ hk => hk); have hx19_1 := hcc19 1 _ rfl; (try simp only [show (k86).sz = 4 from rfl, km, ko] at hx19_1); have hf19_1 := hfr19 1; (try simp only [show (k86).sz = 4 from rfl, km, ko] at hf19_1); clear hcl19 hcc19 hfr19 hM19) | ((with_reducible refine zI (t := 3) (p := 41) rfl ?_); refine zG (t := 3) (p := 41) (v := ?vo_w20) (w1 := (w18.setCell ⟨go14, (x7_1 : Int).toNat * 4 + 1, none⟩ (.int .i64 (x0_1.length : Int)))) ?hg ?ho ?hn ?hr ?_; (case ho => rfl); (case hg => rfl); (case hn => rfl); (case hr => go_simp; done); intro w20 hw; have hg : w18.grownBy w20 (some go14) := (by rw [hw]; exact HP19.2); have hp_ : Kd.R k86 86 w20 w0.heap.size (fun k_ => (P0_ k_ ∨ w.heap.size ≤ k_)) (.slice (some ⟨go14, 0, none⟩) y280.length co14) y283 := (by rw [hw, Ny283.1]; exact HP19.1); clear HP19; replace qb := kz (zO qb.1 hg (zB qq.1 qb.1 (by decide))); replace HB := kz (by rw [hw]; exact ze (HB.1) GB14.1 : Below w0.heap.size w0 w20); replace HK := kz (zK (S := (fun k_ => P0_ k_)) hg HK.1 (fun k_ e_ => (qq.1.1 k_ e_))); replace qq := kz hp_; clear hg hw hp_))
          go_roundg k1
          case measure => have := HK1.1; omega
          case rel => exact ⟨(y283), ((x0_1.length : Int)), (wrap64 (x8_1 + 1)), (by rfl), (by rfl), H', ⟨by have := HK1.1; omega⟩, ⟨by exact qq.1⟩, ⟨by exact qb.1⟩, ⟨by exact HK.1⟩, ⟨by exact HB.1⟩⟩
         ·
          rw [if_neg c13] at H
          exact absurd H (by simp)
        ·
         rw [if_neg c12] at H
         have c12b0 : (t277 == 1) = false := beq_eq_false_iff_ne.mpr c12
         have c12b1 : (t277 != 1) = true := bne_iff_ne.mpr c12
         by_cases c21 : x7_1 < (y280.length : Int)
         ·
          rw [if_pos c21] at H
          have c21b0 : decide (x7_1 < (y280.length : Int)) = true := decide_eq_true c21
          clear c21
          obtain ⟨y284, hy284⟩ : ∃ y_ : List (S86), y_ = (y280.set (x7_1 : Int).toNat (⟨(x0_1.length : Int), (rd_T86 y280 x7_1).f1, (rd_T86 y280 x7_1).f2, (rd_T86 y280 x7_1).f3⟩ : S86)) := ⟨_, rfl⟩
          replace H : (spec_l2Insert.l0 k1 y284 a2 (x0_1.length : Int) (wrap64 (x8_1 + 1)) a1_0 a1_1) = some r := by (rw [hy284]; with_reducible exact H)
          have Ny284 := kz hy284
          clear hy284
          have H' := kz H
          clear H
          have hcz23_0 : wr.cell? ⟨gb274, 0, none⟩ = some (.int .i64 a1_0) := (zl qb.1 0).trans rfl
          have hcz23_1 : wr.cell? ⟨gb274, 1, none⟩ = some (.int .i64 a1_1) := (zl qb.1 1).trans rfl
          have hfz23_0 := zi qb.1 0
          have hfz23_1 := zi qb.1 1
          go_wp2_with (first | ((with_reducible refine zw (f := 69) rfl ?_); refine zL (some 20) rfl rfl Try.func69 (by kernel_rfl) rfl #[.int .i64 a1_0, .int .i64 x8_1] rfl (by (try simp only [kv, kf, kb]); rfl) ?_; (with_reducible refine (spec_l2Bit.calls a1_0 x8_1 t277 _ A6.1).mono ?_); rintro e w' ⟨rfl, ⟨nd, rfl⟩⟩; refine ⟨_, rfl, ?_⟩; (try (rw [drewN_self wr]; generalize hq_ : World.drewN wr _ = wr; have n0_ : zq (Kd.R k86 86 wr w0.heap.size (fun k_ => (P0_ k_ ∨ w.heap.size ≤ k_)) u0 x0_1) := ⟨by rw [← hq_]; exact (by (with_reducible repeat (apply zn)); exact HO_0.1)⟩; have n1_ : zq (wr.heap[gb274]? = some (.cells #[.int .i64 a1_0, .int .i64 a1_1] 37 (0, 0))) := ⟨by rw [← hq_]; exact (by (with_reducible repeat (refine zb ?_ _)); exact qb.1)⟩; have n2_ : zq (Kept w wr (fun k_ => P0_ k_)) := ⟨by rw [← hq_]; exact (by repeat ((with_reducible first | exact HK.1 | apply zj)))⟩; have n3_ : zq (Below w0.heap.size w0 wr) := ⟨by rw [← hq_]; exact (by repeat ((with_reducible first | exact HB.1 | apply zf)))⟩; clear HO_0 qb HK HB hq_; have HO_0 := n0_; have qb := n1_; have HK := n2_; have HB := n3_; clear n0_ n1_ n2_ n3_)); obtain ⟨Ao24, co24, eo24⟩ := zP HO_0.1; subst eo24; have p278 : 0 ≤ (x7_1 : Int) := of_decide_eq_true (by (with_reducible assumption)); have q278 : x7_1 < (x0_1.length : Int) := of_decide_eq_true (by (with_reducible assumption)); obtain ⟨ad278, e278, hx278_0, hx278_1, hx278_2, hx278_3⟩ := at_T86 (zD HO_0.1).2.2 x7_1 p278 q278; cases e278; replace p278 := eq_true p278; replace q278 := eq_true q278) | ((with_reducible refine zw (f := 68) rfl ?_); refine zL (some 26) rfl rfl Try.func68 (by kernel_rfl) rfl #[.agg #[.int .i64 ((rd_T86 x0_1 x7_1).f0), .int .i64 ((rd_T86 x0_1 x7_1).f1), .bool ((rd_T86 x0_1 x7_1).f2), .int .i64 ((rd_T86 x0_1 x7_1).f3)], .int .i64 t277] rfl (by (try simp only [kv, kf, kb]); rfl) ?_; (with_reducible refine (spec_l2Half.calls ((rd_T86 x0_1 x7_1).f0) ((rd_T86 x0_1 x7_1).f1) ((rd_T86 x0_1 x7_1).f2) ((rd_T86 x0_1 x7_1).f3) t277 t279 _ A9.1).mono ?_); rintro e w25 ⟨rfl, hb⟩; refine ⟨_, rfl, ?_⟩; replace HO_0 := kz (zz HO_0.1 hb); replace qb := kz (zr qb.1 hb); replace HK := kz (zx HK.1 hb); replace HB := kz (zu HB.1 hb)) | ((with_reducible refine gate_builtin (b := .append) (xs := #[.tmp 31, .tmp 33]) rfl ?_); at_builtin; refine Kd.R_append k86 (w0 := w0) w0.heap.size rfl (.tmp 31) (.tmp 33) 32 86 (.agg #[(.int .i64 0), (.int .i64 0), (.bool false), (.int .i64 0)]) 32 rfl Try.underlying32 info86 rfl (by decide) (by omega) (.slice (some ad278) x0_1.length co24) x0_1 (⟨0, 0, false, 0⟩ : S86) [.int .i64 0, .int .i64 0, .bool false, .int .i64 0] (fun k_ => (P0_ k_ ∨ w.heap.size ≤ k_)) (fun _ => False) rfl rfl ?aP (fun _ hk => hk.elim) ?aF ?aO ?aB ?aS ?aL ?_; (case aP => exact k86_mkM _ _ _ (⟨0, 0, false, 0⟩ : S86)); (case aB => exact HB.1); (case aF => exact (fun k_ hk => (.inr (ku (by exact HK.1.1) hk)))); (case aO => exact HO_0.1); (case aS => exact (zv HB.1)); (case aL => have := LMc11.1; omega); intro v281 w26 ho hb hg hat; rw [← Ny280.1] at ho; replace qb := kz (zO qb.1 hg (zB HO_0.1 qb.1 (by decide))); replace HB := kz hb; replace HK := kz (zK (S := (fun k_ => P0_ k_)) hg HK.1 (fun k_ e_ => (HO_0.1.1 k_ e_))); have qq := kz ho; clear ho hb hg hat; have p22 : 0 ≤ (x7_1 : Int) := of_decide_eq_true (by (with_reducible assumption)); have q22 : (x7_1 : Int) < ((y280.length : Int) : Int) := of_decide_eq_true (by (with_reducible assumption)); obtain ⟨go22, co22, eo22, gb22, gl22, cl22, HG22⟩ := Kd.R_form qq.1 (by omega); (cases eo22); have GB22 := kz gb22; have GG22 := kz HG22; clear gb22 gl22 HG22; have HMgo22 := kz (show (P0_ go22 ∨ w.heap.size ≤ go22) from (qq.1.1 _ rfl)); obtain ⟨ce22, hcl22, hM22, hcc22, hfr22⟩ := zQ qq.1 z86 (x7_1 : Int) p22 q22; obtain rfl := k86_openM hM22; have hx22_0 : w26.cell? ⟨go22, (x7_1 : Int).toNat * 4, none⟩ = some (.int .i64 ((rd_T86 y280 x7_1).f0)) := hcc22 0 _ rfl; have hx22_1 : w26.cell? ⟨go22, (x7_1 : Int).toNat * 4 + 1, none⟩ = some (.int .i64 ((rd_T86 y280 x7_1).f1)) := hcc22 1 _ rfl; have hx22_2 : w26.cell? ⟨go22, (x7_1 : Int).toNat * 4 + 2, none⟩ = some (.bool ((rd_T86 y280 x7_1).f2)) := hcc22 2 _ rfl; have hx22_3 : w26.cell? ⟨go22, (x7_1 : Int).toNat * 4 + 3, none⟩ = some (.int .i64 ((rd_T86 y280 x7_1).f3)) := hcc22 3 _ rfl; have hf22_0 : w26.frozen? ⟨go22, (x7_1 : Int).toNat * 4, none⟩ = false := hfr22 0; have hf22_1 : w26.frozen? ⟨go22, (x7_1 : Int).toNat * 4 + 1, none⟩ = false := hfr22 1; have hf22_2 : w26.frozen? ⟨go22, (x7_1 : Int).toNat * 4 + 2, none⟩ = false := hfr22 2; have hf22_3 : w26.frozen? ⟨go22, (x7_1 : Int).toNat * 4 + 3, none⟩ = false := hfr22 3; clear hcl22 hcc22 hfr22 hM22; replace p22 := eq_true p22; replace q22 := eq_true q22; have HX27 := kz qq.1; obtain ⟨ce27, hcl27, hM27, hcc27, hfr27⟩ := zQ HX27.1 z86 (x7_1 : Int) (of_decide_eq_true (by (with_reducible assumption))) (by have h_ : (x7_1 : Int) < ((y280.length : Int) : Int) := of_decide_eq_true (by (with_reducible assumption)); exact h_); obtain rfl := k86_openM hM27; have HP27 := Kd.R_seg HX27.1 (x7_1 : Int) (of_decide_eq_true (by (with_reducible assumption))) (by have h_ : (x7_1 : Int) < ((y280.length : Int) : Int) := of_decide_eq_true (by (with_reducible assumption)); exact h_) (seg := [.int .i64 (x0_1.length : Int)]) (j := 0) hcl27 hcc27 (show 1 ≤ 4 from by decide) (x' := (⟨(x0_1.length : Int), (rd_T86 y280 x7_1).f1, (rd_T86 y280 x7_1).f2, (rd_T86 y280 x7_1).f3⟩ : S86)) (k86_mkM _ _ _ (⟨(x0_1.length : Int), (rd_T86 y280 x7_1).f1, (rd_T86 y280 x7_1).f2, (rd_T86 y280 x7_1).f3⟩ : S86) ) (fun _ hk => hk); have hx27_0 := hcc27 0 _ rfl; (try simp only [show (k86).sz = 4 from rfl, km, ko] at hx27_0); have hf27_0 := hfr27 0; (try simp only [show (k86).sz = 4 from rfl, km, ko] at hf27_0); clear hcl27 hcc27 hfr27 hM27) | ((with_reducible refine zI (t := 3) (p := 46) rfl ?_); refine zG (t := 3) (p := 46) (v := ?vo_w28) (w1 := (w26.setCell ⟨go22, (x7_1 : Int).toNat * 4, none⟩ (.int .i64 (x0_1.length : Int)))) ?hg ?ho ?hn ?hr ?_; (case ho => rfl); (case hg => rfl); (case hn => rfl); (case hr => go_simp; done); intro w28 hw; have hg : w26.grownBy w28 (some go22) := (by rw [hw]; exact HP27.2); have hp_ : Kd.R k86 86 w28 w0.heap.size (fun k_ => (P0_ k_ ∨ w.heap.size ≤ k_)) (.slice (some ⟨go22, 0, none⟩) y280.length co22) y284 := (by rw [hw, Ny284.1]; exact HP27.1); clear HP27; replace qb := kz (zO qb.1 hg (zB qq.1 qb.1 (by decide))); replace HB := kz (by rw [hw]; exact ze (HB.1) GB22.1 : Below w0.heap.size w0 w28); replace HK := kz (zK (S := (fun k_ => P0_ k_)) hg HK.1 (fun k_ e_ => (qq.1.1 k_ e_))); replace qq := kz hp_; clear hg hw hp_))
          go_roundg k1
          case measure => have := HK1.1; omega
          case rel => exact ⟨(y284), ((x0_1.length : Int)), (wrap64 (x8_1 + 1)), (by rfl), (by rfl), H', ⟨by have := HK1.1; omega⟩, ⟨by exact qq.1⟩, ⟨by exact qb.1⟩, ⟨by exact HK.1⟩, ⟨by exact HB.1⟩⟩
         ·
          rw [if_neg c21] at H
          exact absurd H (by simp)
       ·
        rw [if_neg c11] at H
        exact absurd H (by simp)
      ·
       rw [if_neg c10] at H
       have c10b0 : (t279 == 0) = false := beq_eq_false_iff_ne.mpr c10
       have c10b1 : (t279 != 0) = true := bne_iff_ne.mpr c10
       have H' := kz H
       clear H
       have hcz29_0 : wr.cell? ⟨gb274, 0, none⟩ = some (.int .i64 a1_0) := (zl qb.1 0).trans rfl
       have hcz29_1 : wr.cell? ⟨gb274, 1, none⟩ = some (.int .i64 a1_1) := (zl qb.1 1).trans rfl
       have hfz29_0 := zi qb.1 0
       have hfz29_1 := zi qb.1 1
       go_wp2_with (first | ((with_reducible refine zw (f := 69) rfl ?_); refine zL (some 20) rfl rfl Try.func69 (by kernel_rfl) rfl #[.int .i64 a1_0, .int .i64 x8_1] rfl (by (try simp only [kv, kf, kb]); rfl) ?_; (with_reducible refine (spec_l2Bit.calls a1_0 x8_1 t277 _ A6.1).mono ?_); rintro e w' ⟨rfl, ⟨nd, rfl⟩⟩; refine ⟨_, rfl, ?_⟩; obtain ⟨Ao30, co30, eo30⟩ := zP HO_0.1; subst eo30; have p278 : 0 ≤ (x7_1 : Int) := of_decide_eq_true (by (with_reducible assumption)); have q278 : x7_1 < (x0_1.length : Int) := of_decide_eq_true (by (with_reducible assumption)); obtain ⟨ad278, e278, hx278_0, hx278_1, hx278_2, hx278_3⟩ := at_T86 (zD HO_0.1).2.2 x7_1 p278 q278; cases e278; replace p278 := eq_true p278; replace q278 := eq_true q278) | ((with_reducible refine zw (f := 68) rfl ?_); refine zL (some 26) rfl rfl Try.func68 (by kernel_rfl) rfl #[.agg #[.int .i64 ((rd_T86 x0_1 x7_1).f0), .int .i64 ((rd_T86 x0_1 x7_1).f1), .bool ((rd_T86 x0_1 x7_1).f2), .int .i64 ((rd_T86 x0_1 x7_1).f3)], .int .i64 t277] rfl (by (try simp only [kv, kf, kb]); rfl) ?_; (with_reducible refine (spec_l2Half.calls ((rd_T86 x0_1 x7_1).f0) ((rd_T86 x0_1 x7_1).f1) ((rd_T86 x0_1 x7_1).f2) ((rd_T86 x0_1 x7_1).f3) t277 t279 _ A9.1).mono ?_); rintro e w31 ⟨rfl, hb⟩; refine ⟨_, rfl, ?_⟩; replace HO_0 := kz (zz (by (with_reducible repeat (apply zn)); exact HO_0.1) hb); replace qb := kz (zr (g := gb274) (o := .cells #[.int .i64 a1_0, .int .i64 a1_1] 37 (0, 0)) (by (with_reducible repeat (refine zb ?_ _)); exact qb.1) hb); replace HK := kz (zx (S := (fun k_ => P0_ k_)) (by repeat ((with_reducible first | exact HK.1 | apply zj))) hb); replace HB := kz (zu (by repeat ((with_reducible first | exact HB.1 | apply zf))) hb)))
       go_roundg k1
       case measure => have := HK1.1; omega
       case rel => exact ⟨(x0_1), (t279), (wrap64 (x8_1 + 1)), (by rfl), (by rfl), H', ⟨by have := HK1.1; omega⟩, ⟨by exact HO_0.1⟩, ⟨by exact qb.1⟩, ⟨by exact HK.1⟩, ⟨by exact HB.1⟩⟩
     ·
      rw [if_neg c8] at H
      exact absurd H (by simp)
    ·
     rw [if_neg c7] at H
     exact absurd H (by simp)
   ·
    rw [if_neg c5] at H
    have c5b0 : decide (x8_1 < a1_1) = false := decide_eq_false c5
    clear c5
    by_cases c32 : 0 ≤ x7_1
    ·
     rw [if_pos c32] at H
     have c32b0 : decide (0 ≤ x7_1) = true := decide_eq_true c32
     clear c32
     by_cases c33 : x7_1 < (x0_1.length : Int)
     ·
      rw [if_pos c33] at H
      have c33b0 : decide (x7_1 < (x0_1.length : Int)) = true := decide_eq_true c33
      clear c33
      obtain ⟨y275, hy275⟩ : ∃ y_ : List (S86), y_ = (x0_1.set (x7_1 : Int).toNat (⟨(rd_T86 x0_1 x7_1).f0, (rd_T86 x0_1 x7_1).f1, true, (rd_T86 x0_1 x7_1).f3⟩ : S86)) := ⟨_, rfl⟩
      replace H : (some (y275.set (x7_1 : Int).toNat (⟨(rd_T86 y275 x7_1).f0, (rd_T86 y275 x7_1).f1, (rd_T86 y275 x7_1).f2, a2⟩ : S86))) = some r := by (have H2_ := (Option.bind_some _ _).symm.trans H; rw [hy275]; with_reducible exact H2_)
      have Ny275 := kz hy275
      clear hy275
      obtain ⟨y276, hy276⟩ : ∃ y_ : List (S86), y_ = (y275.set (x7_1 : Int).toNat (⟨(rd_T86 y275 x7_1).f0, (rd_T86 y275 x7_1).f1, (rd_T86 y275 x7_1).f2, a2⟩ : S86)) := ⟨_, rfl⟩
      replace H : (some y276) = some r := by (rw [hy276]; with_reducible exact H)
      have Ny276 := kz hy276
      clear hy276
      obtain rfl := kx H
      have hcz36_0 : wr.cell? ⟨gb274, 0, none⟩ = some (.int .i64 a1_0) := (zl qb.1 0).trans rfl
      have hcz36_1 : wr.cell? ⟨gb274, 1, none⟩ = some (.int .i64 a1_1) := (zl qb.1 1).trans rfl
      have hfz36_0 := zi qb.1 0
      have hfz36_1 := zi qb.1 1
      have p34 : 0 ≤ (x7_1 : Int) := of_decide_eq_true (by (with_reducible assumption))
      have q34 : (x7_1 : Int) < ((x0_1.length : Int) : Int) := of_decide_eq_true (by (with_reducible assumption))
      obtain ⟨go34, co34, eo34, gb34, gl34, cl34, HG34⟩ := Kd.R_form HO_0.1 (by omega)
      (cases eo34)
      have GB34 := kz gb34
      have GG34 := kz HG34
      clear gb34 gl34 HG34
      have HMgo34 := kz (show (P0_ go34 ∨ w.heap.size ≤ go34) from (HO_0.1.1 _ rfl))
      obtain ⟨ce34, hcl34, hM34, hcc34, hfr34⟩ := zQ HO_0.1 z86 (x7_1 : Int) p34 q34
      obtain rfl := k86_openM hM34
      have hx34_0 : wr.cell? ⟨go34, (x7_1 : Int).toNat * 4, none⟩ = some (.int .i64 ((rd_T86 x0_1 x7_1).f0)) := hcc34 0 _ rfl
      have hx34_1 : wr.cell? ⟨go34, (x7_1 : Int).toNat * 4 + 1, none⟩ = some (.int .i64 ((rd_T86 x0_1 x7_1).f1)) := hcc34 1 _ rfl
      have hx34_2 : wr.cell? ⟨go34, (x7_1 : Int).toNat * 4 + 2, none⟩ = some (.bool ((rd_T86 x0_1 x7_1).f2)) := hcc34 2 _ rfl
      have hx34_3 : wr.cell? ⟨go34, (x7_1 : Int).toNat * 4 + 3, none⟩ = some (.int .i64 ((rd_T86 x0_1 x7_1).f3)) := hcc34 3 _ rfl
      have hf34_0 : wr.frozen? ⟨go34, (x7_1 : Int).toNat * 4, none⟩ = false := hfr34 0
      have hf34_1 : wr.frozen? ⟨go34, (x7_1 : Int).toNat * 4 + 1, none⟩ = false := hfr34 1
      have hf34_2 : wr.frozen? ⟨go34, (x7_1 : Int).toNat * 4 + 2, none⟩ = false := hfr34 2
      have hf34_3 : wr.frozen? ⟨go34, (x7_1 : Int).toNat * 4 + 3, none⟩ = false := hfr34 3
      clear hcl34 hcc34 hfr34 hM34
      replace p34 := eq_true p34
      replace q34 := eq_true q34
      have HX37 := kz HO_0.1
      obtain ⟨ce37, hcl37, hM37, hcc37, hfr37⟩ := zQ HX37.1 z86 (x7_1 : Int) (of_decide_eq_true (by (with_reducible assumption))) (by have h_ : (x7_1 : Int) < ((x0_1.length : Int) : Int) := of_decide_eq_true (by (with_reducible assumption)); exact h_)
      obtain rfl := k86_openM hM37
      have HP37 := Kd.R_seg HX37.1 (x7_1 : Int) (of_decide_eq_true (by (with_reducible assumption))) (by have h_ : (x7_1 : Int) < ((x0_1.length : Int) : Int) := of_decide_eq_true (by (with_reducible assumption)); exact h_) (seg := [.bool true]) (j := 2) hcl37 hcc37 (show 3 ≤ 4 from by decide) (x' := (⟨(rd_T86 x0_1 x7_1).f0, (rd_T86 x0_1 x7_1).f1, true, (rd_T86 x0_1 x7_1).f3⟩ : S86)) (k86_mkM _ _ _ (⟨(rd_T86 x0_1 x7_1).f0, (rd_T86 x0_1 x7_1).f1, true, (rd_T86 x0_1 x7_1).f3⟩ : S86) ) (fun _ hk => hk)
      have hx37_2 := hcc37 2 _ rfl
      (try simp only [show (k86).sz = 4 from rfl, km, ko] at hx37_2)
      have hf37_2 := hfr37 2
      (try simp only [show (k86).sz = 4 from rfl, km, ko] at hf37_2)
      clear hcl37 hcc37 hfr37 hM37
      go_wp2_with (first | ((with_reducible refine zI (t := 4) (p := 51) rfl ?_); refine zG (t := 4) (p := 51) (v := ?vo_w38) (w1 := (wr.setCell ⟨go34, (x7_1 : Int).toNat * 4 + 2, none⟩ (.bool true))) ?hg ?ho ?hn ?hr ?_; (case ho => rfl); (case hg => rfl); (case hn => rfl); (case hr => go_simp; done); intro w38 hw; have hg : wr.grownBy w38 (some go34) := (by rw [hw]; exact HP37.2); have hp_ : Kd.R k86 86 w38 w0.heap.size (fun k_ => (P0_ k_ ∨ w.heap.size ≤ k_)) (.slice (some ⟨go34, 0, none⟩) x0_1.length co34) y275 := (by rw [hw, Ny275.1]; exact HP37.1); clear HP37; replace HB := kz (by rw [hw]; exact ze (HB.1) GB34.1 : Below w0.heap.size w0 w38); replace HK := kz (zK (S := (fun k_ => P0_ k_)) hg HK.1 (fun k_ e_ => (HO_0.1.1 k_ e_))); replace HO_0 := kz hp_; clear hg hw hp_; have p35 : 0 ≤ (x7_1 : Int) := of_decide_eq_true (by (with_reducible assumption)); have q35 : (x7_1 : Int) < ((x0_1.length : Int) : Int) := of_decide_eq_true (by (with_reducible assumption)); obtain ⟨ce35, hcl35, hM35, hcc35, hfr35⟩ := zQ HO_0.1 z86 (x7_1 : Int) p35 q35; obtain rfl := k86_openM hM35; have hx35_0 : w38.cell? ⟨go34, (x7_1 : Int).toNat * 4, none⟩ = some (.int .i64 ((rd_T86 y275 x7_1).f0)) := hcc35 0 _ rfl; have hx35_1 : w38.cell? ⟨go34, (x7_1 : Int).toNat * 4 + 1, none⟩ = some (.int .i64 ((rd_T86 y275 x7_1).f1)) := hcc35 1 _ rfl; have hx35_2 : w38.cell? ⟨go34, (x7_1 : Int).toNat * 4 + 2, none⟩ = some (.bool ((rd_T86 y275 x7_1).f2)) := hcc35 2 _ rfl; have hx35_3 : w38.cell? ⟨go34, (x7_1 : Int).toNat * 4 + 3, none⟩ = some (.int .i64 ((rd_T86 y275 x7_1).f3)) := hcc35 3 _ rfl; have hf35_0 : w38.frozen? ⟨go34, (x7_1 : Int).toNat * 4, none⟩ = false := hfr35 0; have hf35_1 : w38.frozen? ⟨go34, (x7_1 : Int).toNat * 4 + 1, none⟩ = false := hfr35 1; have hf35_2 : w38.frozen? ⟨go34, (x7_1 : Int).toNat * 4 + 2, none⟩ = false := hfr35 2; have hf35_3 : w38.frozen? ⟨go34, (x7_1 : Int).toNat * 4 + 3, none⟩ = false := hfr35 3; clear hcl35 hcc35 hfr35 hM35; replace p35 := eq_true p35; replace q35 := eq_true q35; have HX39 := kz HO_0.1; obtain ⟨ce39, hcl39, hM39, hcc39, hfr39⟩ := zQ HX39.1 z86 (x7_1 : Int) (of_decide_eq_true (by (with_reducible assumption))) (by have h_ : (x7_1 : Int) < ((x0_1.length : Int) : Int) := of_decide_eq_true (by (with_reducible assumption)); exact h_); obtain rfl := k86_openM hM39; have HP39 := Kd.R_seg HX39.1 (x7_1 : Int) (of_decide_eq_true (by (with_reducible assumption))) (by have h_ : (x7_1 : Int) < ((x0_1.length : Int) : Int) := of_decide_eq_true (by (with_reducible assumption)); exact h_) (seg := [.int .i64 a2]) (j := 3) hcl39 hcc39 (show 4 ≤ 4 from by decide) (x' := (⟨(rd_T86 y275 x7_1).f0, (rd_T86 y275 x7_1).f1, (rd_T86 y275 x7_1).f2, a2⟩ : S86)) (k86_mkM _ _ _ (⟨(rd_T86 y275 x7_1).f0, (rd_T86 y275 x7_1).f1, (rd_T86 y275 x7_1).f2, a2⟩ : S86) ) (fun _ hk => hk); have hx39_3 := hcc39 3 _ rfl; (try simp only [show (k86).sz = 4 from rfl, km, ko] at hx39_3); have hf39_3 := hfr39 3; (try simp only [show (k86).sz = 4 from rfl, km, ko] at hf39_3); clear hcl39 hcc39 hfr39 hM39) | ((with_reducible refine zI (t := 3) (p := 56) rfl ?_); refine zG (t := 3) (p := 56) (v := ?vo_w40) (w1 := (w38.setCell ⟨go34, (x7_1 : Int).toNat * 4 + 3, none⟩ (.int .i64 a2))) ?hg ?ho ?hn ?hr ?_; (case ho => rfl); (case hg => rfl); (case hn => rfl); (case hr => go_simp; done); intro w40 hw; have hg : w38.grownBy w40 (some go34) := (by rw [hw]; exact HP39.2); have hp_ : Kd.R k86 86 w40 w0.heap.size (fun k_ => (P0_ k_ ∨ w.heap.size ≤ k_)) (.slice (some ⟨go34, 0, none⟩) x0_1.length co34) y276 := (by rw [hw, Ny276.1]; exact HP39.1); clear HP39; replace HB := kz (by rw [hw]; exact ze (HB.1) GB34.1 : Below w0.heap.size w0 w40); replace HK := kz (zK (S := (fun k_ => P0_ k_)) hg HK.1 (fun k_ e_ => (HO_0.1.1 k_ e_))); replace HO_0 := kz hp_; clear hg hw hp_))
      go_ret
      exact ⟨_, by rfl, by exact HO_0.1, by exact HB.1, by exact HK.1⟩
     ·
      rw [if_neg c33] at H
      exact absurd H (by simp)
    ·
     rw [if_neg c32] at H
     exact absurd H (by simp)
end Go.Proofs.Ytakoaogbkajkcaa.PFnLongest
