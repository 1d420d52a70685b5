/- Go functions told by Lean functions, printed by a program. No condition but what each statement says. -/
import Derived.Test.YtkollihfejkklaaYFnHalvesx1
import Derived.Test.YtkollihfejkklaaYFnHalvesx3
namespace Go.Proofs.Ytkollihfejkklaa.PFnHalves
open Go.RowKit Go.Proofs.YtkollihfejkklaaW.PrintWords Go.Proofs.YtkollihfejkklaaW.PrintLast Go.Proofs.YtkollihfejkklaaW.PrintMore
open Aside0 renaming mk → kz
open List renaming setIfInBounds_toArray → kq, set_cons_zero → kk, set_cons_succ → kv, map_toArray → kg, map_cons → ke, map_nil → kd
open Nat renaming ne_of_lt → ky, ne_of_gt → kj
open Try renaming underlying26 → kh, func12 → kx
open Option renaming bind_eq_some_iff → kf
open Option.some renaming injEq → kb
open Act renaming put → kc
open Or renaming inl → ko
open Bool renaming true → km, false → ku
set_option maxHeartbeats 8000000
set_option maxRecDepth 100000
open Go.Proofs.YtkollihfejkklaaW.PrintLast renaming i64_w → zt, i32_w → zu, goesL_ → zw, any_of → zx, take_ofW → zy, pure_ → zz, take_ → zA, skip_ → zB
open Go.Proofs.YtkollihfejkklaaW.PrintWords renaming blk_drewN → za, blk_alloc → zb, blk_drew → zc, pw_below_drewN → zd, below_set → ze, below_drew1 → zf, below_alloc → zg, blk_frozen → zh, blk_cell → zi, blk_below → zj, below_size → zk, below_step → zl, blk_lt → zm, blk_far → zn, cell_far → zo, box_event → zp, blk_put → zq, gate_dst → zr, gate_callee → zs, Aside0 → zv
attribute [local go_sem] max2_int min2_int max_two min_two max_three min_three max_four min_four
set_option linter.unusedVariables false
set_option linter.unusedSimpArgs false

attribute [local go_sem high] eqA26
/-! ### spec_l1Halves: function 42 -/
def spec_l1Halves.f (a0_0 : Int) (a0_1 : Int) : Option (Int × Int × Int × Int) := (spec_l1Size.f a0_0 (wrap64 (a0_1 + 1))).bind fun t137 => (some (a0_0, wrap64 (a0_1 + 1), wrap64 (a0_0 + t137), wrap64 (a0_1 + 1)))
def spec_l1Halves.T2 : Bool × List (List Nat × List Nat) := (true, [([], []), ([], []), ([1], [1]), ([], []), ([3], [3]), ([2, 4], [2, 4]), ([], []), ([6], [6]), ([7], [7]), ([5, 8], [5, 8]), ([0, 4, 0], [0]), ([9, 10, 0, 1, 2, 3, 4, 5, 6, 7, 8, 9, 10], [9])])
def spec_l1Halves.B2 : List Nat := [0, 0, 2, 0, 8, 30, 0, 64, 192, 510, 25, 2047]
theorem spec_l1Halves.tab2 : rtab .any (opsOf Try.f42 2) = spec_l1Halves.T2 := by kernel_rfl
theorem spec_l1Halves.bits2 : waitsOk spec_l1Halves.T2.2 spec_l1Halves.B2 = true := by kernel_rfl
theorem spec_l1Halves.calls (a0_0 : Int) (a0_1 : Int) (r1 : Int) (r2 : Int) (r3 : Int) (r4 : Int) (w : World) (h : spec_l1Halves.f a0_0 a0_1 = some (r1, r2, r3, r4)) :
  Calls Try.prog 42 #[.agg #[.int .i64 a0_0, .int .i64 a0_1]] w fun e w' => e = .returned (.tuple #[.agg #[.int .i64 r1, .int .i64 r2], .agg #[.int .i64 r3, .int .i64 r4]]) ∧ Below w.heap.size w w' := by
 have hu26 := kh
 have HB := kz (Below.refl w.heap.size w)
 have H : ((spec_l1Size.f a0_0 (wrap64 (a0_1 + 1))).bind fun t137 => (some (a0_0, wrap64 (a0_1 + 1), wrap64 (a0_0 + t137), wrap64 (a0_1 + 1)))) = some (r1, r2, r3, r4) := h
 clear h
 replace H := kf.mp H
 obtain ⟨t137, A20, H⟩ := H
 replace H : (some (a0_0, wrap64 (a0_1 + 1), wrap64 (a0_0 + t137), wrap64 (a0_1 + 1))) = some (r1, r2, r3, r4) := H
 have A2 := kz A20
 clear A20
 simp only [kb, Prod.mk.injEq] at H
 obtain ⟨rfl, rfl, rfl, rfl⟩ := H
 go_enter Try.func42, Try.ntmps42
 try go_wp2_with (first | ((with_reducible refine zr (N := 1) rfl ?_); refine zp ?hg (N := 1) ?hd (cs := #[.int .i64 a0_0, .int .i64 a0_1]) (t := 26) ?hr ?_; (case hd => rfl); (case hg => rfl); (case hr => (go_simp; done)); intro gb133 hg w3 hbox hb; replace HB := kz (zl HB.1 hb); have zR := kz hbox; clear hb hbox hg) | ((with_reducible refine zr (N := 2) rfl ?_); refine zp ?hg (N := 2) ?hd (cs := #[.int .i64 0, .int .i64 0]) (t := 26) ?hr ?_; (case hd => rfl); (case hg => rfl); (case hr => (go_simp; done)); intro gb134 hg w4 hbox hb; have zT := kz hbox; have qZ := kz ((by rw [hg]; exact (zk HB.1) : w.heap.size ≤ gb134)); replace HB := kz (zl HB.1 hb); have qf := kz ((by rw [hg]; exact ky (zm (g := gb133) (o := .cells #[.int .i64 a0_0, .int .i64 a0_1] 26 (0, 0)) zR.1) : gb133 ≠ gb134)); have NB134_133 := kz ((by rw [hg]; exact kj (zm (g := gb133) (o := .cells #[.int .i64 a0_0, .int .i64 a0_1] 26 (0, 0)) zR.1) : gb134 ≠ gb133)); replace zR := kz (zj (g := gb133) (o := .cells #[.int .i64 a0_0, .int .i64 a0_1] 26 (0, 0)) zR.1 hb); clear hb hbox hg) | ((with_reducible refine zr (N := 3) rfl ?_); refine zp ?hg (N := 3) ?hd (cs := #[.int .i64 0, .int .i64 0]) (t := 26) ?hr ?_; (case hd => rfl); (case hg => rfl); (case hr => (go_simp; done)); intro gb135 hg w5 hbox hb; have zX := kz hbox; have yf := kz ((by rw [hg]; exact (zk HB.1) : w.heap.size ≤ gb135)); replace HB := kz (zl HB.1 hb); have qg := kz ((by rw [hg]; exact ky (zm (g := gb133) (o := .cells #[.int .i64 a0_0, .int .i64 a0_1] 26 (0, 0)) zR.1) : gb133 ≠ gb135)); have NB135_133 := kz ((by rw [hg]; exact kj (zm (g := gb133) (o := .cells #[.int .i64 a0_0, .int .i64 a0_1] 26 (0, 0)) zR.1) : gb135 ≠ gb133)); replace zR := kz (zj (g := gb133) (o := .cells #[.int .i64 a0_0, .int .i64 a0_1] 26 (0, 0)) zR.1 hb); have qD := kz ((by rw [hg]; exact ky (zm (g := gb134) (o := .cells #[.int .i64 0, .int .i64 0] 26 (0, 0)) zT.1) : gb134 ≠ gb135)); have qE := kz ((by rw [hg]; exact kj (zm (g := gb134) (o := .cells #[.int .i64 0, .int .i64 0] 26 (0, 0)) zT.1) : gb135 ≠ gb134)); replace zT := kz (zj (g := gb134) (o := .cells #[.int .i64 0, .int .i64 0] 26 (0, 0)) zT.1 hb); clear hb hbox hg; have hnb6 := qf.1; have hnc6 := NB134_133.1; have hnb7 := qg.1; have hnc7 := NB135_133.1; have hcz8_0 : w5.cell? ⟨gb133, 0, none⟩ = some (.int .i64 a0_0) := (zi zR.1 0).trans rfl; have hcz8_1 : w5.cell? ⟨gb133, 1, none⟩ = some (.int .i64 a0_1) := (zi zR.1 1).trans rfl; have hfz8_0 := zh zR.1 0; have hfz8_1 := zh zR.1 1) | ((with_reducible refine zr (N := 4) rfl ?_); refine zp ?hg (N := 4) ?hd (cs := #[.int .i64 0, .int .i64 0]) (t := 26) ?hr ?_; (case hd => rfl); (case hg => rfl); (case hr => (go_simp; done)); intro gb136 hg w9 hbox hb; have qa := kz hbox; have GE136 := kz ((by rw [hg]; exact (zk HB.1) : w.heap.size ≤ gb136)); replace HB := kz (zl HB.1 hb); have NB133_136 := kz ((by rw [hg]; exact ky (zm (g := gb133) (o := .cells #[.int .i64 a0_0, .int .i64 a0_1] 26 (0, 0)) zR.1) : gb133 ≠ gb136)); have NB136_133 := kz ((by rw [hg]; exact kj (zm (g := gb133) (o := .cells #[.int .i64 a0_0, .int .i64 a0_1] 26 (0, 0)) zR.1) : gb136 ≠ gb133)); replace zR := kz (zj (g := gb133) (o := .cells #[.int .i64 a0_0, .int .i64 a0_1] 26 (0, 0)) zR.1 hb); have qK := kz ((by rw [hg]; exact ky (zm (g := gb134) (o := .cells #[.int .i64 0, .int .i64 0] 26 (0, 0)) zT.1) : gb134 ≠ gb136)); have qh := kz ((by rw [hg]; exact kj (zm (g := gb134) (o := .cells #[.int .i64 0, .int .i64 0] 26 (0, 0)) zT.1) : gb136 ≠ gb134)); replace zT := kz (zj (g := gb134) (o := .cells #[.int .i64 0, .int .i64 0] 26 (0, 0)) zT.1 hb); have qL := kz ((by rw [hg]; exact ky (zm (g := gb135) (o := .cells #[.int .i64 0, .int .i64 0] 26 (0, 0)) zX.1) : gb135 ≠ gb136)); have qi := kz ((by rw [hg]; exact kj (zm (g := gb135) (o := .cells #[.int .i64 0, .int .i64 0] 26 (0, 0)) zX.1) : gb136 ≠ gb135)); replace zX := kz (zj (g := gb135) (o := .cells #[.int .i64 0, .int .i64 0] 26 (0, 0)) zX.1 hb); clear hb hbox hg; have hnb10 := NB136_133.1; have hnc10 := NB133_136.1; have hnb11 := qh.1; have hnc11 := qK.1; have hnb12 := qi.1; have hnc12 := qL.1; have hcz13_0 : w9.cell? ⟨gb136, 0, none⟩ = some (.int .i64 0) := (zi qa.1 0).trans rfl; have hcz13_1 : w9.cell? ⟨gb136, 1, none⟩ = some (.int .i64 0) := (zi qa.1 1).trans rfl; have hfz13_0 := zh qa.1 0; have hfz13_1 := zh qa.1 1))
 have n0_ : zv (((w9.setCell ⟨gb136, 0, none⟩ (.int .i64 a0_0)).setCell ⟨gb136, 1, none⟩ (.int .i64 (wrap64 (a0_1 + 1)))).heap[gb133]? = some (.cells #[.int .i64 a0_0, .int .i64 a0_1] 26 (0, 0))) := ⟨by refine zn ?_ NB133_136.1 _; refine zn ?_ NB133_136.1 _; exact zR.1⟩
 have n1_ : zv (((w9.setCell ⟨gb136, 0, none⟩ (.int .i64 a0_0)).setCell ⟨gb136, 1, none⟩ (.int .i64 (wrap64 (a0_1 + 1)))).heap[gb134]? = some (.cells #[.int .i64 0, .int .i64 0] 26 (0, 0))) := ⟨by refine zn ?_ qK.1 _; refine zn ?_ qK.1 _; exact zT.1⟩
 have n2_ : zv (((w9.setCell ⟨gb136, 0, none⟩ (.int .i64 a0_0)).setCell ⟨gb136, 1, none⟩ (.int .i64 (wrap64 (a0_1 + 1)))).heap[gb135]? = some (.cells #[.int .i64 0, .int .i64 0] 26 (0, 0))) := ⟨by refine zn ?_ qL.1 _; refine zn ?_ qL.1 _; exact zX.1⟩
 have n3_ : zv (((w9.setCell ⟨gb136, 0, none⟩ (.int .i64 a0_0)).setCell ⟨gb136, 1, none⟩ (.int .i64 (wrap64 (a0_1 + 1)))).heap[gb136]? = some (.cells #[.int .i64 a0_0, .int .i64 (wrap64 (a0_1 + 1))] 26 (0, 0))) := ⟨by refine zq (cs := #[.int .i64 a0_0, .int .i64 0]) ?_ 1 _ rfl; refine zq (cs := #[.int .i64 0, .int .i64 0]) ?_ 0 _ rfl; exact qa.1⟩
 have n4_ : zv (Below w.heap.size w ((w9.setCell ⟨gb136, 0, none⟩ (.int .i64 a0_0)).setCell ⟨gb136, 1, none⟩ (.int .i64 (wrap64 (a0_1 + 1))))) := ⟨by repeat ((with_reducible first | exact HB.1 | refine ze ?_ GE136.1))⟩
 (try clear zR)
 (try clear zT)
 (try clear zX)
 (try clear qa)
 (try clear HB)
 generalize ((w9.setCell ⟨gb136, 0, none⟩ (.int .i64 a0_0)).setCell ⟨gb136, 1, none⟩ (.int .i64 (wrap64 (a0_1 + 1)))) = w14 at n0_ n1_ n2_ n3_ n4_ ⊢
 have zR := n0_
 have zT := n1_
 have zX := n2_
 have qa := n3_
 have HB := n4_
 clear n0_ n1_ n2_ n3_ n4_
 replace zR := kz (zc zR.1)
 replace zT := kz (zc zT.1)
 replace zX := kz (zc zX.1)
 replace qa := kz (zc qa.1)
 replace HB := kz (zf HB.1)
 refine start_ (n := 12) (S := fun w' => w'.cell? ⟨gb136, 0, none⟩ = some (.int .i64 a0_0) ∧ w'.cell? ⟨gb136, 1, none⟩ = some (.int .i64 (wrap64 (a0_1 + 1))) ∧ w'.cell? ⟨gb133, 0, none⟩ = some (.int .i64 a0_0) ∧ w'.cell? ⟨gb133, 1, none⟩ = some (.int .i64 a0_1)) (ds := []) #[ku,ku,ku,ku,ku,ku,ku,ku,ku,ku,ku,ku] (by kernel_rfl) rfl rfl ⟨(zi qa.1 0).trans rfl, (zi qa.1 1).trans rfl, (zi zR.1 0).trans rfl, (zi zR.1 1).trans rfl⟩ (fun hHeld => ?_); refine with_tabW spec_l1Halves.tab2 spec_l1Halves.bits2 (fun HT_ HW_ => ?_)
 generalize w14.drew = w15 at zR zT zX qa HB hHeld ⊢
 refine zz (i := 1) (N := some 12) (v := ?_) (a' := ?_) #[ku,km,ku,ku,ku,ku,ku,ku,ku,ku,ku,ku] rfl rfl (zx HT_.1 (by kernel_rfl)) (fun _ _ _ h => h) (ko ⟨by rfl, ?_⟩) ?_ ?_
 rotate_left
 ·
  intro w'
  go_simp
  with_reducible rfl
 rotate_left
 ·
  simp only [kc, kq, kk, kv, zt, zu]
  rfl
 refine zz (i := 6) (N := some 17) (v := ?_) (a' := ?_) #[ku,km,ku,ku,ku,ku,km,ku,ku,ku,ku,ku] rfl rfl (zx HT_.1 (by kernel_rfl)) (fun _ _ _ h => h) (ko ⟨by rfl, ?_⟩) ?_ ?_
 rotate_left
 ·
  intro w'
  go_simp
  with_reducible rfl
 rotate_left
 ·
  simp only [kc, kq, kk, kv, zt, zu]
  rfl
 refine zA (i := 0) (N := some 11) (v := ?_) (a' := ?_) #[km,km,ku,ku,ku,ku,km,ku,ku,ku,ku,ku] rfl rfl (zy HT_.1 HW_.1 (by kernel_rfl)) (fun _ _ _ h => h) (ko ⟨by rfl, ?_⟩) hHeld ?_ ?_
 rotate_left
 ·
  rintro w' ⟨s0, s1, s2, s3⟩
  go_simp
  with_reducible rfl
 rotate_left
 ·
  simp only [kc, kq, kk, kv, zt, zu]
  rfl
 refine zA (i := 2) (N := some 13) (v := ?_) (a' := ?_) #[km,km,km,ku,ku,ku,km,ku,ku,ku,ku,ku] rfl rfl (zy HT_.1 HW_.1 (by kernel_rfl)) (fun _ _ _ h => h) (ko ⟨by rfl, ?_⟩) hHeld ?_ ?_
 rotate_left
 ·
  rintro w' ⟨s0, s1, s2, s3⟩
  go_simp
  with_reducible rfl
 rotate_left
 ·
  simp only [kc, kq, kk, kv, zt, zu]
  rfl
 refine zA (i := 3) (N := some 14) (v := ?_) (a' := ?_) #[km,km,km,km,ku,ku,km,ku,ku,ku,ku,ku] rfl rfl (zy HT_.1 HW_.1 (by kernel_rfl)) (fun _ _ _ h => h) (ko ⟨by rfl, ?_⟩) hHeld ?_ ?_
 rotate_left
 ·
  rintro w' ⟨s0, s1, s2, s3⟩
  go_simp
  with_reducible rfl
 rotate_left
 ·
  simp only [kc, kq, kk, kv, zt, zu]
  rfl
 refine zA (i := 7) (N := some 18) (v := ?_) (a' := ?_) #[km,km,km,km,ku,ku,km,km,ku,ku,ku,ku] rfl rfl (zy HT_.1 HW_.1 (by kernel_rfl)) (fun _ _ _ h => h) (ko ⟨by rfl, ?_⟩) hHeld ?_ ?_
 rotate_left
 ·
  rintro w' ⟨s0, s1, s2, s3⟩
  go_simp
  with_reducible rfl
 rotate_left
 ·
  simp only [kc, kq, kk, kv, zt, zu]
  rfl
 refine zz (i := 8) (N := some 19) (v := ?_) (a' := ?_) #[km,km,km,km,ku,ku,km,km,km,ku,ku,ku] rfl rfl (zx HT_.1 (by kernel_rfl)) (fun _ _ _ h => h) (ko ⟨by rfl, ?_⟩) ?_ ?_
 rotate_left
 ·
  intro w'
  go_simp
  with_reducible rfl
 rotate_left
 ·
  simp only [kc, kq, kk, kv, zt, zu]
  rfl
 refine one_ (i := 4) (N := some 15) #[km,km,km,km,km,ku,km,km,km,ku,ku,ku] rfl rfl (one_of HT_.1 (by kernel_rfl)) (by decide) (fun K hK => ?_)
 refine goes_ Try.func33 (by kernel_rfl) rfl #[.agg #[.int .i64 a0_0, .int .i64 (wrap64 (a0_1 + 1))]] (by rfl) rfl rfl (by (try simp only [kg, ke, kd]); rfl) ?_
 with_reducible refine (spec_l1Size.calls a0_0 (wrap64 (a0_1 + 1)) t137 _ A2.1).mono ?_
 rintro e w16 ⟨rfl, hb⟩
 refine ⟨_, rfl, ?_⟩
 replace zR := kz (zj (g := gb133) (o := .cells #[.int .i64 a0_0, .int .i64 a0_1] 26 (0, 0)) zR.1 hb)
 replace zT := kz (zj (g := gb134) (o := .cells #[.int .i64 0, .int .i64 0] 26 (0, 0)) zT.1 hb)
 replace zX := kz (zj (g := gb135) (o := .cells #[.int .i64 0, .int .i64 0] 26 (0, 0)) zX.1 hb)
 replace qa := kz (zj (g := gb136) (o := .cells #[.int .i64 a0_0, .int .i64 (wrap64 (a0_1 + 1))] 26 (0, 0)) qa.1 hb)
 replace HB := kz (zl HB.1 hb)
 (try clear hb)
 (try clear hb2)
 (try clear hk)
 (try clear hi)
 refine hK.out _ _ ⟨(zi qa.1 0).trans rfl, (zi qa.1 1).trans rfl, (zi zR.1 0).trans rfl, (zi zR.1 1).trans rfl⟩ (fun hHeld => ?_)
 clear hK K
 refine norm_ (a' := ?_) ?_ ?_
 rotate_left
 ·
  show kc _ (some 15) _ = _
  simp only [kc, kq, kk, kv, zt, zu]
  rfl
 refine zz (i := 5) (N := some 16) (v := ?_) (a' := ?_) #[km,km,km,km,km,km,km,km,km,ku,ku,ku] rfl rfl (zx HT_.1 (by kernel_rfl)) (fun _ _ _ h => h) (ko ⟨by rfl, ?_⟩) ?_ ?_
 rotate_left
 ·
  intro w'
  go_simp
  with_reducible rfl
 rotate_left
 ·
  simp only [kc, kq, kk, kv, zt, zu]
  rfl
 refine zz (i := 9) (N := some 20) (v := ?_) (a' := ?_) #[km,km,km,km,km,km,km,km,km,km,ku,ku] rfl rfl (zx HT_.1 (by kernel_rfl)) (fun _ _ _ h => h) (ko ⟨by rfl, ?_⟩) ?_ ?_
 rotate_left
 ·
  intro w'
  go_simp
  with_reducible rfl
 rotate_left
 ·
  simp only [kc, kq, kk, kv, zt, zu]
  rfl
 refine one_ (i := 10) (N := none) #[km,km,km,km,km,km,km,km,km,km,km,ku] rfl rfl (one_of HT_.1 (by kernel_rfl)) (by decide) (fun K hK => ?_)
 have hs17 : w16.cell? ⟨gb134, 0, none⟩ = some (.int .i64 0) := (zi zT.1 0).trans rfl
 have hfs17 := zh zT.1 0
 have hns17_0 := qf.1
 have hns17_2 := qE.1
 have hns17_3 := qh.1
 have hms17_0 := NB134_133.1
 have hms17_2 := qD.1
 have hms17_3 := qK.1
 have hs18 : w16.cell? ⟨gb134, 1, none⟩ = some (.int .i64 0) := (zi zT.1 1).trans rfl
 have hfs18 := zh zT.1 1
 have hns18_0 := qf.1
 have hns18_2 := qE.1
 have hns18_3 := qh.1
 have hms18_0 := NB134_133.1
 have hms18_2 := qD.1
 have hms18_3 := qK.1
 refine zB (w1 := ?_) (by rfl) rfl ?_ ?_
 rotate_left
 ·
  go_simp
  rfl
 refine hK.out _ _ ⟨((zo (p := ⟨gb134, _, none⟩) qh.1 _).trans (((zo (p := ⟨gb134, _, none⟩) qh.1 _).trans (hHeld.1)))), ((zo (p := ⟨gb134, _, none⟩) qh.1 _).trans (((zo (p := ⟨gb134, _, none⟩) qh.1 _).trans (hHeld.2.1)))), ((zo (p := ⟨gb134, _, none⟩) qf.1 _).trans (((zo (p := ⟨gb134, _, none⟩) qf.1 _).trans (hHeld.2.2.1)))), ((zo (p := ⟨gb134, _, none⟩) qf.1 _).trans (((zo (p := ⟨gb134, _, none⟩) qf.1 _).trans (hHeld.2.2.2))))⟩ (fun hHeld => ?_)
 clear hK K
 refine one_ (i := 11) (N := none) #[km,km,km,km,km,km,km,km,km,km,km,km] rfl rfl (one_of HT_.1 (by kernel_rfl)) (by decide) (fun K hK => ?_)
 have hs19 : w16.cell? ⟨gb135, 0, none⟩ = some (.int .i64 0) := (zi zX.1 0).trans rfl
 have hfs19 := zh zX.1 0
 have hns19_0 := qg.1
 have hns19_1 := qD.1
 have hns19_3 := qi.1
 have hms19_0 := NB135_133.1
 have hms19_1 := qE.1
 have hms19_3 := qL.1
 have hs20 : w16.cell? ⟨gb135, 1, none⟩ = some (.int .i64 0) := (zi zX.1 1).trans rfl
 have hfs20 := zh zX.1 1
 have hns20_0 := qg.1
 have hns20_1 := qD.1
 have hns20_3 := qi.1
 have hms20_0 := NB135_133.1
 have hms20_1 := qE.1
 have hms20_3 := qL.1
 refine zB (w1 := ?_) (by rfl) rfl ?_ ?_
 rotate_left
 ·
  go_simp
  rfl
 refine hK.out _ _ ⟨((zo (p := ⟨gb135, _, none⟩) qi.1 _).trans (((zo (p := ⟨gb135, _, none⟩) qi.1 _).trans (hHeld.1)))), ((zo (p := ⟨gb135, _, none⟩) qi.1 _).trans (((zo (p := ⟨gb135, _, none⟩) qi.1 _).trans (hHeld.2.1)))), ((zo (p := ⟨gb135, _, none⟩) qg.1 _).trans (((zo (p := ⟨gb135, _, none⟩) qg.1 _).trans (hHeld.2.2.1)))), ((zo (p := ⟨gb135, _, none⟩) qg.1 _).trans (((zo (p := ⟨gb135, _, none⟩) qg.1 _).trans (hHeld.2.2.2))))⟩ (fun hHeld => ?_)
 clear hK K
 refine done_ (done_of HT_.1 (by kernel_rfl)) ?_
 try go_wp2
 refine bodyPost_ret (results_cc rfl _ _ gb134 gb135 26 26 #[.int .i64 a0_0, .int .i64 (wrap64 (a0_1 + 1))] #[.int .i64 (wrap64 (a0_0 + t137)), .int .i64 (wrap64 (a0_1 + 1))] (0, 0) (0, 0) _ _ rfl (by refine zn ?_ qD.1 _; refine zn ?_ qD.1 _; refine zq (cs := #[.int .i64 a0_0, .int .i64 0]) ?_ 1 _ rfl; refine zq (cs := #[.int .i64 0, .int .i64 0]) ?_ 0 _ rfl; exact zT.1) kh rfl (by kernel_rfl) rfl (by refine zq (cs := #[.int .i64 (wrap64 (a0_0 + t137)), .int .i64 0]) ?_ 1 _ rfl; refine zq (cs := #[.int .i64 0, .int .i64 0]) ?_ 0 _ rfl; refine zn ?_ qE.1 _; refine zn ?_ qE.1 _; exact zX.1) kh rfl (by kernel_rfl)) rfl ?_
 exact ⟨by rfl, by repeat ((with_reducible first | exact HB.1 | refine ze ?_ qZ.1 | refine ze ?_ yf.1))⟩

/-! ### spec_HalvesOf: function 22 -/
def spec_HalvesOf.f (a0_0 : Int) (a0_1 : Int) : Option (Int × Int × Int × Int × Bool) := (spec_GoodPrefix.f a0_0 a0_1).bind fun t141 => (if t141 = true then (if a0_1 = 32 then (some (0, 0, 0, 0, false)) else ((spec_l1Halves.f a0_0 a0_1).bind fun bt142 => (some (bt142.1, bt142.2.1, bt142.2.2.1, bt142.2.2.2, true)))) else (some (0, 0, 0, 0, false)))
theorem spec_HalvesOf.calls (a0_0 : Int) (a0_1 : Int) (r1 : Int) (r2 : Int) (r3 : Int) (r4 : Int) (r5 : Bool) (w : World) (h : spec_HalvesOf.f a0_0 a0_1 = some (r1, r2, r3, r4, r5)) :
  Calls Try.prog 22 #[.agg #[.int .i64 a0_0, .int .i64 a0_1]] w fun e w' => e = .returned (.tuple #[.agg #[.int .i64 r1, .int .i64 r2], .agg #[.int .i64 r3, .int .i64 r4], .bool r5]) ∧ Below w.heap.size w w' := by
 have hu26 := kh
 have HB := kz (Below.refl w.heap.size w)
 have H : ((spec_GoodPrefix.f a0_0 a0_1).bind fun t141 => (if t141 = true then (if a0_1 = 32 then (some (0, 0, 0, 0, false)) else ((spec_l1Halves.f a0_0 a0_1).bind fun bt142 => (some (bt142.1, bt142.2.1, bt142.2.2.1, bt142.2.2.2, true)))) else (some (0, 0, 0, 0, false)))) = some (r1, r2, r3, r4, r5) := h
 clear h
 replace H := kf.mp H
 obtain ⟨t141, A20, H⟩ := H
 replace H : (if t141 = true then (if a0_1 = 32 then (some (0, 0, 0, 0, false)) else ((spec_l1Halves.f a0_0 a0_1).bind fun bt142 => (some (bt142.1, bt142.2.1, bt142.2.2.1, bt142.2.2.2, true)))) else (some (0, 0, 0, 0, false))) = some (r1, r2, r3, r4, r5) := H
 have A2 := kz A20
 clear A20
 by_cases c3 : t141 = true
 ·
  subst c3
  have H1 : (if a0_1 = 32 then (some (0, 0, 0, 0, false)) else ((spec_l1Halves.f a0_0 a0_1).bind fun bt142 => (some (bt142.1, bt142.2.1, bt142.2.2.1, bt142.2.2.2, true)))) = some (r1, r2, r3, r4, r5) := by rw [if_pos rfl] at H; exact H
  clear H
  have H := H1
  clear H1
  by_cases c4 : a0_1 = 32
  ·
   rw [if_pos c4] at H
   have c4b0 : (a0_1 == 32) = true := beq_iff_eq.mpr c4
   have c4b1 : (a0_1 != 32) = false := bne_eq_false_iff_eq.mpr c4
   clear c4
   simp only [kb, Prod.mk.injEq] at H
   obtain ⟨rfl, rfl, rfl, rfl, rfl⟩ := H
   go_enter Try.func22, Try.ntmps22
   go_wp2_with (first | ((with_reducible refine zr (N := 1) rfl ?_); refine zp ?hg (N := 1) ?hd (cs := #[.int .i64 a0_0, .int .i64 a0_1]) (t := 26) ?hr ?_; (case hd => rfl); (case hg => rfl); (case hr => (go_simp; done)); intro gb138 hg w5 hbox hb; replace HB := kz (zl HB.1 hb); have zC := kz hbox; clear hb hbox hg) | ((with_reducible refine zr (N := 2) rfl ?_); refine zp ?hg (N := 2) ?hd (cs := #[.int .i64 0, .int .i64 0]) (t := 26) ?hr ?_; (case hd => rfl); (case hg => rfl); (case hr => (go_simp; done)); intro gb139 hg w6 hbox hb; have zE := kz hbox; have zU := kz ((by rw [hg]; exact (zk HB.1) : w.heap.size ≤ gb139)); replace HB := kz (zl HB.1 hb); have qj := kz ((by rw [hg]; exact ky (zm (g := gb138) (o := .cells #[.int .i64 a0_0, .int .i64 a0_1] 26 (0, 0)) zC.1) : gb138 ≠ gb139)); have qk := kz ((by rw [hg]; exact kj (zm (g := gb138) (o := .cells #[.int .i64 a0_0, .int .i64 a0_1] 26 (0, 0)) zC.1) : gb139 ≠ gb138)); replace zC := kz (zj (g := gb138) (o := .cells #[.int .i64 a0_0, .int .i64 a0_1] 26 (0, 0)) zC.1 hb); clear hb hbox hg) | ((with_reducible refine zr (N := 3) rfl ?_); refine zp ?hg (N := 3) ?hd (cs := #[.int .i64 0, .int .i64 0]) (t := 26) ?hr ?_; (case hd => rfl); (case hg => rfl); (case hr => (go_simp; done)); intro gb140 hg w7 hbox hb; have zI := kz hbox; have qB := kz ((by rw [hg]; exact (zk HB.1) : w.heap.size ≤ gb140)); replace HB := kz (zl HB.1 hb); have ql := kz ((by rw [hg]; exact ky (zm (g := gb138) (o := .cells #[.int .i64 a0_0, .int .i64 a0_1] 26 (0, 0)) zC.1) : gb138 ≠ gb140)); have qm := kz ((by rw [hg]; exact kj (zm (g := gb138) (o := .cells #[.int .i64 a0_0, .int .i64 a0_1] 26 (0, 0)) zC.1) : gb140 ≠ gb138)); replace zC := kz (zj (g := gb138) (o := .cells #[.int .i64 a0_0, .int .i64 a0_1] 26 (0, 0)) zC.1 hb); have zM := kz ((by rw [hg]; exact ky (zm (g := gb139) (o := .cells #[.int .i64 0, .int .i64 0] 26 (0, 0)) zE.1) : gb139 ≠ gb140)); have zN := kz ((by rw [hg]; exact kj (zm (g := gb139) (o := .cells #[.int .i64 0, .int .i64 0] 26 (0, 0)) zE.1) : gb140 ≠ gb139)); replace zE := kz (zj (g := gb139) (o := .cells #[.int .i64 0, .int .i64 0] 26 (0, 0)) zE.1 hb); clear hb hbox hg; have hnb8 := qj.1; have hnc8 := qk.1; have hnb9 := ql.1; have hnc9 := qm.1; have hcz10_0 : w7.cell? ⟨gb138, 0, none⟩ = some (.int .i64 a0_0) := (zi zC.1 0).trans rfl; have hcz10_1 : w7.cell? ⟨gb138, 1, none⟩ = some (.int .i64 a0_1) := (zi zC.1 1).trans rfl; have hfz10_0 := zh zC.1 0; have hfz10_1 := zh zC.1 1) | ((with_reducible refine zs (f := 12) rfl ?_); refine zw (some 8) rfl rfl kx (by kernel_rfl) rfl #[.agg #[.int .i64 a0_0, .int .i64 a0_1]] rfl (by (try simp only [kg, ke, kd]); rfl) ?_; (with_reducible refine (spec_GoodPrefix.calls a0_0 a0_1 true _ A2.1).mono ?_); rintro e w11 ⟨rfl, hb⟩; refine ⟨_, rfl, ?_⟩; replace zC := kz (zj (g := gb138) (o := .cells #[.int .i64 a0_0, .int .i64 a0_1] 26 (0, 0)) zC.1 hb); replace zE := kz (zj (g := gb139) (o := .cells #[.int .i64 0, .int .i64 0] 26 (0, 0)) zE.1 hb); replace zI := kz (zj (g := gb140) (o := .cells #[.int .i64 0, .int .i64 0] 26 (0, 0)) zI.1 hb); replace HB := kz (zl HB.1 hb); (try clear hb); (try clear hb2); (try clear hk); (try clear hi); have hcz12_0 : w11.cell? ⟨gb138, 0, none⟩ = some (.int .i64 a0_0) := (zi zC.1 0).trans rfl; have hcz12_1 : w11.cell? ⟨gb138, 1, none⟩ = some (.int .i64 a0_1) := (zi zC.1 1).trans rfl; have hfz12_0 := zh zC.1 0; have hfz12_1 := zh zC.1 1; have hnb13 := zM.1; have hnc13 := zN.1; have hcz14_0 : w11.cell? ⟨gb139, 0, none⟩ = some (.int .i64 0) := (zi zE.1 0).trans rfl; have hcz14_1 : w11.cell? ⟨gb139, 1, none⟩ = some (.int .i64 0) := (zi zE.1 1).trans rfl; have hfz14_0 := zh zE.1 0; have hfz14_1 := zh zE.1 1; have hcz15_0 : w11.cell? ⟨gb140, 0, none⟩ = some (.int .i64 0) := (zi zI.1 0).trans rfl; have hcz15_1 : w11.cell? ⟨gb140, 1, none⟩ = some (.int .i64 0) := (zi zI.1 1).trans rfl; have hfz15_0 := zh zI.1 0; have hfz15_1 := zh zI.1 1))
   refine bodyPost_ret (results_list (rs := [.cell 2 26, .cell 3 26, .tmp 4]) rfl (by simp) (.cell gb139 26 #[.int .i64 0, .int .i64 0] (0, 0) _ rfl (by refine zn ?_ zM.1 _; refine zn ?_ zM.1 _; refine zq (cs := #[.int .i64 0, .int .i64 0]) ?_ 1 _ rfl; refine zq (cs := #[.int .i64 0, .int .i64 0]) ?_ 0 _ rfl; exact zE.1) kh rfl (by kernel_rfl) (.cell gb140 26 #[.int .i64 0, .int .i64 0] (0, 0) _ rfl (by refine zq (cs := #[.int .i64 0, .int .i64 0]) ?_ 1 _ rfl; refine zq (cs := #[.int .i64 0, .int .i64 0]) ?_ 0 _ rfl; refine zn ?_ zN.1 _; refine zn ?_ zN.1 _; exact zI.1) kh rfl (by kernel_rfl) (.tmp .nil)))) rfl ?_
   exact ⟨by rfl, by repeat ((with_reducible first | exact HB.1 | refine ze ?_ zU.1 | refine ze ?_ qB.1))⟩
  ·
   rw [if_neg c4] at H
   have c4b0 : (a0_1 == 32) = false := beq_eq_false_iff_ne.mpr c4
   have c4b1 : (a0_1 != 32) = true := bne_iff_ne.mpr c4
   replace H := kf.mp H
   obtain ⟨⟨t142, t143, t144, t145⟩, A160, H⟩ := H
   replace H : (some (t142, t143, t144, t145, true)) = some (r1, r2, r3, r4, r5) := H
   have A16 := kz A160
   clear A160
   simp only [kb, Prod.mk.injEq] at H
   obtain ⟨rfl, rfl, rfl, rfl, rfl⟩ := H
   go_enter Try.func22, Try.ntmps22
   try go_wp2_with (first | ((with_reducible refine zr (N := 1) rfl ?_); refine zp ?hg (N := 1) ?hd (cs := #[.int .i64 a0_0, .int .i64 a0_1]) (t := 26) ?hr ?_; (case hd => rfl); (case hg => rfl); (case hr => (go_simp; done)); intro gb138 hg w17 hbox hb; replace HB := kz (zl HB.1 hb); have zC := kz hbox; clear hb hbox hg) | ((with_reducible refine zr (N := 2) rfl ?_); refine zp ?hg (N := 2) ?hd (cs := #[.int .i64 0, .int .i64 0]) (t := 26) ?hr ?_; (case hd => rfl); (case hg => rfl); (case hr => (go_simp; done)); intro gb139 hg w18 hbox hb; have zE := kz hbox; have zU := kz ((by rw [hg]; exact (zk HB.1) : w.heap.size ≤ gb139)); replace HB := kz (zl HB.1 hb); have qj := kz ((by rw [hg]; exact ky (zm (g := gb138) (o := .cells #[.int .i64 a0_0, .int .i64 a0_1] 26 (0, 0)) zC.1) : gb138 ≠ gb139)); have qk := kz ((by rw [hg]; exact kj (zm (g := gb138) (o := .cells #[.int .i64 a0_0, .int .i64 a0_1] 26 (0, 0)) zC.1) : gb139 ≠ gb138)); replace zC := kz (zj (g := gb138) (o := .cells #[.int .i64 a0_0, .int .i64 a0_1] 26 (0, 0)) zC.1 hb); clear hb hbox hg) | ((with_reducible refine zr (N := 3) rfl ?_); refine zp ?hg (N := 3) ?hd (cs := #[.int .i64 0, .int .i64 0]) (t := 26) ?hr ?_; (case hd => rfl); (case hg => rfl); (case hr => (go_simp; done)); intro gb140 hg w19 hbox hb; have zI := kz hbox; have qB := kz ((by rw [hg]; exact (zk HB.1) : w.heap.size ≤ gb140)); replace HB := kz (zl HB.1 hb); have ql := kz ((by rw [hg]; exact ky (zm (g := gb138) (o := .cells #[.int .i64 a0_0, .int .i64 a0_1] 26 (0, 0)) zC.1) : gb138 ≠ gb140)); have qm := kz ((by rw [hg]; exact kj (zm (g := gb138) (o := .cells #[.int .i64 a0_0, .int .i64 a0_1] 26 (0, 0)) zC.1) : gb140 ≠ gb138)); replace zC := kz (zj (g := gb138) (o := .cells #[.int .i64 a0_0, .int .i64 a0_1] 26 (0, 0)) zC.1 hb); have zM := kz ((by rw [hg]; exact ky (zm (g := gb139) (o := .cells #[.int .i64 0, .int .i64 0] 26 (0, 0)) zE.1) : gb139 ≠ gb140)); have zN := kz ((by rw [hg]; exact kj (zm (g := gb139) (o := .cells #[.int .i64 0, .int .i64 0] 26 (0, 0)) zE.1) : gb140 ≠ gb139)); replace zE := kz (zj (g := gb139) (o := .cells #[.int .i64 0, .int .i64 0] 26 (0, 0)) zE.1 hb); clear hb hbox hg; have hnb20 := qj.1; have hnc20 := qk.1; have hnb21 := ql.1; have hnc21 := qm.1; have hcz22_0 : w19.cell? ⟨gb138, 0, none⟩ = some (.int .i64 a0_0) := (zi zC.1 0).trans rfl; have hcz22_1 : w19.cell? ⟨gb138, 1, none⟩ = some (.int .i64 a0_1) := (zi zC.1 1).trans rfl; have hfz22_0 := zh zC.1 0; have hfz22_1 := zh zC.1 1) | ((with_reducible refine zs (f := 12) rfl ?_); refine zw (some 8) rfl rfl kx (by kernel_rfl) rfl #[.agg #[.int .i64 a0_0, .int .i64 a0_1]] rfl (by (try simp only [kg, ke, kd]); rfl) ?_; (with_reducible refine (spec_GoodPrefix.calls a0_0 a0_1 true _ A2.1).mono ?_); rintro e w23 ⟨rfl, hb⟩; refine ⟨_, rfl, ?_⟩; replace zC := kz (zj (g := gb138) (o := .cells #[.int .i64 a0_0, .int .i64 a0_1] 26 (0, 0)) zC.1 hb); replace zE := kz (zj (g := gb139) (o := .cells #[.int .i64 0, .int .i64 0] 26 (0, 0)) zE.1 hb); replace zI := kz (zj (g := gb140) (o := .cells #[.int .i64 0, .int .i64 0] 26 (0, 0)) zI.1 hb); replace HB := kz (zl HB.1 hb); (try clear hb); (try clear hb2); (try clear hk); (try clear hi); have hcz24_0 : w23.cell? ⟨gb138, 0, none⟩ = some (.int .i64 a0_0) := (zi zC.1 0).trans rfl; have hcz24_1 : w23.cell? ⟨gb138, 1, none⟩ = some (.int .i64 a0_1) := (zi zC.1 1).trans rfl; have hfz24_0 := zh zC.1 0; have hfz24_1 := zh zC.1 1) | ((with_reducible refine zs (f := 42) rfl ?_); refine zw (some 19) rfl rfl Try.func42 (by kernel_rfl) rfl #[.agg #[.int .i64 a0_0, .int .i64 a0_1]] rfl (by (try simp only [kg, ke, kd]); rfl) ?_; (with_reducible refine (spec_l1Halves.calls a0_0 a0_1 t142 t143 t144 t145 _ A16.1).mono ?_); rintro e w25 ⟨rfl, hb⟩; refine ⟨_, rfl, ?_⟩; replace zC := kz (zj (g := gb138) (o := .cells #[.int .i64 a0_0, .int .i64 a0_1] 26 (0, 0)) zC.1 hb); replace zE := kz (zj (g := gb139) (o := .cells #[.int .i64 0, .int .i64 0] 26 (0, 0)) zE.1 hb); replace zI := kz (zj (g := gb140) (o := .cells #[.int .i64 0, .int .i64 0] 26 (0, 0)) zI.1 hb); replace HB := kz (zl HB.1 hb); (try clear hb); (try clear hb2); (try clear hk); (try clear hi)) | ((with_reducible refine zr (N := 5) rfl ?_); refine zp ?hg (N := 5) ?hd (cs := #[.int .i64 0, .int .i64 0]) (t := 26) ?hr ?_; (case hd => rfl); (case hg => rfl); (case hr => (go_simp; done)); intro gb146 hg w26 hbox hb; have qb := kz hbox; have yg := kz ((by rw [hg]; exact (zk HB.1) : w.heap.size ≤ gb146)); replace HB := kz (zl HB.1 hb); have NB138_146 := kz ((by rw [hg]; exact ky (zm (g := gb138) (o := .cells #[.int .i64 a0_0, .int .i64 a0_1] 26 (0, 0)) zC.1) : gb138 ≠ gb146)); have NB146_138 := kz ((by rw [hg]; exact kj (zm (g := gb138) (o := .cells #[.int .i64 a0_0, .int .i64 a0_1] 26 (0, 0)) zC.1) : gb146 ≠ gb138)); replace zC := kz (zj (g := gb138) (o := .cells #[.int .i64 a0_0, .int .i64 a0_1] 26 (0, 0)) zC.1 hb); have qM := kz ((by rw [hg]; exact ky (zm (g := gb139) (o := .cells #[.int .i64 0, .int .i64 0] 26 (0, 0)) zE.1) : gb139 ≠ gb146)); have qn := kz ((by rw [hg]; exact kj (zm (g := gb139) (o := .cells #[.int .i64 0, .int .i64 0] 26 (0, 0)) zE.1) : gb146 ≠ gb139)); replace zE := kz (zj (g := gb139) (o := .cells #[.int .i64 0, .int .i64 0] 26 (0, 0)) zE.1 hb); have qN := kz ((by rw [hg]; exact ky (zm (g := gb140) (o := .cells #[.int .i64 0, .int .i64 0] 26 (0, 0)) zI.1) : gb140 ≠ gb146)); have qo := kz ((by rw [hg]; exact kj (zm (g := gb140) (o := .cells #[.int .i64 0, .int .i64 0] 26 (0, 0)) zI.1) : gb146 ≠ gb140)); replace zI := kz (zj (g := gb140) (o := .cells #[.int .i64 0, .int .i64 0] 26 (0, 0)) zI.1 hb); clear hb hbox hg) | ((with_reducible refine zr (N := 6) rfl ?_); refine zp ?hg (N := 6) ?hd (cs := #[.int .i64 0, .int .i64 0]) (t := 26) ?hr ?_; (case hd => rfl); (case hg => rfl); (case hr => (go_simp; done)); intro gb147 hg w27 hbox hb; have qO := kz hbox; have GE147 := kz ((by rw [hg]; exact (zk HB.1) : w.heap.size ≤ gb147)); replace HB := kz (zl HB.1 hb); have NB138_147 := kz ((by rw [hg]; exact ky (zm (g := gb138) (o := .cells #[.int .i64 a0_0, .int .i64 a0_1] 26 (0, 0)) zC.1) : gb138 ≠ gb147)); have NB147_138 := kz ((by rw [hg]; exact kj (zm (g := gb138) (o := .cells #[.int .i64 a0_0, .int .i64 a0_1] 26 (0, 0)) zC.1) : gb147 ≠ gb138)); replace zC := kz (zj (g := gb138) (o := .cells #[.int .i64 a0_0, .int .i64 a0_1] 26 (0, 0)) zC.1 hb); have qP := kz ((by rw [hg]; exact ky (zm (g := gb139) (o := .cells #[.int .i64 0, .int .i64 0] 26 (0, 0)) zE.1) : gb139 ≠ gb147)); have qp := kz ((by rw [hg]; exact kj (zm (g := gb139) (o := .cells #[.int .i64 0, .int .i64 0] 26 (0, 0)) zE.1) : gb147 ≠ gb139)); replace zE := kz (zj (g := gb139) (o := .cells #[.int .i64 0, .int .i64 0] 26 (0, 0)) zE.1 hb); have qQ := kz ((by rw [hg]; exact ky (zm (g := gb140) (o := .cells #[.int .i64 0, .int .i64 0] 26 (0, 0)) zI.1) : gb140 ≠ gb147)); have qq := kz ((by rw [hg]; exact kj (zm (g := gb140) (o := .cells #[.int .i64 0, .int .i64 0] 26 (0, 0)) zI.1) : gb147 ≠ gb140)); replace zI := kz (zj (g := gb140) (o := .cells #[.int .i64 0, .int .i64 0] 26 (0, 0)) zI.1 hb); have NB146_147 := kz ((by rw [hg]; exact ky (zm (g := gb146) (o := .cells #[.int .i64 0, .int .i64 0] 26 (0, 0)) qb.1) : gb146 ≠ gb147)); have NB147_146 := kz ((by rw [hg]; exact kj (zm (g := gb146) (o := .cells #[.int .i64 0, .int .i64 0] 26 (0, 0)) qb.1) : gb147 ≠ gb146)); replace qb := kz (zj (g := gb146) (o := .cells #[.int .i64 0, .int .i64 0] 26 (0, 0)) qb.1 hb); clear hb hbox hg; have hnb28 := NB146_138.1; have hnc28 := NB138_146.1; have hnb29 := qn.1; have hnc29 := qM.1; have hnb30 := qo.1; have hnc30 := qN.1; have hnb31 := NB146_147.1; have hnc31 := NB147_146.1; have hcz32_0 : w27.cell? ⟨gb146, 0, none⟩ = some (.int .i64 0) := (zi qb.1 0).trans rfl; have hcz32_1 : w27.cell? ⟨gb146, 1, none⟩ = some (.int .i64 0) := (zi qb.1 1).trans rfl; have hfz32_0 := zh qb.1 0; have hfz32_1 := zh qb.1 1; have hnb33 := NB147_138.1; have hnc33 := NB138_147.1; have hnb34 := qp.1; have hnc34 := qP.1; have hnb35 := qq.1; have hnc35 := qQ.1; have hcz36_0 : w27.cell? ⟨gb147, 0, none⟩ = some (.int .i64 0) := (zi qO.1 0).trans rfl; have hcz36_1 : w27.cell? ⟨gb147, 1, none⟩ = some (.int .i64 0) := (zi qO.1 1).trans rfl; have hfz36_0 := zh qO.1 0; have hfz36_1 := zh qO.1 1))
   have n0_ : zv (((((w27.setCell ⟨gb146, 0, none⟩ (.int .i64 t142)).setCell ⟨gb146, 1, none⟩ (.int .i64 t143)).setCell ⟨gb147, 0, none⟩ (.int .i64 t144)).setCell ⟨gb147, 1, none⟩ (.int .i64 t145)).heap[gb138]? = some (.cells #[.int .i64 a0_0, .int .i64 a0_1] 26 (0, 0))) := ⟨by refine zn ?_ NB138_147.1 _; refine zn ?_ NB138_147.1 _; refine zn ?_ NB138_146.1 _; refine zn ?_ NB138_146.1 _; exact zC.1⟩
   have n1_ : zv (((((w27.setCell ⟨gb146, 0, none⟩ (.int .i64 t142)).setCell ⟨gb146, 1, none⟩ (.int .i64 t143)).setCell ⟨gb147, 0, none⟩ (.int .i64 t144)).setCell ⟨gb147, 1, none⟩ (.int .i64 t145)).heap[gb139]? = some (.cells #[.int .i64 0, .int .i64 0] 26 (0, 0))) := ⟨by refine zn ?_ qP.1 _; refine zn ?_ qP.1 _; refine zn ?_ qM.1 _; refine zn ?_ qM.1 _; exact zE.1⟩
   have n2_ : zv (((((w27.setCell ⟨gb146, 0, none⟩ (.int .i64 t142)).setCell ⟨gb146, 1, none⟩ (.int .i64 t143)).setCell ⟨gb147, 0, none⟩ (.int .i64 t144)).setCell ⟨gb147, 1, none⟩ (.int .i64 t145)).heap[gb140]? = some (.cells #[.int .i64 0, .int .i64 0] 26 (0, 0))) := ⟨by refine zn ?_ qQ.1 _; refine zn ?_ qQ.1 _; refine zn ?_ qN.1 _; refine zn ?_ qN.1 _; exact zI.1⟩
   have n3_ : zv (((((w27.setCell ⟨gb146, 0, none⟩ (.int .i64 t142)).setCell ⟨gb146, 1, none⟩ (.int .i64 t143)).setCell ⟨gb147, 0, none⟩ (.int .i64 t144)).setCell ⟨gb147, 1, none⟩ (.int .i64 t145)).heap[gb146]? = some (.cells #[.int .i64 t142, .int .i64 t143] 26 (0, 0))) := ⟨by refine zn ?_ NB146_147.1 _; refine zn ?_ NB146_147.1 _; refine zq (cs := #[.int .i64 t142, .int .i64 0]) ?_ 1 _ rfl; refine zq (cs := #[.int .i64 0, .int .i64 0]) ?_ 0 _ rfl; exact qb.1⟩
   have n4_ : zv (((((w27.setCell ⟨gb146, 0, none⟩ (.int .i64 t142)).setCell ⟨gb146, 1, none⟩ (.int .i64 t143)).setCell ⟨gb147, 0, none⟩ (.int .i64 t144)).setCell ⟨gb147, 1, none⟩ (.int .i64 t145)).heap[gb147]? = some (.cells #[.int .i64 t144, .int .i64 t145] 26 (0, 0))) := ⟨by refine zq (cs := #[.int .i64 t144, .int .i64 0]) ?_ 1 _ rfl; refine zq (cs := #[.int .i64 0, .int .i64 0]) ?_ 0 _ rfl; refine zn ?_ NB147_146.1 _; refine zn ?_ NB147_146.1 _; exact qO.1⟩
   have n5_ : zv (Below w.heap.size w ((((w27.setCell ⟨gb146, 0, none⟩ (.int .i64 t142)).setCell ⟨gb146, 1, none⟩ (.int .i64 t143)).setCell ⟨gb147, 0, none⟩ (.int .i64 t144)).setCell ⟨gb147, 1, none⟩ (.int .i64 t145))) := ⟨by repeat ((with_reducible first | exact HB.1 | refine ze ?_ yg.1 | refine ze ?_ GE147.1))⟩
   (try clear zC)
   (try clear zE)
   (try clear zI)
   (try clear qb)
   (try clear qO)
   (try clear HB)
   generalize ((((w27.setCell ⟨gb146, 0, none⟩ (.int .i64 t142)).setCell ⟨gb146, 1, none⟩ (.int .i64 t143)).setCell ⟨gb147, 0, none⟩ (.int .i64 t144)).setCell ⟨gb147, 1, none⟩ (.int .i64 t145)) = w37 at n0_ n1_ n2_ n3_ n4_ n5_ ⊢
   have zC := n0_
   have zE := n1_
   have zI := n2_
   have qb := n3_
   have qO := n4_
   have HB := n5_
   clear n0_ n1_ n2_ n3_ n4_ n5_
   replace zC := kz (zc zC.1)
   replace zE := kz (zc zE.1)
   replace zI := kz (zc zI.1)
   replace qb := kz (zc qb.1)
   replace qO := kz (zc qO.1)
   replace HB := kz (zf HB.1)
   refine start_ (n := 5) (S := fun w' => w'.cell? ⟨gb146, 0, none⟩ = some (.int .i64 t142) ∧ w'.cell? ⟨gb146, 1, none⟩ = some (.int .i64 t143) ∧ w'.cell? ⟨gb147, 0, none⟩ = some (.int .i64 t144) ∧ w'.cell? ⟨gb147, 1, none⟩ = some (.int .i64 t145)) (ds := []) #[ku,ku,ku,ku,ku] (by kernel_rfl) rfl rfl ⟨(zi qb.1 0).trans rfl, (zi qb.1 1).trans rfl, (zi qO.1 0).trans rfl, (zi qO.1 1).trans rfl⟩ (fun hHeld => ?_)
   generalize w37.drew = w38 at zC zE zI qb qO HB hHeld ⊢
   refine zA (i := 0) (N := some 22) (v := ?_) (a' := ?_) #[km,ku,ku,ku,ku] rfl rfl (by kernel_rfl) (fun _ _ _ h => h) (ko ⟨by rfl, ?_⟩) hHeld ?_ ?_
   rotate_left
   ·
    rintro w' ⟨s0, s1, s2, s3⟩
    go_simp
    with_reducible rfl
   rotate_left
   ·
    simp only [kc, kq, kk, kv, zt, zu]
    rfl
   refine zA (i := 1) (N := some 23) (v := ?_) (a' := ?_) #[km,km,ku,ku,ku] rfl rfl (by kernel_rfl) (fun _ _ _ h => h) (ko ⟨by rfl, ?_⟩) hHeld ?_ ?_
   rotate_left
   ·
    rintro w' ⟨s0, s1, s2, s3⟩
    go_simp
    with_reducible rfl
   rotate_left
   ·
    simp only [kc, kq, kk, kv, zt, zu]
    rfl
   refine one_ (i := 2) (N := none) #[km,km,km,ku,ku] rfl rfl (by kernel_rfl) (by decide) (fun K hK => ?_)
   have hs39 : w38.cell? ⟨gb139, 0, none⟩ = some (.int .i64 0) := (zi zE.1 0).trans rfl
   have hfs39 := zh zE.1 0
   have hns39_0 := qj.1
   have hns39_2 := zN.1
   have hns39_3 := qn.1
   have hns39_4 := qp.1
   have hms39_0 := qk.1
   have hms39_2 := zM.1
   have hms39_3 := qM.1
   have hms39_4 := qP.1
   have hs40 : w38.cell? ⟨gb139, 1, none⟩ = some (.int .i64 0) := (zi zE.1 1).trans rfl
   have hfs40 := zh zE.1 1
   have hns40_0 := qj.1
   have hns40_2 := zN.1
   have hns40_3 := qn.1
   have hns40_4 := qp.1
   have hms40_0 := qk.1
   have hms40_2 := zM.1
   have hms40_3 := qM.1
   have hms40_4 := qP.1
   refine zB (w1 := ?_) (by rfl) rfl ?_ ?_
   rotate_left
   ·
    go_simp
    rfl
   refine hK.out _ _ ⟨((zo (p := ⟨gb139, _, none⟩) qn.1 _).trans (((zo (p := ⟨gb139, _, none⟩) qn.1 _).trans (hHeld.1)))), ((zo (p := ⟨gb139, _, none⟩) qn.1 _).trans (((zo (p := ⟨gb139, _, none⟩) qn.1 _).trans (hHeld.2.1)))), ((zo (p := ⟨gb139, _, none⟩) qp.1 _).trans (((zo (p := ⟨gb139, _, none⟩) qp.1 _).trans (hHeld.2.2.1)))), ((zo (p := ⟨gb139, _, none⟩) qp.1 _).trans (((zo (p := ⟨gb139, _, none⟩) qp.1 _).trans (hHeld.2.2.2))))⟩ (fun hHeld => ?_)
   clear hK K
   refine one_ (i := 3) (N := none) #[km,km,km,km,ku] rfl rfl (by kernel_rfl) (by decide) (fun K hK => ?_)
   have hs41 : w38.cell? ⟨gb140, 0, none⟩ = some (.int .i64 0) := (zi zI.1 0).trans rfl
   have hfs41 := zh zI.1 0
   have hns41_0 := ql.1
   have hns41_1 := zM.1
   have hns41_3 := qo.1
   have hns41_4 := qq.1
   have hms41_0 := qm.1
   have hms41_1 := zN.1
   have hms41_3 := qN.1
   have hms41_4 := qQ.1
   have hs42 : w38.cell? ⟨gb140, 1, none⟩ = some (.int .i64 0) := (zi zI.1 1).trans rfl
   have hfs42 := zh zI.1 1
   have hns42_0 := ql.1
   have hns42_1 := zM.1
   have hns42_3 := qo.1
   have hns42_4 := qq.1
   have hms42_0 := qm.1
   have hms42_1 := zN.1
   have hms42_3 := qN.1
   have hms42_4 := qQ.1
   refine zB (w1 := ?_) (by rfl) rfl ?_ ?_
   rotate_left
   ·
    go_simp
    rfl
   refine hK.out _ _ ⟨((zo (p := ⟨gb140, _, none⟩) qo.1 _).trans (((zo (p := ⟨gb140, _, none⟩) qo.1 _).trans (hHeld.1)))), ((zo (p := ⟨gb140, _, none⟩) qo.1 _).trans (((zo (p := ⟨gb140, _, none⟩) qo.1 _).trans (hHeld.2.1)))), ((zo (p := ⟨gb140, _, none⟩) qq.1 _).trans (((zo (p := ⟨gb140, _, none⟩) qq.1 _).trans (hHeld.2.2.1)))), ((zo (p := ⟨gb140, _, none⟩) qq.1 _).trans (((zo (p := ⟨gb140, _, none⟩) qq.1 _).trans (hHeld.2.2.2))))⟩ (fun hHeld => ?_)
   clear hK K
   refine zz (i := 4) (N := some 4) (v := ?_) (a' := ?_) #[km,km,km,km,km] rfl rfl (by kernel_rfl) (fun _ _ _ h => h) (ko ⟨by rfl, ?_⟩) ?_ ?_
   rotate_left
   ·
    intro w'
    go_simp
    with_reducible rfl
   rotate_left
   ·
    simp only [kc, kq, kk, kv, zt, zu]
    rfl
   refine done_ (by kernel_rfl) ?_
   try go_wp2
   refine bodyPost_ret (results_list (rs := [.cell 2 26, .cell 3 26, .tmp 4]) rfl (by simp) (.cell gb139 26 #[.int .i64 t142, .int .i64 t143] (0, 0) _ rfl (by refine zn ?_ zM.1 _; refine zn ?_ zM.1 _; refine zq (cs := #[.int .i64 t142, .int .i64 0]) ?_ 1 _ rfl; refine zq (cs := #[.int .i64 0, .int .i64 0]) ?_ 0 _ rfl; exact zE.1) kh rfl (by kernel_rfl) (.cell gb140 26 #[.int .i64 t144, .int .i64 t145] (0, 0) _ rfl (by refine zq (cs := #[.int .i64 t144, .int .i64 0]) ?_ 1 _ rfl; refine zq (cs := #[.int .i64 0, .int .i64 0]) ?_ 0 _ rfl; refine zn ?_ zN.1 _; refine zn ?_ zN.1 _; exact zI.1) kh rfl (by kernel_rfl) (.tmp .nil)))) rfl ?_
   exact ⟨by rfl, by repeat ((with_reducible first | exact HB.1 | refine ze ?_ zU.1 | refine ze ?_ qB.1))⟩
 ·
  replace c3 := Bool.eq_false_iff.mpr c3
  subst c3
  have H1 : (some (0, 0, 0, 0, false)) = some (r1, r2, r3, r4, r5) := by rw [if_neg (show ¬ (false = true) by decide)] at H; exact H
  clear H
  have H := H1
  clear H1
  simp only [kb, Prod.mk.injEq] at H
  obtain ⟨rfl, rfl, rfl, rfl, rfl⟩ := H
  go_enter Try.func22, Try.ntmps22
  go_wp2_with (first | ((with_reducible refine zr (N := 1) rfl ?_); refine zp ?hg (N := 1) ?hd (cs := #[.int .i64 a0_0, .int .i64 a0_1]) (t := 26) ?hr ?_; (case hd => rfl); (case hg => rfl); (case hr => (go_simp; done)); intro gb138 hg w43 hbox hb; replace HB := kz (zl HB.1 hb); have zC := kz hbox; clear hb hbox hg) | ((with_reducible refine zr (N := 2) rfl ?_); refine zp ?hg (N := 2) ?hd (cs := #[.int .i64 0, .int .i64 0]) (t := 26) ?hr ?_; (case hd => rfl); (case hg => rfl); (case hr => (go_simp; done)); intro gb139 hg w44 hbox hb; have zE := kz hbox; have zU := kz ((by rw [hg]; exact (zk HB.1) : w.heap.size ≤ gb139)); replace HB := kz (zl HB.1 hb); have qj := kz ((by rw [hg]; exact ky (zm (g := gb138) (o := .cells #[.int .i64 a0_0, .int .i64 a0_1] 26 (0, 0)) zC.1) : gb138 ≠ gb139)); have qk := kz ((by rw [hg]; exact kj (zm (g := gb138) (o := .cells #[.int .i64 a0_0, .int .i64 a0_1] 26 (0, 0)) zC.1) : gb139 ≠ gb138)); replace zC := kz (zj (g := gb138) (o := .cells #[.int .i64 a0_0, .int .i64 a0_1] 26 (0, 0)) zC.1 hb); clear hb hbox hg) | ((with_reducible refine zr (N := 3) rfl ?_); refine zp ?hg (N := 3) ?hd (cs := #[.int .i64 0, .int .i64 0]) (t := 26) ?hr ?_; (case hd => rfl); (case hg => rfl); (case hr => (go_simp; done)); intro gb140 hg w45 hbox hb; have zI := kz hbox; have qB := kz ((by rw [hg]; exact (zk HB.1) : w.heap.size ≤ gb140)); replace HB := kz (zl HB.1 hb); have ql := kz ((by rw [hg]; exact ky (zm (g := gb138) (o := .cells #[.int .i64 a0_0, .int .i64 a0_1] 26 (0, 0)) zC.1) : gb138 ≠ gb140)); have qm := kz ((by rw [hg]; exact kj (zm (g := gb138) (o := .cells #[.int .i64 a0_0, .int .i64 a0_1] 26 (0, 0)) zC.1) : gb140 ≠ gb138)); replace zC := kz (zj (g := gb138) (o := .cells #[.int .i64 a0_0, .int .i64 a0_1] 26 (0, 0)) zC.1 hb); have zM := kz ((by rw [hg]; exact ky (zm (g := gb139) (o := .cells #[.int .i64 0, .int .i64 0] 26 (0, 0)) zE.1) : gb139 ≠ gb140)); have zN := kz ((by rw [hg]; exact kj (zm (g := gb139) (o := .cells #[.int .i64 0, .int .i64 0] 26 (0, 0)) zE.1) : gb140 ≠ gb139)); replace zE := kz (zj (g := gb139) (o := .cells #[.int .i64 0, .int .i64 0] 26 (0, 0)) zE.1 hb); clear hb hbox hg; have hnb46 := qj.1; have hnc46 := qk.1; have hnb47 := ql.1; have hnc47 := qm.1; have hcz48_0 : w45.cell? ⟨gb138, 0, none⟩ = some (.int .i64 a0_0) := (zi zC.1 0).trans rfl; have hcz48_1 : w45.cell? ⟨gb138, 1, none⟩ = some (.int .i64 a0_1) := (zi zC.1 1).trans rfl; have hfz48_0 := zh zC.1 0; have hfz48_1 := zh zC.1 1) | ((with_reducible refine zs (f := 12) rfl ?_); refine zw (some 8) rfl rfl kx (by kernel_rfl) rfl #[.agg #[.int .i64 a0_0, .int .i64 a0_1]] rfl (by (try simp only [kg, ke, kd]); rfl) ?_; (with_reducible refine (spec_GoodPrefix.calls a0_0 a0_1 false _ A2.1).mono ?_); rintro e w49 ⟨rfl, hb⟩; refine ⟨_, rfl, ?_⟩; replace zE := kz (zj (g := gb139) (o := .cells #[.int .i64 0, .int .i64 0] 26 (0, 0)) zE.1 hb); replace zI := kz (zj (g := gb140) (o := .cells #[.int .i64 0, .int .i64 0] 26 (0, 0)) zI.1 hb); replace HB := kz (zl HB.1 hb); (try clear hb); (try clear hb2); (try clear hk); (try clear hi); have hnb50 := zM.1; have hnc50 := zN.1; have hcz51_0 : w49.cell? ⟨gb139, 0, none⟩ = some (.int .i64 0) := (zi zE.1 0).trans rfl; have hcz51_1 : w49.cell? ⟨gb139, 1, none⟩ = some (.int .i64 0) := (zi zE.1 1).trans rfl; have hfz51_0 := zh zE.1 0; have hfz51_1 := zh zE.1 1; have hcz52_0 : w49.cell? ⟨gb140, 0, none⟩ = some (.int .i64 0) := (zi zI.1 0).trans rfl; have hcz52_1 : w49.cell? ⟨gb140, 1, none⟩ = some (.int .i64 0) := (zi zI.1 1).trans rfl; have hfz52_0 := zh zI.1 0; have hfz52_1 := zh zI.1 1))
  refine bodyPost_ret (results_list (rs := [.cell 2 26, .cell 3 26, .tmp 4]) rfl (by simp) (.cell gb139 26 #[.int .i64 0, .int .i64 0] (0, 0) _ rfl (by refine zn ?_ zM.1 _; refine zn ?_ zM.1 _; refine zq (cs := #[.int .i64 0, .int .i64 0]) ?_ 1 _ rfl; refine zq (cs := #[.int .i64 0, .int .i64 0]) ?_ 0 _ rfl; exact zE.1) kh rfl (by kernel_rfl) (.cell gb140 26 #[.int .i64 0, .int .i64 0] (0, 0) _ rfl (by refine zq (cs := #[.int .i64 0, .int .i64 0]) ?_ 1 _ rfl; refine zq (cs := #[.int .i64 0, .int .i64 0]) ?_ 0 _ rfl; refine zn ?_ zN.1 _; refine zn ?_ zN.1 _; exact zI.1) kh rfl (by kernel_rfl) (.tmp .nil)))) rfl ?_
  exact ⟨by rfl, by repeat ((with_reducible first | exact HB.1 | refine ze ?_ zU.1 | refine ze ?_ qB.1))⟩

/-! ### impl_Prefix_halves: function 43 -/
def impl_Prefix_halves.f (a0_0 : Int) (a0_1 : Int) : Option (Int × Int × Int × Int) := (impl_sizeOf.f (wrap64 (a0_1 + 1))).bind fun t151 => (some (a0_0, wrap64 (a0_1 + 1), wrap64 (a0_0 + t151), wrap64 (a0_1 + 1)))
def impl_Prefix_halves.T1 : Bool × List (List Nat × List Nat) := (true, [([], []), ([0], [0]), ([], []), ([2], [2]), ([3], [3]), ([1, 4], [1, 4]), ([], []), ([6], [6]), ([], []), ([8], [8]), ([9], [9]), ([10], [10]), ([7, 11], [7, 11]), ([], []), ([13], [13]), ([14], [14]), ([12, 15], [12, 15]), ([5, 11, 0, 1, 2, 3, 4, 5], [5]), ([16, 17, 0, 1, 2, 3, 4, 5, 6, 7, 8, 9, 10, 11, 12, 13, 14, 15, 16, 17], [16])])
def impl_Prefix_halves.B1 : List Nat := [0, 1, 0, 4, 12, 31, 0, 64, 0, 256, 768, 1792, 4032, 0, 8192, 24576, 65472, 3903, 262143]
theorem impl_Prefix_halves.tab1 : rtab .any (opsOf Try.f43 1) = impl_Prefix_halves.T1 := by kernel_rfl
theorem impl_Prefix_halves.bits1 : waitsOk impl_Prefix_halves.T1.2 impl_Prefix_halves.B1 = true := by kernel_rfl
theorem impl_Prefix_halves.calls (a0_0 : Int) (a0_1 : Int) (r1 : Int) (r2 : Int) (r3 : Int) (r4 : Int) (w : World) (h : impl_Prefix_halves.f a0_0 a0_1 = some (r1, r2, r3, r4)) :
  Calls Try.prog 43 #[.agg #[.int .i64 a0_0, .int .i64 a0_1]] w fun e w' => e = .returned (.tuple #[.agg #[.int .i64 r1, .int .i64 r2], .agg #[.int .i64 r3, .int .i64 r4]]) ∧ Below w.heap.size w w' := by
 have hu26 := kh
 have HB := kz (Below.refl w.heap.size w)
 have H : ((impl_sizeOf.f (wrap64 (a0_1 + 1))).bind fun t151 => (some (a0_0, wrap64 (a0_1 + 1), wrap64 (a0_0 + t151), wrap64 (a0_1 + 1)))) = some (r1, r2, r3, r4) := h
 clear h
 replace H := kf.mp H
 obtain ⟨t151, A20, H⟩ := H
 replace H : (some (a0_0, wrap64 (a0_1 + 1), wrap64 (a0_0 + t151), wrap64 (a0_1 + 1))) = some (r1, r2, r3, r4) := H
 have A2 := kz A20
 clear A20
 simp only [kb, Prod.mk.injEq] at H
 obtain ⟨rfl, rfl, rfl, rfl⟩ := H
 go_enter Try.func43, Try.ntmps43
 try go_wp2_with (first | ((with_reducible refine zr (N := 1) rfl ?_); refine zp ?hg (N := 1) ?hd (cs := #[.int .i64 a0_0, .int .i64 a0_1]) (t := 26) ?hr ?_; (case hd => rfl); (case hg => rfl); (case hr => (go_simp; done)); intro gb148 hg w3 hbox hb; replace HB := kz (zl HB.1 hb); have qc := kz hbox; clear hb hbox hg) | ((with_reducible refine zr (N := 2) rfl ?_); refine zp ?hg (N := 2) ?hd (cs := #[.int .i64 0, .int .i64 0]) (t := 26) ?hr ?_; (case hd => rfl); (case hg => rfl); (case hr => (go_simp; done)); intro gb149 hg w4 hbox hb; have qJ := kz hbox; have GE149 := kz ((by rw [hg]; exact (zk HB.1) : w.heap.size ≤ gb149)); replace HB := kz (zl HB.1 hb); have qF := kz ((by rw [hg]; exact ky (zm (g := gb148) (o := .cells #[.int .i64 a0_0, .int .i64 a0_1] 26 (0, 0)) qc.1) : gb148 ≠ gb149)); have NB149_148 := kz ((by rw [hg]; exact kj (zm (g := gb148) (o := .cells #[.int .i64 a0_0, .int .i64 a0_1] 26 (0, 0)) qc.1) : gb149 ≠ gb148)); replace qc := kz (zj (g := gb148) (o := .cells #[.int .i64 a0_0, .int .i64 a0_1] 26 (0, 0)) qc.1 hb); clear hb hbox hg) | ((with_reducible refine zr (N := 3) rfl ?_); refine zp ?hg (N := 3) ?hd (cs := #[.int .i64 0, .int .i64 0]) (t := 26) ?hr ?_; (case hd => rfl); (case hg => rfl); (case hr => (go_simp; done)); intro gb150 hg w5 hbox hb; have ya := kz hbox; have GE150 := kz ((by rw [hg]; exact (zk HB.1) : w.heap.size ≤ gb150)); replace HB := kz (zl HB.1 hb); have qG := kz ((by rw [hg]; exact ky (zm (g := gb148) (o := .cells #[.int .i64 a0_0, .int .i64 a0_1] 26 (0, 0)) qc.1) : gb148 ≠ gb150)); have NB150_148 := kz ((by rw [hg]; exact kj (zm (g := gb148) (o := .cells #[.int .i64 a0_0, .int .i64 a0_1] 26 (0, 0)) qc.1) : gb150 ≠ gb148)); replace qc := kz (zj (g := gb148) (o := .cells #[.int .i64 a0_0, .int .i64 a0_1] 26 (0, 0)) qc.1 hb); have qH := kz ((by rw [hg]; exact ky (zm (g := gb149) (o := .cells #[.int .i64 0, .int .i64 0] 26 (0, 0)) qJ.1) : gb149 ≠ gb150)); have qI := kz ((by rw [hg]; exact kj (zm (g := gb149) (o := .cells #[.int .i64 0, .int .i64 0] 26 (0, 0)) qJ.1) : gb150 ≠ gb149)); replace qJ := kz (zj (g := gb149) (o := .cells #[.int .i64 0, .int .i64 0] 26 (0, 0)) qJ.1 hb); clear hb hbox hg))
 replace qc := kz (zc qc.1)
 replace qJ := kz (zc qJ.1)
 replace ya := kz (zc ya.1)
 replace HB := kz (zf HB.1)
 refine start_ (n := 19) (S := fun w' => w'.cell? ⟨gb148, 0, none⟩ = some (.int .i64 a0_0) ∧ w'.cell? ⟨gb148, 1, none⟩ = some (.int .i64 a0_1)) (ds := []) #[ku,ku,ku,ku,ku,ku,ku,ku,ku,ku,ku,ku,ku,ku,ku,ku,ku,ku,ku] (by kernel_rfl) rfl rfl ⟨(zi qc.1 0).trans rfl, (zi qc.1 1).trans rfl⟩ (fun hHeld => ?_); refine with_tabW impl_Prefix_halves.tab1 impl_Prefix_halves.bits1 (fun HT_ HW_ => ?_)
 generalize w5.drew = w6 at qc qJ ya HB hHeld ⊢
 refine zz (i := 0) (N := some 4) (v := ?_) (a' := ?_) #[km,ku,ku,ku,ku,ku,ku,ku,ku,ku,ku,ku,ku,ku,ku,ku,ku,ku,ku] rfl rfl (zx HT_.1 (by kernel_rfl)) (fun _ _ _ h => h) (ko ⟨by rfl, ?_⟩) ?_ ?_
 rotate_left
 ·
  intro w'
  go_simp
  with_reducible rfl
 rotate_left
 ·
  simp only [kc, kq, kk, kv, zt, zu]
  rfl
 refine zz (i := 2) (N := some 6) (v := ?_) (a' := ?_) #[km,ku,km,ku,ku,ku,ku,ku,ku,ku,ku,ku,ku,ku,ku,ku,ku,ku,ku] rfl rfl (zx HT_.1 (by kernel_rfl)) (fun _ _ _ h => h) (ko ⟨by rfl, ?_⟩) ?_ ?_
 rotate_left
 ·
  intro w'
  go_simp
  with_reducible rfl
 rotate_left
 ·
  simp only [kc, kq, kk, kv, zt, zu]
  rfl
 refine zz (i := 6) (N := some 10) (v := ?_) (a' := ?_) #[km,ku,km,ku,ku,ku,km,ku,ku,ku,ku,ku,ku,ku,ku,ku,ku,ku,ku] rfl rfl (zx HT_.1 (by kernel_rfl)) (fun _ _ _ h => h) (ko ⟨by rfl, ?_⟩) ?_ ?_
 rotate_left
 ·
  intro w'
  go_simp
  with_reducible rfl
 rotate_left
 ·
  simp only [kc, kq, kk, kv, zt, zu]
  rfl
 refine zz (i := 8) (N := some 12) (v := ?_) (a' := ?_) #[km,ku,km,ku,ku,ku,km,ku,km,ku,ku,ku,ku,ku,ku,ku,ku,ku,ku] rfl rfl (zx HT_.1 (by kernel_rfl)) (fun _ _ _ h => h) (ko ⟨by rfl, ?_⟩) ?_ ?_
 rotate_left
 ·
  intro w'
  go_simp
  with_reducible rfl
 rotate_left
 ·
  simp only [kc, kq, kk, kv, zt, zu]
  rfl
 refine zz (i := 13) (N := some 17) (v := ?_) (a' := ?_) #[km,ku,km,ku,ku,ku,km,ku,km,ku,ku,ku,ku,km,ku,ku,ku,ku,ku] rfl rfl (zx HT_.1 (by kernel_rfl)) (fun _ _ _ h => h) (ko ⟨by rfl, ?_⟩) ?_ ?_
 rotate_left
 ·
  intro w'
  go_simp
  with_reducible rfl
 rotate_left
 ·
  simp only [kc, kq, kk, kv, zt, zu]
  rfl
 refine zA (i := 1) (N := some 5) (v := ?_) (a' := ?_) #[km,km,km,ku,ku,ku,km,ku,km,ku,ku,ku,ku,km,ku,ku,ku,ku,ku] rfl rfl (zy HT_.1 HW_.1 (by kernel_rfl)) (fun _ _ _ h => h) (ko ⟨by rfl, ?_⟩) hHeld ?_ ?_
 rotate_left
 ·
  rintro w' ⟨s0, s1⟩
  go_simp
  with_reducible rfl
 rotate_left
 ·
  simp only [kc, kq, kk, kv, zt, zu]
  rfl
 refine zA (i := 3) (N := some 7) (v := ?_) (a' := ?_) #[km,km,km,km,ku,ku,km,ku,km,ku,ku,ku,ku,km,ku,ku,ku,ku,ku] rfl rfl (zy HT_.1 HW_.1 (by kernel_rfl)) (fun _ _ _ h => h) (ko ⟨by rfl, ?_⟩) hHeld ?_ ?_
 rotate_left
 ·
  rintro w' ⟨s0, s1⟩
  go_simp
  with_reducible rfl
 rotate_left
 ·
  simp only [kc, kq, kk, kv, zt, zu]
  rfl
 refine zz (i := 4) (N := some 8) (v := ?_) (a' := ?_) #[km,km,km,km,km,ku,km,ku,km,ku,ku,ku,ku,km,ku,ku,ku,ku,ku] rfl rfl (zx HT_.1 (by kernel_rfl)) (fun _ _ _ h => h) (ko ⟨by rfl, ?_⟩) ?_ ?_
 rotate_left
 ·
  intro w'
  go_simp
  with_reducible rfl
 rotate_left
 ·
  simp only [kc, kq, kk, kv, zt, zu]
  rfl
 refine zz (i := 5) (N := some 9) (v := ?_) (a' := ?_) #[km,km,km,km,km,km,km,ku,km,ku,ku,ku,ku,km,ku,ku,ku,ku,ku] rfl rfl (zx HT_.1 (by kernel_rfl)) (fun _ _ _ h => h) (ko ⟨by rfl, ?_⟩) ?_ ?_
 rotate_left
 ·
  intro w'
  go_simp
  with_reducible rfl
 rotate_left
 ·
  simp only [kc, kq, kk, kv, zt, zu]
  rfl
 refine zA (i := 7) (N := some 11) (v := ?_) (a' := ?_) #[km,km,km,km,km,km,km,km,km,ku,ku,ku,ku,km,ku,ku,ku,ku,ku] rfl rfl (zy HT_.1 HW_.1 (by kernel_rfl)) (fun _ _ _ h => h) (ko ⟨by rfl, ?_⟩) hHeld ?_ ?_
 rotate_left
 ·
  rintro w' ⟨s0, s1⟩
  go_simp
  with_reducible rfl
 rotate_left
 ·
  simp only [kc, kq, kk, kv, zt, zu]
  rfl
 refine zA (i := 9) (N := some 13) (v := ?_) (a' := ?_) #[km,km,km,km,km,km,km,km,km,km,ku,ku,ku,km,ku,ku,ku,ku,ku] rfl rfl (zy HT_.1 HW_.1 (by kernel_rfl)) (fun _ _ _ h => h) (ko ⟨by rfl, ?_⟩) hHeld ?_ ?_
 rotate_left
 ·
  rintro w' ⟨s0, s1⟩
  go_simp
  with_reducible rfl
 rotate_left
 ·
  simp only [kc, kq, kk, kv, zt, zu]
  rfl
 refine zz (i := 10) (N := some 14) (v := ?_) (a' := ?_) #[km,km,km,km,km,km,km,km,km,km,km,ku,ku,km,ku,ku,ku,ku,ku] rfl rfl (zx HT_.1 (by kernel_rfl)) (fun _ _ _ h => h) (ko ⟨by rfl, ?_⟩) ?_ ?_
 rotate_left
 ·
  intro w'
  go_simp
  with_reducible rfl
 rotate_left
 ·
  simp only [kc, kq, kk, kv, zt, zu]
  rfl
 refine zA (i := 14) (N := some 18) (v := ?_) (a' := ?_) #[km,km,km,km,km,km,km,km,km,km,km,ku,ku,km,km,ku,ku,ku,ku] rfl rfl (zy HT_.1 HW_.1 (by kernel_rfl)) (fun _ _ _ h => h) (ko ⟨by rfl, ?_⟩) hHeld ?_ ?_
 rotate_left
 ·
  rintro w' ⟨s0, s1⟩
  go_simp
  with_reducible rfl
 rotate_left
 ·
  simp only [kc, kq, kk, kv, zt, zu]
  rfl
 refine zz (i := 15) (N := some 19) (v := ?_) (a' := ?_) #[km,km,km,km,km,km,km,km,km,km,km,ku,ku,km,km,km,ku,ku,ku] rfl rfl (zx HT_.1 (by kernel_rfl)) (fun _ _ _ h => h) (ko ⟨by rfl, ?_⟩) ?_ ?_
 rotate_left
 ·
  intro w'
  go_simp
  with_reducible rfl
 rotate_left
 ·
  simp only [kc, kq, kk, kv, zt, zu]
  rfl
 refine one_ (i := 11) (N := some 15) #[km,km,km,km,km,km,km,km,km,km,km,km,ku,km,km,km,ku,ku,ku] rfl rfl (one_of HT_.1 (by kernel_rfl)) (by decide) (fun K hK => ?_)
 refine goes_ Try.func36 (by kernel_rfl) rfl #[.int .i64 (wrap64 (a0_1 + 1))] (by rfl) rfl rfl (by (try simp only [kg, ke, kd]); rfl) ?_
 with_reducible refine (impl_sizeOf.calls (wrap64 (a0_1 + 1)) t151 _ A2.1).mono ?_
 rintro e w' ⟨rfl, ⟨nd, rfl⟩⟩
 refine ⟨_, rfl, ?_⟩
 refine hK.out _ _ ⟨(zi qc.1 0).trans rfl, (zi qc.1 1).trans rfl⟩ (fun hHeld => ?_)
 clear hK K
 refine norm_ (a' := ?_) ?_ ?_
 rotate_left
 ·
  show kc _ (some 15) _ = _
  simp only [kc, kq, kk, kv, zt, zu]
  rfl
 refine zz (i := 12) (N := some 16) (v := ?_) (a' := ?_) #[km,km,km,km,km,km,km,km,km,km,km,km,km,km,km,km,ku,ku,ku] rfl rfl (zx HT_.1 (by kernel_rfl)) (fun _ _ _ h => h) (ko ⟨by rfl, ?_⟩) ?_ ?_
 rotate_left
 ·
  intro w'
  go_simp
  with_reducible rfl
 rotate_left
 ·
  simp only [kc, kq, kk, kv, zt, zu]
  rfl
 refine zz (i := 16) (N := some 20) (v := ?_) (a' := ?_) #[km,km,km,km,km,km,km,km,km,km,km,km,km,km,km,km,km,ku,ku] rfl rfl (zx HT_.1 (by kernel_rfl)) (fun _ _ _ h => h) (ko ⟨by rfl, ?_⟩) ?_ ?_
 rotate_left
 ·
  intro w'
  go_simp
  with_reducible rfl
 rotate_left
 ·
  simp only [kc, kq, kk, kv, zt, zu]
  rfl
 refine one_ (i := 17) (N := none) #[km,km,km,km,km,km,km,km,km,km,km,km,km,km,km,km,km,km,ku] rfl rfl (one_of HT_.1 (by kernel_rfl)) (by decide) (fun K hK => ?_)
 have hs7 : w6.cell? ⟨gb149, 0, none⟩ = some (.int .i64 0) := (zi qJ.1 0).trans rfl
 have hfs7 := zh qJ.1 0
 have hns7_0 := qF.1
 have hns7_2 := qI.1
 have hms7_0 := NB149_148.1
 have hms7_2 := qH.1
 have hs8 : w6.cell? ⟨gb149, 1, none⟩ = some (.int .i64 0) := (zi qJ.1 1).trans rfl
 have hfs8 := zh qJ.1 1
 have hns8_0 := qF.1
 have hns8_2 := qI.1
 have hms8_0 := NB149_148.1
 have hms8_2 := qH.1
 refine zB (w1 := ?_) (by rfl) rfl ?_ ?_
 rotate_left
 ·
  go_simp
  rfl
 refine hK.out _ _ ⟨((zo (p := ⟨gb149, _, none⟩) qF.1 _).trans (((zo (p := ⟨gb149, _, none⟩) qF.1 _).trans (hHeld.1)))), ((zo (p := ⟨gb149, _, none⟩) qF.1 _).trans (((zo (p := ⟨gb149, _, none⟩) qF.1 _).trans (hHeld.2))))⟩ (fun hHeld => ?_)
 clear hK K
 refine one_ (i := 18) (N := none) #[km,km,km,km,km,km,km,km,km,km,km,km,km,km,km,km,km,km,km] rfl rfl (one_of HT_.1 (by kernel_rfl)) (by decide) (fun K hK => ?_)
 have hs9 : w6.cell? ⟨gb150, 0, none⟩ = some (.int .i64 0) := (zi ya.1 0).trans rfl
 have hfs9 := zh ya.1 0
 have hns9_0 := qG.1
 have hns9_1 := qH.1
 have hms9_0 := NB150_148.1
 have hms9_1 := qI.1
 have hs10 : w6.cell? ⟨gb150, 1, none⟩ = some (.int .i64 0) := (zi ya.1 1).trans rfl
 have hfs10 := zh ya.1 1
 have hns10_0 := qG.1
 have hns10_1 := qH.1
 have hms10_0 := NB150_148.1
 have hms10_1 := qI.1
 refine zB (w1 := ?_) (by rfl) rfl ?_ ?_
 rotate_left
 ·
  go_simp
  rfl
 refine hK.out _ _ ⟨((zo (p := ⟨gb150, _, none⟩) qG.1 _).trans (((zo (p := ⟨gb150, _, none⟩) qG.1 _).trans (hHeld.1)))), ((zo (p := ⟨gb150, _, none⟩) qG.1 _).trans (((zo (p := ⟨gb150, _, none⟩) qG.1 _).trans (hHeld.2))))⟩ (fun hHeld => ?_)
 clear hK K
 refine done_ (done_of HT_.1 (by kernel_rfl)) ?_
 try go_wp2
 refine bodyPost_ret (results_cc rfl _ _ gb149 gb150 26 26 #[.int .i64 a0_0, .int .i64 (wrap64 (a0_1 + 1))] #[.int .i64 (wrap64 (a0_0 + t151)), .int .i64 (wrap64 (a0_1 + 1))] (0, 0) (0, 0) _ _ rfl (by refine zn ?_ qH.1 _; refine zn ?_ qH.1 _; refine zq (cs := #[.int .i64 a0_0, .int .i64 0]) ?_ 1 _ rfl; refine zq (cs := #[.int .i64 0, .int .i64 0]) ?_ 0 _ rfl; (with_reducible repeat (refine za ?_ _)); exact qJ.1) kh rfl (by kernel_rfl) rfl (by refine zq (cs := #[.int .i64 (wrap64 (a0_0 + t151)), .int .i64 0]) ?_ 1 _ rfl; refine zq (cs := #[.int .i64 0, .int .i64 0]) ?_ 0 _ rfl; refine zn ?_ qI.1 _; refine zn ?_ qI.1 _; (with_reducible repeat (refine za ?_ _)); exact ya.1) kh rfl (by kernel_rfl)) rfl ?_
 exact ⟨by rfl, by repeat ((with_reducible first | exact HB.1 | apply zd | refine ze ?_ GE149.1 | refine ze ?_ GE150.1))⟩

/-! ### impl_HalvesOf: function 23 -/
def impl_HalvesOf.f (a0_0 : Int) (a0_1 : Int) : Option (Int × Int × Int × Int × Bool) := (impl_GoodPrefix.f a0_0 a0_1).bind fun t155 => (if t155 = true then (if a0_1 = 32 then (some (0, 0, 0, 0, false)) else ((impl_Prefix_halves.f a0_0 a0_1).bind fun bt156 => (some (bt156.1, bt156.2.1, bt156.2.2.1, bt156.2.2.2, true)))) else (some (0, 0, 0, 0, false)))
theorem impl_HalvesOf.calls (a0_0 : Int) (a0_1 : Int) (r1 : Int) (r2 : Int) (r3 : Int) (r4 : Int) (r5 : Bool) (w : World) (h : impl_HalvesOf.f a0_0 a0_1 = some (r1, r2, r3, r4, r5)) :
  Calls Try.prog 23 #[.agg #[.int .i64 a0_0, .int .i64 a0_1]] w fun e w' => e = .returned (.tuple #[.agg #[.int .i64 r1, .int .i64 r2], .agg #[.int .i64 r3, .int .i64 r4], .bool r5]) ∧ Below w.heap.size w w' := by
 have hu26 := kh
 have HB := kz (Below.refl w.heap.size w)
 have H : ((impl_GoodPrefix.f a0_0 a0_1).bind fun t155 => (if t155 = true then (if a0_1 = 32 then (some (0, 0, 0, 0, false)) else ((impl_Prefix_halves.f a0_0 a0_1).bind fun bt156 => (some (bt156.1, bt156.2.1, bt156.2.2.1, bt156.2.2.2, true)))) else (some (0, 0, 0, 0, false)))) = some (r1, r2, r3, r4, r5) := h
 clear h
 replace H := kf.mp H
 obtain ⟨t155, A20, H⟩ := H
 replace H : (if t155 = true then (if a0_1 = 32 then (some (0, 0, 0, 0, false)) else ((impl_Prefix_halves.f a0_0 a0_1).bind fun bt156 => (some (bt156.1, bt156.2.1, bt156.2.2.1, bt156.2.2.2, true)))) else (some (0, 0, 0, 0, false))) = some (r1, r2, r3, r4, r5) := H
 have A2 := kz A20
 clear A20
 by_cases c3 : t155 = true
 ·
  subst c3
  have H1 : (if a0_1 = 32 then (some (0, 0, 0, 0, false)) else ((impl_Prefix_halves.f a0_0 a0_1).bind fun bt156 => (some (bt156.1, bt156.2.1, bt156.2.2.1, bt156.2.2.2, true)))) = some (r1, r2, r3, r4, r5) := by rw [if_pos rfl] at H; exact H
  clear H
  have H := H1
  clear H1
  by_cases c4 : a0_1 = 32
  ·
   rw [if_pos c4] at H
   have c4b0 : (a0_1 == 32) = true := beq_iff_eq.mpr c4
   have c4b1 : (a0_1 != 32) = false := bne_eq_false_iff_eq.mpr c4
   clear c4
   simp only [kb, Prod.mk.injEq] at H
   obtain ⟨rfl, rfl, rfl, rfl, rfl⟩ := H
   go_enter Try.func23, Try.ntmps23
   go_wp2_with (first | ((with_reducible refine zr (N := 1) rfl ?_); refine zp ?hg (N := 1) ?hd (cs := #[.int .i64 a0_0, .int .i64 a0_1]) (t := 26) ?hr ?_; (case hd => rfl); (case hg => rfl); (case hr => (go_simp; done)); intro gb152 hg w5 hbox hb; replace HB := kz (zl HB.1 hb); have zD := kz hbox; clear hb hbox hg) | ((with_reducible refine zr (N := 2) rfl ?_); refine zp ?hg (N := 2) ?hd (cs := #[.int .i64 0, .int .i64 0]) (t := 26) ?hr ?_; (case hd => rfl); (case hg => rfl); (case hr => (go_simp; done)); intro gb153 hg w6 hbox hb; have zF := kz hbox; have zV := kz ((by rw [hg]; exact (zk HB.1) : w.heap.size ≤ gb153)); replace HB := kz (zl HB.1 hb); have qr := kz ((by rw [hg]; exact ky (zm (g := gb152) (o := .cells #[.int .i64 a0_0, .int .i64 a0_1] 26 (0, 0)) zD.1) : gb152 ≠ gb153)); have qs := kz ((by rw [hg]; exact kj (zm (g := gb152) (o := .cells #[.int .i64 a0_0, .int .i64 a0_1] 26 (0, 0)) zD.1) : gb153 ≠ gb152)); replace zD := kz (zj (g := gb152) (o := .cells #[.int .i64 a0_0, .int .i64 a0_1] 26 (0, 0)) zD.1 hb); clear hb hbox hg) | ((with_reducible refine zr (N := 3) rfl ?_); refine zp ?hg (N := 3) ?hd (cs := #[.int .i64 0, .int .i64 0]) (t := 26) ?hr ?_; (case hd => rfl); (case hg => rfl); (case hr => (go_simp; done)); intro gb154 hg w7 hbox hb; have zJ := kz hbox; have qC := kz ((by rw [hg]; exact (zk HB.1) : w.heap.size ≤ gb154)); replace HB := kz (zl HB.1 hb); have qt := kz ((by rw [hg]; exact ky (zm (g := gb152) (o := .cells #[.int .i64 a0_0, .int .i64 a0_1] 26 (0, 0)) zD.1) : gb152 ≠ gb154)); have qu := kz ((by rw [hg]; exact kj (zm (g := gb152) (o := .cells #[.int .i64 a0_0, .int .i64 a0_1] 26 (0, 0)) zD.1) : gb154 ≠ gb152)); replace zD := kz (zj (g := gb152) (o := .cells #[.int .i64 a0_0, .int .i64 a0_1] 26 (0, 0)) zD.1 hb); have zP := kz ((by rw [hg]; exact ky (zm (g := gb153) (o := .cells #[.int .i64 0, .int .i64 0] 26 (0, 0)) zF.1) : gb153 ≠ gb154)); have zQ := kz ((by rw [hg]; exact kj (zm (g := gb153) (o := .cells #[.int .i64 0, .int .i64 0] 26 (0, 0)) zF.1) : gb154 ≠ gb153)); replace zF := kz (zj (g := gb153) (o := .cells #[.int .i64 0, .int .i64 0] 26 (0, 0)) zF.1 hb); clear hb hbox hg; have hnb8 := qr.1; have hnc8 := qs.1; have hnb9 := qt.1; have hnc9 := qu.1; have hcz10_0 : w7.cell? ⟨gb152, 0, none⟩ = some (.int .i64 a0_0) := (zi zD.1 0).trans rfl; have hcz10_1 : w7.cell? ⟨gb152, 1, none⟩ = some (.int .i64 a0_1) := (zi zD.1 1).trans rfl; have hfz10_0 := zh zD.1 0; have hfz10_1 := zh zD.1 1) | ((with_reducible refine zs (f := 14) rfl ?_); refine zw (some 8) rfl rfl Try.func14 (by kernel_rfl) rfl #[.agg #[.int .i64 a0_0, .int .i64 a0_1]] rfl (by (try simp only [kg, ke, kd]); rfl) ?_; (with_reducible refine (impl_GoodPrefix.calls a0_0 a0_1 true _ A2.1).mono ?_); rintro e w11 ⟨rfl, hb⟩; refine ⟨_, rfl, ?_⟩; replace zD := kz (zj (g := gb152) (o := .cells #[.int .i64 a0_0, .int .i64 a0_1] 26 (0, 0)) zD.1 hb); replace zF := kz (zj (g := gb153) (o := .cells #[.int .i64 0, .int .i64 0] 26 (0, 0)) zF.1 hb); replace zJ := kz (zj (g := gb154) (o := .cells #[.int .i64 0, .int .i64 0] 26 (0, 0)) zJ.1 hb); replace HB := kz (zl HB.1 hb); (try clear hb); (try clear hb2); (try clear hk); (try clear hi); have hcz12_0 : w11.cell? ⟨gb152, 0, none⟩ = some (.int .i64 a0_0) := (zi zD.1 0).trans rfl; have hcz12_1 : w11.cell? ⟨gb152, 1, none⟩ = some (.int .i64 a0_1) := (zi zD.1 1).trans rfl; have hfz12_0 := zh zD.1 0; have hfz12_1 := zh zD.1 1; have hnb13 := zP.1; have hnc13 := zQ.1; have hcz14_0 : w11.cell? ⟨gb153, 0, none⟩ = some (.int .i64 0) := (zi zF.1 0).trans rfl; have hcz14_1 : w11.cell? ⟨gb153, 1, none⟩ = some (.int .i64 0) := (zi zF.1 1).trans rfl; have hfz14_0 := zh zF.1 0; have hfz14_1 := zh zF.1 1; have hcz15_0 : w11.cell? ⟨gb154, 0, none⟩ = some (.int .i64 0) := (zi zJ.1 0).trans rfl; have hcz15_1 : w11.cell? ⟨gb154, 1, none⟩ = some (.int .i64 0) := (zi zJ.1 1).trans rfl; have hfz15_0 := zh zJ.1 0; have hfz15_1 := zh zJ.1 1))
   refine bodyPost_ret (results_list (rs := [.cell 2 26, .cell 3 26, .tmp 4]) rfl (by simp) (.cell gb153 26 #[.int .i64 0, .int .i64 0] (0, 0) _ rfl (by refine zn ?_ zP.1 _; refine zn ?_ zP.1 _; refine zq (cs := #[.int .i64 0, .int .i64 0]) ?_ 1 _ rfl; refine zq (cs := #[.int .i64 0, .int .i64 0]) ?_ 0 _ rfl; exact zF.1) kh rfl (by kernel_rfl) (.cell gb154 26 #[.int .i64 0, .int .i64 0] (0, 0) _ rfl (by refine zq (cs := #[.int .i64 0, .int .i64 0]) ?_ 1 _ rfl; refine zq (cs := #[.int .i64 0, .int .i64 0]) ?_ 0 _ rfl; refine zn ?_ zQ.1 _; refine zn ?_ zQ.1 _; exact zJ.1) kh rfl (by kernel_rfl) (.tmp .nil)))) rfl ?_
   exact ⟨by rfl, by repeat ((with_reducible first | exact HB.1 | refine ze ?_ zV.1 | refine ze ?_ qC.1))⟩
  ·
   rw [if_neg c4] at H
   have c4b0 : (a0_1 == 32) = false := beq_eq_false_iff_ne.mpr c4
   have c4b1 : (a0_1 != 32) = true := bne_iff_ne.mpr c4
   replace H := kf.mp H
   obtain ⟨⟨t156, t157, t158, t159⟩, A160, H⟩ := H
   replace H : (some (t156, t157, t158, t159, true)) = some (r1, r2, r3, r4, r5) := H
   have A16 := kz A160
   clear A160
   simp only [kb, Prod.mk.injEq] at H
   obtain ⟨rfl, rfl, rfl, rfl, rfl⟩ := H
   go_enter Try.func23, Try.ntmps23
   try go_wp2_with (first | ((with_reducible refine zr (N := 1) rfl ?_); refine zp ?hg (N := 1) ?hd (cs := #[.int .i64 a0_0, .int .i64 a0_1]) (t := 26) ?hr ?_; (case hd => rfl); (case hg => rfl); (case hr => (go_simp; done)); intro gb152 hg w17 hbox hb; replace HB := kz (zl HB.1 hb); have zD := kz hbox; clear hb hbox hg) | ((with_reducible refine zr (N := 2) rfl ?_); refine zp ?hg (N := 2) ?hd (cs := #[.int .i64 0, .int .i64 0]) (t := 26) ?hr ?_; (case hd => rfl); (case hg => rfl); (case hr => (go_simp; done)); intro gb153 hg w18 hbox hb; have zF := kz hbox; have zV := kz ((by rw [hg]; exact (zk HB.1) : w.heap.size ≤ gb153)); replace HB := kz (zl HB.1 hb); have qr := kz ((by rw [hg]; exact ky (zm (g := gb152) (o := .cells #[.int .i64 a0_0, .int .i64 a0_1] 26 (0, 0)) zD.1) : gb152 ≠ gb153)); have qs := kz ((by rw [hg]; exact kj (zm (g := gb152) (o := .cells #[.int .i64 a0_0, .int .i64 a0_1] 26 (0, 0)) zD.1) : gb153 ≠ gb152)); replace zD := kz (zj (g := gb152) (o := .cells #[.int .i64 a0_0, .int .i64 a0_1] 26 (0, 0)) zD.1 hb); clear hb hbox hg) | ((with_reducible refine zr (N := 3) rfl ?_); refine zp ?hg (N := 3) ?hd (cs := #[.int .i64 0, .int .i64 0]) (t := 26) ?hr ?_; (case hd => rfl); (case hg => rfl); (case hr => (go_simp; done)); intro gb154 hg w19 hbox hb; have zJ := kz hbox; have qC := kz ((by rw [hg]; exact (zk HB.1) : w.heap.size ≤ gb154)); replace HB := kz (zl HB.1 hb); have qt := kz ((by rw [hg]; exact ky (zm (g := gb152) (o := .cells #[.int .i64 a0_0, .int .i64 a0_1] 26 (0, 0)) zD.1) : gb152 ≠ gb154)); have qu := kz ((by rw [hg]; exact kj (zm (g := gb152) (o := .cells #[.int .i64 a0_0, .int .i64 a0_1] 26 (0, 0)) zD.1) : gb154 ≠ gb152)); replace zD := kz (zj (g := gb152) (o := .cells #[.int .i64 a0_0, .int .i64 a0_1] 26 (0, 0)) zD.1 hb); have zP := kz ((by rw [hg]; exact ky (zm (g := gb153) (o := .cells #[.int .i64 0, .int .i64 0] 26 (0, 0)) zF.1) : gb153 ≠ gb154)); have zQ := kz ((by rw [hg]; exact kj (zm (g := gb153) (o := .cells #[.int .i64 0, .int .i64 0] 26 (0, 0)) zF.1) : gb154 ≠ gb153)); replace zF := kz (zj (g := gb153) (o := .cells #[.int .i64 0, .int .i64 0] 26 (0, 0)) zF.1 hb); clear hb hbox hg; have hnb20 := qr.1; have hnc20 := qs.1; have hnb21 := qt.1; have hnc21 := qu.1; have hcz22_0 : w19.cell? ⟨gb152, 0, none⟩ = some (.int .i64 a0_0) := (zi zD.1 0).trans rfl; have hcz22_1 : w19.cell? ⟨gb152, 1, none⟩ = some (.int .i64 a0_1) := (zi zD.1 1).trans rfl; have hfz22_0 := zh zD.1 0; have hfz22_1 := zh zD.1 1) | ((with_reducible refine zs (f := 14) rfl ?_); refine zw (some 8) rfl rfl Try.func14 (by kernel_rfl) rfl #[.agg #[.int .i64 a0_0, .int .i64 a0_1]] rfl (by (try simp only [kg, ke, kd]); rfl) ?_; (with_reducible refine (impl_GoodPrefix.calls a0_0 a0_1 true _ A2.1).mono ?_); rintro e w23 ⟨rfl, hb⟩; refine ⟨_, rfl, ?_⟩; replace zD := kz (zj (g := gb152) (o := .cells #[.int .i64 a0_0, .int .i64 a0_1] 26 (0, 0)) zD.1 hb); replace zF := kz (zj (g := gb153) (o := .cells #[.int .i64 0, .int .i64 0] 26 (0, 0)) zF.1 hb); replace zJ := kz (zj (g := gb154) (o := .cells #[.int .i64 0, .int .i64 0] 26 (0, 0)) zJ.1 hb); replace HB := kz (zl HB.1 hb); (try clear hb); (try clear hb2); (try clear hk); (try clear hi); have hcz24_0 : w23.cell? ⟨gb152, 0, none⟩ = some (.int .i64 a0_0) := (zi zD.1 0).trans rfl; have hcz24_1 : w23.cell? ⟨gb152, 1, none⟩ = some (.int .i64 a0_1) := (zi zD.1 1).trans rfl; have hfz24_0 := zh zD.1 0; have hfz24_1 := zh zD.1 1) | ((with_reducible refine zs (f := 43) rfl ?_); refine zw (some 19) rfl rfl Try.func43 (by kernel_rfl) rfl #[.agg #[.int .i64 a0_0, .int .i64 a0_1]] rfl (by (try simp only [kg, ke, kd]); rfl) ?_; (with_reducible refine (impl_Prefix_halves.calls a0_0 a0_1 t156 t157 t158 t159 _ A16.1).mono ?_); rintro e w25 ⟨rfl, hb⟩; refine ⟨_, rfl, ?_⟩; replace zD := kz (zj (g := gb152) (o := .cells #[.int .i64 a0_0, .int .i64 a0_1] 26 (0, 0)) zD.1 hb); replace zF := kz (zj (g := gb153) (o := .cells #[.int .i64 0, .int .i64 0] 26 (0, 0)) zF.1 hb); replace zJ := kz (zj (g := gb154) (o := .cells #[.int .i64 0, .int .i64 0] 26 (0, 0)) zJ.1 hb); replace HB := kz (zl HB.1 hb); (try clear hb); (try clear hb2); (try clear hk); (try clear hi)) | ((with_reducible refine zr (N := 5) rfl ?_); refine zp ?hg (N := 5) ?hd (cs := #[.int .i64 0, .int .i64 0]) (t := 26) ?hr ?_; (case hd => rfl); (case hg => rfl); (case hr => (go_simp; done)); intro gb160 hg w26 hbox hb; have qd := kz hbox; have yh := kz ((by rw [hg]; exact (zk HB.1) : w.heap.size ≤ gb160)); replace HB := kz (zl HB.1 hb); have NB152_160 := kz ((by rw [hg]; exact ky (zm (g := gb152) (o := .cells #[.int .i64 a0_0, .int .i64 a0_1] 26 (0, 0)) zD.1) : gb152 ≠ gb160)); have NB160_152 := kz ((by rw [hg]; exact kj (zm (g := gb152) (o := .cells #[.int .i64 a0_0, .int .i64 a0_1] 26 (0, 0)) zD.1) : gb160 ≠ gb152)); replace zD := kz (zj (g := gb152) (o := .cells #[.int .i64 a0_0, .int .i64 a0_1] 26 (0, 0)) zD.1 hb); have qR := kz ((by rw [hg]; exact ky (zm (g := gb153) (o := .cells #[.int .i64 0, .int .i64 0] 26 (0, 0)) zF.1) : gb153 ≠ gb160)); have qv := kz ((by rw [hg]; exact kj (zm (g := gb153) (o := .cells #[.int .i64 0, .int .i64 0] 26 (0, 0)) zF.1) : gb160 ≠ gb153)); replace zF := kz (zj (g := gb153) (o := .cells #[.int .i64 0, .int .i64 0] 26 (0, 0)) zF.1 hb); have qS := kz ((by rw [hg]; exact ky (zm (g := gb154) (o := .cells #[.int .i64 0, .int .i64 0] 26 (0, 0)) zJ.1) : gb154 ≠ gb160)); have qw := kz ((by rw [hg]; exact kj (zm (g := gb154) (o := .cells #[.int .i64 0, .int .i64 0] 26 (0, 0)) zJ.1) : gb160 ≠ gb154)); replace zJ := kz (zj (g := gb154) (o := .cells #[.int .i64 0, .int .i64 0] 26 (0, 0)) zJ.1 hb); clear hb hbox hg) | ((with_reducible refine zr (N := 6) rfl ?_); refine zp ?hg (N := 6) ?hd (cs := #[.int .i64 0, .int .i64 0]) (t := 26) ?hr ?_; (case hd => rfl); (case hg => rfl); (case hr => (go_simp; done)); intro gb161 hg w27 hbox hb; have qT := kz hbox; have GE161 := kz ((by rw [hg]; exact (zk HB.1) : w.heap.size ≤ gb161)); replace HB := kz (zl HB.1 hb); have NB152_161 := kz ((by rw [hg]; exact ky (zm (g := gb152) (o := .cells #[.int .i64 a0_0, .int .i64 a0_1] 26 (0, 0)) zD.1) : gb152 ≠ gb161)); have NB161_152 := kz ((by rw [hg]; exact kj (zm (g := gb152) (o := .cells #[.int .i64 a0_0, .int .i64 a0_1] 26 (0, 0)) zD.1) : gb161 ≠ gb152)); replace zD := kz (zj (g := gb152) (o := .cells #[.int .i64 a0_0, .int .i64 a0_1] 26 (0, 0)) zD.1 hb); have qU := kz ((by rw [hg]; exact ky (zm (g := gb153) (o := .cells #[.int .i64 0, .int .i64 0] 26 (0, 0)) zF.1) : gb153 ≠ gb161)); have qx := kz ((by rw [hg]; exact kj (zm (g := gb153) (o := .cells #[.int .i64 0, .int .i64 0] 26 (0, 0)) zF.1) : gb161 ≠ gb153)); replace zF := kz (zj (g := gb153) (o := .cells #[.int .i64 0, .int .i64 0] 26 (0, 0)) zF.1 hb); have qV := kz ((by rw [hg]; exact ky (zm (g := gb154) (o := .cells #[.int .i64 0, .int .i64 0] 26 (0, 0)) zJ.1) : gb154 ≠ gb161)); have qy := kz ((by rw [hg]; exact kj (zm (g := gb154) (o := .cells #[.int .i64 0, .int .i64 0] 26 (0, 0)) zJ.1) : gb161 ≠ gb154)); replace zJ := kz (zj (g := gb154) (o := .cells #[.int .i64 0, .int .i64 0] 26 (0, 0)) zJ.1 hb); have NB160_161 := kz ((by rw [hg]; exact ky (zm (g := gb160) (o := .cells #[.int .i64 0, .int .i64 0] 26 (0, 0)) qd.1) : gb160 ≠ gb161)); have NB161_160 := kz ((by rw [hg]; exact kj (zm (g := gb160) (o := .cells #[.int .i64 0, .int .i64 0] 26 (0, 0)) qd.1) : gb161 ≠ gb160)); replace qd := kz (zj (g := gb160) (o := .cells #[.int .i64 0, .int .i64 0] 26 (0, 0)) qd.1 hb); clear hb hbox hg; have hnb28 := NB160_152.1; have hnc28 := NB152_160.1; have hnb29 := qv.1; have hnc29 := qR.1; have hnb30 := qw.1; have hnc30 := qS.1; have hnb31 := NB160_161.1; have hnc31 := NB161_160.1; have hcz32_0 : w27.cell? ⟨gb160, 0, none⟩ = some (.int .i64 0) := (zi qd.1 0).trans rfl; have hcz32_1 : w27.cell? ⟨gb160, 1, none⟩ = some (.int .i64 0) := (zi qd.1 1).trans rfl; have hfz32_0 := zh qd.1 0; have hfz32_1 := zh qd.1 1; have hnb33 := NB161_152.1; have hnc33 := NB152_161.1; have hnb34 := qx.1; have hnc34 := qU.1; have hnb35 := qy.1; have hnc35 := qV.1; have hcz36_0 : w27.cell? ⟨gb161, 0, none⟩ = some (.int .i64 0) := (zi qT.1 0).trans rfl; have hcz36_1 : w27.cell? ⟨gb161, 1, none⟩ = some (.int .i64 0) := (zi qT.1 1).trans rfl; have hfz36_0 := zh qT.1 0; have hfz36_1 := zh qT.1 1))
   have n0_ : zv (((((w27.setCell ⟨gb160, 0, none⟩ (.int .i64 t156)).setCell ⟨gb160, 1, none⟩ (.int .i64 t157)).setCell ⟨gb161, 0, none⟩ (.int .i64 t158)).setCell ⟨gb161, 1, none⟩ (.int .i64 t159)).heap[gb152]? = some (.cells #[.int .i64 a0_0, .int .i64 a0_1] 26 (0, 0))) := ⟨by refine zn ?_ NB152_161.1 _; refine zn ?_ NB152_161.1 _; refine zn ?_ NB152_160.1 _; refine zn ?_ NB152_160.1 _; exact zD.1⟩
   have n1_ : zv (((((w27.setCell ⟨gb160, 0, none⟩ (.int .i64 t156)).setCell ⟨gb160, 1, none⟩ (.int .i64 t157)).setCell ⟨gb161, 0, none⟩ (.int .i64 t158)).setCell ⟨gb161, 1, none⟩ (.int .i64 t159)).heap[gb153]? = some (.cells #[.int .i64 0, .int .i64 0] 26 (0, 0))) := ⟨by refine zn ?_ qU.1 _; refine zn ?_ qU.1 _; refine zn ?_ qR.1 _; refine zn ?_ qR.1 _; exact zF.1⟩
   have n2_ : zv (((((w27.setCell ⟨gb160, 0, none⟩ (.int .i64 t156)).setCell ⟨gb160, 1, none⟩ (.int .i64 t157)).setCell ⟨gb161, 0, none⟩ (.int .i64 t158)).setCell ⟨gb161, 1, none⟩ (.int .i64 t159)).heap[gb154]? = some (.cells #[.int .i64 0, .int .i64 0] 26 (0, 0))) := ⟨by refine zn ?_ qV.1 _; refine zn ?_ qV.1 _; refine zn ?_ qS.1 _; refine zn ?_ qS.1 _; exact zJ.1⟩
   have n3_ : zv (((((w27.setCell ⟨gb160, 0, none⟩ (.int .i64 t156)).setCell ⟨gb160, 1, none⟩ (.int .i64 t157)).setCell ⟨gb161, 0, none⟩ (.int .i64 t158)).setCell ⟨gb161, 1, none⟩ (.int .i64 t159)).heap[gb160]? = some (.cells #[.int .i64 t156, .int .i64 t157] 26 (0, 0))) := ⟨by refine zn ?_ NB160_161.1 _; refine zn ?_ NB160_161.1 _; refine zq (cs := #[.int .i64 t156, .int .i64 0]) ?_ 1 _ rfl; refine zq (cs := #[.int .i64 0, .int .i64 0]) ?_ 0 _ rfl; exact qd.1⟩
   have n4_ : zv (((((w27.setCell ⟨gb160, 0, none⟩ (.int .i64 t156)).setCell ⟨gb160, 1, none⟩ (.int .i64 t157)).setCell ⟨gb161, 0, none⟩ (.int .i64 t158)).setCell ⟨gb161, 1, none⟩ (.int .i64 t159)).heap[gb161]? = some (.cells #[.int .i64 t158, .int .i64 t159] 26 (0, 0))) := ⟨by refine zq (cs := #[.int .i64 t158, .int .i64 0]) ?_ 1 _ rfl; refine zq (cs := #[.int .i64 0, .int .i64 0]) ?_ 0 _ rfl; refine zn ?_ NB161_160.1 _; refine zn ?_ NB161_160.1 _; exact qT.1⟩
   have n5_ : zv (Below w.heap.size w ((((w27.setCell ⟨gb160, 0, none⟩ (.int .i64 t156)).setCell ⟨gb160, 1, none⟩ (.int .i64 t157)).setCell ⟨gb161, 0, none⟩ (.int .i64 t158)).setCell ⟨gb161, 1, none⟩ (.int .i64 t159))) := ⟨by repeat ((with_reducible first | exact HB.1 | refine ze ?_ yh.1 | refine ze ?_ GE161.1))⟩
   (try clear zD)
   (try clear zF)
   (try clear zJ)
   (try clear qd)
   (try clear qT)
   (try clear HB)
   generalize ((((w27.setCell ⟨gb160, 0, none⟩ (.int .i64 t156)).setCell ⟨gb160, 1, none⟩ (.int .i64 t157)).setCell ⟨gb161, 0, none⟩ (.int .i64 t158)).setCell ⟨gb161, 1, none⟩ (.int .i64 t159)) = w37 at n0_ n1_ n2_ n3_ n4_ n5_ ⊢
   have zD := n0_
   have zF := n1_
   have zJ := n2_
   have qd := n3_
   have qT := n4_
   have HB := n5_
   clear n0_ n1_ n2_ n3_ n4_ n5_
   replace zD := kz (zc zD.1)
   replace zF := kz (zc zF.1)
   replace zJ := kz (zc zJ.1)
   replace qd := kz (zc qd.1)
   replace qT := kz (zc qT.1)
   replace HB := kz (zf HB.1)
   refine start_ (n := 5) (S := fun w' => w'.cell? ⟨gb160, 0, none⟩ = some (.int .i64 t156) ∧ w'.cell? ⟨gb160, 1, none⟩ = some (.int .i64 t157) ∧ w'.cell? ⟨gb161, 0, none⟩ = some (.int .i64 t158) ∧ w'.cell? ⟨gb161, 1, none⟩ = some (.int .i64 t159)) (ds := []) #[ku,ku,ku,ku,ku] (by kernel_rfl) rfl rfl ⟨(zi qd.1 0).trans rfl, (zi qd.1 1).trans rfl, (zi qT.1 0).trans rfl, (zi qT.1 1).trans rfl⟩ (fun hHeld => ?_)
   generalize w37.drew = w38 at zD zF zJ qd qT HB hHeld ⊢
   refine zA (i := 0) (N := some 22) (v := ?_) (a' := ?_) #[km,ku,ku,ku,ku] rfl rfl (by kernel_rfl) (fun _ _ _ h => h) (ko ⟨by rfl, ?_⟩) hHeld ?_ ?_
   rotate_left
   ·
    rintro w' ⟨s0, s1, s2, s3⟩
    go_simp
    with_reducible rfl
   rotate_left
   ·
    simp only [kc, kq, kk, kv, zt, zu]
    rfl
   refine zA (i := 1) (N := some 23) (v := ?_) (a' := ?_) #[km,km,ku,ku,ku] rfl rfl (by kernel_rfl) (fun _ _ _ h => h) (ko ⟨by rfl, ?_⟩) hHeld ?_ ?_
   rotate_left
   ·
    rintro w' ⟨s0, s1, s2, s3⟩
    go_simp
    with_reducible rfl
   rotate_left
   ·
    simp only [kc, kq, kk, kv, zt, zu]
    rfl
   refine one_ (i := 2) (N := none) #[km,km,km,ku,ku] rfl rfl (by kernel_rfl) (by decide) (fun K hK => ?_)
   have hs39 : w38.cell? ⟨gb153, 0, none⟩ = some (.int .i64 0) := (zi zF.1 0).trans rfl
   have hfs39 := zh zF.1 0
   have hns39_0 := qr.1
   have hns39_2 := zQ.1
   have hns39_3 := qv.1
   have hns39_4 := qx.1
   have hms39_0 := qs.1
   have hms39_2 := zP.1
   have hms39_3 := qR.1
   have hms39_4 := qU.1
   have hs40 : w38.cell? ⟨gb153, 1, none⟩ = some (.int .i64 0) := (zi zF.1 1).trans rfl
   have hfs40 := zh zF.1 1
   have hns40_0 := qr.1
   have hns40_2 := zQ.1
   have hns40_3 := qv.1
   have hns40_4 := qx.1
   have hms40_0 := qs.1
   have hms40_2 := zP.1
   have hms40_3 := qR.1
   have hms40_4 := qU.1
   refine zB (w1 := ?_) (by rfl) rfl ?_ ?_
   rotate_left
   ·
    go_simp
    rfl
   refine hK.out _ _ ⟨((zo (p := ⟨gb153, _, none⟩) qv.1 _).trans (((zo (p := ⟨gb153, _, none⟩) qv.1 _).trans (hHeld.1)))), ((zo (p := ⟨gb153, _, none⟩) qv.1 _).trans (((zo (p := ⟨gb153, _, none⟩) qv.1 _).trans (hHeld.2.1)))), ((zo (p := ⟨gb153, _, none⟩) qx.1 _).trans (((zo (p := ⟨gb153, _, none⟩) qx.1 _).trans (hHeld.2.2.1)))), ((zo (p := ⟨gb153, _, none⟩) qx.1 _).trans (((zo (p := ⟨gb153, _, none⟩) qx.1 _).trans (hHeld.2.2.2))))⟩ (fun hHeld => ?_)
   clear hK K
   refine one_ (i := 3) (N := none) #[km,km,km,km,ku] rfl rfl (by kernel_rfl) (by decide) (fun K hK => ?_)
   have hs41 : w38.cell? ⟨gb154, 0, none⟩ = some (.int .i64 0) := (zi zJ.1 0).trans rfl
   have hfs41 := zh zJ.1 0
   have hns41_0 := qt.1
   have hns41_1 := zP.1
   have hns41_3 := qw.1
   have hns41_4 := qy.1
   have hms41_0 := qu.1
   have hms41_1 := zQ.1
   have hms41_3 := qS.1
   have hms41_4 := qV.1
   have hs42 : w38.cell? ⟨gb154, 1, none⟩ = some (.int .i64 0) := (zi zJ.1 1).trans rfl
   have hfs42 := zh zJ.1 1
   have hns42_0 := qt.1
   have hns42_1 := zP.1
   have hns42_3 := qw.1
   have hns42_4 := qy.1
   have hms42_0 := qu.1
   have hms42_1 := zQ.1
   have hms42_3 := qS.1
   have hms42_4 := qV.1
   refine zB (w1 := ?_) (by rfl) rfl ?_ ?_
   rotate_left
   ·
    go_simp
    rfl
   refine hK.out _ _ ⟨((zo (p := ⟨gb154, _, none⟩) qw.1 _).trans (((zo (p := ⟨gb154, _, none⟩) qw.1 _).trans (hHeld.1)))), ((zo (p := ⟨gb154, _, none⟩) qw.1 _).trans (((zo (p := ⟨gb154, _, none⟩) qw.1 _).trans (hHeld.2.1)))), ((zo (p := ⟨gb154, _, none⟩) qy.1 _).trans (((zo (p := ⟨gb154, _, none⟩) qy.1 _).trans (hHeld.2.2.1)))), ((zo (p := ⟨gb154, _, none⟩) qy.1 _).trans (((zo (p := ⟨gb154, _, none⟩) qy.1 _).trans (hHeld.2.2.2))))⟩ (fun hHeld => ?_)
   clear hK K
   refine zz (i := 4) (N := some 4) (v := ?_) (a' := ?_) #[km,km,km,km,km] rfl rfl (by kernel_rfl) (fun _ _ _ h => h) (ko ⟨by rfl, ?_⟩) ?_ ?_
   rotate_left
   ·
    intro w'
    go_simp
    with_reducible rfl
   rotate_left
   ·
    simp only [kc, kq, kk, kv, zt, zu]
    rfl
   refine done_ (by kernel_rfl) ?_
   try go_wp2
   refine bodyPost_ret (results_list (rs := [.cell 2 26, .cell 3 26, .tmp 4]) rfl (by simp) (.cell gb153 26 #[.int .i64 t156, .int .i64 t157] (0, 0) _ rfl (by refine zn ?_ zP.1 _; refine zn ?_ zP.1 _; refine zq (cs := #[.int .i64 t156, .int .i64 0]) ?_ 1 _ rfl; refine zq (cs := #[.int .i64 0, .int .i64 0]) ?_ 0 _ rfl; exact zF.1) kh rfl (by kernel_rfl) (.cell gb154 26 #[.int .i64 t158, .int .i64 t159] (0, 0) _ rfl (by refine zq (cs := #[.int .i64 t158, .int .i64 0]) ?_ 1 _ rfl; refine zq (cs := #[.int .i64 0, .int .i64 0]) ?_ 0 _ rfl; refine zn ?_ zQ.1 _; refine zn ?_ zQ.1 _; exact zJ.1) kh rfl (by kernel_rfl) (.tmp .nil)))) rfl ?_
   exact ⟨by rfl, by repeat ((with_reducible first | exact HB.1 | refine ze ?_ zV.1 | refine ze ?_ qC.1))⟩
 ·
  replace c3 := Bool.eq_false_iff.mpr c3
  subst c3
  have H1 : (some (0, 0, 0, 0, false)) = some (r1, r2, r3, r4, r5) := by rw [if_neg (show ¬ (false = true) by decide)] at H; exact H
  clear H
  have H := H1
  clear H1
  simp only [kb, Prod.mk.injEq] at H
  obtain ⟨rfl, rfl, rfl, rfl, rfl⟩ := H
  go_enter Try.func23, Try.ntmps23
  go_wp2_with (first | ((with_reducible refine zr (N := 1) rfl ?_); refine zp ?hg (N := 1) ?hd (cs := #[.int .i64 a0_0, .int .i64 a0_1]) (t := 26) ?hr ?_; (case hd => rfl); (case hg => rfl); (case hr => (go_simp; done)); intro gb152 hg w43 hbox hb; replace HB := kz (zl HB.1 hb); have zD := kz hbox; clear hb hbox hg) | ((with_reducible refine zr (N := 2) rfl ?_); refine zp ?hg (N := 2) ?hd (cs := #[.int .i64 0, .int .i64 0]) (t := 26) ?hr ?_; (case hd => rfl); (case hg => rfl); (case hr => (go_simp; done)); intro gb153 hg w44 hbox hb; have zF := kz hbox; have zV := kz ((by rw [hg]; exact (zk HB.1) : w.heap.size ≤ gb153)); replace HB := kz (zl HB.1 hb); have qr := kz ((by rw [hg]; exact ky (zm (g := gb152) (o := .cells #[.int .i64 a0_0, .int .i64 a0_1] 26 (0, 0)) zD.1) : gb152 ≠ gb153)); have qs := kz ((by rw [hg]; exact kj (zm (g := gb152) (o := .cells #[.int .i64 a0_0, .int .i64 a0_1] 26 (0, 0)) zD.1) : gb153 ≠ gb152)); replace zD := kz (zj (g := gb152) (o := .cells #[.int .i64 a0_0, .int .i64 a0_1] 26 (0, 0)) zD.1 hb); clear hb hbox hg) | ((with_reducible refine zr (N := 3) rfl ?_); refine zp ?hg (N := 3) ?hd (cs := #[.int .i64 0, .int .i64 0]) (t := 26) ?hr ?_; (case hd => rfl); (case hg => rfl); (case hr => (go_simp; done)); intro gb154 hg w45 hbox hb; have zJ := kz hbox; have qC := kz ((by rw [hg]; exact (zk HB.1) : w.heap.size ≤ gb154)); replace HB := kz (zl HB.1 hb); have qt := kz ((by rw [hg]; exact ky (zm (g := gb152) (o := .cells #[.int .i64 a0_0, .int .i64 a0_1] 26 (0, 0)) zD.1) : gb152 ≠ gb154)); have qu := kz ((by rw [hg]; exact kj (zm (g := gb152) (o := .cells #[.int .i64 a0_0, .int .i64 a0_1] 26 (0, 0)) zD.1) : gb154 ≠ gb152)); replace zD := kz (zj (g := gb152) (o := .cells #[.int .i64 a0_0, .int .i64 a0_1] 26 (0, 0)) zD.1 hb); have zP := kz ((by rw [hg]; exact ky (zm (g := gb153) (o := .cells #[.int .i64 0, .int .i64 0] 26 (0, 0)) zF.1) : gb153 ≠ gb154)); have zQ := kz ((by rw [hg]; exact kj (zm (g := gb153) (o := .cells #[.int .i64 0, .int .i64 0] 26 (0, 0)) zF.1) : gb154 ≠ gb153)); replace zF := kz (zj (g := gb153) (o := .cells #[.int .i64 0, .int .i64 0] 26 (0, 0)) zF.1 hb); clear hb hbox hg; have hnb46 := qr.1; have hnc46 := qs.1; have hnb47 := qt.1; have hnc47 := qu.1; have hcz48_0 : w45.cell? ⟨gb152, 0, none⟩ = some (.int .i64 a0_0) := (zi zD.1 0).trans rfl; have hcz48_1 : w45.cell? ⟨gb152, 1, none⟩ = some (.int .i64 a0_1) := (zi zD.1 1).trans rfl; have hfz48_0 := zh zD.1 0; have hfz48_1 := zh zD.1 1) | ((with_reducible refine zs (f := 14) rfl ?_); refine zw (some 8) rfl rfl Try.func14 (by kernel_rfl) rfl #[.agg #[.int .i64 a0_0, .int .i64 a0_1]] rfl (by (try simp only [kg, ke, kd]); rfl) ?_; (with_reducible refine (impl_GoodPrefix.calls a0_0 a0_1 false _ A2.1).mono ?_); rintro e w49 ⟨rfl, hb⟩; refine ⟨_, rfl, ?_⟩; replace zF := kz (zj (g := gb153) (o := .cells #[.int .i64 0, .int .i64 0] 26 (0, 0)) zF.1 hb); replace zJ := kz (zj (g := gb154) (o := .cells #[.int .i64 0, .int .i64 0] 26 (0, 0)) zJ.1 hb); replace HB := kz (zl HB.1 hb); (try clear hb); (try clear hb2); (try clear hk); (try clear hi); have hnb50 := zP.1; have hnc50 := zQ.1; have hcz51_0 : w49.cell? ⟨gb153, 0, none⟩ = some (.int .i64 0) := (zi zF.1 0).trans rfl; have hcz51_1 : w49.cell? ⟨gb153, 1, none⟩ = some (.int .i64 0) := (zi zF.1 1).trans rfl; have hfz51_0 := zh zF.1 0; have hfz51_1 := zh zF.1 1; have hcz52_0 : w49.cell? ⟨gb154, 0, none⟩ = some (.int .i64 0) := (zi zJ.1 0).trans rfl; have hcz52_1 : w49.cell? ⟨gb154, 1, none⟩ = some (.int .i64 0) := (zi zJ.1 1).trans rfl; have hfz52_0 := zh zJ.1 0; have hfz52_1 := zh zJ.1 1))
  refine bodyPost_ret (results_list (rs := [.cell 2 26, .cell 3 26, .tmp 4]) rfl (by simp) (.cell gb153 26 #[.int .i64 0, .int .i64 0] (0, 0) _ rfl (by refine zn ?_ zP.1 _; refine zn ?_ zP.1 _; refine zq (cs := #[.int .i64 0, .int .i64 0]) ?_ 1 _ rfl; refine zq (cs := #[.int .i64 0, .int .i64 0]) ?_ 0 _ rfl; exact zF.1) kh rfl (by kernel_rfl) (.cell gb154 26 #[.int .i64 0, .int .i64 0] (0, 0) _ rfl (by refine zq (cs := #[.int .i64 0, .int .i64 0]) ?_ 1 _ rfl; refine zq (cs := #[.int .i64 0, .int .i64 0]) ?_ 0 _ rfl; refine zn ?_ zQ.1 _; refine zn ?_ zQ.1 _; exact zJ.1) kh rfl (by kernel_rfl) (.tmp .nil)))) rfl ?_
  exact ⟨by rfl, by repeat ((with_reducible first | exact HB.1 | refine ze ?_ zV.1 | refine ze ?_ qC.1))⟩

/-! ### spec_l1Sibling: function 44 -/
def spec_l1Sibling.f (a0_0 : Int) (a0_1 : Int) : Option (Int × Int) := (spec_l1Parent.f a0_0 a0_1).bind fun bt164 => ((spec_l1Halves.f bt164.1 bt164.2).bind fun bt166 => (if (bt166.1 == a0_0 && (bt166.2.1 == a0_1)) = true then (some (bt166.2.2.1, bt166.2.2.2)) else (some (bt166.1, bt166.2.1))))
theorem spec_l1Sibling.calls (a0_0 : Int) (a0_1 : Int) (r1 : Int) (r2 : Int) (w : World) (h : spec_l1Sibling.f a0_0 a0_1 = some (r1, r2)) :
  Calls Try.prog 44 #[.agg #[.int .i64 a0_0, .int .i64 a0_1]] w fun e w' => e = .returned (.agg #[.int .i64 r1, .int .i64 r2]) ∧ Below w.heap.size w w' := by
 have hu26 := kh
 have HB := kz (Below.refl w.heap.size w)
 have H : ((spec_l1Parent.f a0_0 a0_1).bind fun bt164 => ((spec_l1Halves.f bt164.1 bt164.2).bind fun bt166 => (if (bt166.1 == a0_0 && (bt166.2.1 == a0_1)) = true then (some (bt166.2.2.1, bt166.2.2.2)) else (some (bt166.1, bt166.2.1))))) = some (r1, r2) := h
 clear h
 replace H := kf.mp H
 obtain ⟨⟨t164, t165⟩, A20, H⟩ := H
 replace H : ((spec_l1Halves.f t164 t165).bind fun bt166 => (if (bt166.1 == a0_0 && (bt166.2.1 == a0_1)) = true then (some (bt166.2.2.1, bt166.2.2.2)) else (some (bt166.1, bt166.2.1)))) = some (r1, r2) := H
 have A2 := kz A20
 clear A20
 replace H := kf.mp H
 obtain ⟨⟨t166, t167, t168, t169⟩, A30, H⟩ := H
 replace H : (if (t166 == a0_0 && (t167 == a0_1)) = true then (some (t168, t169)) else (some (t166, t167))) = some (r1, r2) := H
 have A3 := kz A30
 clear A30
 by_cases c4 : (t166 == a0_0 && (t167 == a0_1)) = true
 ·
  rw [if_pos c4] at H
  have c4b0 : (t166 == a0_0 && (t167 == a0_1)) = true := c4
  (try (have c4b1 : decide (t166 = a0_0 && (t167 == a0_1)) = true := by simpa using c4))
  (try (have c4b2 : (t166 == a0_0 && (t167 == a0_1)) = true := by simpa using c4))
  clear c4
  simp only [kb, Prod.mk.injEq] at H
  obtain ⟨rfl, rfl⟩ := H
  go_enter Try.func44, Try.ntmps44
  go_wp2_with (first | ((with_reducible refine zr (N := 1) rfl ?_); refine zp ?hg (N := 1) ?hd (cs := #[.int .i64 a0_0, .int .i64 a0_1]) (t := 26) ?hr ?_; (case hd => rfl); (case hg => rfl); (case hr => (go_simp; done)); intro gb162 hg w5 hbox hb; replace HB := kz (zl HB.1 hb); have zG := kz hbox; clear hb hbox hg) | ((with_reducible refine zr (N := 2) rfl ?_); refine zp ?hg (N := 2) ?hd (cs := #[.int .i64 0, .int .i64 0]) (t := 26) ?hr ?_; (case hd => rfl); (case hg => rfl); (case hr => (go_simp; done)); intro gb163 hg w6 hbox hb; have zK := kz hbox; have zY := kz ((by rw [hg]; exact (zk HB.1) : w.heap.size ≤ gb163)); replace HB := kz (zl HB.1 hb); have NB162_163 := kz ((by rw [hg]; exact ky (zm (g := gb162) (o := .cells #[.int .i64 a0_0, .int .i64 a0_1] 26 (0, 0)) zG.1) : gb162 ≠ gb163)); have NB163_162 := kz ((by rw [hg]; exact kj (zm (g := gb162) (o := .cells #[.int .i64 a0_0, .int .i64 a0_1] 26 (0, 0)) zG.1) : gb163 ≠ gb162)); replace zG := kz (zj (g := gb162) (o := .cells #[.int .i64 a0_0, .int .i64 a0_1] 26 (0, 0)) zG.1 hb); clear hb hbox hg; have hnb7 := NB162_163.1; have hnc7 := NB163_162.1; have hcz8_0 : w6.cell? ⟨gb162, 0, none⟩ = some (.int .i64 a0_0) := (zi zG.1 0).trans rfl; have hcz8_1 : w6.cell? ⟨gb162, 1, none⟩ = some (.int .i64 a0_1) := (zi zG.1 1).trans rfl; have hfz8_0 := zh zG.1 0; have hfz8_1 := zh zG.1 1) | ((with_reducible refine zs (f := 41) rfl ?_); refine zw (some 7) rfl rfl Try.func41 (by kernel_rfl) rfl #[.agg #[.int .i64 a0_0, .int .i64 a0_1]] rfl (by (try simp only [kg, ke, kd]); rfl) ?_; (with_reducible refine (spec_l1Parent.calls a0_0 a0_1 t164 t165 _ A2.1).mono ?_); rintro e w9 ⟨rfl, hb⟩; refine ⟨_, rfl, ?_⟩; replace zG := kz (zj (g := gb162) (o := .cells #[.int .i64 a0_0, .int .i64 a0_1] 26 (0, 0)) zG.1 hb); replace zK := kz (zj (g := gb163) (o := .cells #[.int .i64 0, .int .i64 0] 26 (0, 0)) zK.1 hb); replace HB := kz (zl HB.1 hb); (try clear hb); (try clear hb2); (try clear hk); (try clear hi)) | ((with_reducible refine zs (f := 42) rfl ?_); refine zw (some 8) rfl rfl Try.func42 (by kernel_rfl) rfl #[.agg #[.int .i64 t164, .int .i64 t165]] rfl (by (try simp only [kg, ke, kd]); rfl) ?_; (with_reducible refine (spec_l1Halves.calls t164 t165 t166 t167 t168 t169 _ A3.1).mono ?_); rintro e w10 ⟨rfl, hb⟩; refine ⟨_, rfl, ?_⟩; replace zG := kz (zj (g := gb162) (o := .cells #[.int .i64 a0_0, .int .i64 a0_1] 26 (0, 0)) zG.1 hb); replace zK := kz (zj (g := gb163) (o := .cells #[.int .i64 0, .int .i64 0] 26 (0, 0)) zK.1 hb); replace HB := kz (zl HB.1 hb); (try clear hb); (try clear hb2); (try clear hk); (try clear hi)) | ((with_reducible refine zr (N := 3) rfl ?_); refine zp ?hg (N := 3) ?hd (cs := #[.int .i64 0, .int .i64 0]) (t := 26) ?hr ?_; (case hd => rfl); (case hg => rfl); (case hr => (go_simp; done)); intro gb170 hg w11 hbox hb; have zZ := kz hbox; have yb := kz ((by rw [hg]; exact (zk HB.1) : w.heap.size ≤ gb170)); replace HB := kz (zl HB.1 hb); have NB162_170 := kz ((by rw [hg]; exact ky (zm (g := gb162) (o := .cells #[.int .i64 a0_0, .int .i64 a0_1] 26 (0, 0)) zG.1) : gb162 ≠ gb170)); have NB170_162 := kz ((by rw [hg]; exact kj (zm (g := gb162) (o := .cells #[.int .i64 a0_0, .int .i64 a0_1] 26 (0, 0)) zG.1) : gb170 ≠ gb162)); replace zG := kz (zj (g := gb162) (o := .cells #[.int .i64 a0_0, .int .i64 a0_1] 26 (0, 0)) zG.1 hb); have qz := kz ((by rw [hg]; exact ky (zm (g := gb163) (o := .cells #[.int .i64 0, .int .i64 0] 26 (0, 0)) zK.1) : gb163 ≠ gb170)); have NB170_163 := kz ((by rw [hg]; exact kj (zm (g := gb163) (o := .cells #[.int .i64 0, .int .i64 0] 26 (0, 0)) zK.1) : gb170 ≠ gb163)); replace zK := kz (zj (g := gb163) (o := .cells #[.int .i64 0, .int .i64 0] 26 (0, 0)) zK.1 hb); clear hb hbox hg) | ((with_reducible refine zr (N := 4) rfl ?_); refine zp ?hg (N := 4) ?hd (cs := #[.int .i64 0, .int .i64 0]) (t := 26) ?hr ?_; (case hd => rfl); (case hg => rfl); (case hr => (go_simp; done)); intro gb171 hg w12 hbox hb; have yc := kz hbox; have GE171 := kz ((by rw [hg]; exact (zk HB.1) : w.heap.size ≤ gb171)); replace HB := kz (zl HB.1 hb); have NB162_171 := kz ((by rw [hg]; exact ky (zm (g := gb162) (o := .cells #[.int .i64 a0_0, .int .i64 a0_1] 26 (0, 0)) zG.1) : gb162 ≠ gb171)); have NB171_162 := kz ((by rw [hg]; exact kj (zm (g := gb162) (o := .cells #[.int .i64 a0_0, .int .i64 a0_1] 26 (0, 0)) zG.1) : gb171 ≠ gb162)); replace zG := kz (zj (g := gb162) (o := .cells #[.int .i64 a0_0, .int .i64 a0_1] 26 (0, 0)) zG.1 hb); have qA := kz ((by rw [hg]; exact ky (zm (g := gb163) (o := .cells #[.int .i64 0, .int .i64 0] 26 (0, 0)) zK.1) : gb163 ≠ gb171)); have NB171_163 := kz ((by rw [hg]; exact kj (zm (g := gb163) (o := .cells #[.int .i64 0, .int .i64 0] 26 (0, 0)) zK.1) : gb171 ≠ gb163)); replace zK := kz (zj (g := gb163) (o := .cells #[.int .i64 0, .int .i64 0] 26 (0, 0)) zK.1 hb); have NB170_171 := kz ((by rw [hg]; exact ky (zm (g := gb170) (o := .cells #[.int .i64 0, .int .i64 0] 26 (0, 0)) zZ.1) : gb170 ≠ gb171)); have NB171_170 := kz ((by rw [hg]; exact kj (zm (g := gb170) (o := .cells #[.int .i64 0, .int .i64 0] 26 (0, 0)) zZ.1) : gb171 ≠ gb170)); replace zZ := kz (zj (g := gb170) (o := .cells #[.int .i64 0, .int .i64 0] 26 (0, 0)) zZ.1 hb); clear hb hbox hg; have hnb13 := NB170_162.1; have hnc13 := NB162_170.1; have hnb14 := NB170_163.1; have hnc14 := qz.1; have hnb15 := NB170_171.1; have hnc15 := NB171_170.1; have hcz16_0 : w12.cell? ⟨gb170, 0, none⟩ = some (.int .i64 0) := (zi zZ.1 0).trans rfl; have hcz16_1 : w12.cell? ⟨gb170, 1, none⟩ = some (.int .i64 0) := (zi zZ.1 1).trans rfl; have hfz16_0 := zh zZ.1 0; have hfz16_1 := zh zZ.1 1; have hnb17 := NB171_162.1; have hnc17 := NB162_171.1; have hnb18 := NB171_163.1; have hnc18 := qA.1; have hcz19_0 : w12.cell? ⟨gb171, 0, none⟩ = some (.int .i64 0) := (zi yc.1 0).trans rfl; have hcz19_1 : w12.cell? ⟨gb171, 1, none⟩ = some (.int .i64 0) := (zi yc.1 1).trans rfl; have hfz19_0 := zh yc.1 0; have hfz19_1 := zh yc.1 1; have hcz20_0 : w12.cell? ⟨gb162, 0, none⟩ = some (.int .i64 a0_0) := (zi zG.1 0).trans rfl; have hcz20_1 : w12.cell? ⟨gb162, 1, none⟩ = some (.int .i64 a0_1) := (zi zG.1 1).trans rfl; have hfz20_0 := zh zG.1 0; have hfz20_1 := zh zG.1 1; have hcz21_0 : w12.cell? ⟨gb163, 0, none⟩ = some (.int .i64 0) := (zi zK.1 0).trans rfl; have hcz21_1 : w12.cell? ⟨gb163, 1, none⟩ = some (.int .i64 0) := (zi zK.1 1).trans rfl; have hfz21_0 := zh zK.1 0; have hfz21_1 := zh zK.1 1))
  refine bodyPost_ret (results_cell_row rfl _ _ gb163 26 #[.int .i64 t168, .int .i64 t169] (0, 0) _ rfl (by refine zq (cs := #[.int .i64 t168, .int .i64 0]) ?_ 1 _ rfl; refine zq (cs := #[.int .i64 0, .int .i64 0]) ?_ 0 _ rfl; refine zn ?_ qA.1 _; refine zn ?_ qA.1 _; refine zn ?_ qz.1 _; refine zn ?_ qz.1 _; exact zK.1) kh rfl (by kernel_rfl)) rfl ?_
  exact ⟨by rfl, by repeat ((with_reducible first | exact HB.1 | refine ze ?_ zY.1 | refine ze ?_ yb.1 | refine ze ?_ GE171.1))⟩
 ·
  rw [if_neg c4] at H
  have c4b0 : (t166 == a0_0 && (t167 == a0_1)) = false := by simpa using c4
  (try (have c4b1 : decide (t166 = a0_0 && (t167 == a0_1)) = false := by simpa using c4))
  (try (have c4b2 : (t166 == a0_0 && (t167 == a0_1)) = false := by simpa using c4))
  (try (have c4b3 : ¬ (t166 = a0_0 && (t167 == a0_1)) := by simpa using c4))
  clear c4
  simp only [kb, Prod.mk.injEq] at H
  obtain ⟨rfl, rfl⟩ := H
  go_enter Try.func44, Try.ntmps44
  go_wp2_with (first | ((with_reducible refine zr (N := 1) rfl ?_); refine zp ?hg (N := 1) ?hd (cs := #[.int .i64 a0_0, .int .i64 a0_1]) (t := 26) ?hr ?_; (case hd => rfl); (case hg => rfl); (case hr => (go_simp; done)); intro gb162 hg w22 hbox hb; replace HB := kz (zl HB.1 hb); have zG := kz hbox; clear hb hbox hg) | ((with_reducible refine zr (N := 2) rfl ?_); refine zp ?hg (N := 2) ?hd (cs := #[.int .i64 0, .int .i64 0]) (t := 26) ?hr ?_; (case hd => rfl); (case hg => rfl); (case hr => (go_simp; done)); intro gb163 hg w23 hbox hb; have zK := kz hbox; have zY := kz ((by rw [hg]; exact (zk HB.1) : w.heap.size ≤ gb163)); replace HB := kz (zl HB.1 hb); have NB162_163 := kz ((by rw [hg]; exact ky (zm (g := gb162) (o := .cells #[.int .i64 a0_0, .int .i64 a0_1] 26 (0, 0)) zG.1) : gb162 ≠ gb163)); have NB163_162 := kz ((by rw [hg]; exact kj (zm (g := gb162) (o := .cells #[.int .i64 a0_0, .int .i64 a0_1] 26 (0, 0)) zG.1) : gb163 ≠ gb162)); replace zG := kz (zj (g := gb162) (o := .cells #[.int .i64 a0_0, .int .i64 a0_1] 26 (0, 0)) zG.1 hb); clear hb hbox hg; have hnb24 := NB162_163.1; have hnc24 := NB163_162.1; have hcz25_0 : w23.cell? ⟨gb162, 0, none⟩ = some (.int .i64 a0_0) := (zi zG.1 0).trans rfl; have hcz25_1 : w23.cell? ⟨gb162, 1, none⟩ = some (.int .i64 a0_1) := (zi zG.1 1).trans rfl; have hfz25_0 := zh zG.1 0; have hfz25_1 := zh zG.1 1) | ((with_reducible refine zs (f := 41) rfl ?_); refine zw (some 7) rfl rfl Try.func41 (by kernel_rfl) rfl #[.agg #[.int .i64 a0_0, .int .i64 a0_1]] rfl (by (try simp only [kg, ke, kd]); rfl) ?_; (with_reducible refine (spec_l1Parent.calls a0_0 a0_1 t164 t165 _ A2.1).mono ?_); rintro e w26 ⟨rfl, hb⟩; refine ⟨_, rfl, ?_⟩; replace zG := kz (zj (g := gb162) (o := .cells #[.int .i64 a0_0, .int .i64 a0_1] 26 (0, 0)) zG.1 hb); replace zK := kz (zj (g := gb163) (o := .cells #[.int .i64 0, .int .i64 0] 26 (0, 0)) zK.1 hb); replace HB := kz (zl HB.1 hb); (try clear hb); (try clear hb2); (try clear hk); (try clear hi)) | ((with_reducible refine zs (f := 42) rfl ?_); refine zw (some 8) rfl rfl Try.func42 (by kernel_rfl) rfl #[.agg #[.int .i64 t164, .int .i64 t165]] rfl (by (try simp only [kg, ke, kd]); rfl) ?_; (with_reducible refine (spec_l1Halves.calls t164 t165 t166 t167 t168 t169 _ A3.1).mono ?_); rintro e w27 ⟨rfl, hb⟩; refine ⟨_, rfl, ?_⟩; replace zG := kz (zj (g := gb162) (o := .cells #[.int .i64 a0_0, .int .i64 a0_1] 26 (0, 0)) zG.1 hb); replace zK := kz (zj (g := gb163) (o := .cells #[.int .i64 0, .int .i64 0] 26 (0, 0)) zK.1 hb); replace HB := kz (zl HB.1 hb); (try clear hb); (try clear hb2); (try clear hk); (try clear hi)) | ((with_reducible refine zr (N := 3) rfl ?_); refine zp ?hg (N := 3) ?hd (cs := #[.int .i64 0, .int .i64 0]) (t := 26) ?hr ?_; (case hd => rfl); (case hg => rfl); (case hr => (go_simp; done)); intro gb170 hg w28 hbox hb; have zZ := kz hbox; have yb := kz ((by rw [hg]; exact (zk HB.1) : w.heap.size ≤ gb170)); replace HB := kz (zl HB.1 hb); have NB162_170 := kz ((by rw [hg]; exact ky (zm (g := gb162) (o := .cells #[.int .i64 a0_0, .int .i64 a0_1] 26 (0, 0)) zG.1) : gb162 ≠ gb170)); have NB170_162 := kz ((by rw [hg]; exact kj (zm (g := gb162) (o := .cells #[.int .i64 a0_0, .int .i64 a0_1] 26 (0, 0)) zG.1) : gb170 ≠ gb162)); replace zG := kz (zj (g := gb162) (o := .cells #[.int .i64 a0_0, .int .i64 a0_1] 26 (0, 0)) zG.1 hb); have qz := kz ((by rw [hg]; exact ky (zm (g := gb163) (o := .cells #[.int .i64 0, .int .i64 0] 26 (0, 0)) zK.1) : gb163 ≠ gb170)); have NB170_163 := kz ((by rw [hg]; exact kj (zm (g := gb163) (o := .cells #[.int .i64 0, .int .i64 0] 26 (0, 0)) zK.1) : gb170 ≠ gb163)); replace zK := kz (zj (g := gb163) (o := .cells #[.int .i64 0, .int .i64 0] 26 (0, 0)) zK.1 hb); clear hb hbox hg) | ((with_reducible refine zr (N := 4) rfl ?_); refine zp ?hg (N := 4) ?hd (cs := #[.int .i64 0, .int .i64 0]) (t := 26) ?hr ?_; (case hd => rfl); (case hg => rfl); (case hr => (go_simp; done)); intro gb171 hg w29 hbox hb; have yc := kz hbox; have GE171 := kz ((by rw [hg]; exact (zk HB.1) : w.heap.size ≤ gb171)); replace HB := kz (zl HB.1 hb); have NB162_171 := kz ((by rw [hg]; exact ky (zm (g := gb162) (o := .cells #[.int .i64 a0_0, .int .i64 a0_1] 26 (0, 0)) zG.1) : gb162 ≠ gb171)); have NB171_162 := kz ((by rw [hg]; exact kj (zm (g := gb162) (o := .cells #[.int .i64 a0_0, .int .i64 a0_1] 26 (0, 0)) zG.1) : gb171 ≠ gb162)); replace zG := kz (zj (g := gb162) (o := .cells #[.int .i64 a0_0, .int .i64 a0_1] 26 (0, 0)) zG.1 hb); have qA := kz ((by rw [hg]; exact ky (zm (g := gb163) (o := .cells #[.int .i64 0, .int .i64 0] 26 (0, 0)) zK.1) : gb163 ≠ gb171)); have NB171_163 := kz ((by rw [hg]; exact kj (zm (g := gb163) (o := .cells #[.int .i64 0, .int .i64 0] 26 (0, 0)) zK.1) : gb171 ≠ gb163)); replace zK := kz (zj (g := gb163) (o := .cells #[.int .i64 0, .int .i64 0] 26 (0, 0)) zK.1 hb); have NB170_171 := kz ((by rw [hg]; exact ky (zm (g := gb170) (o := .cells #[.int .i64 0, .int .i64 0] 26 (0, 0)) zZ.1) : gb170 ≠ gb171)); have NB171_170 := kz ((by rw [hg]; exact kj (zm (g := gb170) (o := .cells #[.int .i64 0, .int .i64 0] 26 (0, 0)) zZ.1) : gb171 ≠ gb170)); replace zZ := kz (zj (g := gb170) (o := .cells #[.int .i64 0, .int .i64 0] 26 (0, 0)) zZ.1 hb); clear hb hbox hg; have hnb30 := NB170_162.1; have hnc30 := NB162_170.1; have hnb31 := NB170_163.1; have hnc31 := qz.1; have hnb32 := NB170_171.1; have hnc32 := NB171_170.1; have hcz33_0 : w29.cell? ⟨gb170, 0, none⟩ = some (.int .i64 0) := (zi zZ.1 0).trans rfl; have hcz33_1 : w29.cell? ⟨gb170, 1, none⟩ = some (.int .i64 0) := (zi zZ.1 1).trans rfl; have hfz33_0 := zh zZ.1 0; have hfz33_1 := zh zZ.1 1; have hnb34 := NB171_162.1; have hnc34 := NB162_171.1; have hnb35 := NB171_163.1; have hnc35 := qA.1; have hcz36_0 : w29.cell? ⟨gb171, 0, none⟩ = some (.int .i64 0) := (zi yc.1 0).trans rfl; have hcz36_1 : w29.cell? ⟨gb171, 1, none⟩ = some (.int .i64 0) := (zi yc.1 1).trans rfl; have hfz36_0 := zh yc.1 0; have hfz36_1 := zh yc.1 1; have hcz37_0 : w29.cell? ⟨gb162, 0, none⟩ = some (.int .i64 a0_0) := (zi zG.1 0).trans rfl; have hcz37_1 : w29.cell? ⟨gb162, 1, none⟩ = some (.int .i64 a0_1) := (zi zG.1 1).trans rfl; have hfz37_0 := zh zG.1 0; have hfz37_1 := zh zG.1 1; have hcz38_0 : w29.cell? ⟨gb163, 0, none⟩ = some (.int .i64 0) := (zi zK.1 0).trans rfl; have hcz38_1 : w29.cell? ⟨gb163, 1, none⟩ = some (.int .i64 0) := (zi zK.1 1).trans rfl; have hfz38_0 := zh zK.1 0; have hfz38_1 := zh zK.1 1))
  refine bodyPost_ret (results_cell_row rfl _ _ gb163 26 #[.int .i64 t166, .int .i64 t167] (0, 0) _ rfl (by refine zq (cs := #[.int .i64 t166, .int .i64 0]) ?_ 1 _ rfl; refine zq (cs := #[.int .i64 0, .int .i64 0]) ?_ 0 _ rfl; refine zn ?_ qA.1 _; refine zn ?_ qA.1 _; refine zn ?_ qz.1 _; refine zn ?_ qz.1 _; exact zK.1) kh rfl (by kernel_rfl)) rfl ?_
  exact ⟨by rfl, by repeat ((with_reducible first | exact HB.1 | refine ze ?_ zY.1 | refine ze ?_ yb.1 | refine ze ?_ GE171.1))⟩

/-! ### spec_SiblingOf: function 24 -/
def spec_SiblingOf.f (a0_0 : Int) (a0_1 : Int) : Option (Int × Int × Bool) := (spec_GoodPrefix.f a0_0 a0_1).bind fun t174 => (if t174 = true then (if a0_1 = 0 then (some (0, 0, false)) else ((spec_l1Sibling.f a0_0 a0_1).bind fun bt175 => (some (bt175.1, bt175.2, true)))) else (some (0, 0, false)))
theorem spec_SiblingOf.calls (a0_0 : Int) (a0_1 : Int) (r1 : Int) (r2 : Int) (r3 : Bool) (w : World) (h : spec_SiblingOf.f a0_0 a0_1 = some (r1, r2, r3)) :
  Calls Try.prog 24 #[.agg #[.int .i64 a0_0, .int .i64 a0_1]] w fun e w' => e = .returned (.tuple #[.agg #[.int .i64 r1, .int .i64 r2], .bool r3]) ∧ Below w.heap.size w w' := by
 have hu26 := kh
 have HB := kz (Below.refl w.heap.size w)
 have H : ((spec_GoodPrefix.f a0_0 a0_1).bind fun t174 => (if t174 = true then (if a0_1 = 0 then (some (0, 0, false)) else ((spec_l1Sibling.f a0_0 a0_1).bind fun bt175 => (some (bt175.1, bt175.2, true)))) else (some (0, 0, false)))) = some (r1, r2, r3) := h
 clear h
 replace H := kf.mp H
 obtain ⟨t174, A20, H⟩ := H
 replace H : (if t174 = true then (if a0_1 = 0 then (some (0, 0, false)) else ((spec_l1Sibling.f a0_0 a0_1).bind fun bt175 => (some (bt175.1, bt175.2, true)))) else (some (0, 0, false))) = some (r1, r2, r3) := H
 have A2 := kz A20
 clear A20
 by_cases c3 : t174 = true
 ·
  subst c3
  have H1 : (if a0_1 = 0 then (some (0, 0, false)) else ((spec_l1Sibling.f a0_0 a0_1).bind fun bt175 => (some (bt175.1, bt175.2, true)))) = some (r1, r2, r3) := by rw [if_pos rfl] at H; exact H
  clear H
  have H := H1
  clear H1
  by_cases c4 : a0_1 = 0
  ·
   rw [if_pos c4] at H
   have c4b0 : (a0_1 == 0) = true := beq_iff_eq.mpr c4
   have c4b1 : (a0_1 != 0) = false := bne_eq_false_iff_eq.mpr c4
   clear c4
   simp only [kb, Prod.mk.injEq] at H
   obtain ⟨rfl, rfl, rfl⟩ := H
   go_enter Try.func24, Try.ntmps24
   go_wp2_with (first | ((with_reducible refine zr (N := 1) rfl ?_); refine zp ?hg (N := 1) ?hd (cs := #[.int .i64 a0_0, .int .i64 a0_1]) (t := 26) ?hr ?_; (case hd => rfl); (case hg => rfl); (case hr => (go_simp; done)); intro gb172 hg w5 hbox hb; replace HB := kz (zl HB.1 hb); have zH := kz hbox; clear hb hbox hg) | ((with_reducible refine zr (N := 2) rfl ?_); refine zp ?hg (N := 2) ?hd (cs := #[.int .i64 0, .int .i64 0]) (t := 26) ?hr ?_; (case hd => rfl); (case hg => rfl); (case hr => (go_simp; done)); intro gb173 hg w6 hbox hb; have zS := kz hbox; have yd := kz ((by rw [hg]; exact (zk HB.1) : w.heap.size ≤ gb173)); replace HB := kz (zl HB.1 hb); have qW := kz ((by rw [hg]; exact ky (zm (g := gb172) (o := .cells #[.int .i64 a0_0, .int .i64 a0_1] 26 (0, 0)) zH.1) : gb172 ≠ gb173)); have qX := kz ((by rw [hg]; exact kj (zm (g := gb172) (o := .cells #[.int .i64 a0_0, .int .i64 a0_1] 26 (0, 0)) zH.1) : gb173 ≠ gb172)); replace zH := kz (zj (g := gb172) (o := .cells #[.int .i64 a0_0, .int .i64 a0_1] 26 (0, 0)) zH.1 hb); clear hb hbox hg; have hnb7 := qW.1; have hnc7 := qX.1; have hcz8_0 : w6.cell? ⟨gb172, 0, none⟩ = some (.int .i64 a0_0) := (zi zH.1 0).trans rfl; have hcz8_1 : w6.cell? ⟨gb172, 1, none⟩ = some (.int .i64 a0_1) := (zi zH.1 1).trans rfl; have hfz8_0 := zh zH.1 0; have hfz8_1 := zh zH.1 1) | ((with_reducible refine zs (f := 12) rfl ?_); refine zw (some 5) rfl rfl kx (by kernel_rfl) rfl #[.agg #[.int .i64 a0_0, .int .i64 a0_1]] rfl (by (try simp only [kg, ke, kd]); rfl) ?_; (with_reducible refine (spec_GoodPrefix.calls a0_0 a0_1 true _ A2.1).mono ?_); rintro e w9 ⟨rfl, hb⟩; refine ⟨_, rfl, ?_⟩; replace zH := kz (zj (g := gb172) (o := .cells #[.int .i64 a0_0, .int .i64 a0_1] 26 (0, 0)) zH.1 hb); replace zS := kz (zj (g := gb173) (o := .cells #[.int .i64 0, .int .i64 0] 26 (0, 0)) zS.1 hb); replace HB := kz (zl HB.1 hb); (try clear hb); (try clear hb2); (try clear hk); (try clear hi); have hcz10_0 : w9.cell? ⟨gb172, 0, none⟩ = some (.int .i64 a0_0) := (zi zH.1 0).trans rfl; have hcz10_1 : w9.cell? ⟨gb172, 1, none⟩ = some (.int .i64 a0_1) := (zi zH.1 1).trans rfl; have hfz10_0 := zh zH.1 0; have hfz10_1 := zh zH.1 1; have hcz11_0 : w9.cell? ⟨gb173, 0, none⟩ = some (.int .i64 0) := (zi zS.1 0).trans rfl; have hcz11_1 : w9.cell? ⟨gb173, 1, none⟩ = some (.int .i64 0) := (zi zS.1 1).trans rfl; have hfz11_0 := zh zS.1 0; have hfz11_1 := zh zS.1 1))
   refine bodyPost_ret (results_ct rfl _ _ gb173 26 #[.int .i64 0, .int .i64 0] (0, 0) _ rfl (by refine zq (cs := #[.int .i64 0, .int .i64 0]) ?_ 1 _ rfl; refine zq (cs := #[.int .i64 0, .int .i64 0]) ?_ 0 _ rfl; exact zS.1) kh rfl (by kernel_rfl)) rfl ?_
   exact ⟨by rfl, by repeat ((with_reducible first | exact HB.1 | refine ze ?_ yd.1))⟩
  ·
   rw [if_neg c4] at H
   have c4b0 : (a0_1 == 0) = false := beq_eq_false_iff_ne.mpr c4
   have c4b1 : (a0_1 != 0) = true := bne_iff_ne.mpr c4
   replace H := kf.mp H
   obtain ⟨⟨t175, t176⟩, A120, H⟩ := H
   replace H : (some (t175, t176, true)) = some (r1, r2, r3) := H
   have A12 := kz A120
   clear A120
   simp only [kb, Prod.mk.injEq] at H
   obtain ⟨rfl, rfl, rfl⟩ := H
   go_enter Try.func24, Try.ntmps24
   go_wp2_with (first | ((with_reducible refine zr (N := 1) rfl ?_); refine zp ?hg (N := 1) ?hd (cs := #[.int .i64 a0_0, .int .i64 a0_1]) (t := 26) ?hr ?_; (case hd => rfl); (case hg => rfl); (case hr => (go_simp; done)); intro gb172 hg w13 hbox hb; replace HB := kz (zl HB.1 hb); have zH := kz hbox; clear hb hbox hg) | ((with_reducible refine zr (N := 2) rfl ?_); refine zp ?hg (N := 2) ?hd (cs := #[.int .i64 0, .int .i64 0]) (t := 26) ?hr ?_; (case hd => rfl); (case hg => rfl); (case hr => (go_simp; done)); intro gb173 hg w14 hbox hb; have zS := kz hbox; have yd := kz ((by rw [hg]; exact (zk HB.1) : w.heap.size ≤ gb173)); replace HB := kz (zl HB.1 hb); have qW := kz ((by rw [hg]; exact ky (zm (g := gb172) (o := .cells #[.int .i64 a0_0, .int .i64 a0_1] 26 (0, 0)) zH.1) : gb172 ≠ gb173)); have qX := kz ((by rw [hg]; exact kj (zm (g := gb172) (o := .cells #[.int .i64 a0_0, .int .i64 a0_1] 26 (0, 0)) zH.1) : gb173 ≠ gb172)); replace zH := kz (zj (g := gb172) (o := .cells #[.int .i64 a0_0, .int .i64 a0_1] 26 (0, 0)) zH.1 hb); clear hb hbox hg; have hnb15 := qW.1; have hnc15 := qX.1; have hcz16_0 : w14.cell? ⟨gb172, 0, none⟩ = some (.int .i64 a0_0) := (zi zH.1 0).trans rfl; have hcz16_1 : w14.cell? ⟨gb172, 1, none⟩ = some (.int .i64 a0_1) := (zi zH.1 1).trans rfl; have hfz16_0 := zh zH.1 0; have hfz16_1 := zh zH.1 1) | ((with_reducible refine zs (f := 12) rfl ?_); refine zw (some 5) rfl rfl kx (by kernel_rfl) rfl #[.agg #[.int .i64 a0_0, .int .i64 a0_1]] rfl (by (try simp only [kg, ke, kd]); rfl) ?_; (with_reducible refine (spec_GoodPrefix.calls a0_0 a0_1 true _ A2.1).mono ?_); rintro e w17 ⟨rfl, hb⟩; refine ⟨_, rfl, ?_⟩; replace zH := kz (zj (g := gb172) (o := .cells #[.int .i64 a0_0, .int .i64 a0_1] 26 (0, 0)) zH.1 hb); replace zS := kz (zj (g := gb173) (o := .cells #[.int .i64 0, .int .i64 0] 26 (0, 0)) zS.1 hb); replace HB := kz (zl HB.1 hb); (try clear hb); (try clear hb2); (try clear hk); (try clear hi); have hcz18_0 : w17.cell? ⟨gb172, 0, none⟩ = some (.int .i64 a0_0) := (zi zH.1 0).trans rfl; have hcz18_1 : w17.cell? ⟨gb172, 1, none⟩ = some (.int .i64 a0_1) := (zi zH.1 1).trans rfl; have hfz18_0 := zh zH.1 0; have hfz18_1 := zh zH.1 1) | ((with_reducible refine zs (f := 44) rfl ?_); refine zw (some 14) rfl rfl Try.func44 (by kernel_rfl) rfl #[.agg #[.int .i64 a0_0, .int .i64 a0_1]] rfl (by (try simp only [kg, ke, kd]); rfl) ?_; (with_reducible refine (spec_l1Sibling.calls a0_0 a0_1 t175 t176 _ A12.1).mono ?_); rintro e w19 ⟨rfl, hb⟩; refine ⟨_, rfl, ?_⟩; replace zH := kz (zj (g := gb172) (o := .cells #[.int .i64 a0_0, .int .i64 a0_1] 26 (0, 0)) zH.1 hb); replace zS := kz (zj (g := gb173) (o := .cells #[.int .i64 0, .int .i64 0] 26 (0, 0)) zS.1 hb); replace HB := kz (zl HB.1 hb); (try clear hb); (try clear hb2); (try clear hk); (try clear hi); have hcz20_0 : w19.cell? ⟨gb173, 0, none⟩ = some (.int .i64 0) := (zi zS.1 0).trans rfl; have hcz20_1 : w19.cell? ⟨gb173, 1, none⟩ = some (.int .i64 0) := (zi zS.1 1).trans rfl; have hfz20_0 := zh zS.1 0; have hfz20_1 := zh zS.1 1))
   refine bodyPost_ret (results_ct rfl _ _ gb173 26 #[.int .i64 t175, .int .i64 t176] (0, 0) _ rfl (by refine zq (cs := #[.int .i64 t175, .int .i64 0]) ?_ 1 _ rfl; refine zq (cs := #[.int .i64 0, .int .i64 0]) ?_ 0 _ rfl; exact zS.1) kh rfl (by kernel_rfl)) rfl ?_
   exact ⟨by rfl, by repeat ((with_reducible first | exact HB.1 | refine ze ?_ yd.1))⟩
 ·
  replace c3 := Bool.eq_false_iff.mpr c3
  subst c3
  have H1 : (some (0, 0, false)) = some (r1, r2, r3) := by rw [if_neg (show ¬ (false = true) by decide)] at H; exact H
  clear H
  have H := H1
  clear H1
  simp only [kb, Prod.mk.injEq] at H
  obtain ⟨rfl, rfl, rfl⟩ := H
  go_enter Try.func24, Try.ntmps24
  go_wp2_with (first | ((with_reducible refine zr (N := 1) rfl ?_); refine zp ?hg (N := 1) ?hd (cs := #[.int .i64 a0_0, .int .i64 a0_1]) (t := 26) ?hr ?_; (case hd => rfl); (case hg => rfl); (case hr => (go_simp; done)); intro gb172 hg w21 hbox hb; replace HB := kz (zl HB.1 hb); have zH := kz hbox; clear hb hbox hg) | ((with_reducible refine zr (N := 2) rfl ?_); refine zp ?hg (N := 2) ?hd (cs := #[.int .i64 0, .int .i64 0]) (t := 26) ?hr ?_; (case hd => rfl); (case hg => rfl); (case hr => (go_simp; done)); intro gb173 hg w22 hbox hb; have zS := kz hbox; have yd := kz ((by rw [hg]; exact (zk HB.1) : w.heap.size ≤ gb173)); replace HB := kz (zl HB.1 hb); have qW := kz ((by rw [hg]; exact ky (zm (g := gb172) (o := .cells #[.int .i64 a0_0, .int .i64 a0_1] 26 (0, 0)) zH.1) : gb172 ≠ gb173)); have qX := kz ((by rw [hg]; exact kj (zm (g := gb172) (o := .cells #[.int .i64 a0_0, .int .i64 a0_1] 26 (0, 0)) zH.1) : gb173 ≠ gb172)); replace zH := kz (zj (g := gb172) (o := .cells #[.int .i64 a0_0, .int .i64 a0_1] 26 (0, 0)) zH.1 hb); clear hb hbox hg; have hnb23 := qW.1; have hnc23 := qX.1; have hcz24_0 : w22.cell? ⟨gb172, 0, none⟩ = some (.int .i64 a0_0) := (zi zH.1 0).trans rfl; have hcz24_1 : w22.cell? ⟨gb172, 1, none⟩ = some (.int .i64 a0_1) := (zi zH.1 1).trans rfl; have hfz24_0 := zh zH.1 0; have hfz24_1 := zh zH.1 1) | ((with_reducible refine zs (f := 12) rfl ?_); refine zw (some 5) rfl rfl kx (by kernel_rfl) rfl #[.agg #[.int .i64 a0_0, .int .i64 a0_1]] rfl (by (try simp only [kg, ke, kd]); rfl) ?_; (with_reducible refine (spec_GoodPrefix.calls a0_0 a0_1 false _ A2.1).mono ?_); rintro e w25 ⟨rfl, hb⟩; refine ⟨_, rfl, ?_⟩; replace zS := kz (zj (g := gb173) (o := .cells #[.int .i64 0, .int .i64 0] 26 (0, 0)) zS.1 hb); replace HB := kz (zl HB.1 hb); (try clear hb); (try clear hb2); (try clear hk); (try clear hi); have hcz26_0 : w25.cell? ⟨gb173, 0, none⟩ = some (.int .i64 0) := (zi zS.1 0).trans rfl; have hcz26_1 : w25.cell? ⟨gb173, 1, none⟩ = some (.int .i64 0) := (zi zS.1 1).trans rfl; have hfz26_0 := zh zS.1 0; have hfz26_1 := zh zS.1 1))
  refine bodyPost_ret (results_ct rfl _ _ gb173 26 #[.int .i64 0, .int .i64 0] (0, 0) _ rfl (by refine zq (cs := #[.int .i64 0, .int .i64 0]) ?_ 1 _ rfl; refine zq (cs := #[.int .i64 0, .int .i64 0]) ?_ 0 _ rfl; exact zS.1) kh rfl (by kernel_rfl)) rfl ?_
  exact ⟨by rfl, by repeat ((with_reducible first | exact HB.1 | refine ze ?_ yd.1))⟩

end Go.Proofs.Ytkollihfejkklaa.PFnHalves
