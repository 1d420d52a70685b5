/- Written by this session's own program over the kit's print: Lean functions that tell what Go functions answer, each with a proof that the call does so. No condition but what each statement says. -/
import Derived.Test.YtabejlfejlpkeaaYFnExactCutPrefixx0
import Derived.Test.YtabejlfejlpkeaaYFnExactCutPrefixx1
import Derived.Test.YtabejlfejlpkeaaYFnExactCutPrefixx3
namespace Go.Proofs.Ytabejlfejlpkeaa.PFnExactCutPrefix
open Go.RowKit Go.Proofs.YtabejlfejlpkeaaW.PrintWords Go.Proofs.YtabejlfejlpkeaaW.PrintLast Go.Proofs.YtabejlfejlpkeaaW.PrintMore
open Go.Proofs.YtabejlfejlpkeaaW.PrintLast renaming i64_w → zr, i32_w → zs, any_of → zu, take_ofW → zv, pure_ → zx, take_ → zy
open Go.Proofs.YtabejlfejlpkeaaW.PrintWords renaming blk_drewN → za, blk_alloc → zb, pw_below_drewN → zc, blk_drew → zd, below_set → ze, below_drew1 → zf, below_alloc → zg, blk_frozen → zh, blk_cell → zi, below_size → zj, blk_below → zk, below_step → zl, blk_lt → zm, cell_far → zn, box_event → zo, gate_dst → zp, blk_far → zq, blk_put → zt, Aside0 → zw
attribute [local go_sem] max2_int min2_int max_two min_two max_three min_three max_four min_four   -- for this text's walks alone
set_option linter.unusedVariables false
set_option linter.unusedSimpArgs false

attribute [local go_sem high] eqA45
/-! ### spec_l1Halves: function 78 -/
def spec_l1Halves.f (a0_0 : Int) (a0_1 : Int) : Option (Int × Int × Int × Int) := (spec_l1Size.f a0_0 (wrap64 (a0_1 + 1))).bind fun t138 => (some (a0_0, wrap64 (a0_1 + 1), wrap64 (a0_0 + t138), wrap64 (a0_1 + 1)))
def spec_l1Halves.T2 : Bool × List (List Nat × List Nat) := (true, [([], []), ([], []), ([1], [1]), ([], []), ([3], [3]), ([2, 4], [2, 4]), ([], []), ([6], [6]), ([7], [7]), ([5, 8], [5, 8]), ([0, 4, 0], [0]), ([9, 10, 0, 1, 2, 3, 4, 5, 6, 7, 8, 9, 10], [9])])
def spec_l1Halves.B2 : List Nat := [0, 0, 2, 0, 8, 30, 0, 64, 192, 510, 25, 2047]
theorem spec_l1Halves.tab2 : rtab .any (opsOf Try.f78 2) = spec_l1Halves.T2 := by kernel_rfl
theorem spec_l1Halves.bits2 : waitsOk spec_l1Halves.T2.2 spec_l1Halves.B2 = true := by kernel_rfl
set_option maxHeartbeats 8000000 in
set_option maxRecDepth 100000 in
theorem spec_l1Halves.calls (a0_0 : Int) (a0_1 : Int) (r1 : Int) (r2 : Int) (r3 : Int) (r4 : Int) (w : World) (h : spec_l1Halves.f a0_0 a0_1 = some (r1, r2, r3, r4)) :
  Calls Try.prog 78 #[.agg #[.int .i64 a0_0, .int .i64 a0_1]] w fun e w' => e = .returned (.tuple #[.agg #[.int .i64 r1, .int .i64 r2], .agg #[.int .i64 r3, .int .i64 r4]]) ∧ Below w.heap.size w w' := by
 have hu45 := Try.underlying45
 have HB := Aside0.mk (Below.refl w.heap.size w)
 have H : ((spec_l1Size.f a0_0 (wrap64 (a0_1 + 1))).bind fun t138 => (some (a0_0, wrap64 (a0_1 + 1), wrap64 (a0_0 + t138), wrap64 (a0_1 + 1)))) = some (r1, r2, r3, r4) := h
 clear h
 replace H := Option.bind_eq_some_iff.mp H
 obtain ⟨t138, A20, H⟩ := H
 replace H : (some (a0_0, wrap64 (a0_1 + 1), wrap64 (a0_0 + t138), wrap64 (a0_1 + 1))) = some (r1, r2, r3, r4) := H
 have A2 := Aside0.mk A20
 clear A20
 simp only [Option.some.injEq, Prod.mk.injEq] at H
 obtain ⟨rfl, rfl, rfl, rfl⟩ := H
 go_enter Try.func78, Try.ntmps78
 try go_wp2_with (first | ((with_reducible refine zp (N := 1) rfl ?_); refine zo ?hg (N := 1) ?hd (cs := #[.int .i64 a0_0, .int .i64 a0_1]) (t := 45) ?hr ?_; (case hd => rfl); (case hg => rfl); (case hr => first | (go_simp; done) | (go_simp; rfl)); intro gb134 hg w3 hbox hb; have n0_ := Aside0.mk (zl (by repeat (first | (with_reducible first | exact HB.1 | apply zg | apply zc | apply zf) | exact HB.1)) hb); have n1_ := Aside0.mk (hbox); have n2_ := Aside0.mk ((by rw [hg]; exact (zj (by repeat (first | (with_reducible first | exact HB.1 | apply zg | apply zc | apply zf) | exact HB.1))) : w.heap.size ≤ gb134)); have n3_ := Aside0.mk ((by rw [hg]; exact (zj (by repeat (first | (with_reducible first | exact HB.1 | apply zg | apply zc | apply zf) | exact HB.1))) : w.heap.size ≤ gb134)); clear HB; have HB := n0_; have zB := n1_; have GW134 := n2_; have zY := n3_; clear n0_ n1_ n2_ n3_; clear hb hbox hg) | ((with_reducible refine zp (N := 2) rfl ?_); refine zo ?hg (N := 2) ?hd (cs := #[.int .i64 0, .int .i64 0]) (t := 45) ?hr ?_; (case hd => rfl); (case hg => rfl); (case hr => first | (go_simp; done) | (go_simp; rfl)); intro gb135 hg w4 hbox hb; have n0_ := Aside0.mk (zk (g := gb134) (o := .cells #[.int .i64 a0_0, .int .i64 a0_1] 45 (0, 0)) (by (with_reducible repeat (first | refine za ?_ _ | refine zd ?_ | refine zb ?_ _)); exact zB.1) hb); have n1_ := Aside0.mk (zl (by repeat (first | (with_reducible first | exact HB.1 | apply zg | apply zc | apply zf | refine ze ?_ zY.1) | exact HB.1)) hb); have n2_ := Aside0.mk (hbox); have n3_ := Aside0.mk ((by rw [hg]; exact (zj (by repeat (first | (with_reducible first | exact HB.1 | apply zg | apply zc | apply zf | refine ze ?_ zY.1) | exact HB.1))) : w.heap.size ≤ gb135)); have n4_ := Aside0.mk ((by rw [hg]; exact (zj (by repeat (first | (with_reducible first | exact HB.1 | apply zg | apply zc | apply zf | refine ze ?_ zY.1) | exact HB.1))) : w.heap.size ≤ gb135)); have n5_ := Aside0.mk ((by rw [hg]; exact Nat.ne_of_lt (zm (g := gb134) (o := .cells #[.int .i64 a0_0, .int .i64 a0_1] 45 (0, 0)) (by (with_reducible repeat (first | refine za ?_ _ | refine zd ?_ | refine zb ?_ _)); exact zB.1)) : gb134 ≠ gb135)); have n6_ := Aside0.mk ((by rw [hg]; exact Nat.ne_of_gt (zm (g := gb134) (o := .cells #[.int .i64 a0_0, .int .i64 a0_1] 45 (0, 0)) (by (with_reducible repeat (first | refine za ?_ _ | refine zd ?_ | refine zb ?_ _)); exact zB.1)) : gb135 ≠ gb134)); clear zB; clear HB; have zB := n0_; have HB := n1_; have zD := n2_; have GW135 := n3_; have qa := n4_; have zL := n5_; have NB135_134 := n6_; clear n0_ n1_ n2_ n3_ n4_ n5_ n6_; clear hb hbox hg) | ((with_reducible refine zp (N := 3) rfl ?_); refine zo ?hg (N := 3) ?hd (cs := #[.int .i64 0, .int .i64 0]) (t := 45) ?hr ?_; (case hd => rfl); (case hg => rfl); (case hr => first | (go_simp; done) | (go_simp; rfl)); intro gb136 hg w5 hbox hb; have n0_ := Aside0.mk (zk (g := gb134) (o := .cells #[.int .i64 a0_0, .int .i64 a0_1] 45 (0, 0)) (by (with_reducible repeat (first | refine za ?_ _ | refine zd ?_ | refine zb ?_ _)); exact zB.1) hb); have n1_ := Aside0.mk (zk (g := gb135) (o := .cells #[.int .i64 0, .int .i64 0] 45 (0, 0)) (by (with_reducible repeat (first | refine za ?_ _ | refine zd ?_ | refine zb ?_ _)); exact zD.1) hb); have n2_ := Aside0.mk (zl (by repeat (first | (with_reducible first | exact HB.1 | apply zg | apply zc | apply zf | refine ze ?_ zY.1 | refine ze ?_ qa.1) | exact HB.1)) hb); have n3_ := Aside0.mk (hbox); have n4_ := Aside0.mk ((by rw [hg]; exact (zj (by repeat (first | (with_reducible first | exact HB.1 | apply zg | apply zc | apply zf | refine ze ?_ zY.1 | refine ze ?_ qa.1) | exact HB.1))) : w.heap.size ≤ gb136)); have n5_ := Aside0.mk ((by rw [hg]; exact (zj (by repeat (first | (with_reducible first | exact HB.1 | apply zg | apply zc | apply zf | refine ze ?_ zY.1 | refine ze ?_ qa.1) | exact HB.1))) : w.heap.size ≤ gb136)); have n6_ := Aside0.mk ((by rw [hg]; exact Nat.ne_of_lt (zm (g := gb134) (o := .cells #[.int .i64 a0_0, .int .i64 a0_1] 45 (0, 0)) (by (with_reducible repeat (first | refine za ?_ _ | refine zd ?_ | refine zb ?_ _)); exact zB.1)) : gb134 ≠ gb136)); have n7_ := Aside0.mk ((by rw [hg]; exact Nat.ne_of_gt (zm (g := gb134) (o := .cells #[.int .i64 a0_0, .int .i64 a0_1] 45 (0, 0)) (by (with_reducible repeat (first | refine za ?_ _ | refine zd ?_ | refine zb ?_ _)); exact zB.1)) : gb136 ≠ gb134)); have n8_ := Aside0.mk ((by rw [hg]; exact Nat.ne_of_lt (zm (g := gb135) (o := .cells #[.int .i64 0, .int .i64 0] 45 (0, 0)) (by (with_reducible repeat (first | refine za ?_ _ | refine zd ?_ | refine zb ?_ _)); exact zD.1)) : gb135 ≠ gb136)); have n9_ := Aside0.mk ((by rw [hg]; exact Nat.ne_of_gt (zm (g := gb135) (o := .cells #[.int .i64 0, .int .i64 0] 45 (0, 0)) (by (with_reducible repeat (first | refine za ?_ _ | refine zd ?_ | refine zb ?_ _)); exact zD.1)) : gb136 ≠ gb135)); clear zB; clear zD; clear HB; have zB := n0_; have zD := n1_; have HB := n2_; have zG := n3_; have GW136 := n4_; have qe := n5_; have zM := n6_; have NB136_134 := n7_; have zS := n8_; have zT := n9_; clear n0_ n1_ n2_ n3_ n4_ n5_ n6_ n7_ n8_ n9_; clear hb hbox hg; have hnb6 := zL.1; have hnc6 := NB135_134.1; have hnb7 := zM.1; have hnc7 := NB136_134.1; have hcz8_0 : w5.cell? ⟨gb134, 0, none⟩ = some (.int .i64 a0_0) := (zi zB.1 0).trans rfl; have hcz8_1 : w5.cell? ⟨gb134, 1, none⟩ = some (.int .i64 a0_1) := (zi zB.1 1).trans rfl; have hfz8_0 := zh zB.1 0; have hfz8_1 := zh zB.1 1) | ((with_reducible refine zp (N := 4) rfl ?_); refine zo ?hg (N := 4) ?hd (cs := #[.int .i64 0, .int .i64 0]) (t := 45) ?hr ?_; (case hd => rfl); (case hg => rfl); (case hr => first | (go_simp; done) | (go_simp; rfl)); intro gb137 hg w9 hbox hb; have n0_ := Aside0.mk (zk (g := gb134) (o := .cells #[.int .i64 a0_0, .int .i64 a0_1] 45 (0, 0)) (by (with_reducible repeat (first | refine za ?_ _ | refine zd ?_ | refine zb ?_ _)); exact zB.1) hb); have n1_ := Aside0.mk (zk (g := gb135) (o := .cells #[.int .i64 0, .int .i64 0] 45 (0, 0)) (by (with_reducible repeat (first | refine za ?_ _ | refine zd ?_ | refine zb ?_ _)); exact zD.1) hb); have n2_ := Aside0.mk (zk (g := gb136) (o := .cells #[.int .i64 0, .int .i64 0] 45 (0, 0)) (by (with_reducible repeat (first | refine za ?_ _ | refine zd ?_ | refine zb ?_ _)); exact zG.1) hb); have n3_ := Aside0.mk (zl (by repeat (first | (with_reducible first | exact HB.1 | apply zg | apply zc | apply zf | refine ze ?_ zY.1 | refine ze ?_ qa.1 | refine ze ?_ qe.1) | exact HB.1)) hb); have n4_ := Aside0.mk (hbox); have n5_ := Aside0.mk ((by rw [hg]; exact (zj (by repeat (first | (with_reducible first | exact HB.1 | apply zg | apply zc | apply zf | refine ze ?_ zY.1 | refine ze ?_ qa.1 | refine ze ?_ qe.1) | exact HB.1))) : w.heap.size ≤ gb137)); have n6_ := Aside0.mk ((by rw [hg]; exact (zj (by repeat (first | (with_reducible first | exact HB.1 | apply zg | apply zc | apply zf | refine ze ?_ zY.1 | refine ze ?_ qa.1 | refine ze ?_ qe.1) | exact HB.1))) : w.heap.size ≤ gb137)); have n7_ := Aside0.mk ((by rw [hg]; exact Nat.ne_of_lt (zm (g := gb134) (o := .cells #[.int .i64 a0_0, .int .i64 a0_1] 45 (0, 0)) (by (with_reducible repeat (first | refine za ?_ _ | refine zd ?_ | refine zb ?_ _)); exact zB.1)) : gb134 ≠ gb137)); have n8_ := Aside0.mk ((by rw [hg]; exact Nat.ne_of_gt (zm (g := gb134) (o := .cells #[.int .i64 a0_0, .int .i64 a0_1] 45 (0, 0)) (by (with_reducible repeat (first | refine za ?_ _ | refine zd ?_ | refine zb ?_ _)); exact zB.1)) : gb137 ≠ gb134)); have n9_ := Aside0.mk ((by rw [hg]; exact Nat.ne_of_lt (zm (g := gb135) (o := .cells #[.int .i64 0, .int .i64 0] 45 (0, 0)) (by (with_reducible repeat (first | refine za ?_ _ | refine zd ?_ | refine zb ?_ _)); exact zD.1)) : gb135 ≠ gb137)); have n10_ := Aside0.mk ((by rw [hg]; exact Nat.ne_of_gt (zm (g := gb135) (o := .cells #[.int .i64 0, .int .i64 0] 45 (0, 0)) (by (with_reducible repeat (first | refine za ?_ _ | refine zd ?_ | refine zb ?_ _)); exact zD.1)) : gb137 ≠ gb135)); have n11_ := Aside0.mk ((by rw [hg]; exact Nat.ne_of_lt (zm (g := gb136) (o := .cells #[.int .i64 0, .int .i64 0] 45 (0, 0)) (by (with_reducible repeat (first | refine za ?_ _ | refine zd ?_ | refine zb ?_ _)); exact zG.1)) : gb136 ≠ gb137)); have n12_ := Aside0.mk ((by rw [hg]; exact Nat.ne_of_gt (zm (g := gb136) (o := .cells #[.int .i64 0, .int .i64 0] 45 (0, 0)) (by (with_reducible repeat (first | refine za ?_ _ | refine zd ?_ | refine zb ?_ _)); exact zG.1)) : gb137 ≠ gb136)); clear zB; clear zD; clear zG; clear HB; have zB := n0_; have zD := n1_; have zG := n2_; have HB := n3_; have zJ := n4_; have GW137 := n5_; have GE137 := n6_; have NB134_137 := n7_; have NB137_134 := n8_; have zU := n9_; have zN := n10_; have zV := n11_; have zO := n12_; clear n0_ n1_ n2_ n3_ n4_ n5_ n6_ n7_ n8_ n9_ n10_ n11_ n12_; clear hb hbox hg; have hnb10 := NB137_134.1; have hnc10 := NB134_137.1; have hnb11 := zN.1; have hnc11 := zU.1; have hnb12 := zO.1; have hnc12 := zV.1; have hcz13_0 : w9.cell? ⟨gb137, 0, none⟩ = some (.int .i64 0) := (zi zJ.1 0).trans rfl; have hcz13_1 : w9.cell? ⟨gb137, 1, none⟩ = some (.int .i64 0) := (zi zJ.1 1).trans rfl; have hfz13_0 := zh zJ.1 0; have hfz13_1 := zh zJ.1 1))
 have n0_ : zw (((w9.setCell ⟨gb137, 0, none⟩ (.int .i64 a0_0)).setCell ⟨gb137, 1, none⟩ (.int .i64 (wrap64 (a0_1 + 1)))).heap[gb134]? = some (.cells #[.int .i64 a0_0, .int .i64 a0_1] 45 (0, 0))) := ⟨by (with_reducible repeat (first | refine za ?_ _ | refine zd ?_ | refine zb ?_ _)); refine zq ?_ NB134_137.1 _; (with_reducible repeat (first | refine za ?_ _ | refine zd ?_ | refine zb ?_ _)); refine zq ?_ NB134_137.1 _; (with_reducible repeat (first | refine za ?_ _ | refine zd ?_ | refine zb ?_ _)); exact zB.1⟩
 have n1_ : zw (((w9.setCell ⟨gb137, 0, none⟩ (.int .i64 a0_0)).setCell ⟨gb137, 1, none⟩ (.int .i64 (wrap64 (a0_1 + 1)))).heap[gb135]? = some (.cells #[.int .i64 0, .int .i64 0] 45 (0, 0))) := ⟨by (with_reducible repeat (first | refine za ?_ _ | refine zd ?_ | refine zb ?_ _)); refine zq ?_ zU.1 _; (with_reducible repeat (first | refine za ?_ _ | refine zd ?_ | refine zb ?_ _)); refine zq ?_ zU.1 _; (with_reducible repeat (first | refine za ?_ _ | refine zd ?_ | refine zb ?_ _)); exact zD.1⟩
 have n2_ : zw (((w9.setCell ⟨gb137, 0, none⟩ (.int .i64 a0_0)).setCell ⟨gb137, 1, none⟩ (.int .i64 (wrap64 (a0_1 + 1)))).heap[gb136]? = some (.cells #[.int .i64 0, .int .i64 0] 45 (0, 0))) := ⟨by (with_reducible repeat (first | refine za ?_ _ | refine zd ?_ | refine zb ?_ _)); refine zq ?_ zV.1 _; (with_reducible repeat (first | refine za ?_ _ | refine zd ?_ | refine zb ?_ _)); refine zq ?_ zV.1 _; (with_reducible repeat (first | refine za ?_ _ | refine zd ?_ | refine zb ?_ _)); exact zG.1⟩
 have n3_ : zw (((w9.setCell ⟨gb137, 0, none⟩ (.int .i64 a0_0)).setCell ⟨gb137, 1, none⟩ (.int .i64 (wrap64 (a0_1 + 1)))).heap[gb137]? = some (.cells #[.int .i64 a0_0, .int .i64 (wrap64 (a0_1 + 1))] 45 (0, 0))) := ⟨by (with_reducible repeat (first | refine za ?_ _ | refine zd ?_ | refine zb ?_ _)); refine zt (cs := #[.int .i64 a0_0, .int .i64 0]) ?_ 1 _ rfl; (with_reducible repeat (first | refine za ?_ _ | refine zd ?_ | refine zb ?_ _)); refine zt (cs := #[.int .i64 0, .int .i64 0]) ?_ 0 _ rfl; (with_reducible repeat (first | refine za ?_ _ | refine zd ?_ | refine zb ?_ _)); exact zJ.1⟩
 have n4_ : zw (Below w.heap.size w ((w9.setCell ⟨gb137, 0, none⟩ (.int .i64 a0_0)).setCell ⟨gb137, 1, none⟩ (.int .i64 (wrap64 (a0_1 + 1))))) := ⟨by repeat (first | (with_reducible first | exact HB.1 | apply zg | apply zc | apply zf | refine ze ?_ zY.1 | refine ze ?_ qa.1 | refine ze ?_ qe.1 | refine ze ?_ GE137.1) | exact HB.1)⟩
 (try clear zB)
 (try clear zD)
 (try clear zG)
 (try clear zJ)
 (try clear HB)
 generalize ((w9.setCell ⟨gb137, 0, none⟩ (.int .i64 a0_0)).setCell ⟨gb137, 1, none⟩ (.int .i64 (wrap64 (a0_1 + 1)))) = w14 at n0_ n1_ n2_ n3_ n4_ ⊢
 have zB := n0_
 have zD := n1_
 have zG := n2_
 have zJ := n3_
 have HB := n4_
 clear n0_ n1_ n2_ n3_ n4_
 have n0_ := Aside0.mk (zd zB.1)
 have n1_ := Aside0.mk (zd zD.1)
 have n2_ := Aside0.mk (zd zG.1)
 have n3_ := Aside0.mk (zd zJ.1)
 have n4_ := Aside0.mk (zf HB.1)
 clear zB
 clear zD
 clear zG
 clear zJ
 clear HB
 have zB := n0_
 have zD := n1_
 have zG := n2_
 have zJ := n3_
 have HB := n4_
 clear n0_ n1_ n2_ n3_ n4_
 refine start_ (n := 12) (S := fun w' => w'.cell? ⟨gb137, 0, none⟩ = some (.int .i64 a0_0) ∧ w'.cell? ⟨gb137, 1, none⟩ = some (.int .i64 (wrap64 (a0_1 + 1))) ∧ w'.cell? ⟨gb134, 0, none⟩ = some (.int .i64 a0_0) ∧ w'.cell? ⟨gb134, 1, none⟩ = some (.int .i64 a0_1)) (ds := []) #[false, false, false, false, false, false, false, false, false, false, false, false] (by kernel_rfl) rfl rfl ⟨(zi zJ.1 0).trans rfl, (zi zJ.1 1).trans rfl, (zi zB.1 0).trans rfl, (zi zB.1 1).trans rfl⟩ (fun hHeld => ?_); refine with_tabW spec_l1Halves.tab2 spec_l1Halves.bits2 (fun HT_ HW_ => ?_)
 generalize w14.drew = w15 at zB zD zG zJ HB hHeld ⊢
 refine zx (i := 1) (N := some 12) (v := ?_) (a' := ?_) #[false, true, false, false, false, false, false, false, false, false, false, false] rfl rfl (zu HT_.1 (by kernel_rfl)) (fun _ _ _ h => h) (Or.inl ⟨by rfl, ?_⟩) ?_ ?_
 rotate_left
 ·
  intro w'
  go_simp
  with_reducible rfl
 rotate_left
 ·
  simp only [Act.put, List.setIfInBounds_toArray, List.set_cons_zero, List.set_cons_succ, zr, zs]
  rfl
 refine zx (i := 6) (N := some 17) (v := ?_) (a' := ?_) #[false, true, false, false, false, false, true, false, false, false, false, false] rfl rfl (zu HT_.1 (by kernel_rfl)) (fun _ _ _ h => h) (Or.inl ⟨by rfl, ?_⟩) ?_ ?_
 rotate_left
 ·
  intro w'
  go_simp
  with_reducible rfl
 rotate_left
 ·
  simp only [Act.put, List.setIfInBounds_toArray, List.set_cons_zero, List.set_cons_succ, zr, zs]
  rfl
 refine zy (i := 0) (N := some 11) (v := ?_) (a' := ?_) #[true, true, false, false, false, false, true, false, false, false, false, false] rfl rfl (zv HT_.1 HW_.1 (by kernel_rfl)) (fun _ _ _ h => h) (Or.inl ⟨by rfl, ?_⟩) hHeld ?_ ?_
 rotate_left
 ·
  rintro w' ⟨s0, s1, s2, s3⟩
  go_simp
  with_reducible rfl
 rotate_left
 ·
  simp only [Act.put, List.setIfInBounds_toArray, List.set_cons_zero, List.set_cons_succ, zr, zs]
  rfl
 refine zy (i := 2) (N := some 13) (v := ?_) (a' := ?_) #[true, true, true, false, false, false, true, false, false, false, false, false] rfl rfl (zv HT_.1 HW_.1 (by kernel_rfl)) (fun _ _ _ h => h) (Or.inl ⟨by rfl, ?_⟩) hHeld ?_ ?_
 rotate_left
 ·
  rintro w' ⟨s0, s1, s2, s3⟩
  go_simp
  with_reducible rfl
 rotate_left
 ·
  simp only [Act.put, List.setIfInBounds_toArray, List.set_cons_zero, List.set_cons_succ, zr, zs]
  rfl
 refine zy (i := 3) (N := some 14) (v := ?_) (a' := ?_) #[true, true, true, true, false, false, true, false, false, false, false, false] rfl rfl (zv HT_.1 HW_.1 (by kernel_rfl)) (fun _ _ _ h => h) (Or.inl ⟨by rfl, ?_⟩) hHeld ?_ ?_
 rotate_left
 ·
  rintro w' ⟨s0, s1, s2, s3⟩
  go_simp
  with_reducible rfl
 rotate_left
 ·
  simp only [Act.put, List.setIfInBounds_toArray, List.set_cons_zero, List.set_cons_succ, zr, zs]
  rfl
 refine zy (i := 7) (N := some 18) (v := ?_) (a' := ?_) #[true, true, true, true, false, false, true, true, false, false, false, false] rfl rfl (zv HT_.1 HW_.1 (by kernel_rfl)) (fun _ _ _ h => h) (Or.inl ⟨by rfl, ?_⟩) hHeld ?_ ?_
 rotate_left
 ·
  rintro w' ⟨s0, s1, s2, s3⟩
  go_simp
  with_reducible rfl
 rotate_left
 ·
  simp only [Act.put, List.setIfInBounds_toArray, List.set_cons_zero, List.set_cons_succ, zr, zs]
  rfl
 refine zx (i := 8) (N := some 19) (v := ?_) (a' := ?_) #[true, true, true, true, false, false, true, true, true, false, false, false] rfl rfl (zu HT_.1 (by kernel_rfl)) (fun _ _ _ h => h) (Or.inl ⟨by rfl, ?_⟩) ?_ ?_
 rotate_left
 ·
  intro w'
  go_simp
  with_reducible rfl
 rotate_left
 ·
  simp only [Act.put, List.setIfInBounds_toArray, List.set_cons_zero, List.set_cons_succ, zr, zs]
  rfl
 refine one_ (i := 4) (N := some 15) #[true, true, true, true, true, false, true, true, true, false, false, false] rfl rfl (one_of HT_.1 (by kernel_rfl)) (by decide) (fun K hK => ?_)
 refine goes_ Try.func62 (by kernel_rfl) rfl #[.agg #[.int .i64 a0_0, .int .i64 (wrap64 (a0_1 + 1))]] (by rfl) rfl rfl (by (try simp only [List.map_toArray, List.map_cons, List.map_nil]); first | done | rfl | (simp only [List.length_drop, List.length_take]; rfl)) ?_
 with_reducible refine (spec_l1Size.calls a0_0 (wrap64 (a0_1 + 1)) t138 _ A2.1).mono ?_
 rintro e w16 ⟨rfl, hb⟩
 refine ⟨_, rfl, ?_⟩
 have n0_ := Aside0.mk (zk (g := gb134) (o := .cells #[.int .i64 a0_0, .int .i64 a0_1] 45 (0, 0)) (by (with_reducible repeat (first | refine za ?_ _ | refine zd ?_ | refine zb ?_ _)); exact zB.1) hb)
 have n1_ := Aside0.mk (zk (g := gb135) (o := .cells #[.int .i64 0, .int .i64 0] 45 (0, 0)) (by (with_reducible repeat (first | refine za ?_ _ | refine zd ?_ | refine zb ?_ _)); exact zD.1) hb)
 have n2_ := Aside0.mk (zk (g := gb136) (o := .cells #[.int .i64 0, .int .i64 0] 45 (0, 0)) (by (with_reducible repeat (first | refine za ?_ _ | refine zd ?_ | refine zb ?_ _)); exact zG.1) hb)
 have n3_ := Aside0.mk (zk (g := gb137) (o := .cells #[.int .i64 a0_0, .int .i64 (wrap64 (a0_1 + 1))] 45 (0, 0)) (by (with_reducible repeat (first | refine za ?_ _ | refine zd ?_ | refine zb ?_ _)); exact zJ.1) hb)
 have n4_ := Aside0.mk (zl (by repeat (first | (with_reducible first | exact HB.1 | apply zg | apply zc | apply zf | refine ze ?_ zY.1 | refine ze ?_ qa.1 | refine ze ?_ qe.1 | refine ze ?_ GE137.1) | exact HB.1)) hb)
 clear zB
 clear zD
 clear zG
 clear zJ
 clear HB
 have zB := n0_
 have zD := n1_
 have zG := n2_
 have zJ := n3_
 have HB := n4_
 clear n0_ n1_ n2_ n3_ n4_
 (try clear hb)
 (try clear hb2)
 (try clear hk)
 (try clear hi)
 refine hK.out _ _ ⟨(zi zJ.1 0).trans rfl, (zi zJ.1 1).trans rfl, (zi zB.1 0).trans rfl, (zi zB.1 1).trans rfl⟩ (fun hHeld => ?_)
 clear hK K
 refine norm_ (a' := ?_) ?_ ?_
 rotate_left
 ·
  show Act.put _ (some 15) _ = _
  simp only [Act.put, List.setIfInBounds_toArray, List.set_cons_zero, List.set_cons_succ, zr, zs]
  rfl
 refine zx (i := 5) (N := some 16) (v := ?_) (a' := ?_) #[true, true, true, true, true, true, true, true, true, false, false, false] rfl rfl (zu HT_.1 (by kernel_rfl)) (fun _ _ _ h => h) (Or.inl ⟨by rfl, ?_⟩) ?_ ?_
 rotate_left
 ·
  intro w'
  go_simp
  with_reducible rfl
 rotate_left
 ·
  simp only [Act.put, List.setIfInBounds_toArray, List.set_cons_zero, List.set_cons_succ, zr, zs]
  rfl
 refine zx (i := 9) (N := some 20) (v := ?_) (a' := ?_) #[true, true, true, true, true, true, true, true, true, true, false, false] rfl rfl (zu HT_.1 (by kernel_rfl)) (fun _ _ _ h => h) (Or.inl ⟨by rfl, ?_⟩) ?_ ?_
 rotate_left
 ·
  intro w'
  go_simp
  with_reducible rfl
 rotate_left
 ·
  simp only [Act.put, List.setIfInBounds_toArray, List.set_cons_zero, List.set_cons_succ, zr, zs]
  rfl
 refine one_ (i := 10) (N := none) #[true, true, true, true, true, true, true, true, true, true, true, false] rfl rfl (one_of HT_.1 (by kernel_rfl)) (by decide) (fun K hK => ?_)
 have hs17 : w16.cell? ⟨gb135, 0, none⟩ = some (.int .i64 0) := (zi zD.1 0).trans rfl
 have hfs17 := zh zD.1 0
 have hns17_0 := zL.1
 have hns17_2 := zT.1
 have hns17_3 := zN.1
 have hms17_0 := NB135_134.1
 have hms17_2 := zS.1
 have hms17_3 := zU.1
 have hs18 : w16.cell? ⟨gb135, 1, none⟩ = some (.int .i64 0) := (zi zD.1 1).trans rfl
 have hfs18 := zh zD.1 1
 have hns18_0 := zL.1
 have hns18_2 := zT.1
 have hns18_3 := zN.1
 have hms18_0 := NB135_134.1
 have hms18_2 := zS.1
 have hms18_3 := zU.1
 refine skip_ (w1 := ?_) (by rfl) rfl ?_ ?_
 rotate_left
 ·
  go_simp
  rfl
 refine hK.out _ _ ⟨((zn (p := ⟨gb135, _, none⟩) zN.1 _).trans (((zn (p := ⟨gb135, _, none⟩) zN.1 _).trans (hHeld.1)))), ((zn (p := ⟨gb135, _, none⟩) zN.1 _).trans (((zn (p := ⟨gb135, _, none⟩) zN.1 _).trans (hHeld.2.1)))), ((zn (p := ⟨gb135, _, none⟩) zL.1 _).trans (((zn (p := ⟨gb135, _, none⟩) zL.1 _).trans (hHeld.2.2.1)))), ((zn (p := ⟨gb135, _, none⟩) zL.1 _).trans (((zn (p := ⟨gb135, _, none⟩) zL.1 _).trans (hHeld.2.2.2))))⟩ (fun hHeld => ?_)
 clear hK K
 refine one_ (i := 11) (N := none) #[true, true, true, true, true, true, true, true, true, true, true, true] rfl rfl (one_of HT_.1 (by kernel_rfl)) (by decide) (fun K hK => ?_)
 have hs19 : w16.cell? ⟨gb136, 0, none⟩ = some (.int .i64 0) := (zi zG.1 0).trans rfl
 have hfs19 := zh zG.1 0
 have hns19_0 := zM.1
 have hns19_1 := zS.1
 have hns19_3 := zO.1
 have hms19_0 := NB136_134.1
 have hms19_1 := zT.1
 have hms19_3 := zV.1
 have hs20 : w16.cell? ⟨gb136, 1, none⟩ = some (.int .i64 0) := (zi zG.1 1).trans rfl
 have hfs20 := zh zG.1 1
 have hns20_0 := zM.1
 have hns20_1 := zS.1
 have hns20_3 := zO.1
 have hms20_0 := NB136_134.1
 have hms20_1 := zT.1
 have hms20_3 := zV.1
 refine skip_ (w1 := ?_) (by rfl) rfl ?_ ?_
 rotate_left
 ·
  go_simp
  rfl
 refine hK.out _ _ ⟨((zn (p := ⟨gb136, _, none⟩) zO.1 _).trans (((zn (p := ⟨gb136, _, none⟩) zO.1 _).trans (hHeld.1)))), ((zn (p := ⟨gb136, _, none⟩) zO.1 _).trans (((zn (p := ⟨gb136, _, none⟩) zO.1 _).trans (hHeld.2.1)))), ((zn (p := ⟨gb136, _, none⟩) zM.1 _).trans (((zn (p := ⟨gb136, _, none⟩) zM.1 _).trans (hHeld.2.2.1)))), ((zn (p := ⟨gb136, _, none⟩) zM.1 _).trans (((zn (p := ⟨gb136, _, none⟩) zM.1 _).trans (hHeld.2.2.2))))⟩ (fun hHeld => ?_)
 clear hK K
 refine done_ (done_of HT_.1 (by kernel_rfl)) ?_
 try go_wp2
 refine bodyPost_ret (results_cc rfl _ _ gb135 gb136 45 45 #[.int .i64 a0_0, .int .i64 (wrap64 (a0_1 + 1))] #[.int .i64 (wrap64 (a0_0 + t138)), .int .i64 (wrap64 (a0_1 + 1))] (0, 0) (0, 0) _ _ rfl (by (with_reducible repeat (first | refine za ?_ _ | refine zd ?_ | refine zb ?_ _)); refine zq ?_ zS.1 _; (with_reducible repeat (first | refine za ?_ _ | refine zd ?_ | refine zb ?_ _)); refine zq ?_ zS.1 _; (with_reducible repeat (first | refine za ?_ _ | refine zd ?_ | refine zb ?_ _)); refine zt (cs := #[.int .i64 a0_0, .int .i64 0]) ?_ 1 _ rfl; (with_reducible repeat (first | refine za ?_ _ | refine zd ?_ | refine zb ?_ _)); refine zt (cs := #[.int .i64 0, .int .i64 0]) ?_ 0 _ rfl; (with_reducible repeat (first | refine za ?_ _ | refine zd ?_ | refine zb ?_ _)); exact zD.1) Try.underlying45 rfl (by kernel_rfl) rfl (by (with_reducible repeat (first | refine za ?_ _ | refine zd ?_ | refine zb ?_ _)); refine zt (cs := #[.int .i64 (wrap64 (a0_0 + t138)), .int .i64 0]) ?_ 1 _ rfl; (with_reducible repeat (first | refine za ?_ _ | refine zd ?_ | refine zb ?_ _)); refine zt (cs := #[.int .i64 0, .int .i64 0]) ?_ 0 _ rfl; (with_reducible repeat (first | refine za ?_ _ | refine zd ?_ | refine zb ?_ _)); refine zq ?_ zT.1 _; (with_reducible repeat (first | refine za ?_ _ | refine zd ?_ | refine zb ?_ _)); refine zq ?_ zT.1 _; (with_reducible repeat (first | refine za ?_ _ | refine zd ?_ | refine zb ?_ _)); exact zG.1) Try.underlying45 rfl (by kernel_rfl)) rfl ?_
 exact ⟨by first | rfl | (simp [errW_none, errW_some] <;> rfl) | (simp [*, errW_none, errW_some] <;> rfl), by repeat (first | (with_reducible first | exact HB.1 | apply zg | apply zc | apply zf | refine ze ?_ zY.1 | refine ze ?_ qa.1 | refine ze ?_ qe.1 | refine ze ?_ GE137.1) | exact HB.1)⟩

/-! ### spec_l1Parent: function 79 -/
def spec_l1Parent.f (a0_0 : Int) (a0_1 : Int) : Option (Int × Int) := (spec_l1Size.f a0_0 a0_1).bind fun t141 => (if (wrap64 (2 * t141)) = 0 then (none) else (some (wrap64 (a0_0 - (Int.tmod a0_0 (wrap64 (2 * t141)))), wrap64 (a0_1 - 1))))
def spec_l1Parent.T2 : Bool × List (List Nat × List Nat) := (true, [([], []), ([0], [0]), ([], []), ([2], [2]), ([], []), ([3, 4], [3, 4]), ([1, 5], [1, 5]), ([], []), ([7], [7]), ([8], [8]), ([6, 9], [6, 9]), ([10, 0, 1, 2, 3, 4, 5, 6, 7, 8, 9, 10], [10])])
def spec_l1Parent.B2 : List Nat := [0, 1, 0, 4, 0, 28, 63, 0, 128, 384, 1023, 2047]
theorem spec_l1Parent.tab2 : rtab .any (opsOf Try.f79 2) = spec_l1Parent.T2 := by kernel_rfl
theorem spec_l1Parent.bits2 : waitsOk spec_l1Parent.T2.2 spec_l1Parent.B2 = true := by kernel_rfl
set_option maxHeartbeats 8000000 in
set_option maxRecDepth 100000 in
theorem spec_l1Parent.calls (a0_0 : Int) (a0_1 : Int) (r1 : Int) (r2 : Int) (w : World) (h : spec_l1Parent.f a0_0 a0_1 = some (r1, r2)) :
  Calls Try.prog 79 #[.agg #[.int .i64 a0_0, .int .i64 a0_1]] w fun e w' => e = .returned (.agg #[.int .i64 r1, .int .i64 r2]) ∧ Below w.heap.size w w' := by
 have hu45 := Try.underlying45
 have HB := Aside0.mk (Below.refl w.heap.size w)
 have H : ((spec_l1Size.f a0_0 a0_1).bind fun t141 => (if (wrap64 (2 * t141)) = 0 then (none) else (some (wrap64 (a0_0 - (Int.tmod a0_0 (wrap64 (2 * t141)))), wrap64 (a0_1 - 1))))) = some (r1, r2) := h
 clear h
 replace H := Option.bind_eq_some_iff.mp H
 obtain ⟨t141, A20, H⟩ := H
 replace H : (if (wrap64 (2 * t141)) = 0 then (none) else (some (wrap64 (a0_0 - (Int.tmod a0_0 (wrap64 (2 * t141)))), wrap64 (a0_1 - 1)))) = some (r1, r2) := H
 have A2 := Aside0.mk A20
 clear A20
 by_cases c3 : (wrap64 (2 * t141)) = 0
 ·
  rw [if_pos c3] at H
  exact absurd H (by simp)
 ·
  rw [if_neg c3] at H
  have c3b0 : ((wrap64 (2 * t141)) == 0) = false := beq_eq_false_iff_ne.mpr c3
  have c3b1 : ((wrap64 (2 * t141)) != 0) = true := bne_iff_ne.mpr c3
  simp only [Option.some.injEq, Prod.mk.injEq] at H
  obtain ⟨rfl, rfl⟩ := H
  go_enter Try.func79, Try.ntmps79
  try go_wp2_with (first | ((with_reducible refine zp (N := 1) rfl ?_); refine zo ?hg (N := 1) ?hd (cs := #[.int .i64 a0_0, .int .i64 a0_1]) (t := 45) ?hr ?_; (case hd => rfl); (case hg => rfl); (case hr => first | (go_simp; done) | (go_simp; rfl)); intro gb139 hg w4 hbox hb; have n0_ := Aside0.mk (zl (by repeat (first | (with_reducible first | exact HB.1 | apply zg | apply zc | apply zf) | exact HB.1)) hb); have n1_ := Aside0.mk (hbox); have n2_ := Aside0.mk ((by rw [hg]; exact (zj (by repeat (first | (with_reducible first | exact HB.1 | apply zg | apply zc | apply zf) | exact HB.1))) : w.heap.size ≤ gb139)); have n3_ := Aside0.mk ((by rw [hg]; exact (zj (by repeat (first | (with_reducible first | exact HB.1 | apply zg | apply zc | apply zf) | exact HB.1))) : w.heap.size ≤ gb139)); clear HB; have HB := n0_; have zK := n1_; have GW139 := n2_; have qg := n3_; clear n0_ n1_ n2_ n3_; clear hb hbox hg) | ((with_reducible refine zp (N := 2) rfl ?_); refine zo ?hg (N := 2) ?hd (cs := #[.int .i64 0, .int .i64 0]) (t := 45) ?hr ?_; (case hd => rfl); (case hg => rfl); (case hr => first | (go_simp; done) | (go_simp; rfl)); intro gb140 hg w5 hbox hb; have n0_ := Aside0.mk (zk (g := gb139) (o := .cells #[.int .i64 a0_0, .int .i64 a0_1] 45 (0, 0)) (by (with_reducible repeat (first | refine za ?_ _ | refine zd ?_ | refine zb ?_ _)); exact zK.1) hb); have n1_ := Aside0.mk (zl (by repeat (first | (with_reducible first | exact HB.1 | apply zg | apply zc | apply zf | refine ze ?_ qg.1) | exact HB.1)) hb); have n2_ := Aside0.mk (hbox); have n3_ := Aside0.mk ((by rw [hg]; exact (zj (by repeat (first | (with_reducible first | exact HB.1 | apply zg | apply zc | apply zf | refine ze ?_ qg.1) | exact HB.1))) : w.heap.size ≤ gb140)); have n4_ := Aside0.mk ((by rw [hg]; exact (zj (by repeat (first | (with_reducible first | exact HB.1 | apply zg | apply zc | apply zf | refine ze ?_ qg.1) | exact HB.1))) : w.heap.size ≤ gb140)); have n5_ := Aside0.mk ((by rw [hg]; exact Nat.ne_of_lt (zm (g := gb139) (o := .cells #[.int .i64 a0_0, .int .i64 a0_1] 45 (0, 0)) (by (with_reducible repeat (first | refine za ?_ _ | refine zd ?_ | refine zb ?_ _)); exact zK.1)) : gb139 ≠ gb140)); have n6_ := Aside0.mk ((by rw [hg]; exact Nat.ne_of_gt (zm (g := gb139) (o := .cells #[.int .i64 a0_0, .int .i64 a0_1] 45 (0, 0)) (by (with_reducible repeat (first | refine za ?_ _ | refine zd ?_ | refine zb ?_ _)); exact zK.1)) : gb140 ≠ gb139)); clear zK; clear HB; have zK := n0_; have HB := n1_; have zZ := n2_; have GW140 := n3_; have GE140 := n4_; have zP := n5_; have NB140_139 := n6_; clear n0_ n1_ n2_ n3_ n4_ n5_ n6_; clear hb hbox hg; have hnb6 := zP.1; have hnc6 := NB140_139.1; have hcz7_0 : w5.cell? ⟨gb139, 0, none⟩ = some (.int .i64 a0_0) := (zi zK.1 0).trans rfl; have hcz7_1 : w5.cell? ⟨gb139, 1, none⟩ = some (.int .i64 a0_1) := (zi zK.1 1).trans rfl; have hfz7_0 := zh zK.1 0; have hfz7_1 := zh zK.1 1) | ((with_reducible refine gate_callee (f := 62) rfl ?_); refine goesL_ (some 5) rfl rfl Try.func62 (by kernel_rfl) rfl #[.agg #[.int .i64 a0_0, .int .i64 a0_1]] rfl (by (try simp only [List.map_toArray, List.map_cons, List.map_nil]); first | done | rfl | (simp only [List.length_drop, List.length_take]; rfl)) ?_; (with_reducible refine (spec_l1Size.calls a0_0 a0_1 t141 _ A2.1).mono ?_); rintro e w8 ⟨rfl, hb⟩; refine ⟨_, rfl, ?_⟩; have n0_ := Aside0.mk (zk (g := gb139) (o := .cells #[.int .i64 a0_0, .int .i64 a0_1] 45 (0, 0)) (by (with_reducible repeat (first | refine za ?_ _ | refine zd ?_ | refine zb ?_ _)); exact zK.1) hb); have n1_ := Aside0.mk (zk (g := gb140) (o := .cells #[.int .i64 0, .int .i64 0] 45 (0, 0)) (by (with_reducible repeat (first | refine za ?_ _ | refine zd ?_ | refine zb ?_ _)); exact zZ.1) hb); have n2_ := Aside0.mk (zl (by repeat (first | (with_reducible first | exact HB.1 | apply zg | apply zc | apply zf | refine ze ?_ qg.1 | refine ze ?_ GE140.1) | exact HB.1)) hb); clear zK; clear zZ; clear HB; have zK := n0_; have zZ := n1_; have HB := n2_; clear n0_ n1_ n2_; (try clear hb); (try clear hb2); (try clear hk); (try clear hi)))
  have n0_ := Aside0.mk (zd zK.1)
  have n1_ := Aside0.mk (zd zZ.1)
  have n2_ := Aside0.mk (zf HB.1)
  clear zK
  clear zZ
  clear HB
  have zK := n0_
  have zZ := n1_
  have HB := n2_
  clear n0_ n1_ n2_
  refine start_ (n := 12) (S := fun w' => w'.cell? ⟨gb139, 0, none⟩ = some (.int .i64 a0_0) ∧ w'.cell? ⟨gb139, 1, none⟩ = some (.int .i64 a0_1)) (ds := []) #[false, false, false, false, false, false, false, false, false, false, false, false] (by kernel_rfl) rfl rfl ⟨(zi zK.1 0).trans rfl, (zi zK.1 1).trans rfl⟩ (fun hHeld => ?_); refine with_tabW spec_l1Parent.tab2 spec_l1Parent.bits2 (fun HT_ HW_ => ?_)
  generalize w8.drew = w9 at zK zZ HB hHeld ⊢
  refine zx (i := 0) (N := some 7) (v := ?_) (a' := ?_) #[true, false, false, false, false, false, false, false, false, false, false, false] rfl rfl (zu HT_.1 (by kernel_rfl)) (fun _ _ _ h => h) (Or.inl ⟨by rfl, ?_⟩) ?_ ?_
  rotate_left
  ·
   intro w'
   go_simp
   with_reducible rfl
  rotate_left
  ·
   simp only [Act.put, List.setIfInBounds_toArray, List.set_cons_zero, List.set_cons_succ, zr, zs]
   rfl
  refine zx (i := 2) (N := some 9) (v := ?_) (a' := ?_) #[true, false, true, false, false, false, false, false, false, false, false, false] rfl rfl (zu HT_.1 (by kernel_rfl)) (fun _ _ _ h => h) (Or.inl ⟨by rfl, ?_⟩) ?_ ?_
  rotate_left
  ·
   intro w'
   go_simp
   with_reducible rfl
  rotate_left
  ·
   simp only [Act.put, List.setIfInBounds_toArray, List.set_cons_zero, List.set_cons_succ, zr, zs]
   rfl
  refine zx (i := 4) (N := some 11) (v := ?_) (a' := ?_) #[true, false, true, false, true, false, false, false, false, false, false, false] rfl rfl (zu HT_.1 (by kernel_rfl)) (fun _ _ _ h => h) (Or.inl ⟨by rfl, ?_⟩) ?_ ?_
  rotate_left
  ·
   intro w'
   go_simp
   with_reducible rfl
  rotate_left
  ·
   simp only [Act.put, List.setIfInBounds_toArray, List.set_cons_zero, List.set_cons_succ, zr, zs]
   rfl
  refine zx (i := 7) (N := some 14) (v := ?_) (a' := ?_) #[true, false, true, false, true, false, false, true, false, false, false, false] rfl rfl (zu HT_.1 (by kernel_rfl)) (fun _ _ _ h => h) (Or.inl ⟨by rfl, ?_⟩) ?_ ?_
  rotate_left
  ·
   intro w'
   go_simp
   with_reducible rfl
  rotate_left
  ·
   simp only [Act.put, List.setIfInBounds_toArray, List.set_cons_zero, List.set_cons_succ, zr, zs]
   rfl
  refine zy (i := 1) (N := some 8) (v := ?_) (a' := ?_) #[true, true, true, false, true, false, false, true, false, false, false, false] rfl rfl (zv HT_.1 HW_.1 (by kernel_rfl)) (fun _ _ _ h => h) (Or.inl ⟨by rfl, ?_⟩) hHeld ?_ ?_
  rotate_left
  ·
   rintro w' ⟨s0, s1⟩
   go_simp
   with_reducible rfl
  rotate_left
  ·
   simp only [Act.put, List.setIfInBounds_toArray, List.set_cons_zero, List.set_cons_succ, zr, zs]
   rfl
  refine zy (i := 3) (N := some 10) (v := ?_) (a' := ?_) #[true, true, true, true, true, false, false, true, false, false, false, false] rfl rfl (zv HT_.1 HW_.1 (by kernel_rfl)) (fun _ _ _ h => h) (Or.inl ⟨by rfl, ?_⟩) hHeld ?_ ?_
  rotate_left
  ·
   rintro w' ⟨s0, s1⟩
   go_simp
   with_reducible rfl
  rotate_left
  ·
   simp only [Act.put, List.setIfInBounds_toArray, List.set_cons_zero, List.set_cons_succ, zr, zs]
   rfl
  refine zx (i := 5) (N := some 12) (v := ?_) (a' := ?_) #[true, true, true, true, true, true, false, true, false, false, false, false] rfl rfl (zu HT_.1 (by kernel_rfl)) (fun _ _ _ h => h) (Or.inl ⟨by rfl, ?_⟩) ?_ ?_
  rotate_left
  ·
   intro w'
   go_simp
   with_reducible rfl
  rotate_left
  ·
   simp only [Act.put, List.setIfInBounds_toArray, List.set_cons_zero, List.set_cons_succ, zr, zs]
   rfl
  refine zx (i := 6) (N := some 13) (v := ?_) (a' := ?_) #[true, true, true, true, true, true, true, true, false, false, false, false] rfl rfl (zu HT_.1 (by kernel_rfl)) (fun _ _ _ h => h) (Or.inl ⟨by rfl, ?_⟩) ?_ ?_
  rotate_left
  ·
   intro w'
   go_simp
   with_reducible rfl
  rotate_left
  ·
   simp only [Act.put, List.setIfInBounds_toArray, List.set_cons_zero, List.set_cons_succ, zr, zs]
   rfl
  refine zy (i := 8) (N := some 15) (v := ?_) (a' := ?_) #[true, true, true, true, true, true, true, true, true, false, false, false] rfl rfl (zv HT_.1 HW_.1 (by kernel_rfl)) (fun _ _ _ h => h) (Or.inl ⟨by rfl, ?_⟩) hHeld ?_ ?_
  rotate_left
  ·
   rintro w' ⟨s0, s1⟩
   go_simp
   with_reducible rfl
  rotate_left
  ·
   simp only [Act.put, List.setIfInBounds_toArray, List.set_cons_zero, List.set_cons_succ, zr, zs]
   rfl
  refine zx (i := 9) (N := some 16) (v := ?_) (a' := ?_) #[true, true, true, true, true, true, true, true, true, true, false, false] rfl rfl (zu HT_.1 (by kernel_rfl)) (fun _ _ _ h => h) (Or.inl ⟨by rfl, ?_⟩) ?_ ?_
  rotate_left
  ·
   intro w'
   go_simp
   with_reducible rfl
  rotate_left
  ·
   simp only [Act.put, List.setIfInBounds_toArray, List.set_cons_zero, List.set_cons_succ, zr, zs]
   rfl
  refine zx (i := 10) (N := some 17) (v := ?_) (a' := ?_) #[true, true, true, true, true, true, true, true, true, true, true, false] rfl rfl (zu HT_.1 (by kernel_rfl)) (fun _ _ _ h => h) (Or.inl ⟨by rfl, ?_⟩) ?_ ?_
  rotate_left
  ·
   intro w'
   go_simp
   with_reducible rfl
  rotate_left
  ·
   simp only [Act.put, List.setIfInBounds_toArray, List.set_cons_zero, List.set_cons_succ, zr, zs]
   rfl
  refine one_ (i := 11) (N := none) #[true, true, true, true, true, true, true, true, true, true, true, true] rfl rfl (one_of HT_.1 (by kernel_rfl)) (by decide) (fun K hK => ?_)
  have hs10 : w9.cell? ⟨gb140, 0, none⟩ = some (.int .i64 0) := (zi zZ.1 0).trans rfl
  have hfs10 := zh zZ.1 0
  have hns10_0 := zP.1
  have hms10_0 := NB140_139.1
  have hs11 : w9.cell? ⟨gb140, 1, none⟩ = some (.int .i64 0) := (zi zZ.1 1).trans rfl
  have hfs11 := zh zZ.1 1
  have hns11_0 := zP.1
  have hms11_0 := NB140_139.1
  refine skip_ (w1 := ?_) (by rfl) rfl ?_ ?_
  rotate_left
  ·
   go_simp
   rfl
  refine hK.out _ _ ⟨((zn (p := ⟨gb140, _, none⟩) zP.1 _).trans (((zn (p := ⟨gb140, _, none⟩) zP.1 _).trans (hHeld.1)))), ((zn (p := ⟨gb140, _, none⟩) zP.1 _).trans (((zn (p := ⟨gb140, _, none⟩) zP.1 _).trans (hHeld.2))))⟩ (fun hHeld => ?_)
  clear hK K
  refine done_ (done_of HT_.1 (by kernel_rfl)) ?_
  try go_wp2
  refine bodyPost_ret (results_cell_row rfl _ _ gb140 45 #[.int .i64 (wrap64 (a0_0 - (Int.tmod a0_0 (wrap64 (2 * t141))))), .int .i64 (wrap64 (a0_1 - 1))] (0, 0) _ rfl (by (with_reducible repeat (first | refine za ?_ _ | refine zd ?_ | refine zb ?_ _)); refine zt (cs := #[.int .i64 (wrap64 (a0_0 - (Int.tmod a0_0 (wrap64 (2 * t141))))), .int .i64 0]) ?_ 1 _ rfl; (with_reducible repeat (first | refine za ?_ _ | refine zd ?_ | refine zb ?_ _)); refine zt (cs := #[.int .i64 0, .int .i64 0]) ?_ 0 _ rfl; (with_reducible repeat (first | refine za ?_ _ | refine zd ?_ | refine zb ?_ _)); exact zZ.1) Try.underlying45 rfl (by kernel_rfl)) rfl ?_
  exact ⟨by first | rfl | (simp [errW_none, errW_some] <;> rfl) | (simp [*, errW_none, errW_some] <;> rfl), by repeat (first | (with_reducible first | exact HB.1 | apply zg | apply zc | apply zf | refine ze ?_ qg.1 | refine ze ?_ GE140.1) | exact HB.1)⟩

/-! ### spec_l1Sibling: function 46 -/
def spec_l1Sibling.f (a0_0 : Int) (a0_1 : Int) : Option (Int × Int) := (spec_l1Parent.f a0_0 a0_1).bind fun bt144 => ((spec_l1Halves.f bt144.1 bt144.2).bind fun bt146 => (if (bt146.1 == a0_0 && (bt146.2.1 == a0_1)) = true then (some (bt146.2.2.1, bt146.2.2.2)) else (some (bt146.1, bt146.2.1))))
set_option maxHeartbeats 8000000 in
set_option maxRecDepth 100000 in
theorem spec_l1Sibling.calls (a0_0 : Int) (a0_1 : Int) (r1 : Int) (r2 : Int) (w : World) (h : spec_l1Sibling.f a0_0 a0_1 = some (r1, r2)) :
  Calls Try.prog 46 #[.agg #[.int .i64 a0_0, .int .i64 a0_1]] w fun e w' => e = .returned (.agg #[.int .i64 r1, .int .i64 r2]) ∧ Below w.heap.size w w' := by
 have hu45 := Try.underlying45
 have HB := Aside0.mk (Below.refl w.heap.size w)
 have H : ((spec_l1Parent.f a0_0 a0_1).bind fun bt144 => ((spec_l1Halves.f bt144.1 bt144.2).bind fun bt146 => (if (bt146.1 == a0_0 && (bt146.2.1 == a0_1)) = true then (some (bt146.2.2.1, bt146.2.2.2)) else (some (bt146.1, bt146.2.1))))) = some (r1, r2) := h
 clear h
 replace H := Option.bind_eq_some_iff.mp H
 obtain ⟨⟨t144, t145⟩, A20, H⟩ := H
 replace H : ((spec_l1Halves.f t144 t145).bind fun bt146 => (if (bt146.1 == a0_0 && (bt146.2.1 == a0_1)) = true then (some (bt146.2.2.1, bt146.2.2.2)) else (some (bt146.1, bt146.2.1)))) = some (r1, r2) := H
 have A2 := Aside0.mk A20
 clear A20
 replace H := Option.bind_eq_some_iff.mp H
 obtain ⟨⟨t146, t147, t148, t149⟩, A30, H⟩ := H
 replace H : (if (t146 == a0_0 && (t147 == a0_1)) = true then (some (t148, t149)) else (some (t146, t147))) = some (r1, r2) := H
 have A3 := Aside0.mk A30
 clear A30
 by_cases c4 : (t146 == a0_0 && (t147 == a0_1)) = true
 ·
  rw [if_pos c4] at H
  have c4b0 : (t146 == a0_0 && (t147 == a0_1)) = true := c4
  (try (have c4b1 : decide (t146 = a0_0 && (t147 == a0_1)) = true := by simpa using c4))
  (try (have c4b2 : (t146 == a0_0 && (t147 == a0_1)) = true := by simpa using c4))
  clear c4
  simp only [Option.some.injEq, Prod.mk.injEq] at H
  obtain ⟨rfl, rfl⟩ := H
  go_enter Try.func46, Try.ntmps46
  go_wp2_with (first | ((with_reducible refine zp (N := 1) rfl ?_); refine zo ?hg (N := 1) ?hd (cs := #[.int .i64 a0_0, .int .i64 a0_1]) (t := 45) ?hr ?_; (case hd => rfl); (case hg => rfl); (case hr => first | (go_simp; done) | (go_simp; rfl)); intro gb142 hg w5 hbox hb; have n0_ := Aside0.mk (zl (by repeat (first | (with_reducible first | exact HB.1 | apply zg | apply zc | apply zf) | exact HB.1)) hb); have n1_ := Aside0.mk (hbox); have n2_ := Aside0.mk ((by rw [hg]; exact (zj (by repeat (first | (with_reducible first | exact HB.1 | apply zg | apply zc | apply zf) | exact HB.1))) : w.heap.size ≤ gb142)); have n3_ := Aside0.mk ((by rw [hg]; exact (zj (by repeat (first | (with_reducible first | exact HB.1 | apply zg | apply zc | apply zf) | exact HB.1))) : w.heap.size ≤ gb142)); clear HB; have HB := n0_; have zz := n1_; have GW142 := n2_; have zE := n3_; clear n0_ n1_ n2_ n3_; clear hb hbox hg) | ((with_reducible refine zp (N := 2) rfl ?_); refine zo ?hg (N := 2) ?hd (cs := #[.int .i64 0, .int .i64 0]) (t := 45) ?hr ?_; (case hd => rfl); (case hg => rfl); (case hr => first | (go_simp; done) | (go_simp; rfl)); intro gb143 hg w6 hbox hb; have n0_ := Aside0.mk (zk (g := gb142) (o := .cells #[.int .i64 a0_0, .int .i64 a0_1] 45 (0, 0)) (by (with_reducible repeat (first | refine za ?_ _ | refine zd ?_ | refine zb ?_ _)); exact zz.1) hb); have n1_ := Aside0.mk (zl (by repeat (first | (with_reducible first | exact HB.1 | apply zg | apply zc | apply zf | refine ze ?_ zE.1) | exact HB.1)) hb); have n2_ := Aside0.mk (hbox); have n3_ := Aside0.mk ((by rw [hg]; exact (zj (by repeat (first | (with_reducible first | exact HB.1 | apply zg | apply zc | apply zf | refine ze ?_ zE.1) | exact HB.1))) : w.heap.size ≤ gb143)); have n4_ := Aside0.mk ((by rw [hg]; exact (zj (by repeat (first | (with_reducible first | exact HB.1 | apply zg | apply zc | apply zf | refine ze ?_ zE.1) | exact HB.1))) : w.heap.size ≤ gb143)); have n5_ := Aside0.mk ((by rw [hg]; exact Nat.ne_of_lt (zm (g := gb142) (o := .cells #[.int .i64 a0_0, .int .i64 a0_1] 45 (0, 0)) (by (with_reducible repeat (first | refine za ?_ _ | refine zd ?_ | refine zb ?_ _)); exact zz.1)) : gb142 ≠ gb143)); have n6_ := Aside0.mk ((by rw [hg]; exact Nat.ne_of_gt (zm (g := gb142) (o := .cells #[.int .i64 a0_0, .int .i64 a0_1] 45 (0, 0)) (by (with_reducible repeat (first | refine za ?_ _ | refine zd ?_ | refine zb ?_ _)); exact zz.1)) : gb143 ≠ gb142)); clear zz; clear HB; have zz := n0_; have HB := n1_; have zA := n2_; have GW143 := n3_; have zH := n4_; have NB142_143 := n5_; have NB143_142 := n6_; clear n0_ n1_ n2_ n3_ n4_ n5_ n6_; clear hb hbox hg; have hnb7 := NB142_143.1; have hnc7 := NB143_142.1; have hcz8_0 : w6.cell? ⟨gb142, 0, none⟩ = some (.int .i64 a0_0) := (zi zz.1 0).trans rfl; have hcz8_1 : w6.cell? ⟨gb142, 1, none⟩ = some (.int .i64 a0_1) := (zi zz.1 1).trans rfl; have hfz8_0 := zh zz.1 0; have hfz8_1 := zh zz.1 1) | ((with_reducible refine gate_callee (f := 79) rfl ?_); refine goesL_ (some 7) rfl rfl Try.func79 (by kernel_rfl) rfl #[.agg #[.int .i64 a0_0, .int .i64 a0_1]] rfl (by (try simp only [List.map_toArray, List.map_cons, List.map_nil]); first | done | rfl | (simp only [List.length_drop, List.length_take]; rfl)) ?_; (with_reducible refine (spec_l1Parent.calls a0_0 a0_1 t144 t145 _ A2.1).mono ?_); rintro e w9 ⟨rfl, hb⟩; refine ⟨_, rfl, ?_⟩; have n0_ := Aside0.mk (zk (g := gb142) (o := .cells #[.int .i64 a0_0, .int .i64 a0_1] 45 (0, 0)) (by (with_reducible repeat (first | refine za ?_ _ | refine zd ?_ | refine zb ?_ _)); exact zz.1) hb); have n1_ := Aside0.mk (zk (g := gb143) (o := .cells #[.int .i64 0, .int .i64 0] 45 (0, 0)) (by (with_reducible repeat (first | refine za ?_ _ | refine zd ?_ | refine zb ?_ _)); exact zA.1) hb); have n2_ := Aside0.mk (zl (by repeat (first | (with_reducible first | exact HB.1 | apply zg | apply zc | apply zf | refine ze ?_ zE.1 | refine ze ?_ zH.1) | exact HB.1)) hb); clear zz; clear zA; clear HB; have zz := n0_; have zA := n1_; have HB := n2_; clear n0_ n1_ n2_; (try clear hb); (try clear hb2); (try clear hk); (try clear hi)) | ((with_reducible refine gate_callee (f := 78) rfl ?_); refine goesL_ (some 8) rfl rfl Try.func78 (by kernel_rfl) rfl #[.agg #[.int .i64 t144, .int .i64 t145]] rfl (by (try simp only [List.map_toArray, List.map_cons, List.map_nil]); first | done | rfl | (simp only [List.length_drop, List.length_take]; rfl)) ?_; (with_reducible refine (spec_l1Halves.calls t144 t145 t146 t147 t148 t149 _ A3.1).mono ?_); rintro e w10 ⟨rfl, hb⟩; refine ⟨_, rfl, ?_⟩; have n0_ := Aside0.mk (zk (g := gb142) (o := .cells #[.int .i64 a0_0, .int .i64 a0_1] 45 (0, 0)) (by (with_reducible repeat (first | refine za ?_ _ | refine zd ?_ | refine zb ?_ _)); exact zz.1) hb); have n1_ := Aside0.mk (zk (g := gb143) (o := .cells #[.int .i64 0, .int .i64 0] 45 (0, 0)) (by (with_reducible repeat (first | refine za ?_ _ | refine zd ?_ | refine zb ?_ _)); exact zA.1) hb); have n2_ := Aside0.mk (zl (by repeat (first | (with_reducible first | exact HB.1 | apply zg | apply zc | apply zf | refine ze ?_ zE.1 | refine ze ?_ zH.1) | exact HB.1)) hb); clear zz; clear zA; clear HB; have zz := n0_; have zA := n1_; have HB := n2_; clear n0_ n1_ n2_; (try clear hb); (try clear hb2); (try clear hk); (try clear hi)) | ((with_reducible refine zp (N := 3) rfl ?_); refine zo ?hg (N := 3) ?hd (cs := #[.int .i64 0, .int .i64 0]) (t := 45) ?hr ?_; (case hd => rfl); (case hg => rfl); (case hr => first | (go_simp; done) | (go_simp; rfl)); intro gb150 hg w11 hbox hb; have n0_ := Aside0.mk (zk (g := gb142) (o := .cells #[.int .i64 a0_0, .int .i64 a0_1] 45 (0, 0)) (by (with_reducible repeat (first | refine za ?_ _ | refine zd ?_ | refine zb ?_ _)); exact zz.1) hb); have n1_ := Aside0.mk (zk (g := gb143) (o := .cells #[.int .i64 0, .int .i64 0] 45 (0, 0)) (by (with_reducible repeat (first | refine za ?_ _ | refine zd ?_ | refine zb ?_ _)); exact zA.1) hb); have n2_ := Aside0.mk (zl (by repeat (first | (with_reducible first | exact HB.1 | apply zg | apply zc | apply zf | refine ze ?_ zE.1 | refine ze ?_ zH.1) | exact HB.1)) hb); have n3_ := Aside0.mk (hbox); have n4_ := Aside0.mk ((by rw [hg]; exact (zj (by repeat (first | (with_reducible first | exact HB.1 | apply zg | apply zc | apply zf | refine ze ?_ zE.1 | refine ze ?_ zH.1) | exact HB.1))) : w.heap.size ≤ gb150)); have n5_ := Aside0.mk ((by rw [hg]; exact (zj (by repeat (first | (with_reducible first | exact HB.1 | apply zg | apply zc | apply zf | refine ze ?_ zE.1 | refine ze ?_ zH.1) | exact HB.1))) : w.heap.size ≤ gb150)); have n6_ := Aside0.mk ((by rw [hg]; exact Nat.ne_of_lt (zm (g := gb142) (o := .cells #[.int .i64 a0_0, .int .i64 a0_1] 45 (0, 0)) (by (with_reducible repeat (first | refine za ?_ _ | refine zd ?_ | refine zb ?_ _)); exact zz.1)) : gb142 ≠ gb150)); have n7_ := Aside0.mk ((by rw [hg]; exact Nat.ne_of_gt (zm (g := gb142) (o := .cells #[.int .i64 a0_0, .int .i64 a0_1] 45 (0, 0)) (by (with_reducible repeat (first | refine za ?_ _ | refine zd ?_ | refine zb ?_ _)); exact zz.1)) : gb150 ≠ gb142)); have n8_ := Aside0.mk ((by rw [hg]; exact Nat.ne_of_lt (zm (g := gb143) (o := .cells #[.int .i64 0, .int .i64 0] 45 (0, 0)) (by (with_reducible repeat (first | refine za ?_ _ | refine zd ?_ | refine zb ?_ _)); exact zA.1)) : gb143 ≠ gb150)); have n9_ := Aside0.mk ((by rw [hg]; exact Nat.ne_of_gt (zm (g := gb143) (o := .cells #[.int .i64 0, .int .i64 0] 45 (0, 0)) (by (with_reducible repeat (first | refine za ?_ _ | refine zd ?_ | refine zb ?_ _)); exact zA.1)) : gb150 ≠ gb143)); clear zz; clear zA; clear HB; have zz := n0_; have zA := n1_; have HB := n2_; have zI := n3_; have GW150 := n4_; have qb := n5_; have NB142_150 := n6_; have NB150_142 := n7_; have zQ := n8_; have NB150_143 := n9_; clear n0_ n1_ n2_ n3_ n4_ n5_ n6_ n7_ n8_ n9_; clear hb hbox hg) | ((with_reducible refine zp (N := 4) rfl ?_); refine zo ?hg (N := 4) ?hd (cs := #[.int .i64 0, .int .i64 0]) (t := 45) ?hr ?_; (case hd => rfl); (case hg => rfl); (case hr => first | (go_simp; done) | (go_simp; rfl)); intro gb151 hg w12 hbox hb; have n0_ := Aside0.mk (zk (g := gb142) (o := .cells #[.int .i64 a0_0, .int .i64 a0_1] 45 (0, 0)) (by (with_reducible repeat (first | refine za ?_ _ | refine zd ?_ | refine zb ?_ _)); exact zz.1) hb); have n1_ := Aside0.mk (zk (g := gb143) (o := .cells #[.int .i64 0, .int .i64 0] 45 (0, 0)) (by (with_reducible repeat (first | refine za ?_ _ | refine zd ?_ | refine zb ?_ _)); exact zA.1) hb); have n2_ := Aside0.mk (zk (g := gb150) (o := .cells #[.int .i64 0, .int .i64 0] 45 (0, 0)) (by (with_reducible repeat (first | refine za ?_ _ | refine zd ?_ | refine zb ?_ _)); exact zI.1) hb); have n3_ := Aside0.mk (zl (by repeat (first | (with_reducible first | exact HB.1 | apply zg | apply zc | apply zf | refine ze ?_ zE.1 | refine ze ?_ zH.1 | refine ze ?_ qb.1) | exact HB.1)) hb); have n4_ := Aside0.mk (hbox); have n5_ := Aside0.mk ((by rw [hg]; exact (zj (by repeat (first | (with_reducible first | exact HB.1 | apply zg | apply zc | apply zf | refine ze ?_ zE.1 | refine ze ?_ zH.1 | refine ze ?_ qb.1) | exact HB.1))) : w.heap.size ≤ gb151)); have n6_ := Aside0.mk ((by rw [hg]; exact (zj (by repeat (first | (with_reducible first | exact HB.1 | apply zg | apply zc | apply zf | refine ze ?_ zE.1 | refine ze ?_ zH.1 | refine ze ?_ qb.1) | exact HB.1))) : w.heap.size ≤ gb151)); have n7_ := Aside0.mk ((by rw [hg]; exact Nat.ne_of_lt (zm (g := gb142) (o := .cells #[.int .i64 a0_0, .int .i64 a0_1] 45 (0, 0)) (by (with_reducible repeat (first | refine za ?_ _ | refine zd ?_ | refine zb ?_ _)); exact zz.1)) : gb142 ≠ gb151)); have n8_ := Aside0.mk ((by rw [hg]; exact Nat.ne_of_gt (zm (g := gb142) (o := .cells #[.int .i64 a0_0, .int .i64 a0_1] 45 (0, 0)) (by (with_reducible repeat (first | refine za ?_ _ | refine zd ?_ | refine zb ?_ _)); exact zz.1)) : gb151 ≠ gb142)); have n9_ := Aside0.mk ((by rw [hg]; exact Nat.ne_of_lt (zm (g := gb143) (o := .cells #[.int .i64 0, .int .i64 0] 45 (0, 0)) (by (with_reducible repeat (first | refine za ?_ _ | refine zd ?_ | refine zb ?_ _)); exact zA.1)) : gb143 ≠ gb151)); have n10_ := Aside0.mk ((by rw [hg]; exact Nat.ne_of_gt (zm (g := gb143) (o := .cells #[.int .i64 0, .int .i64 0] 45 (0, 0)) (by (with_reducible repeat (first | refine za ?_ _ | refine zd ?_ | refine zb ?_ _)); exact zA.1)) : gb151 ≠ gb143)); have n11_ := Aside0.mk ((by rw [hg]; exact Nat.ne_of_lt (zm (g := gb150) (o := .cells #[.int .i64 0, .int .i64 0] 45 (0, 0)) (by (with_reducible repeat (first | refine za ?_ _ | refine zd ?_ | refine zb ?_ _)); exact zI.1)) : gb150 ≠ gb151)); have n12_ := Aside0.mk ((by rw [hg]; exact Nat.ne_of_gt (zm (g := gb150) (o := .cells #[.int .i64 0, .int .i64 0] 45 (0, 0)) (by (with_reducible repeat (first | refine za ?_ _ | refine zd ?_ | refine zb ?_ _)); exact zI.1)) : gb151 ≠ gb150)); clear zz; clear zA; clear zI; clear HB; have zz := n0_; have zA := n1_; have zI := n2_; have HB := n3_; have qc := n4_; have GW151 := n5_; have GE151 := n6_; have NB142_151 := n7_; have NB151_142 := n8_; have zR := n9_; have NB151_143 := n10_; have NB150_151 := n11_; have NB151_150 := n12_; clear n0_ n1_ n2_ n3_ n4_ n5_ n6_ n7_ n8_ n9_ n10_ n11_ n12_; clear hb hbox hg; have hnb13 := NB150_142.1; have hnc13 := NB142_150.1; have hnb14 := NB150_143.1; have hnc14 := zQ.1; have hnb15 := NB150_151.1; have hnc15 := NB151_150.1; have hcz16_0 : w12.cell? ⟨gb150, 0, none⟩ = some (.int .i64 0) := (zi zI.1 0).trans rfl; have hcz16_1 : w12.cell? ⟨gb150, 1, none⟩ = some (.int .i64 0) := (zi zI.1 1).trans rfl; have hfz16_0 := zh zI.1 0; have hfz16_1 := zh zI.1 1; have hnb17 := NB151_142.1; have hnc17 := NB142_151.1; have hnb18 := NB151_143.1; have hnc18 := zR.1; have hcz19_0 : w12.cell? ⟨gb151, 0, none⟩ = some (.int .i64 0) := (zi qc.1 0).trans rfl; have hcz19_1 : w12.cell? ⟨gb151, 1, none⟩ = some (.int .i64 0) := (zi qc.1 1).trans rfl; have hfz19_0 := zh qc.1 0; have hfz19_1 := zh qc.1 1; have hcz20_0 : w12.cell? ⟨gb142, 0, none⟩ = some (.int .i64 a0_0) := (zi zz.1 0).trans rfl; have hcz20_1 : w12.cell? ⟨gb142, 1, none⟩ = some (.int .i64 a0_1) := (zi zz.1 1).trans rfl; have hfz20_0 := zh zz.1 0; have hfz20_1 := zh zz.1 1; have hcz21_0 : w12.cell? ⟨gb143, 0, none⟩ = some (.int .i64 0) := (zi zA.1 0).trans rfl; have hcz21_1 : w12.cell? ⟨gb143, 1, none⟩ = some (.int .i64 0) := (zi zA.1 1).trans rfl; have hfz21_0 := zh zA.1 0; have hfz21_1 := zh zA.1 1))
  refine bodyPost_ret (results_cell_row rfl _ _ gb143 45 #[.int .i64 t148, .int .i64 t149] (0, 0) _ rfl (by (with_reducible repeat (first | refine za ?_ _ | refine zd ?_ | refine zb ?_ _)); refine zt (cs := #[.int .i64 t148, .int .i64 0]) ?_ 1 _ rfl; (with_reducible repeat (first | refine za ?_ _ | refine zd ?_ | refine zb ?_ _)); refine zt (cs := #[.int .i64 0, .int .i64 0]) ?_ 0 _ rfl; (with_reducible repeat (first | refine za ?_ _ | refine zd ?_ | refine zb ?_ _)); refine zq ?_ zR.1 _; (with_reducible repeat (first | refine za ?_ _ | refine zd ?_ | refine zb ?_ _)); refine zq ?_ zR.1 _; (with_reducible repeat (first | refine za ?_ _ | refine zd ?_ | refine zb ?_ _)); refine zq ?_ zQ.1 _; (with_reducible repeat (first | refine za ?_ _ | refine zd ?_ | refine zb ?_ _)); refine zq ?_ zQ.1 _; (with_reducible repeat (first | refine za ?_ _ | refine zd ?_ | refine zb ?_ _)); exact zA.1) Try.underlying45 rfl (by kernel_rfl)) rfl ?_
  exact ⟨by first | rfl | (simp [errW_none, errW_some] <;> rfl) | (simp [*, errW_none, errW_some] <;> rfl), by repeat (first | (with_reducible first | exact HB.1 | apply zg | apply zc | apply zf | refine ze ?_ zE.1 | refine ze ?_ zH.1 | refine ze ?_ qb.1 | refine ze ?_ GE151.1) | exact HB.1)⟩
 ·
  rw [if_neg c4] at H
  have c4b0 : (t146 == a0_0 && (t147 == a0_1)) = false := by simpa using c4
  (try (have c4b1 : decide (t146 = a0_0 && (t147 == a0_1)) = false := by simpa using c4))
  (try (have c4b2 : (t146 == a0_0 && (t147 == a0_1)) = false := by simpa using c4))
  (try (have c4b3 : ¬ (t146 = a0_0 && (t147 == a0_1)) := by simpa using c4))
  clear c4
  simp only [Option.some.injEq, Prod.mk.injEq] at H
  obtain ⟨rfl, rfl⟩ := H
  go_enter Try.func46, Try.ntmps46
  go_wp2_with (first | ((with_reducible refine zp (N := 1) rfl ?_); refine zo ?hg (N := 1) ?hd (cs := #[.int .i64 a0_0, .int .i64 a0_1]) (t := 45) ?hr ?_; (case hd => rfl); (case hg => rfl); (case hr => first | (go_simp; done) | (go_simp; rfl)); intro gb142 hg w22 hbox hb; have n0_ := Aside0.mk (zl (by repeat (first | (with_reducible first | exact HB.1 | apply zg | apply zc | apply zf) | exact HB.1)) hb); have n1_ := Aside0.mk (hbox); have n2_ := Aside0.mk ((by rw [hg]; exact (zj (by repeat (first | (with_reducible first | exact HB.1 | apply zg | apply zc | apply zf) | exact HB.1))) : w.heap.size ≤ gb142)); have n3_ := Aside0.mk ((by rw [hg]; exact (zj (by repeat (first | (with_reducible first | exact HB.1 | apply zg | apply zc | apply zf) | exact HB.1))) : w.heap.size ≤ gb142)); clear HB; have HB := n0_; have zz := n1_; have GW142 := n2_; have zE := n3_; clear n0_ n1_ n2_ n3_; clear hb hbox hg) | ((with_reducible refine zp (N := 2) rfl ?_); refine zo ?hg (N := 2) ?hd (cs := #[.int .i64 0, .int .i64 0]) (t := 45) ?hr ?_; (case hd => rfl); (case hg => rfl); (case hr => first | (go_simp; done) | (go_simp; rfl)); intro gb143 hg w23 hbox hb; have n0_ := Aside0.mk (zk (g := gb142) (o := .cells #[.int .i64 a0_0, .int .i64 a0_1] 45 (0, 0)) (by (with_reducible repeat (first | refine za ?_ _ | refine zd ?_ | refine zb ?_ _)); exact zz.1) hb); have n1_ := Aside0.mk (zl (by repeat (first | (with_reducible first | exact HB.1 | apply zg | apply zc | apply zf | refine ze ?_ zE.1) | exact HB.1)) hb); have n2_ := Aside0.mk (hbox); have n3_ := Aside0.mk ((by rw [hg]; exact (zj (by repeat (first | (with_reducible first | exact HB.1 | apply zg | apply zc | apply zf | refine ze ?_ zE.1) | exact HB.1))) : w.heap.size ≤ gb143)); have n4_ := Aside0.mk ((by rw [hg]; exact (zj (by repeat (first | (with_reducible first | exact HB.1 | apply zg | apply zc | apply zf | refine ze ?_ zE.1) | exact HB.1))) : w.heap.size ≤ gb143)); have n5_ := Aside0.mk ((by rw [hg]; exact Nat.ne_of_lt (zm (g := gb142) (o := .cells #[.int .i64 a0_0, .int .i64 a0_1] 45 (0, 0)) (by (with_reducible repeat (first | refine za ?_ _ | refine zd ?_ | refine zb ?_ _)); exact zz.1)) : gb142 ≠ gb143)); have n6_ := Aside0.mk ((by rw [hg]; exact Nat.ne_of_gt (zm (g := gb142) (o := .cells #[.int .i64 a0_0, .int .i64 a0_1] 45 (0, 0)) (by (with_reducible repeat (first | refine za ?_ _ | refine zd ?_ | refine zb ?_ _)); exact zz.1)) : gb143 ≠ gb142)); clear zz; clear HB; have zz := n0_; have HB := n1_; have zA := n2_; have GW143 := n3_; have zH := n4_; have NB142_143 := n5_; have NB143_142 := n6_; clear n0_ n1_ n2_ n3_ n4_ n5_ n6_; clear hb hbox hg; have hnb24 := NB142_143.1; have hnc24 := NB143_142.1; have hcz25_0 : w23.cell? ⟨gb142, 0, none⟩ = some (.int .i64 a0_0) := (zi zz.1 0).trans rfl; have hcz25_1 : w23.cell? ⟨gb142, 1, none⟩ = some (.int .i64 a0_1) := (zi zz.1 1).trans rfl; have hfz25_0 := zh zz.1 0; have hfz25_1 := zh zz.1 1) | ((with_reducible refine gate_callee (f := 79) rfl ?_); refine goesL_ (some 7) rfl rfl Try.func79 (by kernel_rfl) rfl #[.agg #[.int .i64 a0_0, .int .i64 a0_1]] rfl (by (try simp only [List.map_toArray, List.map_cons, List.map_nil]); first | done | rfl | (simp only [List.length_drop, List.length_take]; rfl)) ?_; (with_reducible refine (spec_l1Parent.calls a0_0 a0_1 t144 t145 _ A2.1).mono ?_); rintro e w26 ⟨rfl, hb⟩; refine ⟨_, rfl, ?_⟩; have n0_ := Aside0.mk (zk (g := gb142) (o := .cells #[.int .i64 a0_0, .int .i64 a0_1] 45 (0, 0)) (by (with_reducible repeat (first | refine za ?_ _ | refine zd ?_ | refine zb ?_ _)); exact zz.1) hb); have n1_ := Aside0.mk (zk (g := gb143) (o := .cells #[.int .i64 0, .int .i64 0] 45 (0, 0)) (by (with_reducible repeat (first | refine za ?_ _ | refine zd ?_ | refine zb ?_ _)); exact zA.1) hb); have n2_ := Aside0.mk (zl (by repeat (first | (with_reducible first | exact HB.1 | apply zg | apply zc | apply zf | refine ze ?_ zE.1 | refine ze ?_ zH.1) | exact HB.1)) hb); clear zz; clear zA; clear HB; have zz := n0_; have zA := n1_; have HB := n2_; clear n0_ n1_ n2_; (try clear hb); (try clear hb2); (try clear hk); (try clear hi)) | ((with_reducible refine gate_callee (f := 78) rfl ?_); refine goesL_ (some 8) rfl rfl Try.func78 (by kernel_rfl) rfl #[.agg #[.int .i64 t144, .int .i64 t145]] rfl (by (try simp only [List.map_toArray, List.map_cons, List.map_nil]); first | done | rfl | (simp only [List.length_drop, List.length_take]; rfl)) ?_; (with_reducible refine (spec_l1Halves.calls t144 t145 t146 t147 t148 t149 _ A3.1).mono ?_); rintro e w27 ⟨rfl, hb⟩; refine ⟨_, rfl, ?_⟩; have n0_ := Aside0.mk (zk (g := gb142) (o := .cells #[.int .i64 a0_0, .int .i64 a0_1] 45 (0, 0)) (by (with_reducible repeat (first | refine za ?_ _ | refine zd ?_ | refine zb ?_ _)); exact zz.1) hb); have n1_ := Aside0.mk (zk (g := gb143) (o := .cells #[.int .i64 0, .int .i64 0] 45 (0, 0)) (by (with_reducible repeat (first | refine za ?_ _ | refine zd ?_ | refine zb ?_ _)); exact zA.1) hb); have n2_ := Aside0.mk (zl (by repeat (first | (with_reducible first | exact HB.1 | apply zg | apply zc | apply zf | refine ze ?_ zE.1 | refine ze ?_ zH.1) | exact HB.1)) hb); clear zz; clear zA; clear HB; have zz := n0_; have zA := n1_; have HB := n2_; clear n0_ n1_ n2_; (try clear hb); (try clear hb2); (try clear hk); (try clear hi)) | ((with_reducible refine zp (N := 3) rfl ?_); refine zo ?hg (N := 3) ?hd (cs := #[.int .i64 0, .int .i64 0]) (t := 45) ?hr ?_; (case hd => rfl); (case hg => rfl); (case hr => first | (go_simp; done) | (go_simp; rfl)); intro gb150 hg w28 hbox hb; have n0_ := Aside0.mk (zk (g := gb142) (o := .cells #[.int .i64 a0_0, .int .i64 a0_1] 45 (0, 0)) (by (with_reducible repeat (first | refine za ?_ _ | refine zd ?_ | refine zb ?_ _)); exact zz.1) hb); have n1_ := Aside0.mk (zk (g := gb143) (o := .cells #[.int .i64 0, .int .i64 0] 45 (0, 0)) (by (with_reducible repeat (first | refine za ?_ _ | refine zd ?_ | refine zb ?_ _)); exact zA.1) hb); have n2_ := Aside0.mk (zl (by repeat (first | (with_reducible first | exact HB.1 | apply zg | apply zc | apply zf | refine ze ?_ zE.1 | refine ze ?_ zH.1) | exact HB.1)) hb); have n3_ := Aside0.mk (hbox); have n4_ := Aside0.mk ((by rw [hg]; exact (zj (by repeat (first | (with_reducible first | exact HB.1 | apply zg | apply zc | apply zf | refine ze ?_ zE.1 | refine ze ?_ zH.1) | exact HB.1))) : w.heap.size ≤ gb150)); have n5_ := Aside0.mk ((by rw [hg]; exact (zj (by repeat (first | (with_reducible first | exact HB.1 | apply zg | apply zc | apply zf | refine ze ?_ zE.1 | refine ze ?_ zH.1) | exact HB.1))) : w.heap.size ≤ gb150)); have n6_ := Aside0.mk ((by rw [hg]; exact Nat.ne_of_lt (zm (g := gb142) (o := .cells #[.int .i64 a0_0, .int .i64 a0_1] 45 (0, 0)) (by (with_reducible repeat (first | refine za ?_ _ | refine zd ?_ | refine zb ?_ _)); exact zz.1)) : gb142 ≠ gb150)); have n7_ := Aside0.mk ((by rw [hg]; exact Nat.ne_of_gt (zm (g := gb142) (o := .cells #[.int .i64 a0_0, .int .i64 a0_1] 45 (0, 0)) (by (with_reducible repeat (first | refine za ?_ _ | refine zd ?_ | refine zb ?_ _)); exact zz.1)) : gb150 ≠ gb142)); have n8_ := Aside0.mk ((by rw [hg]; exact Nat.ne_of_lt (zm (g := gb143) (o := .cells #[.int .i64 0, .int .i64 0] 45 (0, 0)) (by (with_reducible repeat (first | refine za ?_ _ | refine zd ?_ | refine zb ?_ _)); exact zA.1)) : gb143 ≠ gb150)); have n9_ := Aside0.mk ((by rw [hg]; exact Nat.ne_of_gt (zm (g := gb143) (o := .cells #[.int .i64 0, .int .i64 0] 45 (0, 0)) (by (with_reducible repeat (first | refine za ?_ _ | refine zd ?_ | refine zb ?_ _)); exact zA.1)) : gb150 ≠ gb143)); clear zz; clear zA; clear HB; have zz := n0_; have zA := n1_; have HB := n2_; have zI := n3_; have GW150 := n4_; have qb := n5_; have NB142_150 := n6_; have NB150_142 := n7_; have zQ := n8_; have NB150_143 := n9_; clear n0_ n1_ n2_ n3_ n4_ n5_ n6_ n7_ n8_ n9_; clear hb hbox hg) | ((with_reducible refine zp (N := 4) rfl ?_); refine zo ?hg (N := 4) ?hd (cs := #[.int .i64 0, .int .i64 0]) (t := 45) ?hr ?_; (case hd => rfl); (case hg => rfl); (case hr => first | (go_simp; done) | (go_simp; rfl)); intro gb151 hg w29 hbox hb; have n0_ := Aside0.mk (zk (g := gb142) (o := .cells #[.int .i64 a0_0, .int .i64 a0_1] 45 (0, 0)) (by (with_reducible repeat (first | refine za ?_ _ | refine zd ?_ | refine zb ?_ _)); exact zz.1) hb); have n1_ := Aside0.mk (zk (g := gb143) (o := .cells #[.int .i64 0, .int .i64 0] 45 (0, 0)) (by (with_reducible repeat (first | refine za ?_ _ | refine zd ?_ | refine zb ?_ _)); exact zA.1) hb); have n2_ := Aside0.mk (zk (g := gb150) (o := .cells #[.int .i64 0, .int .i64 0] 45 (0, 0)) (by (with_reducible repeat (first | refine za ?_ _ | refine zd ?_ | refine zb ?_ _)); exact zI.1) hb); have n3_ := Aside0.mk (zl (by repeat (first | (with_reducible first | exact HB.1 | apply zg | apply zc | apply zf | refine ze ?_ zE.1 | refine ze ?_ zH.1 | refine ze ?_ qb.1) | exact HB.1)) hb); have n4_ := Aside0.mk (hbox); have n5_ := Aside0.mk ((by rw [hg]; exact (zj (by repeat (first | (with_reducible first | exact HB.1 | apply zg | apply zc | apply zf | refine ze ?_ zE.1 | refine ze ?_ zH.1 | refine ze ?_ qb.1) | exact HB.1))) : w.heap.size ≤ gb151)); have n6_ := Aside0.mk ((by rw [hg]; exact (zj (by repeat (first | (with_reducible first | exact HB.1 | apply zg | apply zc | apply zf | refine ze ?_ zE.1 | refine ze ?_ zH.1 | refine ze ?_ qb.1) | exact HB.1))) : w.heap.size ≤ gb151)); have n7_ := Aside0.mk ((by rw [hg]; exact Nat.ne_of_lt (zm (g := gb142) (o := .cells #[.int .i64 a0_0, .int .i64 a0_1] 45 (0, 0)) (by (with_reducible repeat (first | refine za ?_ _ | refine zd ?_ | refine zb ?_ _)); exact zz.1)) : gb142 ≠ gb151)); have n8_ := Aside0.mk ((by rw [hg]; exact Nat.ne_of_gt (zm (g := gb142) (o := .cells #[.int .i64 a0_0, .int .i64 a0_1] 45 (0, 0)) (by (with_reducible repeat (first | refine za ?_ _ | refine zd ?_ | refine zb ?_ _)); exact zz.1)) : gb151 ≠ gb142)); have n9_ := Aside0.mk ((by rw [hg]; exact Nat.ne_of_lt (zm (g := gb143) (o := .cells #[.int .i64 0, .int .i64 0] 45 (0, 0)) (by (with_reducible repeat (first | refine za ?_ _ | refine zd ?_ | refine zb ?_ _)); exact zA.1)) : gb143 ≠ gb151)); have n10_ := Aside0.mk ((by rw [hg]; exact Nat.ne_of_gt (zm (g := gb143) (o := .cells #[.int .i64 0, .int .i64 0] 45 (0, 0)) (by (with_reducible repeat (first | refine za ?_ _ | refine zd ?_ | refine zb ?_ _)); exact zA.1)) : gb151 ≠ gb143)); have n11_ := Aside0.mk ((by rw [hg]; exact Nat.ne_of_lt (zm (g := gb150) (o := .cells #[.int .i64 0, .int .i64 0] 45 (0, 0)) (by (with_reducible repeat (first | refine za ?_ _ | refine zd ?_ | refine zb ?_ _)); exact zI.1)) : gb150 ≠ gb151)); have n12_ := Aside0.mk ((by rw [hg]; exact Nat.ne_of_gt (zm (g := gb150) (o := .cells #[.int .i64 0, .int .i64 0] 45 (0, 0)) (by (with_reducible repeat (first | refine za ?_ _ | refine zd ?_ | refine zb ?_ _)); exact zI.1)) : gb151 ≠ gb150)); clear zz; clear zA; clear zI; clear HB; have zz := n0_; have zA := n1_; have zI := n2_; have HB := n3_; have qc := n4_; have GW151 := n5_; have GE151 := n6_; have NB142_151 := n7_; have NB151_142 := n8_; have zR := n9_; have NB151_143 := n10_; have NB150_151 := n11_; have NB151_150 := n12_; clear n0_ n1_ n2_ n3_ n4_ n5_ n6_ n7_ n8_ n9_ n10_ n11_ n12_; clear hb hbox hg; have hnb30 := NB150_142.1; have hnc30 := NB142_150.1; have hnb31 := NB150_143.1; have hnc31 := zQ.1; have hnb32 := NB150_151.1; have hnc32 := NB151_150.1; have hcz33_0 : w29.cell? ⟨gb150, 0, none⟩ = some (.int .i64 0) := (zi zI.1 0).trans rfl; have hcz33_1 : w29.cell? ⟨gb150, 1, none⟩ = some (.int .i64 0) := (zi zI.1 1).trans rfl; have hfz33_0 := zh zI.1 0; have hfz33_1 := zh zI.1 1; have hnb34 := NB151_142.1; have hnc34 := NB142_151.1; have hnb35 := NB151_143.1; have hnc35 := zR.1; have hcz36_0 : w29.cell? ⟨gb151, 0, none⟩ = some (.int .i64 0) := (zi qc.1 0).trans rfl; have hcz36_1 : w29.cell? ⟨gb151, 1, none⟩ = some (.int .i64 0) := (zi qc.1 1).trans rfl; have hfz36_0 := zh qc.1 0; have hfz36_1 := zh qc.1 1; have hcz37_0 : w29.cell? ⟨gb142, 0, none⟩ = some (.int .i64 a0_0) := (zi zz.1 0).trans rfl; have hcz37_1 : w29.cell? ⟨gb142, 1, none⟩ = some (.int .i64 a0_1) := (zi zz.1 1).trans rfl; have hfz37_0 := zh zz.1 0; have hfz37_1 := zh zz.1 1; have hcz38_0 : w29.cell? ⟨gb143, 0, none⟩ = some (.int .i64 0) := (zi zA.1 0).trans rfl; have hcz38_1 : w29.cell? ⟨gb143, 1, none⟩ = some (.int .i64 0) := (zi zA.1 1).trans rfl; have hfz38_0 := zh zA.1 0; have hfz38_1 := zh zA.1 1))
  refine bodyPost_ret (results_cell_row rfl _ _ gb143 45 #[.int .i64 t146, .int .i64 t147] (0, 0) _ rfl (by (with_reducible repeat (first | refine za ?_ _ | refine zd ?_ | refine zb ?_ _)); refine zt (cs := #[.int .i64 t146, .int .i64 0]) ?_ 1 _ rfl; (with_reducible repeat (first | refine za ?_ _ | refine zd ?_ | refine zb ?_ _)); refine zt (cs := #[.int .i64 0, .int .i64 0]) ?_ 0 _ rfl; (with_reducible repeat (first | refine za ?_ _ | refine zd ?_ | refine zb ?_ _)); refine zq ?_ zR.1 _; (with_reducible repeat (first | refine za ?_ _ | refine zd ?_ | refine zb ?_ _)); refine zq ?_ zR.1 _; (with_reducible repeat (first | refine za ?_ _ | refine zd ?_ | refine zb ?_ _)); refine zq ?_ zQ.1 _; (with_reducible repeat (first | refine za ?_ _ | refine zd ?_ | refine zb ?_ _)); refine zq ?_ zQ.1 _; (with_reducible repeat (first | refine za ?_ _ | refine zd ?_ | refine zb ?_ _)); exact zA.1) Try.underlying45 rfl (by kernel_rfl)) rfl ?_
  exact ⟨by first | rfl | (simp [errW_none, errW_some] <;> rfl) | (simp [*, errW_none, errW_some] <;> rfl), by repeat (first | (with_reducible first | exact HB.1 | apply zg | apply zc | apply zf | refine ze ?_ zE.1 | refine ze ?_ zH.1 | refine ze ?_ qb.1 | refine ze ?_ GE151.1) | exact HB.1)⟩

/-! ### spec_l1Compare: function 47 -/
def spec_l1Compare.j0 : Nat → Bool → Int → Int → Int → Int → Option (Int)
 | 0, _, _, _, _, _ => none
 | k + 1, x5, x153000, x153001, x154000, x154001 => if x5 = true then (some (-1)) else (if (x153000 == x154000 && (x153001 == x154001)) = true then (some 0) else (some 1))
def spec_l1Compare.f (k : Nat) (a0_0 : Int) (a0_1 : Int) (a1_0 : Int) (a1_1 : Int) : Option (Int) := if a0_0 < a1_0 then (spec_l1Compare.j0 k true a0_0 a0_1 a1_0 a1_1) else (if a0_0 = a1_0 then (spec_l1Compare.j0 k (decide (a0_1 < a1_1)) a0_0 a0_1 a1_0 a1_1) else (spec_l1Compare.j0 k false a0_0 a0_1 a1_0 a1_1))
theorem spec_l1Compare.mono_l : ∀ k, (∀ y0 y1 y2 y3 y4, LeO (spec_l1Compare.j0 k y0 y1 y2 y3 y4) (spec_l1Compare.j0 (k + 1) y0 y1 y2 y3 y4))
 | 0 => fun _ _ _ _ _ r h => by simp [spec_l1Compare.j0] at h
 | k + 1 => by
  have ih0 := spec_l1Compare.mono_l k
  ·
   intro y0 y1 y2 y3 y4
   unfold spec_l1Compare.j0
   repeat' first
   | (with_reducible exact ih0 _ _ _ _ _)
   | (with_reducible exact LeO.refl _)
   | (with_reducible exact LeO.none _)
   | (with_reducible refine LeO.ite ?_ ?_)
   | (with_reducible refine LeO.bind ?_ (fun _ => ?_))
   | exact ih0 _ _ _ _ _
   | exact LeO.none _
   | refine LeO.ite ?_ ?_
   | refine LeO.bind ?_ (fun _ => ?_)
theorem spec_l1Compare.mono : ∀ a0 a1 a2 a3 k, LeO (spec_l1Compare.f k a0 a1 a2 a3) (spec_l1Compare.f (k + 1) a0 a1 a2 a3) := by
 intro a0 a1 a2 a3 k
 have ih0 := spec_l1Compare.mono_l k
 unfold spec_l1Compare.f
 repeat' first
   | (with_reducible exact ih0 _ _ _ _ _)
   | (with_reducible exact LeO.refl _)
   | (with_reducible exact LeO.none _)
   | (with_reducible refine LeO.ite ?_ ?_)
   | (with_reducible refine LeO.bind ?_ (fun _ => ?_))
   | exact ih0 _ _ _ _ _
   | exact LeO.none _
   | refine LeO.ite ?_ ?_
   | refine LeO.bind ?_ (fun _ => ?_)
set_option maxHeartbeats 8000000 in
set_option maxRecDepth 100000 in
theorem spec_l1Compare.calls (k : Nat) (a0_0 : Int) (a0_1 : Int) (a1_0 : Int) (a1_1 : Int) (r : Int) (w : World) (h : spec_l1Compare.f k a0_0 a0_1 a1_0 a1_1 = some r) :
  Calls Try.prog 47 #[.agg #[.int .i64 a0_0, .int .i64 a0_1], .agg #[.int .i64 a1_0, .int .i64 a1_1]] w fun e w' => e = .returned (.int .i64 r) ∧ Below w.heap.size w w' := by
 have hu45 := Try.underlying45
 have HB := Aside0.mk (Below.refl w.heap.size w)
 have H : (if a0_0 < a1_0 then (spec_l1Compare.j0 k true a0_0 a0_1 a1_0 a1_1) else (if a0_0 = a1_0 then (spec_l1Compare.j0 k (decide (a0_1 < a1_1)) a0_0 a0_1 a1_0 a1_1) else (spec_l1Compare.j0 k false a0_0 a0_1 a1_0 a1_1))) = some r := h
 clear h
 have HC3 := Aside0.mk H
 clear H
 go_enter Try.func47, Try.ntmps47
 go_upto_region 1 with (first | ((with_reducible refine zp (N := 2) rfl ?_); refine zo ?hg (N := 2) ?hd (cs := #[.int .i64 a0_0, .int .i64 a0_1]) (t := 45) ?hr ?_; (case hd => rfl); (case hg => rfl); (case hr => first | (go_simp; done) | (go_simp; rfl)); intro gb152 hg w4 hbox hb; have n0_ := Aside0.mk (zl (by repeat (first | (with_reducible first | exact HB.1 | apply zg | apply zc | apply zf) | exact HB.1)) hb); have n1_ := Aside0.mk (hbox); have n2_ := Aside0.mk ((by rw [hg]; exact (zj (by repeat (first | (with_reducible first | exact HB.1 | apply zg | apply zc | apply zf) | exact HB.1))) : w.heap.size ≤ gb152)); have n3_ := Aside0.mk ((by rw [hg]; exact (zj (by repeat (first | (with_reducible first | exact HB.1 | apply zg | apply zc | apply zf) | exact HB.1))) : w.heap.size ≤ gb152)); clear HB; have HB := n0_; have zC := n1_; have GW152 := n2_; have qd := n3_; clear n0_ n1_ n2_ n3_; clear hb hbox hg) | ((with_reducible refine zp (N := 3) rfl ?_); refine zo ?hg (N := 3) ?hd (cs := #[.int .i64 a1_0, .int .i64 a1_1]) (t := 45) ?hr ?_; (case hd => rfl); (case hg => rfl); (case hr => first | (go_simp; done) | (go_simp; rfl)); intro gb153 hg w5 hbox hb; have n0_ := Aside0.mk (zk (g := gb152) (o := .cells #[.int .i64 a0_0, .int .i64 a0_1] 45 (0, 0)) (by (with_reducible repeat (first | refine za ?_ _ | refine zd ?_ | refine zb ?_ _)); exact zC.1) hb); have n1_ := Aside0.mk (zl (by repeat (first | (with_reducible first | exact HB.1 | apply zg | apply zc | apply zf | refine ze ?_ qd.1) | exact HB.1)) hb); have n2_ := Aside0.mk (hbox); have n3_ := Aside0.mk ((by rw [hg]; exact (zj (by repeat (first | (with_reducible first | exact HB.1 | apply zg | apply zc | apply zf | refine ze ?_ qd.1) | exact HB.1))) : w.heap.size ≤ gb153)); have n4_ := Aside0.mk ((by rw [hg]; exact (zj (by repeat (first | (with_reducible first | exact HB.1 | apply zg | apply zc | apply zf | refine ze ?_ qd.1) | exact HB.1))) : w.heap.size ≤ gb153)); have n5_ := Aside0.mk ((by rw [hg]; exact Nat.ne_of_lt (zm (g := gb152) (o := .cells #[.int .i64 a0_0, .int .i64 a0_1] 45 (0, 0)) (by (with_reducible repeat (first | refine za ?_ _ | refine zd ?_ | refine zb ?_ _)); exact zC.1)) : gb152 ≠ gb153)); have n6_ := Aside0.mk ((by rw [hg]; exact Nat.ne_of_gt (zm (g := gb152) (o := .cells #[.int .i64 a0_0, .int .i64 a0_1] 45 (0, 0)) (by (with_reducible repeat (first | refine za ?_ _ | refine zd ?_ | refine zb ?_ _)); exact zC.1)) : gb153 ≠ gb152)); clear zC; clear HB; have zC := n0_; have HB := n1_; have zF := n2_; have GW153 := n3_; have qf := n4_; have zW := n5_; have zX := n6_; clear n0_ n1_ n2_ n3_ n4_ n5_ n6_; clear hb hbox hg))
 (try simp only [Act.put, List.setIfInBounds_toArray, List.set_cons_zero, List.set_cons_succ])
 go_cut [5] (fun v5 wc => ∃ (kq : Nat) (x5_2 : Bool), v5 = .bool x5_2 ∧ zw (spec_l1Compare.j0 kq x5_2 a0_0 a0_1 a1_0 a1_1 = some r) ∧ zw (kq ≤ k) ∧ zw (wc.heap[gb152]? = some (.cells #[.int .i64 a0_0, .int .i64 a0_1] 45 (0, 0))) ∧ zw (wc.heap[gb153]? = some (.cells #[.int .i64 a1_0, .int .i64 a1_1] 45 (0, 0))) ∧ zw (Below w.heap.size w wc))
 case first =>
  have H := HC3.1
  clear HC3
  by_cases c6 : a0_0 < a1_0
  ·
   rw [if_pos c6] at H
   have c6b0 : decide (a0_0 < a1_0) = true := decide_eq_true c6
   clear c6
   (first | rw [c6b0] | (simp only [zr, zs]; rw [c6b0]) | skip)
   have H' := Aside0.mk H
   clear H
   have hnb7 := zW.1
   have hnc7 := zX.1
   have hcz8_0 : w5.cell? ⟨gb152, 0, none⟩ = some (.int .i64 a0_0) := (zi zC.1 0).trans rfl
   have hcz8_1 : w5.cell? ⟨gb152, 1, none⟩ = some (.int .i64 a0_1) := (zi zC.1 1).trans rfl
   have hfz8_0 := zh zC.1 0
   have hfz8_1 := zh zC.1 1
   have hcz9_0 : w5.cell? ⟨gb153, 0, none⟩ = some (.int .i64 a1_0) := (zi zF.1 0).trans rfl
   have hcz9_1 : w5.cell? ⟨gb153, 1, none⟩ = some (.int .i64 a1_1) := (zi zF.1 1).trans rfl
   have hfz9_0 := zh zF.1 0
   have hfz9_1 := zh zF.1 1
   go_wp2
   go_meet
   case rel => exact ⟨_, (true), (by first | rfl | (simp; done) | (simp [*]; done)), H', ⟨by first | omega | exact Nat.le_refl _⟩, ⟨by (with_reducible repeat (first | refine za ?_ _ | refine zd ?_ | refine zb ?_ _)); exact zC.1⟩, ⟨by (with_reducible repeat (first | refine za ?_ _ | refine zd ?_ | refine zb ?_ _)); exact zF.1⟩, ⟨by repeat (first | (with_reducible first | exact HB.1 | apply zg | apply zc | apply zf | refine ze ?_ qd.1 | refine ze ?_ qf.1) | exact HB.1)⟩⟩
  ·
   rw [if_neg c6] at H
   have c6b0 : decide (a0_0 < a1_0) = false := decide_eq_false c6
   clear c6
   (first | rw [c6b0] | (simp only [zr, zs]; rw [c6b0]) | skip)
   by_cases c10 : a0_0 = a1_0
   ·
    rw [if_pos c10] at H
    have c10b0 : (a0_0 == a1_0) = true := beq_iff_eq.mpr c10
    have c10b1 : (a0_0 != a1_0) = false := bne_eq_false_iff_eq.mpr c10
    clear c10
    have H' := Aside0.mk H
    clear H
    have hnb11 := zW.1
    have hnc11 := zX.1
    have hcz12_0 : w5.cell? ⟨gb152, 0, none⟩ = some (.int .i64 a0_0) := (zi zC.1 0).trans rfl
    have hcz12_1 : w5.cell? ⟨gb152, 1, none⟩ = some (.int .i64 a0_1) := (zi zC.1 1).trans rfl
    have hfz12_0 := zh zC.1 0
    have hfz12_1 := zh zC.1 1
    have hcz13_0 : w5.cell? ⟨gb153, 0, none⟩ = some (.int .i64 a1_0) := (zi zF.1 0).trans rfl
    have hcz13_1 : w5.cell? ⟨gb153, 1, none⟩ = some (.int .i64 a1_1) := (zi zF.1 1).trans rfl
    have hfz13_0 := zh zF.1 0
    have hfz13_1 := zh zF.1 1
    go_wp2
    go_meet
    case rel => exact ⟨_, (decide (a0_1 < a1_1)), (by first | rfl | (simp; done) | (simp [*]; done)), H', ⟨by first | omega | exact Nat.le_refl _⟩, ⟨by (with_reducible repeat (first | refine za ?_ _ | refine zd ?_ | refine zb ?_ _)); exact zC.1⟩, ⟨by (with_reducible repeat (first | refine za ?_ _ | refine zd ?_ | refine zb ?_ _)); exact zF.1⟩, ⟨by repeat (first | (with_reducible first | exact HB.1 | apply zg | apply zc | apply zf | refine ze ?_ qd.1 | refine ze ?_ qf.1) | exact HB.1)⟩⟩
   ·
    rw [if_neg c10] at H
    have c10b0 : (a0_0 == a1_0) = false := beq_eq_false_iff_ne.mpr c10
    have c10b1 : (a0_0 != a1_0) = true := bne_iff_ne.mpr c10
    have H' := Aside0.mk H
    clear H
    have hnb14 := zW.1
    have hnc14 := zX.1
    have hcz15_0 : w5.cell? ⟨gb152, 0, none⟩ = some (.int .i64 a0_0) := (zi zC.1 0).trans rfl
    have hcz15_1 : w5.cell? ⟨gb152, 1, none⟩ = some (.int .i64 a0_1) := (zi zC.1 1).trans rfl
    have hfz15_0 := zh zC.1 0
    have hfz15_1 := zh zC.1 1
    have hcz16_0 : w5.cell? ⟨gb153, 0, none⟩ = some (.int .i64 a1_0) := (zi zF.1 0).trans rfl
    have hcz16_1 : w5.cell? ⟨gb153, 1, none⟩ = some (.int .i64 a1_1) := (zi zF.1 1).trans rfl
    have hfz16_0 := zh zF.1 0
    have hfz16_1 := zh zF.1 1
    go_wp2
    go_meet
    case rel => exact ⟨_, (false), (by first | rfl | (simp; done) | (simp [*]; done)), H', ⟨by first | omega | exact Nat.le_refl _⟩, ⟨by (with_reducible repeat (first | refine za ?_ _ | refine zd ?_ | refine zb ?_ _)); exact zC.1⟩, ⟨by (with_reducible repeat (first | refine za ?_ _ | refine zd ?_ | refine zb ?_ _)); exact zF.1⟩, ⟨by repeat (first | (with_reducible first | exact HB.1 | apply zg | apply zc | apply zf | refine ze ?_ qd.1 | refine ze ?_ qf.1) | exact HB.1)⟩⟩
 case rest =>
  clear HC3
  (try clear c1); (try clear p2); (try clear c4); (try clear c6); (try clear c6b0); (try clear c7); (try clear c10); (try clear c10b0); (try clear c10b1); (try clear c11); (try clear c14); (try clear hcz12_0); (try clear hcz12_1); (try clear hcz13_0); (try clear hcz13_1); (try clear hcz15_0); (try clear hcz15_1); (try clear hcz16_0); (try clear hcz16_1); (try clear hcz8_0); (try clear hcz8_1); (try clear hcz9_0); (try clear hcz9_1); (try clear hfz12_0); (try clear hfz12_1); (try clear hfz13_0); (try clear hfz13_1); (try clear hfz15_0); (try clear hfz15_1); (try clear hfz16_0); (try clear hfz16_1); (try clear hfz8_0); (try clear hfz8_1); (try clear hfz9_0); (try clear hfz9_1)
  obtain ⟨kq, x5_2, rfl, HA, HJ2, zC, zF, HB⟩ := hcut
  cases kq with
  | zero => exact absurd HA.1 (by simp [spec_l1Compare.j0])
  | succ kj2 =>
   have H := HA.1
   clear HA
   simp only [spec_l1Compare.j0] at H
   by_cases c17 : x5_2 = true
   ·
    subst c17
    have H1 : (some (-1)) = some r := by rw [if_pos rfl] at H; exact H
    clear H
    have H := H1
    clear H1
    obtain rfl := Option.some.inj H
    go_wp2
    go_ret
    exact ⟨by first | rfl | (simp [errW_none, errW_some] <;> rfl) | (simp [*, errW_none, errW_some] <;> rfl), by repeat (first | (with_reducible first | exact HB.1 | apply zg | apply zc | apply zf | refine ze ?_ qd.1 | refine ze ?_ qf.1) | exact HB.1)⟩
   ·
    replace c17 := Bool.eq_false_iff.mpr c17
    subst c17
    have H1 : (if (a0_0 == a1_0 && (a0_1 == a1_1)) = true then (some 0) else (some 1)) = some r := by rw [if_neg (show ¬ (false = true) by decide)] at H; exact H
    clear H
    have H := H1
    clear H1
    by_cases c18 : (a0_0 == a1_0 && (a0_1 == a1_1)) = true
    ·
     rw [if_pos c18] at H
     have c18b0 : (a0_0 == a1_0 && (a0_1 == a1_1)) = true := c18
     (try (have c18b1 : decide (a0_0 = a1_0 && (a0_1 == a1_1)) = true := by simpa using c18))
     (try (have c18b2 : (a0_0 == a1_0 && (a0_1 == a1_1)) = true := by simpa using c18))
     clear c18
     obtain rfl := Option.some.inj H
     have hnb19 := zW.1
     have hnc19 := zX.1
     have hcz20_0 : wc.cell? ⟨gb152, 0, none⟩ = some (.int .i64 a0_0) := (zi zC.1 0).trans rfl
     have hcz20_1 : wc.cell? ⟨gb152, 1, none⟩ = some (.int .i64 a0_1) := (zi zC.1 1).trans rfl
     have hfz20_0 := zh zC.1 0
     have hfz20_1 := zh zC.1 1
     have hcz21_0 : wc.cell? ⟨gb153, 0, none⟩ = some (.int .i64 a1_0) := (zi zF.1 0).trans rfl
     have hcz21_1 : wc.cell? ⟨gb153, 1, none⟩ = some (.int .i64 a1_1) := (zi zF.1 1).trans rfl
     have hfz21_0 := zh zF.1 0
     have hfz21_1 := zh zF.1 1
     go_wp2
     go_ret
     exact ⟨by first | rfl | (simp [errW_none, errW_some] <;> rfl) | (simp [*, errW_none, errW_some] <;> rfl), by repeat (first | (with_reducible first | exact HB.1 | apply zg | apply zc | apply zf | refine ze ?_ qd.1 | refine ze ?_ qf.1) | exact HB.1)⟩
    ·
     rw [if_neg c18] at H
     have c18b0 : (a0_0 == a1_0 && (a0_1 == a1_1)) = false := by simpa using c18
     (try (have c18b1 : decide (a0_0 = a1_0 && (a0_1 == a1_1)) = false := by simpa using c18))
     (try (have c18b2 : (a0_0 == a1_0 && (a0_1 == a1_1)) = false := by simpa using c18))
     (try (have c18b3 : ¬ (a0_0 = a1_0 && (a0_1 == a1_1)) := by simpa using c18))
     clear c18
     obtain rfl := Option.some.inj H
     have hnb22 := zW.1
     have hnc22 := zX.1
     have hcz23_0 : wc.cell? ⟨gb152, 0, none⟩ = some (.int .i64 a0_0) := (zi zC.1 0).trans rfl
     have hcz23_1 : wc.cell? ⟨gb152, 1, none⟩ = some (.int .i64 a0_1) := (zi zC.1 1).trans rfl
     have hfz23_0 := zh zC.1 0
     have hfz23_1 := zh zC.1 1
     have hcz24_0 : wc.cell? ⟨gb153, 0, none⟩ = some (.int .i64 a1_0) := (zi zF.1 0).trans rfl
     have hcz24_1 : wc.cell? ⟨gb153, 1, none⟩ = some (.int .i64 a1_1) := (zi zF.1 1).trans rfl
     have hfz24_0 := zh zF.1 0
     have hfz24_1 := zh zF.1 1
     go_wp2
     go_ret
     exact ⟨by first | rfl | (simp [errW_none, errW_some] <;> rfl) | (simp [*, errW_none, errW_some] <;> rfl), by repeat (first | (with_reducible first | exact HB.1 | apply zg | apply zc | apply zf | refine ze ?_ qd.1 | refine ze ?_ qf.1) | exact HB.1)⟩

end Go.Proofs.Ytabejlfejlpkeaa.PFnExactCutPrefix
