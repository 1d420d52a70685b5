/- Written by this session's own program over the kit's print: Lean functions that tell what Go functions answer, each with a proof that the call does so. No condition but what each statement says. -/
import Derived.Test.YtkkchcalhomgcaaPFnExactTakeMsgx0
import Derived.Test.YtkkchcalhomgcaaPFnExactTakeMsgx4
namespace Go.Proofs.Ytkkchcalhomgcaa.PFnExactTakeMsg
open Go.RowKit Go.Proofs.YtkkchcalhomgcaaW.PrintWords Go.Proofs.YtkkchcalhomgcaaW.PrintLast Go.Proofs.YtkkchcalhomgcaaW.PrintMore
open Go.Proofs.YtkkchcalhomgcaaW.PrintLast renaming i64_w → zu, i32_w → zv, any_of → zw, pure_ → zx
open Go.Proofs.YtkkchcalhomgcaaW.PrintWords renaming blk_drewN → za, blk_alloc → zb, blk_drew → zc, pw_below_drewN → zd, add_block → ze, below_set → zf, below_drew1 → zg, below_alloc → zh, blk_frozen → zi, blk_cell → zj, below_size → zk, cell_far → zl, blk_below → zm, below_step → zn, blk_put → zo, blk_far → zp, gate_guard → zq, blk_lt → zr, box_event → zs, gate_dst → zt
attribute [local go_sem] max2_int min2_int max_two min_two max_three min_three max_four min_four   -- for this text's walks alone
set_option linter.unusedVariables false
set_option linter.unusedSimpArgs false

/-! ### spec_TakeMsg: function 35 -/
def spec_TakeMsg.f (k : Nat) (a0_0 : ByteArray) (l0_1 : List (S26)) (a0_2 : Int) : Option (ByteArray × (List (S26)) × Int × Int × ByteArray × Bool) := (spec_GoodReader.f k a0_0 l0_1 a0_2).bind fun t165 => (if t165 = true then (if (l0_1.length : Int) = 0 then (some ((⟨#[]⟩ : ByteArray), ([] : List (S26)), 0, 0, (⟨#[]⟩ : ByteArray), false)) else ((some (([] : List (S26)) : List (S26))).bind fun y166 => (if 1 ≤ (l0_1.length : Int) then ((some (l0_1.drop 1 : List (S26))).bind fun y169 => (if y166.length + y169.length < 5864062014805 then (if 0 < (l0_1.length : Int) then (some (a0_0, (y166 ++ y169), a0_2, (rd_T26 l0_1 0).f0, (rd_T26 l0_1 0).f1, true)) else (none)) else (none))) else (none)))) else (some ((⟨#[]⟩ : ByteArray), ([] : List (S26)), 0, 0, (⟨#[]⟩ : ByteArray), false)))
theorem spec_TakeMsg.mono : ∀ a0 a1 a2 k, LeO (spec_TakeMsg.f k a0 a1 a2) (spec_TakeMsg.f (k + 1) a0 a1 a2) := by
 intro a0 a1 a2 k
 unfold spec_TakeMsg.f
 repeat' first
   | (with_reducible exact spec_GoodReader.mono _ _ _ _)
   | (with_reducible exact LeO.refl _)
   | (with_reducible exact LeO.none _)
   | (with_reducible refine LeO.ite ?_ ?_)
   | (with_reducible refine LeO.bind ?_ (fun _ => ?_))
   | exact spec_GoodReader.mono _ _ _ _
   | exact LeO.none _
   | refine LeO.ite ?_ ?_
   | refine LeO.bind ?_ (fun _ => ?_)
def spec_TakeMsg.T3 : Bool × List (List Nat × List Nat) := (true, [([], []), ([0], [0]), ([], []), ([], []), ([3], [3]), ([4], [4]), ([2, 5], [2, 5]), ([], []), ([7], [7]), ([1, 6, 8], [1, 6, 8]), ([], []), ([10], [10]), ([11], [11]), ([12], [12]), ([9, 6, 0, 1, 2, 3, 4, 5, 6, 7, 8, 9], [9]), ([13, 14, 0, 1, 2, 3, 4, 5, 6, 7, 8, 9, 10, 11, 12, 13, 14], [13]), ([15, 0, 1, 2, 3, 4, 5, 6, 7, 8, 9, 10, 11, 12, 13, 14, 15], [])])
def spec_TakeMsg.B3 : List Nat := [0, 1, 0, 0, 8, 24, 60, 0, 128, 511, 0, 1024, 3072, 7168, 1023, 32767, 65535]
theorem spec_TakeMsg.tab3 : rtab .any (opsOf Try.f35 3) = spec_TakeMsg.T3 := by kernel_rfl
theorem spec_TakeMsg.bits3 : waitsOk spec_TakeMsg.T3.2 spec_TakeMsg.B3 = true := by kernel_rfl
set_option maxHeartbeats 8000000 in
set_option maxRecDepth 100000 in
theorem spec_TakeMsg.calls (k : Nat) (a0_0 : ByteArray) (A0_1 : Option Addr) (c0_1 : Nat) (l0_1 : List (S26)) (a0_2 : Int) (r1 : ByteArray) (r2 : List (S26)) (r3 : Int) (r4 : Int) (r5 : ByteArray) (r6 : Bool) (w : World) (hr0_1 : Kd.C k26 w A0_1 l0_1.length l0_1) (hc0_1 : l0_1.length ≤ c0_1) (h : spec_TakeMsg.f k a0_0 l0_1 a0_2 = some (r1, r2, r3, r4, r5, r6)) :
  Calls Try.prog 35 #[.agg #[.string a0_0, .slice A0_1 l0_1.length c0_1, .int .i64 a0_2]] w fun e w' => ∃ v1_ : Value, e = .returned (.tuple #[.agg #[.string r1, v1_, .int .i64 r3], .agg #[.int .i64 r4, .string r5], .bool r6]) ∧ Kd.R k26 26 w' w.heap.size (fun _ => True) v1_ r2 ∧ Below w.heap.size w w' := by
 have hu33 := Try.underlying33
 have hu26 := Try.underlying26
 have zM := Aside0.mk hr0_1
 have HC0_1 := Aside0.mk hc0_1
 clear hr0_1 hc0_1
 have HB := Aside0.mk (Below.refl w.heap.size w)
 have H : ((spec_GoodReader.f k a0_0 l0_1 a0_2).bind fun t165 => (if t165 = true then (if (l0_1.length : Int) = 0 then (some ((⟨#[]⟩ : ByteArray), ([] : List (S26)), 0, 0, (⟨#[]⟩ : ByteArray), false)) else ((some (([] : List (S26)) : List (S26))).bind fun y166 => (if 1 ≤ (l0_1.length : Int) then ((some (l0_1.drop 1 : List (S26))).bind fun y169 => (if y166.length + y169.length < 5864062014805 then (if 0 < (l0_1.length : Int) then (some (a0_0, (y166 ++ y169), a0_2, (rd_T26 l0_1 0).f0, (rd_T26 l0_1 0).f1, true)) else (none)) else (none))) else (none)))) else (some ((⟨#[]⟩ : ByteArray), ([] : List (S26)), 0, 0, (⟨#[]⟩ : ByteArray), false)))) = some (r1, r2, r3, r4, r5, r6) := h
 clear h
 replace H := Option.bind_eq_some_iff.mp H
 obtain ⟨t165, A20, H⟩ := H
 replace H : (if t165 = true then (if (l0_1.length : Int) = 0 then (some ((⟨#[]⟩ : ByteArray), ([] : List (S26)), 0, 0, (⟨#[]⟩ : ByteArray), false)) else ((some (([] : List (S26)) : List (S26))).bind fun y166 => (if 1 ≤ (l0_1.length : Int) then ((some (l0_1.drop 1 : List (S26))).bind fun y169 => (if y166.length + y169.length < 5864062014805 then (if 0 < (l0_1.length : Int) then (some (a0_0, (y166 ++ y169), a0_2, (rd_T26 l0_1 0).f0, (rd_T26 l0_1 0).f1, true)) else (none)) else (none))) else (none)))) else (some ((⟨#[]⟩ : ByteArray), ([] : List (S26)), 0, 0, (⟨#[]⟩ : ByteArray), false))) = some (r1, r2, r3, r4, r5, r6) := H
 have A2 := Aside0.mk A20
 clear A20
 by_cases c3 : t165 = true
 ·
  subst c3
  have H1 : (if (l0_1.length : Int) = 0 then (some ((⟨#[]⟩ : ByteArray), ([] : List (S26)), 0, 0, (⟨#[]⟩ : ByteArray), false)) else ((some (([] : List (S26)) : List (S26))).bind fun y166 => (if 1 ≤ (l0_1.length : Int) then ((some (l0_1.drop 1 : List (S26))).bind fun y169 => (if y166.length + y169.length < 5864062014805 then (if 0 < (l0_1.length : Int) then (some (a0_0, (y166 ++ y169), a0_2, (rd_T26 l0_1 0).f0, (rd_T26 l0_1 0).f1, true)) else (none)) else (none))) else (none)))) = some (r1, r2, r3, r4, r5, r6) := by rw [if_pos rfl] at H; exact H
  clear H
  have H := H1
  clear H1
  by_cases c4 : (l0_1.length : Int) = 0
  ·
   rw [if_pos c4] at H
   have c4b0 : ((l0_1.length : Int) == 0) = true := beq_iff_eq.mpr c4
   have c4b1 : ((l0_1.length : Int) != 0) = false := bne_eq_false_iff_eq.mpr c4
   clear c4
   simp only [Option.some.injEq, Prod.mk.injEq] at H
   obtain ⟨rfl, rfl, rfl, rfl, rfl, rfl⟩ := H
   go_enter Try.func35, Try.ntmps35
   go_wp2_with (first | ((with_reducible refine zt (N := 1) rfl ?_); (try (refine zq (by rfl) ?_; dsimp only)); refine zs ?hg (N := 1) ?hd (cs := #[.string a0_0, .slice A0_1 l0_1.length c0_1, .int .i64 a0_2]) (t := 33) ?hr ?_; (case hd => rfl); (case hg => rfl); (case hr => first | (go_simp; done) | (go_simp; rfl)); intro gb162 hg w5 hbox hb; have n0_ := Aside0.mk (zn (by repeat (first | (with_reducible first | exact HB.1 | apply zh | apply zd | apply zg) | exact HB.1)) hb); have n1_ := Aside0.mk (hbox); have n2_ := Aside0.mk ((by rw [hg]; exact (zk (by repeat (first | (with_reducible first | exact HB.1 | apply zh | apply zd | apply zg) | exact HB.1))) : w.heap.size ≤ gb162)); have n3_ := Aside0.mk ((by rw [hg]; exact (zk (by repeat (first | (with_reducible first | exact HB.1 | apply zh | apply zd | apply zg) | exact HB.1))) : w.heap.size ≤ gb162)); clear HB; have HB := n0_; have zy := n1_; have GW162 := n2_; have zF := n3_; clear n0_ n1_ n2_ n3_; clear hb hbox hg) | ((with_reducible refine zt (N := 2) rfl ?_); (try (refine zq (by rfl) ?_; dsimp only)); refine zs ?hg (N := 2) ?hd (cs := #[.string (⟨#[]⟩ : ByteArray), .slice none 0 0, .int .i64 0]) (t := 33) ?hr ?_; (case hd => rfl); (case hg => rfl); (case hr => first | (go_simp; done) | (go_simp; rfl)); intro gb163 hg w6 hbox hb; have n0_ := Aside0.mk (zm (g := gb162) (o := .cells #[.string a0_0, .slice A0_1 l0_1.length c0_1, .int .i64 a0_2] 33 (0, 0)) (by (with_reducible repeat (first | refine za ?_ _ | refine zc ?_ | refine zb ?_ _)); exact zy.1) hb); have n1_ := Aside0.mk (zn (by repeat (first | (with_reducible first | exact HB.1 | apply zh | apply zd | apply zg | refine zf ?_ zF.1) | exact HB.1)) hb); have n2_ := Aside0.mk (hbox); have n3_ := Aside0.mk ((by rw [hg]; exact (zk (by repeat (first | (with_reducible first | exact HB.1 | apply zh | apply zd | apply zg | refine zf ?_ zF.1) | exact HB.1))) : w.heap.size ≤ gb163)); have n4_ := Aside0.mk ((by rw [hg]; exact (zk (by repeat (first | (with_reducible first | exact HB.1 | apply zh | apply zd | apply zg | refine zf ?_ zF.1) | exact HB.1))) : w.heap.size ≤ gb163)); have n5_ := Aside0.mk ((by rw [hg]; exact Nat.ne_of_lt (zr (g := gb162) (o := .cells #[.string a0_0, .slice A0_1 l0_1.length c0_1, .int .i64 a0_2] 33 (0, 0)) (by (with_reducible repeat (first | refine za ?_ _ | refine zc ?_ | refine zb ?_ _)); exact zy.1)) : gb162 ≠ gb163)); have n6_ := Aside0.mk ((by rw [hg]; exact Nat.ne_of_gt (zr (g := gb162) (o := .cells #[.string a0_0, .slice A0_1 l0_1.length c0_1, .int .i64 a0_2] 33 (0, 0)) (by (with_reducible repeat (first | refine za ?_ _ | refine zc ?_ | refine zb ?_ _)); exact zy.1)) : gb163 ≠ gb162)); clear zy; clear HB; have zy := n0_; have HB := n1_; have zz := n2_; have zG := n3_; have zH := n4_; have zB := n5_; have zI := n6_; clear n0_ n1_ n2_ n3_ n4_ n5_ n6_; clear hb hbox hg) | ((with_reducible refine zt (N := 3) rfl ?_); (try (refine zq (by rfl) ?_; dsimp only)); refine zs ?hg (N := 3) ?hd (cs := #[.int .i64 0, .string (⟨#[]⟩ : ByteArray)]) (t := 26) ?hr ?_; (case hd => rfl); (case hg => rfl); (case hr => first | (go_simp; done) | (go_simp; rfl)); intro gb164 hg w7 hbox hb; have n0_ := Aside0.mk (zm (g := gb162) (o := .cells #[.string a0_0, .slice A0_1 l0_1.length c0_1, .int .i64 a0_2] 33 (0, 0)) (by (with_reducible repeat (first | refine za ?_ _ | refine zc ?_ | refine zb ?_ _)); exact zy.1) hb); have n1_ := Aside0.mk (zm (g := gb163) (o := .cells #[.string (⟨#[]⟩ : ByteArray), .slice none 0 0, .int .i64 0] 33 (0, 0)) (by (with_reducible repeat (first | refine za ?_ _ | refine zc ?_ | refine zb ?_ _)); exact zz.1) hb); have n2_ := Aside0.mk (zn (by repeat (first | (with_reducible first | exact HB.1 | apply zh | apply zd | apply zg | refine zf ?_ zF.1 | refine zf ?_ zH.1) | exact HB.1)) hb); have n3_ := Aside0.mk (hbox); have n4_ := Aside0.mk ((by rw [hg]; exact (zk (by repeat (first | (with_reducible first | exact HB.1 | apply zh | apply zd | apply zg | refine zf ?_ zF.1 | refine zf ?_ zH.1) | exact HB.1))) : w.heap.size ≤ gb164)); have n5_ := Aside0.mk ((by rw [hg]; exact (zk (by repeat (first | (with_reducible first | exact HB.1 | apply zh | apply zd | apply zg | refine zf ?_ zF.1 | refine zf ?_ zH.1) | exact HB.1))) : w.heap.size ≤ gb164)); have n6_ := Aside0.mk ((by rw [hg]; exact Nat.ne_of_lt (zr (g := gb162) (o := .cells #[.string a0_0, .slice A0_1 l0_1.length c0_1, .int .i64 a0_2] 33 (0, 0)) (by (with_reducible repeat (first | refine za ?_ _ | refine zc ?_ | refine zb ?_ _)); exact zy.1)) : gb162 ≠ gb164)); have n7_ := Aside0.mk ((by rw [hg]; exact Nat.ne_of_gt (zr (g := gb162) (o := .cells #[.string a0_0, .slice A0_1 l0_1.length c0_1, .int .i64 a0_2] 33 (0, 0)) (by (with_reducible repeat (first | refine za ?_ _ | refine zc ?_ | refine zb ?_ _)); exact zy.1)) : gb164 ≠ gb162)); have n8_ := Aside0.mk ((by rw [hg]; exact Nat.ne_of_lt (zr (g := gb163) (o := .cells #[.string (⟨#[]⟩ : ByteArray), .slice none 0 0, .int .i64 0] 33 (0, 0)) (by (with_reducible repeat (first | refine za ?_ _ | refine zc ?_ | refine zb ?_ _)); exact zz.1)) : gb163 ≠ gb164)); have n9_ := Aside0.mk ((by rw [hg]; exact Nat.ne_of_gt (zr (g := gb163) (o := .cells #[.string (⟨#[]⟩ : ByteArray), .slice none 0 0, .int .i64 0] 33 (0, 0)) (by (with_reducible repeat (first | refine za ?_ _ | refine zc ?_ | refine zb ?_ _)); exact zz.1)) : gb164 ≠ gb163)); clear zy; clear zz; clear HB; have zy := n0_; have zz := n1_; have HB := n2_; have zC := n3_; have zJ := n4_; have zL := n5_; have zE := n6_; have zK := n7_; have zD := n8_; have zA := n9_; clear n0_ n1_ n2_ n3_ n4_ n5_ n6_ n7_ n8_ n9_; clear hb hbox hg; have hnb8 := zB.1; have hnc8 := zI.1; have hnb9 := zE.1; have hnc9 := zK.1; have hcz10_0 : w7.cell? ⟨gb162, 0, none⟩ = some (.string a0_0) := (zj zy.1 0).trans rfl; have hcz10_1 : w7.cell? ⟨gb162, 1, none⟩ = some (.slice A0_1 l0_1.length c0_1) := (zj zy.1 1).trans rfl; have hcz10_2 : w7.cell? ⟨gb162, 2, none⟩ = some (.int .i64 a0_2) := (zj zy.1 2).trans rfl; have hfz10_0 := zi zy.1 0; have hfz10_1 := zi zy.1 1; have hfz10_2 := zi zy.1 2) | ((with_reducible refine gate_callee (f := 32) rfl ?_); refine goesL_ (some 6) rfl rfl Try.func32 (by kernel_rfl) rfl #[.agg #[.string a0_0, .slice A0_1 l0_1.length c0_1, .int .i64 a0_2]] rfl (by (try simp only [List.map_toArray, List.map_cons, List.map_nil]); first | done | rfl | (simp only [List.length_drop, List.length_take]; rfl)) ?_; (with_reducible refine (spec_GoodReader.calls k a0_0 _ _ l0_1 a0_2 true _ ?side1 ?side2 A2.1).mono ?_); (case side1 => repeat (first | exact (Kd.C_below zM.1 HB.1) | (with_reducible refine Kd.C_alloc ?_ _) | (with_reducible refine Kd.C_drewN ?_ _) | (with_reducible refine Kd.C_drew ?_))); (case side2 => exact HC0_1.1); rintro e w11 ⟨rfl, hb⟩; refine ⟨_, rfl, ?_⟩; have n0_ := Aside0.mk (zm (g := gb162) (o := .cells #[.string a0_0, .slice A0_1 l0_1.length c0_1, .int .i64 a0_2] 33 (0, 0)) (by (with_reducible repeat (first | refine za ?_ _ | refine zc ?_ | refine zb ?_ _)); exact zy.1) hb); have n1_ := Aside0.mk (zm (g := gb163) (o := .cells #[.string (⟨#[]⟩ : ByteArray), .slice none 0 0, .int .i64 0] 33 (0, 0)) (by (with_reducible repeat (first | refine za ?_ _ | refine zc ?_ | refine zb ?_ _)); exact zz.1) hb); have n2_ := Aside0.mk (zm (g := gb164) (o := .cells #[.int .i64 0, .string (⟨#[]⟩ : ByteArray)] 26 (0, 0)) (by (with_reducible repeat (first | refine za ?_ _ | refine zc ?_ | refine zb ?_ _)); exact zC.1) hb); have n3_ := Aside0.mk (zn (by repeat (first | (with_reducible first | exact HB.1 | apply zh | apply zd | apply zg | refine zf ?_ zF.1 | refine zf ?_ zH.1 | refine zf ?_ zL.1) | exact HB.1)) hb); clear zy; clear zz; clear zC; clear HB; have zy := n0_; have zz := n1_; have zC := n2_; have HB := n3_; clear n0_ n1_ n2_ n3_; (try clear hb); (try clear hb2); (try clear hk); (try clear hi); have hcz12_0 : w11.cell? ⟨gb162, 0, none⟩ = some (.string a0_0) := (zj zy.1 0).trans rfl; have hcz12_1 : w11.cell? ⟨gb162, 1, none⟩ = some (.slice A0_1 l0_1.length c0_1) := (zj zy.1 1).trans rfl; have hcz12_2 : w11.cell? ⟨gb162, 2, none⟩ = some (.int .i64 a0_2) := (zj zy.1 2).trans rfl; have hfz12_0 := zi zy.1 0; have hfz12_1 := zi zy.1 1; have hfz12_2 := zi zy.1 2; have hnb13 := zD.1; have hnc13 := zA.1; have hcz14_0 : w11.cell? ⟨gb163, 0, none⟩ = some (.string (⟨#[]⟩ : ByteArray)) := (zj zz.1 0).trans rfl; have hcz14_1 : w11.cell? ⟨gb163, 1, none⟩ = some (.slice none 0 0) := (zj zz.1 1).trans rfl; have hcz14_2 : w11.cell? ⟨gb163, 2, none⟩ = some (.int .i64 0) := (zj zz.1 2).trans rfl; have hfz14_0 := zi zz.1 0; have hfz14_1 := zi zz.1 1; have hfz14_2 := zi zz.1 2; have hcz15_0 : w11.cell? ⟨gb164, 0, none⟩ = some (.int .i64 0) := (zj zC.1 0).trans rfl; have hcz15_1 : w11.cell? ⟨gb164, 1, none⟩ = some (.string (⟨#[]⟩ : ByteArray)) := (zj zC.1 1).trans rfl; have hfz15_0 := zi zC.1 0; have hfz15_1 := zi zC.1 1))
   refine bodyPost_ret (results_list (rs := [.cell 2 33, .cell 3 26, .tmp 4]) rfl (by simp) (.cell gb163 33 #[.string (⟨#[]⟩ : ByteArray), .slice none 0 0, .int .i64 0] (0, 0) _ rfl (by (with_reducible repeat (first | refine za ?_ _ | refine zc ?_ | refine zb ?_ _)); refine zp ?_ zD.1 _; (with_reducible repeat (first | refine za ?_ _ | refine zc ?_ | refine zb ?_ _)); refine zp ?_ zD.1 _; (with_reducible repeat (first | refine za ?_ _ | refine zc ?_ | refine zb ?_ _)); refine zo (cs := #[.string (⟨#[]⟩ : ByteArray), .slice none 0 0, .int .i64 0]) ?_ 2 _ rfl; (with_reducible repeat (first | refine za ?_ _ | refine zc ?_ | refine zb ?_ _)); refine zo (cs := #[.string (⟨#[]⟩ : ByteArray), .slice none 0 0, .int .i64 0]) ?_ 1 _ rfl; (with_reducible repeat (first | refine za ?_ _ | refine zc ?_ | refine zb ?_ _)); refine zo (cs := #[.string (⟨#[]⟩ : ByteArray), .slice none 0 0, .int .i64 0]) ?_ 0 _ rfl; (with_reducible repeat (first | refine za ?_ _ | refine zc ?_ | refine zb ?_ _)); exact zz.1) Try.underlying33 rfl (by kernel_rfl) (.cell gb164 26 #[.int .i64 0, .string (⟨#[]⟩ : ByteArray)] (0, 0) _ rfl (by (with_reducible repeat (first | refine za ?_ _ | refine zc ?_ | refine zb ?_ _)); refine zo (cs := #[.int .i64 0, .string (⟨#[]⟩ : ByteArray)]) ?_ 1 _ rfl; (with_reducible repeat (first | refine za ?_ _ | refine zc ?_ | refine zb ?_ _)); refine zo (cs := #[.int .i64 0, .string (⟨#[]⟩ : ByteArray)]) ?_ 0 _ rfl; (with_reducible repeat (first | refine za ?_ _ | refine zc ?_ | refine zb ?_ _)); refine zp ?_ zA.1 _; (with_reducible repeat (first | refine za ?_ _ | refine zc ?_ | refine zb ?_ _)); refine zp ?_ zA.1 _; (with_reducible repeat (first | refine za ?_ _ | refine zc ?_ | refine zb ?_ _)); refine zp ?_ zA.1 _; (with_reducible repeat (first | refine za ?_ _ | refine zc ?_ | refine zb ?_ _)); exact zC.1) Try.underlying26 rfl (by kernel_rfl) (.tmp .nil)))) rfl ?_
   exact ⟨_, by first | rfl | (simp [errW_none, errW_some] <;> rfl) | (simp [*, errW_none, errW_some] <;> rfl), by first | exact Kd.R_nil _ _ _ _ _ | exact Kd.N_nil _ _ _ _ _ | exact Kd.V_nil _ _ _ _ _ | exact Kd.Q_nil _ _ _ _ _ | exact Kd.S_nil _ _ _ _ _, by repeat (first | (with_reducible first | exact HB.1 | apply zh | apply zd | apply zg | refine zf ?_ zF.1 | refine zf ?_ zH.1 | refine zf ?_ zL.1) | exact HB.1)⟩
  ·
   rw [if_neg c4] at H
   have c4b0 : ((l0_1.length : Int) == 0) = false := beq_eq_false_iff_ne.mpr c4
   have c4b1 : ((l0_1.length : Int) != 0) = true := bne_iff_ne.mpr c4
   have c4b2 : ¬ (l0_1 = []) := fun h_ => c4 (by rw [h_]; rfl)
   obtain ⟨y166, hy166⟩ : ∃ y_ : List (S26), y_ = (([] : List (S26))) := ⟨_, rfl⟩
   replace H : (if 1 ≤ (l0_1.length : Int) then ((some (l0_1.drop 1 : List (S26))).bind fun y169 => (if y166.length + y169.length < 5864062014805 then (if 0 < (l0_1.length : Int) then (some (a0_0, (y166 ++ y169), a0_2, (rd_T26 l0_1 0).f0, (rd_T26 l0_1 0).f1, true)) else (none)) else (none))) else (none)) = some (r1, r2, r3, r4, r5, r6) := by first | (rw [hy166]; with_reducible exact H) | (have H2_ := (Option.bind_some _ _).symm.trans H; rw [hy166]; with_reducible exact H2_) | (have H2_ := (Option.bind_some _ _).symm.trans H; with_reducible exact H2_) | with_reducible exact H | (rw [hy166]; exact H) | exact H
   have Ny166 := Aside0.mk hy166
   clear hy166
   by_cases c16 : 1 ≤ (l0_1.length : Int)
   ·
    rw [if_pos c16] at H
    have c16b0 := eq_true c16
    have c16b1 : decide (1 ≤ (l0_1.length : Int)) = true := decide_eq_true c16
    clear c16
    obtain ⟨y169, hy169⟩ : ∃ y_ : List (S26), y_ = (l0_1.drop 1) := ⟨_, rfl⟩
    replace H : (if y166.length + y169.length < 5864062014805 then (if 0 < (l0_1.length : Int) then (some (a0_0, (y166 ++ y169), a0_2, (rd_T26 l0_1 0).f0, (rd_T26 l0_1 0).f1, true)) else (none)) else (none)) = some (r1, r2, r3, r4, r5, r6) := by first | (rw [hy169]; with_reducible exact H) | (have H2_ := (Option.bind_some _ _).symm.trans H; rw [hy169]; with_reducible exact H2_) | (have H2_ := (Option.bind_some _ _).symm.trans H; with_reducible exact H2_) | with_reducible exact H | (rw [hy169]; exact H) | exact H
    have Ny169 := Aside0.mk hy169
    clear hy169
    by_cases c17 : y166.length + y169.length < 5864062014805
    ·
     rw [if_pos c17] at H
     have LMc17 := Aside0.mk c17
     clear c17
     obtain ⟨y173, hy173⟩ : ∃ y_ : List (S26), y_ = (y166 ++ y169) := ⟨_, rfl⟩
     replace H : (if 0 < (l0_1.length : Int) then (some (a0_0, y173, a0_2, (rd_T26 l0_1 0).f0, (rd_T26 l0_1 0).f1, true)) else (none)) = some (r1, r2, r3, r4, r5, r6) := by first | (rw [hy173]; with_reducible exact H) | (have H2_ := (Option.bind_some _ _).symm.trans H; rw [hy173]; with_reducible exact H2_) | (have H2_ := (Option.bind_some _ _).symm.trans H; with_reducible exact H2_) | with_reducible exact H | (rw [hy173]; exact H) | exact H
     have Ny173 := Aside0.mk hy173
     clear hy173
     by_cases c18 : 0 < (l0_1.length : Int)
     ·
      rw [if_pos c18] at H
      have c18b0 : decide (0 < (l0_1.length : Int)) = true := decide_eq_true c18
      have c18b1 : decide (0 < l0_1.length) = true := decide_eq_true (by omega)
      clear c18
      simp only [Option.some.injEq, Prod.mk.injEq] at H
      obtain ⟨rfl, rfl, rfl, rfl, rfl, rfl⟩ := H
      go_enter Try.func35, Try.ntmps35
      try go_wp2_with (first | ((with_reducible refine zt (N := 1) rfl ?_); (try (refine zq (by rfl) ?_; dsimp only)); refine zs ?hg (N := 1) ?hd (cs := #[.string a0_0, .slice A0_1 l0_1.length c0_1, .int .i64 a0_2]) (t := 33) ?hr ?_; (case hd => rfl); (case hg => rfl); (case hr => first | (go_simp; done) | (go_simp; rfl)); intro gb162 hg w19 hbox hb; have n0_ := Aside0.mk (zn (by repeat (first | (with_reducible first | exact HB.1 | apply zh | apply zd | apply zg) | exact HB.1)) hb); have n1_ := Aside0.mk (hbox); have n2_ := Aside0.mk ((by rw [hg]; exact (zk (by repeat (first | (with_reducible first | exact HB.1 | apply zh | apply zd | apply zg) | exact HB.1))) : w.heap.size ≤ gb162)); have n3_ := Aside0.mk ((by rw [hg]; exact (zk (by repeat (first | (with_reducible first | exact HB.1 | apply zh | apply zd | apply zg) | exact HB.1))) : w.heap.size ≤ gb162)); clear HB; have HB := n0_; have zy := n1_; have GW162 := n2_; have zF := n3_; clear n0_ n1_ n2_ n3_; clear hb hbox hg) | ((with_reducible refine zt (N := 2) rfl ?_); (try (refine zq (by rfl) ?_; dsimp only)); refine zs ?hg (N := 2) ?hd (cs := #[.string (⟨#[]⟩ : ByteArray), .slice none 0 0, .int .i64 0]) (t := 33) ?hr ?_; (case hd => rfl); (case hg => rfl); (case hr => first | (go_simp; done) | (go_simp; rfl)); intro gb163 hg w20 hbox hb; have n0_ := Aside0.mk (zm (g := gb162) (o := .cells #[.string a0_0, .slice A0_1 l0_1.length c0_1, .int .i64 a0_2] 33 (0, 0)) (by (with_reducible repeat (first | refine za ?_ _ | refine zc ?_ | refine zb ?_ _)); exact zy.1) hb); have n1_ := Aside0.mk (zn (by repeat (first | (with_reducible first | exact HB.1 | apply zh | apply zd | apply zg | refine zf ?_ zF.1) | exact HB.1)) hb); have n2_ := Aside0.mk (hbox); have n3_ := Aside0.mk ((by rw [hg]; exact (zk (by repeat (first | (with_reducible first | exact HB.1 | apply zh | apply zd | apply zg | refine zf ?_ zF.1) | exact HB.1))) : w.heap.size ≤ gb163)); have n4_ := Aside0.mk ((by rw [hg]; exact (zk (by repeat (first | (with_reducible first | exact HB.1 | apply zh | apply zd | apply zg | refine zf ?_ zF.1) | exact HB.1))) : w.heap.size ≤ gb163)); have n5_ := Aside0.mk ((by rw [hg]; exact Nat.ne_of_lt (zr (g := gb162) (o := .cells #[.string a0_0, .slice A0_1 l0_1.length c0_1, .int .i64 a0_2] 33 (0, 0)) (by (with_reducible repeat (first | refine za ?_ _ | refine zc ?_ | refine zb ?_ _)); exact zy.1)) : gb162 ≠ gb163)); have n6_ := Aside0.mk ((by rw [hg]; exact Nat.ne_of_gt (zr (g := gb162) (o := .cells #[.string a0_0, .slice A0_1 l0_1.length c0_1, .int .i64 a0_2] 33 (0, 0)) (by (with_reducible repeat (first | refine za ?_ _ | refine zc ?_ | refine zb ?_ _)); exact zy.1)) : gb163 ≠ gb162)); clear zy; clear HB; have zy := n0_; have HB := n1_; have zz := n2_; have zG := n3_; have zH := n4_; have zB := n5_; have zI := n6_; clear n0_ n1_ n2_ n3_ n4_ n5_ n6_; clear hb hbox hg) | ((with_reducible refine zt (N := 3) rfl ?_); (try (refine zq (by rfl) ?_; dsimp only)); refine zs ?hg (N := 3) ?hd (cs := #[.int .i64 0, .string (⟨#[]⟩ : ByteArray)]) (t := 26) ?hr ?_; (case hd => rfl); (case hg => rfl); (case hr => first | (go_simp; done) | (go_simp; rfl)); intro gb164 hg w21 hbox hb; have n0_ := Aside0.mk (zm (g := gb162) (o := .cells #[.string a0_0, .slice A0_1 l0_1.length c0_1, .int .i64 a0_2] 33 (0, 0)) (by (with_reducible repeat (first | refine za ?_ _ | refine zc ?_ | refine zb ?_ _)); exact zy.1) hb); have n1_ := Aside0.mk (zm (g := gb163) (o := .cells #[.string (⟨#[]⟩ : ByteArray), .slice none 0 0, .int .i64 0] 33 (0, 0)) (by (with_reducible repeat (first | refine za ?_ _ | refine zc ?_ | refine zb ?_ _)); exact zz.1) hb); have n2_ := Aside0.mk (zn (by repeat (first | (with_reducible first | exact HB.1 | apply zh | apply zd | apply zg | refine zf ?_ zF.1 | refine zf ?_ zH.1) | exact HB.1)) hb); have n3_ := Aside0.mk (hbox); have n4_ := Aside0.mk ((by rw [hg]; exact (zk (by repeat (first | (with_reducible first | exact HB.1 | apply zh | apply zd | apply zg | refine zf ?_ zF.1 | refine zf ?_ zH.1) | exact HB.1))) : w.heap.size ≤ gb164)); have n5_ := Aside0.mk ((by rw [hg]; exact (zk (by repeat (first | (with_reducible first | exact HB.1 | apply zh | apply zd | apply zg | refine zf ?_ zF.1 | refine zf ?_ zH.1) | exact HB.1))) : w.heap.size ≤ gb164)); have n6_ := Aside0.mk ((by rw [hg]; exact Nat.ne_of_lt (zr (g := gb162) (o := .cells #[.string a0_0, .slice A0_1 l0_1.length c0_1, .int .i64 a0_2] 33 (0, 0)) (by (with_reducible repeat (first | refine za ?_ _ | refine zc ?_ | refine zb ?_ _)); exact zy.1)) : gb162 ≠ gb164)); have n7_ := Aside0.mk ((by rw [hg]; exact Nat.ne_of_gt (zr (g := gb162) (o := .cells #[.string a0_0, .slice A0_1 l0_1.length c0_1, .int .i64 a0_2] 33 (0, 0)) (by (with_reducible repeat (first | refine za ?_ _ | refine zc ?_ | refine zb ?_ _)); exact zy.1)) : gb164 ≠ gb162)); have n8_ := Aside0.mk ((by rw [hg]; exact Nat.ne_of_lt (zr (g := gb163) (o := .cells #[.string (⟨#[]⟩ : ByteArray), .slice none 0 0, .int .i64 0] 33 (0, 0)) (by (with_reducible repeat (first | refine za ?_ _ | refine zc ?_ | refine zb ?_ _)); exact zz.1)) : gb163 ≠ gb164)); have n9_ := Aside0.mk ((by rw [hg]; exact Nat.ne_of_gt (zr (g := gb163) (o := .cells #[.string (⟨#[]⟩ : ByteArray), .slice none 0 0, .int .i64 0] 33 (0, 0)) (by (with_reducible repeat (first | refine za ?_ _ | refine zc ?_ | refine zb ?_ _)); exact zz.1)) : gb164 ≠ gb163)); clear zy; clear zz; clear HB; have zy := n0_; have zz := n1_; have HB := n2_; have zC := n3_; have zJ := n4_; have zL := n5_; have zE := n6_; have zK := n7_; have zD := n8_; have zA := n9_; clear n0_ n1_ n2_ n3_ n4_ n5_ n6_ n7_ n8_ n9_; clear hb hbox hg; have hnb22 := zB.1; have hnc22 := zI.1; have hnb23 := zE.1; have hnc23 := zK.1; have hcz24_0 : w21.cell? ⟨gb162, 0, none⟩ = some (.string a0_0) := (zj zy.1 0).trans rfl; have hcz24_1 : w21.cell? ⟨gb162, 1, none⟩ = some (.slice A0_1 l0_1.length c0_1) := (zj zy.1 1).trans rfl; have hcz24_2 : w21.cell? ⟨gb162, 2, none⟩ = some (.int .i64 a0_2) := (zj zy.1 2).trans rfl; have hfz24_0 := zi zy.1 0; have hfz24_1 := zi zy.1 1; have hfz24_2 := zi zy.1 2) | ((with_reducible refine gate_callee (f := 32) rfl ?_); refine goesL_ (some 6) rfl rfl Try.func32 (by kernel_rfl) rfl #[.agg #[.string a0_0, .slice A0_1 l0_1.length c0_1, .int .i64 a0_2]] rfl (by (try simp only [List.map_toArray, List.map_cons, List.map_nil]); first | done | rfl | (simp only [List.length_drop, List.length_take]; rfl)) ?_; (with_reducible refine (spec_GoodReader.calls k a0_0 _ _ l0_1 a0_2 true _ ?side1 ?side2 A2.1).mono ?_); (case side1 => repeat (first | exact (Kd.C_below zM.1 HB.1) | (with_reducible refine Kd.C_alloc ?_ _) | (with_reducible refine Kd.C_drewN ?_ _) | (with_reducible refine Kd.C_drew ?_))); (case side2 => exact HC0_1.1); rintro e w25 ⟨rfl, hb⟩; refine ⟨_, rfl, ?_⟩; have n0_ := Aside0.mk (zm (g := gb162) (o := .cells #[.string a0_0, .slice A0_1 l0_1.length c0_1, .int .i64 a0_2] 33 (0, 0)) (by (with_reducible repeat (first | refine za ?_ _ | refine zc ?_ | refine zb ?_ _)); exact zy.1) hb); have n1_ := Aside0.mk (zm (g := gb163) (o := .cells #[.string (⟨#[]⟩ : ByteArray), .slice none 0 0, .int .i64 0] 33 (0, 0)) (by (with_reducible repeat (first | refine za ?_ _ | refine zc ?_ | refine zb ?_ _)); exact zz.1) hb); have n2_ := Aside0.mk (zm (g := gb164) (o := .cells #[.int .i64 0, .string (⟨#[]⟩ : ByteArray)] 26 (0, 0)) (by (with_reducible repeat (first | refine za ?_ _ | refine zc ?_ | refine zb ?_ _)); exact zC.1) hb); have n3_ := Aside0.mk (zn (by repeat (first | (with_reducible first | exact HB.1 | apply zh | apply zd | apply zg | refine zf ?_ zF.1 | refine zf ?_ zH.1 | refine zf ?_ zL.1) | exact HB.1)) hb); clear zy; clear zz; clear zC; clear HB; have zy := n0_; have zz := n1_; have zC := n2_; have HB := n3_; clear n0_ n1_ n2_ n3_; (try clear hb); (try clear hb2); (try clear hk); (try clear hi); have hcz26_0 : w25.cell? ⟨gb162, 0, none⟩ = some (.string a0_0) := (zj zy.1 0).trans rfl; have hcz26_1 : w25.cell? ⟨gb162, 1, none⟩ = some (.slice A0_1 l0_1.length c0_1) := (zj zy.1 1).trans rfl; have hcz26_2 : w25.cell? ⟨gb162, 2, none⟩ = some (.int .i64 a0_2) := (zj zy.1 2).trans rfl; have hfz26_0 := zi zy.1 0; have hfz26_1 := zi zy.1 1; have hfz26_2 := zi zy.1 2))
      have n0_ := Aside0.mk (zc zy.1)
      have n1_ := Aside0.mk (zc zz.1)
      have n2_ := Aside0.mk (zc zC.1)
      have n3_ := Aside0.mk (zg HB.1)
      clear zy
      clear zz
      clear zC
      clear HB
      have zy := n0_
      have zz := n1_
      have zC := n2_
      have HB := n3_
      clear n0_ n1_ n2_ n3_
      have q28 : (1 : Int) ≤ ((l0_1.length : Int) : Int) := of_decide_eq_true (by first | (with_reducible assumption) | assumption)
      obtain ⟨i028, hi028, _, hsz28, _⟩ := info_parts info26
      have hroom28 : l0_1.length ≤ c0_1 := HC0_1.1
      have hC28 : Kd.C k26 _ A0_1 l0_1.length l0_1 := zM.1
      have hcut28 := cut_from (P := Try.prog) 31 26 .i64 Try.underlying31 hi028 2 hsz28 A0_1 l0_1.length c0_1 1 (by omega) q28
      have hr28 := Kd.C_drop (m := (1 : Int).toNat) (c := c0_1) hC28 (by omega) hroom28
      obtain ⟨A28, hA28⟩ : ∃ A1, A1 = (if c0_1 = (1 : Int).toNat then A0_1 else (A0_1 : Option Addr).map (·.add ((1 : Int).toNat * 2))) := ⟨_, rfl⟩
      obtain ⟨c28, hc28⟩ : ∃ c1, c1 = c0_1 - (1 : Int).toNat := ⟨_, rfl⟩
      have hy28 : y169.length = l0_1.length - (1 : Int).toNat := (by rw [Ny169.1, List.length_drop] <;> omega)
      rw [show (l0_1).drop (1 : Int).toNat = y169 from Ny169.1.symm] at hr28
      replace hr28 : Kd.C k26 _ A28 y169.length y169 := (by rw [hA28]; exact hr28)
      rw [← hy28, ← hA28, ← hc28] at hcut28
      have HR172 := Aside0.mk hr28
      have HC172 := Aside0.mk (show y169.length ≤ c28 from by rw [hy28, hc28]; exact Nat.sub_le_sub_right hroom28 _)
      clear hr28 hC28 hroom28 hi028 hsz28 hc28
      have KY28 := Aside0.mk hy28
      have KA28 := Aside0.mk hA28
      clear hy28 hA28
      replace q28 := eq_true q28
      have p176 : 0 ≤ (0 : Int) := (by omega)
      have q176 : 0 < (l0_1.length : Int) := of_decide_eq_true (by first | (with_reducible assumption) | assumption)
      obtain ⟨ad176, e176, hx176_0, hx176_1⟩ := at_T26 zM.1 0 p176 q176
      have hw176_1 := hx176_1
      (try rw [show ((0 : Int)).toNat = 0 from rfl] at hw176_1)
      (try rw [show 0 * 2 = 0 from rfl] at hw176_1)
      (try rw [Addr.add_zero'] at hw176_1)
      have hw176_0 := hx176_0
      (try rw [show ((0 : Int)).toNat = 0 from rfl] at hw176_0)
      (try rw [show 0 * 2 = 0 from rfl] at hw176_0)
      (try rw [Addr.add_zero'] at hw176_0)
      cases e176
      have qi176 : (0 < l0_1.length) = True := eq_true (by omega)
      (try rw [show ((0 : Int)).toNat = 0 from rfl] at hx176_0)
      (try rw [show 0 * 2 = 0 from rfl] at hx176_0)
      (try rw [Addr.add_zero'] at hx176_0)
      (try rw [show ((0 : Int)).toNat = 0 from rfl] at hx176_1)
      (try rw [show 0 * 2 = 0 from rfl] at hx176_1)
      (try rw [Addr.add_zero'] at hx176_1)
      replace hx176_0 := (HB.1.cell (World.block_lt_of_cell? w _ hx176_0)).trans hx176_0
      replace hx176_1 := (HB.1.cell (World.block_lt_of_cell? w _ hx176_1)).trans hx176_1
      replace p176 := eq_true p176
      replace q176 := eq_true q176
      refine start_ (n := 17) (S := fun w' => w'.cell? ⟨gb162, 0, none⟩ = some (.string a0_0) ∧ w'.cell? ⟨gb162, 1, none⟩ = some (.slice (some ad176) l0_1.length c0_1) ∧ w'.cell? ⟨gb162, 2, none⟩ = some (.int .i64 a0_2) ∧ w'.cell? ad176 = some (.int .i64 ((rd_T26 l0_1 0).f0)) ∧ w'.cell? ⟨ad176.block, ad176.off + 1, none⟩ = some (.string ((rd_T26 l0_1 0).f1))) (ds := []) #[false, false, false, false, false, false, false, false, false, false, false, false, false, false, false, false, false] (by kernel_rfl) rfl rfl ⟨(zj zy.1 0).trans rfl, (zj zy.1 1).trans rfl, (zj zy.1 2).trans rfl, ((HB.1.cell (World.block_lt_of_cell? w _ hw176_0)).trans hw176_0), ((HB.1.cell (World.block_lt_of_cell? w _ hw176_1)).trans hw176_1)⟩ (fun hHeld => ?_); refine with_tabW spec_TakeMsg.tab3 spec_TakeMsg.bits3 (fun HT_ HW_ => ?_)
      generalize w25.drew = w27 at zy zz zC HB HR172 hx176_0 hx176_1 hHeld ⊢
      refine zx (i := 0) (N := some 16) (v := ?_) (a' := ?_) #[true, false, false, false, false, false, false, false, false, false, false, false, false, false, false, false, false] rfl rfl (zw HT_.1 (by kernel_rfl)) (fun _ _ _ h => h) (Or.inl ⟨by rfl, ?_⟩) ?_ ?_
      rotate_left
      ·
       intro w'
       go_simp
       with_reducible rfl
      rotate_left
      ·
       simp only [Act.put, List.setIfInBounds_toArray, List.set_cons_zero, List.set_cons_succ, zu, zv]
       rfl
      refine zx (i := 3) (N := some 19) (v := ?_) (a' := ?_) #[true, false, false, true, false, false, false, false, false, false, false, false, false, false, false, false, false] rfl rfl (zw HT_.1 (by kernel_rfl)) (fun _ _ _ h => h) (Or.inl ⟨by rfl, ?_⟩) ?_ ?_
      rotate_left
      ·
       intro w'
       go_simp
       with_reducible rfl
      rotate_left
      ·
       simp only [Act.put, List.setIfInBounds_toArray, List.set_cons_zero, List.set_cons_succ, zu, zv]
       rfl
      refine zx (i := 7) (N := some 23) (v := ?_) (a' := ?_) #[true, false, false, true, false, false, false, true, false, false, false, false, false, false, false, false, false] rfl rfl (zw HT_.1 (by kernel_rfl)) (fun _ _ _ h => h) (Or.inl ⟨by rfl, ?_⟩) ?_ ?_
      rotate_left
      ·
       intro w'
       go_simp
       with_reducible rfl
      rotate_left
      ·
       simp only [Act.put, List.setIfInBounds_toArray, List.set_cons_zero, List.set_cons_succ, zu, zv]
       rfl
      refine zx (i := 10) (N := some 26) (v := ?_) (a' := ?_) #[true, false, false, true, false, false, false, true, false, false, true, false, false, false, false, false, false] rfl rfl (zw HT_.1 (by kernel_rfl)) (fun _ _ _ h => h) (Or.inl ⟨by rfl, ?_⟩) ?_ ?_
      rotate_left
      ·
       intro w'
       go_simp
       with_reducible rfl
      rotate_left
      ·
       simp only [Act.put, List.setIfInBounds_toArray, List.set_cons_zero, List.set_cons_succ, zu, zv]
       rfl
      refine take_ (i := 1) (N := some 17) (v := ?_) (a' := ?_) #[true, true, false, true, false, false, false, true, false, false, true, false, false, false, false, false, false] rfl rfl (take_ofW HT_.1 HW_.1 (by kernel_rfl)) (fun _ _ _ h => h) (Or.inl ⟨by rfl, ?_⟩) hHeld ?_ ?_
      rotate_left
      ·
       rintro w' ⟨s0, s1, s2, s3, s4⟩
       go_simp
       with_reducible rfl
      rotate_left
      ·
       simp only [Act.put, List.setIfInBounds_toArray, List.set_cons_zero, List.set_cons_succ, zu, zv]
       rfl
      refine take_ (i := 4) (N := some 20) (v := ?_) (a' := ?_) #[true, true, false, true, true, false, false, true, false, false, true, false, false, false, false, false, false] rfl rfl (take_ofW HT_.1 HW_.1 (by kernel_rfl)) (fun _ _ _ h => h) (Or.inl ⟨by rfl, ?_⟩) hHeld ?_ ?_
      rotate_left
      ·
       rintro w' ⟨s0, s1, s2, s3, s4⟩
       go_simp
       with_reducible rfl
      rotate_left
      ·
       simp only [Act.put, List.setIfInBounds_toArray, List.set_cons_zero, List.set_cons_succ, zu, zv]
       rfl
      refine zx (i := 5) (N := some 21) (v := ?_) (a' := ?_) #[true, true, false, true, true, true, false, true, false, false, true, false, false, false, false, false, false] rfl rfl (zw HT_.1 (by kernel_rfl)) (fun _ _ _ h => h) (Or.inl ⟨by rfl, ?_⟩) ?_ ?_
      rotate_left
      ·
       intro w'
       go_simp
       with_reducible rfl
      rotate_left
      ·
       simp only [Act.put, List.setIfInBounds_toArray, List.set_cons_zero, List.set_cons_succ, zu, zv]
       rfl
      refine take_ (i := 8) (N := some 24) (v := ?_) (a' := ?_) #[true, true, false, true, true, true, false, true, true, false, true, false, false, false, false, false, false] rfl rfl (take_ofW HT_.1 HW_.1 (by kernel_rfl)) (fun _ _ _ h => h) (Or.inl ⟨by rfl, ?_⟩) hHeld ?_ ?_
      rotate_left
      ·
       rintro w' ⟨s0, s1, s2, s3, s4⟩
       go_simp
       with_reducible rfl
      rotate_left
      ·
       simp only [Act.put, List.setIfInBounds_toArray, List.set_cons_zero, List.set_cons_succ, zu, zv]
       rfl
      refine take_ (i := 11) (N := some 27) (v := ?_) (a' := ?_) #[true, true, false, true, true, true, false, true, true, false, true, true, false, false, false, false, false] rfl rfl (take_ofW HT_.1 HW_.1 (by kernel_rfl)) (fun _ _ _ h => h) (Or.inl ⟨by rfl, ?_⟩) hHeld ?_ ?_
      rotate_left
      ·
       rintro w' ⟨s0, s1, s2, s3, s4⟩
       go_simp
       with_reducible rfl
      rotate_left
      ·
       simp only [Act.put, List.setIfInBounds_toArray, List.set_cons_zero, List.set_cons_succ, zu, zv]
       rfl
      refine zx (i := 12) (N := some 28) (v := ?_) (a' := ?_) #[true, true, false, true, true, true, false, true, true, false, true, true, true, false, false, false, false] rfl rfl (zw HT_.1 (by kernel_rfl)) (fun _ _ _ h => h) (Or.inl ⟨by rfl, ?_⟩) ?_ ?_
      rotate_left
      ·
       intro w'
       go_simp
       with_reducible rfl
      rotate_left
      ·
       simp only [Act.put, List.setIfInBounds_toArray, List.set_cons_zero, List.set_cons_succ, zu, zv]
       rfl
      refine take_ (i := 13) (N := some 29) (v := ?_) (a' := ?_) #[true, true, false, true, true, true, false, true, true, false, true, true, true, true, false, false, false] rfl rfl (take_ofW HT_.1 HW_.1 (by kernel_rfl)) (fun _ _ _ h => h) (Or.inl ⟨by rfl, ?_⟩) hHeld ?_ ?_
      rotate_left
      ·
       rintro w' ⟨s0, s1, s2, s3, s4⟩
       go_simp
       with_reducible rfl
      rotate_left
      ·
       simp only [Act.put, List.setIfInBounds_toArray, List.set_cons_zero, List.set_cons_succ, zu, zv]
       rfl
      refine one_ (i := 2) (N := some 18) #[true, true, true, true, true, true, false, true, true, false, true, true, true, true, false, false, false] rfl rfl (one_of HT_.1 (by kernel_rfl)) (by decide) (fun K hK => ?_)
      refine Kd.R_lit_step k26 _ 26 ?hg (N := 18) ?hd (xs := ([] : List (S26))) (inner := []) (ok := fun _ => True) (okp := fun _ => True) ?hr ?hp (fun _ hk => hk) trivial (Below.refl _ _) (Nat.le_refl _) (by simp) ?_; (case hd => rfl); (case hg => rfl); (case hr => first | (go_simp; done) | (go_simp; rfl)); (case hp => exact (Reps.none _ _))
      intro v167 w29 ho30 hb hg_ hnew_
      clear hg_ hnew_
      (first | rw [← Ny166.1] at ho30 | (simp only [Int.reduceToNat] at ho30; rw [← Ny166.1] at ho30))
      have n0_ := Aside0.mk (Kd.R_lower (Kd.R_newB ho30 (g := gb164) (o := .cells #[.int .i64 0, .string (⟨#[]⟩ : ByteArray)] 26 (0, 0)) (by (with_reducible repeat (first | refine za ?_ _ | refine zc ?_ | refine zb ?_ _)); exact zC.1)) (zk (by repeat (first | (with_reducible first | exact HB.1 | apply zh | apply zd | apply zg | refine zf ?_ zF.1 | refine zf ?_ zH.1 | refine zf ?_ zL.1) | exact HB.1))))
      have n1_ := Aside0.mk (zm (g := gb162) (o := .cells #[.string a0_0, .slice (some ad176) l0_1.length c0_1, .int .i64 a0_2] 33 (0, 0)) (by (with_reducible repeat (first | refine za ?_ _ | refine zc ?_ | refine zb ?_ _)); exact zy.1) hb)
      have n2_ := Aside0.mk (zm (g := gb163) (o := .cells #[.string (⟨#[]⟩ : ByteArray), .slice none 0 0, .int .i64 0] 33 (0, 0)) (by (with_reducible repeat (first | refine za ?_ _ | refine zc ?_ | refine zb ?_ _)); exact zz.1) hb)
      have n3_ := Aside0.mk (zm (g := gb164) (o := .cells #[.int .i64 0, .string (⟨#[]⟩ : ByteArray)] 26 (0, 0)) (by (with_reducible repeat (first | refine za ?_ _ | refine zc ?_ | refine zb ?_ _)); exact zC.1) hb)
      have n4_ := Aside0.mk (zn (by repeat (first | (with_reducible first | exact HB.1 | apply zh | apply zd | apply zg | refine zf ?_ zF.1 | refine zf ?_ zH.1 | refine zf ?_ zL.1) | exact HB.1)) hb)
      clear zy
      clear zz
      clear zC
      clear HB
      have zN := n0_
      have zy := n1_
      have zz := n2_
      have zC := n3_
      have HB := n4_
      clear n0_ n1_ n2_ n3_ n4_
      clear hb ho30
      refine hK.out _ _ ⟨(zj zy.1 0).trans rfl, (zj zy.1 1).trans rfl, (zj zy.1 2).trans rfl, ((HB.1.cell (World.block_lt_of_cell? w _ hw176_0)).trans hw176_0), ((HB.1.cell (World.block_lt_of_cell? w _ hw176_1)).trans hw176_1)⟩ (fun hHeld => ?_)
      clear hK K
      refine norm_ (a' := ?_) ?_ ?_
      rotate_left
      ·
       show Act.put _ (some 18) _ = _
       simp only [Act.put, List.setIfInBounds_toArray, List.set_cons_zero, List.set_cons_succ, zu, zv]
       rfl
      refine one_ (i := 6) (N := some 22) #[true, true, true, true, true, true, true, true, true, false, true, true, true, true, false, false, false] rfl rfl (one_of HT_.1 (by kernel_rfl)) (by decide) (fun K hK => ?_)
      refine Kd.R_append_rows_step k26 (w0 := w) w.heap.size (by rfl) (.tmp 18) (.tmp 21) 31 26 (.agg #[(.int .i64 0), (.string ⟨#[]⟩)]) 24 rfl Try.underlying31 info26 rfl (by decide) (by omega) v167 y166 y169 _ _ _ (fun k_ => k_ ≠ gb164) (fun _ => False) rfl rfl ?aO ?aR (fun _ _ h => h) (fun _ h => h.elim) ?aF ?aB ?aS ?aL ?_
      (case aR => repeat (first | exact (Kd.C_below HR172.1 HB.1) | (with_reducible refine Kd.C_alloc ?_ _) | (with_reducible refine Kd.C_drewN ?_ _) | (with_reducible refine Kd.C_drew ?_)))
      (case aB => exact (by repeat (first | (with_reducible first | exact HB.1 | apply zh | apply zd | apply zg | refine zf ?_ zF.1 | refine zf ?_ zH.1 | refine zf ?_ zL.1) | exact HB.1)))
      (case aF => exact (fun k_ hk => Kd.freshB (g := gb164) (o := .cells #[.int .i64 0, .string (⟨#[]⟩ : ByteArray)] 26 (0, 0)) (by (with_reducible repeat (first | refine za ?_ _ | refine zc ?_ | refine zb ?_ _)); exact zC.1) k_ hk))
      (case aO => exact (by (with_reducible repeat (first | apply Kd.R_alloc | apply Kd.R_drewN | apply Kd.R_drew)); exact Kd.R_mono zN.1 (fun _ hk => hk.2)))
      (case aS => exact (zk (by repeat (first | (with_reducible first | exact HB.1 | apply zh | apply zd | apply zg | refine zf ?_ zF.1 | refine zf ?_ zH.1 | refine zf ?_ zL.1) | exact HB.1))))
      (case aL => have := LMc17.1; omega)
      intro v174 w31 ho hb hg hat
      rw [← Ny173.1] at ho
      have n0_ := Aside0.mk (blk_grown (g := gb162) (o := .cells #[.string a0_0, .slice (some ad176) l0_1.length c0_1, .int .i64 a0_2] 33 (0, 0)) (by (with_reducible repeat (first | refine za ?_ _ | refine zc ?_ | refine zb ?_ _)); exact zy.1) hg (Kd.R_ne zN.1 zy.1 (by decide)))
      have n1_ := Aside0.mk (blk_grown (g := gb163) (o := .cells #[.string (⟨#[]⟩ : ByteArray), .slice none 0 0, .int .i64 0] 33 (0, 0)) (by (with_reducible repeat (first | refine za ?_ _ | refine zc ?_ | refine zb ?_ _)); exact zz.1) hg (Kd.R_ne zN.1 zz.1 (by decide)))
      have n2_ := Aside0.mk (blk_grown (g := gb164) (o := .cells #[.int .i64 0, .string (⟨#[]⟩ : ByteArray)] 26 (0, 0)) (by (with_reducible repeat (first | refine za ?_ _ | refine zc ?_ | refine zb ?_ _)); exact zC.1) hg (Kd.R_away zN.1 (fun _ hk => hk.2)))
      have n3_ := Aside0.mk (hb)
      have n4_ := Aside0.mk (ho)
      clear zy
      clear zz
      clear zC
      clear HB
      clear zN
      have zy := n0_
      have zz := n1_
      have zC := n2_
      have HB := n3_
      have HO175 := n4_
      clear n0_ n1_ n2_ n3_ n4_
      clear ho hb hg hat
      obtain ⟨Ao32, co32, eo32⟩ := Kd.R_slice HO175.1
      (first | subst eo32 | (injection eo32 with f1_ f2_ f3_; have f4_ := f1_.symm; have f5_ := f3_.symm; clear f1_ f2_ f3_; subst f4_; subst f5_))
      refine hK.out _ _ ⟨(zj zy.1 0).trans rfl, (zj zy.1 1).trans rfl, (zj zy.1 2).trans rfl, ((HB.1.cell (World.block_lt_of_cell? w _ hw176_0)).trans hw176_0), ((HB.1.cell (World.block_lt_of_cell? w _ hw176_1)).trans hw176_1)⟩ (fun hHeld => ?_)
      clear hK K
      refine norm_ (a' := ?_) ?_ ?_
      rotate_left
      ·
       show Act.put _ (some 22) _ = _
       simp only [Act.put, List.setIfInBounds_toArray, List.set_cons_zero, List.set_cons_succ, zu, zv]
       rfl
      refine zx (i := 9) (N := some 25) (v := ?_) (a' := ?_) #[true, true, true, true, true, true, true, true, true, true, true, true, true, true, false, false, false] rfl rfl (zw HT_.1 (by kernel_rfl)) (fun _ _ _ h => h) (Or.inl ⟨by rfl, ?_⟩) ?_ ?_
      rotate_left
      ·
       intro w'
       go_simp
       with_reducible rfl
      rotate_left
      ·
       simp only [Act.put, List.setIfInBounds_toArray, List.set_cons_zero, List.set_cons_succ, zu, zv]
       rfl
      refine one_ (i := 14) (N := none) #[true, true, true, true, true, true, true, true, true, true, true, true, true, true, true, false, false] rfl rfl (one_of HT_.1 (by kernel_rfl)) (by decide) (fun K hK => ?_)
      have hs33 : w31.cell? ⟨gb163, 0, none⟩ = some (.string (⟨#[]⟩ : ByteArray)) := (zj zz.1 0).trans rfl
      have hfs33 := zi zz.1 0
      have hns33_0 := zB.1
      have hns33_2 := zA.1
      have hms33_0 := zI.1
      have hms33_2 := zD.1
      have hs34 : w31.cell? ⟨gb163, 1, none⟩ = some (.slice none 0 0) := (zj zz.1 1).trans rfl
      have hfs34 := zi zz.1 1
      have hns34_0 := zB.1
      have hns34_2 := zA.1
      have hms34_0 := zI.1
      have hms34_2 := zD.1
      have hs35 : w31.cell? ⟨gb163, 2, none⟩ = some (.int .i64 0) := (zj zz.1 2).trans rfl
      have hfs35 := zi zz.1 2
      have hns35_0 := zB.1
      have hns35_2 := zA.1
      have hms35_0 := zI.1
      have hms35_2 := zD.1
      refine skip_ (w1 := ?_) (by rfl) rfl ?_ ?_
      rotate_left
      ·
       go_simp
       rfl
      refine hK.out _ _ ⟨((zl (p := ⟨gb163, _, none⟩) zB.1 _).trans (((zl (p := ⟨gb163, _, none⟩) zB.1 _).trans (((zl (p := ⟨gb163, _, none⟩) zB.1 _).trans (hHeld.1)))))), ((zl (p := ⟨gb163, _, none⟩) zB.1 _).trans (((zl (p := ⟨gb163, _, none⟩) zB.1 _).trans (((zl (p := ⟨gb163, _, none⟩) zB.1 _).trans (hHeld.2.1)))))), ((zl (p := ⟨gb163, _, none⟩) zB.1 _).trans (((zl (p := ⟨gb163, _, none⟩) zB.1 _).trans (((zl (p := ⟨gb163, _, none⟩) zB.1 _).trans (hHeld.2.2.1)))))), ((zl (p := ⟨gb163, _, none⟩) (by first | exact Nat.ne_of_lt (Nat.lt_of_lt_of_le (by have := World.block_lt_of_cell? _ _ hw176_0; first | rwa [ze] at this | exact this) zG.1) | (rw [ze]; exact Nat.ne_of_lt (Nat.lt_of_lt_of_le (by have := World.block_lt_of_cell? _ _ hw176_0; first | rwa [ze] at this | exact this) zG.1)) | (show (Addr.add _ _).block ≠ _; rw [ze]; exact Nat.ne_of_lt (Nat.lt_of_lt_of_le (by have := World.block_lt_of_cell? _ _ hw176_0; first | rwa [ze] at this | exact this) zG.1)) | (dsimp only; exact Nat.ne_of_lt (Nat.lt_of_lt_of_le (by have := World.block_lt_of_cell? _ _ hw176_0; first | rwa [ze] at this | exact this) zG.1))) _).trans (((zl (p := ⟨gb163, _, none⟩) (by first | exact Nat.ne_of_lt (Nat.lt_of_lt_of_le (by have := World.block_lt_of_cell? _ _ hw176_0; first | rwa [ze] at this | exact this) zG.1) | (rw [ze]; exact Nat.ne_of_lt (Nat.lt_of_lt_of_le (by have := World.block_lt_of_cell? _ _ hw176_0; first | rwa [ze] at this | exact this) zG.1)) | (show (Addr.add _ _).block ≠ _; rw [ze]; exact Nat.ne_of_lt (Nat.lt_of_lt_of_le (by have := World.block_lt_of_cell? _ _ hw176_0; first | rwa [ze] at this | exact this) zG.1)) | (dsimp only; exact Nat.ne_of_lt (Nat.lt_of_lt_of_le (by have := World.block_lt_of_cell? _ _ hw176_0; first | rwa [ze] at this | exact this) zG.1))) _).trans (((zl (p := ⟨gb163, _, none⟩) (by first | exact Nat.ne_of_lt (Nat.lt_of_lt_of_le (by have := World.block_lt_of_cell? _ _ hw176_0; first | rwa [ze] at this | exact this) zG.1) | (rw [ze]; exact Nat.ne_of_lt (Nat.lt_of_lt_of_le (by have := World.block_lt_of_cell? _ _ hw176_0; first | rwa [ze] at this | exact this) zG.1)) | (show (Addr.add _ _).block ≠ _; rw [ze]; exact Nat.ne_of_lt (Nat.lt_of_lt_of_le (by have := World.block_lt_of_cell? _ _ hw176_0; first | rwa [ze] at this | exact this) zG.1)) | (dsimp only; exact Nat.ne_of_lt (Nat.lt_of_lt_of_le (by have := World.block_lt_of_cell? _ _ hw176_0; first | rwa [ze] at this | exact this) zG.1))) _).trans (hHeld.2.2.2.1)))))), ((zl (p := ⟨gb163, _, none⟩) (by first | exact Nat.ne_of_lt (Nat.lt_of_lt_of_le (by have := World.block_lt_of_cell? _ _ hw176_1; first | rwa [ze] at this | exact this) zG.1) | (rw [ze]; exact Nat.ne_of_lt (Nat.lt_of_lt_of_le (by have := World.block_lt_of_cell? _ _ hw176_1; first | rwa [ze] at this | exact this) zG.1)) | (show (Addr.add _ _).block ≠ _; rw [ze]; exact Nat.ne_of_lt (Nat.lt_of_lt_of_le (by have := World.block_lt_of_cell? _ _ hw176_1; first | rwa [ze] at this | exact this) zG.1)) | (dsimp only; exact Nat.ne_of_lt (Nat.lt_of_lt_of_le (by have := World.block_lt_of_cell? _ _ hw176_1; first | rwa [ze] at this | exact this) zG.1))) _).trans (((zl (p := ⟨gb163, _, none⟩) (by first | exact Nat.ne_of_lt (Nat.lt_of_lt_of_le (by have := World.block_lt_of_cell? _ _ hw176_1; first | rwa [ze] at this | exact this) zG.1) | (rw [ze]; exact Nat.ne_of_lt (Nat.lt_of_lt_of_le (by have := World.block_lt_of_cell? _ _ hw176_1; first | rwa [ze] at this | exact this) zG.1)) | (show (Addr.add _ _).block ≠ _; rw [ze]; exact Nat.ne_of_lt (Nat.lt_of_lt_of_le (by have := World.block_lt_of_cell? _ _ hw176_1; first | rwa [ze] at this | exact this) zG.1)) | (dsimp only; exact Nat.ne_of_lt (Nat.lt_of_lt_of_le (by have := World.block_lt_of_cell? _ _ hw176_1; first | rwa [ze] at this | exact this) zG.1))) _).trans (((zl (p := ⟨gb163, _, none⟩) (by first | exact Nat.ne_of_lt (Nat.lt_of_lt_of_le (by have := World.block_lt_of_cell? _ _ hw176_1; first | rwa [ze] at this | exact this) zG.1) | (rw [ze]; exact Nat.ne_of_lt (Nat.lt_of_lt_of_le (by have := World.block_lt_of_cell? _ _ hw176_1; first | rwa [ze] at this | exact this) zG.1)) | (show (Addr.add _ _).block ≠ _; rw [ze]; exact Nat.ne_of_lt (Nat.lt_of_lt_of_le (by have := World.block_lt_of_cell? _ _ hw176_1; first | rwa [ze] at this | exact this) zG.1)) | (dsimp only; exact Nat.ne_of_lt (Nat.lt_of_lt_of_le (by have := World.block_lt_of_cell? _ _ hw176_1; first | rwa [ze] at this | exact this) zG.1))) _).trans (hHeld.2.2.2.2))))))⟩ (fun hHeld => ?_)
      clear hK K
      refine one_ (i := 15) (N := none) #[true, true, true, true, true, true, true, true, true, true, true, true, true, true, true, true, false] rfl rfl (one_of HT_.1 (by kernel_rfl)) (by decide) (fun K hK => ?_)
      have hs36 : w31.cell? ⟨gb164, 0, none⟩ = some (.int .i64 0) := (zj zC.1 0).trans rfl
      have hfs36 := zi zC.1 0
      have hns36_0 := zE.1
      have hns36_1 := zD.1
      have hms36_0 := zK.1
      have hms36_1 := zA.1
      have hs37 : w31.cell? ⟨gb164, 1, none⟩ = some (.string (⟨#[]⟩ : ByteArray)) := (zj zC.1 1).trans rfl
      have hfs37 := zi zC.1 1
      have hns37_0 := zE.1
      have hns37_1 := zD.1
      have hms37_0 := zK.1
      have hms37_1 := zA.1
      refine skip_ (w1 := ?_) (by rfl) rfl ?_ ?_
      rotate_left
      ·
       go_simp
       rfl
      refine hK.out _ _ ⟨((zl (p := ⟨gb164, _, none⟩) zE.1 _).trans (((zl (p := ⟨gb164, _, none⟩) zE.1 _).trans (hHeld.1)))), ((zl (p := ⟨gb164, _, none⟩) zE.1 _).trans (((zl (p := ⟨gb164, _, none⟩) zE.1 _).trans (hHeld.2.1)))), ((zl (p := ⟨gb164, _, none⟩) zE.1 _).trans (((zl (p := ⟨gb164, _, none⟩) zE.1 _).trans (hHeld.2.2.1)))), ((zl (p := ⟨gb164, _, none⟩) (by first | exact Nat.ne_of_lt (Nat.lt_of_lt_of_le (by have := World.block_lt_of_cell? _ _ hw176_0; first | rwa [ze] at this | exact this) zJ.1) | (rw [ze]; exact Nat.ne_of_lt (Nat.lt_of_lt_of_le (by have := World.block_lt_of_cell? _ _ hw176_0; first | rwa [ze] at this | exact this) zJ.1)) | (show (Addr.add _ _).block ≠ _; rw [ze]; exact Nat.ne_of_lt (Nat.lt_of_lt_of_le (by have := World.block_lt_of_cell? _ _ hw176_0; first | rwa [ze] at this | exact this) zJ.1)) | (dsimp only; exact Nat.ne_of_lt (Nat.lt_of_lt_of_le (by have := World.block_lt_of_cell? _ _ hw176_0; first | rwa [ze] at this | exact this) zJ.1))) _).trans (((zl (p := ⟨gb164, _, none⟩) (by first | exact Nat.ne_of_lt (Nat.lt_of_lt_of_le (by have := World.block_lt_of_cell? _ _ hw176_0; first | rwa [ze] at this | exact this) zJ.1) | (rw [ze]; exact Nat.ne_of_lt (Nat.lt_of_lt_of_le (by have := World.block_lt_of_cell? _ _ hw176_0; first | rwa [ze] at this | exact this) zJ.1)) | (show (Addr.add _ _).block ≠ _; rw [ze]; exact Nat.ne_of_lt (Nat.lt_of_lt_of_le (by have := World.block_lt_of_cell? _ _ hw176_0; first | rwa [ze] at this | exact this) zJ.1)) | (dsimp only; exact Nat.ne_of_lt (Nat.lt_of_lt_of_le (by have := World.block_lt_of_cell? _ _ hw176_0; first | rwa [ze] at this | exact this) zJ.1))) _).trans (hHeld.2.2.2.1)))), ((zl (p := ⟨gb164, _, none⟩) (by first | exact Nat.ne_of_lt (Nat.lt_of_lt_of_le (by have := World.block_lt_of_cell? _ _ hw176_1; first | rwa [ze] at this | exact this) zJ.1) | (rw [ze]; exact Nat.ne_of_lt (Nat.lt_of_lt_of_le (by have := World.block_lt_of_cell? _ _ hw176_1; first | rwa [ze] at this | exact this) zJ.1)) | (show (Addr.add _ _).block ≠ _; rw [ze]; exact Nat.ne_of_lt (Nat.lt_of_lt_of_le (by have := World.block_lt_of_cell? _ _ hw176_1; first | rwa [ze] at this | exact this) zJ.1)) | (dsimp only; exact Nat.ne_of_lt (Nat.lt_of_lt_of_le (by have := World.block_lt_of_cell? _ _ hw176_1; first | rwa [ze] at this | exact this) zJ.1))) _).trans (((zl (p := ⟨gb164, _, none⟩) (by first | exact Nat.ne_of_lt (Nat.lt_of_lt_of_le (by have := World.block_lt_of_cell? _ _ hw176_1; first | rwa [ze] at this | exact this) zJ.1) | (rw [ze]; exact Nat.ne_of_lt (Nat.lt_of_lt_of_le (by have := World.block_lt_of_cell? _ _ hw176_1; first | rwa [ze] at this | exact this) zJ.1)) | (show (Addr.add _ _).block ≠ _; rw [ze]; exact Nat.ne_of_lt (Nat.lt_of_lt_of_le (by have := World.block_lt_of_cell? _ _ hw176_1; first | rwa [ze] at this | exact this) zJ.1)) | (dsimp only; exact Nat.ne_of_lt (Nat.lt_of_lt_of_le (by have := World.block_lt_of_cell? _ _ hw176_1; first | rwa [ze] at this | exact this) zJ.1))) _).trans (hHeld.2.2.2.2))))⟩ (fun hHeld => ?_)
      clear hK K
      refine zx (i := 16) (N := some 4) (v := ?_) (a' := ?_) #[true, true, true, true, true, true, true, true, true, true, true, true, true, true, true, true, true] rfl rfl (zw HT_.1 (by kernel_rfl)) (fun _ _ _ h => h) (Or.inl ⟨by rfl, ?_⟩) ?_ ?_
      rotate_left
      ·
       intro w'
       go_simp
       with_reducible rfl
      rotate_left
      ·
       simp only [Act.put, List.setIfInBounds_toArray, List.set_cons_zero, List.set_cons_succ, zu, zv]
       rfl
      refine done_ (done_of HT_.1 (by kernel_rfl)) ?_
      try go_wp2
      refine bodyPost_ret (results_list (rs := [.cell 2 33, .cell 3 26, .tmp 4]) rfl (by simp) (.cell gb163 33 #[.string a0_0, .slice Ao32 y173.length co32, .int .i64 a0_2] (0, 0) _ rfl (by (with_reducible repeat (first | refine za ?_ _ | refine zc ?_ | refine zb ?_ _)); refine zp ?_ zD.1 _; (with_reducible repeat (first | refine za ?_ _ | refine zc ?_ | refine zb ?_ _)); refine zp ?_ zD.1 _; (with_reducible repeat (first | refine za ?_ _ | refine zc ?_ | refine zb ?_ _)); refine zo (cs := #[.string a0_0, .slice Ao32 y173.length co32, .int .i64 0]) ?_ 2 _ rfl; (with_reducible repeat (first | refine za ?_ _ | refine zc ?_ | refine zb ?_ _)); refine zo (cs := #[.string a0_0, .slice none 0 0, .int .i64 0]) ?_ 1 _ rfl; (with_reducible repeat (first | refine za ?_ _ | refine zc ?_ | refine zb ?_ _)); refine zo (cs := #[.string (⟨#[]⟩ : ByteArray), .slice none 0 0, .int .i64 0]) ?_ 0 _ rfl; (with_reducible repeat (first | refine za ?_ _ | refine zc ?_ | refine zb ?_ _)); exact zz.1) Try.underlying33 rfl (by kernel_rfl) (.cell gb164 26 #[.int .i64 ((rd_T26 l0_1 0).f0), .string ((rd_T26 l0_1 0).f1)] (0, 0) _ rfl (by (with_reducible repeat (first | refine za ?_ _ | refine zc ?_ | refine zb ?_ _)); refine zo (cs := #[.int .i64 ((rd_T26 l0_1 0).f0), .string (⟨#[]⟩ : ByteArray)]) ?_ 1 _ rfl; (with_reducible repeat (first | refine za ?_ _ | refine zc ?_ | refine zb ?_ _)); refine zo (cs := #[.int .i64 0, .string (⟨#[]⟩ : ByteArray)]) ?_ 0 _ rfl; (with_reducible repeat (first | refine za ?_ _ | refine zc ?_ | refine zb ?_ _)); refine zp ?_ zA.1 _; (with_reducible repeat (first | refine za ?_ _ | refine zc ?_ | refine zb ?_ _)); refine zp ?_ zA.1 _; (with_reducible repeat (first | refine za ?_ _ | refine zc ?_ | refine zb ?_ _)); refine zp ?_ zA.1 _; (with_reducible repeat (first | refine za ?_ _ | refine zc ?_ | refine zb ?_ _)); exact zC.1) Try.underlying26 rfl (by kernel_rfl) (.tmp .nil)))) rfl ?_
      exact ⟨_, by first | rfl | (simp [errW_none, errW_some] <;> rfl) | (simp [*, errW_none, errW_some] <;> rfl), by (with_reducible repeat (first | apply Kd.R_alloc | apply Kd.R_drewN | apply Kd.R_drew)); exact Kd.R_mono (Kd.R_far (p := ⟨gb164, 1, none⟩) (Kd.R_far (p := ⟨gb164, 0, none⟩) (Kd.R_far (p := ⟨gb163, 2, none⟩) (Kd.R_far (p := ⟨gb163, 1, none⟩) (Kd.R_far (p := ⟨gb163, 0, none⟩) (Kd.R_mono (Kd.R_types HO175.1 zz.1 (by decide)) (fun k_ hk => (⟨hk, hk.1⟩ : _ ∧ k_ ≠ gb164))) (fun _ hk => hk.1.2) (.string a0_0)) (fun _ hk => hk.1.2) (.slice Ao32 y173.length co32)) (fun _ hk => hk.1.2) (.int .i64 a0_2)) (fun _ hk => hk.2) (.int .i64 ((rd_T26 l0_1 0).f0))) (fun _ hk => hk.2) (.string ((rd_T26 l0_1 0).f1))) (fun _ hk => trivial), by repeat (first | (with_reducible first | exact HB.1 | apply zh | apply zd | apply zg | refine zf ?_ zF.1 | refine zf ?_ zH.1 | refine zf ?_ zL.1) | exact HB.1)⟩
     ·
      rw [if_neg c18] at H
      exact absurd H (by simp)
    ·
     rw [if_neg c17] at H
     exact absurd H (by simp)
   ·
    rw [if_neg c16] at H
    exact absurd H (by simp)
 ·
  replace c3 := Bool.eq_false_iff.mpr c3
  subst c3
  have H1 : (some ((⟨#[]⟩ : ByteArray), ([] : List (S26)), 0, 0, (⟨#[]⟩ : ByteArray), false)) = some (r1, r2, r3, r4, r5, r6) := by rw [if_neg (show ¬ (false = true) by decide)] at H; exact H
  clear H
  have H := H1
  clear H1
  simp only [Option.some.injEq, Prod.mk.injEq] at H
  obtain ⟨rfl, rfl, rfl, rfl, rfl, rfl⟩ := H
  go_enter Try.func35, Try.ntmps35
  go_wp2_with (first | ((with_reducible refine zt (N := 1) rfl ?_); (try (refine zq (by rfl) ?_; dsimp only)); refine zs ?hg (N := 1) ?hd (cs := #[.string a0_0, .slice A0_1 l0_1.length c0_1, .int .i64 a0_2]) (t := 33) ?hr ?_; (case hd => rfl); (case hg => rfl); (case hr => first | (go_simp; done) | (go_simp; rfl)); intro gb162 hg w38 hbox hb; have n0_ := Aside0.mk (zn (by repeat (first | (with_reducible first | exact HB.1 | apply zh | apply zd | apply zg) | exact HB.1)) hb); have n1_ := Aside0.mk (hbox); have n2_ := Aside0.mk ((by rw [hg]; exact (zk (by repeat (first | (with_reducible first | exact HB.1 | apply zh | apply zd | apply zg) | exact HB.1))) : w.heap.size ≤ gb162)); have n3_ := Aside0.mk ((by rw [hg]; exact (zk (by repeat (first | (with_reducible first | exact HB.1 | apply zh | apply zd | apply zg) | exact HB.1))) : w.heap.size ≤ gb162)); clear HB; have HB := n0_; have zy := n1_; have GW162 := n2_; have zF := n3_; clear n0_ n1_ n2_ n3_; clear hb hbox hg) | ((with_reducible refine zt (N := 2) rfl ?_); (try (refine zq (by rfl) ?_; dsimp only)); refine zs ?hg (N := 2) ?hd (cs := #[.string (⟨#[]⟩ : ByteArray), .slice none 0 0, .int .i64 0]) (t := 33) ?hr ?_; (case hd => rfl); (case hg => rfl); (case hr => first | (go_simp; done) | (go_simp; rfl)); intro gb163 hg w39 hbox hb; have n0_ := Aside0.mk (zm (g := gb162) (o := .cells #[.string a0_0, .slice A0_1 l0_1.length c0_1, .int .i64 a0_2] 33 (0, 0)) (by (with_reducible repeat (first | refine za ?_ _ | refine zc ?_ | refine zb ?_ _)); exact zy.1) hb); have n1_ := Aside0.mk (zn (by repeat (first | (with_reducible first | exact HB.1 | apply zh | apply zd | apply zg | refine zf ?_ zF.1) | exact HB.1)) hb); have n2_ := Aside0.mk (hbox); have n3_ := Aside0.mk ((by rw [hg]; exact (zk (by repeat (first | (with_reducible first | exact HB.1 | apply zh | apply zd | apply zg | refine zf ?_ zF.1) | exact HB.1))) : w.heap.size ≤ gb163)); have n4_ := Aside0.mk ((by rw [hg]; exact (zk (by repeat (first | (with_reducible first | exact HB.1 | apply zh | apply zd | apply zg | refine zf ?_ zF.1) | exact HB.1))) : w.heap.size ≤ gb163)); have n5_ := Aside0.mk ((by rw [hg]; exact Nat.ne_of_lt (zr (g := gb162) (o := .cells #[.string a0_0, .slice A0_1 l0_1.length c0_1, .int .i64 a0_2] 33 (0, 0)) (by (with_reducible repeat (first | refine za ?_ _ | refine zc ?_ | refine zb ?_ _)); exact zy.1)) : gb162 ≠ gb163)); have n6_ := Aside0.mk ((by rw [hg]; exact Nat.ne_of_gt (zr (g := gb162) (o := .cells #[.string a0_0, .slice A0_1 l0_1.length c0_1, .int .i64 a0_2] 33 (0, 0)) (by (with_reducible repeat (first | refine za ?_ _ | refine zc ?_ | refine zb ?_ _)); exact zy.1)) : gb163 ≠ gb162)); clear zy; clear HB; have zy := n0_; have HB := n1_; have zz := n2_; have zG := n3_; have zH := n4_; have zB := n5_; have zI := n6_; clear n0_ n1_ n2_ n3_ n4_ n5_ n6_; clear hb hbox hg) | ((with_reducible refine zt (N := 3) rfl ?_); (try (refine zq (by rfl) ?_; dsimp only)); refine zs ?hg (N := 3) ?hd (cs := #[.int .i64 0, .string (⟨#[]⟩ : ByteArray)]) (t := 26) ?hr ?_; (case hd => rfl); (case hg => rfl); (case hr => first | (go_simp; done) | (go_simp; rfl)); intro gb164 hg w40 hbox hb; have n0_ := Aside0.mk (zm (g := gb162) (o := .cells #[.string a0_0, .slice A0_1 l0_1.length c0_1, .int .i64 a0_2] 33 (0, 0)) (by (with_reducible repeat (first | refine za ?_ _ | refine zc ?_ | refine zb ?_ _)); exact zy.1) hb); have n1_ := Aside0.mk (zm (g := gb163) (o := .cells #[.string (⟨#[]⟩ : ByteArray), .slice none 0 0, .int .i64 0] 33 (0, 0)) (by (with_reducible repeat (first | refine za ?_ _ | refine zc ?_ | refine zb ?_ _)); exact zz.1) hb); have n2_ := Aside0.mk (zn (by repeat (first | (with_reducible first | exact HB.1 | apply zh | apply zd | apply zg | refine zf ?_ zF.1 | refine zf ?_ zH.1) | exact HB.1)) hb); have n3_ := Aside0.mk (hbox); have n4_ := Aside0.mk ((by rw [hg]; exact (zk (by repeat (first | (with_reducible first | exact HB.1 | apply zh | apply zd | apply zg | refine zf ?_ zF.1 | refine zf ?_ zH.1) | exact HB.1))) : w.heap.size ≤ gb164)); have n5_ := Aside0.mk ((by rw [hg]; exact (zk (by repeat (first | (with_reducible first | exact HB.1 | apply zh | apply zd | apply zg | refine zf ?_ zF.1 | refine zf ?_ zH.1) | exact HB.1))) : w.heap.size ≤ gb164)); have n6_ := Aside0.mk ((by rw [hg]; exact Nat.ne_of_lt (zr (g := gb162) (o := .cells #[.string a0_0, .slice A0_1 l0_1.length c0_1, .int .i64 a0_2] 33 (0, 0)) (by (with_reducible repeat (first | refine za ?_ _ | refine zc ?_ | refine zb ?_ _)); exact zy.1)) : gb162 ≠ gb164)); have n7_ := Aside0.mk ((by rw [hg]; exact Nat.ne_of_gt (zr (g := gb162) (o := .cells #[.string a0_0, .slice A0_1 l0_1.length c0_1, .int .i64 a0_2] 33 (0, 0)) (by (with_reducible repeat (first | refine za ?_ _ | refine zc ?_ | refine zb ?_ _)); exact zy.1)) : gb164 ≠ gb162)); have n8_ := Aside0.mk ((by rw [hg]; exact Nat.ne_of_lt (zr (g := gb163) (o := .cells #[.string (⟨#[]⟩ : ByteArray), .slice none 0 0, .int .i64 0] 33 (0, 0)) (by (with_reducible repeat (first | refine za ?_ _ | refine zc ?_ | refine zb ?_ _)); exact zz.1)) : gb163 ≠ gb164)); have n9_ := Aside0.mk ((by rw [hg]; exact Nat.ne_of_gt (zr (g := gb163) (o := .cells #[.string (⟨#[]⟩ : ByteArray), .slice none 0 0, .int .i64 0] 33 (0, 0)) (by (with_reducible repeat (first | refine za ?_ _ | refine zc ?_ | refine zb ?_ _)); exact zz.1)) : gb164 ≠ gb163)); clear zy; clear zz; clear HB; have zy := n0_; have zz := n1_; have HB := n2_; have zC := n3_; have zJ := n4_; have zL := n5_; have zE := n6_; have zK := n7_; have zD := n8_; have zA := n9_; clear n0_ n1_ n2_ n3_ n4_ n5_ n6_ n7_ n8_ n9_; clear hb hbox hg; have hnb41 := zB.1; have hnc41 := zI.1; have hnb42 := zE.1; have hnc42 := zK.1; have hcz43_0 : w40.cell? ⟨gb162, 0, none⟩ = some (.string a0_0) := (zj zy.1 0).trans rfl; have hcz43_1 : w40.cell? ⟨gb162, 1, none⟩ = some (.slice A0_1 l0_1.length c0_1) := (zj zy.1 1).trans rfl; have hcz43_2 : w40.cell? ⟨gb162, 2, none⟩ = some (.int .i64 a0_2) := (zj zy.1 2).trans rfl; have hfz43_0 := zi zy.1 0; have hfz43_1 := zi zy.1 1; have hfz43_2 := zi zy.1 2) | ((with_reducible refine gate_callee (f := 32) rfl ?_); refine goesL_ (some 6) rfl rfl Try.func32 (by kernel_rfl) rfl #[.agg #[.string a0_0, .slice A0_1 l0_1.length c0_1, .int .i64 a0_2]] rfl (by (try simp only [List.map_toArray, List.map_cons, List.map_nil]); first | done | rfl | (simp only [List.length_drop, List.length_take]; rfl)) ?_; (with_reducible refine (spec_GoodReader.calls k a0_0 _ _ l0_1 a0_2 false _ ?side1 ?side2 A2.1).mono ?_); (case side1 => repeat (first | exact (Kd.C_below zM.1 HB.1) | (with_reducible refine Kd.C_alloc ?_ _) | (with_reducible refine Kd.C_drewN ?_ _) | (with_reducible refine Kd.C_drew ?_))); (case side2 => exact HC0_1.1); rintro e w44 ⟨rfl, hb⟩; refine ⟨_, rfl, ?_⟩; have n0_ := Aside0.mk (zm (g := gb162) (o := .cells #[.string a0_0, .slice A0_1 l0_1.length c0_1, .int .i64 a0_2] 33 (0, 0)) (by (with_reducible repeat (first | refine za ?_ _ | refine zc ?_ | refine zb ?_ _)); exact zy.1) hb); have n1_ := Aside0.mk (zm (g := gb163) (o := .cells #[.string (⟨#[]⟩ : ByteArray), .slice none 0 0, .int .i64 0] 33 (0, 0)) (by (with_reducible repeat (first | refine za ?_ _ | refine zc ?_ | refine zb ?_ _)); exact zz.1) hb); have n2_ := Aside0.mk (zm (g := gb164) (o := .cells #[.int .i64 0, .string (⟨#[]⟩ : ByteArray)] 26 (0, 0)) (by (with_reducible repeat (first | refine za ?_ _ | refine zc ?_ | refine zb ?_ _)); exact zC.1) hb); have n3_ := Aside0.mk (zn (by repeat (first | (with_reducible first | exact HB.1 | apply zh | apply zd | apply zg | refine zf ?_ zF.1 | refine zf ?_ zH.1 | refine zf ?_ zL.1) | exact HB.1)) hb); clear zy; clear zz; clear zC; clear HB; have zy := n0_; have zz := n1_; have zC := n2_; have HB := n3_; clear n0_ n1_ n2_ n3_; (try clear hb); (try clear hb2); (try clear hk); (try clear hi); have hnb45 := zD.1; have hnc45 := zA.1; have hcz46_0 : w44.cell? ⟨gb163, 0, none⟩ = some (.string (⟨#[]⟩ : ByteArray)) := (zj zz.1 0).trans rfl; have hcz46_1 : w44.cell? ⟨gb163, 1, none⟩ = some (.slice none 0 0) := (zj zz.1 1).trans rfl; have hcz46_2 : w44.cell? ⟨gb163, 2, none⟩ = some (.int .i64 0) := (zj zz.1 2).trans rfl; have hfz46_0 := zi zz.1 0; have hfz46_1 := zi zz.1 1; have hfz46_2 := zi zz.1 2; have hcz47_0 : w44.cell? ⟨gb164, 0, none⟩ = some (.int .i64 0) := (zj zC.1 0).trans rfl; have hcz47_1 : w44.cell? ⟨gb164, 1, none⟩ = some (.string (⟨#[]⟩ : ByteArray)) := (zj zC.1 1).trans rfl; have hfz47_0 := zi zC.1 0; have hfz47_1 := zi zC.1 1))
  refine bodyPost_ret (results_list (rs := [.cell 2 33, .cell 3 26, .tmp 4]) rfl (by simp) (.cell gb163 33 #[.string (⟨#[]⟩ : ByteArray), .slice none 0 0, .int .i64 0] (0, 0) _ rfl (by (with_reducible repeat (first | refine za ?_ _ | refine zc ?_ | refine zb ?_ _)); refine zp ?_ zD.1 _; (with_reducible repeat (first | refine za ?_ _ | refine zc ?_ | refine zb ?_ _)); refine zp ?_ zD.1 _; (with_reducible repeat (first | refine za ?_ _ | refine zc ?_ | refine zb ?_ _)); refine zo (cs := #[.string (⟨#[]⟩ : ByteArray), .slice none 0 0, .int .i64 0]) ?_ 2 _ rfl; (with_reducible repeat (first | refine za ?_ _ | refine zc ?_ | refine zb ?_ _)); refine zo (cs := #[.string (⟨#[]⟩ : ByteArray), .slice none 0 0, .int .i64 0]) ?_ 1 _ rfl; (with_reducible repeat (first | refine za ?_ _ | refine zc ?_ | refine zb ?_ _)); refine zo (cs := #[.string (⟨#[]⟩ : ByteArray), .slice none 0 0, .int .i64 0]) ?_ 0 _ rfl; (with_reducible repeat (first | refine za ?_ _ | refine zc ?_ | refine zb ?_ _)); exact zz.1) Try.underlying33 rfl (by kernel_rfl) (.cell gb164 26 #[.int .i64 0, .string (⟨#[]⟩ : ByteArray)] (0, 0) _ rfl (by (with_reducible repeat (first | refine za ?_ _ | refine zc ?_ | refine zb ?_ _)); refine zo (cs := #[.int .i64 0, .string (⟨#[]⟩ : ByteArray)]) ?_ 1 _ rfl; (with_reducible repeat (first | refine za ?_ _ | refine zc ?_ | refine zb ?_ _)); refine zo (cs := #[.int .i64 0, .string (⟨#[]⟩ : ByteArray)]) ?_ 0 _ rfl; (with_reducible repeat (first | refine za ?_ _ | refine zc ?_ | refine zb ?_ _)); refine zp ?_ zA.1 _; (with_reducible repeat (first | refine za ?_ _ | refine zc ?_ | refine zb ?_ _)); refine zp ?_ zA.1 _; (with_reducible repeat (first | refine za ?_ _ | refine zc ?_ | refine zb ?_ _)); refine zp ?_ zA.1 _; (with_reducible repeat (first | refine za ?_ _ | refine zc ?_ | refine zb ?_ _)); exact zC.1) Try.underlying26 rfl (by kernel_rfl) (.tmp .nil)))) rfl ?_
  exact ⟨_, by first | rfl | (simp [errW_none, errW_some] <;> rfl) | (simp [*, errW_none, errW_some] <;> rfl), by first | exact Kd.R_nil _ _ _ _ _ | exact Kd.N_nil _ _ _ _ _ | exact Kd.V_nil _ _ _ _ _ | exact Kd.Q_nil _ _ _ _ _ | exact Kd.S_nil _ _ _ _ _, by repeat (first | (with_reducible first | exact HB.1 | apply zh | apply zd | apply zg | refine zf ?_ zF.1 | refine zf ?_ zH.1 | refine zf ?_ zL.1) | exact HB.1)⟩

/-! ### impl_within: function 63 -/
def impl_within.f (a0 : Int) (a1 : Int) (a2 : Int) : Option (Bool) := if a0 ≥ a1 then (some (decide (a0 ≤ a2))) else (some false)
set_option maxHeartbeats 8000000 in
set_option maxRecDepth 100000 in
theorem impl_within.calls (a0 : Int) (a1 : Int) (a2 : Int) (r : Bool) (w : World) (h : impl_within.f a0 a1 a2 = some r) :
  Calls Try.prog 63 #[.int .i64 a0, .int .i64 a1, .int .i64 a2] w fun e w' => e = .returned (.bool r) ∧ Drawn0 w w' := by
 have H : (if a0 ≥ a1 then (some (decide (a0 ≤ a2))) else (some false)) = some r := h
 clear h
 by_cases c4 : a0 ≥ a1
 ·
  rw [if_pos c4] at H
  have c4b0 : decide (a1 ≤ a0) = true := decide_eq_true c4
  clear c4
  obtain rfl := Option.some.inj H
  go_enter Try.func63, Try.ntmps63
  go_wp2
  go_ret
  exact ⟨by first | rfl | (simp; done) | (simp [*]; done), by repeat (first | exact Drawn0.refl _ | apply Drawn0.step)⟩
 ·
  rw [if_neg c4] at H
  have c4b0 : decide (a1 ≤ a0) = false := decide_eq_false c4
  clear c4
  obtain rfl := Option.some.inj H
  go_enter Try.func63, Try.ntmps63
  go_wp2
  go_ret
  exact ⟨by first | rfl | (simp; done) | (simp [*]; done), by repeat (first | exact Drawn0.refl _ | apply Drawn0.step)⟩

end Go.Proofs.Ytkkchcalhomgcaa.PFnExactTakeMsg
