/- Written by this session's own program over the kit's print: Lean functions that tell what Go functions answer, each with a proof that the call does so. No condition but what each statement says. -/
import Derived.Test.YtlnfcobloolnnaaYFnExactUpdateBytesx0
import Derived.Test.YtlnfcobloolnnaaYFnExactUpdateBytesx4
import Derived.Test.YtlnfcobloolnnaaYFnExactUpdateBytesx6
namespace Go.Proofs.Ytlnfcobloolnnaa.PFnExactUpdateBytes
open Go.RowKit Go.Proofs.YtlnfcobloolnnaaW.PrintWords Go.Proofs.YtlnfcobloolnnaaW.PrintLast Go.Proofs.YtlnfcobloolnnaaW.PrintMore
open Go.Proofs.YtlnfcobloolnnaaW.PrintLast renaming i64_w → zy, i32_w → zz, any_of → zB, goesL_ → zC, pure_ → zD
open Go.Proofs.YtlnfcobloolnnaaW.PrintWords renaming blk_frozen → za, blk_cell → zb, pw_below_drewN → zc, below_drew1 → zd, below_alloc → ze, below_set → zf, blk_drewN → zg, blk_alloc → zh, below_step → zi, blk_drew → zj, below_size → zk, blk_below → zl, gate_callee → zs, box_event → zt, gate_guard → zu, gate_dst → zv, Aside0 → zx
open Go.Proofs.YtlnfcobloolnnaaW.PrintWords.Kd renaming C_below → zm, C_drewN → zn, C_alloc → zo, C_drew → zp, int → zE
open Go.Proofs.YtlnfcobloolnnaaW.PrintWords.LeO renaming none → zq, bind → zr, ite → zw, refl → zA
attribute [local go_sem] max2_int min2_int max_two min_two max_three min_three max_four min_four   -- for this text's walks alone
set_option linter.unusedVariables false
set_option linter.unusedSimpArgs false

/-! ### spec_l4Zero: function 71 -/
def spec_l4Zero.f (a0_0 : Int) (l0_1 : List Int) (a0_2 : Int) (a0_3 : Int) (a0_4 : Int) (l0_5 : List Int) : Option (Bool) := if a0_0 = 0 then (if (l0_1.length : Int) = 0 then (if a0_2 = 0 then (if a0_3 = 0 then (if a0_4 = 0 then (some ((l0_5.length : Int) == 0)) else (some false)) else (some false)) else (some false)) else (some false)) else (some false)
set_option maxHeartbeats 8000000 in
set_option maxRecDepth 100000 in
theorem spec_l4Zero.calls (a0_0 : Int) (A0_1 : Option Addr) (c0_1 : Nat) (l0_1 : List Int) (a0_2 : Int) (a0_3 : Int) (a0_4 : Int) (A0_5 : Option Addr) (c0_5 : Nat) (l0_5 : List Int) (r : Bool) (w : World) (hr0_1 : Kd.C (zE .i64) w A0_1 l0_1.length l0_1) (hc0_1 : l0_1.length ≤ c0_1) (hr0_5 : Kd.C (zE .i64) w A0_5 l0_5.length l0_5) (hc0_5 : l0_5.length ≤ c0_5) (h : spec_l4Zero.f a0_0 l0_1 a0_2 a0_3 a0_4 l0_5 = some r) :
  Calls Try.prog 71 #[.agg #[.int .i64 a0_0, .slice A0_1 l0_1.length c0_1, .int .i64 a0_2, .int .i64 a0_3, .int .i64 a0_4, .slice A0_5 l0_5.length c0_5]] w fun e w' => e = .returned (.bool r) ∧ Below w.heap.size w w' := by
 have hu27 := Try.underlying27
 have HR0_1 := Aside0.mk hr0_1
 have HC0_1 := Aside0.mk hc0_1
 clear hr0_1 hc0_1
 have HR0_5 := Aside0.mk hr0_5
 have HC0_5 := Aside0.mk hc0_5
 clear hr0_5 hc0_5
 have HB := Aside0.mk (Below.refl w.heap.size w)
 have H : (if a0_0 = 0 then (if (l0_1.length : Int) = 0 then (if a0_2 = 0 then (if a0_3 = 0 then (if a0_4 = 0 then (some ((l0_5.length : Int) == 0)) else (some false)) else (some false)) else (some false)) else (some false)) else (some false)) = some r := h
 clear h
 by_cases c2 : a0_0 = 0
 ·
  rw [if_pos c2] at H
  have c2b0 : (a0_0 == 0) = true := beq_iff_eq.mpr c2
  have c2b1 : (a0_0 != 0) = false := bne_eq_false_iff_eq.mpr c2
  clear c2
  by_cases c3 : (l0_1.length : Int) = 0
  ·
   rw [if_pos c3] at H
   have c3b0 : ((l0_1.length : Int) == 0) = true := beq_iff_eq.mpr c3
   have c3b1 : ((l0_1.length : Int) != 0) = false := bne_eq_false_iff_eq.mpr c3
   clear c3
   by_cases c4 : a0_2 = 0
   ·
    rw [if_pos c4] at H
    have c4b0 : (a0_2 == 0) = true := beq_iff_eq.mpr c4
    have c4b1 : (a0_2 != 0) = false := bne_eq_false_iff_eq.mpr c4
    clear c4
    by_cases c5 : a0_3 = 0
    ·
     rw [if_pos c5] at H
     have c5b0 : (a0_3 == 0) = true := beq_iff_eq.mpr c5
     have c5b1 : (a0_3 != 0) = false := bne_eq_false_iff_eq.mpr c5
     clear c5
     by_cases c6 : a0_4 = 0
     ·
      rw [if_pos c6] at H
      have c6b0 : (a0_4 == 0) = true := beq_iff_eq.mpr c6
      have c6b1 : (a0_4 != 0) = false := bne_eq_false_iff_eq.mpr c6
      clear c6
      obtain rfl := Option.some.inj H
      go_enter Try.func71, Try.ntmps71
      go_wp2_with (first | ((with_reducible refine zv (N := 1) rfl ?_); (try (refine zu (by rfl) ?_; dsimp only)); refine zt ?hg (N := 1) ?hd (cs := #[.int .i64 a0_0, .slice A0_1 l0_1.length c0_1, .int .i64 a0_2, .int .i64 a0_3, .int .i64 a0_4, .slice A0_5 l0_5.length c0_5]) (t := 27) ?hr ?_; (case hd => rfl); (case hg => rfl); (case hr => first | (go_simp; done) | (go_simp; rfl)); intro gb193 hg w7 hbox hb; have n0_ := Aside0.mk (zi (by repeat (first | (with_reducible first | exact HB.1 | apply ze | apply zc | apply zd) | exact HB.1)) hb); have n1_ := Aside0.mk (hbox); have n2_ := Aside0.mk ((by rw [hg]; exact (zk (by repeat (first | (with_reducible first | exact HB.1 | apply ze | apply zc | apply zd) | exact HB.1))) : w.heap.size ≤ gb193)); have n3_ := Aside0.mk ((by rw [hg]; exact (zk (by repeat (first | (with_reducible first | exact HB.1 | apply ze | apply zc | apply zd) | exact HB.1))) : w.heap.size ≤ gb193)); clear HB; have HB := n0_; have zG := n1_; have zR := n2_; have zM := n3_; clear n0_ n1_ n2_ n3_; clear hb hbox hg; have hcz8_0 : w7.cell? ⟨gb193, 0, none⟩ = some (.int .i64 a0_0) := (zb zG.1 0).trans rfl; have hcz8_1 : w7.cell? ⟨gb193, 1, none⟩ = some (.slice A0_1 l0_1.length c0_1) := (zb zG.1 1).trans rfl; have hcz8_2 : w7.cell? ⟨gb193, 2, none⟩ = some (.int .i64 a0_2) := (zb zG.1 2).trans rfl; have hcz8_3 : w7.cell? ⟨gb193, 3, none⟩ = some (.int .i64 a0_3) := (zb zG.1 3).trans rfl; have hcz8_4 : w7.cell? ⟨gb193, 4, none⟩ = some (.int .i64 a0_4) := (zb zG.1 4).trans rfl; have hcz8_5 : w7.cell? ⟨gb193, 5, none⟩ = some (.slice A0_5 l0_5.length c0_5) := (zb zG.1 5).trans rfl; have hfz8_0 := za zG.1 0; have hfz8_1 := za zG.1 1; have hfz8_2 := za zG.1 2; have hfz8_3 := za zG.1 3; have hfz8_4 := za zG.1 4; have hfz8_5 := za zG.1 5))
      go_ret
      exact ⟨by first | rfl | (simp [errW_none, errW_some] <;> rfl) | (simp [*, errW_none, errW_some] <;> rfl), by repeat (first | (with_reducible first | exact HB.1 | apply ze | apply zc | apply zd | refine zf ?_ zM.1) | exact HB.1)⟩
     ·
      rw [if_neg c6] at H
      have c6b0 : (a0_4 == 0) = false := beq_eq_false_iff_ne.mpr c6
      have c6b1 : (a0_4 != 0) = true := bne_iff_ne.mpr c6
      obtain rfl := Option.some.inj H
      go_enter Try.func71, Try.ntmps71
      go_wp2_with (first | ((with_reducible refine zv (N := 1) rfl ?_); (try (refine zu (by rfl) ?_; dsimp only)); refine zt ?hg (N := 1) ?hd (cs := #[.int .i64 a0_0, .slice A0_1 l0_1.length c0_1, .int .i64 a0_2, .int .i64 a0_3, .int .i64 a0_4, .slice A0_5 l0_5.length c0_5]) (t := 27) ?hr ?_; (case hd => rfl); (case hg => rfl); (case hr => first | (go_simp; done) | (go_simp; rfl)); intro gb193 hg w9 hbox hb; have n0_ := Aside0.mk (zi (by repeat (first | (with_reducible first | exact HB.1 | apply ze | apply zc | apply zd) | exact HB.1)) hb); have n1_ := Aside0.mk (hbox); have n2_ := Aside0.mk ((by rw [hg]; exact (zk (by repeat (first | (with_reducible first | exact HB.1 | apply ze | apply zc | apply zd) | exact HB.1))) : w.heap.size ≤ gb193)); have n3_ := Aside0.mk ((by rw [hg]; exact (zk (by repeat (first | (with_reducible first | exact HB.1 | apply ze | apply zc | apply zd) | exact HB.1))) : w.heap.size ≤ gb193)); clear HB; have HB := n0_; have zG := n1_; have zR := n2_; have zM := n3_; clear n0_ n1_ n2_ n3_; clear hb hbox hg; have hcz10_0 : w9.cell? ⟨gb193, 0, none⟩ = some (.int .i64 a0_0) := (zb zG.1 0).trans rfl; have hcz10_1 : w9.cell? ⟨gb193, 1, none⟩ = some (.slice A0_1 l0_1.length c0_1) := (zb zG.1 1).trans rfl; have hcz10_2 : w9.cell? ⟨gb193, 2, none⟩ = some (.int .i64 a0_2) := (zb zG.1 2).trans rfl; have hcz10_3 : w9.cell? ⟨gb193, 3, none⟩ = some (.int .i64 a0_3) := (zb zG.1 3).trans rfl; have hcz10_4 : w9.cell? ⟨gb193, 4, none⟩ = some (.int .i64 a0_4) := (zb zG.1 4).trans rfl; have hcz10_5 : w9.cell? ⟨gb193, 5, none⟩ = some (.slice A0_5 l0_5.length c0_5) := (zb zG.1 5).trans rfl; have hfz10_0 := za zG.1 0; have hfz10_1 := za zG.1 1; have hfz10_2 := za zG.1 2; have hfz10_3 := za zG.1 3; have hfz10_4 := za zG.1 4; have hfz10_5 := za zG.1 5))
      go_ret
      exact ⟨by first | rfl | (simp [errW_none, errW_some] <;> rfl) | (simp [*, errW_none, errW_some] <;> rfl), by repeat (first | (with_reducible first | exact HB.1 | apply ze | apply zc | apply zd | refine zf ?_ zM.1) | exact HB.1)⟩
    ·
     rw [if_neg c5] at H
     have c5b0 : (a0_3 == 0) = false := beq_eq_false_iff_ne.mpr c5
     have c5b1 : (a0_3 != 0) = true := bne_iff_ne.mpr c5
     obtain rfl := Option.some.inj H
     go_enter Try.func71, Try.ntmps71
     go_wp2_with (first | ((with_reducible refine zv (N := 1) rfl ?_); (try (refine zu (by rfl) ?_; dsimp only)); refine zt ?hg (N := 1) ?hd (cs := #[.int .i64 a0_0, .slice A0_1 l0_1.length c0_1, .int .i64 a0_2, .int .i64 a0_3, .int .i64 a0_4, .slice A0_5 l0_5.length c0_5]) (t := 27) ?hr ?_; (case hd => rfl); (case hg => rfl); (case hr => first | (go_simp; done) | (go_simp; rfl)); intro gb193 hg w11 hbox hb; have n0_ := Aside0.mk (zi (by repeat (first | (with_reducible first | exact HB.1 | apply ze | apply zc | apply zd) | exact HB.1)) hb); have n1_ := Aside0.mk (hbox); have n2_ := Aside0.mk ((by rw [hg]; exact (zk (by repeat (first | (with_reducible first | exact HB.1 | apply ze | apply zc | apply zd) | exact HB.1))) : w.heap.size ≤ gb193)); have n3_ := Aside0.mk ((by rw [hg]; exact (zk (by repeat (first | (with_reducible first | exact HB.1 | apply ze | apply zc | apply zd) | exact HB.1))) : w.heap.size ≤ gb193)); clear HB; have HB := n0_; have zG := n1_; have zR := n2_; have zM := n3_; clear n0_ n1_ n2_ n3_; clear hb hbox hg; have hcz12_0 : w11.cell? ⟨gb193, 0, none⟩ = some (.int .i64 a0_0) := (zb zG.1 0).trans rfl; have hcz12_1 : w11.cell? ⟨gb193, 1, none⟩ = some (.slice A0_1 l0_1.length c0_1) := (zb zG.1 1).trans rfl; have hcz12_2 : w11.cell? ⟨gb193, 2, none⟩ = some (.int .i64 a0_2) := (zb zG.1 2).trans rfl; have hcz12_3 : w11.cell? ⟨gb193, 3, none⟩ = some (.int .i64 a0_3) := (zb zG.1 3).trans rfl; have hcz12_4 : w11.cell? ⟨gb193, 4, none⟩ = some (.int .i64 a0_4) := (zb zG.1 4).trans rfl; have hcz12_5 : w11.cell? ⟨gb193, 5, none⟩ = some (.slice A0_5 l0_5.length c0_5) := (zb zG.1 5).trans rfl; have hfz12_0 := za zG.1 0; have hfz12_1 := za zG.1 1; have hfz12_2 := za zG.1 2; have hfz12_3 := za zG.1 3; have hfz12_4 := za zG.1 4; have hfz12_5 := za zG.1 5))
     go_ret
     exact ⟨by first | rfl | (simp [errW_none, errW_some] <;> rfl) | (simp [*, errW_none, errW_some] <;> rfl), by repeat (first | (with_reducible first | exact HB.1 | apply ze | apply zc | apply zd | refine zf ?_ zM.1) | exact HB.1)⟩
   ·
    rw [if_neg c4] at H
    have c4b0 : (a0_2 == 0) = false := beq_eq_false_iff_ne.mpr c4
    have c4b1 : (a0_2 != 0) = true := bne_iff_ne.mpr c4
    obtain rfl := Option.some.inj H
    go_enter Try.func71, Try.ntmps71
    go_wp2_with (first | ((with_reducible refine zv (N := 1) rfl ?_); (try (refine zu (by rfl) ?_; dsimp only)); refine zt ?hg (N := 1) ?hd (cs := #[.int .i64 a0_0, .slice A0_1 l0_1.length c0_1, .int .i64 a0_2, .int .i64 a0_3, .int .i64 a0_4, .slice A0_5 l0_5.length c0_5]) (t := 27) ?hr ?_; (case hd => rfl); (case hg => rfl); (case hr => first | (go_simp; done) | (go_simp; rfl)); intro gb193 hg w13 hbox hb; have n0_ := Aside0.mk (zi (by repeat (first | (with_reducible first | exact HB.1 | apply ze | apply zc | apply zd) | exact HB.1)) hb); have n1_ := Aside0.mk (hbox); have n2_ := Aside0.mk ((by rw [hg]; exact (zk (by repeat (first | (with_reducible first | exact HB.1 | apply ze | apply zc | apply zd) | exact HB.1))) : w.heap.size ≤ gb193)); have n3_ := Aside0.mk ((by rw [hg]; exact (zk (by repeat (first | (with_reducible first | exact HB.1 | apply ze | apply zc | apply zd) | exact HB.1))) : w.heap.size ≤ gb193)); clear HB; have HB := n0_; have zG := n1_; have zR := n2_; have zM := n3_; clear n0_ n1_ n2_ n3_; clear hb hbox hg; have hcz14_0 : w13.cell? ⟨gb193, 0, none⟩ = some (.int .i64 a0_0) := (zb zG.1 0).trans rfl; have hcz14_1 : w13.cell? ⟨gb193, 1, none⟩ = some (.slice A0_1 l0_1.length c0_1) := (zb zG.1 1).trans rfl; have hcz14_2 : w13.cell? ⟨gb193, 2, none⟩ = some (.int .i64 a0_2) := (zb zG.1 2).trans rfl; have hcz14_3 : w13.cell? ⟨gb193, 3, none⟩ = some (.int .i64 a0_3) := (zb zG.1 3).trans rfl; have hcz14_4 : w13.cell? ⟨gb193, 4, none⟩ = some (.int .i64 a0_4) := (zb zG.1 4).trans rfl; have hcz14_5 : w13.cell? ⟨gb193, 5, none⟩ = some (.slice A0_5 l0_5.length c0_5) := (zb zG.1 5).trans rfl; have hfz14_0 := za zG.1 0; have hfz14_1 := za zG.1 1; have hfz14_2 := za zG.1 2; have hfz14_3 := za zG.1 3; have hfz14_4 := za zG.1 4; have hfz14_5 := za zG.1 5))
    go_ret
    exact ⟨by first | rfl | (simp [errW_none, errW_some] <;> rfl) | (simp [*, errW_none, errW_some] <;> rfl), by repeat (first | (with_reducible first | exact HB.1 | apply ze | apply zc | apply zd | refine zf ?_ zM.1) | exact HB.1)⟩
  ·
   rw [if_neg c3] at H
   have c3b0 : ((l0_1.length : Int) == 0) = false := beq_eq_false_iff_ne.mpr c3
   have c3b1 : ((l0_1.length : Int) != 0) = true := bne_iff_ne.mpr c3
   have c3b2 : ¬ (l0_1 = []) := fun h_ => c3 (by rw [h_]; rfl)
   obtain rfl := Option.some.inj H
   go_enter Try.func71, Try.ntmps71
   go_wp2_with (first | ((with_reducible refine zv (N := 1) rfl ?_); (try (refine zu (by rfl) ?_; dsimp only)); refine zt ?hg (N := 1) ?hd (cs := #[.int .i64 a0_0, .slice A0_1 l0_1.length c0_1, .int .i64 a0_2, .int .i64 a0_3, .int .i64 a0_4, .slice A0_5 l0_5.length c0_5]) (t := 27) ?hr ?_; (case hd => rfl); (case hg => rfl); (case hr => first | (go_simp; done) | (go_simp; rfl)); intro gb193 hg w15 hbox hb; have n0_ := Aside0.mk (zi (by repeat (first | (with_reducible first | exact HB.1 | apply ze | apply zc | apply zd) | exact HB.1)) hb); have n1_ := Aside0.mk (hbox); have n2_ := Aside0.mk ((by rw [hg]; exact (zk (by repeat (first | (with_reducible first | exact HB.1 | apply ze | apply zc | apply zd) | exact HB.1))) : w.heap.size ≤ gb193)); have n3_ := Aside0.mk ((by rw [hg]; exact (zk (by repeat (first | (with_reducible first | exact HB.1 | apply ze | apply zc | apply zd) | exact HB.1))) : w.heap.size ≤ gb193)); clear HB; have HB := n0_; have zG := n1_; have zR := n2_; have zM := n3_; clear n0_ n1_ n2_ n3_; clear hb hbox hg; have hcz16_0 : w15.cell? ⟨gb193, 0, none⟩ = some (.int .i64 a0_0) := (zb zG.1 0).trans rfl; have hcz16_1 : w15.cell? ⟨gb193, 1, none⟩ = some (.slice A0_1 l0_1.length c0_1) := (zb zG.1 1).trans rfl; have hcz16_2 : w15.cell? ⟨gb193, 2, none⟩ = some (.int .i64 a0_2) := (zb zG.1 2).trans rfl; have hcz16_3 : w15.cell? ⟨gb193, 3, none⟩ = some (.int .i64 a0_3) := (zb zG.1 3).trans rfl; have hcz16_4 : w15.cell? ⟨gb193, 4, none⟩ = some (.int .i64 a0_4) := (zb zG.1 4).trans rfl; have hcz16_5 : w15.cell? ⟨gb193, 5, none⟩ = some (.slice A0_5 l0_5.length c0_5) := (zb zG.1 5).trans rfl; have hfz16_0 := za zG.1 0; have hfz16_1 := za zG.1 1; have hfz16_2 := za zG.1 2; have hfz16_3 := za zG.1 3; have hfz16_4 := za zG.1 4; have hfz16_5 := za zG.1 5))
   go_ret
   exact ⟨by first | rfl | (simp [errW_none, errW_some] <;> rfl) | (simp [*, errW_none, errW_some] <;> rfl), by repeat (first | (with_reducible first | exact HB.1 | apply ze | apply zc | apply zd | refine zf ?_ zM.1) | exact HB.1)⟩
 ·
  rw [if_neg c2] at H
  have c2b0 : (a0_0 == 0) = false := beq_eq_false_iff_ne.mpr c2
  have c2b1 : (a0_0 != 0) = true := bne_iff_ne.mpr c2
  obtain rfl := Option.some.inj H
  go_enter Try.func71, Try.ntmps71
  go_wp2_with (first | ((with_reducible refine zv (N := 1) rfl ?_); (try (refine zu (by rfl) ?_; dsimp only)); refine zt ?hg (N := 1) ?hd (cs := #[.int .i64 a0_0, .slice A0_1 l0_1.length c0_1, .int .i64 a0_2, .int .i64 a0_3, .int .i64 a0_4, .slice A0_5 l0_5.length c0_5]) (t := 27) ?hr ?_; (case hd => rfl); (case hg => rfl); (case hr => first | (go_simp; done) | (go_simp; rfl)); intro gb193 hg w17 hbox hb; have n0_ := Aside0.mk (zi (by repeat (first | (with_reducible first | exact HB.1 | apply ze | apply zc | apply zd) | exact HB.1)) hb); have n1_ := Aside0.mk (hbox); have n2_ := Aside0.mk ((by rw [hg]; exact (zk (by repeat (first | (with_reducible first | exact HB.1 | apply ze | apply zc | apply zd) | exact HB.1))) : w.heap.size ≤ gb193)); have n3_ := Aside0.mk ((by rw [hg]; exact (zk (by repeat (first | (with_reducible first | exact HB.1 | apply ze | apply zc | apply zd) | exact HB.1))) : w.heap.size ≤ gb193)); clear HB; have HB := n0_; have zG := n1_; have zR := n2_; have zM := n3_; clear n0_ n1_ n2_ n3_; clear hb hbox hg; have hcz18_0 : w17.cell? ⟨gb193, 0, none⟩ = some (.int .i64 a0_0) := (zb zG.1 0).trans rfl; have hcz18_1 : w17.cell? ⟨gb193, 1, none⟩ = some (.slice A0_1 l0_1.length c0_1) := (zb zG.1 1).trans rfl; have hcz18_2 : w17.cell? ⟨gb193, 2, none⟩ = some (.int .i64 a0_2) := (zb zG.1 2).trans rfl; have hcz18_3 : w17.cell? ⟨gb193, 3, none⟩ = some (.int .i64 a0_3) := (zb zG.1 3).trans rfl; have hcz18_4 : w17.cell? ⟨gb193, 4, none⟩ = some (.int .i64 a0_4) := (zb zG.1 4).trans rfl; have hcz18_5 : w17.cell? ⟨gb193, 5, none⟩ = some (.slice A0_5 l0_5.length c0_5) := (zb zG.1 5).trans rfl; have hfz18_0 := za zG.1 0; have hfz18_1 := za zG.1 1; have hfz18_2 := za zG.1 2; have hfz18_3 := za zG.1 3; have hfz18_4 := za zG.1 4; have hfz18_5 := za zG.1 5))
  go_ret
  exact ⟨by first | rfl | (simp [errW_none, errW_some] <;> rfl) | (simp [*, errW_none, errW_some] <;> rfl), by repeat (first | (with_reducible first | exact HB.1 | apply ze | apply zc | apply zd | refine zf ?_ zM.1) | exact HB.1)⟩

/-! ### spec_GoodUpdate: function 28 -/
def spec_GoodUpdate.l0 : Nat → List (S35) → Int → Int → List (S35) → Int → List Int → Int → Int → Int → List Int → List (S35) → Option (Bool)
 | 0, _, _, _, _, _, _, _, _, _, _, _ => none
 | k + 1, x6, x7, x8, x195000, x195001, x195002, x195003, x195004, x195005, x195006, x195007 => if x8 < x7 then (if 0 ≤ x8 then (if x8 < (x6.length : Int) then ((spec_l4In.f k x195000 ((rd_T35 x6 x8).f0) ((rd_T35 x6 x8).f1)).bind fun t197 => (if t197 = true then (some false) else (spec_GoodUpdate.l0 k x6 x7 (wrap64 (x8 + 1)) x195000 x195001 x195002 x195003 x195004 x195005 x195006 x195007))) else (none)) else (none)) else ((spec_l4Rising.f k x195000).bind fun t198 => (if t198 = true then ((spec_l4Rising.f k x195007).bind fun t199 => (if t199 = true then ((spec_GoodAttrs.f k x195001 x195002 x195003 x195004 x195005 x195006).bind fun t200 => (if t200 = true then (if (x195007.length : Int) > 0 then (some true) else ((spec_l4Zero.f x195001 x195002 x195003 x195004 x195005 x195006).bind fun t201 => (some t201))) else (some false))) else (some false))) else (some false)))
def spec_GoodUpdate.f (k : Nat) (l0_0 : List (S35)) (a0_1 : Int) (l0_2 : List Int) (a0_3 : Int) (a0_4 : Int) (a0_5 : Int) (l0_6 : List Int) (l0_7 : List (S35)) : Option (Bool) := spec_GoodUpdate.l0 k l0_7 (l0_7.length : Int) 0 l0_0 a0_1 l0_2 a0_3 a0_4 a0_5 l0_6 l0_7
theorem spec_GoodUpdate.mono_l : ∀ k, (∀ y0 y1 y2 y3 y4 y5 y6 y7 y8 y9 y10, LeO (spec_GoodUpdate.l0 k y0 y1 y2 y3 y4 y5 y6 y7 y8 y9 y10) (spec_GoodUpdate.l0 (k + 1) y0 y1 y2 y3 y4 y5 y6 y7 y8 y9 y10))
 | 0 => fun _ _ _ _ _ _ _ _ _ _ _ r h => by simp [spec_GoodUpdate.l0] at h
 | k + 1 => by
  have ih0 := spec_GoodUpdate.mono_l k
  ·
   intro y0 y1 y2 y3 y4 y5 y6 y7 y8 y9 y10
   unfold spec_GoodUpdate.l0
   repeat' first
   | (with_reducible exact ih0 _ _ _ _ _ _ _ _ _ _ _)
   | (with_reducible exact spec_GoodAttrs.mono _ _ _ _ _ _ _)
   | (with_reducible exact spec_l4In.mono _ _ _ _)
   | (with_reducible exact spec_l4Rising.mono _ _)
   | (with_reducible exact zA _)
   | (with_reducible exact zq _)
   | (with_reducible refine zw ?_ ?_)
   | (with_reducible refine zr ?_ (fun _ => ?_))
   | exact ih0 _ _ _ _ _ _ _ _ _ _ _
   | exact spec_GoodAttrs.mono _ _ _ _ _ _ _
   | exact spec_l4In.mono _ _ _ _
   | exact spec_l4Rising.mono _ _
   | exact zq _
   | refine zw ?_ ?_
   | refine zr ?_ (fun _ => ?_)
theorem spec_GoodUpdate.mono : ∀ a0 a1 a2 a3 a4 a5 a6 a7 k, LeO (spec_GoodUpdate.f k a0 a1 a2 a3 a4 a5 a6 a7) (spec_GoodUpdate.f (k + 1) a0 a1 a2 a3 a4 a5 a6 a7) := by
 intro a0 a1 a2 a3 a4 a5 a6 a7 k
 have ih0 := spec_GoodUpdate.mono_l k
 unfold spec_GoodUpdate.f
 repeat' first
   | (with_reducible exact ih0 _ _ _ _ _ _ _ _ _ _ _)
   | (with_reducible exact spec_GoodAttrs.mono _ _ _ _ _ _ _)
   | (with_reducible exact spec_l4In.mono _ _ _ _)
   | (with_reducible exact spec_l4Rising.mono _ _)
   | (with_reducible exact zA _)
   | (with_reducible exact zq _)
   | (with_reducible refine zw ?_ ?_)
   | (with_reducible refine zr ?_ (fun _ => ?_))
   | exact ih0 _ _ _ _ _ _ _ _ _ _ _
   | exact spec_GoodAttrs.mono _ _ _ _ _ _ _
   | exact spec_l4In.mono _ _ _ _
   | exact spec_l4Rising.mono _ _
   | exact zq _
   | refine zw ?_ ?_
   | refine zr ?_ (fun _ => ?_)
set_option maxHeartbeats 8000000 in
set_option maxRecDepth 100000 in
theorem spec_GoodUpdate.calls (k : Nat) (A0_0 : Option Addr) (c0_0 : Nat) (l0_0 : List (S35)) (a0_1 : Int) (A0_2 : Option Addr) (c0_2 : Nat) (l0_2 : List Int) (a0_3 : Int) (a0_4 : Int) (a0_5 : Int) (A0_6 : Option Addr) (c0_6 : Nat) (l0_6 : List Int) (A0_7 : Option Addr) (c0_7 : Nat) (l0_7 : List (S35)) (r : Bool) (w : World) (hr0_0 : Kd.C k35 w A0_0 l0_0.length l0_0) (hc0_0 : l0_0.length ≤ c0_0) (hr0_2 : Kd.C (zE .i64) w A0_2 l0_2.length l0_2) (hc0_2 : l0_2.length ≤ c0_2) (hr0_6 : Kd.C (zE .i64) w A0_6 l0_6.length l0_6) (hc0_6 : l0_6.length ≤ c0_6) (hr0_7 : Kd.C k35 w A0_7 l0_7.length l0_7) (hc0_7 : l0_7.length ≤ c0_7) (h : spec_GoodUpdate.f k l0_0 a0_1 l0_2 a0_3 a0_4 a0_5 l0_6 l0_7 = some r) :
  Calls Try.prog 28 #[.agg #[.slice A0_0 l0_0.length c0_0, .int .i64 a0_1, .slice A0_2 l0_2.length c0_2, .int .i64 a0_3, .int .i64 a0_4, .int .i64 a0_5, .slice A0_6 l0_6.length c0_6, .slice A0_7 l0_7.length c0_7]] w fun e w' => e = .returned (.bool r) ∧ Below w.heap.size w w' := by
 have hu53 := Try.underlying53
 have hu35 := Try.underlying35
 have hu27 := Try.underlying27
 have zN := Aside0.mk hr0_0
 have HC0_0 := Aside0.mk hc0_0
 clear hr0_0 hc0_0
 have HR0_2 := Aside0.mk hr0_2
 have HC0_2 := Aside0.mk hc0_2
 clear hr0_2 hc0_2
 have HR0_6 := Aside0.mk hr0_6
 have HC0_6 := Aside0.mk hc0_6
 clear hr0_6 hc0_6
 have zQ := Aside0.mk hr0_7
 have HC0_7 := Aside0.mk hc0_7
 clear hr0_7 hc0_7
 have HB := Aside0.mk (Below.refl w.heap.size w)
 have H : (spec_GoodUpdate.l0 k l0_7 (l0_7.length : Int) 0 l0_0 a0_1 l0_2 a0_3 a0_4 a0_5 l0_6 l0_7) = some r := h
 clear h
 have H' := Aside0.mk H
 clear H
 go_enter Try.func28, Try.ntmps28
 go_wp2_with (first | ((with_reducible refine zv (N := 1) rfl ?_); (try (refine zu (by rfl) ?_; dsimp only)); refine zt ?hg (N := 1) ?hd (cs := #[.slice A0_0 l0_0.length c0_0, .int .i64 a0_1, .slice A0_2 l0_2.length c0_2, .int .i64 a0_3, .int .i64 a0_4, .int .i64 a0_5, .slice A0_6 l0_6.length c0_6, .slice A0_7 l0_7.length c0_7]) (t := 53) ?hr ?_; (case hd => rfl); (case hg => rfl); (case hr => first | (go_simp; done) | (go_simp; rfl)); intro gb194 hg w2 hbox hb; have n0_ := Aside0.mk (zi (by repeat (first | (with_reducible first | exact HB.1 | apply ze | apply zc | apply zd) | exact HB.1)) hb); have n1_ := Aside0.mk (hbox); have n2_ := Aside0.mk ((by rw [hg]; exact (zk (by repeat (first | (with_reducible first | exact HB.1 | apply ze | apply zc | apply zd) | exact HB.1))) : w.heap.size ≤ gb194)); have n3_ := Aside0.mk ((by rw [hg]; exact (zk (by repeat (first | (with_reducible first | exact HB.1 | apply ze | apply zc | apply zd) | exact HB.1))) : w.heap.size ≤ gb194)); clear HB; have HB := n0_; have zF := n1_; have GW194 := n2_; have zH := n3_; clear n0_ n1_ n2_ n3_; clear hb hbox hg; have hcz3_0 : w2.cell? ⟨gb194, 0, none⟩ = some (.slice A0_0 l0_0.length c0_0) := (zb zF.1 0).trans rfl; have hcz3_1 : w2.cell? ⟨gb194, 1, none⟩ = some (.int .i64 a0_1) := (zb zF.1 1).trans rfl; have hcz3_2 : w2.cell? ⟨gb194, 2, none⟩ = some (.slice A0_2 l0_2.length c0_2) := (zb zF.1 2).trans rfl; have hcz3_3 : w2.cell? ⟨gb194, 3, none⟩ = some (.int .i64 a0_3) := (zb zF.1 3).trans rfl; have hcz3_4 : w2.cell? ⟨gb194, 4, none⟩ = some (.int .i64 a0_4) := (zb zF.1 4).trans rfl; have hcz3_5 : w2.cell? ⟨gb194, 5, none⟩ = some (.int .i64 a0_5) := (zb zF.1 5).trans rfl; have hcz3_6 : w2.cell? ⟨gb194, 6, none⟩ = some (.slice A0_6 l0_6.length c0_6) := (zb zF.1 6).trans rfl; have hcz3_7 : w2.cell? ⟨gb194, 7, none⟩ = some (.slice A0_7 l0_7.length c0_7) := (zb zF.1 7).trans rfl; have hfz3_0 := za zF.1 0; have hfz3_1 := za zF.1 1; have hfz3_2 := za zF.1 2; have hfz3_3 := za zF.1 3; have hfz3_4 := za zF.1 4; have hfz3_5 := za zF.1 5; have hfz3_6 := za zF.1 6; have hfz3_7 := za zF.1 7))
 go_loopg [8] k (fun kq v8 w' => ∃ (x8_1 : Int), v8 = .int .i64 x8_1 ∧ zx (spec_GoodUpdate.l0 kq l0_7 (l0_7.length : Int) x8_1 l0_0 a0_1 l0_2 a0_3 a0_4 a0_5 l0_6 l0_7 = some r) ∧ zx (kq ≤ k) ∧ zx (w'.heap[gb194]? = some (.cells #[(.slice A0_0 l0_0.length c0_0), .int .i64 a0_1, (.slice A0_2 l0_2.length c0_2), .int .i64 a0_3, .int .i64 a0_4, .int .i64 a0_5, (.slice A0_6 l0_6.length c0_6), (.slice A0_7 l0_7.length c0_7)] 53 (0, 0))) ∧ zx (Below w.heap.size w w'))
 case atStart => exact ⟨(0), (by first | rfl | (simp; done) | (simp [*]; done)), H', ⟨Nat.le_refl _⟩, ⟨by (with_reducible repeat (first | refine zg ?_ _ | refine zj ?_ | refine zh ?_ _)); exact zF.1⟩, ⟨by repeat (first | (with_reducible first | exact HB.1 | apply ze | apply zc | apply zd | refine zf ?_ zH.1) | exact HB.1)⟩⟩
 case round =>
  clear H'
  (try clear c2); (try clear p2); (try clear hcz3_0); (try clear hcz3_1); (try clear hcz3_2); (try clear hcz3_3); (try clear hcz3_4); (try clear hcz3_5); (try clear hcz3_6); (try clear hcz3_7); (try clear hfz3_0); (try clear hfz3_1); (try clear hfz3_2); (try clear hfz3_3); (try clear hfz3_4); (try clear hfz3_5); (try clear hfz3_6); (try clear hfz3_7)
  obtain ⟨x8_1, rfl, HA, HK1, zF, HB⟩ := hrel
  cases gk with
  | zero => exact absurd HA.1 (by simp [spec_GoodUpdate.l0])
  | succ k1 =>
   have H := HA.1
   clear HA
   simp only [spec_GoodUpdate.l0] at H
   by_cases c4 : x8_1 < (l0_7.length : Int)
   ·
    rw [if_pos c4] at H
    have c4b0 : decide (x8_1 < (l0_7.length : Int)) = true := decide_eq_true c4
    clear c4
    by_cases c5 : 0 ≤ x8_1
    ·
     rw [if_pos c5] at H
     have c5b0 : decide (0 ≤ x8_1) = true := decide_eq_true c5
     clear c5
     by_cases c6 : x8_1 < (l0_7.length : Int)
     ·
      rw [if_pos c6] at H
      have c6b0 : decide (x8_1 < (l0_7.length : Int)) = true := decide_eq_true c6
      clear c6
      replace H := Option.bind_eq_some_iff.mp H
      obtain ⟨t197, A70, H⟩ := H
      replace H : (if t197 = true then (some false) else (spec_GoodUpdate.l0 k1 l0_7 (l0_7.length : Int) (wrap64 (x8_1 + 1)) l0_0 a0_1 l0_2 a0_3 a0_4 a0_5 l0_6 l0_7)) = some r := H
      have A7 := Aside0.mk A70
      clear A70
      by_cases c8 : t197 = true
      ·
       subst c8
       have H1 : (some false) = some r := by rw [if_pos rfl] at H; exact H
       clear H
       have H := H1
       clear H1
       obtain rfl := Option.some.inj H
       have p195 : 0 ≤ (x8_1 : Int) := of_decide_eq_true (by first | (with_reducible assumption) | assumption)
       have q195 : x8_1 < (l0_7.length : Int) := of_decide_eq_true (by first | (with_reducible assumption) | assumption)
       obtain ⟨ad195, e195, hx195_0, hx195_1⟩ := at_T35 zQ.1 x8_1 p195 q195
       cases e195
       replace hx195_0 := (HB.1.cell (World.block_lt_of_cell? w _ hx195_0)).trans hx195_0
       replace hx195_1 := (HB.1.cell (World.block_lt_of_cell? w _ hx195_1)).trans hx195_1
       replace p195 := eq_true p195
       replace q195 := eq_true q195
       go_wp2_with (first | ((with_reducible refine zv (N := 4) rfl ?_); (try (refine zu (by rfl) ?_; dsimp only)); refine zt ?hg (N := 4) ?hd (cs := #[.int .i64 0, .int .i64 0]) (t := 35) ?hr ?_; (case hd => rfl); (case hg => rfl); (case hr => first | (go_simp; done) | (go_simp; rfl)); intro gb196 hg w9 hbox hb; have n0_ := Aside0.mk (zl (g := gb194) (o := .cells #[.slice A0_0 l0_0.length c0_0, .int .i64 a0_1, .slice A0_2 l0_2.length c0_2, .int .i64 a0_3, .int .i64 a0_4, .int .i64 a0_5, .slice A0_6 l0_6.length c0_6, .slice (some ad195) l0_7.length c0_7] 53 (0, 0)) (by (with_reducible repeat (first | refine zg ?_ _ | refine zj ?_ | refine zh ?_ _)); exact zF.1) hb); have n1_ := Aside0.mk (zi (by repeat (first | (with_reducible first | exact HB.1 | apply ze | apply zc | apply zd | refine zf ?_ zH.1) | exact HB.1)) hb); have n2_ := Aside0.mk (hbox); have n3_ := Aside0.mk ((by rw [hg]; exact (zk (by repeat (first | (with_reducible first | exact HB.1 | apply ze | apply zc | apply zd | refine zf ?_ zH.1) | exact HB.1))) : w.heap.size ≤ gb196)); have n4_ := Aside0.mk ((by rw [hg]; exact (zk (by repeat (first | (with_reducible first | exact HB.1 | apply ze | apply zc | apply zd | refine zf ?_ zH.1) | exact HB.1))) : w.heap.size ≤ gb196)); have n5_ := Aside0.mk ((by rw [hg]; exact Nat.ne_of_lt (blk_lt (g := gb194) (o := .cells #[.slice A0_0 l0_0.length c0_0, .int .i64 a0_1, .slice A0_2 l0_2.length c0_2, .int .i64 a0_3, .int .i64 a0_4, .int .i64 a0_5, .slice A0_6 l0_6.length c0_6, .slice (some ad195) l0_7.length c0_7] 53 (0, 0)) (by (with_reducible repeat (first | refine zg ?_ _ | refine zj ?_ | refine zh ?_ _)); exact zF.1)) : gb194 ≠ gb196)); have n6_ := Aside0.mk ((by rw [hg]; exact Nat.ne_of_gt (blk_lt (g := gb194) (o := .cells #[.slice A0_0 l0_0.length c0_0, .int .i64 a0_1, .slice A0_2 l0_2.length c0_2, .int .i64 a0_3, .int .i64 a0_4, .int .i64 a0_5, .slice A0_6 l0_6.length c0_6, .slice (some ad195) l0_7.length c0_7] 53 (0, 0)) (by (with_reducible repeat (first | refine zg ?_ _ | refine zj ?_ | refine zh ?_ _)); exact zF.1)) : gb196 ≠ gb194)); clear zF; clear HB; have zF := n0_; have HB := n1_; have zL := n2_; have GW196 := n3_; have zO := n4_; have zK := n5_; have NB196_194 := n6_; clear n0_ n1_ n2_ n3_ n4_ n5_ n6_; clear hb hbox hg; have hnb10 := NB196_194.1; have hnc10 := zK.1; have hcz11_0 : w9.cell? ⟨gb196, 0, none⟩ = some (.int .i64 0) := (zb zL.1 0).trans rfl; have hcz11_1 : w9.cell? ⟨gb196, 1, none⟩ = some (.int .i64 0) := (zb zL.1 1).trans rfl; have hfz11_0 := za zL.1 0; have hfz11_1 := za zL.1 1; have hcz12_0 : w9.cell? ⟨gb194, 0, none⟩ = some (.slice A0_0 l0_0.length c0_0) := (zb zF.1 0).trans rfl; have hcz12_1 : w9.cell? ⟨gb194, 1, none⟩ = some (.int .i64 a0_1) := (zb zF.1 1).trans rfl; have hcz12_2 : w9.cell? ⟨gb194, 2, none⟩ = some (.slice A0_2 l0_2.length c0_2) := (zb zF.1 2).trans rfl; have hcz12_3 : w9.cell? ⟨gb194, 3, none⟩ = some (.int .i64 a0_3) := (zb zF.1 3).trans rfl; have hcz12_4 : w9.cell? ⟨gb194, 4, none⟩ = some (.int .i64 a0_4) := (zb zF.1 4).trans rfl; have hcz12_5 : w9.cell? ⟨gb194, 5, none⟩ = some (.int .i64 a0_5) := (zb zF.1 5).trans rfl; have hcz12_6 : w9.cell? ⟨gb194, 6, none⟩ = some (.slice A0_6 l0_6.length c0_6) := (zb zF.1 6).trans rfl; have hcz12_7 : w9.cell? ⟨gb194, 7, none⟩ = some (.slice (some ad195) l0_7.length c0_7) := (zb zF.1 7).trans rfl; have hfz12_0 := za zF.1 0; have hfz12_1 := za zF.1 1; have hfz12_2 := za zF.1 2; have hfz12_3 := za zF.1 3; have hfz12_4 := za zF.1 4; have hfz12_5 := za zF.1 5; have hfz12_6 := za zF.1 6; have hfz12_7 := za zF.1 7) | ((with_reducible refine zs (f := 69) rfl ?_); refine zC (some 15) rfl rfl Try.func69 (by kernel_rfl) rfl #[.slice A0_0 l0_0.length c0_0, .agg #[.int .i64 ((rd_T35 l0_7 x8_1).f0), .int .i64 ((rd_T35 l0_7 x8_1).f1)]] rfl (by (try simp only [List.map_toArray, List.map_cons, List.map_nil]); first | done | rfl | (simp only [List.length_drop, List.length_take]; rfl)) ?_; (with_reducible refine (spec_l4In.calls k1 _ _ l0_0 ((rd_T35 l0_7 x8_1).f0) ((rd_T35 l0_7 x8_1).f1) true _ ?side1 ?side2 A7.1).mono ?_); (case side1 => exact zm zN.1 (by repeat (first | (with_reducible first | exact HB.1 | apply ze | apply zc | apply zd | refine zf ?_ zH.1 | refine zf ?_ zO.1) | exact HB.1))); (case side2 => exact HC0_0.1); rintro e w13 ⟨rfl, hb⟩; refine ⟨_, rfl, ?_⟩; have n0_ := Aside0.mk (zl (g := gb194) (o := .cells #[.slice A0_0 l0_0.length c0_0, .int .i64 a0_1, .slice A0_2 l0_2.length c0_2, .int .i64 a0_3, .int .i64 a0_4, .int .i64 a0_5, .slice A0_6 l0_6.length c0_6, .slice (some ad195) l0_7.length c0_7] 53 (0, 0)) (by (with_reducible repeat (first | refine zg ?_ _ | refine zj ?_ | refine zh ?_ _)); refine blk_far ?_ zK.1 _; (with_reducible repeat (first | refine zg ?_ _ | refine zj ?_ | refine zh ?_ _)); refine blk_far ?_ zK.1 _; (with_reducible repeat (first | refine zg ?_ _ | refine zj ?_ | refine zh ?_ _)); exact zF.1) hb); have n1_ := Aside0.mk (zl (g := gb196) (o := .cells #[.int .i64 ((rd_T35 l0_7 x8_1).f0), .int .i64 ((rd_T35 l0_7 x8_1).f1)] 35 (0, 0)) (by (with_reducible repeat (first | refine zg ?_ _ | refine zj ?_ | refine zh ?_ _)); refine blk_put (cs := #[.int .i64 ((rd_T35 l0_7 x8_1).f0), .int .i64 0]) ?_ 1 _ rfl; (with_reducible repeat (first | refine zg ?_ _ | refine zj ?_ | refine zh ?_ _)); refine blk_put (cs := #[.int .i64 0, .int .i64 0]) ?_ 0 _ rfl; (with_reducible repeat (first | refine zg ?_ _ | refine zj ?_ | refine zh ?_ _)); exact zL.1) hb); have n2_ := Aside0.mk (zi (by repeat (first | (with_reducible first | exact HB.1 | apply ze | apply zc | apply zd | refine zf ?_ zH.1 | refine zf ?_ zO.1) | exact HB.1)) hb); clear zF; clear zL; clear HB; have zF := n0_; have zL := n1_; have HB := n2_; clear n0_ n1_ n2_; (try clear hb); (try clear hb2); (try clear hk); (try clear hi)))
       go_ret
       exact ⟨by first | rfl | (simp [errW_none, errW_some] <;> rfl) | (simp [*, errW_none, errW_some] <;> rfl), by repeat (first | (with_reducible first | exact HB.1 | apply ze | apply zc | apply zd | refine zf ?_ zH.1 | refine zf ?_ zO.1) | exact HB.1)⟩
      ·
       replace c8 := Bool.eq_false_iff.mpr c8
       subst c8
       have H1 : (spec_GoodUpdate.l0 k1 l0_7 (l0_7.length : Int) (wrap64 (x8_1 + 1)) l0_0 a0_1 l0_2 a0_3 a0_4 a0_5 l0_6 l0_7) = some r := by rw [if_neg (show ¬ (false = true) by decide)] at H; exact H
       clear H
       have H := H1
       clear H1
       have H' := Aside0.mk H
       clear H
       have p195 : 0 ≤ (x8_1 : Int) := of_decide_eq_true (by first | (with_reducible assumption) | assumption)
       have q195 : x8_1 < (l0_7.length : Int) := of_decide_eq_true (by first | (with_reducible assumption) | assumption)
       obtain ⟨ad195, e195, hx195_0, hx195_1⟩ := at_T35 zQ.1 x8_1 p195 q195
       cases e195
       replace hx195_0 := (HB.1.cell (World.block_lt_of_cell? w _ hx195_0)).trans hx195_0
       replace hx195_1 := (HB.1.cell (World.block_lt_of_cell? w _ hx195_1)).trans hx195_1
       replace p195 := eq_true p195
       replace q195 := eq_true q195
       go_wp2_with (first | ((with_reducible refine zv (N := 4) rfl ?_); (try (refine zu (by rfl) ?_; dsimp only)); refine zt ?hg (N := 4) ?hd (cs := #[.int .i64 0, .int .i64 0]) (t := 35) ?hr ?_; (case hd => rfl); (case hg => rfl); (case hr => first | (go_simp; done) | (go_simp; rfl)); intro gb196 hg w14 hbox hb; have n0_ := Aside0.mk (zl (g := gb194) (o := .cells #[.slice A0_0 l0_0.length c0_0, .int .i64 a0_1, .slice A0_2 l0_2.length c0_2, .int .i64 a0_3, .int .i64 a0_4, .int .i64 a0_5, .slice A0_6 l0_6.length c0_6, .slice (some ad195) l0_7.length c0_7] 53 (0, 0)) (by (with_reducible repeat (first | refine zg ?_ _ | refine zj ?_ | refine zh ?_ _)); exact zF.1) hb); have n1_ := Aside0.mk (zi (by repeat (first | (with_reducible first | exact HB.1 | apply ze | apply zc | apply zd | refine zf ?_ zH.1) | exact HB.1)) hb); have n2_ := Aside0.mk (hbox); have n3_ := Aside0.mk ((by rw [hg]; exact (zk (by repeat (first | (with_reducible first | exact HB.1 | apply ze | apply zc | apply zd | refine zf ?_ zH.1) | exact HB.1))) : w.heap.size ≤ gb196)); have n4_ := Aside0.mk ((by rw [hg]; exact (zk (by repeat (first | (with_reducible first | exact HB.1 | apply ze | apply zc | apply zd | refine zf ?_ zH.1) | exact HB.1))) : w.heap.size ≤ gb196)); have n5_ := Aside0.mk ((by rw [hg]; exact Nat.ne_of_lt (blk_lt (g := gb194) (o := .cells #[.slice A0_0 l0_0.length c0_0, .int .i64 a0_1, .slice A0_2 l0_2.length c0_2, .int .i64 a0_3, .int .i64 a0_4, .int .i64 a0_5, .slice A0_6 l0_6.length c0_6, .slice (some ad195) l0_7.length c0_7] 53 (0, 0)) (by (with_reducible repeat (first | refine zg ?_ _ | refine zj ?_ | refine zh ?_ _)); exact zF.1)) : gb194 ≠ gb196)); have n6_ := Aside0.mk ((by rw [hg]; exact Nat.ne_of_gt (blk_lt (g := gb194) (o := .cells #[.slice A0_0 l0_0.length c0_0, .int .i64 a0_1, .slice A0_2 l0_2.length c0_2, .int .i64 a0_3, .int .i64 a0_4, .int .i64 a0_5, .slice A0_6 l0_6.length c0_6, .slice (some ad195) l0_7.length c0_7] 53 (0, 0)) (by (with_reducible repeat (first | refine zg ?_ _ | refine zj ?_ | refine zh ?_ _)); exact zF.1)) : gb196 ≠ gb194)); clear zF; clear HB; have zF := n0_; have HB := n1_; have zL := n2_; have GW196 := n3_; have zO := n4_; have zK := n5_; have NB196_194 := n6_; clear n0_ n1_ n2_ n3_ n4_ n5_ n6_; clear hb hbox hg; have hnb15 := NB196_194.1; have hnc15 := zK.1; have hcz16_0 : w14.cell? ⟨gb196, 0, none⟩ = some (.int .i64 0) := (zb zL.1 0).trans rfl; have hcz16_1 : w14.cell? ⟨gb196, 1, none⟩ = some (.int .i64 0) := (zb zL.1 1).trans rfl; have hfz16_0 := za zL.1 0; have hfz16_1 := za zL.1 1; have hcz17_0 : w14.cell? ⟨gb194, 0, none⟩ = some (.slice A0_0 l0_0.length c0_0) := (zb zF.1 0).trans rfl; have hcz17_1 : w14.cell? ⟨gb194, 1, none⟩ = some (.int .i64 a0_1) := (zb zF.1 1).trans rfl; have hcz17_2 : w14.cell? ⟨gb194, 2, none⟩ = some (.slice A0_2 l0_2.length c0_2) := (zb zF.1 2).trans rfl; have hcz17_3 : w14.cell? ⟨gb194, 3, none⟩ = some (.int .i64 a0_3) := (zb zF.1 3).trans rfl; have hcz17_4 : w14.cell? ⟨gb194, 4, none⟩ = some (.int .i64 a0_4) := (zb zF.1 4).trans rfl; have hcz17_5 : w14.cell? ⟨gb194, 5, none⟩ = some (.int .i64 a0_5) := (zb zF.1 5).trans rfl; have hcz17_6 : w14.cell? ⟨gb194, 6, none⟩ = some (.slice A0_6 l0_6.length c0_6) := (zb zF.1 6).trans rfl; have hcz17_7 : w14.cell? ⟨gb194, 7, none⟩ = some (.slice (some ad195) l0_7.length c0_7) := (zb zF.1 7).trans rfl; have hfz17_0 := za zF.1 0; have hfz17_1 := za zF.1 1; have hfz17_2 := za zF.1 2; have hfz17_3 := za zF.1 3; have hfz17_4 := za zF.1 4; have hfz17_5 := za zF.1 5; have hfz17_6 := za zF.1 6; have hfz17_7 := za zF.1 7) | ((with_reducible refine zs (f := 69) rfl ?_); refine zC (some 15) rfl rfl Try.func69 (by kernel_rfl) rfl #[.slice A0_0 l0_0.length c0_0, .agg #[.int .i64 ((rd_T35 l0_7 x8_1).f0), .int .i64 ((rd_T35 l0_7 x8_1).f1)]] rfl (by (try simp only [List.map_toArray, List.map_cons, List.map_nil]); first | done | rfl | (simp only [List.length_drop, List.length_take]; rfl)) ?_; (with_reducible refine (spec_l4In.calls k1 _ _ l0_0 ((rd_T35 l0_7 x8_1).f0) ((rd_T35 l0_7 x8_1).f1) false _ ?side1 ?side2 A7.1).mono ?_); (case side1 => exact zm zN.1 (by repeat (first | (with_reducible first | exact HB.1 | apply ze | apply zc | apply zd | refine zf ?_ zH.1 | refine zf ?_ zO.1) | exact HB.1))); (case side2 => exact HC0_0.1); rintro e w18 ⟨rfl, hb⟩; refine ⟨_, rfl, ?_⟩; have n0_ := Aside0.mk (zl (g := gb194) (o := .cells #[.slice A0_0 l0_0.length c0_0, .int .i64 a0_1, .slice A0_2 l0_2.length c0_2, .int .i64 a0_3, .int .i64 a0_4, .int .i64 a0_5, .slice A0_6 l0_6.length c0_6, .slice (some ad195) l0_7.length c0_7] 53 (0, 0)) (by (with_reducible repeat (first | refine zg ?_ _ | refine zj ?_ | refine zh ?_ _)); refine blk_far ?_ zK.1 _; (with_reducible repeat (first | refine zg ?_ _ | refine zj ?_ | refine zh ?_ _)); refine blk_far ?_ zK.1 _; (with_reducible repeat (first | refine zg ?_ _ | refine zj ?_ | refine zh ?_ _)); exact zF.1) hb); have n1_ := Aside0.mk (zl (g := gb196) (o := .cells #[.int .i64 ((rd_T35 l0_7 x8_1).f0), .int .i64 ((rd_T35 l0_7 x8_1).f1)] 35 (0, 0)) (by (with_reducible repeat (first | refine zg ?_ _ | refine zj ?_ | refine zh ?_ _)); refine blk_put (cs := #[.int .i64 ((rd_T35 l0_7 x8_1).f0), .int .i64 0]) ?_ 1 _ rfl; (with_reducible repeat (first | refine zg ?_ _ | refine zj ?_ | refine zh ?_ _)); refine blk_put (cs := #[.int .i64 0, .int .i64 0]) ?_ 0 _ rfl; (with_reducible repeat (first | refine zg ?_ _ | refine zj ?_ | refine zh ?_ _)); exact zL.1) hb); have n2_ := Aside0.mk (zi (by repeat (first | (with_reducible first | exact HB.1 | apply ze | apply zc | apply zd | refine zf ?_ zH.1 | refine zf ?_ zO.1) | exact HB.1)) hb); clear zF; clear zL; clear HB; have zF := n0_; have zL := n1_; have HB := n2_; clear n0_ n1_ n2_; (try clear hb); (try clear hb2); (try clear hk); (try clear hi)))
       go_roundg k1
       case measure => have := HK1.1; omega
       case rel => exact ⟨(wrap64 (x8_1 + 1)), (by first | rfl | (simp; done) | (simp [*]; done)), H', ⟨by have := HK1.1; omega⟩, ⟨by (with_reducible repeat (first | refine zg ?_ _ | refine zj ?_ | refine zh ?_ _)); exact zF.1⟩, ⟨by repeat (first | (with_reducible first | exact HB.1 | apply ze | apply zc | apply zd | refine zf ?_ zH.1 | refine zf ?_ zO.1) | exact HB.1)⟩⟩
     ·
      rw [if_neg c6] at H
      exact absurd H (by simp)
    ·
     rw [if_neg c5] at H
     exact absurd H (by simp)
   ·
    rw [if_neg c4] at H
    have c4b0 : decide (x8_1 < (l0_7.length : Int)) = false := decide_eq_false c4
    clear c4
    replace H := Option.bind_eq_some_iff.mp H
    obtain ⟨t198, A190, H⟩ := H
    replace H : (if t198 = true then ((spec_l4Rising.f k1 l0_7).bind fun t199 => (if t199 = true then ((spec_GoodAttrs.f k1 a0_1 l0_2 a0_3 a0_4 a0_5 l0_6).bind fun t200 => (if t200 = true then (if (l0_7.length : Int) > 0 then (some true) else ((spec_l4Zero.f a0_1 l0_2 a0_3 a0_4 a0_5 l0_6).bind fun t201 => (some t201))) else (some false))) else (some false))) else (some false)) = some r := H
    have A19 := Aside0.mk A190
    clear A190
    by_cases c20 : t198 = true
    ·
     subst c20
     have H1 : ((spec_l4Rising.f k1 l0_7).bind fun t199 => (if t199 = true then ((spec_GoodAttrs.f k1 a0_1 l0_2 a0_3 a0_4 a0_5 l0_6).bind fun t200 => (if t200 = true then (if (l0_7.length : Int) > 0 then (some true) else ((spec_l4Zero.f a0_1 l0_2 a0_3 a0_4 a0_5 l0_6).bind fun t201 => (some t201))) else (some false))) else (some false))) = some r := by rw [if_pos rfl] at H; exact H
     clear H
     have H := H1
     clear H1
     replace H := Option.bind_eq_some_iff.mp H
     obtain ⟨t199, A210, H⟩ := H
     replace H : (if t199 = true then ((spec_GoodAttrs.f k1 a0_1 l0_2 a0_3 a0_4 a0_5 l0_6).bind fun t200 => (if t200 = true then (if (l0_7.length : Int) > 0 then (some true) else ((spec_l4Zero.f a0_1 l0_2 a0_3 a0_4 a0_5 l0_6).bind fun t201 => (some t201))) else (some false))) else (some false)) = some r := H
     have A21 := Aside0.mk A210
     clear A210
     by_cases c22 : t199 = true
     ·
      subst c22
      have H1 : ((spec_GoodAttrs.f k1 a0_1 l0_2 a0_3 a0_4 a0_5 l0_6).bind fun t200 => (if t200 = true then (if (l0_7.length : Int) > 0 then (some true) else ((spec_l4Zero.f a0_1 l0_2 a0_3 a0_4 a0_5 l0_6).bind fun t201 => (some t201))) else (some false))) = some r := by rw [if_pos rfl] at H; exact H
      clear H
      have H := H1
      clear H1
      replace H := Option.bind_eq_some_iff.mp H
      obtain ⟨t200, A230, H⟩ := H
      replace H : (if t200 = true then (if (l0_7.length : Int) > 0 then (some true) else ((spec_l4Zero.f a0_1 l0_2 a0_3 a0_4 a0_5 l0_6).bind fun t201 => (some t201))) else (some false)) = some r := H
      have A23 := Aside0.mk A230
      clear A230
      by_cases c24 : t200 = true
      ·
       subst c24
       have H1 : (if (l0_7.length : Int) > 0 then (some true) else ((spec_l4Zero.f a0_1 l0_2 a0_3 a0_4 a0_5 l0_6).bind fun t201 => (some t201))) = some r := by rw [if_pos rfl] at H; exact H
       clear H
       have H := H1
       clear H1
       by_cases c25 : (l0_7.length : Int) > 0
       ·
        rw [if_pos c25] at H
        have c25b0 : decide (0 < (l0_7.length : Int)) = true := decide_eq_true c25
        have c25b1 : decide (0 < l0_7.length) = true := decide_eq_true (by omega)
        clear c25
        obtain rfl := Option.some.inj H
        have hcz26_0 : wr.cell? ⟨gb194, 0, none⟩ = some (.slice A0_0 l0_0.length c0_0) := (zb zF.1 0).trans rfl
        have hcz26_1 : wr.cell? ⟨gb194, 1, none⟩ = some (.int .i64 a0_1) := (zb zF.1 1).trans rfl
        have hcz26_2 : wr.cell? ⟨gb194, 2, none⟩ = some (.slice A0_2 l0_2.length c0_2) := (zb zF.1 2).trans rfl
        have hcz26_3 : wr.cell? ⟨gb194, 3, none⟩ = some (.int .i64 a0_3) := (zb zF.1 3).trans rfl
        have hcz26_4 : wr.cell? ⟨gb194, 4, none⟩ = some (.int .i64 a0_4) := (zb zF.1 4).trans rfl
        have hcz26_5 : wr.cell? ⟨gb194, 5, none⟩ = some (.int .i64 a0_5) := (zb zF.1 5).trans rfl
        have hcz26_6 : wr.cell? ⟨gb194, 6, none⟩ = some (.slice A0_6 l0_6.length c0_6) := (zb zF.1 6).trans rfl
        have hcz26_7 : wr.cell? ⟨gb194, 7, none⟩ = some (.slice A0_7 l0_7.length c0_7) := (zb zF.1 7).trans rfl
        have hfz26_0 := za zF.1 0
        have hfz26_1 := za zF.1 1
        have hfz26_2 := za zF.1 2
        have hfz26_3 := za zF.1 3
        have hfz26_4 := za zF.1 4
        have hfz26_5 := za zF.1 5
        have hfz26_6 := za zF.1 6
        have hfz26_7 := za zF.1 7
        go_wp2_with (first | ((with_reducible refine zs (f := 70) rfl ?_); refine zC (some 19) rfl rfl Try.func70 (by kernel_rfl) rfl #[.slice A0_0 l0_0.length c0_0] rfl (by (try simp only [List.map_toArray, List.map_cons, List.map_nil]); first | done | rfl | (simp only [List.length_drop, List.length_take]; rfl)) ?_; (with_reducible refine (spec_l4Rising.calls k1 _ _ l0_0 true _ ?side1 ?side2 A19.1).mono ?_); (case side1 => repeat (first | exact (zm zN.1 HB.1) | (with_reducible refine zo ?_ _) | (with_reducible refine zn ?_ _) | (with_reducible refine zp ?_))); (case side2 => exact HC0_0.1); rintro e w27 ⟨rfl, hb⟩; refine ⟨_, rfl, ?_⟩; have n0_ := Aside0.mk (zl (g := gb194) (o := .cells #[.slice A0_0 l0_0.length c0_0, .int .i64 a0_1, .slice A0_2 l0_2.length c0_2, .int .i64 a0_3, .int .i64 a0_4, .int .i64 a0_5, .slice A0_6 l0_6.length c0_6, .slice A0_7 l0_7.length c0_7] 53 (0, 0)) (by (with_reducible repeat (first | refine zg ?_ _ | refine zj ?_ | refine zh ?_ _)); exact zF.1) hb); have n1_ := Aside0.mk (zi (by repeat (first | (with_reducible first | exact HB.1 | apply ze | apply zc | apply zd | refine zf ?_ zH.1) | exact HB.1)) hb); clear zF; clear HB; have zF := n0_; have HB := n1_; clear n0_ n1_; (try clear hb); (try clear hb2); (try clear hk); (try clear hi); have hcz28_0 : w27.cell? ⟨gb194, 0, none⟩ = some (.slice A0_0 l0_0.length c0_0) := (zb zF.1 0).trans rfl; have hcz28_1 : w27.cell? ⟨gb194, 1, none⟩ = some (.int .i64 a0_1) := (zb zF.1 1).trans rfl; have hcz28_2 : w27.cell? ⟨gb194, 2, none⟩ = some (.slice A0_2 l0_2.length c0_2) := (zb zF.1 2).trans rfl; have hcz28_3 : w27.cell? ⟨gb194, 3, none⟩ = some (.int .i64 a0_3) := (zb zF.1 3).trans rfl; have hcz28_4 : w27.cell? ⟨gb194, 4, none⟩ = some (.int .i64 a0_4) := (zb zF.1 4).trans rfl; have hcz28_5 : w27.cell? ⟨gb194, 5, none⟩ = some (.int .i64 a0_5) := (zb zF.1 5).trans rfl; have hcz28_6 : w27.cell? ⟨gb194, 6, none⟩ = some (.slice A0_6 l0_6.length c0_6) := (zb zF.1 6).trans rfl; have hcz28_7 : w27.cell? ⟨gb194, 7, none⟩ = some (.slice A0_7 l0_7.length c0_7) := (zb zF.1 7).trans rfl; have hfz28_0 := za zF.1 0; have hfz28_1 := za zF.1 1; have hfz28_2 := za zF.1 2; have hfz28_3 := za zF.1 3; have hfz28_4 := za zF.1 4; have hfz28_5 := za zF.1 5; have hfz28_6 := za zF.1 6; have hfz28_7 := za zF.1 7) | (go_at_call 70; (with_reducible refine (spec_l4Rising.calls k1 _ _ l0_7 true _ ?side1 ?side2 A21.1).mono ?_); (case side1 => repeat (first | exact (zm zQ.1 HB.1) | (with_reducible refine zo ?_ _) | (with_reducible refine zn ?_ _) | (with_reducible refine zp ?_))); (case side2 => exact HC0_7.1); rintro e w29 ⟨rfl, hb⟩; have n0_ := Aside0.mk (zl (g := gb194) (o := .cells #[.slice A0_0 l0_0.length c0_0, .int .i64 a0_1, .slice A0_2 l0_2.length c0_2, .int .i64 a0_3, .int .i64 a0_4, .int .i64 a0_5, .slice A0_6 l0_6.length c0_6, .slice A0_7 l0_7.length c0_7] 53 (0, 0)) (by (with_reducible repeat (first | refine zg ?_ _ | refine zj ?_ | refine zh ?_ _)); exact zF.1) hb); have n1_ := Aside0.mk (zi (by repeat (first | (with_reducible first | exact HB.1 | apply ze | apply zc | apply zd | refine zf ?_ zH.1) | exact HB.1)) hb); clear zF; clear HB; have zF := n0_; have HB := n1_; clear n0_ n1_; (try clear hb); (try clear hb2); (try clear hk); (try clear hi); have hcz30_0 : w29.cell? ⟨gb194, 0, none⟩ = some (.slice A0_0 l0_0.length c0_0) := (zb zF.1 0).trans rfl; have hcz30_1 : w29.cell? ⟨gb194, 1, none⟩ = some (.int .i64 a0_1) := (zb zF.1 1).trans rfl; have hcz30_2 : w29.cell? ⟨gb194, 2, none⟩ = some (.slice A0_2 l0_2.length c0_2) := (zb zF.1 2).trans rfl; have hcz30_3 : w29.cell? ⟨gb194, 3, none⟩ = some (.int .i64 a0_3) := (zb zF.1 3).trans rfl; have hcz30_4 : w29.cell? ⟨gb194, 4, none⟩ = some (.int .i64 a0_4) := (zb zF.1 4).trans rfl; have hcz30_5 : w29.cell? ⟨gb194, 5, none⟩ = some (.int .i64 a0_5) := (zb zF.1 5).trans rfl; have hcz30_6 : w29.cell? ⟨gb194, 6, none⟩ = some (.slice A0_6 l0_6.length c0_6) := (zb zF.1 6).trans rfl; have hcz30_7 : w29.cell? ⟨gb194, 7, none⟩ = some (.slice A0_7 l0_7.length c0_7) := (zb zF.1 7).trans rfl; have hfz30_0 := za zF.1 0; have hfz30_1 := za zF.1 1; have hfz30_2 := za zF.1 2; have hfz30_3 := za zF.1 3; have hfz30_4 := za zF.1 4; have hfz30_5 := za zF.1 5; have hfz30_6 := za zF.1 6; have hfz30_7 := za zF.1 7) | (go_at_call 13; (with_reducible refine (spec_GoodAttrs.calls k1 a0_1 _ _ l0_2 a0_3 a0_4 a0_5 _ _ l0_6 true _ ?side1 ?side2 ?side3 ?side4 A23.1).mono ?_); (case side1 => repeat (first | exact (zm HR0_2.1 HB.1) | (with_reducible refine zo ?_ _) | (with_reducible refine zn ?_ _) | (with_reducible refine zp ?_))); (case side2 => exact HC0_2.1); (case side3 => repeat (first | exact (zm HR0_6.1 HB.1) | (with_reducible refine zo ?_ _) | (with_reducible refine zn ?_ _) | (with_reducible refine zp ?_))); (case side4 => exact HC0_6.1); rintro e w31 ⟨rfl, hb⟩; have n0_ := Aside0.mk (zl (g := gb194) (o := .cells #[.slice A0_0 l0_0.length c0_0, .int .i64 a0_1, .slice A0_2 l0_2.length c0_2, .int .i64 a0_3, .int .i64 a0_4, .int .i64 a0_5, .slice A0_6 l0_6.length c0_6, .slice A0_7 l0_7.length c0_7] 53 (0, 0)) (by (with_reducible repeat (first | refine zg ?_ _ | refine zj ?_ | refine zh ?_ _)); exact zF.1) hb); have n1_ := Aside0.mk (zi (by repeat (first | (with_reducible first | exact HB.1 | apply ze | apply zc | apply zd | refine zf ?_ zH.1) | exact HB.1)) hb); clear zF; clear HB; have zF := n0_; have HB := n1_; clear n0_ n1_; (try clear hb); (try clear hb2); (try clear hk); (try clear hi); have hcz32_0 : w31.cell? ⟨gb194, 0, none⟩ = some (.slice A0_0 l0_0.length c0_0) := (zb zF.1 0).trans rfl; have hcz32_1 : w31.cell? ⟨gb194, 1, none⟩ = some (.int .i64 a0_1) := (zb zF.1 1).trans rfl; have hcz32_2 : w31.cell? ⟨gb194, 2, none⟩ = some (.slice A0_2 l0_2.length c0_2) := (zb zF.1 2).trans rfl; have hcz32_3 : w31.cell? ⟨gb194, 3, none⟩ = some (.int .i64 a0_3) := (zb zF.1 3).trans rfl; have hcz32_4 : w31.cell? ⟨gb194, 4, none⟩ = some (.int .i64 a0_4) := (zb zF.1 4).trans rfl; have hcz32_5 : w31.cell? ⟨gb194, 5, none⟩ = some (.int .i64 a0_5) := (zb zF.1 5).trans rfl; have hcz32_6 : w31.cell? ⟨gb194, 6, none⟩ = some (.slice A0_6 l0_6.length c0_6) := (zb zF.1 6).trans rfl; have hcz32_7 : w31.cell? ⟨gb194, 7, none⟩ = some (.slice A0_7 l0_7.length c0_7) := (zb zF.1 7).trans rfl; have hfz32_0 := za zF.1 0; have hfz32_1 := za zF.1 1; have hfz32_2 := za zF.1 2; have hfz32_3 := za zF.1 3; have hfz32_4 := za zF.1 4; have hfz32_5 := za zF.1 5; have hfz32_6 := za zF.1 6; have hfz32_7 := za zF.1 7))
        go_ret
        exact ⟨by first | rfl | (simp [errW_none, errW_some] <;> rfl) | (simp [*, errW_none, errW_some] <;> rfl), by repeat (first | (with_reducible first | exact HB.1 | apply ze | apply zc | apply zd | refine zf ?_ zH.1) | exact HB.1)⟩
       ·
        rw [if_neg c25] at H
        have c25b0 : decide (0 < (l0_7.length : Int)) = false := decide_eq_false c25
        have c25b1 : decide (0 < l0_7.length) = false := decide_eq_false (by omega)
        clear c25
        replace H := Option.bind_eq_some_iff.mp H
        obtain ⟨t201, A330, H⟩ := H
        replace H : (some t201) = some r := H
        have A33 := Aside0.mk A330
        clear A330
        obtain rfl := Option.some.inj H
        have hcz34_0 : wr.cell? ⟨gb194, 0, none⟩ = some (.slice A0_0 l0_0.length c0_0) := (zb zF.1 0).trans rfl
        have hcz34_1 : wr.cell? ⟨gb194, 1, none⟩ = some (.int .i64 a0_1) := (zb zF.1 1).trans rfl
        have hcz34_2 : wr.cell? ⟨gb194, 2, none⟩ = some (.slice A0_2 l0_2.length c0_2) := (zb zF.1 2).trans rfl
        have hcz34_3 : wr.cell? ⟨gb194, 3, none⟩ = some (.int .i64 a0_3) := (zb zF.1 3).trans rfl
        have hcz34_4 : wr.cell? ⟨gb194, 4, none⟩ = some (.int .i64 a0_4) := (zb zF.1 4).trans rfl
        have hcz34_5 : wr.cell? ⟨gb194, 5, none⟩ = some (.int .i64 a0_5) := (zb zF.1 5).trans rfl
        have hcz34_6 : wr.cell? ⟨gb194, 6, none⟩ = some (.slice A0_6 l0_6.length c0_6) := (zb zF.1 6).trans rfl
        have hcz34_7 : wr.cell? ⟨gb194, 7, none⟩ = some (.slice A0_7 l0_7.length c0_7) := (zb zF.1 7).trans rfl
        have hfz34_0 := za zF.1 0
        have hfz34_1 := za zF.1 1
        have hfz34_2 := za zF.1 2
        have hfz34_3 := za zF.1 3
        have hfz34_4 := za zF.1 4
        have hfz34_5 := za zF.1 5
        have hfz34_6 := za zF.1 6
        have hfz34_7 := za zF.1 7
        go_wp2_with (first | ((with_reducible refine zs (f := 70) rfl ?_); refine zC (some 19) rfl rfl Try.func70 (by kernel_rfl) rfl #[.slice A0_0 l0_0.length c0_0] rfl (by (try simp only [List.map_toArray, List.map_cons, List.map_nil]); first | done | rfl | (simp only [List.length_drop, List.length_take]; rfl)) ?_; (with_reducible refine (spec_l4Rising.calls k1 _ _ l0_0 true _ ?side1 ?side2 A19.1).mono ?_); (case side1 => repeat (first | exact (zm zN.1 HB.1) | (with_reducible refine zo ?_ _) | (with_reducible refine zn ?_ _) | (with_reducible refine zp ?_))); (case side2 => exact HC0_0.1); rintro e w35 ⟨rfl, hb⟩; refine ⟨_, rfl, ?_⟩; have n0_ := Aside0.mk (zl (g := gb194) (o := .cells #[.slice A0_0 l0_0.length c0_0, .int .i64 a0_1, .slice A0_2 l0_2.length c0_2, .int .i64 a0_3, .int .i64 a0_4, .int .i64 a0_5, .slice A0_6 l0_6.length c0_6, .slice A0_7 l0_7.length c0_7] 53 (0, 0)) (by (with_reducible repeat (first | refine zg ?_ _ | refine zj ?_ | refine zh ?_ _)); exact zF.1) hb); have n1_ := Aside0.mk (zi (by repeat (first | (with_reducible first | exact HB.1 | apply ze | apply zc | apply zd | refine zf ?_ zH.1) | exact HB.1)) hb); clear zF; clear HB; have zF := n0_; have HB := n1_; clear n0_ n1_; (try clear hb); (try clear hb2); (try clear hk); (try clear hi); have hcz36_0 : w35.cell? ⟨gb194, 0, none⟩ = some (.slice A0_0 l0_0.length c0_0) := (zb zF.1 0).trans rfl; have hcz36_1 : w35.cell? ⟨gb194, 1, none⟩ = some (.int .i64 a0_1) := (zb zF.1 1).trans rfl; have hcz36_2 : w35.cell? ⟨gb194, 2, none⟩ = some (.slice A0_2 l0_2.length c0_2) := (zb zF.1 2).trans rfl; have hcz36_3 : w35.cell? ⟨gb194, 3, none⟩ = some (.int .i64 a0_3) := (zb zF.1 3).trans rfl; have hcz36_4 : w35.cell? ⟨gb194, 4, none⟩ = some (.int .i64 a0_4) := (zb zF.1 4).trans rfl; have hcz36_5 : w35.cell? ⟨gb194, 5, none⟩ = some (.int .i64 a0_5) := (zb zF.1 5).trans rfl; have hcz36_6 : w35.cell? ⟨gb194, 6, none⟩ = some (.slice A0_6 l0_6.length c0_6) := (zb zF.1 6).trans rfl; have hcz36_7 : w35.cell? ⟨gb194, 7, none⟩ = some (.slice A0_7 l0_7.length c0_7) := (zb zF.1 7).trans rfl; have hfz36_0 := za zF.1 0; have hfz36_1 := za zF.1 1; have hfz36_2 := za zF.1 2; have hfz36_3 := za zF.1 3; have hfz36_4 := za zF.1 4; have hfz36_5 := za zF.1 5; have hfz36_6 := za zF.1 6; have hfz36_7 := za zF.1 7) | (go_at_call 70; (with_reducible refine (spec_l4Rising.calls k1 _ _ l0_7 true _ ?side1 ?side2 A21.1).mono ?_); (case side1 => repeat (first | exact (zm zQ.1 HB.1) | (with_reducible refine zo ?_ _) | (with_reducible refine zn ?_ _) | (with_reducible refine zp ?_))); (case side2 => exact HC0_7.1); rintro e w37 ⟨rfl, hb⟩; have n0_ := Aside0.mk (zl (g := gb194) (o := .cells #[.slice A0_0 l0_0.length c0_0, .int .i64 a0_1, .slice A0_2 l0_2.length c0_2, .int .i64 a0_3, .int .i64 a0_4, .int .i64 a0_5, .slice A0_6 l0_6.length c0_6, .slice A0_7 l0_7.length c0_7] 53 (0, 0)) (by (with_reducible repeat (first | refine zg ?_ _ | refine zj ?_ | refine zh ?_ _)); exact zF.1) hb); have n1_ := Aside0.mk (zi (by repeat (first | (with_reducible first | exact HB.1 | apply ze | apply zc | apply zd | refine zf ?_ zH.1) | exact HB.1)) hb); clear zF; clear HB; have zF := n0_; have HB := n1_; clear n0_ n1_; (try clear hb); (try clear hb2); (try clear hk); (try clear hi); have hcz38_0 : w37.cell? ⟨gb194, 0, none⟩ = some (.slice A0_0 l0_0.length c0_0) := (zb zF.1 0).trans rfl; have hcz38_1 : w37.cell? ⟨gb194, 1, none⟩ = some (.int .i64 a0_1) := (zb zF.1 1).trans rfl; have hcz38_2 : w37.cell? ⟨gb194, 2, none⟩ = some (.slice A0_2 l0_2.length c0_2) := (zb zF.1 2).trans rfl; have hcz38_3 : w37.cell? ⟨gb194, 3, none⟩ = some (.int .i64 a0_3) := (zb zF.1 3).trans rfl; have hcz38_4 : w37.cell? ⟨gb194, 4, none⟩ = some (.int .i64 a0_4) := (zb zF.1 4).trans rfl; have hcz38_5 : w37.cell? ⟨gb194, 5, none⟩ = some (.int .i64 a0_5) := (zb zF.1 5).trans rfl; have hcz38_6 : w37.cell? ⟨gb194, 6, none⟩ = some (.slice A0_6 l0_6.length c0_6) := (zb zF.1 6).trans rfl; have hcz38_7 : w37.cell? ⟨gb194, 7, none⟩ = some (.slice A0_7 l0_7.length c0_7) := (zb zF.1 7).trans rfl; have hfz38_0 := za zF.1 0; have hfz38_1 := za zF.1 1; have hfz38_2 := za zF.1 2; have hfz38_3 := za zF.1 3; have hfz38_4 := za zF.1 4; have hfz38_5 := za zF.1 5; have hfz38_6 := za zF.1 6; have hfz38_7 := za zF.1 7) | (go_at_call 13; (with_reducible refine (spec_GoodAttrs.calls k1 a0_1 _ _ l0_2 a0_3 a0_4 a0_5 _ _ l0_6 true _ ?side1 ?side2 ?side3 ?side4 A23.1).mono ?_); (case side1 => repeat (first | exact (zm HR0_2.1 HB.1) | (with_reducible refine zo ?_ _) | (with_reducible refine zn ?_ _) | (with_reducible refine zp ?_))); (case side2 => exact HC0_2.1); (case side3 => repeat (first | exact (zm HR0_6.1 HB.1) | (with_reducible refine zo ?_ _) | (with_reducible refine zn ?_ _) | (with_reducible refine zp ?_))); (case side4 => exact HC0_6.1); rintro e w39 ⟨rfl, hb⟩; have n0_ := Aside0.mk (zl (g := gb194) (o := .cells #[.slice A0_0 l0_0.length c0_0, .int .i64 a0_1, .slice A0_2 l0_2.length c0_2, .int .i64 a0_3, .int .i64 a0_4, .int .i64 a0_5, .slice A0_6 l0_6.length c0_6, .slice A0_7 l0_7.length c0_7] 53 (0, 0)) (by (with_reducible repeat (first | refine zg ?_ _ | refine zj ?_ | refine zh ?_ _)); exact zF.1) hb); have n1_ := Aside0.mk (zi (by repeat (first | (with_reducible first | exact HB.1 | apply ze | apply zc | apply zd | refine zf ?_ zH.1) | exact HB.1)) hb); clear zF; clear HB; have zF := n0_; have HB := n1_; clear n0_ n1_; (try clear hb); (try clear hb2); (try clear hk); (try clear hi); have hcz40_0 : w39.cell? ⟨gb194, 0, none⟩ = some (.slice A0_0 l0_0.length c0_0) := (zb zF.1 0).trans rfl; have hcz40_1 : w39.cell? ⟨gb194, 1, none⟩ = some (.int .i64 a0_1) := (zb zF.1 1).trans rfl; have hcz40_2 : w39.cell? ⟨gb194, 2, none⟩ = some (.slice A0_2 l0_2.length c0_2) := (zb zF.1 2).trans rfl; have hcz40_3 : w39.cell? ⟨gb194, 3, none⟩ = some (.int .i64 a0_3) := (zb zF.1 3).trans rfl; have hcz40_4 : w39.cell? ⟨gb194, 4, none⟩ = some (.int .i64 a0_4) := (zb zF.1 4).trans rfl; have hcz40_5 : w39.cell? ⟨gb194, 5, none⟩ = some (.int .i64 a0_5) := (zb zF.1 5).trans rfl; have hcz40_6 : w39.cell? ⟨gb194, 6, none⟩ = some (.slice A0_6 l0_6.length c0_6) := (zb zF.1 6).trans rfl; have hcz40_7 : w39.cell? ⟨gb194, 7, none⟩ = some (.slice A0_7 l0_7.length c0_7) := (zb zF.1 7).trans rfl; have hfz40_0 := za zF.1 0; have hfz40_1 := za zF.1 1; have hfz40_2 := za zF.1 2; have hfz40_3 := za zF.1 3; have hfz40_4 := za zF.1 4; have hfz40_5 := za zF.1 5; have hfz40_6 := za zF.1 6; have hfz40_7 := za zF.1 7) | (go_at_call 71; (with_reducible refine (spec_l4Zero.calls a0_1 _ _ l0_2 a0_3 a0_4 a0_5 _ _ l0_6 t201 _ ?side1 ?side2 ?side3 ?side4 A33.1).mono ?_); (case side1 => repeat (first | exact (zm HR0_2.1 HB.1) | (with_reducible refine zo ?_ _) | (with_reducible refine zn ?_ _) | (with_reducible refine zp ?_))); (case side2 => exact HC0_2.1); (case side3 => repeat (first | exact (zm HR0_6.1 HB.1) | (with_reducible refine zo ?_ _) | (with_reducible refine zn ?_ _) | (with_reducible refine zp ?_))); (case side4 => exact HC0_6.1); rintro e w41 ⟨rfl, hb⟩; have n0_ := Aside0.mk (zl (g := gb194) (o := .cells #[.slice A0_0 l0_0.length c0_0, .int .i64 a0_1, .slice A0_2 l0_2.length c0_2, .int .i64 a0_3, .int .i64 a0_4, .int .i64 a0_5, .slice A0_6 l0_6.length c0_6, .slice A0_7 l0_7.length c0_7] 53 (0, 0)) (by (with_reducible repeat (first | refine zg ?_ _ | refine zj ?_ | refine zh ?_ _)); exact zF.1) hb); have n1_ := Aside0.mk (zi (by repeat (first | (with_reducible first | exact HB.1 | apply ze | apply zc | apply zd | refine zf ?_ zH.1) | exact HB.1)) hb); clear zF; clear HB; have zF := n0_; have HB := n1_; clear n0_ n1_; (try clear hb); (try clear hb2); (try clear hk); (try clear hi)))
        go_ret
        exact ⟨by first | rfl | (simp [errW_none, errW_some] <;> rfl) | (simp [*, errW_none, errW_some] <;> rfl), by repeat (first | (with_reducible first | exact HB.1 | apply ze | apply zc | apply zd | refine zf ?_ zH.1) | exact HB.1)⟩
      ·
       replace c24 := Bool.eq_false_iff.mpr c24
       subst c24
       have H1 : (some false) = some r := by rw [if_neg (show ¬ (false = true) by decide)] at H; exact H
       clear H
       have H := H1
       clear H1
       obtain rfl := Option.some.inj H
       have hcz42_0 : wr.cell? ⟨gb194, 0, none⟩ = some (.slice A0_0 l0_0.length c0_0) := (zb zF.1 0).trans rfl
       have hcz42_1 : wr.cell? ⟨gb194, 1, none⟩ = some (.int .i64 a0_1) := (zb zF.1 1).trans rfl
       have hcz42_2 : wr.cell? ⟨gb194, 2, none⟩ = some (.slice A0_2 l0_2.length c0_2) := (zb zF.1 2).trans rfl
       have hcz42_3 : wr.cell? ⟨gb194, 3, none⟩ = some (.int .i64 a0_3) := (zb zF.1 3).trans rfl
       have hcz42_4 : wr.cell? ⟨gb194, 4, none⟩ = some (.int .i64 a0_4) := (zb zF.1 4).trans rfl
       have hcz42_5 : wr.cell? ⟨gb194, 5, none⟩ = some (.int .i64 a0_5) := (zb zF.1 5).trans rfl
       have hcz42_6 : wr.cell? ⟨gb194, 6, none⟩ = some (.slice A0_6 l0_6.length c0_6) := (zb zF.1 6).trans rfl
       have hcz42_7 : wr.cell? ⟨gb194, 7, none⟩ = some (.slice A0_7 l0_7.length c0_7) := (zb zF.1 7).trans rfl
       have hfz42_0 := za zF.1 0
       have hfz42_1 := za zF.1 1
       have hfz42_2 := za zF.1 2
       have hfz42_3 := za zF.1 3
       have hfz42_4 := za zF.1 4
       have hfz42_5 := za zF.1 5
       have hfz42_6 := za zF.1 6
       have hfz42_7 := za zF.1 7
       go_wp2_with (first | ((with_reducible refine zs (f := 70) rfl ?_); refine zC (some 19) rfl rfl Try.func70 (by kernel_rfl) rfl #[.slice A0_0 l0_0.length c0_0] rfl (by (try simp only [List.map_toArray, List.map_cons, List.map_nil]); first | done | rfl | (simp only [List.length_drop, List.length_take]; rfl)) ?_; (with_reducible refine (spec_l4Rising.calls k1 _ _ l0_0 true _ ?side1 ?side2 A19.1).mono ?_); (case side1 => repeat (first | exact (zm zN.1 HB.1) | (with_reducible refine zo ?_ _) | (with_reducible refine zn ?_ _) | (with_reducible refine zp ?_))); (case side2 => exact HC0_0.1); rintro e w43 ⟨rfl, hb⟩; refine ⟨_, rfl, ?_⟩; have n0_ := Aside0.mk (zl (g := gb194) (o := .cells #[.slice A0_0 l0_0.length c0_0, .int .i64 a0_1, .slice A0_2 l0_2.length c0_2, .int .i64 a0_3, .int .i64 a0_4, .int .i64 a0_5, .slice A0_6 l0_6.length c0_6, .slice A0_7 l0_7.length c0_7] 53 (0, 0)) (by (with_reducible repeat (first | refine zg ?_ _ | refine zj ?_ | refine zh ?_ _)); exact zF.1) hb); have n1_ := Aside0.mk (zi (by repeat (first | (with_reducible first | exact HB.1 | apply ze | apply zc | apply zd | refine zf ?_ zH.1) | exact HB.1)) hb); clear zF; clear HB; have zF := n0_; have HB := n1_; clear n0_ n1_; (try clear hb); (try clear hb2); (try clear hk); (try clear hi); have hcz44_0 : w43.cell? ⟨gb194, 0, none⟩ = some (.slice A0_0 l0_0.length c0_0) := (zb zF.1 0).trans rfl; have hcz44_1 : w43.cell? ⟨gb194, 1, none⟩ = some (.int .i64 a0_1) := (zb zF.1 1).trans rfl; have hcz44_2 : w43.cell? ⟨gb194, 2, none⟩ = some (.slice A0_2 l0_2.length c0_2) := (zb zF.1 2).trans rfl; have hcz44_3 : w43.cell? ⟨gb194, 3, none⟩ = some (.int .i64 a0_3) := (zb zF.1 3).trans rfl; have hcz44_4 : w43.cell? ⟨gb194, 4, none⟩ = some (.int .i64 a0_4) := (zb zF.1 4).trans rfl; have hcz44_5 : w43.cell? ⟨gb194, 5, none⟩ = some (.int .i64 a0_5) := (zb zF.1 5).trans rfl; have hcz44_6 : w43.cell? ⟨gb194, 6, none⟩ = some (.slice A0_6 l0_6.length c0_6) := (zb zF.1 6).trans rfl; have hcz44_7 : w43.cell? ⟨gb194, 7, none⟩ = some (.slice A0_7 l0_7.length c0_7) := (zb zF.1 7).trans rfl; have hfz44_0 := za zF.1 0; have hfz44_1 := za zF.1 1; have hfz44_2 := za zF.1 2; have hfz44_3 := za zF.1 3; have hfz44_4 := za zF.1 4; have hfz44_5 := za zF.1 5; have hfz44_6 := za zF.1 6; have hfz44_7 := za zF.1 7) | (go_at_call 70; (with_reducible refine (spec_l4Rising.calls k1 _ _ l0_7 true _ ?side1 ?side2 A21.1).mono ?_); (case side1 => repeat (first | exact (zm zQ.1 HB.1) | (with_reducible refine zo ?_ _) | (with_reducible refine zn ?_ _) | (with_reducible refine zp ?_))); (case side2 => exact HC0_7.1); rintro e w45 ⟨rfl, hb⟩; have n0_ := Aside0.mk (zl (g := gb194) (o := .cells #[.slice A0_0 l0_0.length c0_0, .int .i64 a0_1, .slice A0_2 l0_2.length c0_2, .int .i64 a0_3, .int .i64 a0_4, .int .i64 a0_5, .slice A0_6 l0_6.length c0_6, .slice A0_7 l0_7.length c0_7] 53 (0, 0)) (by (with_reducible repeat (first | refine zg ?_ _ | refine zj ?_ | refine zh ?_ _)); exact zF.1) hb); have n1_ := Aside0.mk (zi (by repeat (first | (with_reducible first | exact HB.1 | apply ze | apply zc | apply zd | refine zf ?_ zH.1) | exact HB.1)) hb); clear zF; clear HB; have zF := n0_; have HB := n1_; clear n0_ n1_; (try clear hb); (try clear hb2); (try clear hk); (try clear hi); have hcz46_0 : w45.cell? ⟨gb194, 0, none⟩ = some (.slice A0_0 l0_0.length c0_0) := (zb zF.1 0).trans rfl; have hcz46_1 : w45.cell? ⟨gb194, 1, none⟩ = some (.int .i64 a0_1) := (zb zF.1 1).trans rfl; have hcz46_2 : w45.cell? ⟨gb194, 2, none⟩ = some (.slice A0_2 l0_2.length c0_2) := (zb zF.1 2).trans rfl; have hcz46_3 : w45.cell? ⟨gb194, 3, none⟩ = some (.int .i64 a0_3) := (zb zF.1 3).trans rfl; have hcz46_4 : w45.cell? ⟨gb194, 4, none⟩ = some (.int .i64 a0_4) := (zb zF.1 4).trans rfl; have hcz46_5 : w45.cell? ⟨gb194, 5, none⟩ = some (.int .i64 a0_5) := (zb zF.1 5).trans rfl; have hcz46_6 : w45.cell? ⟨gb194, 6, none⟩ = some (.slice A0_6 l0_6.length c0_6) := (zb zF.1 6).trans rfl; have hcz46_7 : w45.cell? ⟨gb194, 7, none⟩ = some (.slice A0_7 l0_7.length c0_7) := (zb zF.1 7).trans rfl; have hfz46_0 := za zF.1 0; have hfz46_1 := za zF.1 1; have hfz46_2 := za zF.1 2; have hfz46_3 := za zF.1 3; have hfz46_4 := za zF.1 4; have hfz46_5 := za zF.1 5; have hfz46_6 := za zF.1 6; have hfz46_7 := za zF.1 7) | (go_at_call 13; (with_reducible refine (spec_GoodAttrs.calls k1 a0_1 _ _ l0_2 a0_3 a0_4 a0_5 _ _ l0_6 false _ ?side1 ?side2 ?side3 ?side4 A23.1).mono ?_); (case side1 => repeat (first | exact (zm HR0_2.1 HB.1) | (with_reducible refine zo ?_ _) | (with_reducible refine zn ?_ _) | (with_reducible refine zp ?_))); (case side2 => exact HC0_2.1); (case side3 => repeat (first | exact (zm HR0_6.1 HB.1) | (with_reducible refine zo ?_ _) | (with_reducible refine zn ?_ _) | (with_reducible refine zp ?_))); (case side4 => exact HC0_6.1); rintro e w47 ⟨rfl, hb⟩; have n0_ := Aside0.mk (zl (g := gb194) (o := .cells #[.slice A0_0 l0_0.length c0_0, .int .i64 a0_1, .slice A0_2 l0_2.length c0_2, .int .i64 a0_3, .int .i64 a0_4, .int .i64 a0_5, .slice A0_6 l0_6.length c0_6, .slice A0_7 l0_7.length c0_7] 53 (0, 0)) (by (with_reducible repeat (first | refine zg ?_ _ | refine zj ?_ | refine zh ?_ _)); exact zF.1) hb); have n1_ := Aside0.mk (zi (by repeat (first | (with_reducible first | exact HB.1 | apply ze | apply zc | apply zd | refine zf ?_ zH.1) | exact HB.1)) hb); clear zF; clear HB; have zF := n0_; have HB := n1_; clear n0_ n1_; (try clear hb); (try clear hb2); (try clear hk); (try clear hi)))
       go_ret
       exact ⟨by first | rfl | (simp [errW_none, errW_some] <;> rfl) | (simp [*, errW_none, errW_some] <;> rfl), by repeat (first | (with_reducible first | exact HB.1 | apply ze | apply zc | apply zd | refine zf ?_ zH.1) | exact HB.1)⟩
     ·
      replace c22 := Bool.eq_false_iff.mpr c22
      subst c22
      have H1 : (some false) = some r := by rw [if_neg (show ¬ (false = true) by decide)] at H; exact H
      clear H
      have H := H1
      clear H1
      obtain rfl := Option.some.inj H
      have hcz48_0 : wr.cell? ⟨gb194, 0, none⟩ = some (.slice A0_0 l0_0.length c0_0) := (zb zF.1 0).trans rfl
      have hcz48_1 : wr.cell? ⟨gb194, 1, none⟩ = some (.int .i64 a0_1) := (zb zF.1 1).trans rfl
      have hcz48_2 : wr.cell? ⟨gb194, 2, none⟩ = some (.slice A0_2 l0_2.length c0_2) := (zb zF.1 2).trans rfl
      have hcz48_3 : wr.cell? ⟨gb194, 3, none⟩ = some (.int .i64 a0_3) := (zb zF.1 3).trans rfl
      have hcz48_4 : wr.cell? ⟨gb194, 4, none⟩ = some (.int .i64 a0_4) := (zb zF.1 4).trans rfl
      have hcz48_5 : wr.cell? ⟨gb194, 5, none⟩ = some (.int .i64 a0_5) := (zb zF.1 5).trans rfl
      have hcz48_6 : wr.cell? ⟨gb194, 6, none⟩ = some (.slice A0_6 l0_6.length c0_6) := (zb zF.1 6).trans rfl
      have hcz48_7 : wr.cell? ⟨gb194, 7, none⟩ = some (.slice A0_7 l0_7.length c0_7) := (zb zF.1 7).trans rfl
      have hfz48_0 := za zF.1 0
      have hfz48_1 := za zF.1 1
      have hfz48_2 := za zF.1 2
      have hfz48_3 := za zF.1 3
      have hfz48_4 := za zF.1 4
      have hfz48_5 := za zF.1 5
      have hfz48_6 := za zF.1 6
      have hfz48_7 := za zF.1 7
      go_wp2_with (first | ((with_reducible refine zs (f := 70) rfl ?_); refine zC (some 19) rfl rfl Try.func70 (by kernel_rfl) rfl #[.slice A0_0 l0_0.length c0_0] rfl (by (try simp only [List.map_toArray, List.map_cons, List.map_nil]); first | done | rfl | (simp only [List.length_drop, List.length_take]; rfl)) ?_; (with_reducible refine (spec_l4Rising.calls k1 _ _ l0_0 true _ ?side1 ?side2 A19.1).mono ?_); (case side1 => repeat (first | exact (zm zN.1 HB.1) | (with_reducible refine zo ?_ _) | (with_reducible refine zn ?_ _) | (with_reducible refine zp ?_))); (case side2 => exact HC0_0.1); rintro e w49 ⟨rfl, hb⟩; refine ⟨_, rfl, ?_⟩; have n0_ := Aside0.mk (zl (g := gb194) (o := .cells #[.slice A0_0 l0_0.length c0_0, .int .i64 a0_1, .slice A0_2 l0_2.length c0_2, .int .i64 a0_3, .int .i64 a0_4, .int .i64 a0_5, .slice A0_6 l0_6.length c0_6, .slice A0_7 l0_7.length c0_7] 53 (0, 0)) (by (with_reducible repeat (first | refine zg ?_ _ | refine zj ?_ | refine zh ?_ _)); exact zF.1) hb); have n1_ := Aside0.mk (zi (by repeat (first | (with_reducible first | exact HB.1 | apply ze | apply zc | apply zd | refine zf ?_ zH.1) | exact HB.1)) hb); clear zF; clear HB; have zF := n0_; have HB := n1_; clear n0_ n1_; (try clear hb); (try clear hb2); (try clear hk); (try clear hi); have hcz50_0 : w49.cell? ⟨gb194, 0, none⟩ = some (.slice A0_0 l0_0.length c0_0) := (zb zF.1 0).trans rfl; have hcz50_1 : w49.cell? ⟨gb194, 1, none⟩ = some (.int .i64 a0_1) := (zb zF.1 1).trans rfl; have hcz50_2 : w49.cell? ⟨gb194, 2, none⟩ = some (.slice A0_2 l0_2.length c0_2) := (zb zF.1 2).trans rfl; have hcz50_3 : w49.cell? ⟨gb194, 3, none⟩ = some (.int .i64 a0_3) := (zb zF.1 3).trans rfl; have hcz50_4 : w49.cell? ⟨gb194, 4, none⟩ = some (.int .i64 a0_4) := (zb zF.1 4).trans rfl; have hcz50_5 : w49.cell? ⟨gb194, 5, none⟩ = some (.int .i64 a0_5) := (zb zF.1 5).trans rfl; have hcz50_6 : w49.cell? ⟨gb194, 6, none⟩ = some (.slice A0_6 l0_6.length c0_6) := (zb zF.1 6).trans rfl; have hcz50_7 : w49.cell? ⟨gb194, 7, none⟩ = some (.slice A0_7 l0_7.length c0_7) := (zb zF.1 7).trans rfl; have hfz50_0 := za zF.1 0; have hfz50_1 := za zF.1 1; have hfz50_2 := za zF.1 2; have hfz50_3 := za zF.1 3; have hfz50_4 := za zF.1 4; have hfz50_5 := za zF.1 5; have hfz50_6 := za zF.1 6; have hfz50_7 := za zF.1 7) | (go_at_call 70; (with_reducible refine (spec_l4Rising.calls k1 _ _ l0_7 false _ ?side1 ?side2 A21.1).mono ?_); (case side1 => repeat (first | exact (zm zQ.1 HB.1) | (with_reducible refine zo ?_ _) | (with_reducible refine zn ?_ _) | (with_reducible refine zp ?_))); (case side2 => exact HC0_7.1); rintro e w51 ⟨rfl, hb⟩; have n0_ := Aside0.mk (zl (g := gb194) (o := .cells #[.slice A0_0 l0_0.length c0_0, .int .i64 a0_1, .slice A0_2 l0_2.length c0_2, .int .i64 a0_3, .int .i64 a0_4, .int .i64 a0_5, .slice A0_6 l0_6.length c0_6, .slice A0_7 l0_7.length c0_7] 53 (0, 0)) (by (with_reducible repeat (first | refine zg ?_ _ | refine zj ?_ | refine zh ?_ _)); exact zF.1) hb); have n1_ := Aside0.mk (zi (by repeat (first | (with_reducible first | exact HB.1 | apply ze | apply zc | apply zd | refine zf ?_ zH.1) | exact HB.1)) hb); clear zF; clear HB; have zF := n0_; have HB := n1_; clear n0_ n1_; (try clear hb); (try clear hb2); (try clear hk); (try clear hi)))
      go_ret
      exact ⟨by first | rfl | (simp [errW_none, errW_some] <;> rfl) | (simp [*, errW_none, errW_some] <;> rfl), by repeat (first | (with_reducible first | exact HB.1 | apply ze | apply zc | apply zd | refine zf ?_ zH.1) | exact HB.1)⟩
    ·
     replace c20 := Bool.eq_false_iff.mpr c20
     subst c20
     have H1 : (some false) = some r := by rw [if_neg (show ¬ (false = true) by decide)] at H; exact H
     clear H
     have H := H1
     clear H1
     obtain rfl := Option.some.inj H
     have hcz52_0 : wr.cell? ⟨gb194, 0, none⟩ = some (.slice A0_0 l0_0.length c0_0) := (zb zF.1 0).trans rfl
     have hcz52_1 : wr.cell? ⟨gb194, 1, none⟩ = some (.int .i64 a0_1) := (zb zF.1 1).trans rfl
     have hcz52_2 : wr.cell? ⟨gb194, 2, none⟩ = some (.slice A0_2 l0_2.length c0_2) := (zb zF.1 2).trans rfl
     have hcz52_3 : wr.cell? ⟨gb194, 3, none⟩ = some (.int .i64 a0_3) := (zb zF.1 3).trans rfl
     have hcz52_4 : wr.cell? ⟨gb194, 4, none⟩ = some (.int .i64 a0_4) := (zb zF.1 4).trans rfl
     have hcz52_5 : wr.cell? ⟨gb194, 5, none⟩ = some (.int .i64 a0_5) := (zb zF.1 5).trans rfl
     have hcz52_6 : wr.cell? ⟨gb194, 6, none⟩ = some (.slice A0_6 l0_6.length c0_6) := (zb zF.1 6).trans rfl
     have hcz52_7 : wr.cell? ⟨gb194, 7, none⟩ = some (.slice A0_7 l0_7.length c0_7) := (zb zF.1 7).trans rfl
     have hfz52_0 := za zF.1 0
     have hfz52_1 := za zF.1 1
     have hfz52_2 := za zF.1 2
     have hfz52_3 := za zF.1 3
     have hfz52_4 := za zF.1 4
     have hfz52_5 := za zF.1 5
     have hfz52_6 := za zF.1 6
     have hfz52_7 := za zF.1 7
     go_wp2_with (first | ((with_reducible refine zs (f := 70) rfl ?_); refine zC (some 19) rfl rfl Try.func70 (by kernel_rfl) rfl #[.slice A0_0 l0_0.length c0_0] rfl (by (try simp only [List.map_toArray, List.map_cons, List.map_nil]); first | done | rfl | (simp only [List.length_drop, List.length_take]; rfl)) ?_; (with_reducible refine (spec_l4Rising.calls k1 _ _ l0_0 false _ ?side1 ?side2 A19.1).mono ?_); (case side1 => repeat (first | exact (zm zN.1 HB.1) | (with_reducible refine zo ?_ _) | (with_reducible refine zn ?_ _) | (with_reducible refine zp ?_))); (case side2 => exact HC0_0.1); rintro e w53 ⟨rfl, hb⟩; refine ⟨_, rfl, ?_⟩; have n0_ := Aside0.mk (zl (g := gb194) (o := .cells #[.slice A0_0 l0_0.length c0_0, .int .i64 a0_1, .slice A0_2 l0_2.length c0_2, .int .i64 a0_3, .int .i64 a0_4, .int .i64 a0_5, .slice A0_6 l0_6.length c0_6, .slice A0_7 l0_7.length c0_7] 53 (0, 0)) (by (with_reducible repeat (first | refine zg ?_ _ | refine zj ?_ | refine zh ?_ _)); exact zF.1) hb); have n1_ := Aside0.mk (zi (by repeat (first | (with_reducible first | exact HB.1 | apply ze | apply zc | apply zd | refine zf ?_ zH.1) | exact HB.1)) hb); clear zF; clear HB; have zF := n0_; have HB := n1_; clear n0_ n1_; (try clear hb); (try clear hb2); (try clear hk); (try clear hi)))
     go_ret
     exact ⟨by first | rfl | (simp [errW_none, errW_some] <;> rfl) | (simp [*, errW_none, errW_some] <;> rfl), by repeat (first | (with_reducible first | exact HB.1 | apply ze | apply zc | apply zd | refine zf ?_ zH.1) | exact HB.1)⟩

/-! ### spec_l4Bytes: function 102 -/
def spec_l4Bytes.l0 : Nat → Int → List Int → Int → Option (ByteArray)
 | 0, _, _, _ => none
 | k + 1, x0, x5, x6 => if x6 ≥ 0 then (if 0 ≤ x6 then (if x6 < (x5.length : Int) then (spec_l4Bytes.l0 k (x0 / 256) (x5.set (x6 : Int).toNat ((x0) % 256)) (wrap64 (x6 - 1))) else (none)) else (none)) else (some (strOfNums x5))
def spec_l4Bytes.f (k : Nat) (a0 : Int) (a1 : Int) : Option (ByteArray) := if 0 ≤ a1 then (if (a1 : Int).toNat ≤ 281474976710656 then (spec_l4Bytes.l0 k a0 (List.replicate (a1 : Int).toNat 0) (wrap64 (a1 - 1))) else (none)) else (none)
theorem spec_l4Bytes.mono_l : ∀ k, (∀ y0 y1 y2, LeO (spec_l4Bytes.l0 k y0 y1 y2) (spec_l4Bytes.l0 (k + 1) y0 y1 y2))
 | 0 => fun _ _ _ r h => by simp [spec_l4Bytes.l0] at h
 | k + 1 => by
  have ih0 := spec_l4Bytes.mono_l k
  ·
   intro y0 y1 y2
   unfold spec_l4Bytes.l0
   repeat' first
   | (with_reducible exact ih0 _ _ _)
   | (with_reducible exact zA _)
   | (with_reducible exact zq _)
   | (with_reducible refine zw ?_ ?_)
   | (with_reducible refine zr ?_ (fun _ => ?_))
   | exact ih0 _ _ _
   | exact zq _
   | refine zw ?_ ?_
   | refine zr ?_ (fun _ => ?_)
theorem spec_l4Bytes.mono : ∀ a0 a1 k, LeO (spec_l4Bytes.f k a0 a1) (spec_l4Bytes.f (k + 1) a0 a1) := by
 intro a0 a1 k
 have ih0 := spec_l4Bytes.mono_l k
 unfold spec_l4Bytes.f
 repeat' first
   | (with_reducible exact ih0 _ _ _)
   | (with_reducible exact zA _)
   | (with_reducible exact zq _)
   | (with_reducible refine zw ?_ ?_)
   | (with_reducible refine zr ?_ (fun _ => ?_))
   | exact ih0 _ _ _
   | exact zq _
   | refine zw ?_ ?_
   | refine zr ?_ (fun _ => ?_)
set_option maxHeartbeats 8000000 in
set_option maxRecDepth 100000 in
theorem spec_l4Bytes.calls (k : Nat) (a0 : Int) (a1 : Int) (r : ByteArray) (w : World) (h : spec_l4Bytes.f k a0 a1 = some r) :
  Calls Try.prog 102 #[.int .i64 a0, .int .i64 a1] w fun e w' => e = .returned (.string r) ∧ Below w.heap.size w w' := by
 have HB := Aside0.mk (Below.refl w.heap.size w)
 have H : (if 0 ≤ a1 then (if (a1 : Int).toNat ≤ 281474976710656 then (spec_l4Bytes.l0 k a0 (List.replicate (a1 : Int).toNat 0) (wrap64 (a1 - 1))) else (none)) else (none)) = some r := h
 clear h
 by_cases c3 : 0 ≤ a1
 ·
  rw [if_pos c3] at H
  have c3b0 := eq_true c3
  have c3b1 : decide (0 ≤ a1) = true := decide_eq_true c3
  clear c3
  by_cases c4 : (a1 : Int).toNat ≤ 281474976710656
  ·
   rw [if_pos c4] at H
   have c4b0 := eq_true c4
   have c4b1 : decide ((a1 : Int).toNat ≤ 281474976710656) = true := decide_eq_true c4
   clear c4
   obtain ⟨y202, hy202⟩ : ∃ y_ : List Int, y_ = (List.replicate (a1 : Int).toNat 0) := ⟨_, rfl⟩
   replace H : (spec_l4Bytes.l0 k a0 y202 (wrap64 (a1 - 1))) = some r := by first | (rw [hy202]; with_reducible exact H) | (have H2_ := (Option.bind_some _ _).symm.trans H; rw [hy202]; with_reducible exact H2_) | (have H2_ := (Option.bind_some _ _).symm.trans H; with_reducible exact H2_) | with_reducible exact H | (rw [hy202]; exact H) | exact H
   have Ny202 := Aside0.mk hy202
   clear hy202
   have H' := Aside0.mk H
   clear H
   go_enter Try.func102, Try.ntmps102
   go_wp2_with (first | ((with_reducible refine zv (N := 8) rfl ?_); refine Kd.R_make (zE .u8) _ 5 rfl (N := 8) rfl 62 _ _ rfl a1 rfl rfl Try.underlying62 (.int .u8 0) 1 info5 rfl (by decide) (by omega) 0 (ok := fun _ => True) (okp := fun _ => True) rfl (fun _ hk => hk) trivial (of_decide_eq_true (by first | (with_reducible assumption) | assumption)) (Nat.le_trans (Nat.mul_le_mul_right _ (of_decide_eq_true (by first | (with_reducible assumption) | assumption) : a1.toNat ≤ 281474976710656)) (by omega)) (Below.refl _ _) (Nat.le_refl _) ?_; intro v203 w5 ho6 hb hg_ hnew_; clear hg_ hnew_; (first | rw [← Ny202.1] at ho6 | (simp only [Int.reduceToNat] at ho6; rw [← Ny202.1] at ho6)); have n0_ := Aside0.mk (Kd.R_lower ho6 (zk (by repeat (first | (with_reducible first | exact HB.1 | apply ze | apply zc | apply zd) | exact HB.1)))); have n1_ := Aside0.mk (zi (by repeat (first | (with_reducible first | exact HB.1 | apply ze | apply zc | apply zd) | exact HB.1)) hb); clear HB; have HO204 := n0_; have HB := n1_; clear n0_ n1_; clear hb ho6))
   go_loopg [0, 6] k (fun kq v0 v6 w' => ∃ (x0_1 : Int) (x5_1 : List Int) (x6_1 : Int), v0 = .int .i64 x0_1 ∧ v6 = .int .i64 x6_1 ∧ zx (spec_l4Bytes.l0 kq x0_1 x5_1 x6_1 = some r) ∧ zx (kq ≤ k) ∧ zx (Kd.R (zE .u8) 5 w' w.heap.size (fun _ => True) v203 x5_1) ∧ zx (Below w.heap.size w w'))
   case atStart => exact ⟨(a0), (y202), (wrap64 (a1 - 1)), (by first | rfl | (simp; done) | (simp [*]; done)), (by first | rfl | (simp; done) | (simp [*]; done)), H', ⟨Nat.le_refl _⟩, ⟨by (with_reducible repeat (first | apply Kd.R_alloc | apply Kd.R_drewN | apply Kd.R_drew)); exact HO204.1⟩, ⟨by repeat (first | (with_reducible first | exact HB.1 | apply ze | apply zc | apply zd) | exact HB.1)⟩⟩
   case round =>
    clear H'
    (try clear c1); (try clear p2); (try clear c3); (try clear c3b0); (try clear c3b1); (try clear c4); (try clear c4b0); (try clear c4b1); (try clear p6)
    obtain ⟨x0_1, x5_1, x6_1, rfl, rfl, HA, HK1, HO_5, HB⟩ := hrel
    cases gk with
    | zero => exact absurd HA.1 (by simp [spec_l4Bytes.l0])
    | succ k1 =>
     have H := HA.1
     clear HA
     simp only [spec_l4Bytes.l0] at H
     by_cases c7 : x6_1 ≥ 0
     ·
      rw [if_pos c7] at H
      have c7b0 : decide (0 ≤ x6_1) = true := decide_eq_true c7
      clear c7
      by_cases c8 : 0 ≤ x6_1
      ·
       rw [if_pos c8] at H
       have c8b0 : decide (0 ≤ x6_1) = true := decide_eq_true c8
       clear c8
       by_cases c9 : x6_1 < (x5_1.length : Int)
       ·
        rw [if_pos c9] at H
        have c9b0 : decide (x6_1 < (x5_1.length : Int)) = true := decide_eq_true c9
        clear c9
        obtain ⟨y205, hy205⟩ : ∃ y_ : List Int, y_ = (x5_1.set (x6_1 : Int).toNat ((x0_1) % 256)) := ⟨_, rfl⟩
        replace H : (spec_l4Bytes.l0 k1 (x0_1 / 256) y205 (wrap64 (x6_1 - 1))) = some r := by first | (rw [hy205]; with_reducible exact H) | (have H2_ := (Option.bind_some _ _).symm.trans H; rw [hy205]; with_reducible exact H2_) | (have H2_ := (Option.bind_some _ _).symm.trans H; with_reducible exact H2_) | with_reducible exact H | (rw [hy205]; exact H) | exact H
        have Ny205 := Aside0.mk hy205
        clear hy205
        have H' := Aside0.mk H
        clear H
        have p10 : 0 ≤ (x6_1 : Int) := of_decide_eq_true (by first | (with_reducible assumption) | assumption)
        have q10 : (x6_1 : Int) < ((x5_1.length : Int) : Int) := of_decide_eq_true (by first | (with_reducible assumption) | assumption)
        obtain ⟨go10, co10, eo10, gb10, gl10, cl10, HG10⟩ := Kd.R_form HO_5.1 (by omega)
        (first | cases eo10 | (injection eo10 with ea_ en_ ec_; (first | subst ea_ | (injection ea_ with ea_; subst ea_)); subst ec_; clear en_))
        have GB10 := Aside0.mk gb10
        have GG10 := Aside0.mk HG10
        clear gb10 gl10 HG10
        obtain ⟨hx10_0, hf10_0⟩ := Kd.R_celln 0 HO_5.1 (x6_1 : Int) p10 q10
        replace p10 := eq_true p10
        replace q10 := eq_true q10
        have HP11 := Kd.R_putg HO_5.1 (x6_1 : Int) ((x0_1) % 256)
        go_wp2_with (first | ((with_reducible refine gate_store (t := 5) (p := 19) rfl ?_); refine store_event (t := 5) (p := 19) (v := ?vo_w12) (w1 := (wr.setCell ⟨go10, (x6_1 : Int).toNat, none⟩ (.int .u8 ((x0_1) % 256)))) ?hg ?ho ?hn ?hr ?_; (case ho => rfl); (case hg => rfl); (case hn => rfl); (case hr => first | (go_simp; done) | (go_simp; rfl)); intro w12 hw; have hg : wr.grownBy w12 (some go10) := (by rw [hw]; exact HP11.2); have hp_ : Kd.R (zE .u8) 5 w12 w.heap.size (fun _ => True) (.slice (some ⟨go10, 0, none⟩) x5_1.length co10) y205 := (by rw [hw, Ny205.1]; exact HP11.1); clear HP11; have n0_ := Aside0.mk (hp_); have n1_ := Aside0.mk ((by rw [hw]; exact zf (HB.1) GB10.1 : Below w.heap.size w w12)); clear HO_5; clear HB; have HO_5 := n0_; have HB := n1_; clear n0_ n1_; clear hg hw hp_))
        go_roundg k1
        case measure => have := HK1.1; omega
        case rel => exact ⟨(x0_1 / 256), (y205), (wrap64 (x6_1 - 1)), (by first | rfl | (simp; done) | (simp [*]; done)), (by first | rfl | (simp; done) | (simp [*]; done)), H', ⟨by have := HK1.1; omega⟩, ⟨by (with_reducible repeat (first | apply Kd.R_alloc | apply Kd.R_drewN | apply Kd.R_drew)); exact HO_5.1⟩, ⟨by repeat (first | (with_reducible first | exact HB.1 | apply ze | apply zc | apply zd) | exact HB.1)⟩⟩
       ·
        rw [if_neg c9] at H
        exact absurd H (by simp)
      ·
       rw [if_neg c8] at H
       exact absurd H (by simp)
     ·
      rw [if_neg c7] at H
      have c7b0 : decide (0 ≤ x6_1) = false := decide_eq_false c7
      clear c7
      obtain rfl := Option.some.inj H
      have hcv13 := own_string (P := Try.prog) Try.underlying62 Try.underlying5 Try.underlying9 (Kd.own_of_R HO_5.1)
      go_wp2
      go_ret
      exact ⟨by first | rfl | (simp [errW_none, errW_some] <;> rfl) | (simp [*, errW_none, errW_some] <;> rfl), by repeat (first | (with_reducible first | exact HB.1 | apply ze | apply zc | apply zd) | exact HB.1)⟩
  ·
   rw [if_neg c4] at H
   exact absurd H (by simp)
 ·
  rw [if_neg c3] at H
  exact absurd H (by simp)

/-! ### spec_l4Prefix: function 57 -/
def spec_l4Prefix.f (k : Nat) (a0_0 : Int) (a0_1 : Int) : Option (ByteArray) := (spec_l4Bytes.f k a0_1 1).bind fun t207 => (if 0 ≤ (IntKind.u64.wrap (wrap64 (32 - (wrap64 (8 * (wrap64 (Int.tdiv (wrap64 (a0_1 + 7)) 8))))))) then ((spec_l4Bytes.f k (shr .i64 a0_0 (IntKind.u64.wrap (wrap64 (32 - (wrap64 (8 * (wrap64 (Int.tdiv (wrap64 (a0_1 + 7)) 8)))))))) (wrap64 (Int.tdiv (wrap64 (a0_1 + 7)) 8))).bind fun t208 => (if t207.size + t208.size ≤ 9223372036854775807 then (some (t207 ++ t208)) else (none))) else (none))
theorem spec_l4Prefix.mono : ∀ a0 a1 k, LeO (spec_l4Prefix.f k a0 a1) (spec_l4Prefix.f (k + 1) a0 a1) := by
 intro a0 a1 k
 unfold spec_l4Prefix.f
 repeat' first
   | (with_reducible exact spec_l4Bytes.mono _ _ _)
   | (with_reducible exact zA _)
   | (with_reducible exact zq _)
   | (with_reducible refine zw ?_ ?_)
   | (with_reducible refine zr ?_ (fun _ => ?_))
   | exact spec_l4Bytes.mono _ _ _
   | exact zq _
   | refine zw ?_ ?_
   | refine zr ?_ (fun _ => ?_)
def spec_l4Prefix.T2 : Bool × List (List Nat × List Nat) := (true, [([], []), ([0], [0]), ([1], [1]), ([], []), ([3], [3]), ([], []), ([5], [5]), ([6], [6]), ([7], [7]), ([4, 8], [4, 8]), ([], []), ([9, 10, 2], [9, 10]), ([2, 11], [2, 11]), ([12, 11, 0, 1, 2, 3, 4, 5, 6, 7, 8, 9, 10, 11, 12], [12])])
def spec_l4Prefix.B2 : List Nat := [0, 1, 3, 0, 8, 0, 32, 96, 224, 504, 0, 2047, 4095, 8191]
theorem spec_l4Prefix.tab2 : rtab .any (opsOf Try.f57 2) = spec_l4Prefix.T2 := by kernel_rfl
theorem spec_l4Prefix.bits2 : waitsOk spec_l4Prefix.T2.2 spec_l4Prefix.B2 = true := by kernel_rfl
set_option maxHeartbeats 8000000 in
set_option maxRecDepth 100000 in
theorem spec_l4Prefix.calls (k : Nat) (a0_0 : Int) (a0_1 : Int) (r : ByteArray) (w : World) (h : spec_l4Prefix.f k a0_0 a0_1 = some r) :
  Calls Try.prog 57 #[.agg #[.int .i64 a0_0, .int .i64 a0_1]] w fun e w' => e = .returned (.string r) ∧ Below w.heap.size w w' := by
 have hu35 := Try.underlying35
 have HB := Aside0.mk (Below.refl w.heap.size w)
 have H : ((spec_l4Bytes.f k a0_1 1).bind fun t207 => (if 0 ≤ (IntKind.u64.wrap (wrap64 (32 - (wrap64 (8 * (wrap64 (Int.tdiv (wrap64 (a0_1 + 7)) 8))))))) then ((spec_l4Bytes.f k (shr .i64 a0_0 (IntKind.u64.wrap (wrap64 (32 - (wrap64 (8 * (wrap64 (Int.tdiv (wrap64 (a0_1 + 7)) 8)))))))) (wrap64 (Int.tdiv (wrap64 (a0_1 + 7)) 8))).bind fun t208 => (if t207.size + t208.size ≤ 9223372036854775807 then (some (t207 ++ t208)) else (none))) else (none))) = some r := h
 clear h
 replace H := Option.bind_eq_some_iff.mp H
 obtain ⟨t207, A20, H⟩ := H
 replace H : (if 0 ≤ (IntKind.u64.wrap (wrap64 (32 - (wrap64 (8 * (wrap64 (Int.tdiv (wrap64 (a0_1 + 7)) 8))))))) then ((spec_l4Bytes.f k (shr .i64 a0_0 (IntKind.u64.wrap (wrap64 (32 - (wrap64 (8 * (wrap64 (Int.tdiv (wrap64 (a0_1 + 7)) 8)))))))) (wrap64 (Int.tdiv (wrap64 (a0_1 + 7)) 8))).bind fun t208 => (if t207.size + t208.size ≤ 9223372036854775807 then (some (t207 ++ t208)) else (none))) else (none)) = some r := H
 have A2 := Aside0.mk A20
 clear A20
 obtain ⟨ji3, hji3⟩ : ∃ j_ : Int, (IntKind.u64.wrap (wrap64 (32 - (wrap64 (8 * (wrap64 (Int.tdiv (wrap64 (a0_1 + 7)) 8))))))) = j_ := ⟨_, rfl⟩
 replace H : (if 0 ≤ (ji3) then ((spec_l4Bytes.f k (shr .i64 a0_0 (ji3)) (wrap64 (Int.tdiv (wrap64 (a0_1 + 7)) 8))).bind fun t208 => (if t207.size + t208.size ≤ 9223372036854775807 then (some (t207 ++ t208)) else (none))) else (none)) = some r := by first | (rw [hji3] at H; exact H) | (simp only [hji3] at H ⊢; exact H)
 (try rw [hji3] at A2)
 by_cases c4 : 0 ≤ (ji3)
 ·
  rw [if_pos c4] at H
  have c4b0 := eq_true c4
  have c4b1 : decide (0 ≤ (ji3)) = true := decide_eq_true c4
  clear c4
  obtain ⟨ji5, hji5⟩ : ∃ j_ : Int, (shr .i64 a0_0 (ji3)) = j_ := ⟨_, rfl⟩
  replace H : ((spec_l4Bytes.f k (ji5) (wrap64 (Int.tdiv (wrap64 (a0_1 + 7)) 8))).bind fun t208 => (if t207.size + t208.size ≤ 9223372036854775807 then (some (t207 ++ t208)) else (none))) = some r := by first | (rw [hji5] at H; exact H) | (simp only [hji5] at H ⊢; exact H)
  (try rw [hji5] at A2)
  have hji5_ : (a0_0 / 2 ^ min (ji3).toNat 64) = ji5 := hji5
  have hji5z : (ji3) ≤ 64 → (a0_0 / 2 ^ (ji3).toNat) = ji5 := shr_small hji5
  replace H := Option.bind_eq_some_iff.mp H
  obtain ⟨t208, A60, H⟩ := H
  replace H : (if t207.size + t208.size ≤ 9223372036854775807 then (some (t207 ++ t208)) else (none)) = some r := H
  have A6 := Aside0.mk A60
  clear A60
  by_cases c7 : t207.size + t208.size ≤ 9223372036854775807
  ·
   rw [if_pos c7] at H
   have c7b0 := eq_true c7
   have c7b1 : decide (t207.size + t208.size ≤ 9223372036854775807) = true := decide_eq_true c7
   try have c7b2 : (9223372036854775807 < t207.size + t208.size) = False := eq_false (Nat.not_lt.2 c7)
   obtain rfl := Option.some.inj H
   go_enter Try.func57, Try.ntmps57
   try go_wp2_with (first | ((with_reducible refine zv (N := 1) rfl ?_); refine zt ?hg (N := 1) ?hd (cs := #[.int .i64 a0_0, .int .i64 a0_1]) (t := 35) ?hr ?_; (case hd => rfl); (case hg => rfl); (case hr => first | (go_simp; done) | (go_simp; rfl)); intro gb206 hg w8 hbox hb; have n0_ := Aside0.mk (zi (by repeat (first | (with_reducible first | exact HB.1 | apply ze | apply zc | apply zd) | exact HB.1)) hb); have n1_ := Aside0.mk (hbox); have n2_ := Aside0.mk ((by rw [hg]; exact (zk (by repeat (first | (with_reducible first | exact HB.1 | apply ze | apply zc | apply zd) | exact HB.1))) : w.heap.size ≤ gb206)); have n3_ := Aside0.mk ((by rw [hg]; exact (zk (by repeat (first | (with_reducible first | exact HB.1 | apply ze | apply zc | apply zd) | exact HB.1))) : w.heap.size ≤ gb206)); clear HB; have HB := n0_; have zJ := n1_; have GW206 := n2_; have GE206 := n3_; clear n0_ n1_ n2_ n3_; clear hb hbox hg; have hcz9_0 : w8.cell? ⟨gb206, 0, none⟩ = some (.int .i64 a0_0) := (zb zJ.1 0).trans rfl; have hcz9_1 : w8.cell? ⟨gb206, 1, none⟩ = some (.int .i64 a0_1) := (zb zJ.1 1).trans rfl; have hfz9_0 := za zJ.1 0; have hfz9_1 := za zJ.1 1))
   have n0_ := Aside0.mk (zj zJ.1)
   have n1_ := Aside0.mk (zd HB.1)
   clear zJ
   clear HB
   have zJ := n0_
   have HB := n1_
   clear n0_ n1_
   refine start_ (n := 14) (S := fun w' => w'.cell? ⟨gb206, 0, none⟩ = some (.int .i64 a0_0) ∧ w'.cell? ⟨gb206, 1, none⟩ = some (.int .i64 a0_1)) (ds := []) #[false, false, false, false, false, false, false, false, false, false, false, false, false, false] (by kernel_rfl) rfl rfl ⟨(zb zJ.1 0).trans rfl, (zb zJ.1 1).trans rfl⟩ (fun hHeld => ?_); refine with_tabW spec_l4Prefix.tab2 spec_l4Prefix.bits2 (fun HT_ HW_ => ?_)
   generalize w8.drew = w10 at zJ HB hHeld ⊢
   refine zD (i := 0) (N := some 8) (v := ?_) (a' := ?_) #[true, false, false, false, false, false, false, false, false, false, false, false, false, false] rfl rfl (zB HT_.1 (by kernel_rfl)) (fun _ _ _ h => h) (Or.inl ⟨by rfl, ?_⟩) ?_ ?_
   rotate_left
   ·
    intro w'
    go_simp
    with_reducible rfl
   rotate_left
   ·
    simp only [Act.put, List.setIfInBounds_toArray, List.set_cons_zero, List.set_cons_succ, zy, zz]
    rfl
   refine zD (i := 3) (N := some 11) (v := ?_) (a' := ?_) #[true, false, false, true, false, false, false, false, false, false, false, false, false, false] rfl rfl (zB HT_.1 (by kernel_rfl)) (fun _ _ _ h => h) (Or.inl ⟨by rfl, ?_⟩) ?_ ?_
   rotate_left
   ·
    intro w'
    go_simp
    with_reducible rfl
   rotate_left
   ·
    simp only [Act.put, List.setIfInBounds_toArray, List.set_cons_zero, List.set_cons_succ, zy, zz]
    rfl
   refine zD (i := 5) (N := some 13) (v := ?_) (a' := ?_) #[true, false, false, true, false, true, false, false, false, false, false, false, false, false] rfl rfl (zB HT_.1 (by kernel_rfl)) (fun _ _ _ h => h) (Or.inl ⟨by rfl, ?_⟩) ?_ ?_
   rotate_left
   ·
    intro w'
    go_simp
    with_reducible rfl
   rotate_left
   ·
    simp only [Act.put, List.setIfInBounds_toArray, List.set_cons_zero, List.set_cons_succ, zy, zz]
    rfl
   refine zD (i := 6) (N := some 14) (v := ?_) (a' := ?_) #[true, false, false, true, false, true, true, false, false, false, false, false, false, false] rfl rfl (zB HT_.1 (by kernel_rfl)) (fun _ _ _ h => h) (Or.inl ⟨by rfl, ?_⟩) ?_ ?_
   rotate_left
   ·
    intro w'
    go_simp
    with_reducible rfl
   rotate_left
   ·
    simp only [Act.put, List.setIfInBounds_toArray, List.set_cons_zero, List.set_cons_succ, zy, zz]
    rfl
   refine zD (i := 7) (N := some 15) (v := ?_) (a' := ?_) #[true, false, false, true, false, true, true, true, false, false, false, false, false, false] rfl rfl (zB HT_.1 (by kernel_rfl)) (fun _ _ _ h => h) (Or.inl ⟨by rfl, ?_⟩) ?_ ?_
   rotate_left
   ·
    intro w'
    go_simp
    with_reducible rfl
   rotate_left
   ·
    simp only [Act.put, List.setIfInBounds_toArray, List.set_cons_zero, List.set_cons_succ, zy, zz]
    rfl
   refine zD (i := 8) (N := some 16) (v := ?_) (a' := ?_) #[true, false, false, true, false, true, true, true, true, false, false, false, false, false] rfl rfl (zB HT_.1 (by kernel_rfl)) (fun _ _ _ h => h) (Or.inl ⟨by rfl, ?_⟩) ?_ ?_
   rotate_left
   ·
    intro w'
    go_simp
    with_reducible rfl
   rotate_left
   ·
    simp only [Act.put, List.setIfInBounds_toArray, List.set_cons_zero, List.set_cons_succ, zy, zz]
    rfl
   refine zD (i := 10) (N := some 18) (v := ?_) (a' := ?_) #[true, false, false, true, false, true, true, true, true, false, true, false, false, false] rfl rfl (zB HT_.1 (by kernel_rfl)) (fun _ _ _ h => h) (Or.inl ⟨by rfl, ?_⟩) ?_ ?_
   rotate_left
   ·
    intro w'
    go_simp
    with_reducible rfl
   rotate_left
   ·
    simp only [Act.put, List.setIfInBounds_toArray, List.set_cons_zero, List.set_cons_succ, zy, zz]
    rfl
   refine take_ (i := 1) (N := some 9) (v := ?_) (a' := ?_) #[true, true, false, true, false, true, true, true, true, false, true, false, false, false] rfl rfl (take_ofW HT_.1 HW_.1 (by kernel_rfl)) (fun _ _ _ h => h) (Or.inl ⟨by rfl, ?_⟩) hHeld ?_ ?_
   rotate_left
   ·
    rintro w' ⟨s0, s1⟩
    go_simp
    with_reducible rfl
   rotate_left
   ·
    simp only [Act.put, List.setIfInBounds_toArray, List.set_cons_zero, List.set_cons_succ, zy, zz]
    rfl
   refine take_ (i := 4) (N := some 12) (v := ?_) (a' := ?_) #[true, true, false, true, true, true, true, true, true, false, true, false, false, false] rfl rfl (take_ofW HT_.1 HW_.1 (by kernel_rfl)) (fun _ _ _ h => h) (Or.inl ⟨by rfl, ?_⟩) hHeld ?_ ?_
   rotate_left
   ·
    rintro w' ⟨s0, s1⟩
    go_simp
    with_reducible rfl
   rotate_left
   ·
    simp only [Act.put, List.setIfInBounds_toArray, List.set_cons_zero, List.set_cons_succ, zy, zz]
    rfl
   refine zD (i := 9) (N := some 17) (v := ?_) (a' := ?_) #[true, true, false, true, true, true, true, true, true, true, true, false, false, false] rfl rfl (zB HT_.1 (by kernel_rfl)) (fun _ _ _ h => h) (Or.inl ⟨by rfl, ?_⟩) ?_ ?_
   rotate_left
   ·
    intro w'
    go_simp
    with_reducible rfl
   rotate_left
   ·
    simp only [Act.put, List.setIfInBounds_toArray, List.set_cons_zero, List.set_cons_succ, zy, zz]
    rfl
   refine one_ (i := 2) (N := some 10) #[true, true, true, true, true, true, true, true, true, true, true, false, false, false] rfl rfl (one_of HT_.1 (by kernel_rfl)) (by decide) (fun K hK => ?_)
   refine goes_ Try.func102 (by kernel_rfl) rfl #[.int .i64 a0_1, .int .i64 1] (by rfl) rfl rfl (by (try simp only [List.map_toArray, List.map_cons, List.map_nil]); first | done | rfl | (simp only [List.length_drop, List.length_take]; rfl)) ?_
   with_reducible refine (spec_l4Bytes.calls k a0_1 1 t207 _ A2.1).mono ?_
   rintro e w11 ⟨rfl, hb⟩
   refine ⟨_, rfl, ?_⟩
   have n0_ := Aside0.mk (zl (g := gb206) (o := .cells #[.int .i64 a0_0, .int .i64 a0_1] 35 (0, 0)) (by (with_reducible repeat (first | refine zg ?_ _ | refine zj ?_ | refine zh ?_ _)); exact zJ.1) hb)
   have n1_ := Aside0.mk (zi (by repeat (first | (with_reducible first | exact HB.1 | apply ze | apply zc | apply zd | refine zf ?_ GE206.1) | exact HB.1)) hb)
   clear zJ
   clear HB
   have zJ := n0_
   have HB := n1_
   clear n0_ n1_
   (try clear hb)
   (try clear hb2)
   (try clear hk)
   (try clear hi)
   refine hK.out _ _ ⟨(zb zJ.1 0).trans rfl, (zb zJ.1 1).trans rfl⟩ (fun hHeld => ?_)
   clear hK K
   refine norm_ (a' := ?_) ?_ ?_
   rotate_left
   ·
    show Act.put _ (some 10) _ = _
    simp only [Act.put, List.setIfInBounds_toArray, List.set_cons_zero, List.set_cons_succ, zy, zz]
    rfl
   refine one_ (i := 11) (N := some 19) #[true, true, true, true, true, true, true, true, true, true, true, true, false, false] rfl rfl (one_of HT_.1 (by kernel_rfl)) (by decide) (fun K hK => ?_)
   refine goes_ Try.func102 (by kernel_rfl) rfl #[.int .i64 ji5, .int .i64 (wrap64 (Int.tdiv (wrap64 (a0_1 + 7)) 8))] (by rfl) rfl rfl (by (try simp only [List.map_toArray, List.map_cons, List.map_nil]); first | done | (simp only [hji5]; rfl) | rfl | (simp only [List.length_drop, List.length_take]; rfl)) ?_
   with_reducible refine (spec_l4Bytes.calls k ji5 (wrap64 (Int.tdiv (wrap64 (a0_1 + 7)) 8)) t208 _ A6.1).mono ?_
   rintro e w12 ⟨rfl, hb⟩
   refine ⟨_, rfl, ?_⟩
   have n0_ := Aside0.mk (zl (g := gb206) (o := .cells #[.int .i64 a0_0, .int .i64 a0_1] 35 (0, 0)) (by (with_reducible repeat (first | refine zg ?_ _ | refine zj ?_ | refine zh ?_ _)); exact zJ.1) hb)
   have n1_ := Aside0.mk (zi (by repeat (first | (with_reducible first | exact HB.1 | apply ze | apply zc | apply zd | refine zf ?_ GE206.1) | exact HB.1)) hb)
   clear zJ
   clear HB
   have zJ := n0_
   have HB := n1_
   clear n0_ n1_
   (try clear hb)
   (try clear hb2)
   (try clear hk)
   (try clear hi)
   refine hK.out _ _ ⟨(zb zJ.1 0).trans rfl, (zb zJ.1 1).trans rfl⟩ (fun hHeld => ?_)
   clear hK K
   refine norm_ (a' := ?_) ?_ ?_
   rotate_left
   ·
    show Act.put _ (some 19) _ = _
    simp only [Act.put, List.setIfInBounds_toArray, List.set_cons_zero, List.set_cons_succ, zy, zz]
    rfl
   refine zD (i := 12) (N := some 20) (v := ?_) (a' := ?_) #[true, true, true, true, true, true, true, true, true, true, true, true, true, false] rfl rfl (zB HT_.1 (by kernel_rfl)) (fun _ _ _ h => h) (Or.inl ⟨by rfl, ?_⟩) ?_ ?_
   rotate_left
   ·
    intro w'
    go_simp
    with_reducible rfl
   rotate_left
   ·
    simp only [Act.put, List.setIfInBounds_toArray, List.set_cons_zero, List.set_cons_succ, zy, zz]
    rfl
   refine zD (i := 13) (N := some 2) (v := ?_) (a' := ?_) #[true, true, true, true, true, true, true, true, true, true, true, true, true, true] rfl rfl (zB HT_.1 (by kernel_rfl)) (fun _ _ _ h => h) (Or.inl ⟨by rfl, ?_⟩) ?_ ?_
   rotate_left
   ·
    intro w'
    go_simp
    with_reducible rfl
   rotate_left
   ·
    simp only [Act.put, List.setIfInBounds_toArray, List.set_cons_zero, List.set_cons_succ, zy, zz]
    rfl
   refine done_ (done_of HT_.1 (by kernel_rfl)) ?_
   try go_wp2
   go_ret
   exact ⟨by first | rfl | (simp [errW_none, errW_some] <;> rfl) | (simp only [← hji3, ← hji5]; first | rfl | (simp [errW_none, errW_some] <;> rfl)) | (simp [*, errW_none, errW_some] <;> rfl), by repeat (first | (with_reducible first | exact HB.1 | apply ze | apply zc | apply zd | refine zf ?_ GE206.1) | exact HB.1)⟩
  ·
   rw [if_neg c7] at H
   exact absurd H (by simp)
 ·
  rw [if_neg c4] at H
  exact absurd H (by simp)

/-! ### spec_l4Prefixes: function 112 -/
def spec_l4Prefixes.l0 : Nat → ByteArray → List (S35) → Int → Int → Option (ByteArray)
 | 0, _, _, _, _ => none
 | k + 1, x3, x9, x10, x11 => if x11 < x10 then (if 0 ≤ x11 then (if x11 < (x9.length : Int) then ((spec_l4Prefix.f k ((rd_T35 x9 x11).f0) ((rd_T35 x9 x11).f1)).bind fun t212 => (if x3.size + t212.size ≤ 9223372036854775807 then (spec_l4Prefixes.l0 k (x3 ++ t212) x9 x10 (wrap64 (x11 + 1))) else (none))) else (none)) else (none)) else (some x3)
def spec_l4Prefixes.f (k : Nat) (l0 : List (S35)) : Option (ByteArray) := (spec_l4Bytes.f k (l0.length : Int) 1).bind fun t209 => (spec_l4Prefixes.l0 k t209 l0 (l0.length : Int) 0)
theorem spec_l4Prefixes.mono_l : ∀ k, (∀ y0 y1 y2 y3, LeO (spec_l4Prefixes.l0 k y0 y1 y2 y3) (spec_l4Prefixes.l0 (k + 1) y0 y1 y2 y3))
 | 0 => fun _ _ _ _ r h => by simp [spec_l4Prefixes.l0] at h
 | k + 1 => by
  have ih0 := spec_l4Prefixes.mono_l k
  ·
   intro y0 y1 y2 y3
   unfold spec_l4Prefixes.l0
   repeat' first
   | (with_reducible exact ih0 _ _ _ _)
   | (with_reducible exact spec_l4Bytes.mono _ _ _)
   | (with_reducible exact spec_l4Prefix.mono _ _ _)
   | (with_reducible exact zA _)
   | (with_reducible exact zq _)
   | (with_reducible refine zw ?_ ?_)
   | (with_reducible refine zr ?_ (fun _ => ?_))
   | exact ih0 _ _ _ _
   | exact spec_l4Bytes.mono _ _ _
   | exact spec_l4Prefix.mono _ _ _
   | exact zq _
   | refine zw ?_ ?_
   | refine zr ?_ (fun _ => ?_)
theorem spec_l4Prefixes.mono : ∀ a0 k, LeO (spec_l4Prefixes.f k a0) (spec_l4Prefixes.f (k + 1) a0) := by
 intro a0 k
 have ih0 := spec_l4Prefixes.mono_l k
 unfold spec_l4Prefixes.f
 repeat' first
   | (with_reducible exact ih0 _ _ _ _)
   | (with_reducible exact spec_l4Bytes.mono _ _ _)
   | (with_reducible exact spec_l4Prefix.mono _ _ _)
   | (with_reducible exact zA _)
   | (with_reducible exact zq _)
   | (with_reducible refine zw ?_ ?_)
   | (with_reducible refine zr ?_ (fun _ => ?_))
   | exact ih0 _ _ _ _
   | exact spec_l4Bytes.mono _ _ _
   | exact spec_l4Prefix.mono _ _ _
   | exact zq _
   | refine zw ?_ ?_
   | refine zr ?_ (fun _ => ?_)
set_option maxHeartbeats 8000000 in
set_option maxRecDepth 100000 in
theorem spec_l4Prefixes.calls (k : Nat) (A0 : Option Addr) (c0 : Nat) (l0 : List (S35)) (r : ByteArray) (w : World) (hr0 : Kd.C k35 w A0 l0.length l0) (hc0 : l0.length ≤ c0) (h : spec_l4Prefixes.f k l0 = some r) :
  Calls Try.prog 112 #[.slice A0 l0.length c0] w fun e w' => e = .returned (.string r) ∧ Below w.heap.size w w' := by
 have hu35 := Try.underlying35
 have HR0 := Aside0.mk hr0
 have HC0 := Aside0.mk hc0
 clear hr0 hc0
 have HB := Aside0.mk (Below.refl w.heap.size w)
 have H : ((spec_l4Bytes.f k (l0.length : Int) 1).bind fun t209 => (spec_l4Prefixes.l0 k t209 l0 (l0.length : Int) 0)) = some r := h
 clear h
 replace H := Option.bind_eq_some_iff.mp H
 obtain ⟨t209, A20, H⟩ := H
 replace H : (spec_l4Prefixes.l0 k t209 l0 (l0.length : Int) 0) = some r := H
 have A2 := Aside0.mk A20
 clear A20
 have H' := Aside0.mk H
 clear H
 go_enter Try.func112, Try.ntmps112
 go_wp2_with (first | ((with_reducible refine zs (f := 102) rfl ?_); refine zC (some 8) rfl rfl Try.func102 (by kernel_rfl) rfl #[.int .i64 (l0.length : Int), .int .i64 1] rfl (by (try simp only [List.map_toArray, List.map_cons, List.map_nil]); first | done | rfl | (simp only [List.length_drop, List.length_take]; rfl)) ?_; (with_reducible refine (spec_l4Bytes.calls k (l0.length : Int) 1 t209 _ A2.1).mono ?_); rintro e w3 ⟨rfl, hb⟩; refine ⟨_, rfl, ?_⟩; have n0_ := Aside0.mk (zi (by repeat (first | (with_reducible first | exact HB.1 | apply ze | apply zc | apply zd) | exact HB.1)) hb); clear HB; have HB := n0_; clear n0_; (try clear hb); (try clear hb2); (try clear hk); (try clear hi)))
 go_loopg [3, 11] k (fun kq v3 v11 w' => ∃ (x3_1 : ByteArray) (zI : Int), v3 = .string x3_1 ∧ v11 = .int .i64 zI ∧ zx (spec_l4Prefixes.l0 kq x3_1 l0 (l0.length : Int) zI = some r) ∧ zx (kq ≤ k) ∧ zx (Below w.heap.size w w'))
 case atStart => exact ⟨(t209), (0), (by first | rfl | (simp; done) | (simp [*]; done)), (by first | rfl | (simp; done) | (simp [*]; done)), H', ⟨Nat.le_refl _⟩, ⟨by repeat (first | (with_reducible first | exact HB.1 | apply ze | apply zc | apply zd) | exact HB.1)⟩⟩
 case round =>
  clear H'
  (try clear c1); (try clear p2)
  obtain ⟨x3_1, zI, rfl, rfl, HA, HK1, HB⟩ := hrel
  cases gk with
  | zero => exact absurd HA.1 (by simp [spec_l4Prefixes.l0])
  | succ k1 =>
   have H := HA.1
   clear HA
   simp only [spec_l4Prefixes.l0] at H
   by_cases c4 : zI < (l0.length : Int)
   ·
    rw [if_pos c4] at H
    have c4b0 : decide (zI < (l0.length : Int)) = true := decide_eq_true c4
    clear c4
    by_cases c5 : 0 ≤ zI
    ·
     rw [if_pos c5] at H
     have c5b0 : decide (0 ≤ zI) = true := decide_eq_true c5
     clear c5
     by_cases c6 : zI < (l0.length : Int)
     ·
      rw [if_pos c6] at H
      have c6b0 : decide (zI < (l0.length : Int)) = true := decide_eq_true c6
      clear c6
      replace H := Option.bind_eq_some_iff.mp H
      obtain ⟨t212, A70, H⟩ := H
      replace H : (if x3_1.size + t212.size ≤ 9223372036854775807 then (spec_l4Prefixes.l0 k1 (x3_1 ++ t212) l0 (l0.length : Int) (wrap64 (zI + 1))) else (none)) = some r := H
      have A7 := Aside0.mk A70
      clear A70
      by_cases c8 : x3_1.size + t212.size ≤ 9223372036854775807
      ·
       rw [if_pos c8] at H
       have c8b0 := eq_true c8
       have c8b1 : decide (x3_1.size + t212.size ≤ 9223372036854775807) = true := decide_eq_true c8
       try have c8b2 : (9223372036854775807 < x3_1.size + t212.size) = False := eq_false (Nat.not_lt.2 c8)
       have H' := Aside0.mk H
       clear H
       have p210 : 0 ≤ (zI : Int) := of_decide_eq_true (by first | (with_reducible assumption) | assumption)
       have q210 : zI < (l0.length : Int) := of_decide_eq_true (by first | (with_reducible assumption) | assumption)
       obtain ⟨ad210, e210, hx210_0, hx210_1⟩ := at_T35 HR0.1 zI p210 q210
       cases e210
       replace hx210_0 := (HB.1.cell (World.block_lt_of_cell? w _ hx210_0)).trans hx210_0
       replace hx210_1 := (HB.1.cell (World.block_lt_of_cell? w _ hx210_1)).trans hx210_1
       replace p210 := eq_true p210
       replace q210 := eq_true q210
       go_wp2_with (first | ((with_reducible refine zv (N := 5) rfl ?_); refine zt ?hg (N := 5) ?hd (cs := #[.int .i64 0, .int .i64 0]) (t := 35) ?hr ?_; (case hd => rfl); (case hg => rfl); (case hr => first | (go_simp; done) | (go_simp; rfl)); intro gb211 hg w9 hbox hb; have n0_ := Aside0.mk (zi (by repeat (first | (with_reducible first | exact HB.1 | apply ze | apply zc | apply zd) | exact HB.1)) hb); have n1_ := Aside0.mk (hbox); have n2_ := Aside0.mk ((by rw [hg]; exact (zk (by repeat (first | (with_reducible first | exact HB.1 | apply ze | apply zc | apply zd) | exact HB.1))) : w.heap.size ≤ gb211)); have n3_ := Aside0.mk ((by rw [hg]; exact (zk (by repeat (first | (with_reducible first | exact HB.1 | apply ze | apply zc | apply zd) | exact HB.1))) : w.heap.size ≤ gb211)); clear HB; have HB := n0_; have zP := n1_; have GW211 := n2_; have GE211 := n3_; clear n0_ n1_ n2_ n3_; clear hb hbox hg; have hcz10_0 : w9.cell? ⟨gb211, 0, none⟩ = some (.int .i64 0) := (zb zP.1 0).trans rfl; have hcz10_1 : w9.cell? ⟨gb211, 1, none⟩ = some (.int .i64 0) := (zb zP.1 1).trans rfl; have hfz10_0 := za zP.1 0; have hfz10_1 := za zP.1 1) | ((with_reducible refine zs (f := 57) rfl ?_); refine zC (some 17) rfl rfl Try.func57 (by kernel_rfl) rfl #[.agg #[.int .i64 ((rd_T35 l0 zI).f0), .int .i64 ((rd_T35 l0 zI).f1)]] rfl (by (try simp only [List.map_toArray, List.map_cons, List.map_nil]); first | done | rfl | (simp only [List.length_drop, List.length_take]; rfl)) ?_; (with_reducible refine (spec_l4Prefix.calls k1 ((rd_T35 l0 zI).f0) ((rd_T35 l0 zI).f1) t212 _ A7.1).mono ?_); rintro e w11 ⟨rfl, hb⟩; refine ⟨_, rfl, ?_⟩; have n0_ := Aside0.mk (zl (g := gb211) (o := .cells #[.int .i64 ((rd_T35 l0 zI).f0), .int .i64 ((rd_T35 l0 zI).f1)] 35 (0, 0)) (by (with_reducible repeat (first | refine zg ?_ _ | refine zj ?_ | refine zh ?_ _)); refine blk_put (cs := #[.int .i64 ((rd_T35 l0 zI).f0), .int .i64 0]) ?_ 1 _ rfl; (with_reducible repeat (first | refine zg ?_ _ | refine zj ?_ | refine zh ?_ _)); refine blk_put (cs := #[.int .i64 0, .int .i64 0]) ?_ 0 _ rfl; (with_reducible repeat (first | refine zg ?_ _ | refine zj ?_ | refine zh ?_ _)); exact zP.1) hb); have n1_ := Aside0.mk (zi (by repeat (first | (with_reducible first | exact HB.1 | apply ze | apply zc | apply zd | refine zf ?_ GE211.1) | exact HB.1)) hb); clear zP; clear HB; have zP := n0_; have HB := n1_; clear n0_ n1_; (try clear hb); (try clear hb2); (try clear hk); (try clear hi)))
       go_roundg k1
       case measure => have := HK1.1; omega
       case rel => exact ⟨(x3_1 ++ t212), (wrap64 (zI + 1)), (by first | rfl | (simp; done) | (simp [*]; done)), (by first | rfl | (simp; done) | (simp [*]; done)), H', ⟨by have := HK1.1; omega⟩, ⟨by repeat (first | (with_reducible first | exact HB.1 | apply ze | apply zc | apply zd | refine zf ?_ GE211.1) | exact HB.1)⟩⟩
      ·
       rw [if_neg c8] at H
       exact absurd H (by simp)
     ·
      rw [if_neg c6] at H
      exact absurd H (by simp)
    ·
     rw [if_neg c5] at H
     exact absurd H (by simp)
   ·
    rw [if_neg c4] at H
    have c4b0 : decide (zI < (l0.length : Int)) = false := decide_eq_false c4
    clear c4
    obtain rfl := Option.some.inj H
    go_wp2
    go_ret
    exact ⟨by first | rfl | (simp [errW_none, errW_some] <;> rfl) | (simp [*, errW_none, errW_some] <;> rfl), by repeat (first | (with_reducible first | exact HB.1 | apply ze | apply zc | apply zd) | exact HB.1)⟩

end Go.Proofs.Ytlnfcobloolnnaa.PFnExactUpdateBytes
