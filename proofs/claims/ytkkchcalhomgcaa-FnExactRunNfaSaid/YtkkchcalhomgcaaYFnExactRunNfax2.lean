/- Written by this session's own program over the kit's print: Lean functions that tell what Go functions answer, each with a proof that the call does so. No condition but what each statement says. -/
import Derived.Test.YtkkchcalhomgcaaYFnExactRunNfax0
import Derived.Test.YtkkchcalhomgcaaYFnExactRunNfax1
namespace Go.Proofs.Ytkkchcalhomgcaa.PFnExactRunNfa
open Go.RowKit Go.Proofs.YtkkchcalhomgcaaW.PrintWords Go.Proofs.YtkkchcalhomgcaaW.PrintLast Go.Proofs.YtkkchcalhomgcaaW.PrintMore
attribute [local go_sem] max2_int min2_int max_two min_two max_three min_three max_four min_four   -- for this text's walks alone
set_option linter.unusedVariables false
set_option linter.unusedSimpArgs false

/-! ### spec_GoodNfa: function 39 -/
mutual
def spec_GoodNfa.j0 : Nat → Bool → Int → Int → Int → List (S97) → Option (Bool)
  | 0, _, _, _, _, _ => none
  | k + 1, x38, x131000, x131001, x131002, x131003 => if x38 = true then (some false) else (spec_GoodNfa.l0 k x131003 (x131003.length : Int) 0 x131000 x131001 x131002 x131003)
def spec_GoodNfa.l0 : Nat → List (S97) → Int → Int → Int → Int → Int → List (S97) → Option (Bool)
  | 0, _, _, _, _, _, _, _ => none
  | k + 1, x40, x41, x42, x131000, x131001, x131002, x131003 => if x42 < x41 then (if 0 ≤ x42 then (if x42 < (x40.length : Int) then (if ((rd_T97 x40 x42).f0) < 0 then (spec_GoodNfa.j2 k x40 x41 x42 true x131000 x131001 x131002 x131003 ((rd_T97 x40 x42).f0) ((rd_T97 x40 x42).f1) ((rd_T97 x40 x42).f2) ((rd_T97 x40 x42).f3) ((rd_T97 x40 x42).f4)) else (if ((rd_T97 x40 x42).f0) ≥ x131000 then (spec_GoodNfa.j2 k x40 x41 x42 true x131000 x131001 x131002 x131003 ((rd_T97 x40 x42).f0) ((rd_T97 x40 x42).f1) ((rd_T97 x40 x42).f2) ((rd_T97 x40 x42).f3) ((rd_T97 x40 x42).f4)) else (if ((rd_T97 x40 x42).f1) < 0 then (spec_GoodNfa.j2 k x40 x41 x42 true x131000 x131001 x131002 x131003 ((rd_T97 x40 x42).f0) ((rd_T97 x40 x42).f1) ((rd_T97 x40 x42).f2) ((rd_T97 x40 x42).f3) ((rd_T97 x40 x42).f4)) else (spec_GoodNfa.j2 k x40 x41 x42 (decide (((rd_T97 x40 x42).f1) ≥ x131000)) x131000 x131001 x131002 x131003 ((rd_T97 x40 x42).f0) ((rd_T97 x40 x42).f1) ((rd_T97 x40 x42).f2) ((rd_T97 x40 x42).f3) ((rd_T97 x40 x42).f4))))) else (none)) else (none)) else (some true)
def spec_GoodNfa.j2 : Nat → List (S97) → Int → Int → Bool → Int → Int → Int → List (S97) → Int → Int → Bool → Bool → Int → Option (Bool)
  | 0, _, _, _, _, _, _, _, _, _, _, _, _, _ => none
  | k + 1, x40, x41, x42, x67, x131000, x131001, x131002, x131003, x134000, x134001, x134002, x134003, x134004 => if x67 = true then (some false) else (if x134002 = true then (if x134003 = true then (some false) else (if x134004 = 0 then (spec_GoodNfa.l0 k x40 x41 (wrap64 (x42 + 1)) x131000 x131001 x131002 x131003) else (some false))) else (if x134003 = true then (if x134004 = 0 then (spec_GoodNfa.l0 k x40 x41 (wrap64 (x42 + 1)) x131000 x131001 x131002 x131003) else (some false)) else ((spec_l1In.f x134004 1 65535).bind fun t134 => (if t134 = true then (spec_GoodNfa.l0 k x40 x41 (wrap64 (x42 + 1)) x131000 x131001 x131002 x131003) else (some false)))))
end
def spec_GoodNfa.f (k : Nat) (a0_0 : Int) (a0_1 : Int) (a0_2 : Int) (l0_3 : List (S97)) : Option (Bool) := (spec_l1In.f a0_0 1 80).bind fun t131 => (if t131 = true then (if a0_1 < 0 then (spec_GoodNfa.j0 k true a0_0 a0_1 a0_2 l0_3) else (if a0_1 ≥ a0_0 then (spec_GoodNfa.j0 k true a0_0 a0_1 a0_2 l0_3) else (if a0_2 < 0 then (spec_GoodNfa.j0 k true a0_0 a0_1 a0_2 l0_3) else (if a0_2 ≥ a0_0 then (spec_GoodNfa.j0 k true a0_0 a0_1 a0_2 l0_3) else (spec_GoodNfa.j0 k (decide ((l0_3.length : Int) > 200)) a0_0 a0_1 a0_2 l0_3))))) else (spec_GoodNfa.j0 k true a0_0 a0_1 a0_2 l0_3))
theorem spec_GoodNfa.mono_l : ∀ k, (∀ y0 y1 y2 y3 y4, LeO (spec_GoodNfa.j0 k y0 y1 y2 y3 y4) (spec_GoodNfa.j0 (k + 1) y0 y1 y2 y3 y4)) ∧ (∀ y0 y1 y2 y3 y4 y5 y6, LeO (spec_GoodNfa.l0 k y0 y1 y2 y3 y4 y5 y6) (spec_GoodNfa.l0 (k + 1) y0 y1 y2 y3 y4 y5 y6)) ∧ (∀ y0 y1 y2 y3 y4 y5 y6 y7 y8 y9 y10 y11 y12, LeO (spec_GoodNfa.j2 k y0 y1 y2 y3 y4 y5 y6 y7 y8 y9 y10 y11 y12) (spec_GoodNfa.j2 (k + 1) y0 y1 y2 y3 y4 y5 y6 y7 y8 y9 y10 y11 y12))
  | 0 => ⟨fun _ _ _ _ _ r h => by simp [spec_GoodNfa.j0] at h, fun _ _ _ _ _ _ _ r h => by simp [spec_GoodNfa.l0] at h, fun _ _ _ _ _ _ _ _ _ _ _ _ _ r h => by simp [spec_GoodNfa.j2] at h⟩
  | k + 1 => by
    obtain ⟨ih0, ih1, ih2⟩ := spec_GoodNfa.mono_l k
    refine ⟨?_, ?_, ?_⟩
    · intro y0 y1 y2 y3 y4
      unfold spec_GoodNfa.j0
      repeat' first
      | (with_reducible exact ih0 _ _ _ _ _)
      | (with_reducible exact ih1 _ _ _ _ _ _ _)
      | (with_reducible exact ih2 _ _ _ _ _ _ _ _ _ _ _ _ _)
      | (with_reducible exact LeO.refl _)
      | (with_reducible exact LeO.none _)
      | (with_reducible refine LeO.ite ?_ ?_)
      | (with_reducible refine LeO.bind ?_ (fun _ => ?_))
      | exact ih0 _ _ _ _ _
      | exact ih1 _ _ _ _ _ _ _
      | exact ih2 _ _ _ _ _ _ _ _ _ _ _ _ _
      | exact LeO.none _
      | refine LeO.ite ?_ ?_
      | refine LeO.bind ?_ (fun _ => ?_)
    · intro y0 y1 y2 y3 y4 y5 y6
      unfold spec_GoodNfa.l0
      repeat' first
      | (with_reducible exact ih0 _ _ _ _ _)
      | (with_reducible exact ih1 _ _ _ _ _ _ _)
      | (with_reducible exact ih2 _ _ _ _ _ _ _ _ _ _ _ _ _)
      | (with_reducible exact LeO.refl _)
      | (with_reducible exact LeO.none _)
      | (with_reducible refine LeO.ite ?_ ?_)
      | (with_reducible refine LeO.bind ?_ (fun _ => ?_))
      | exact ih0 _ _ _ _ _
      | exact ih1 _ _ _ _ _ _ _
      | exact ih2 _ _ _ _ _ _ _ _ _ _ _ _ _
      | exact LeO.none _
      | refine LeO.ite ?_ ?_
      | refine LeO.bind ?_ (fun _ => ?_)
    · intro y0 y1 y2 y3 y4 y5 y6 y7 y8 y9 y10 y11 y12
      unfold spec_GoodNfa.j2
      repeat' first
      | (with_reducible exact ih0 _ _ _ _ _)
      | (with_reducible exact ih1 _ _ _ _ _ _ _)
      | (with_reducible exact ih2 _ _ _ _ _ _ _ _ _ _ _ _ _)
      | (with_reducible exact LeO.refl _)
      | (with_reducible exact LeO.none _)
      | (with_reducible refine LeO.ite ?_ ?_)
      | (with_reducible refine LeO.bind ?_ (fun _ => ?_))
      | exact ih0 _ _ _ _ _
      | exact ih1 _ _ _ _ _ _ _
      | exact ih2 _ _ _ _ _ _ _ _ _ _ _ _ _
      | exact LeO.none _
      | refine LeO.ite ?_ ?_
      | refine LeO.bind ?_ (fun _ => ?_)
theorem spec_GoodNfa.mono : ∀ a0 a1 a2 a3 k, LeO (spec_GoodNfa.f k a0 a1 a2 a3) (spec_GoodNfa.f (k + 1) a0 a1 a2 a3) := by
  intro a0 a1 a2 a3 k
  obtain ⟨ih0, ih1, ih2⟩ := spec_GoodNfa.mono_l k
  unfold spec_GoodNfa.f
  repeat' first
      | (with_reducible exact ih0 _ _ _ _ _)
      | (with_reducible exact ih1 _ _ _ _ _ _ _)
      | (with_reducible exact ih2 _ _ _ _ _ _ _ _ _ _ _ _ _)
      | (with_reducible exact LeO.refl _)
      | (with_reducible exact LeO.none _)
      | (with_reducible refine LeO.ite ?_ ?_)
      | (with_reducible refine LeO.bind ?_ (fun _ => ?_))
      | exact ih0 _ _ _ _ _
      | exact ih1 _ _ _ _ _ _ _
      | exact ih2 _ _ _ _ _ _ _ _ _ _ _ _ _
      | exact LeO.none _
      | refine LeO.ite ?_ ?_
      | refine LeO.bind ?_ (fun _ => ?_)
set_option maxHeartbeats 8000000 in
set_option maxRecDepth 100000 in
theorem spec_GoodNfa.calls (k : Nat) (a0_0 : Int) (a0_1 : Int) (a0_2 : Int) (A0_3 : Option Addr) (c0_3 : Nat) (l0_3 : List (S97)) (r : Bool) (w : World) (hr0_3 : Kd.C k97 w A0_3 l0_3.length l0_3) (hc0_3 : l0_3.length ≤ c0_3) (h : spec_GoodNfa.f k a0_0 a0_1 a0_2 l0_3 = some r) :
    Calls Try.prog 39 #[.agg #[.int .i64 a0_0, .int .i64 a0_1, .int .i64 a0_2, .slice A0_3 l0_3.length c0_3]] w fun e w' => e = .returned (.bool r) ∧ Below w.heap.size w w' := by
  have hu60 := Try.underlying60
  have hu97 := Try.underlying97
  have HR0_3 := Aside0.mk hr0_3
  have HC0_3 := Aside0.mk hc0_3
  clear hr0_3 hc0_3
  have HB := Aside0.mk (Below.refl w.heap.size w)
  have H : ((spec_l1In.f a0_0 1 80).bind fun t131 => (if t131 = true then (if a0_1 < 0 then (spec_GoodNfa.j0 k true a0_0 a0_1 a0_2 l0_3) else (if a0_1 ≥ a0_0 then (spec_GoodNfa.j0 k true a0_0 a0_1 a0_2 l0_3) else (if a0_2 < 0 then (spec_GoodNfa.j0 k true a0_0 a0_1 a0_2 l0_3) else (if a0_2 ≥ a0_0 then (spec_GoodNfa.j0 k true a0_0 a0_1 a0_2 l0_3) else (spec_GoodNfa.j0 k (decide ((l0_3.length : Int) > 200)) a0_0 a0_1 a0_2 l0_3))))) else (spec_GoodNfa.j0 k true a0_0 a0_1 a0_2 l0_3))) = some r := h
  clear h
  have HC2 := Aside0.mk H
  clear H
  go_enter Try.func39, Try.ntmps39
  go_upto_region 1 with (first | ((with_reducible refine gate_dst (N := 1) rfl ?_); (try (refine gate_guard (by rfl) ?_; dsimp only)); refine box_event ?hg (N := 1) ?hd (cs := #[.int .i64 a0_0, .int .i64 a0_1, .int .i64 a0_2, .slice A0_3 l0_3.length c0_3]) (t := 60) ?hr ?_; (case hd => rfl); (case hg => rfl); (case hr => first | (go_simp; done) | (go_simp; rfl)); intro gb130 hg w3 hbox hb; have n0_ := Aside0.mk (below_step (by repeat (first | (with_reducible first | exact HB.out | apply below_alloc | apply pw_below_drewN | apply below_drew1) | exact HB.out)) hb); have n1_ := Aside0.mk (hbox); have n2_ := Aside0.mk ((by rw [hg]; exact (below_size (by repeat (first | (with_reducible first | exact HB.out | apply below_alloc | apply pw_below_drewN | apply below_drew1) | exact HB.out))) : w.heap.size ≤ gb130)); have n3_ := Aside0.mk ((by rw [hg]; exact (below_size (by repeat (first | (with_reducible first | exact HB.out | apply below_alloc | apply pw_below_drewN | apply below_drew1) | exact HB.out))) : w.heap.size ≤ gb130)); clear HB; have HB := n0_; have BK130 := n1_; have GW130 := n2_; have GE130 := n3_; clear n0_ n1_ n2_ n3_; clear hb hbox hg))
  (try simp only [Act.put, List.setIfInBounds_toArray, List.set_cons_zero, List.set_cons_succ])
  go_cut [38] (fun v38 wc => ∃ (kq : Nat) (x38_1 : Bool), v38 = .bool x38_1 ∧ Aside0 (spec_GoodNfa.j0 kq x38_1 a0_0 a0_1 a0_2 l0_3 = some r) ∧ Aside0 (kq ≤ k) ∧ Aside0 (wc.heap[gb130]? = some (.cells #[.int .i64 a0_0, .int .i64 a0_1, .int .i64 a0_2, (.slice A0_3 l0_3.length c0_3)] 60 (0, 0))) ∧ Aside0 (Below w.heap.size w wc))
  case first =>
    have H := HC2.out
    clear HC2
    replace H := Option.bind_eq_some_iff.mp H
    obtain ⟨t131, A40, H⟩ := H
    replace H : (if t131 = true then (if a0_1 < 0 then (spec_GoodNfa.j0 k true a0_0 a0_1 a0_2 l0_3) else (if a0_1 ≥ a0_0 then (spec_GoodNfa.j0 k true a0_0 a0_1 a0_2 l0_3) else (if a0_2 < 0 then (spec_GoodNfa.j0 k true a0_0 a0_1 a0_2 l0_3) else (if a0_2 ≥ a0_0 then (spec_GoodNfa.j0 k true a0_0 a0_1 a0_2 l0_3) else (spec_GoodNfa.j0 k (decide ((l0_3.length : Int) > 200)) a0_0 a0_1 a0_2 l0_3))))) else (spec_GoodNfa.j0 k true a0_0 a0_1 a0_2 l0_3)) = some r := H
    have A4 := Aside0.mk A40
    clear A40
    by_cases c5 : t131 = true
    · subst c5
      have H1 : (if a0_1 < 0 then (spec_GoodNfa.j0 k true a0_0 a0_1 a0_2 l0_3) else (if a0_1 ≥ a0_0 then (spec_GoodNfa.j0 k true a0_0 a0_1 a0_2 l0_3) else (if a0_2 < 0 then (spec_GoodNfa.j0 k true a0_0 a0_1 a0_2 l0_3) else (if a0_2 ≥ a0_0 then (spec_GoodNfa.j0 k true a0_0 a0_1 a0_2 l0_3) else (spec_GoodNfa.j0 k (decide ((l0_3.length : Int) > 200)) a0_0 a0_1 a0_2 l0_3))))) = some r := by rw [if_pos rfl] at H; exact H
      clear H
      have H := H1
      clear H1
      by_cases c6 : a0_1 < 0
      · rw [if_pos c6] at H
        have c6b0 : decide (a0_1 < 0) = true := decide_eq_true c6
        clear c6
        (first | rw [c6b0] | (simp only [i64_w, i32_w]; rw [c6b0]) | skip)
        have H' := Aside0.mk H
        clear H
        have hcz7_0 : w3.cell? ⟨gb130, 0, none⟩ = some (.int .i64 a0_0) := (blk_cell BK130.out 0).trans rfl
        have hcz7_1 : w3.cell? ⟨gb130, 1, none⟩ = some (.int .i64 a0_1) := (blk_cell BK130.out 1).trans rfl
        have hcz7_2 : w3.cell? ⟨gb130, 2, none⟩ = some (.int .i64 a0_2) := (blk_cell BK130.out 2).trans rfl
        have hcz7_3 : w3.cell? ⟨gb130, 3, none⟩ = some (.slice A0_3 l0_3.length c0_3) := (blk_cell BK130.out 3).trans rfl
        have hfz7_0 := blk_frozen BK130.out 0
        have hfz7_1 := blk_frozen BK130.out 1
        have hfz7_2 := blk_frozen BK130.out 2
        have hfz7_3 := blk_frozen BK130.out 3
        go_wp2_with (first | ((with_reducible refine gate_callee (f := 62) rfl ?_); refine goesL_ (some 7) rfl rfl Try.func62 (by kernel_rfl) rfl #[.int .i64 a0_0, .int .i64 1, .int .i64 80] rfl (by (try simp only [List.map_toArray, List.map_cons, List.map_nil]); first | done | rfl | (simp only [List.length_drop, List.length_take]; rfl)) ?_; (with_reducible refine (spec_l1In.calls a0_0 1 80 true _ A4.out).mono ?_); rintro e w' ⟨rfl, ⟨nd, rfl⟩⟩; refine ⟨_, rfl, ?_⟩))
        go_meet
        case rel => exact ⟨_, (true), (by first | rfl | (simp; done) | (simp [*]; done)), H', ⟨by first | omega | exact Nat.le_refl _⟩, ⟨by (with_reducible repeat (first | refine blk_drewN ?_ _ | refine blk_drew ?_ | refine blk_alloc ?_ _)); exact BK130.out⟩, ⟨by repeat (first | (with_reducible first | exact HB.out | apply below_alloc | apply pw_below_drewN | apply below_drew1 | refine below_set ?_ GE130.out) | exact HB.out)⟩⟩
      · rw [if_neg c6] at H
        have c6b0 : decide (a0_1 < 0) = false := decide_eq_false c6
        clear c6
        (first | rw [c6b0] | (simp only [i64_w, i32_w]; rw [c6b0]) | skip)
        by_cases c8 : a0_1 ≥ a0_0
        · rw [if_pos c8] at H
          have c8b0 : decide (a0_0 ≤ a0_1) = true := decide_eq_true c8
          clear c8
          have H' := Aside0.mk H
          clear H
          have hcz9_0 : w3.cell? ⟨gb130, 0, none⟩ = some (.int .i64 a0_0) := (blk_cell BK130.out 0).trans rfl
          have hcz9_1 : w3.cell? ⟨gb130, 1, none⟩ = some (.int .i64 a0_1) := (blk_cell BK130.out 1).trans rfl
          have hcz9_2 : w3.cell? ⟨gb130, 2, none⟩ = some (.int .i64 a0_2) := (blk_cell BK130.out 2).trans rfl
          have hcz9_3 : w3.cell? ⟨gb130, 3, none⟩ = some (.slice A0_3 l0_3.length c0_3) := (blk_cell BK130.out 3).trans rfl
          have hfz9_0 := blk_frozen BK130.out 0
          have hfz9_1 := blk_frozen BK130.out 1
          have hfz9_2 := blk_frozen BK130.out 2
          have hfz9_3 := blk_frozen BK130.out 3
          go_wp2_with (first | ((with_reducible refine gate_callee (f := 62) rfl ?_); refine goesL_ (some 7) rfl rfl Try.func62 (by kernel_rfl) rfl #[.int .i64 a0_0, .int .i64 1, .int .i64 80] rfl (by (try simp only [List.map_toArray, List.map_cons, List.map_nil]); first | done | rfl | (simp only [List.length_drop, List.length_take]; rfl)) ?_; (with_reducible refine (spec_l1In.calls a0_0 1 80 true _ A4.out).mono ?_); rintro e w' ⟨rfl, ⟨nd, rfl⟩⟩; refine ⟨_, rfl, ?_⟩))
          go_meet
          case rel => exact ⟨_, (true), (by first | rfl | (simp; done) | (simp [*]; done)), H', ⟨by first | omega | exact Nat.le_refl _⟩, ⟨by (with_reducible repeat (first | refine blk_drewN ?_ _ | refine blk_drew ?_ | refine blk_alloc ?_ _)); exact BK130.out⟩, ⟨by repeat (first | (with_reducible first | exact HB.out | apply below_alloc | apply pw_below_drewN | apply below_drew1 | refine below_set ?_ GE130.out) | exact HB.out)⟩⟩
        · rw [if_neg c8] at H
          have c8b0 : decide (a0_0 ≤ a0_1) = false := decide_eq_false c8
          clear c8
          by_cases c10 : a0_2 < 0
          · rw [if_pos c10] at H
            have c10b0 : decide (a0_2 < 0) = true := decide_eq_true c10
            clear c10
            have H' := Aside0.mk H
            clear H
            have hcz11_0 : w3.cell? ⟨gb130, 0, none⟩ = some (.int .i64 a0_0) := (blk_cell BK130.out 0).trans rfl
            have hcz11_1 : w3.cell? ⟨gb130, 1, none⟩ = some (.int .i64 a0_1) := (blk_cell BK130.out 1).trans rfl
            have hcz11_2 : w3.cell? ⟨gb130, 2, none⟩ = some (.int .i64 a0_2) := (blk_cell BK130.out 2).trans rfl
            have hcz11_3 : w3.cell? ⟨gb130, 3, none⟩ = some (.slice A0_3 l0_3.length c0_3) := (blk_cell BK130.out 3).trans rfl
            have hfz11_0 := blk_frozen BK130.out 0
            have hfz11_1 := blk_frozen BK130.out 1
            have hfz11_2 := blk_frozen BK130.out 2
            have hfz11_3 := blk_frozen BK130.out 3
            go_wp2_with (first | ((with_reducible refine gate_callee (f := 62) rfl ?_); refine goesL_ (some 7) rfl rfl Try.func62 (by kernel_rfl) rfl #[.int .i64 a0_0, .int .i64 1, .int .i64 80] rfl (by (try simp only [List.map_toArray, List.map_cons, List.map_nil]); first | done | rfl | (simp only [List.length_drop, List.length_take]; rfl)) ?_; (with_reducible refine (spec_l1In.calls a0_0 1 80 true _ A4.out).mono ?_); rintro e w' ⟨rfl, ⟨nd, rfl⟩⟩; refine ⟨_, rfl, ?_⟩))
            go_meet
            case rel => exact ⟨_, (true), (by first | rfl | (simp; done) | (simp [*]; done)), H', ⟨by first | omega | exact Nat.le_refl _⟩, ⟨by (with_reducible repeat (first | refine blk_drewN ?_ _ | refine blk_drew ?_ | refine blk_alloc ?_ _)); exact BK130.out⟩, ⟨by repeat (first | (with_reducible first | exact HB.out | apply below_alloc | apply pw_below_drewN | apply below_drew1 | refine below_set ?_ GE130.out) | exact HB.out)⟩⟩
          · rw [if_neg c10] at H
            have c10b0 : decide (a0_2 < 0) = false := decide_eq_false c10
            clear c10
            by_cases c12 : a0_2 ≥ a0_0
            · rw [if_pos c12] at H
              have c12b0 : decide (a0_0 ≤ a0_2) = true := decide_eq_true c12
              clear c12
              have H' := Aside0.mk H
              clear H
              have hcz13_0 : w3.cell? ⟨gb130, 0, none⟩ = some (.int .i64 a0_0) := (blk_cell BK130.out 0).trans rfl
              have hcz13_1 : w3.cell? ⟨gb130, 1, none⟩ = some (.int .i64 a0_1) := (blk_cell BK130.out 1).trans rfl
              have hcz13_2 : w3.cell? ⟨gb130, 2, none⟩ = some (.int .i64 a0_2) := (blk_cell BK130.out 2).trans rfl
              have hcz13_3 : w3.cell? ⟨gb130, 3, none⟩ = some (.slice A0_3 l0_3.length c0_3) := (blk_cell BK130.out 3).trans rfl
              have hfz13_0 := blk_frozen BK130.out 0
              have hfz13_1 := blk_frozen BK130.out 1
              have hfz13_2 := blk_frozen BK130.out 2
              have hfz13_3 := blk_frozen BK130.out 3
              go_wp2_with (first | ((with_reducible refine gate_callee (f := 62) rfl ?_); refine goesL_ (some 7) rfl rfl Try.func62 (by kernel_rfl) rfl #[.int .i64 a0_0, .int .i64 1, .int .i64 80] rfl (by (try simp only [List.map_toArray, List.map_cons, List.map_nil]); first | done | rfl | (simp only [List.length_drop, List.length_take]; rfl)) ?_; (with_reducible refine (spec_l1In.calls a0_0 1 80 true _ A4.out).mono ?_); rintro e w' ⟨rfl, ⟨nd, rfl⟩⟩; refine ⟨_, rfl, ?_⟩))
              go_meet
              case rel => exact ⟨_, (true), (by first | rfl | (simp; done) | (simp [*]; done)), H', ⟨by first | omega | exact Nat.le_refl _⟩, ⟨by (with_reducible repeat (first | refine blk_drewN ?_ _ | refine blk_drew ?_ | refine blk_alloc ?_ _)); exact BK130.out⟩, ⟨by repeat (first | (with_reducible first | exact HB.out | apply below_alloc | apply pw_below_drewN | apply below_drew1 | refine below_set ?_ GE130.out) | exact HB.out)⟩⟩
            · rw [if_neg c12] at H
              have c12b0 : decide (a0_0 ≤ a0_2) = false := decide_eq_false c12
              clear c12
              have H' := Aside0.mk H
              clear H
              have hcz14_0 : w3.cell? ⟨gb130, 0, none⟩ = some (.int .i64 a0_0) := (blk_cell BK130.out 0).trans rfl
              have hcz14_1 : w3.cell? ⟨gb130, 1, none⟩ = some (.int .i64 a0_1) := (blk_cell BK130.out 1).trans rfl
              have hcz14_2 : w3.cell? ⟨gb130, 2, none⟩ = some (.int .i64 a0_2) := (blk_cell BK130.out 2).trans rfl
              have hcz14_3 : w3.cell? ⟨gb130, 3, none⟩ = some (.slice A0_3 l0_3.length c0_3) := (blk_cell BK130.out 3).trans rfl
              have hfz14_0 := blk_frozen BK130.out 0
              have hfz14_1 := blk_frozen BK130.out 1
              have hfz14_2 := blk_frozen BK130.out 2
              have hfz14_3 := blk_frozen BK130.out 3
              go_wp2_with (first | ((with_reducible refine gate_callee (f := 62) rfl ?_); refine goesL_ (some 7) rfl rfl Try.func62 (by kernel_rfl) rfl #[.int .i64 a0_0, .int .i64 1, .int .i64 80] rfl (by (try simp only [List.map_toArray, List.map_cons, List.map_nil]); first | done | rfl | (simp only [List.length_drop, List.length_take]; rfl)) ?_; (with_reducible refine (spec_l1In.calls a0_0 1 80 true _ A4.out).mono ?_); rintro e w' ⟨rfl, ⟨nd, rfl⟩⟩; refine ⟨_, rfl, ?_⟩))
              go_meet
              case rel => exact ⟨_, (decide ((l0_3.length : Int) > 200)), (by first | rfl | (simp; done) | (simp [*]; done)), H', ⟨by first | omega | exact Nat.le_refl _⟩, ⟨by (with_reducible repeat (first | refine blk_drewN ?_ _ | refine blk_drew ?_ | refine blk_alloc ?_ _)); exact BK130.out⟩, ⟨by repeat (first | (with_reducible first | exact HB.out | apply below_alloc | apply pw_below_drewN | apply below_drew1 | refine below_set ?_ GE130.out) | exact HB.out)⟩⟩
    · replace c5 := Bool.eq_false_iff.mpr c5
      subst c5
      have H1 : (spec_GoodNfa.j0 k true a0_0 a0_1 a0_2 l0_3) = some r := by rw [if_neg (show ¬ (false = true) by decide)] at H; exact H
      clear H
      have H := H1
      clear H1
      have H' := Aside0.mk H
      clear H
      have hcz15_0 : w3.cell? ⟨gb130, 0, none⟩ = some (.int .i64 a0_0) := (blk_cell BK130.out 0).trans rfl
      have hcz15_1 : w3.cell? ⟨gb130, 1, none⟩ = some (.int .i64 a0_1) := (blk_cell BK130.out 1).trans rfl
      have hcz15_2 : w3.cell? ⟨gb130, 2, none⟩ = some (.int .i64 a0_2) := (blk_cell BK130.out 2).trans rfl
      have hcz15_3 : w3.cell? ⟨gb130, 3, none⟩ = some (.slice A0_3 l0_3.length c0_3) := (blk_cell BK130.out 3).trans rfl
      have hfz15_0 := blk_frozen BK130.out 0
      have hfz15_1 := blk_frozen BK130.out 1
      have hfz15_2 := blk_frozen BK130.out 2
      have hfz15_3 := blk_frozen BK130.out 3
      go_wp2_with (first | ((with_reducible refine gate_callee (f := 62) rfl ?_); refine goesL_ (some 7) rfl rfl Try.func62 (by kernel_rfl) rfl #[.int .i64 a0_0, .int .i64 1, .int .i64 80] rfl (by (try simp only [List.map_toArray, List.map_cons, List.map_nil]); first | done | rfl | (simp only [List.length_drop, List.length_take]; rfl)) ?_; (with_reducible refine (spec_l1In.calls a0_0 1 80 false _ A4.out).mono ?_); rintro e w' ⟨rfl, ⟨nd, rfl⟩⟩; refine ⟨_, rfl, ?_⟩))
      go_meet
      case rel => exact ⟨_, (true), (by first | rfl | (simp; done) | (simp [*]; done)), H', ⟨by first | omega | exact Nat.le_refl _⟩, ⟨by (with_reducible repeat (first | refine blk_drewN ?_ _ | refine blk_drew ?_ | refine blk_alloc ?_ _)); exact BK130.out⟩, ⟨by repeat (first | (with_reducible first | exact HB.out | apply below_alloc | apply pw_below_drewN | apply below_drew1 | refine below_set ?_ GE130.out) | exact HB.out)⟩⟩
  case rest =>
    clear HC2
    try clear c1
    try clear p2
    try clear c3
    try clear c5
    try clear c6
    try clear c6b0
    try clear c8
    try clear c8b0
    try clear c10
    try clear c10b0
    try clear c12
    try clear c12b0
    try clear hcz11_0
    try clear hcz11_1
    try clear hcz11_2
    try clear hcz11_3
    try clear hcz13_0
    try clear hcz13_1
    try clear hcz13_2
    try clear hcz13_3
    try clear hcz14_0
    try clear hcz14_1
    try clear hcz14_2
    try clear hcz14_3
    try clear hcz15_0
    try clear hcz15_1
    try clear hcz15_2
    try clear hcz15_3
    try clear hcz7_0
    try clear hcz7_1
    try clear hcz7_2
    try clear hcz7_3
    try clear hcz9_0
    try clear hcz9_1
    try clear hcz9_2
    try clear hcz9_3
    try clear hfz11_0
    try clear hfz11_1
    try clear hfz11_2
    try clear hfz11_3
    try clear hfz13_0
    try clear hfz13_1
    try clear hfz13_2
    try clear hfz13_3
    try clear hfz14_0
    try clear hfz14_1
    try clear hfz14_2
    try clear hfz14_3
    try clear hfz15_0
    try clear hfz15_1
    try clear hfz15_2
    try clear hfz15_3
    try clear hfz7_0
    try clear hfz7_1
    try clear hfz7_2
    try clear hfz7_3
    try clear hfz9_0
    try clear hfz9_1
    try clear hfz9_2
    try clear hfz9_3
    obtain ⟨kq, x38_1, rfl, HA, HJ1, BK130, HB⟩ := hcut
    cases kq with
    | zero => exact absurd HA.out (by simp [spec_GoodNfa.j0])
    | succ kj1 =>
      have H := HA.out
      clear HA
      simp only [spec_GoodNfa.j0] at H
      by_cases c16 : x38_1 = true
      · subst c16
        have H1 : (some false) = some r := by rw [if_pos rfl] at H; exact H
        clear H
        have H := H1
        clear H1
        obtain rfl := Option.some.inj H
        go_wp2
        go_ret
        exact ⟨by first | rfl | (simp [errW_none, errW_some] <;> rfl) | (simp [*, errW_none, errW_some] <;> rfl), by repeat (first | (with_reducible first | exact HB.out | apply below_alloc | apply pw_below_drewN | apply below_drew1 | refine below_set ?_ GE130.out) | exact HB.out)⟩
      · replace c16 := Bool.eq_false_iff.mpr c16
        subst c16
        have H1 : (spec_GoodNfa.l0 kj1 l0_3 (l0_3.length : Int) 0 a0_0 a0_1 a0_2 l0_3) = some r := by rw [if_neg (show ¬ (false = true) by decide)] at H; exact H
        clear H
        have H := H1
        clear H1
        have H' := Aside0.mk H
        clear H
        have hcz17_0 : wc.cell? ⟨gb130, 0, none⟩ = some (.int .i64 a0_0) := (blk_cell BK130.out 0).trans rfl
        have hcz17_1 : wc.cell? ⟨gb130, 1, none⟩ = some (.int .i64 a0_1) := (blk_cell BK130.out 1).trans rfl
        have hcz17_2 : wc.cell? ⟨gb130, 2, none⟩ = some (.int .i64 a0_2) := (blk_cell BK130.out 2).trans rfl
        have hcz17_3 : wc.cell? ⟨gb130, 3, none⟩ = some (.slice A0_3 l0_3.length c0_3) := (blk_cell BK130.out 3).trans rfl
        have hfz17_0 := blk_frozen BK130.out 0
        have hfz17_1 := blk_frozen BK130.out 1
        have hfz17_2 := blk_frozen BK130.out 2
        have hfz17_3 := blk_frozen BK130.out 3
        go_wp2
        go_loopg [42] kj1 (fun kq v42 w' => ∃ (x42_2 : Int), v42 = .int .i64 x42_2 ∧ Aside0 (spec_GoodNfa.l0 kq l0_3 (l0_3.length : Int) x42_2 a0_0 a0_1 a0_2 l0_3 = some r) ∧ Aside0 (kq ≤ kj1) ∧ Aside0 (w'.heap[gb130]? = some (.cells #[.int .i64 a0_0, .int .i64 a0_1, .int .i64 a0_2, (.slice A0_3 l0_3.length c0_3)] 60 (0, 0))) ∧ Aside0 (Below w.heap.size w w'))
        case atStart => exact ⟨(0), (by first | rfl | (simp; done) | (simp [*]; done)), H', ⟨Nat.le_refl _⟩, ⟨by (with_reducible repeat (first | refine blk_drewN ?_ _ | refine blk_drew ?_ | refine blk_alloc ?_ _)); exact BK130.out⟩, ⟨by repeat (first | (with_reducible first | exact HB.out | apply below_alloc | apply pw_below_drewN | apply below_drew1 | refine below_set ?_ GE130.out) | exact HB.out)⟩⟩
        case round =>
          clear H'
          try clear c1
          try clear p2
          try clear c3
          try clear c5
          try clear c6
          try clear c6b0
          try clear c8
          try clear c8b0
          try clear c10
          try clear c10b0
          try clear c12
          try clear c12b0
          try clear c16
          try clear hcz11_0
          try clear hcz11_1
          try clear hcz11_2
          try clear hcz11_3
          try clear hcz13_0
          try clear hcz13_1
          try clear hcz13_2
          try clear hcz13_3
          try clear hcz14_0
          try clear hcz14_1
          try clear hcz14_2
          try clear hcz14_3
          try clear hcz15_0
          try clear hcz15_1
          try clear hcz15_2
          try clear hcz15_3
          try clear hcz17_0
          try clear hcz17_1
          try clear hcz17_2
          try clear hcz17_3
          try clear hcz7_0
          try clear hcz7_1
          try clear hcz7_2
          try clear hcz7_3
          try clear hcz9_0
          try clear hcz9_1
          try clear hcz9_2
          try clear hcz9_3
          try clear hfz11_0
          try clear hfz11_1
          try clear hfz11_2
          try clear hfz11_3
          try clear hfz13_0
          try clear hfz13_1
          try clear hfz13_2
          try clear hfz13_3
          try clear hfz14_0
          try clear hfz14_1
          try clear hfz14_2
          try clear hfz14_3
          try clear hfz15_0
          try clear hfz15_1
          try clear hfz15_2
          try clear hfz15_3
          try clear hfz17_0
          try clear hfz17_1
          try clear hfz17_2
          try clear hfz17_3
          try clear hfz7_0
          try clear hfz7_1
          try clear hfz7_2
          try clear hfz7_3
          try clear hfz9_0
          try clear hfz9_1
          try clear hfz9_2
          try clear hfz9_3
          try clear p2
          obtain ⟨x42_2, rfl, HA, HK2, BK130, HB⟩ := hrel
          cases gk with
          | zero => exact absurd HA.out (by simp [spec_GoodNfa.l0])
          | succ k2 =>
            have H := HA.out
            clear HA
            simp only [spec_GoodNfa.l0] at H
            by_cases c18 : x42_2 < (l0_3.length : Int)
            · rw [if_pos c18] at H
              have c18b0 : decide (x42_2 < (l0_3.length : Int)) = true := decide_eq_true c18
              clear c18
              by_cases c19 : 0 ≤ x42_2
              · rw [if_pos c19] at H
                have c19b0 : decide (0 ≤ x42_2) = true := decide_eq_true c19
                clear c19
                by_cases c20 : x42_2 < (l0_3.length : Int)
                · rw [if_pos c20] at H
                  have c20b0 : decide (x42_2 < (l0_3.length : Int)) = true := decide_eq_true c20
                  clear c20
                  have HC21 := Aside0.mk H
                  clear H
                  have p132 : 0 ≤ (x42_2 : Int) := of_decide_eq_true (by first | (with_reducible assumption) | assumption)
                  have q132 : x42_2 < (l0_3.length : Int) := of_decide_eq_true (by first | (with_reducible assumption) | assumption)
                  obtain ⟨ad132, e132, hx132_0, hx132_1, hx132_2, hx132_3, hx132_4⟩ := at_T97 HR0_3.out x42_2 p132 q132
                  cases e132
                  replace hx132_0 := (HB.out.cell (World.block_lt_of_cell? w _ hx132_0)).trans hx132_0
                  replace hx132_1 := (HB.out.cell (World.block_lt_of_cell? w _ hx132_1)).trans hx132_1
                  replace hx132_2 := (HB.out.cell (World.block_lt_of_cell? w _ hx132_2)).trans hx132_2
                  replace hx132_3 := (HB.out.cell (World.block_lt_of_cell? w _ hx132_3)).trans hx132_3
                  replace hx132_4 := (HB.out.cell (World.block_lt_of_cell? w _ hx132_4)).trans hx132_4
                  replace p132 := eq_true p132
                  replace q132 := eq_true q132
                  go_upto_region 6 with (first | ((with_reducible refine gate_dst (N := 4) rfl ?_); (try (refine gate_guard (by rfl) ?_; dsimp only)); refine box_event ?hg (N := 4) ?hd (cs := #[.int .i64 0, .int .i64 0, .bool false, .bool false, .int .i64 0]) (t := 97) ?hr ?_; (case hd => rfl); (case hg => rfl); (case hr => first | (go_simp; done) | (go_simp; rfl)); intro gb133 hg w22 hbox hb; have n0_ := Aside0.mk (blk_below (g := gb130) (o := .cells #[.int .i64 a0_0, .int .i64 a0_1, .int .i64 a0_2, .slice (some ad132) l0_3.length c0_3] 60 (0, 0)) (by (with_reducible repeat (first | refine blk_drewN ?_ _ | refine blk_drew ?_ | refine blk_alloc ?_ _)); exact BK130.out) hb); have n1_ := Aside0.mk (below_step (by repeat (first | (with_reducible first | exact HB.out | apply below_alloc | apply pw_below_drewN | apply below_drew1 | refine below_set ?_ GE130.out) | exact HB.out)) hb); have n2_ := Aside0.mk (hbox); have n3_ := Aside0.mk ((by rw [hg]; exact (below_size (by repeat (first | (with_reducible first | exact HB.out | apply below_alloc | apply pw_below_drewN | apply below_drew1 | refine below_set ?_ GE130.out) | exact HB.out))) : w.heap.size ≤ gb133)); have n4_ := Aside0.mk ((by rw [hg]; exact (below_size (by repeat (first | (with_reducible first | exact HB.out | apply below_alloc | apply pw_below_drewN | apply below_drew1 | refine below_set ?_ GE130.out) | exact HB.out))) : w.heap.size ≤ gb133)); have n5_ := Aside0.mk ((by rw [hg]; exact Nat.ne_of_lt (blk_lt (g := gb130) (o := .cells #[.int .i64 a0_0, .int .i64 a0_1, .int .i64 a0_2, .slice (some ad132) l0_3.length c0_3] 60 (0, 0)) (by (with_reducible repeat (first | refine blk_drewN ?_ _ | refine blk_drew ?_ | refine blk_alloc ?_ _)); exact BK130.out)) : gb130 ≠ gb133)); have n6_ := Aside0.mk ((by rw [hg]; exact Nat.ne_of_gt (blk_lt (g := gb130) (o := .cells #[.int .i64 a0_0, .int .i64 a0_1, .int .i64 a0_2, .slice (some ad132) l0_3.length c0_3] 60 (0, 0)) (by (with_reducible repeat (first | refine blk_drewN ?_ _ | refine blk_drew ?_ | refine blk_alloc ?_ _)); exact BK130.out)) : gb133 ≠ gb130)); clear BK130; clear HB; have BK130 := n0_; have HB := n1_; have BK133 := n2_; have GW133 := n3_; have GE133 := n4_; have NB130_133 := n5_; have NB133_130 := n6_; clear n0_ n1_ n2_ n3_ n4_ n5_ n6_; clear hb hbox hg; have hnb23 := NB133_130.out; have hnc23 := NB130_133.out; have hcz24_0 : w22.cell? ⟨gb133, 0, none⟩ = some (.int .i64 0) := (blk_cell BK133.out 0).trans rfl; have hcz24_1 : w22.cell? ⟨gb133, 1, none⟩ = some (.int .i64 0) := (blk_cell BK133.out 1).trans rfl; have hcz24_2 : w22.cell? ⟨gb133, 2, none⟩ = some (.bool false) := (blk_cell BK133.out 2).trans rfl; have hcz24_3 : w22.cell? ⟨gb133, 3, none⟩ = some (.bool false) := (blk_cell BK133.out 3).trans rfl; have hcz24_4 : w22.cell? ⟨gb133, 4, none⟩ = some (.int .i64 0) := (blk_cell BK133.out 4).trans rfl; have hfz24_0 := blk_frozen BK133.out 0; have hfz24_1 := blk_frozen BK133.out 1; have hfz24_2 := blk_frozen BK133.out 2; have hfz24_3 := blk_frozen BK133.out 3; have hfz24_4 := blk_frozen BK133.out 4))
                  (try simp only [Act.put, List.setIfInBounds_toArray, List.set_cons_zero, List.set_cons_succ])
                  go_cut [67] (fun v67 wc => ∃ (kq : Nat) (x67_20 : Bool), v67 = .bool x67_20 ∧ Aside0 (spec_GoodNfa.j2 kq l0_3 (l0_3.length : Int) x42_2 x67_20 a0_0 a0_1 a0_2 l0_3 ((rd_T97 l0_3 x42_2).f0) ((rd_T97 l0_3 x42_2).f1) ((rd_T97 l0_3 x42_2).f2) ((rd_T97 l0_3 x42_2).f3) ((rd_T97 l0_3 x42_2).f4) = some r) ∧ Aside0 (kq ≤ k2) ∧ Aside0 (wc.heap[gb130]? = some (.cells #[.int .i64 a0_0, .int .i64 a0_1, .int .i64 a0_2, (.slice (some ad132) l0_3.length c0_3)] 60 (0, 0))) ∧ Aside0 (wc.heap[gb133]? = some (.cells #[.int .i64 ((rd_T97 l0_3 x42_2).f0), .int .i64 ((rd_T97 l0_3 x42_2).f1), .bool ((rd_T97 l0_3 x42_2).f2), .bool ((rd_T97 l0_3 x42_2).f3), .int .i64 ((rd_T97 l0_3 x42_2).f4)] 97 (0, 0))) ∧ Aside0 (Below w.heap.size w wc))
                  case first =>
                    have H := HC21.out
                    clear HC21
                    by_cases c25 : ((rd_T97 l0_3 x42_2).f0) < 0
                    · rw [if_pos c25] at H
                      have c25b0 : decide (((rd_T97 l0_3 x42_2).f0) < 0) = true := decide_eq_true c25
                      clear c25
                      (first | rw [c25b0] | (simp only [i64_w, i32_w]; rw [c25b0]) | skip)
                      have H' := Aside0.mk H
                      clear H
                      have hnb26 := NB133_130.out
                      have hnc26 := NB130_133.out
                      have hcz27_0 : w22.cell? ⟨gb133, 0, none⟩ = some (.int .i64 0) := (blk_cell BK133.out 0).trans rfl
                      have hcz27_1 : w22.cell? ⟨gb133, 1, none⟩ = some (.int .i64 0) := (blk_cell BK133.out 1).trans rfl
                      have hcz27_2 : w22.cell? ⟨gb133, 2, none⟩ = some (.bool false) := (blk_cell BK133.out 2).trans rfl
                      have hcz27_3 : w22.cell? ⟨gb133, 3, none⟩ = some (.bool false) := (blk_cell BK133.out 3).trans rfl
                      have hcz27_4 : w22.cell? ⟨gb133, 4, none⟩ = some (.int .i64 0) := (blk_cell BK133.out 4).trans rfl
                      have hfz27_0 := blk_frozen BK133.out 0
                      have hfz27_1 := blk_frozen BK133.out 1
                      have hfz27_2 := blk_frozen BK133.out 2
                      have hfz27_3 := blk_frozen BK133.out 3
                      have hfz27_4 := blk_frozen BK133.out 4
                      go_wp2
                      go_meet
                      case rel => exact ⟨_, (true), (by first | rfl | (simp; done) | (simp [*]; done)), H', ⟨by have := HJ1.out; have := HK2.out; first | omega | exact Nat.le_refl _⟩, ⟨by (with_reducible repeat (first | refine blk_drewN ?_ _ | refine blk_drew ?_ | refine blk_alloc ?_ _)); refine blk_far ?_ NB130_133.out _; (with_reducible repeat (first | refine blk_drewN ?_ _ | refine blk_drew ?_ | refine blk_alloc ?_ _)); refine blk_far ?_ NB130_133.out _; (with_reducible repeat (first | refine blk_drewN ?_ _ | refine blk_drew ?_ | refine blk_alloc ?_ _)); refine blk_far ?_ NB130_133.out _; (with_reducible repeat (first | refine blk_drewN ?_ _ | refine blk_drew ?_ | refine blk_alloc ?_ _)); refine blk_far ?_ NB130_133.out _; (with_reducible repeat (first | refine blk_drewN ?_ _ | refine blk_drew ?_ | refine blk_alloc ?_ _)); refine blk_far ?_ NB130_133.out _; (with_reducible repeat (first | refine blk_drewN ?_ _ | refine blk_drew ?_ | refine blk_alloc ?_ _)); exact BK130.out⟩, ⟨by (with_reducible repeat (first | refine blk_drewN ?_ _ | refine blk_drew ?_ | refine blk_alloc ?_ _)); refine blk_put (cs := #[.int .i64 ((rd_T97 l0_3 x42_2).f0), .int .i64 ((rd_T97 l0_3 x42_2).f1), .bool ((rd_T97 l0_3 x42_2).f2), .bool ((rd_T97 l0_3 x42_2).f3), .int .i64 0]) ?_ 4 _ rfl; (with_reducible repeat (first | refine blk_drewN ?_ _ | refine blk_drew ?_ | refine blk_alloc ?_ _)); refine blk_put (cs := #[.int .i64 ((rd_T97 l0_3 x42_2).f0), .int .i64 ((rd_T97 l0_3 x42_2).f1), .bool ((rd_T97 l0_3 x42_2).f2), .bool false, .int .i64 0]) ?_ 3 _ rfl; (with_reducible repeat (first | refine blk_drewN ?_ _ | refine blk_drew ?_ | refine blk_alloc ?_ _)); refine blk_put (cs := #[.int .i64 ((rd_T97 l0_3 x42_2).f0), .int .i64 ((rd_T97 l0_3 x42_2).f1), .bool false, .bool false, .int .i64 0]) ?_ 2 _ rfl; (with_reducible repeat (first | refine blk_drewN ?_ _ | refine blk_drew ?_ | refine blk_alloc ?_ _)); refine blk_put (cs := #[.int .i64 ((rd_T97 l0_3 x42_2).f0), .int .i64 0, .bool false, .bool false, .int .i64 0]) ?_ 1 _ rfl; (with_reducible repeat (first | refine blk_drewN ?_ _ | refine blk_drew ?_ | refine blk_alloc ?_ _)); refine blk_put (cs := #[.int .i64 0, .int .i64 0, .bool false, .bool false, .int .i64 0]) ?_ 0 _ rfl; (with_reducible repeat (first | refine blk_drewN ?_ _ | refine blk_drew ?_ | refine blk_alloc ?_ _)); exact BK133.out⟩, ⟨by repeat (first | (with_reducible first | exact HB.out | apply below_alloc | apply pw_below_drewN | apply below_drew1 | refine below_set ?_ GE130.out | refine below_set ?_ GE133.out) | exact HB.out)⟩⟩
                    · rw [if_neg c25] at H
                      have c25b0 : decide (((rd_T97 l0_3 x42_2).f0) < 0) = false := decide_eq_false c25
                      clear c25
                      (first | rw [c25b0] | (simp only [i64_w, i32_w]; rw [c25b0]) | skip)
                      by_cases c28 : ((rd_T97 l0_3 x42_2).f0) ≥ a0_0
                      · rw [if_pos c28] at H
                        have c28b0 : decide (a0_0 ≤ ((rd_T97 l0_3 x42_2).f0)) = true := decide_eq_true c28
                        clear c28
                        have H' := Aside0.mk H
                        clear H
                        have hnb29 := NB133_130.out
                        have hnc29 := NB130_133.out
                        have hcz30_0 : w22.cell? ⟨gb133, 0, none⟩ = some (.int .i64 0) := (blk_cell BK133.out 0).trans rfl
                        have hcz30_1 : w22.cell? ⟨gb133, 1, none⟩ = some (.int .i64 0) := (blk_cell BK133.out 1).trans rfl
                        have hcz30_2 : w22.cell? ⟨gb133, 2, none⟩ = some (.bool false) := (blk_cell BK133.out 2).trans rfl
                        have hcz30_3 : w22.cell? ⟨gb133, 3, none⟩ = some (.bool false) := (blk_cell BK133.out 3).trans rfl
                        have hcz30_4 : w22.cell? ⟨gb133, 4, none⟩ = some (.int .i64 0) := (blk_cell BK133.out 4).trans rfl
                        have hfz30_0 := blk_frozen BK133.out 0
                        have hfz30_1 := blk_frozen BK133.out 1
                        have hfz30_2 := blk_frozen BK133.out 2
                        have hfz30_3 := blk_frozen BK133.out 3
                        have hfz30_4 := blk_frozen BK133.out 4
                        have hcz31_0 : w22.cell? ⟨gb130, 0, none⟩ = some (.int .i64 a0_0) := (blk_cell BK130.out 0).trans rfl
                        have hcz31_1 : w22.cell? ⟨gb130, 1, none⟩ = some (.int .i64 a0_1) := (blk_cell BK130.out 1).trans rfl
                        have hcz31_2 : w22.cell? ⟨gb130, 2, none⟩ = some (.int .i64 a0_2) := (blk_cell BK130.out 2).trans rfl
                        have hcz31_3 : w22.cell? ⟨gb130, 3, none⟩ = some (.slice (some ad132) l0_3.length c0_3) := (blk_cell BK130.out 3).trans rfl
                        have hfz31_0 := blk_frozen BK130.out 0
                        have hfz31_1 := blk_frozen BK130.out 1
                        have hfz31_2 := blk_frozen BK130.out 2
                        have hfz31_3 := blk_frozen BK130.out 3
                        go_wp2
                        go_meet
                        case rel => exact ⟨_, (true), (by first | rfl | (simp; done) | (simp [*]; done)), H', ⟨by have := HJ1.out; have := HK2.out; first | omega | exact Nat.le_refl _⟩, ⟨by (with_reducible repeat (first | refine blk_drewN ?_ _ | refine blk_drew ?_ | refine blk_alloc ?_ _)); refine blk_far ?_ NB130_133.out _; (with_reducible repeat (first | refine blk_drewN ?_ _ | refine blk_drew ?_ | refine blk_alloc ?_ _)); refine blk_far ?_ NB130_133.out _; (with_reducible repeat (first | refine blk_drewN ?_ _ | refine blk_drew ?_ | refine blk_alloc ?_ _)); refine blk_far ?_ NB130_133.out _; (with_reducible repeat (first | refine blk_drewN ?_ _ | refine blk_drew ?_ | refine blk_alloc ?_ _)); refine blk_far ?_ NB130_133.out _; (with_reducible repeat (first | refine blk_drewN ?_ _ | refine blk_drew ?_ | refine blk_alloc ?_ _)); refine blk_far ?_ NB130_133.out _; (with_reducible repeat (first | refine blk_drewN ?_ _ | refine blk_drew ?_ | refine blk_alloc ?_ _)); exact BK130.out⟩, ⟨by (with_reducible repeat (first | refine blk_drewN ?_ _ | refine blk_drew ?_ | refine blk_alloc ?_ _)); refine blk_put (cs := #[.int .i64 ((rd_T97 l0_3 x42_2).f0), .int .i64 ((rd_T97 l0_3 x42_2).f1), .bool ((rd_T97 l0_3 x42_2).f2), .bool ((rd_T97 l0_3 x42_2).f3), .int .i64 0]) ?_ 4 _ rfl; (with_reducible repeat (first | refine blk_drewN ?_ _ | refine blk_drew ?_ | refine blk_alloc ?_ _)); refine blk_put (cs := #[.int .i64 ((rd_T97 l0_3 x42_2).f0), .int .i64 ((rd_T97 l0_3 x42_2).f1), .bool ((rd_T97 l0_3 x42_2).f2), .bool false, .int .i64 0]) ?_ 3 _ rfl; (with_reducible repeat (first | refine blk_drewN ?_ _ | refine blk_drew ?_ | refine blk_alloc ?_ _)); refine blk_put (cs := #[.int .i64 ((rd_T97 l0_3 x42_2).f0), .int .i64 ((rd_T97 l0_3 x42_2).f1), .bool false, .bool false, .int .i64 0]) ?_ 2 _ rfl; (with_reducible repeat (first | refine blk_drewN ?_ _ | refine blk_drew ?_ | refine blk_alloc ?_ _)); refine blk_put (cs := #[.int .i64 ((rd_T97 l0_3 x42_2).f0), .int .i64 0, .bool false, .bool false, .int .i64 0]) ?_ 1 _ rfl; (with_reducible repeat (first | refine blk_drewN ?_ _ | refine blk_drew ?_ | refine blk_alloc ?_ _)); refine blk_put (cs := #[.int .i64 0, .int .i64 0, .bool false, .bool false, .int .i64 0]) ?_ 0 _ rfl; (with_reducible repeat (first | refine blk_drewN ?_ _ | refine blk_drew ?_ | refine blk_alloc ?_ _)); exact BK133.out⟩, ⟨by repeat (first | (with_reducible first | exact HB.out | apply below_alloc | apply pw_below_drewN | apply below_drew1 | refine below_set ?_ GE130.out | refine below_set ?_ GE133.out) | exact HB.out)⟩⟩
                      · rw [if_neg c28] at H
                        have c28b0 : decide (a0_0 ≤ ((rd_T97 l0_3 x42_2).f0)) = false := decide_eq_false c28
                        clear c28
                        by_cases c32 : ((rd_T97 l0_3 x42_2).f1) < 0
                        · rw [if_pos c32] at H
                          have c32b0 : decide (((rd_T97 l0_3 x42_2).f1) < 0) = true := decide_eq_true c32
                          clear c32
                          have H' := Aside0.mk H
                          clear H
                          have hnb33 := NB133_130.out
                          have hnc33 := NB130_133.out
                          have hcz34_0 : w22.cell? ⟨gb133, 0, none⟩ = some (.int .i64 0) := (blk_cell BK133.out 0).trans rfl
                          have hcz34_1 : w22.cell? ⟨gb133, 1, none⟩ = some (.int .i64 0) := (blk_cell BK133.out 1).trans rfl
                          have hcz34_2 : w22.cell? ⟨gb133, 2, none⟩ = some (.bool false) := (blk_cell BK133.out 2).trans rfl
                          have hcz34_3 : w22.cell? ⟨gb133, 3, none⟩ = some (.bool false) := (blk_cell BK133.out 3).trans rfl
                          have hcz34_4 : w22.cell? ⟨gb133, 4, none⟩ = some (.int .i64 0) := (blk_cell BK133.out 4).trans rfl
                          have hfz34_0 := blk_frozen BK133.out 0
                          have hfz34_1 := blk_frozen BK133.out 1
                          have hfz34_2 := blk_frozen BK133.out 2
                          have hfz34_3 := blk_frozen BK133.out 3
                          have hfz34_4 := blk_frozen BK133.out 4
                          have hcz35_0 : w22.cell? ⟨gb130, 0, none⟩ = some (.int .i64 a0_0) := (blk_cell BK130.out 0).trans rfl
                          have hcz35_1 : w22.cell? ⟨gb130, 1, none⟩ = some (.int .i64 a0_1) := (blk_cell BK130.out 1).trans rfl
                          have hcz35_2 : w22.cell? ⟨gb130, 2, none⟩ = some (.int .i64 a0_2) := (blk_cell BK130.out 2).trans rfl
                          have hcz35_3 : w22.cell? ⟨gb130, 3, none⟩ = some (.slice (some ad132) l0_3.length c0_3) := (blk_cell BK130.out 3).trans rfl
                          have hfz35_0 := blk_frozen BK130.out 0
                          have hfz35_1 := blk_frozen BK130.out 1
                          have hfz35_2 := blk_frozen BK130.out 2
                          have hfz35_3 := blk_frozen BK130.out 3
                          go_wp2
                          go_meet
                          case rel => exact ⟨_, (true), (by first | rfl | (simp; done) | (simp [*]; done)), H', ⟨by have := HJ1.out; have := HK2.out; first | omega | exact Nat.le_refl _⟩, ⟨by (with_reducible repeat (first | refine blk_drewN ?_ _ | refine blk_drew ?_ | refine blk_alloc ?_ _)); refine blk_far ?_ NB130_133.out _; (with_reducible repeat (first | refine blk_drewN ?_ _ | refine blk_drew ?_ | refine blk_alloc ?_ _)); refine blk_far ?_ NB130_133.out _; (with_reducible repeat (first | refine blk_drewN ?_ _ | refine blk_drew ?_ | refine blk_alloc ?_ _)); refine blk_far ?_ NB130_133.out _; (with_reducible repeat (first | refine blk_drewN ?_ _ | refine blk_drew ?_ | refine blk_alloc ?_ _)); refine blk_far ?_ NB130_133.out _; (with_reducible repeat (first | refine blk_drewN ?_ _ | refine blk_drew ?_ | refine blk_alloc ?_ _)); refine blk_far ?_ NB130_133.out _; (with_reducible repeat (first | refine blk_drewN ?_ _ | refine blk_drew ?_ | refine blk_alloc ?_ _)); exact BK130.out⟩, ⟨by (with_reducible repeat (first | refine blk_drewN ?_ _ | refine blk_drew ?_ | refine blk_alloc ?_ _)); refine blk_put (cs := #[.int .i64 ((rd_T97 l0_3 x42_2).f0), .int .i64 ((rd_T97 l0_3 x42_2).f1), .bool ((rd_T97 l0_3 x42_2).f2), .bool ((rd_T97 l0_3 x42_2).f3), .int .i64 0]) ?_ 4 _ rfl; (with_reducible repeat (first | refine blk_drewN ?_ _ | refine blk_drew ?_ | refine blk_alloc ?_ _)); refine blk_put (cs := #[.int .i64 ((rd_T97 l0_3 x42_2).f0), .int .i64 ((rd_T97 l0_3 x42_2).f1), .bool ((rd_T97 l0_3 x42_2).f2), .bool false, .int .i64 0]) ?_ 3 _ rfl; (with_reducible repeat (first | refine blk_drewN ?_ _ | refine blk_drew ?_ | refine blk_alloc ?_ _)); refine blk_put (cs := #[.int .i64 ((rd_T97 l0_3 x42_2).f0), .int .i64 ((rd_T97 l0_3 x42_2).f1), .bool false, .bool false, .int .i64 0]) ?_ 2 _ rfl; (with_reducible repeat (first | refine blk_drewN ?_ _ | refine blk_drew ?_ | refine blk_alloc ?_ _)); refine blk_put (cs := #[.int .i64 ((rd_T97 l0_3 x42_2).f0), .int .i64 0, .bool false, .bool false, .int .i64 0]) ?_ 1 _ rfl; (with_reducible repeat (first | refine blk_drewN ?_ _ | refine blk_drew ?_ | refine blk_alloc ?_ _)); refine blk_put (cs := #[.int .i64 0, .int .i64 0, .bool false, .bool false, .int .i64 0]) ?_ 0 _ rfl; (with_reducible repeat (first | refine blk_drewN ?_ _ | refine blk_drew ?_ | refine blk_alloc ?_ _)); exact BK133.out⟩, ⟨by repeat (first | (with_reducible first | exact HB.out | apply below_alloc | apply pw_below_drewN | apply below_drew1 | refine below_set ?_ GE130.out | refine below_set ?_ GE133.out) | exact HB.out)⟩⟩
                        · rw [if_neg c32] at H
                          have c32b0 : decide (((rd_T97 l0_3 x42_2).f1) < 0) = false := decide_eq_false c32
                          clear c32
                          have H' := Aside0.mk H
                          clear H
                          have hnb36 := NB133_130.out
                          have hnc36 := NB130_133.out
                          have hcz37_0 : w22.cell? ⟨gb133, 0, none⟩ = some (.int .i64 0) := (blk_cell BK133.out 0).trans rfl
                          have hcz37_1 : w22.cell? ⟨gb133, 1, none⟩ = some (.int .i64 0) := (blk_cell BK133.out 1).trans rfl
                          have hcz37_2 : w22.cell? ⟨gb133, 2, none⟩ = some (.bool false) := (blk_cell BK133.out 2).trans rfl
                          have hcz37_3 : w22.cell? ⟨gb133, 3, none⟩ = some (.bool false) := (blk_cell BK133.out 3).trans rfl
                          have hcz37_4 : w22.cell? ⟨gb133, 4, none⟩ = some (.int .i64 0) := (blk_cell BK133.out 4).trans rfl
                          have hfz37_0 := blk_frozen BK133.out 0
                          have hfz37_1 := blk_frozen BK133.out 1
                          have hfz37_2 := blk_frozen BK133.out 2
                          have hfz37_3 := blk_frozen BK133.out 3
                          have hfz37_4 := blk_frozen BK133.out 4
                          have hcz38_0 : w22.cell? ⟨gb130, 0, none⟩ = some (.int .i64 a0_0) := (blk_cell BK130.out 0).trans rfl
                          have hcz38_1 : w22.cell? ⟨gb130, 1, none⟩ = some (.int .i64 a0_1) := (blk_cell BK130.out 1).trans rfl
                          have hcz38_2 : w22.cell? ⟨gb130, 2, none⟩ = some (.int .i64 a0_2) := (blk_cell BK130.out 2).trans rfl
                          have hcz38_3 : w22.cell? ⟨gb130, 3, none⟩ = some (.slice (some ad132) l0_3.length c0_3) := (blk_cell BK130.out 3).trans rfl
                          have hfz38_0 := blk_frozen BK130.out 0
                          have hfz38_1 := blk_frozen BK130.out 1
                          have hfz38_2 := blk_frozen BK130.out 2
                          have hfz38_3 := blk_frozen BK130.out 3
                          go_wp2
                          go_meet
                          case rel => exact ⟨_, (decide (((rd_T97 l0_3 x42_2).f1) ≥ a0_0)), (by first | rfl | (simp; done) | (simp [*]; done)), H', ⟨by have := HJ1.out; have := HK2.out; first | omega | exact Nat.le_refl _⟩, ⟨by (with_reducible repeat (first | refine blk_drewN ?_ _ | refine blk_drew ?_ | refine blk_alloc ?_ _)); refine blk_far ?_ NB130_133.out _; (with_reducible repeat (first | refine blk_drewN ?_ _ | refine blk_drew ?_ | refine blk_alloc ?_ _)); refine blk_far ?_ NB130_133.out _; (with_reducible repeat (first | refine blk_drewN ?_ _ | refine blk_drew ?_ | refine blk_alloc ?_ _)); refine blk_far ?_ NB130_133.out _; (with_reducible repeat (first | refine blk_drewN ?_ _ | refine blk_drew ?_ | refine blk_alloc ?_ _)); refine blk_far ?_ NB130_133.out _; (with_reducible repeat (first | refine blk_drewN ?_ _ | refine blk_drew ?_ | refine blk_alloc ?_ _)); refine blk_far ?_ NB130_133.out _; (with_reducible repeat (first | refine blk_drewN ?_ _ | refine blk_drew ?_ | refine blk_alloc ?_ _)); exact BK130.out⟩, ⟨by (with_reducible repeat (first | refine blk_drewN ?_ _ | refine blk_drew ?_ | refine blk_alloc ?_ _)); refine blk_put (cs := #[.int .i64 ((rd_T97 l0_3 x42_2).f0), .int .i64 ((rd_T97 l0_3 x42_2).f1), .bool ((rd_T97 l0_3 x42_2).f2), .bool ((rd_T97 l0_3 x42_2).f3), .int .i64 0]) ?_ 4 _ rfl; (with_reducible repeat (first | refine blk_drewN ?_ _ | refine blk_drew ?_ | refine blk_alloc ?_ _)); refine blk_put (cs := #[.int .i64 ((rd_T97 l0_3 x42_2).f0), .int .i64 ((rd_T97 l0_3 x42_2).f1), .bool ((rd_T97 l0_3 x42_2).f2), .bool false, .int .i64 0]) ?_ 3 _ rfl; (with_reducible repeat (first | refine blk_drewN ?_ _ | refine blk_drew ?_ | refine blk_alloc ?_ _)); refine blk_put (cs := #[.int .i64 ((rd_T97 l0_3 x42_2).f0), .int .i64 ((rd_T97 l0_3 x42_2).f1), .bool false, .bool false, .int .i64 0]) ?_ 2 _ rfl; (with_reducible repeat (first | refine blk_drewN ?_ _ | refine blk_drew ?_ | refine blk_alloc ?_ _)); refine blk_put (cs := #[.int .i64 ((rd_T97 l0_3 x42_2).f0), .int .i64 0, .bool false, .bool false, .int .i64 0]) ?_ 1 _ rfl; (with_reducible repeat (first | refine blk_drewN ?_ _ | refine blk_drew ?_ | refine blk_alloc ?_ _)); refine blk_put (cs := #[.int .i64 0, .int .i64 0, .bool false, .bool false, .int .i64 0]) ?_ 0 _ rfl; (with_reducible repeat (first | refine blk_drewN ?_ _ | refine blk_drew ?_ | refine blk_alloc ?_ _)); exact BK133.out⟩, ⟨by repeat (first | (with_reducible first | exact HB.out | apply below_alloc | apply pw_below_drewN | apply below_drew1 | refine below_set ?_ GE130.out | refine below_set ?_ GE133.out) | exact HB.out)⟩⟩
                  case rest =>
                    clear HC21
                    try clear c1
                    try clear p1
                    try clear q1
                    try clear hx1
                    try clear c2
                    try clear p2
                    try clear c3
                    try clear c5
                    try clear c6
                    try clear c6b0
                    try clear c8
                    try clear c8b0
                    try clear c10
                    try clear c10b0
                    try clear c12
                    try clear c12b0
                    try clear p13
                    try clear q13
                    try clear hx13
                    try clear c16
                    try clear c18
                    try clear c18b0
                    try clear c19
                    try clear c19b0
                    try clear c20
                    try clear c20b0
                    try clear c23
                    try clear c25
                    try clear c25b0
                    try clear c26
                    try clear c28
                    try clear c28b0
                    try clear c29
                    try clear c32
                    try clear c32b0
                    try clear c33
                    try clear c36
                    try clear hcz11_0
                    try clear hcz11_1
                    try clear hcz11_2
                    try clear hcz11_3
                    try clear hcz13_0
                    try clear hcz13_1
                    try clear hcz13_2
                    try clear hcz13_3
                    try clear hcz14_0
                    try clear hcz14_1
                    try clear hcz14_2
                    try clear hcz14_3
                    try clear hcz15_0
                    try clear hcz15_1
                    try clear hcz15_2
                    try clear hcz15_3
                    try clear hcz17_0
                    try clear hcz17_1
                    try clear hcz17_2
                    try clear hcz17_3
                    try clear hcz24_0
                    try clear hcz24_1
                    try clear hcz24_2
                    try clear hcz24_3
                    try clear hcz24_4
                    try clear hcz27_0
                    try clear hcz27_1
                    try clear hcz27_2
                    try clear hcz27_3
                    try clear hcz27_4
                    try clear hcz30_0
                    try clear hcz30_1
                    try clear hcz30_2
                    try clear hcz30_3
                    try clear hcz30_4
                    try clear hcz31_0
                    try clear hcz31_1
                    try clear hcz31_2
                    try clear hcz31_3
                    try clear hcz34_0
                    try clear hcz34_1
                    try clear hcz34_2
                    try clear hcz34_3
                    try clear hcz34_4
                    try clear hcz35_0
                    try clear hcz35_1
                    try clear hcz35_2
                    try clear hcz35_3
                    try clear hcz37_0
                    try clear hcz37_1
                    try clear hcz37_2
                    try clear hcz37_3
                    try clear hcz37_4
                    try clear hcz38_0
                    try clear hcz38_1
                    try clear hcz38_2
                    try clear hcz38_3
                    try clear hcz7_0
                    try clear hcz7_1
                    try clear hcz7_2
                    try clear hcz7_3
                    try clear hcz9_0
                    try clear hcz9_1
                    try clear hcz9_2
                    try clear hcz9_3
                    try clear hfz11_0
                    try clear hfz11_1
                    try clear hfz11_2
                    try clear hfz11_3
                    try clear hfz13_0
                    try clear hfz13_1
                    try clear hfz13_2
                    try clear hfz13_3
                    try clear hfz14_0
                    try clear hfz14_1
                    try clear hfz14_2
                    try clear hfz14_3
                    try clear hfz15_0
                    try clear hfz15_1
                    try clear hfz15_2
                    try clear hfz15_3
                    try clear hfz17_0
                    try clear hfz17_1
                    try clear hfz17_2
                    try clear hfz17_3
                    try clear hfz24_0
                    try clear hfz24_1
                    try clear hfz24_2
                    try clear hfz24_3
                    try clear hfz24_4
                    try clear hfz27_0
                    try clear hfz27_1
                    try clear hfz27_2
                    try clear hfz27_3
                    try clear hfz27_4
                    try clear hfz30_0
                    try clear hfz30_1
                    try clear hfz30_2
                    try clear hfz30_3
                    try clear hfz30_4
                    try clear hfz31_0
                    try clear hfz31_1
                    try clear hfz31_2
                    try clear hfz31_3
                    try clear hfz34_0
                    try clear hfz34_1
                    try clear hfz34_2
                    try clear hfz34_3
                    try clear hfz34_4
                    try clear hfz35_0
                    try clear hfz35_1
                    try clear hfz35_2
                    try clear hfz35_3
                    try clear hfz37_0
                    try clear hfz37_1
                    try clear hfz37_2
                    try clear hfz37_3
                    try clear hfz37_4
                    try clear hfz38_0
                    try clear hfz38_1
                    try clear hfz38_2
                    try clear hfz38_3
                    try clear hfz7_0
                    try clear hfz7_1
                    try clear hfz7_2
                    try clear hfz7_3
                    try clear hfz9_0
                    try clear hfz9_1
                    try clear hfz9_2
                    try clear hfz9_3
                    try clear hx132_0
                    try clear hx132_1
                    try clear hx132_2
                    try clear hx132_3
                    try clear hx132_4
                    try clear p132
                    try clear p2
                    try clear q132
                    obtain ⟨kq, x67_20, rfl, HA, HJ20, BK130, BK133, HB⟩ := hcut
                    cases kq with
                    | zero => exact absurd HA.out (by simp [spec_GoodNfa.j2])
                    | succ kj20 =>
                      have H := HA.out
                      clear HA
                      simp only [spec_GoodNfa.j2] at H
                      by_cases c39 : x67_20 = true
                      · subst c39
                        have H1 : (some false) = some r := by rw [if_pos rfl] at H; exact H
                        clear H
                        have H := H1
                        clear H1
                        obtain rfl := Option.some.inj H
                        go_wp2
                        go_ret
                        exact ⟨by first | rfl | (simp [errW_none, errW_some] <;> rfl) | (simp [*, errW_none, errW_some] <;> rfl), by repeat (first | (with_reducible first | exact HB.out | apply below_alloc | apply pw_below_drewN | apply below_drew1 | refine below_set ?_ GE130.out | refine below_set ?_ GE133.out) | exact HB.out)⟩
                      · replace c39 := Bool.eq_false_iff.mpr c39
                        subst c39
                        have H1 : (if ((rd_T97 l0_3 x42_2).f2) = true then (if ((rd_T97 l0_3 x42_2).f3) = true then (some false) else (if ((rd_T97 l0_3 x42_2).f4) = 0 then (spec_GoodNfa.l0 kj20 l0_3 (l0_3.length : Int) (wrap64 (x42_2 + 1)) a0_0 a0_1 a0_2 l0_3) else (some false))) else (if ((rd_T97 l0_3 x42_2).f3) = true then (if ((rd_T97 l0_3 x42_2).f4) = 0 then (spec_GoodNfa.l0 kj20 l0_3 (l0_3.length : Int) (wrap64 (x42_2 + 1)) a0_0 a0_1 a0_2 l0_3) else (some false)) else ((spec_l1In.f ((rd_T97 l0_3 x42_2).f4) 1 65535).bind fun t134 => (if t134 = true then (spec_GoodNfa.l0 kj20 l0_3 (l0_3.length : Int) (wrap64 (x42_2 + 1)) a0_0 a0_1 a0_2 l0_3) else (some false))))) = some r := by rw [if_neg (show ¬ (false = true) by decide)] at H; exact H
                        clear H
                        have H := H1
                        clear H1
                        by_cases c40 : ((rd_T97 l0_3 x42_2).f2) = true
                        · rw [if_pos c40] at H
                          have c40b0 : ((rd_T97 l0_3 x42_2).f2) = true := c40
                          clear c40
                          by_cases c41 : ((rd_T97 l0_3 x42_2).f3) = true
                          · rw [if_pos c41] at H
                            have c41b0 : ((rd_T97 l0_3 x42_2).f3) = true := c41
                            clear c41
                            obtain rfl := Option.some.inj H
                            have hnb42 := NB133_130.out
                            have hnc42 := NB130_133.out
                            have hcz43_0 : wc.cell? ⟨gb133, 0, none⟩ = some (.int .i64 ((rd_T97 l0_3 x42_2).f0)) := (blk_cell BK133.out 0).trans rfl
                            have hcz43_1 : wc.cell? ⟨gb133, 1, none⟩ = some (.int .i64 ((rd_T97 l0_3 x42_2).f1)) := (blk_cell BK133.out 1).trans rfl
                            have hcz43_2 : wc.cell? ⟨gb133, 2, none⟩ = some (.bool ((rd_T97 l0_3 x42_2).f2)) := (blk_cell BK133.out 2).trans rfl
                            have hcz43_3 : wc.cell? ⟨gb133, 3, none⟩ = some (.bool ((rd_T97 l0_3 x42_2).f3)) := (blk_cell BK133.out 3).trans rfl
                            have hcz43_4 : wc.cell? ⟨gb133, 4, none⟩ = some (.int .i64 ((rd_T97 l0_3 x42_2).f4)) := (blk_cell BK133.out 4).trans rfl
                            have hfz43_0 := blk_frozen BK133.out 0
                            have hfz43_1 := blk_frozen BK133.out 1
                            have hfz43_2 := blk_frozen BK133.out 2
                            have hfz43_3 := blk_frozen BK133.out 3
                            have hfz43_4 := blk_frozen BK133.out 4
                            go_wp2
                            go_ret
                            exact ⟨by first | rfl | (simp [errW_none, errW_some] <;> rfl) | (simp [*, errW_none, errW_some] <;> rfl), by repeat (first | (with_reducible first | exact HB.out | apply below_alloc | apply pw_below_drewN | apply below_drew1 | refine below_set ?_ GE130.out | refine below_set ?_ GE133.out) | exact HB.out)⟩
                          · rw [if_neg c41] at H
                            have c41b0 : ((rd_T97 l0_3 x42_2).f3) = false := by simpa using c41
                            clear c41
                            by_cases c44 : ((rd_T97 l0_3 x42_2).f4) = 0
                            · rw [if_pos c44] at H
                              have c44b0 : (((rd_T97 l0_3 x42_2).f4) == 0) = true := beq_iff_eq.mpr c44
                              have c44b1 : (((rd_T97 l0_3 x42_2).f4) != 0) = false := bne_eq_false_iff_eq.mpr c44
                              clear c44
                              have H' := Aside0.mk H
                              clear H
                              have hnb45 := NB133_130.out
                              have hnc45 := NB130_133.out
                              have hcz46_0 : wc.cell? ⟨gb133, 0, none⟩ = some (.int .i64 ((rd_T97 l0_3 x42_2).f0)) := (blk_cell BK133.out 0).trans rfl
                              have hcz46_1 : wc.cell? ⟨gb133, 1, none⟩ = some (.int .i64 ((rd_T97 l0_3 x42_2).f1)) := (blk_cell BK133.out 1).trans rfl
                              have hcz46_2 : wc.cell? ⟨gb133, 2, none⟩ = some (.bool ((rd_T97 l0_3 x42_2).f2)) := (blk_cell BK133.out 2).trans rfl
                              have hcz46_3 : wc.cell? ⟨gb133, 3, none⟩ = some (.bool ((rd_T97 l0_3 x42_2).f3)) := (blk_cell BK133.out 3).trans rfl
                              have hcz46_4 : wc.cell? ⟨gb133, 4, none⟩ = some (.int .i64 ((rd_T97 l0_3 x42_2).f4)) := (blk_cell BK133.out 4).trans rfl
                              have hfz46_0 := blk_frozen BK133.out 0
                              have hfz46_1 := blk_frozen BK133.out 1
                              have hfz46_2 := blk_frozen BK133.out 2
                              have hfz46_3 := blk_frozen BK133.out 3
                              have hfz46_4 := blk_frozen BK133.out 4
                              go_wp2
                              go_roundg kj20
                              case measure => have := HJ1.out; have := HK2.out; have := HJ20.out; omega
                              case rel => exact ⟨(wrap64 (x42_2 + 1)), (by first | rfl | (simp; done) | (simp [*]; done)), H', ⟨by have := HJ1.out; have := HK2.out; have := HJ20.out; omega⟩, ⟨by (with_reducible repeat (first | refine blk_drewN ?_ _ | refine blk_drew ?_ | refine blk_alloc ?_ _)); exact BK130.out⟩, ⟨by repeat (first | (with_reducible first | exact HB.out | apply below_alloc | apply pw_below_drewN | apply below_drew1 | refine below_set ?_ GE130.out | refine below_set ?_ GE133.out) | exact HB.out)⟩⟩
                            · rw [if_neg c44] at H
                              have c44b0 : (((rd_T97 l0_3 x42_2).f4) == 0) = false := beq_eq_false_iff_ne.mpr c44
                              have c44b1 : (((rd_T97 l0_3 x42_2).f4) != 0) = true := bne_iff_ne.mpr c44
                              obtain rfl := Option.some.inj H
                              have hnb47 := NB133_130.out
                              have hnc47 := NB130_133.out
                              have hcz48_0 : wc.cell? ⟨gb133, 0, none⟩ = some (.int .i64 ((rd_T97 l0_3 x42_2).f0)) := (blk_cell BK133.out 0).trans rfl
                              have hcz48_1 : wc.cell? ⟨gb133, 1, none⟩ = some (.int .i64 ((rd_T97 l0_3 x42_2).f1)) := (blk_cell BK133.out 1).trans rfl
                              have hcz48_2 : wc.cell? ⟨gb133, 2, none⟩ = some (.bool ((rd_T97 l0_3 x42_2).f2)) := (blk_cell BK133.out 2).trans rfl
                              have hcz48_3 : wc.cell? ⟨gb133, 3, none⟩ = some (.bool ((rd_T97 l0_3 x42_2).f3)) := (blk_cell BK133.out 3).trans rfl
                              have hcz48_4 : wc.cell? ⟨gb133, 4, none⟩ = some (.int .i64 ((rd_T97 l0_3 x42_2).f4)) := (blk_cell BK133.out 4).trans rfl
                              have hfz48_0 := blk_frozen BK133.out 0
                              have hfz48_1 := blk_frozen BK133.out 1
                              have hfz48_2 := blk_frozen BK133.out 2
                              have hfz48_3 := blk_frozen BK133.out 3
                              have hfz48_4 := blk_frozen BK133.out 4
                              go_wp2
                              go_ret
                              exact ⟨by first | rfl | (simp [errW_none, errW_some] <;> rfl) | (simp [*, errW_none, errW_some] <;> rfl), by repeat (first | (with_reducible first | exact HB.out | apply below_alloc | apply pw_below_drewN | apply below_drew1 | refine below_set ?_ GE130.out | refine below_set ?_ GE133.out) | exact HB.out)⟩
                        · rw [if_neg c40] at H
                          have c40b0 : ((rd_T97 l0_3 x42_2).f2) = false := by simpa using c40
                          clear c40
                          by_cases c49 : ((rd_T97 l0_3 x42_2).f3) = true
                          · rw [if_pos c49] at H
                            have c49b0 : ((rd_T97 l0_3 x42_2).f3) = true := c49
                            clear c49
                            by_cases c50 : ((rd_T97 l0_3 x42_2).f4) = 0
                            · rw [if_pos c50] at H
                              have c50b0 : (((rd_T97 l0_3 x42_2).f4) == 0) = true := beq_iff_eq.mpr c50
                              have c50b1 : (((rd_T97 l0_3 x42_2).f4) != 0) = false := bne_eq_false_iff_eq.mpr c50
                              clear c50
                              have H' := Aside0.mk H
                              clear H
                              have hnb51 := NB133_130.out
                              have hnc51 := NB130_133.out
                              have hcz52_0 : wc.cell? ⟨gb133, 0, none⟩ = some (.int .i64 ((rd_T97 l0_3 x42_2).f0)) := (blk_cell BK133.out 0).trans rfl
                              have hcz52_1 : wc.cell? ⟨gb133, 1, none⟩ = some (.int .i64 ((rd_T97 l0_3 x42_2).f1)) := (blk_cell BK133.out 1).trans rfl
                              have hcz52_2 : wc.cell? ⟨gb133, 2, none⟩ = some (.bool ((rd_T97 l0_3 x42_2).f2)) := (blk_cell BK133.out 2).trans rfl
                              have hcz52_3 : wc.cell? ⟨gb133, 3, none⟩ = some (.bool ((rd_T97 l0_3 x42_2).f3)) := (blk_cell BK133.out 3).trans rfl
                              have hcz52_4 : wc.cell? ⟨gb133, 4, none⟩ = some (.int .i64 ((rd_T97 l0_3 x42_2).f4)) := (blk_cell BK133.out 4).trans rfl
                              have hfz52_0 := blk_frozen BK133.out 0
                              have hfz52_1 := blk_frozen BK133.out 1
                              have hfz52_2 := blk_frozen BK133.out 2
                              have hfz52_3 := blk_frozen BK133.out 3
                              have hfz52_4 := blk_frozen BK133.out 4
                              go_wp2
                              go_roundg kj20
                              case measure => have := HJ1.out; have := HK2.out; have := HJ20.out; omega
                              case rel => exact ⟨(wrap64 (x42_2 + 1)), (by first | rfl | (simp; done) | (simp [*]; done)), H', ⟨by have := HJ1.out; have := HK2.out; have := HJ20.out; omega⟩, ⟨by (with_reducible repeat (first | refine blk_drewN ?_ _ | refine blk_drew ?_ | refine blk_alloc ?_ _)); exact BK130.out⟩, ⟨by repeat (first | (with_reducible first | exact HB.out | apply below_alloc | apply pw_below_drewN | apply below_drew1 | refine below_set ?_ GE130.out | refine below_set ?_ GE133.out) | exact HB.out)⟩⟩
                            · rw [if_neg c50] at H
                              have c50b0 : (((rd_T97 l0_3 x42_2).f4) == 0) = false := beq_eq_false_iff_ne.mpr c50
                              have c50b1 : (((rd_T97 l0_3 x42_2).f4) != 0) = true := bne_iff_ne.mpr c50
                              obtain rfl := Option.some.inj H
                              have hnb53 := NB133_130.out
                              have hnc53 := NB130_133.out
                              have hcz54_0 : wc.cell? ⟨gb133, 0, none⟩ = some (.int .i64 ((rd_T97 l0_3 x42_2).f0)) := (blk_cell BK133.out 0).trans rfl
                              have hcz54_1 : wc.cell? ⟨gb133, 1, none⟩ = some (.int .i64 ((rd_T97 l0_3 x42_2).f1)) := (blk_cell BK133.out 1).trans rfl
                              have hcz54_2 : wc.cell? ⟨gb133, 2, none⟩ = some (.bool ((rd_T97 l0_3 x42_2).f2)) := (blk_cell BK133.out 2).trans rfl
                              have hcz54_3 : wc.cell? ⟨gb133, 3, none⟩ = some (.bool ((rd_T97 l0_3 x42_2).f3)) := (blk_cell BK133.out 3).trans rfl
                              have hcz54_4 : wc.cell? ⟨gb133, 4, none⟩ = some (.int .i64 ((rd_T97 l0_3 x42_2).f4)) := (blk_cell BK133.out 4).trans rfl
                              have hfz54_0 := blk_frozen BK133.out 0
                              have hfz54_1 := blk_frozen BK133.out 1
                              have hfz54_2 := blk_frozen BK133.out 2
                              have hfz54_3 := blk_frozen BK133.out 3
                              have hfz54_4 := blk_frozen BK133.out 4
                              go_wp2
                              go_ret
                              exact ⟨by first | rfl | (simp [errW_none, errW_some] <;> rfl) | (simp [*, errW_none, errW_some] <;> rfl), by repeat (first | (with_reducible first | exact HB.out | apply below_alloc | apply pw_below_drewN | apply below_drew1 | refine below_set ?_ GE130.out | refine below_set ?_ GE133.out) | exact HB.out)⟩
                          · rw [if_neg c49] at H
                            have c49b0 : ((rd_T97 l0_3 x42_2).f3) = false := by simpa using c49
                            clear c49
                            replace H := Option.bind_eq_some_iff.mp H
                            obtain ⟨t134, A550, H⟩ := H
                            replace H : (if t134 = true then (spec_GoodNfa.l0 kj20 l0_3 (l0_3.length : Int) (wrap64 (x42_2 + 1)) a0_0 a0_1 a0_2 l0_3) else (some false)) = some r := H
                            have A55 := Aside0.mk A550
                            clear A550
                            by_cases c56 : t134 = true
                            · subst c56
                              have H1 : (spec_GoodNfa.l0 kj20 l0_3 (l0_3.length : Int) (wrap64 (x42_2 + 1)) a0_0 a0_1 a0_2 l0_3) = some r := by rw [if_pos rfl] at H; exact H
                              clear H
                              have H := H1
                              clear H1
                              have H' := Aside0.mk H
                              clear H
                              have hnb57 := NB133_130.out
                              have hnc57 := NB130_133.out
                              have hcz58_0 : wc.cell? ⟨gb133, 0, none⟩ = some (.int .i64 ((rd_T97 l0_3 x42_2).f0)) := (blk_cell BK133.out 0).trans rfl
                              have hcz58_1 : wc.cell? ⟨gb133, 1, none⟩ = some (.int .i64 ((rd_T97 l0_3 x42_2).f1)) := (blk_cell BK133.out 1).trans rfl
                              have hcz58_2 : wc.cell? ⟨gb133, 2, none⟩ = some (.bool ((rd_T97 l0_3 x42_2).f2)) := (blk_cell BK133.out 2).trans rfl
                              have hcz58_3 : wc.cell? ⟨gb133, 3, none⟩ = some (.bool ((rd_T97 l0_3 x42_2).f3)) := (blk_cell BK133.out 3).trans rfl
                              have hcz58_4 : wc.cell? ⟨gb133, 4, none⟩ = some (.int .i64 ((rd_T97 l0_3 x42_2).f4)) := (blk_cell BK133.out 4).trans rfl
                              have hfz58_0 := blk_frozen BK133.out 0
                              have hfz58_1 := blk_frozen BK133.out 1
                              have hfz58_2 := blk_frozen BK133.out 2
                              have hfz58_3 := blk_frozen BK133.out 3
                              have hfz58_4 := blk_frozen BK133.out 4
                              go_wp2_with (first | (go_at_call 62; (with_reducible refine (spec_l1In.calls ((rd_T97 l0_3 x42_2).f4) 1 65535 true _ A55.out).mono ?_); rintro e w' ⟨rfl, ⟨nd, rfl⟩⟩))
                              go_roundg kj20
                              case measure => have := HJ1.out; have := HK2.out; have := HJ20.out; omega
                              case rel => exact ⟨(wrap64 (x42_2 + 1)), (by first | rfl | (simp; done) | (simp [*]; done)), H', ⟨by have := HJ1.out; have := HK2.out; have := HJ20.out; omega⟩, ⟨by (with_reducible repeat (first | refine blk_drewN ?_ _ | refine blk_drew ?_ | refine blk_alloc ?_ _)); exact BK130.out⟩, ⟨by repeat (first | (with_reducible first | exact HB.out | apply below_alloc | apply pw_below_drewN | apply below_drew1 | refine below_set ?_ GE130.out | refine below_set ?_ GE133.out) | exact HB.out)⟩⟩
                            · replace c56 := Bool.eq_false_iff.mpr c56
                              subst c56
                              have H1 : (some false) = some r := by rw [if_neg (show ¬ (false = true) by decide)] at H; exact H
                              clear H
                              have H := H1
                              clear H1
                              obtain rfl := Option.some.inj H
                              have hnb59 := NB133_130.out
                              have hnc59 := NB130_133.out
                              have hcz60_0 : wc.cell? ⟨gb133, 0, none⟩ = some (.int .i64 ((rd_T97 l0_3 x42_2).f0)) := (blk_cell BK133.out 0).trans rfl
                              have hcz60_1 : wc.cell? ⟨gb133, 1, none⟩ = some (.int .i64 ((rd_T97 l0_3 x42_2).f1)) := (blk_cell BK133.out 1).trans rfl
                              have hcz60_2 : wc.cell? ⟨gb133, 2, none⟩ = some (.bool ((rd_T97 l0_3 x42_2).f2)) := (blk_cell BK133.out 2).trans rfl
                              have hcz60_3 : wc.cell? ⟨gb133, 3, none⟩ = some (.bool ((rd_T97 l0_3 x42_2).f3)) := (blk_cell BK133.out 3).trans rfl
                              have hcz60_4 : wc.cell? ⟨gb133, 4, none⟩ = some (.int .i64 ((rd_T97 l0_3 x42_2).f4)) := (blk_cell BK133.out 4).trans rfl
                              have hfz60_0 := blk_frozen BK133.out 0
                              have hfz60_1 := blk_frozen BK133.out 1
                              have hfz60_2 := blk_frozen BK133.out 2
                              have hfz60_3 := blk_frozen BK133.out 3
                              have hfz60_4 := blk_frozen BK133.out 4
                              go_wp2_with (first | (go_at_call 62; (with_reducible refine (spec_l1In.calls ((rd_T97 l0_3 x42_2).f4) 1 65535 false _ A55.out).mono ?_); rintro e w' ⟨rfl, ⟨nd, rfl⟩⟩))
                              go_ret
                              exact ⟨by first | rfl | (simp [errW_none, errW_some] <;> rfl) | (simp [*, errW_none, errW_some] <;> rfl), by repeat (first | (with_reducible first | exact HB.out | apply below_alloc | apply pw_below_drewN | apply below_drew1 | refine below_set ?_ GE130.out | refine below_set ?_ GE133.out) | exact HB.out)⟩
                · rw [if_neg c20] at H
                  exact absurd H (by simp)
              · rw [if_neg c19] at H
                exact absurd H (by simp)
            · rw [if_neg c18] at H
              have c18b0 : decide (x42_2 < (l0_3.length : Int)) = false := decide_eq_false c18
              clear c18
              obtain rfl := Option.some.inj H
              go_wp2
              go_ret
              exact ⟨by first | rfl | (simp [errW_none, errW_some] <;> rfl) | (simp [*, errW_none, errW_some] <;> rfl), by repeat (first | (with_reducible first | exact HB.out | apply below_alloc | apply pw_below_drewN | apply below_drew1 | refine below_set ?_ GE130.out) | exact HB.out)⟩

end Go.Proofs.Ytkkchcalhomgcaa.PFnExactRunNfa
