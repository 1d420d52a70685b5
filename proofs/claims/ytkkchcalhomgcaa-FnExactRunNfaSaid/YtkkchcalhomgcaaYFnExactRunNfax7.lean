/- Written by this session's own program over the kit's print: Lean functions that tell what Go functions answer, each with a proof that the call does so. No condition but what each statement says. -/
import Derived.Test.YtkkchcalhomgcaaYFnExactRunNfax0
import Derived.Test.YtkkchcalhomgcaaYFnExactRunNfax5
import Derived.Test.YtkkchcalhomgcaaYFnExactRunNfax6
namespace Go.Proofs.Ytkkchcalhomgcaa.PFnExactRunNfa
open Go.RowKit Go.Proofs.YtkkchcalhomgcaaW.PrintWords Go.Proofs.YtkkchcalhomgcaaW.PrintLast Go.Proofs.YtkkchcalhomgcaaW.PrintMore
attribute [local go_sem] max2_int min2_int max_two min_two max_three min_three max_four min_four   -- for this text's walks alone
set_option linter.unusedVariables false
set_option linter.unusedSimpArgs false

/-! ### impl_RunNfa: function 52 -/
mutual
def impl_RunNfa.j0 : Nat → List Int → Bool → Int → Int → Int → List (S97) → Option (Bool × Int × Bool)
  | 0, _, _, _, _, _, _ => none
  | k + 1, x1, x21, x225000, x225001, x225002, x225003 => if x21 = true then (some (false, 0, false)) else (if 0 ≤ x225000 then (if (x225000 : Int).toNat ≤ 281474976710656 then ((some (List.replicate (x225000 : Int).toNat false : List Bool)).bind fun y227 => (if 0 ≤ x225001 then (if x225001 < (y227.length : Int) then ((impl_Nfa_spread.f k x225000 x225001 x225002 x225003 (y227.set (x225001 : Int).toNat true)).bind fun bt231 => (impl_RunNfa.l0 k bt231.2 bt231.1 x1 (x1.length : Int) 0 x225000 x225001 x225002 x225003)) else (none)) else (none))) else (none)) else (none))
def impl_RunNfa.l0 : Nat → List Bool → Int → List Int → Int → Int → Int → Int → Int → List (S97) → Option (Bool × Int × Bool)
  | 0, _, _, _, _, _, _, _, _, _ => none
  | k + 1, x7, x8, x32, x33, x34, x225000, x225001, x225002, x225003 => if x34 < x33 then (if 0 ≤ x34 then (if x34 < (x32.length : Int) then (if 0 ≤ x225000 then (if (x225000 : Int).toNat ≤ 281474976710656 then (impl_RunNfa.l1 k x7 x8 (rd x32 x34) (List.replicate (x225000 : Int).toNat false) x32 x33 x34 x225003 (x225003.length : Int) 0 x225000 x225001 x225002 x225003) else (none)) else (none)) else (none)) else (none)) else (if 0 ≤ x225002 then (if x225002 < (x7.length : Int) then (some (rdOf false x7 x225002, x8, true)) else (none)) else (none))
def impl_RunNfa.l1 : Nat → List Bool → Int → Int → List Bool → List Int → Int → Int → List (S97) → Int → Int → Int → Int → Int → List (S97) → Option (Bool × Int × Bool)
  | 0, _, _, _, _, _, _, _, _, _, _, _, _, _, _ => none
  | k + 1, x7, x8, x10, x11, x32, x33, x34, x42, x43, x44, x225000, x225001, x225002, x225003 => if x44 < x43 then (if 0 ≤ x44 then (if x44 < (x42.length : Int) then (if 0 ≤ ((rd_T97 x42 x44).f0) then (if ((rd_T97 x42 x44).f0) < (x7.length : Int) then (if rdOf false x7 ((rd_T97 x42 x44).f0) = true then (if ((rd_T97 x42 x44).f2 = true) then (impl_RunNfa.l1 k x7 x8 x10 x11 x32 x33 x34 x42 x43 (wrap64 (x44 + 1)) x225000 x225001 x225002 x225003) else (if (rd_T97 x42 x44).f3 = true then (if 0 ≤ ((rd_T97 x42 x44).f1) then (if ((rd_T97 x42 x44).f1) < (x11.length : Int) then (impl_RunNfa.l1 k x7 x8 x10 (x11.set (((rd_T97 x42 x44).f1) : Int).toNat true) x32 x33 x34 x42 x43 (wrap64 (x44 + 1)) x225000 x225001 x225002 x225003) else (none)) else (none)) else (if ((rd_T97 x42 x44).f4) = x10 then (if 0 ≤ ((rd_T97 x42 x44).f1) then (if ((rd_T97 x42 x44).f1) < (x11.length : Int) then (impl_RunNfa.l1 k x7 x8 x10 (x11.set (((rd_T97 x42 x44).f1) : Int).toNat true) x32 x33 x34 x42 x43 (wrap64 (x44 + 1)) x225000 x225001 x225002 x225003) else (none)) else (none)) else (impl_RunNfa.l1 k x7 x8 x10 x11 x32 x33 x34 x42 x43 (wrap64 (x44 + 1)) x225000 x225001 x225002 x225003)))) else (impl_RunNfa.l1 k x7 x8 x10 x11 x32 x33 x34 x42 x43 (wrap64 (x44 + 1)) x225000 x225001 x225002 x225003)) else (none)) else (none)) else (none)) else (none)) else ((impl_Nfa_spread.f k x225000 x225001 x225002 x225003 x11).bind fun bt243 => (impl_RunNfa.l0 k bt243.2 (mx x8 bt243.1) x32 x33 (wrap64 (x34 + 1)) x225000 x225001 x225002 x225003))
end
def impl_RunNfa.f (k : Nat) (a0_0 : Int) (a0_1 : Int) (a0_2 : Int) (l0_3 : List (S97)) (l1 : List Int) : Option (Bool × Int × Bool) := (impl_GoodNfa.f k a0_0 a0_1 a0_2 l0_3).bind fun t225 => (if t225 = true then ((impl_isPath.f k l1).bind fun t226 => (impl_RunNfa.j0 k l1 (!t226) a0_0 a0_1 a0_2 l0_3)) else (impl_RunNfa.j0 k l1 true a0_0 a0_1 a0_2 l0_3))
theorem impl_RunNfa.mono_l : ∀ k, (∀ y0 y1 y2 y3 y4 y5, LeO (impl_RunNfa.j0 k y0 y1 y2 y3 y4 y5) (impl_RunNfa.j0 (k + 1) y0 y1 y2 y3 y4 y5)) ∧ (∀ y0 y1 y2 y3 y4 y5 y6 y7 y8, LeO (impl_RunNfa.l0 k y0 y1 y2 y3 y4 y5 y6 y7 y8) (impl_RunNfa.l0 (k + 1) y0 y1 y2 y3 y4 y5 y6 y7 y8)) ∧ (∀ y0 y1 y2 y3 y4 y5 y6 y7 y8 y9 y10 y11 y12 y13, LeO (impl_RunNfa.l1 k y0 y1 y2 y3 y4 y5 y6 y7 y8 y9 y10 y11 y12 y13) (impl_RunNfa.l1 (k + 1) y0 y1 y2 y3 y4 y5 y6 y7 y8 y9 y10 y11 y12 y13))
  | 0 => ⟨fun _ _ _ _ _ _ r h => by simp [impl_RunNfa.j0] at h, fun _ _ _ _ _ _ _ _ _ r h => by simp [impl_RunNfa.l0] at h, fun _ _ _ _ _ _ _ _ _ _ _ _ _ _ r h => by simp [impl_RunNfa.l1] at h⟩
  | k + 1 => by
    obtain ⟨ih0, ih1, ih2⟩ := impl_RunNfa.mono_l k
    refine ⟨?_, ?_, ?_⟩
    · intro y0 y1 y2 y3 y4 y5
      unfold impl_RunNfa.j0
      repeat' first
      | (with_reducible exact ih0 _ _ _ _ _ _)
      | (with_reducible exact ih1 _ _ _ _ _ _ _ _ _)
      | (with_reducible exact ih2 _ _ _ _ _ _ _ _ _ _ _ _ _ _)
      | (with_reducible exact impl_GoodNfa.mono _ _ _ _ _)
      | (with_reducible exact impl_Nfa_spread.mono _ _ _ _ _ _)
      | (with_reducible exact impl_isPath.mono _ _)
      | (with_reducible exact LeO.refl _)
      | (with_reducible exact LeO.none _)
      | (with_reducible refine LeO.ite ?_ ?_)
      | (with_reducible refine LeO.bind ?_ (fun _ => ?_))
      | exact ih0 _ _ _ _ _ _
      | exact ih1 _ _ _ _ _ _ _ _ _
      | exact ih2 _ _ _ _ _ _ _ _ _ _ _ _ _ _
      | exact impl_GoodNfa.mono _ _ _ _ _
      | exact impl_Nfa_spread.mono _ _ _ _ _ _
      | exact impl_isPath.mono _ _
      | exact LeO.none _
      | refine LeO.ite ?_ ?_
      | refine LeO.bind ?_ (fun _ => ?_)
    · intro y0 y1 y2 y3 y4 y5 y6 y7 y8
      unfold impl_RunNfa.l0
      repeat' first
      | (with_reducible exact ih0 _ _ _ _ _ _)
      | (with_reducible exact ih1 _ _ _ _ _ _ _ _ _)
      | (with_reducible exact ih2 _ _ _ _ _ _ _ _ _ _ _ _ _ _)
      | (with_reducible exact impl_GoodNfa.mono _ _ _ _ _)
      | (with_reducible exact impl_Nfa_spread.mono _ _ _ _ _ _)
      | (with_reducible exact impl_isPath.mono _ _)
      | (with_reducible exact LeO.refl _)
      | (with_reducible exact LeO.none _)
      | (with_reducible refine LeO.ite ?_ ?_)
      | (with_reducible refine LeO.bind ?_ (fun _ => ?_))
      | exact ih0 _ _ _ _ _ _
      | exact ih1 _ _ _ _ _ _ _ _ _
      | exact ih2 _ _ _ _ _ _ _ _ _ _ _ _ _ _
      | exact impl_GoodNfa.mono _ _ _ _ _
      | exact impl_Nfa_spread.mono _ _ _ _ _ _
      | exact impl_isPath.mono _ _
      | exact LeO.none _
      | refine LeO.ite ?_ ?_
      | refine LeO.bind ?_ (fun _ => ?_)
    · intro y0 y1 y2 y3 y4 y5 y6 y7 y8 y9 y10 y11 y12 y13
      unfold impl_RunNfa.l1
      repeat' first
      | (with_reducible exact ih0 _ _ _ _ _ _)
      | (with_reducible exact ih1 _ _ _ _ _ _ _ _ _)
      | (with_reducible exact ih2 _ _ _ _ _ _ _ _ _ _ _ _ _ _)
      | (with_reducible exact impl_GoodNfa.mono _ _ _ _ _)
      | (with_reducible exact impl_Nfa_spread.mono _ _ _ _ _ _)
      | (with_reducible exact impl_isPath.mono _ _)
      | (with_reducible exact LeO.refl _)
      | (with_reducible exact LeO.none _)
      | (with_reducible refine LeO.ite ?_ ?_)
      | (with_reducible refine LeO.bind ?_ (fun _ => ?_))
      | exact ih0 _ _ _ _ _ _
      | exact ih1 _ _ _ _ _ _ _ _ _
      | exact ih2 _ _ _ _ _ _ _ _ _ _ _ _ _ _
      | exact impl_GoodNfa.mono _ _ _ _ _
      | exact impl_Nfa_spread.mono _ _ _ _ _ _
      | exact impl_isPath.mono _ _
      | exact LeO.none _
      | refine LeO.ite ?_ ?_
      | refine LeO.bind ?_ (fun _ => ?_)
theorem impl_RunNfa.mono : ∀ a0 a1 a2 a3 a4 k, LeO (impl_RunNfa.f k a0 a1 a2 a3 a4) (impl_RunNfa.f (k + 1) a0 a1 a2 a3 a4) := by
  intro a0 a1 a2 a3 a4 k
  obtain ⟨ih0, ih1, ih2⟩ := impl_RunNfa.mono_l k
  unfold impl_RunNfa.f
  repeat' first
      | (with_reducible exact ih0 _ _ _ _ _ _)
      | (with_reducible exact ih1 _ _ _ _ _ _ _ _ _)
      | (with_reducible exact ih2 _ _ _ _ _ _ _ _ _ _ _ _ _ _)
      | (with_reducible exact impl_GoodNfa.mono _ _ _ _ _)
      | (with_reducible exact impl_Nfa_spread.mono _ _ _ _ _ _)
      | (with_reducible exact impl_isPath.mono _ _)
      | (with_reducible exact LeO.refl _)
      | (with_reducible exact LeO.none _)
      | (with_reducible refine LeO.ite ?_ ?_)
      | (with_reducible refine LeO.bind ?_ (fun _ => ?_))
      | exact ih0 _ _ _ _ _ _
      | exact ih1 _ _ _ _ _ _ _ _ _
      | exact ih2 _ _ _ _ _ _ _ _ _ _ _ _ _ _
      | exact impl_GoodNfa.mono _ _ _ _ _
      | exact impl_Nfa_spread.mono _ _ _ _ _ _
      | exact impl_isPath.mono _ _
      | exact LeO.none _
      | refine LeO.ite ?_ ?_
      | refine LeO.bind ?_ (fun _ => ?_)
set_option maxHeartbeats 8000000 in
set_option maxRecDepth 100000 in
theorem impl_RunNfa.calls (k : Nat) (a0_0 : Int) (a0_1 : Int) (a0_2 : Int) (A0_3 : Option Addr) (c0_3 : Nat) (l0_3 : List (S97)) (A1 : Option Addr) (c1 : Nat) (l1 : List Int) (r1 : Bool) (r2 : Int) (r3 : Bool) (w : World) (hr0_3 : Kd.C k97 w A0_3 l0_3.length l0_3) (hc0_3 : l0_3.length ≤ c0_3) (hr1 : Kd.C (Kd.int .i64) w A1 l1.length l1) (hc1 : l1.length ≤ c1) (h : impl_RunNfa.f k a0_0 a0_1 a0_2 l0_3 l1 = some (r1, r2, r3)) :
    Calls Try.prog 52 #[.agg #[.int .i64 a0_0, .int .i64 a0_1, .int .i64 a0_2, .slice A0_3 l0_3.length c0_3], .slice A1 l1.length c1] w fun e w' => e = .returned (.tuple #[.bool r1, .int .i64 r2, .bool r3]) ∧ Below w.heap.size w w' := by
  have hu60 := Try.underlying60
  have hu97 := Try.underlying97
  have HR0_3 := Aside0.mk hr0_3
  have HC0_3 := Aside0.mk hc0_3
  clear hr0_3 hc0_3
  have HR1 := Aside0.mk hr1
  have HC1 := Aside0.mk hc1
  clear hr1 hc1
  have HB := Aside0.mk (Below.refl w.heap.size w)
  have H : ((impl_GoodNfa.f k a0_0 a0_1 a0_2 l0_3).bind fun t225 => (if t225 = true then ((impl_isPath.f k l1).bind fun t226 => (impl_RunNfa.j0 k l1 (!t226) a0_0 a0_1 a0_2 l0_3)) else (impl_RunNfa.j0 k l1 true a0_0 a0_1 a0_2 l0_3))) = some (r1, r2, r3) := h
  clear h
  have HC3 := Aside0.mk H
  clear H
  go_enter Try.func52, Try.ntmps52
  go_upto_region 1 with (first | ((with_reducible refine gate_dst (N := 2) rfl ?_); refine box_event ?hg (N := 2) ?hd (cs := #[.int .i64 a0_0, .int .i64 a0_1, .int .i64 a0_2, .slice A0_3 l0_3.length c0_3]) (t := 60) ?hr ?_; (case hd => rfl); (case hg => rfl); (case hr => first | (go_simp; done) | (go_simp; rfl)); intro gb224 hg w4 hbox hb; have n0_ := Aside0.mk (below_step (by repeat (first | (with_reducible first | exact HB.out | apply below_alloc | apply pw_below_drewN | apply below_drew1) | exact HB.out)) hb); have n1_ := Aside0.mk (hbox); have n2_ := Aside0.mk ((by rw [hg]; exact (below_size (by repeat (first | (with_reducible first | exact HB.out | apply below_alloc | apply pw_below_drewN | apply below_drew1) | exact HB.out))) : w.heap.size ≤ gb224)); have n3_ := Aside0.mk ((by rw [hg]; exact (below_size (by repeat (first | (with_reducible first | exact HB.out | apply below_alloc | apply pw_below_drewN | apply below_drew1) | exact HB.out))) : w.heap.size ≤ gb224)); clear HB; have HB := n0_; have BK224 := n1_; have GW224 := n2_; have GE224 := n3_; clear n0_ n1_ n2_ n3_; clear hb hbox hg))
  (try simp only [Act.put, List.setIfInBounds_toArray, List.set_cons_zero, List.set_cons_succ])
  go_cut [21] (fun v21 wc => ∃ (kq : Nat) (x21_2 : Bool), v21 = .bool x21_2 ∧ Aside0 (impl_RunNfa.j0 kq l1 x21_2 a0_0 a0_1 a0_2 l0_3 = some (r1, r2, r3)) ∧ Aside0 (kq ≤ k) ∧ Aside0 (wc.heap[gb224]? = some (.cells #[.int .i64 a0_0, .int .i64 a0_1, .int .i64 a0_2, (.slice A0_3 l0_3.length c0_3)] 60 (0, 0))) ∧ Aside0 (Below w.heap.size w wc))
  case first =>
    have H := HC3.out
    clear HC3
    replace H := Option.bind_eq_some_iff.mp H
    obtain ⟨t225, A50, H⟩ := H
    replace H : (if t225 = true then ((impl_isPath.f k l1).bind fun t226 => (impl_RunNfa.j0 k l1 (!t226) a0_0 a0_1 a0_2 l0_3)) else (impl_RunNfa.j0 k l1 true a0_0 a0_1 a0_2 l0_3)) = some (r1, r2, r3) := H
    have A5 := Aside0.mk A50
    clear A50
    by_cases c6 : t225 = true
    · subst c6
      have H1 : ((impl_isPath.f k l1).bind fun t226 => (impl_RunNfa.j0 k l1 (!t226) a0_0 a0_1 a0_2 l0_3)) = some (r1, r2, r3) := by rw [if_pos rfl] at H; exact H
      clear H
      have H := H1
      clear H1
      replace H := Option.bind_eq_some_iff.mp H
      obtain ⟨t226, A70, H⟩ := H
      replace H : (impl_RunNfa.j0 k l1 (!t226) a0_0 a0_1 a0_2 l0_3) = some (r1, r2, r3) := H
      have A7 := Aside0.mk A70
      clear A70
      have H' := Aside0.mk H
      clear H
      have hcz8_0 : w4.cell? ⟨gb224, 0, none⟩ = some (.int .i64 a0_0) := (blk_cell BK224.out 0).trans rfl
      have hcz8_1 : w4.cell? ⟨gb224, 1, none⟩ = some (.int .i64 a0_1) := (blk_cell BK224.out 1).trans rfl
      have hcz8_2 : w4.cell? ⟨gb224, 2, none⟩ = some (.int .i64 a0_2) := (blk_cell BK224.out 2).trans rfl
      have hcz8_3 : w4.cell? ⟨gb224, 3, none⟩ = some (.slice A0_3 l0_3.length c0_3) := (blk_cell BK224.out 3).trans rfl
      have hfz8_0 := blk_frozen BK224.out 0
      have hfz8_1 := blk_frozen BK224.out 1
      have hfz8_2 := blk_frozen BK224.out 2
      have hfz8_3 := blk_frozen BK224.out 3
      go_wp2_with (first | ((with_reducible refine gate_callee (f := 41) rfl ?_); refine goesL_ (some 15) rfl rfl Try.func41 (by kernel_rfl) rfl #[.agg #[.int .i64 a0_0, .int .i64 a0_1, .int .i64 a0_2, .slice A0_3 l0_3.length c0_3]] rfl (by (try simp only [List.map_toArray, List.map_cons, List.map_nil]); first | done | rfl | (simp only [List.length_drop, List.length_take]; rfl)) ?_; (with_reducible refine (impl_GoodNfa.calls k a0_0 a0_1 a0_2 _ _ l0_3 true _ ?side1 ?side2 A5.out).mono ?_); (case side1 => repeat (first | exact (Kd.C_below HR0_3.out HB.out) | (with_reducible refine Kd.C_alloc ?_ _) | (with_reducible refine Kd.C_drewN ?_ _) | (with_reducible refine Kd.C_drew ?_))); (case side2 => exact HC0_3.out); rintro e w9 ⟨rfl, hb⟩; refine ⟨_, rfl, ?_⟩; have n0_ := Aside0.mk (blk_below (g := gb224) (o := .cells #[.int .i64 a0_0, .int .i64 a0_1, .int .i64 a0_2, .slice A0_3 l0_3.length c0_3] 60 (0, 0)) (by (with_reducible repeat (first | refine blk_drewN ?_ _ | refine blk_drew ?_ | refine blk_alloc ?_ _)); exact BK224.out) hb); have n1_ := Aside0.mk (below_step (by repeat (first | (with_reducible first | exact HB.out | apply below_alloc | apply pw_below_drewN | apply below_drew1 | refine below_set ?_ GE224.out) | exact HB.out)) hb); clear BK224; clear HB; have BK224 := n0_; have HB := n1_; clear n0_ n1_; (try clear hb); (try clear hb2); (try clear hk); (try clear hi)) | (go_at_call 93; (with_reducible refine (impl_isPath.calls k _ _ l1 t226 _ ?side1 ?side2 A7.out).mono ?_); (case side1 => repeat (first | exact (Kd.C_below HR1.out HB.out) | (with_reducible refine Kd.C_alloc ?_ _) | (with_reducible refine Kd.C_drewN ?_ _) | (with_reducible refine Kd.C_drew ?_))); (case side2 => exact HC1.out); rintro e w10 ⟨rfl, hb⟩; have n0_ := Aside0.mk (blk_below (g := gb224) (o := .cells #[.int .i64 a0_0, .int .i64 a0_1, .int .i64 a0_2, .slice A0_3 l0_3.length c0_3] 60 (0, 0)) (by (with_reducible repeat (first | refine blk_drewN ?_ _ | refine blk_drew ?_ | refine blk_alloc ?_ _)); exact BK224.out) hb); have n1_ := Aside0.mk (below_step (by repeat (first | (with_reducible first | exact HB.out | apply below_alloc | apply pw_below_drewN | apply below_drew1 | refine below_set ?_ GE224.out) | exact HB.out)) hb); clear BK224; clear HB; have BK224 := n0_; have HB := n1_; clear n0_ n1_; (try clear hb); (try clear hb2); (try clear hk); (try clear hi)))
      go_meet
      case rel => exact ⟨_, (!t226), (by first | rfl | (simp; done) | (simp [*]; done)), H', ⟨by first | omega | exact Nat.le_refl _⟩, ⟨by (with_reducible repeat (first | refine blk_drewN ?_ _ | refine blk_drew ?_ | refine blk_alloc ?_ _)); exact BK224.out⟩, ⟨by repeat (first | (with_reducible first | exact HB.out | apply below_alloc | apply pw_below_drewN | apply below_drew1 | refine below_set ?_ GE224.out) | exact HB.out)⟩⟩
    · replace c6 := Bool.eq_false_iff.mpr c6
      subst c6
      have H1 : (impl_RunNfa.j0 k l1 true a0_0 a0_1 a0_2 l0_3) = some (r1, r2, r3) := by rw [if_neg (show ¬ (false = true) by decide)] at H; exact H
      clear H
      have H := H1
      clear H1
      have H' := Aside0.mk H
      clear H
      have hcz11_0 : w4.cell? ⟨gb224, 0, none⟩ = some (.int .i64 a0_0) := (blk_cell BK224.out 0).trans rfl
      have hcz11_1 : w4.cell? ⟨gb224, 1, none⟩ = some (.int .i64 a0_1) := (blk_cell BK224.out 1).trans rfl
      have hcz11_2 : w4.cell? ⟨gb224, 2, none⟩ = some (.int .i64 a0_2) := (blk_cell BK224.out 2).trans rfl
      have hcz11_3 : w4.cell? ⟨gb224, 3, none⟩ = some (.slice A0_3 l0_3.length c0_3) := (blk_cell BK224.out 3).trans rfl
      have hfz11_0 := blk_frozen BK224.out 0
      have hfz11_1 := blk_frozen BK224.out 1
      have hfz11_2 := blk_frozen BK224.out 2
      have hfz11_3 := blk_frozen BK224.out 3
      go_wp2_with (first | ((with_reducible refine gate_callee (f := 41) rfl ?_); refine goesL_ (some 15) rfl rfl Try.func41 (by kernel_rfl) rfl #[.agg #[.int .i64 a0_0, .int .i64 a0_1, .int .i64 a0_2, .slice A0_3 l0_3.length c0_3]] rfl (by (try simp only [List.map_toArray, List.map_cons, List.map_nil]); first | done | rfl | (simp only [List.length_drop, List.length_take]; rfl)) ?_; (with_reducible refine (impl_GoodNfa.calls k a0_0 a0_1 a0_2 _ _ l0_3 false _ ?side1 ?side2 A5.out).mono ?_); (case side1 => repeat (first | exact (Kd.C_below HR0_3.out HB.out) | (with_reducible refine Kd.C_alloc ?_ _) | (with_reducible refine Kd.C_drewN ?_ _) | (with_reducible refine Kd.C_drew ?_))); (case side2 => exact HC0_3.out); rintro e w12 ⟨rfl, hb⟩; refine ⟨_, rfl, ?_⟩; have n0_ := Aside0.mk (blk_below (g := gb224) (o := .cells #[.int .i64 a0_0, .int .i64 a0_1, .int .i64 a0_2, .slice A0_3 l0_3.length c0_3] 60 (0, 0)) (by (with_reducible repeat (first | refine blk_drewN ?_ _ | refine blk_drew ?_ | refine blk_alloc ?_ _)); exact BK224.out) hb); have n1_ := Aside0.mk (below_step (by repeat (first | (with_reducible first | exact HB.out | apply below_alloc | apply pw_below_drewN | apply below_drew1 | refine below_set ?_ GE224.out) | exact HB.out)) hb); clear BK224; clear HB; have BK224 := n0_; have HB := n1_; clear n0_ n1_; (try clear hb); (try clear hb2); (try clear hk); (try clear hi)))
      go_meet
      case rel => exact ⟨_, (true), (by first | rfl | (simp; done) | (simp [*]; done)), H', ⟨by first | omega | exact Nat.le_refl _⟩, ⟨by (with_reducible repeat (first | refine blk_drewN ?_ _ | refine blk_drew ?_ | refine blk_alloc ?_ _)); exact BK224.out⟩, ⟨by repeat (first | (with_reducible first | exact HB.out | apply below_alloc | apply pw_below_drewN | apply below_drew1 | refine below_set ?_ GE224.out) | exact HB.out)⟩⟩
  case rest =>
    clear HC3
    try clear c1
    try clear p2
    try clear c4
    try clear c5
    try clear c6
    try clear hcz11_0
    try clear hcz11_1
    try clear hcz11_2
    try clear hcz11_3
    try clear hcz8_0
    try clear hcz8_1
    try clear hcz8_2
    try clear hcz8_3
    try clear hfz11_0
    try clear hfz11_1
    try clear hfz11_2
    try clear hfz11_3
    try clear hfz8_0
    try clear hfz8_1
    try clear hfz8_2
    try clear hfz8_3
    obtain ⟨kq, x21_2, rfl, HA, HJ2, BK224, HB⟩ := hcut
    cases kq with
    | zero => exact absurd HA.out (by simp [impl_RunNfa.j0])
    | succ kj2 =>
      have H := HA.out
      clear HA
      simp only [impl_RunNfa.j0] at H
      by_cases c13 : x21_2 = true
      · subst c13
        have H1 : (some (false, 0, false)) = some (r1, r2, r3) := by rw [if_pos rfl] at H; exact H
        clear H
        have H := H1
        clear H1
        simp only [Option.some.injEq, Prod.mk.injEq] at H
        obtain ⟨rfl, rfl, rfl⟩ := H
        go_wp2
        go_ret3
        exact ⟨by first | rfl | (simp [errW_none, errW_some] <;> rfl) | (simp [*, errW_none, errW_some] <;> rfl), by repeat (first | (with_reducible first | exact HB.out | apply below_alloc | apply pw_below_drewN | apply below_drew1 | refine below_set ?_ GE224.out) | exact HB.out)⟩
      · replace c13 := Bool.eq_false_iff.mpr c13
        subst c13
        have H1 : (if 0 ≤ a0_0 then (if (a0_0 : Int).toNat ≤ 281474976710656 then ((some (List.replicate (a0_0 : Int).toNat false : List Bool)).bind fun y227 => (if 0 ≤ a0_1 then (if a0_1 < (y227.length : Int) then ((impl_Nfa_spread.f kj2 a0_0 a0_1 a0_2 l0_3 (y227.set (a0_1 : Int).toNat true)).bind fun bt231 => (impl_RunNfa.l0 kj2 bt231.2 bt231.1 l1 (l1.length : Int) 0 a0_0 a0_1 a0_2 l0_3)) else (none)) else (none))) else (none)) else (none)) = some (r1, r2, r3) := by rw [if_neg (show ¬ (false = true) by decide)] at H; exact H
        clear H
        have H := H1
        clear H1
        by_cases c14 : 0 ≤ a0_0
        · rw [if_pos c14] at H
          have c14b0 := eq_true c14
          have c14b1 : decide (0 ≤ a0_0) = true := decide_eq_true c14
          clear c14
          by_cases c15 : (a0_0 : Int).toNat ≤ 281474976710656
          · rw [if_pos c15] at H
            have c15b0 := eq_true c15
            have c15b1 : decide ((a0_0 : Int).toNat ≤ 281474976710656) = true := decide_eq_true c15
            clear c15
            obtain ⟨y227, hy227⟩ : ∃ y_ : List Bool, y_ = (List.replicate (a0_0 : Int).toNat false) := ⟨_, rfl⟩
            replace H : (if 0 ≤ a0_1 then (if a0_1 < (y227.length : Int) then ((impl_Nfa_spread.f kj2 a0_0 a0_1 a0_2 l0_3 (y227.set (a0_1 : Int).toNat true)).bind fun bt231 => (impl_RunNfa.l0 kj2 bt231.2 bt231.1 l1 (l1.length : Int) 0 a0_0 a0_1 a0_2 l0_3)) else (none)) else (none)) = some (r1, r2, r3) := by first | (rw [hy227]; with_reducible exact H) | (have H2_ := (Option.bind_some _ _).symm.trans H; rw [hy227]; with_reducible exact H2_) | (have H2_ := (Option.bind_some _ _).symm.trans H; with_reducible exact H2_) | with_reducible exact H | (rw [hy227]; exact H) | exact H
            have Ny227 := Aside0.mk hy227
            clear hy227
            by_cases c16 : 0 ≤ a0_1
            · rw [if_pos c16] at H
              have c16b0 : decide (0 ≤ a0_1) = true := decide_eq_true c16
              clear c16
              by_cases c17 : a0_1 < (y227.length : Int)
              · rw [if_pos c17] at H
                have c17b0 : decide (a0_1 < (y227.length : Int)) = true := decide_eq_true c17
                clear c17
                obtain ⟨y230, hy230⟩ : ∃ y_ : List Bool, y_ = (y227.set (a0_1 : Int).toNat true) := ⟨_, rfl⟩
                replace H : ((impl_Nfa_spread.f kj2 a0_0 a0_1 a0_2 l0_3 y230).bind fun bt231 => (impl_RunNfa.l0 kj2 bt231.2 bt231.1 l1 (l1.length : Int) 0 a0_0 a0_1 a0_2 l0_3)) = some (r1, r2, r3) := by first | (rw [hy230]; with_reducible exact H) | (have H2_ := (Option.bind_some _ _).symm.trans H; rw [hy230]; with_reducible exact H2_) | (have H2_ := (Option.bind_some _ _).symm.trans H; with_reducible exact H2_) | with_reducible exact H | (rw [hy230]; exact H) | exact H
                have Ny230 := Aside0.mk hy230
                clear hy230
                replace H := Option.bind_eq_some_iff.mp H
                obtain ⟨⟨t231, t232⟩, A190, H⟩ := H
                replace H : (impl_RunNfa.l0 kj2 t232 t231 l1 (l1.length : Int) 0 a0_0 a0_1 a0_2 l0_3) = some (r1, r2, r3) := H
                have A19 := Aside0.mk A190
                clear A190
                have H' := Aside0.mk H
                clear H
                have hcz20_0 : wc.cell? ⟨gb224, 0, none⟩ = some (.int .i64 a0_0) := (blk_cell BK224.out 0).trans rfl
                have hcz20_1 : wc.cell? ⟨gb224, 1, none⟩ = some (.int .i64 a0_1) := (blk_cell BK224.out 1).trans rfl
                have hcz20_2 : wc.cell? ⟨gb224, 2, none⟩ = some (.int .i64 a0_2) := (blk_cell BK224.out 2).trans rfl
                have hcz20_3 : wc.cell? ⟨gb224, 3, none⟩ = some (.slice A0_3 l0_3.length c0_3) := (blk_cell BK224.out 3).trans rfl
                have hfz20_0 := blk_frozen BK224.out 0
                have hfz20_1 := blk_frozen BK224.out 1
                have hfz20_2 := blk_frozen BK224.out 2
                have hfz20_3 := blk_frozen BK224.out 3
                go_wp2_with (first | ((with_reducible refine gate_dst (N := 24) rfl ?_); refine Kd.R_make Kd.bool _ 4 rfl (N := 24) rfl 123 _ _ rfl a0_0 rfl rfl Try.underlying123 (.bool false) 1 info4 rfl (by decide) (by omega) false (ok := fun _ => True) (okp := fun _ => True) rfl (fun _ hk => hk) trivial (of_decide_eq_true (by first | (with_reducible assumption) | assumption)) (Nat.le_trans (Nat.mul_le_mul_right _ (of_decide_eq_true (by first | (with_reducible assumption) | assumption) : a0_0.toNat ≤ 281474976710656)) (by omega)) (Below.refl _ _) (Nat.le_refl _) ?_; intro v228 w21 ho22 hb hg_ hnew_; clear hg_ hnew_; (first | rw [← Ny227.out] at ho22 | (simp only [Int.reduceToNat] at ho22; rw [← Ny227.out] at ho22)); have n0_ := Aside0.mk (Kd.R_lower ho22 (below_size (by repeat (first | (with_reducible first | exact HB.out | apply below_alloc | apply pw_below_drewN | apply below_drew1 | refine below_set ?_ GE224.out) | exact HB.out)))); have n1_ := Aside0.mk (blk_below (g := gb224) (o := .cells #[.int .i64 a0_0, .int .i64 a0_1, .int .i64 a0_2, .slice A0_3 l0_3.length c0_3] 60 (0, 0)) (by (with_reducible repeat (first | refine blk_drewN ?_ _ | refine blk_drew ?_ | refine blk_alloc ?_ _)); exact BK224.out) hb); have n2_ := Aside0.mk (below_step (by repeat (first | (with_reducible first | exact HB.out | apply below_alloc | apply pw_below_drewN | apply below_drew1 | refine below_set ?_ GE224.out) | exact HB.out)) hb); clear BK224; clear HB; have HO229 := n0_; have BK224 := n1_; have HB := n2_; clear n0_ n1_ n2_; clear hb ho22; have hcz23_0 : w21.cell? ⟨gb224, 0, none⟩ = some (.int .i64 a0_0) := (blk_cell BK224.out 0).trans rfl; have hcz23_1 : w21.cell? ⟨gb224, 1, none⟩ = some (.int .i64 a0_1) := (blk_cell BK224.out 1).trans rfl; have hcz23_2 : w21.cell? ⟨gb224, 2, none⟩ = some (.int .i64 a0_2) := (blk_cell BK224.out 2).trans rfl; have hcz23_3 : w21.cell? ⟨gb224, 3, none⟩ = some (.slice A0_3 l0_3.length c0_3) := (blk_cell BK224.out 3).trans rfl; have hfz23_0 := blk_frozen BK224.out 0; have hfz23_1 := blk_frozen BK224.out 1; have hfz23_2 := blk_frozen BK224.out 2; have hfz23_3 := blk_frozen BK224.out 3; have p18 : 0 ≤ (a0_1 : Int) := of_decide_eq_true (by first | (with_reducible assumption) | assumption); have q18 : (a0_1 : Int) < ((y227.length : Int) : Int) := of_decide_eq_true (by first | (with_reducible assumption) | assumption); obtain ⟨go18, co18, eo18, gb18, gl18, cl18, HG18⟩ := Kd.R_form HO229.out (by omega); (first | cases eo18 | (injection eo18 with ea_ en_ ec_; (first | subst ea_ | (injection ea_ with ea_; subst ea_)); subst ec_; clear en_)); have GB18 := Aside0.mk gb18; have GG18 := Aside0.mk HG18; clear gb18 gl18 HG18; obtain ⟨hx18_0, hf18_0⟩ := Kd.R_celln false HO229.out (a0_1 : Int) p18 q18; replace p18 := eq_true p18; replace q18 := eq_true q18; obtain ⟨hy24_, hz24_⟩ := Kd.R_celln false HO229.out (a0_1 : Int) (of_decide_eq_true (by first | (with_reducible assumption) | assumption)) (of_decide_eq_true (by first | (with_reducible assumption) | assumption)); have HP24 := Kd.R_putg HO229.out (a0_1 : Int) true) | ((with_reducible refine gate_store (t := 4) (p := 28) rfl ?_); refine store_event (t := 4) (p := 28) (v := ?vo_w25) (w1 := (w21.setCell ⟨go18, (a0_1 : Int).toNat, none⟩ (.bool true))) ?hg ?ho ?hn ?hr ?_; (case ho => rfl); (case hg => rfl); (case hn => rfl); (case hr => first | (go_simp; done) | (go_simp; rfl)); intro w25 hw; have hg : w21.grownBy w25 (some go18) := (by rw [hw]; exact HP24.2); have hp_ : Kd.R Kd.bool 4 w25 w.heap.size (fun _ => True) (.slice (some ⟨go18, 0, none⟩) y227.length co18) y230 := (by rw [hw, Ny230.out]; exact HP24.1); clear HP24; have n0_ := Aside0.mk (blk_grown (g := gb224) (o := .cells #[.int .i64 a0_0, .int .i64 a0_1, .int .i64 a0_2, .slice A0_3 l0_3.length c0_3] 60 (0, 0)) (by (with_reducible repeat (first | refine blk_drewN ?_ _ | refine blk_drew ?_ | refine blk_alloc ?_ _)); exact BK224.out) hg (Kd.R_ne HO229.out BK224.out (by decide))); have n1_ := Aside0.mk (hp_); have n2_ := Aside0.mk ((by rw [hw]; exact below_set (HB.out) GB18.out : Below w.heap.size w w25)); clear BK224; clear HO229; clear HB; have BK224 := n0_; have HO229 := n1_; have HB := n2_; clear n0_ n1_ n2_; clear hg hw hp_; have hcz26_0 : w25.cell? ⟨gb224, 0, none⟩ = some (.int .i64 a0_0) := (blk_cell BK224.out 0).trans rfl; have hcz26_1 : w25.cell? ⟨gb224, 1, none⟩ = some (.int .i64 a0_1) := (blk_cell BK224.out 1).trans rfl; have hcz26_2 : w25.cell? ⟨gb224, 2, none⟩ = some (.int .i64 a0_2) := (blk_cell BK224.out 2).trans rfl; have hcz26_3 : w25.cell? ⟨gb224, 3, none⟩ = some (.slice A0_3 l0_3.length c0_3) := (blk_cell BK224.out 3).trans rfl; have hfz26_0 := blk_frozen BK224.out 0; have hfz26_1 := blk_frozen BK224.out 1; have hfz26_2 := blk_frozen BK224.out 2; have hfz26_3 := blk_frozen BK224.out 3) | ((with_reducible refine gate_callee (f := 94) rfl ?_); refine goesL_ (some 31) rfl rfl Try.func94 (by kernel_rfl) rfl #[.agg #[.int .i64 a0_0, .int .i64 a0_1, .int .i64 a0_2, .slice A0_3 l0_3.length c0_3], .slice (some ⟨go18, 0, none⟩) y227.length co18] rfl (by (try simp only [List.map_toArray, List.map_cons, List.map_nil]); first | done | rfl | (simp only [List.length_drop, List.length_take]; rfl)) ?_; (with_reducible refine (impl_Nfa_spread.calls kj2 a0_0 a0_1 a0_2 _ _ l0_3 (fun k_ => some k_ = (.slice (some ⟨go18, 0, none⟩) y227.length co18 : Value).ownBlock) (.slice (some ⟨go18, 0, none⟩) y227.length co18) y230 t231 t232 w _ ?side1 ?side2 ?side3 ?side4 A19.out).mono ?_); (case side1 => repeat (first | (with_reducible first | exact HB.out | apply below_alloc | apply pw_below_drewN | apply below_drew1 | refine below_set ?_ GE224.out) | exact HB.out)); (case side2 => exact Kd.C_kept_came k97_heap HR0_3.out (by repeat (first | (with_reducible first | exact HB.out | apply below_alloc | apply pw_below_drewN | apply below_drew1 | refine below_set ?_ GE224.out) | exact HB.out)) (fun k_ hs_ => (fun e_ => Kd.R_base HO229.out k_ e_.symm) hs_)); (case side3 => exact HC0_3.out); (case side4 => exact Kd.R_tight rfl HO229.out); rintro e w27 ⟨rfl, hy0, hb, hkp⟩; refine ⟨_, rfl, ?_⟩; have n0_ := Aside0.mk (blk_kept (by (with_reducible repeat (first | refine blk_drewN ?_ _ | refine blk_drew ?_ | refine blk_alloc ?_ _)); exact BK224.out) hkp (fun hs_ => (fun e_ => (Kd.R_ne HO229.out BK224.out (by decide)) e_) hs_)); have n1_ := Aside0.mk (Kd.R_reok rfl hy0 (fun k_ e_ => HO229.out.1 k_ e_)); have n2_ := Aside0.mk (hb); clear BK224; clear HO229; clear HB; have BK224 := n0_; have HO229 := n1_; have HB := n2_; clear n0_ n1_ n2_; (try clear hb); (try clear hkp); (try clear hy0)))
                go_loopg [7, 8, 34] kj2 (fun kq v7 v8 v34 w' => ∃ (x7_2 : List Bool) (x8_2 : Int) (x34_2 : Int), v8 = .int .i64 x8_2 ∧ v34 = .int .i64 x34_2 ∧ Aside0 (impl_RunNfa.l0 kq x7_2 x8_2 l1 (l1.length : Int) x34_2 a0_0 a0_1 a0_2 l0_3 = some (r1, r2, r3)) ∧ Aside0 (kq ≤ kj2) ∧ Aside0 (Kd.R Kd.bool 4 w' w.heap.size (fun _ => True) v7 x7_2) ∧ Aside0 (w'.heap[gb224]? = some (.cells #[.int .i64 a0_0, .int .i64 a0_1, .int .i64 a0_2, (.slice A0_3 l0_3.length c0_3)] 60 (0, 0))) ∧ Aside0 (Below w.heap.size w w'))
                case atStart => exact ⟨(t232), (t231), (0), (by first | rfl | (simp; done) | (simp [*]; done)), (by first | rfl | (simp; done) | (simp [*]; done)), H', ⟨Nat.le_refl _⟩, ⟨by (with_reducible repeat (first | apply Kd.R_alloc | apply Kd.R_drewN | apply Kd.R_drew)); exact HO229.out⟩, ⟨by (with_reducible repeat (first | refine blk_drewN ?_ _ | refine blk_drew ?_ | refine blk_alloc ?_ _)); exact BK224.out⟩, ⟨by repeat (first | (with_reducible first | exact HB.out | apply below_alloc | apply pw_below_drewN | apply below_drew1 | refine below_set ?_ GE224.out) | exact HB.out)⟩⟩
                case round =>
                  clear H'
                  try clear c1
                  try clear p1
                  try clear q1
                  try clear hx1
                  try clear p2
                  try clear c4
                  try clear c5
                  try clear c6
                  try clear c9
                  try clear c13
                  try clear c14
                  try clear c14b0
                  try clear c14b1
                  try clear c15
                  try clear c15b0
                  try clear c15b1
                  try clear c16
                  try clear c16b0
                  try clear c17
                  try clear c17b0
                  try clear p18
                  try clear q18
                  try clear hx18
                  try clear hf18
                  try clear hcz11_0
                  try clear hcz11_1
                  try clear hcz11_2
                  try clear hcz11_3
                  try clear hcz20_0
                  try clear hcz20_1
                  try clear hcz20_2
                  try clear hcz20_3
                  try clear hcz23_0
                  try clear hcz23_1
                  try clear hcz23_2
                  try clear hcz23_3
                  try clear hcz26_0
                  try clear hcz26_1
                  try clear hcz26_2
                  try clear hcz26_3
                  try clear hcz8_0
                  try clear hcz8_1
                  try clear hcz8_2
                  try clear hcz8_3
                  try clear hfz11_0
                  try clear hfz11_1
                  try clear hfz11_2
                  try clear hfz11_3
                  try clear hfz20_0
                  try clear hfz20_1
                  try clear hfz20_2
                  try clear hfz20_3
                  try clear hfz23_0
                  try clear hfz23_1
                  try clear hfz23_2
                  try clear hfz23_3
                  try clear hfz26_0
                  try clear hfz26_1
                  try clear hfz26_2
                  try clear hfz26_3
                  try clear hfz8_0
                  try clear hfz8_1
                  try clear hfz8_2
                  try clear hfz8_3
                  try clear hx18_0
                  try clear p18
                  try clear p2
                  try clear q18
                  obtain ⟨x7_2, x8_2, x34_2, rfl, rfl, HA, HK2, HO_7, BK224, HB⟩ := hrel
                  cases gk with
                  | zero => exact absurd HA.out (by simp [impl_RunNfa.l0])
                  | succ k2 =>
                    have H := HA.out
                    clear HA
                    simp only [impl_RunNfa.l0] at H
                    by_cases c28 : x34_2 < (l1.length : Int)
                    · rw [if_pos c28] at H
                      have c28b0 : decide (x34_2 < (l1.length : Int)) = true := decide_eq_true c28
                      clear c28
                      by_cases c29 : 0 ≤ x34_2
                      · rw [if_pos c29] at H
                        have c29b0 : decide (0 ≤ x34_2) = true := decide_eq_true c29
                        clear c29
                        by_cases c30 : x34_2 < (l1.length : Int)
                        · rw [if_pos c30] at H
                          have c30b0 : decide (x34_2 < (l1.length : Int)) = true := decide_eq_true c30
                          clear c30
                          by_cases c31 : 0 ≤ a0_0
                          · rw [if_pos c31] at H
                            have c31b0 := eq_true c31
                            have c31b1 : decide (0 ≤ a0_0) = true := decide_eq_true c31
                            clear c31
                            by_cases c32 : (a0_0 : Int).toNat ≤ 281474976710656
                            · rw [if_pos c32] at H
                              have c32b0 := eq_true c32
                              have c32b1 : decide ((a0_0 : Int).toNat ≤ 281474976710656) = true := decide_eq_true c32
                              clear c32
                              obtain ⟨y235, hy235⟩ : ∃ y_ : List Bool, y_ = (List.replicate (a0_0 : Int).toNat false) := ⟨_, rfl⟩
                              replace H : (impl_RunNfa.l1 k2 x7_2 x8_2 (rd l1 x34_2) y235 l1 (l1.length : Int) x34_2 l0_3 (l0_3.length : Int) 0 a0_0 a0_1 a0_2 l0_3) = some (r1, r2, r3) := by first | (rw [hy235]; with_reducible exact H) | (have H2_ := (Option.bind_some _ _).symm.trans H; rw [hy235]; with_reducible exact H2_) | (have H2_ := (Option.bind_some _ _).symm.trans H; with_reducible exact H2_) | with_reducible exact H | (rw [hy235]; exact H) | exact H
                              have Ny235 := Aside0.mk hy235
                              clear hy235
                              have H' := Aside0.mk H
                              clear H
                              have p234 : 0 ≤ (x34_2 : Int) := of_decide_eq_true (by first | (with_reducible assumption) | assumption)
                              have q234 : x34_2 < (l1.length : Int) := of_decide_eq_true (by first | (with_reducible assumption) | assumption)
                              obtain ⟨ad234, e234, hx234_0⟩ := Kd.at_int HR1.out x34_2 p234 q234
                              cases e234
                              replace hx234_0 := (HB.out.cell (World.block_lt_of_cell? w _ hx234_0)).trans hx234_0
                              replace p234 := eq_true p234
                              replace q234 := eq_true q234
                              have hcz33_0 : wr.cell? ⟨gb224, 0, none⟩ = some (.int .i64 a0_0) := (blk_cell BK224.out 0).trans rfl
                              have hcz33_1 : wr.cell? ⟨gb224, 1, none⟩ = some (.int .i64 a0_1) := (blk_cell BK224.out 1).trans rfl
                              have hcz33_2 : wr.cell? ⟨gb224, 2, none⟩ = some (.int .i64 a0_2) := (blk_cell BK224.out 2).trans rfl
                              have hcz33_3 : wr.cell? ⟨gb224, 3, none⟩ = some (.slice A0_3 l0_3.length c0_3) := (blk_cell BK224.out 3).trans rfl
                              have hfz33_0 := blk_frozen BK224.out 0
                              have hfz33_1 := blk_frozen BK224.out 1
                              have hfz33_2 := blk_frozen BK224.out 2
                              have hfz33_3 := blk_frozen BK224.out 3
                              go_wp2_with (first | ((with_reducible refine gate_dst (N := 40) rfl ?_); refine Kd.R_make Kd.bool _ 4 rfl (N := 40) rfl 123 _ _ rfl a0_0 rfl rfl Try.underlying123 (.bool false) 1 info4 rfl (by decide) (by omega) false (ok := fun _ => True) (okp := fun _ => True) rfl (fun _ hk => hk) trivial (of_decide_eq_true (by first | (with_reducible assumption) | assumption)) (Nat.le_trans (Nat.mul_le_mul_right _ (of_decide_eq_true (by first | (with_reducible assumption) | assumption) : a0_0.toNat ≤ 281474976710656)) (by omega)) (Below.refl _ _) (Nat.le_refl _) ?_; intro v236 w34 ho35 hb hg_ hnew_; clear hg_ hnew_; (first | rw [← Ny235.out] at ho35 | (simp only [Int.reduceToNat] at ho35; rw [← Ny235.out] at ho35)); have n0_ := Aside0.mk (Kd.R_elder' (by (with_reducible repeat (first | apply Kd.R_alloc | apply Kd.R_drewN | apply Kd.R_drew)); exact HO_7.out) (Kd.R_base ho35) hb); have n1_ := Aside0.mk (Kd.R_lower (Kd.R_new' ho35 (Kd.R_lt (by (with_reducible repeat (first | apply Kd.R_alloc | apply Kd.R_drewN | apply Kd.R_drew)); exact HO_7.out))) (below_size (by repeat (first | (with_reducible first | exact HB.out | apply below_alloc | apply pw_below_drewN | apply below_drew1 | refine below_set ?_ GE224.out) | exact HB.out)))); have n2_ := Aside0.mk (blk_below (g := gb224) (o := .cells #[.int .i64 a0_0, .int .i64 a0_1, .int .i64 a0_2, .slice A0_3 l0_3.length c0_3] 60 (0, 0)) (by (with_reducible repeat (first | refine blk_drewN ?_ _ | refine blk_drew ?_ | refine blk_alloc ?_ _)); exact BK224.out) hb); have n3_ := Aside0.mk (below_step (by repeat (first | (with_reducible first | exact HB.out | apply below_alloc | apply pw_below_drewN | apply below_drew1 | refine below_set ?_ GE224.out) | exact HB.out)) hb); clear HO_7; clear BK224; clear HB; have HO_7 := n0_; have HO237 := n1_; have BK224 := n2_; have HB := n3_; clear n0_ n1_ n2_ n3_; clear hb ho35; have hcz36_0 : w34.cell? ⟨gb224, 0, none⟩ = some (.int .i64 a0_0) := (blk_cell BK224.out 0).trans rfl; have hcz36_1 : w34.cell? ⟨gb224, 1, none⟩ = some (.int .i64 a0_1) := (blk_cell BK224.out 1).trans rfl; have hcz36_2 : w34.cell? ⟨gb224, 2, none⟩ = some (.int .i64 a0_2) := (blk_cell BK224.out 2).trans rfl; have hcz36_3 : w34.cell? ⟨gb224, 3, none⟩ = some (.slice A0_3 l0_3.length c0_3) := (blk_cell BK224.out 3).trans rfl; have hfz36_0 := blk_frozen BK224.out 0; have hfz36_1 := blk_frozen BK224.out 1; have hfz36_2 := blk_frozen BK224.out 2; have hfz36_3 := blk_frozen BK224.out 3))
                              go_loopg [44] k2 (fun kq v44 w' => ∃ (x11_3 : List Bool) (x44_3 : Int), v44 = .int .i64 x44_3 ∧ Aside0 (impl_RunNfa.l1 kq x7_2 x8_2 (rd l1 x34_2) x11_3 l1 (l1.length : Int) x34_2 l0_3 (l0_3.length : Int) x44_3 a0_0 a0_1 a0_2 l0_3 = some (r1, r2, r3)) ∧ Aside0 (kq ≤ k2) ∧ Aside0 (Kd.R Kd.bool 4 w' w.heap.size (fun k_ => some k_ ≠ (v236 : Value).ownBlock) u7 x7_2) ∧ Aside0 (Kd.R Kd.bool 4 w' w.heap.size (fun k_ => some k_ ≠ (u7 : Value).ownBlock) v236 x11_3) ∧ Aside0 (w'.heap[gb224]? = some (.cells #[.int .i64 a0_0, .int .i64 a0_1, .int .i64 a0_2, (.slice A0_3 l0_3.length c0_3)] 60 (0, 0))) ∧ Aside0 (Below w.heap.size w w'))
                              case atStart => exact ⟨(y235), (0), (by first | rfl | (simp; done) | (simp [*]; done)), H', ⟨Nat.le_refl _⟩, ⟨by (with_reducible repeat (first | apply Kd.R_alloc | apply Kd.R_drewN | apply Kd.R_drew)); exact Kd.R_mono HO_7.out (fun _ hk => hk.2)⟩, ⟨by (with_reducible repeat (first | apply Kd.R_alloc | apply Kd.R_drewN | apply Kd.R_drew)); exact Kd.R_mono HO237.out (fun _ hk => hk.2)⟩, ⟨by (with_reducible repeat (first | refine blk_drewN ?_ _ | refine blk_drew ?_ | refine blk_alloc ?_ _)); exact BK224.out⟩, ⟨by repeat (first | (with_reducible first | exact HB.out | apply below_alloc | apply pw_below_drewN | apply below_drew1 | refine below_set ?_ GE224.out) | exact HB.out)⟩⟩
                              case round =>
                                clear H'
                                try clear c1
                                try clear p1
                                try clear q1
                                try clear hx1
                                try clear c2
                                try clear p2
                                try clear q2
                                try clear hx2
                                try clear c3
                                try clear c4
                                try clear c5
                                try clear c6
                                try clear c9
                                try clear c13
                                try clear c14
                                try clear c14b0
                                try clear c14b1
                                try clear c15
                                try clear c15b0
                                try clear c15b1
                                try clear c16
                                try clear c16b0
                                try clear c17
                                try clear c17b0
                                try clear p18
                                try clear q18
                                try clear hx18
                                try clear hf18
                                try clear p23
                                try clear q23
                                try clear hx23
                                try clear c28
                                try clear c28b0
                                try clear c29
                                try clear c29b0
                                try clear c30
                                try clear c30b0
                                try clear c31
                                try clear c31b0
                                try clear c31b1
                                try clear c32
                                try clear c32b0
                                try clear c32b1
                                try clear hcz11_0
                                try clear hcz11_1
                                try clear hcz11_2
                                try clear hcz11_3
                                try clear hcz20_0
                                try clear hcz20_1
                                try clear hcz20_2
                                try clear hcz20_3
                                try clear hcz23_0
                                try clear hcz23_1
                                try clear hcz23_2
                                try clear hcz23_3
                                try clear hcz26_0
                                try clear hcz26_1
                                try clear hcz26_2
                                try clear hcz26_3
                                try clear hcz33_0
                                try clear hcz33_1
                                try clear hcz33_2
                                try clear hcz33_3
                                try clear hcz36_0
                                try clear hcz36_1
                                try clear hcz36_2
                                try clear hcz36_3
                                try clear hcz8_0
                                try clear hcz8_1
                                try clear hcz8_2
                                try clear hcz8_3
                                try clear hfz11_0
                                try clear hfz11_1
                                try clear hfz11_2
                                try clear hfz11_3
                                try clear hfz20_0
                                try clear hfz20_1
                                try clear hfz20_2
                                try clear hfz20_3
                                try clear hfz23_0
                                try clear hfz23_1
                                try clear hfz23_2
                                try clear hfz23_3
                                try clear hfz26_0
                                try clear hfz26_1
                                try clear hfz26_2
                                try clear hfz26_3
                                try clear hfz33_0
                                try clear hfz33_1
                                try clear hfz33_2
                                try clear hfz33_3
                                try clear hfz36_0
                                try clear hfz36_1
                                try clear hfz36_2
                                try clear hfz36_3
                                try clear hfz8_0
                                try clear hfz8_1
                                try clear hfz8_2
                                try clear hfz8_3
                                try clear hx18_0
                                try clear hx234_0
                                try clear p1
                                try clear p18
                                try clear p2
                                try clear p234
                                try clear q1
                                try clear q18
                                try clear q234
                                obtain ⟨x11_3, x44_3, rfl, HA, HK3, HO_7, HO_11, BK224, HB⟩ := hrel
                                cases gk with
                                | zero => exact absurd HA.out (by simp [impl_RunNfa.l1])
                                | succ k3 =>
                                  have H := HA.out
                                  clear HA
                                  simp only [impl_RunNfa.l1] at H
                                  by_cases c37 : x44_3 < (l0_3.length : Int)
                                  · rw [if_pos c37] at H
                                    have c37b0 : decide (x44_3 < (l0_3.length : Int)) = true := decide_eq_true c37
                                    clear c37
                                    by_cases c38 : 0 ≤ x44_3
                                    · rw [if_pos c38] at H
                                      have c38b0 : decide (0 ≤ x44_3) = true := decide_eq_true c38
                                      clear c38
                                      by_cases c39 : x44_3 < (l0_3.length : Int)
                                      · rw [if_pos c39] at H
                                        have c39b0 : decide (x44_3 < (l0_3.length : Int)) = true := decide_eq_true c39
                                        clear c39
                                        by_cases c40 : 0 ≤ ((rd_T97 l0_3 x44_3).f0)
                                        · rw [if_pos c40] at H
                                          have c40b0 : decide (0 ≤ ((rd_T97 l0_3 x44_3).f0)) = true := decide_eq_true c40
                                          clear c40
                                          by_cases c41 : ((rd_T97 l0_3 x44_3).f0) < (x7_2.length : Int)
                                          · rw [if_pos c41] at H
                                            have c41b0 : decide (((rd_T97 l0_3 x44_3).f0) < (x7_2.length : Int)) = true := decide_eq_true c41
                                            clear c41
                                            obtain ⟨bq42, hbq42⟩ : ∃ b_ : Bool, b_ = (rdOf false x7_2 ((rd_T97 l0_3 x44_3).f0)) := ⟨_, rfl⟩
                                            replace H : (if bq42 = true then (if ((rd_T97 l0_3 x44_3).f2 = true) then (impl_RunNfa.l1 k3 x7_2 x8_2 (rd l1 x34_2) x11_3 l1 (l1.length : Int) x34_2 l0_3 (l0_3.length : Int) (wrap64 (x44_3 + 1)) a0_0 a0_1 a0_2 l0_3) else (if (rd_T97 l0_3 x44_3).f3 = true then (if 0 ≤ ((rd_T97 l0_3 x44_3).f1) then (if ((rd_T97 l0_3 x44_3).f1) < (x11_3.length : Int) then (impl_RunNfa.l1 k3 x7_2 x8_2 (rd l1 x34_2) (x11_3.set (((rd_T97 l0_3 x44_3).f1) : Int).toNat true) l1 (l1.length : Int) x34_2 l0_3 (l0_3.length : Int) (wrap64 (x44_3 + 1)) a0_0 a0_1 a0_2 l0_3) else (none)) else (none)) else (if ((rd_T97 l0_3 x44_3).f4) = (rd l1 x34_2) then (if 0 ≤ ((rd_T97 l0_3 x44_3).f1) then (if ((rd_T97 l0_3 x44_3).f1) < (x11_3.length : Int) then (impl_RunNfa.l1 k3 x7_2 x8_2 (rd l1 x34_2) (x11_3.set (((rd_T97 l0_3 x44_3).f1) : Int).toNat true) l1 (l1.length : Int) x34_2 l0_3 (l0_3.length : Int) (wrap64 (x44_3 + 1)) a0_0 a0_1 a0_2 l0_3) else (none)) else (none)) else (impl_RunNfa.l1 k3 x7_2 x8_2 (rd l1 x34_2) x11_3 l1 (l1.length : Int) x34_2 l0_3 (l0_3.length : Int) (wrap64 (x44_3 + 1)) a0_0 a0_1 a0_2 l0_3)))) else (impl_RunNfa.l1 k3 x7_2 x8_2 (rd l1 x34_2) x11_3 l1 (l1.length : Int) x34_2 l0_3 (l0_3.length : Int) (wrap64 (x44_3 + 1)) a0_0 a0_1 a0_2 l0_3)) = some (r1, r2, r3) := by rw [← hbq42] at H; exact H
                                            have Nbq42 := Aside0.mk hbq42
                                            clear hbq42
                                            (try rw [← Nbq42.out])
                                            by_cases c43 : bq42 = true
                                            · subst c43
                                              have H1 : (if ((rd_T97 l0_3 x44_3).f2 = true) then (impl_RunNfa.l1 k3 x7_2 x8_2 (rd l1 x34_2) x11_3 l1 (l1.length : Int) x34_2 l0_3 (l0_3.length : Int) (wrap64 (x44_3 + 1)) a0_0 a0_1 a0_2 l0_3) else (if (rd_T97 l0_3 x44_3).f3 = true then (if 0 ≤ ((rd_T97 l0_3 x44_3).f1) then (if ((rd_T97 l0_3 x44_3).f1) < (x11_3.length : Int) then (impl_RunNfa.l1 k3 x7_2 x8_2 (rd l1 x34_2) (x11_3.set (((rd_T97 l0_3 x44_3).f1) : Int).toNat true) l1 (l1.length : Int) x34_2 l0_3 (l0_3.length : Int) (wrap64 (x44_3 + 1)) a0_0 a0_1 a0_2 l0_3) else (none)) else (none)) else (if ((rd_T97 l0_3 x44_3).f4) = (rd l1 x34_2) then (if 0 ≤ ((rd_T97 l0_3 x44_3).f1) then (if ((rd_T97 l0_3 x44_3).f1) < (x11_3.length : Int) then (impl_RunNfa.l1 k3 x7_2 x8_2 (rd l1 x34_2) (x11_3.set (((rd_T97 l0_3 x44_3).f1) : Int).toNat true) l1 (l1.length : Int) x34_2 l0_3 (l0_3.length : Int) (wrap64 (x44_3 + 1)) a0_0 a0_1 a0_2 l0_3) else (none)) else (none)) else (impl_RunNfa.l1 k3 x7_2 x8_2 (rd l1 x34_2) x11_3 l1 (l1.length : Int) x34_2 l0_3 (l0_3.length : Int) (wrap64 (x44_3 + 1)) a0_0 a0_1 a0_2 l0_3)))) = some (r1, r2, r3) := by rw [if_pos rfl] at H; exact H
                                              clear H
                                              have H := H1
                                              clear H1
                                              obtain ⟨bq44, hbq44⟩ : ∃ b_ : Bool, b_ = ((rd_T97 l0_3 x44_3).f2) := ⟨_, rfl⟩
                                              replace H : (if (bq44 = true) then (impl_RunNfa.l1 k3 x7_2 x8_2 (rd l1 x34_2) x11_3 l1 (l1.length : Int) x34_2 l0_3 (l0_3.length : Int) (wrap64 (x44_3 + 1)) a0_0 a0_1 a0_2 l0_3) else (if (rd_T97 l0_3 x44_3).f3 = true then (if 0 ≤ ((rd_T97 l0_3 x44_3).f1) then (if ((rd_T97 l0_3 x44_3).f1) < (x11_3.length : Int) then (impl_RunNfa.l1 k3 x7_2 x8_2 (rd l1 x34_2) (x11_3.set (((rd_T97 l0_3 x44_3).f1) : Int).toNat true) l1 (l1.length : Int) x34_2 l0_3 (l0_3.length : Int) (wrap64 (x44_3 + 1)) a0_0 a0_1 a0_2 l0_3) else (none)) else (none)) else (if ((rd_T97 l0_3 x44_3).f4) = (rd l1 x34_2) then (if 0 ≤ ((rd_T97 l0_3 x44_3).f1) then (if ((rd_T97 l0_3 x44_3).f1) < (x11_3.length : Int) then (impl_RunNfa.l1 k3 x7_2 x8_2 (rd l1 x34_2) (x11_3.set (((rd_T97 l0_3 x44_3).f1) : Int).toNat true) l1 (l1.length : Int) x34_2 l0_3 (l0_3.length : Int) (wrap64 (x44_3 + 1)) a0_0 a0_1 a0_2 l0_3) else (none)) else (none)) else (impl_RunNfa.l1 k3 x7_2 x8_2 (rd l1 x34_2) x11_3 l1 (l1.length : Int) x34_2 l0_3 (l0_3.length : Int) (wrap64 (x44_3 + 1)) a0_0 a0_1 a0_2 l0_3)))) = some (r1, r2, r3) := by rw [← hbq44] at H; exact H
                                              have Nbq44 := Aside0.mk hbq44
                                              clear hbq44
                                              (try rw [← Nbq44.out])
                                              by_cases c45 : (bq44 = true)
                                              · subst c45
                                                have H1 : (impl_RunNfa.l1 k3 x7_2 x8_2 (rd l1 x34_2) x11_3 l1 (l1.length : Int) x34_2 l0_3 (l0_3.length : Int) (wrap64 (x44_3 + 1)) a0_0 a0_1 a0_2 l0_3) = some (r1, r2, r3) := by rw [if_pos rfl] at H; exact H
                                                clear H
                                                have H := H1
                                                clear H1
                                                have H' := Aside0.mk H
                                                clear H
                                                have p238 : 0 ≤ (x44_3 : Int) := of_decide_eq_true (by first | (with_reducible assumption) | assumption)
                                                have q238 : x44_3 < (l0_3.length : Int) := of_decide_eq_true (by first | (with_reducible assumption) | assumption)
                                                obtain ⟨ad238, e238, hx238_0, hx238_1, hx238_2, hx238_3, hx238_4⟩ := at_T97 HR0_3.out x44_3 p238 q238
                                                (try rw [← Nbq42.out] at hx238_2)
                                                (try rw [← Nbq44.out] at hx238_2)
                                                (try rw [← Nbq42.out] at hx238_3)
                                                (try rw [← Nbq44.out] at hx238_3)
                                                cases e238
                                                replace hx238_0 := (HB.out.cell (World.block_lt_of_cell? w _ hx238_0)).trans hx238_0
                                                replace hx238_1 := (HB.out.cell (World.block_lt_of_cell? w _ hx238_1)).trans hx238_1
                                                replace hx238_2 := (HB.out.cell (World.block_lt_of_cell? w _ hx238_2)).trans hx238_2
                                                replace hx238_3 := (HB.out.cell (World.block_lt_of_cell? w _ hx238_3)).trans hx238_3
                                                replace hx238_4 := (HB.out.cell (World.block_lt_of_cell? w _ hx238_4)).trans hx238_4
                                                replace p238 := eq_true p238
                                                replace q238 := eq_true q238
                                                go_wp2_with (first | ((with_reducible refine gate_dst (N := 13) rfl ?_); refine box_event ?hg (N := 13) ?hd (cs := #[.int .i64 0, .int .i64 0, .bool false, .bool false, .int .i64 0]) (t := 97) ?hr ?_; (case hd => rfl); (case hg => rfl); (case hr => first | (go_simp; done) | (go_simp; rfl)); intro gb239 hg w46 hbox hb; have n0_ := Aside0.mk (Kd.R_below (by (with_reducible repeat (first | apply Kd.R_alloc | apply Kd.R_drewN | apply Kd.R_drew)); exact HO_7.out) hb); have n1_ := Aside0.mk (Kd.R_below (by (with_reducible repeat (first | apply Kd.R_alloc | apply Kd.R_drewN | apply Kd.R_drew)); exact HO_11.out) hb); have n2_ := Aside0.mk (blk_below (g := gb224) (o := .cells #[.int .i64 a0_0, .int .i64 a0_1, .int .i64 a0_2, .slice (some ad238) l0_3.length c0_3] 60 (0, 0)) (by (with_reducible repeat (first | refine blk_drewN ?_ _ | refine blk_drew ?_ | refine blk_alloc ?_ _)); exact BK224.out) hb); have n3_ := Aside0.mk (below_step (by repeat (first | (with_reducible first | exact HB.out | apply below_alloc | apply pw_below_drewN | apply below_drew1 | refine below_set ?_ GE224.out) | exact HB.out)) hb); have n4_ := Aside0.mk (hbox); have n5_ := Aside0.mk ((by rw [hg]; exact (below_size (by repeat (first | (with_reducible first | exact HB.out | apply below_alloc | apply pw_below_drewN | apply below_drew1 | refine below_set ?_ GE224.out) | exact HB.out))) : w.heap.size ≤ gb239)); have n6_ := Aside0.mk ((by rw [hg]; exact (below_size (by repeat (first | (with_reducible first | exact HB.out | apply below_alloc | apply pw_below_drewN | apply below_drew1 | refine below_set ?_ GE224.out) | exact HB.out))) : w.heap.size ≤ gb239)); have n7_ := Aside0.mk ((by rw [hg]; exact Nat.ne_of_lt (blk_lt (g := gb224) (o := .cells #[.int .i64 a0_0, .int .i64 a0_1, .int .i64 a0_2, .slice (some ad238) l0_3.length c0_3] 60 (0, 0)) (by (with_reducible repeat (first | refine blk_drewN ?_ _ | refine blk_drew ?_ | refine blk_alloc ?_ _)); exact BK224.out)) : gb224 ≠ gb239)); have n8_ := Aside0.mk ((by rw [hg]; exact Nat.ne_of_gt (blk_lt (g := gb224) (o := .cells #[.int .i64 a0_0, .int .i64 a0_1, .int .i64 a0_2, .slice (some ad238) l0_3.length c0_3] 60 (0, 0)) (by (with_reducible repeat (first | refine blk_drewN ?_ _ | refine blk_drew ?_ | refine blk_alloc ?_ _)); exact BK224.out)) : gb239 ≠ gb224)); clear HO_7; clear HO_11; clear BK224; clear HB; have HO_7 := n0_; have HO_11 := n1_; have BK224 := n2_; have HB := n3_; have BK239 := n4_; have GW239 := n5_; have GE239 := n6_; have NB224_239 := n7_; have NB239_224 := n8_; clear n0_ n1_ n2_ n3_ n4_ n5_ n6_ n7_ n8_; clear hb hbox hg; have hnb47 := NB239_224.out; have hnc47 := NB224_239.out; have hcz48_0 : w46.cell? ⟨gb239, 0, none⟩ = some (.int .i64 0) := (blk_cell BK239.out 0).trans rfl; have hcz48_1 : w46.cell? ⟨gb239, 1, none⟩ = some (.int .i64 0) := (blk_cell BK239.out 1).trans rfl; have hcz48_2 : w46.cell? ⟨gb239, 2, none⟩ = some (.bool false) := (blk_cell BK239.out 2).trans rfl; have hcz48_3 : w46.cell? ⟨gb239, 3, none⟩ = some (.bool false) := (blk_cell BK239.out 3).trans rfl; have hcz48_4 : w46.cell? ⟨gb239, 4, none⟩ = some (.int .i64 0) := (blk_cell BK239.out 4).trans rfl; have hfz48_0 := blk_frozen BK239.out 0; have hfz48_1 := blk_frozen BK239.out 1; have hfz48_2 := blk_frozen BK239.out 2; have hfz48_3 := blk_frozen BK239.out 3; have hfz48_4 := blk_frozen BK239.out 4; obtain ⟨Ao49, co49, eo49⟩ := Kd.R_slice HO_7.out; subst eo49; have p240 : 0 ≤ (((rd_T97 l0_3 x44_3).f0) : Int) := of_decide_eq_true (by first | (with_reducible assumption) | assumption); have q240 : ((rd_T97 l0_3 x44_3).f0) < (x7_2.length : Int) := of_decide_eq_true (by first | (with_reducible assumption) | assumption); obtain ⟨ad240, e240, hx240_0⟩ := Kd.at_bool (Kd.R_reads' HO_7.out).2.2 ((rd_T97 l0_3 x44_3).f0) p240 q240; (try rw [← Nbq42.out] at hx240_0); (try rw [← Nbq44.out] at hx240_0); cases e240; have hn240_0 : (ad240 : Addr).block ≠ gb239 := Kd.own_blk (Kd.R_ne HO_7.out BK239.out (by decide)); have hn240_1 : (ad240 : Addr).block ≠ gb239 := Kd.own_blk (Kd.R_ne HO_7.out BK239.out (by decide)); have hn240_2 : (ad240 : Addr).block ≠ gb239 := Kd.own_blk (Kd.R_ne HO_7.out BK239.out (by decide)); have hn240_3 : (ad240 : Addr).block ≠ gb239 := Kd.own_blk (Kd.R_ne HO_7.out BK239.out (by decide)); have hn240_4 : (ad240 : Addr).block ≠ gb239 := Kd.own_blk (Kd.R_ne HO_7.out BK239.out (by decide)); replace hx240_0 := (cell_far (p := ⟨gb239, 0, none⟩) (by first | (rw [add_block]; exact hn240_0) | (show (Addr.add _ _).block ≠ _; rw [add_block]; exact hn240_0) | exact hn240_0) (.int .i64 ((rd_T97 l0_3 x44_3).f0))).trans hx240_0; replace hx240_0 := (cell_far (p := ⟨gb239, 1, none⟩) (by first | (rw [add_block]; exact hn240_1) | (show (Addr.add _ _).block ≠ _; rw [add_block]; exact hn240_1) | exact hn240_1) (.int .i64 ((rd_T97 l0_3 x44_3).f1))).trans hx240_0; replace hx240_0 := (cell_far (p := ⟨gb239, 2, none⟩) (by first | (rw [add_block]; exact hn240_2) | (show (Addr.add _ _).block ≠ _; rw [add_block]; exact hn240_2) | exact hn240_2) (.bool true)).trans hx240_0; replace hx240_0 := (cell_far (p := ⟨gb239, 3, none⟩) (by first | (rw [add_block]; exact hn240_3) | (show (Addr.add _ _).block ≠ _; rw [add_block]; exact hn240_3) | exact hn240_3) (.bool ((rd_T97 l0_3 x44_3).f3))).trans hx240_0; replace hx240_0 := (cell_far (p := ⟨gb239, 4, none⟩) (by first | (rw [add_block]; exact hn240_4) | (show (Addr.add _ _).block ≠ _; rw [add_block]; exact hn240_4) | exact hn240_4) (.int .i64 ((rd_T97 l0_3 x44_3).f4))).trans hx240_0; clear hn240_0; clear hn240_1; clear hn240_2; clear hn240_3; clear hn240_4; replace p240 := eq_true p240; replace q240 := eq_true q240))
                                                go_roundg k3
                                                case measure => have := HJ2.out; have := HK2.out; have := HK3.out; omega
                                                case rel => (try rw [← Nbq42.out]); (try rw [← Nbq44.out]); exact ⟨(x11_3), (wrap64 (x44_3 + 1)), (by first | rfl | (simp; done) | (simp [*]; done)), H', ⟨by have := HJ2.out; have := HK2.out; have := HK3.out; omega⟩, ⟨by (try rw [← Nbq42.out]); (try rw [← Nbq44.out]); (with_reducible repeat (first | apply Kd.R_alloc | apply Kd.R_drewN | apply Kd.R_drew)); exact Kd.R_mono (Kd.R_far (p := ⟨gb239, 4, none⟩) (Kd.R_far (p := ⟨gb239, 3, none⟩) (Kd.R_far (p := ⟨gb239, 2, none⟩) (Kd.R_far (p := ⟨gb239, 1, none⟩) (Kd.R_far (p := ⟨gb239, 0, none⟩) (Kd.R_types HO_7.out BK239.out (by decide)) (fun _ hk => hk.2) (.int .i64 ((rd_T97 l0_3 x44_3).f0))) (fun _ hk => hk.2) (.int .i64 ((rd_T97 l0_3 x44_3).f1))) (fun _ hk => hk.2) (.bool true)) (fun _ hk => hk.2) (.bool ((rd_T97 l0_3 x44_3).f3))) (fun _ hk => hk.2) (.int .i64 ((rd_T97 l0_3 x44_3).f4))) (fun _ hk => hk.1)⟩, ⟨by (try rw [← Nbq42.out]); (try rw [← Nbq44.out]); (with_reducible repeat (first | apply Kd.R_alloc | apply Kd.R_drewN | apply Kd.R_drew)); exact Kd.R_mono (Kd.R_far (p := ⟨gb239, 4, none⟩) (Kd.R_far (p := ⟨gb239, 3, none⟩) (Kd.R_far (p := ⟨gb239, 2, none⟩) (Kd.R_far (p := ⟨gb239, 1, none⟩) (Kd.R_far (p := ⟨gb239, 0, none⟩) (Kd.R_types HO_11.out BK239.out (by decide)) (fun _ hk => hk.2) (.int .i64 ((rd_T97 l0_3 x44_3).f0))) (fun _ hk => hk.2) (.int .i64 ((rd_T97 l0_3 x44_3).f1))) (fun _ hk => hk.2) (.bool true)) (fun _ hk => hk.2) (.bool ((rd_T97 l0_3 x44_3).f3))) (fun _ hk => hk.2) (.int .i64 ((rd_T97 l0_3 x44_3).f4))) (fun _ hk => hk.1)⟩, ⟨by (try rw [← Nbq42.out]); (try rw [← Nbq44.out]); (with_reducible repeat (first | refine blk_drewN ?_ _ | refine blk_drew ?_ | refine blk_alloc ?_ _)); refine blk_far ?_ NB224_239.out _; (with_reducible repeat (first | refine blk_drewN ?_ _ | refine blk_drew ?_ | refine blk_alloc ?_ _)); refine blk_far ?_ NB224_239.out _; (with_reducible repeat (first | refine blk_drewN ?_ _ | refine blk_drew ?_ | refine blk_alloc ?_ _)); refine blk_far ?_ NB224_239.out _; (with_reducible repeat (first | refine blk_drewN ?_ _ | refine blk_drew ?_ | refine blk_alloc ?_ _)); refine blk_far ?_ NB224_239.out _; (with_reducible repeat (first | refine blk_drewN ?_ _ | refine blk_drew ?_ | refine blk_alloc ?_ _)); refine blk_far ?_ NB224_239.out _; (with_reducible repeat (first | refine blk_drewN ?_ _ | refine blk_drew ?_ | refine blk_alloc ?_ _)); exact BK224.out⟩, ⟨by repeat (first | (with_reducible first | exact HB.out | apply below_alloc | apply pw_below_drewN | apply below_drew1 | refine below_set ?_ GE224.out | refine below_set ?_ GE239.out) | exact HB.out)⟩⟩
                                              · replace c45 := Bool.eq_false_iff.mpr c45
                                                subst c45
                                                have H1 : (if (rd_T97 l0_3 x44_3).f3 = true then (if 0 ≤ ((rd_T97 l0_3 x44_3).f1) then (if ((rd_T97 l0_3 x44_3).f1) < (x11_3.length : Int) then (impl_RunNfa.l1 k3 x7_2 x8_2 (rd l1 x34_2) (x11_3.set (((rd_T97 l0_3 x44_3).f1) : Int).toNat true) l1 (l1.length : Int) x34_2 l0_3 (l0_3.length : Int) (wrap64 (x44_3 + 1)) a0_0 a0_1 a0_2 l0_3) else (none)) else (none)) else (if ((rd_T97 l0_3 x44_3).f4) = (rd l1 x34_2) then (if 0 ≤ ((rd_T97 l0_3 x44_3).f1) then (if ((rd_T97 l0_3 x44_3).f1) < (x11_3.length : Int) then (impl_RunNfa.l1 k3 x7_2 x8_2 (rd l1 x34_2) (x11_3.set (((rd_T97 l0_3 x44_3).f1) : Int).toNat true) l1 (l1.length : Int) x34_2 l0_3 (l0_3.length : Int) (wrap64 (x44_3 + 1)) a0_0 a0_1 a0_2 l0_3) else (none)) else (none)) else (impl_RunNfa.l1 k3 x7_2 x8_2 (rd l1 x34_2) x11_3 l1 (l1.length : Int) x34_2 l0_3 (l0_3.length : Int) (wrap64 (x44_3 + 1)) a0_0 a0_1 a0_2 l0_3))) = some (r1, r2, r3) := by rw [if_neg (show ¬ (false = true) by decide)] at H; exact H
                                                clear H
                                                have H := H1
                                                clear H1
                                                obtain ⟨bq50, hbq50⟩ : ∃ b_ : Bool, b_ = ((rd_T97 l0_3 x44_3).f3) := ⟨_, rfl⟩
                                                replace H : (if bq50 = true then (if 0 ≤ ((rd_T97 l0_3 x44_3).f1) then (if ((rd_T97 l0_3 x44_3).f1) < (x11_3.length : Int) then (impl_RunNfa.l1 k3 x7_2 x8_2 (rd l1 x34_2) (x11_3.set (((rd_T97 l0_3 x44_3).f1) : Int).toNat true) l1 (l1.length : Int) x34_2 l0_3 (l0_3.length : Int) (wrap64 (x44_3 + 1)) a0_0 a0_1 a0_2 l0_3) else (none)) else (none)) else (if ((rd_T97 l0_3 x44_3).f4) = (rd l1 x34_2) then (if 0 ≤ ((rd_T97 l0_3 x44_3).f1) then (if ((rd_T97 l0_3 x44_3).f1) < (x11_3.length : Int) then (impl_RunNfa.l1 k3 x7_2 x8_2 (rd l1 x34_2) (x11_3.set (((rd_T97 l0_3 x44_3).f1) : Int).toNat true) l1 (l1.length : Int) x34_2 l0_3 (l0_3.length : Int) (wrap64 (x44_3 + 1)) a0_0 a0_1 a0_2 l0_3) else (none)) else (none)) else (impl_RunNfa.l1 k3 x7_2 x8_2 (rd l1 x34_2) x11_3 l1 (l1.length : Int) x34_2 l0_3 (l0_3.length : Int) (wrap64 (x44_3 + 1)) a0_0 a0_1 a0_2 l0_3))) = some (r1, r2, r3) := by rw [← hbq50] at H; exact H
                                                have Nbq50 := Aside0.mk hbq50
                                                clear hbq50
                                                (try rw [← Nbq50.out])
                                                by_cases c51 : bq50 = true
                                                · subst c51
                                                  have H1 : (if 0 ≤ ((rd_T97 l0_3 x44_3).f1) then (if ((rd_T97 l0_3 x44_3).f1) < (x11_3.length : Int) then (impl_RunNfa.l1 k3 x7_2 x8_2 (rd l1 x34_2) (x11_3.set (((rd_T97 l0_3 x44_3).f1) : Int).toNat true) l1 (l1.length : Int) x34_2 l0_3 (l0_3.length : Int) (wrap64 (x44_3 + 1)) a0_0 a0_1 a0_2 l0_3) else (none)) else (none)) = some (r1, r2, r3) := by rw [if_pos rfl] at H; exact H
                                                  clear H
                                                  have H := H1
                                                  clear H1
                                                  by_cases c52 : 0 ≤ ((rd_T97 l0_3 x44_3).f1)
                                                  · rw [if_pos c52] at H
                                                    have c52b0 : decide (0 ≤ ((rd_T97 l0_3 x44_3).f1)) = true := decide_eq_true c52
                                                    clear c52
                                                    by_cases c53 : ((rd_T97 l0_3 x44_3).f1) < (x11_3.length : Int)
                                                    · rw [if_pos c53] at H
                                                      have c53b0 : decide (((rd_T97 l0_3 x44_3).f1) < (x11_3.length : Int)) = true := decide_eq_true c53
                                                      clear c53
                                                      obtain ⟨y241, hy241⟩ : ∃ y_ : List Bool, y_ = (x11_3.set (((rd_T97 l0_3 x44_3).f1) : Int).toNat true) := ⟨_, rfl⟩
                                                      replace H : (impl_RunNfa.l1 k3 x7_2 x8_2 (rd l1 x34_2) y241 l1 (l1.length : Int) x34_2 l0_3 (l0_3.length : Int) (wrap64 (x44_3 + 1)) a0_0 a0_1 a0_2 l0_3) = some (r1, r2, r3) := by first | (rw [hy241]; with_reducible exact H) | (have H2_ := (Option.bind_some _ _).symm.trans H; rw [hy241]; with_reducible exact H2_) | (have H2_ := (Option.bind_some _ _).symm.trans H; with_reducible exact H2_) | with_reducible exact H | (rw [hy241]; exact H) | exact H
                                                      have Ny241 := Aside0.mk hy241
                                                      clear hy241
                                                      have H' := Aside0.mk H
                                                      clear H
                                                      have p238 : 0 ≤ (x44_3 : Int) := of_decide_eq_true (by first | (with_reducible assumption) | assumption)
                                                      have q238 : x44_3 < (l0_3.length : Int) := of_decide_eq_true (by first | (with_reducible assumption) | assumption)
                                                      obtain ⟨ad238, e238, hx238_0, hx238_1, hx238_2, hx238_3, hx238_4⟩ := at_T97 HR0_3.out x44_3 p238 q238
                                                      (try rw [← Nbq42.out] at hx238_2)
                                                      (try rw [← Nbq44.out] at hx238_2)
                                                      (try rw [← Nbq50.out] at hx238_2)
                                                      (try rw [← Nbq42.out] at hx238_3)
                                                      (try rw [← Nbq44.out] at hx238_3)
                                                      (try rw [← Nbq50.out] at hx238_3)
                                                      cases e238
                                                      replace hx238_0 := (HB.out.cell (World.block_lt_of_cell? w _ hx238_0)).trans hx238_0
                                                      replace hx238_1 := (HB.out.cell (World.block_lt_of_cell? w _ hx238_1)).trans hx238_1
                                                      replace hx238_2 := (HB.out.cell (World.block_lt_of_cell? w _ hx238_2)).trans hx238_2
                                                      replace hx238_3 := (HB.out.cell (World.block_lt_of_cell? w _ hx238_3)).trans hx238_3
                                                      replace hx238_4 := (HB.out.cell (World.block_lt_of_cell? w _ hx238_4)).trans hx238_4
                                                      replace p238 := eq_true p238
                                                      replace q238 := eq_true q238
                                                      go_wp2_with (first | ((with_reducible refine gate_dst (N := 13) rfl ?_); refine box_event ?hg (N := 13) ?hd (cs := #[.int .i64 0, .int .i64 0, .bool false, .bool false, .int .i64 0]) (t := 97) ?hr ?_; (case hd => rfl); (case hg => rfl); (case hr => first | (go_simp; done) | (go_simp; rfl)); intro gb239 hg w55 hbox hb; have n0_ := Aside0.mk (Kd.R_below (by (with_reducible repeat (first | apply Kd.R_alloc | apply Kd.R_drewN | apply Kd.R_drew)); exact HO_7.out) hb); have n1_ := Aside0.mk (Kd.R_below (by (with_reducible repeat (first | apply Kd.R_alloc | apply Kd.R_drewN | apply Kd.R_drew)); exact HO_11.out) hb); have n2_ := Aside0.mk (blk_below (g := gb224) (o := .cells #[.int .i64 a0_0, .int .i64 a0_1, .int .i64 a0_2, .slice (some ad238) l0_3.length c0_3] 60 (0, 0)) (by (with_reducible repeat (first | refine blk_drewN ?_ _ | refine blk_drew ?_ | refine blk_alloc ?_ _)); exact BK224.out) hb); have n3_ := Aside0.mk (below_step (by repeat (first | (with_reducible first | exact HB.out | apply below_alloc | apply pw_below_drewN | apply below_drew1 | refine below_set ?_ GE224.out) | exact HB.out)) hb); have n4_ := Aside0.mk (hbox); have n5_ := Aside0.mk ((by rw [hg]; exact (below_size (by repeat (first | (with_reducible first | exact HB.out | apply below_alloc | apply pw_below_drewN | apply below_drew1 | refine below_set ?_ GE224.out) | exact HB.out))) : w.heap.size ≤ gb239)); have n6_ := Aside0.mk ((by rw [hg]; exact (below_size (by repeat (first | (with_reducible first | exact HB.out | apply below_alloc | apply pw_below_drewN | apply below_drew1 | refine below_set ?_ GE224.out) | exact HB.out))) : w.heap.size ≤ gb239)); have n7_ := Aside0.mk ((by rw [hg]; exact Nat.ne_of_lt (blk_lt (g := gb224) (o := .cells #[.int .i64 a0_0, .int .i64 a0_1, .int .i64 a0_2, .slice (some ad238) l0_3.length c0_3] 60 (0, 0)) (by (with_reducible repeat (first | refine blk_drewN ?_ _ | refine blk_drew ?_ | refine blk_alloc ?_ _)); exact BK224.out)) : gb224 ≠ gb239)); have n8_ := Aside0.mk ((by rw [hg]; exact Nat.ne_of_gt (blk_lt (g := gb224) (o := .cells #[.int .i64 a0_0, .int .i64 a0_1, .int .i64 a0_2, .slice (some ad238) l0_3.length c0_3] 60 (0, 0)) (by (with_reducible repeat (first | refine blk_drewN ?_ _ | refine blk_drew ?_ | refine blk_alloc ?_ _)); exact BK224.out)) : gb239 ≠ gb224)); clear HO_7; clear HO_11; clear BK224; clear HB; have HO_7 := n0_; have HO_11 := n1_; have BK224 := n2_; have HB := n3_; have BK239 := n4_; have GW239 := n5_; have GE239 := n6_; have NB224_239 := n7_; have NB239_224 := n8_; clear n0_ n1_ n2_ n3_ n4_ n5_ n6_ n7_ n8_; clear hb hbox hg; have hnb56 := NB239_224.out; have hnc56 := NB224_239.out; have hcz57_0 : w55.cell? ⟨gb239, 0, none⟩ = some (.int .i64 0) := (blk_cell BK239.out 0).trans rfl; have hcz57_1 : w55.cell? ⟨gb239, 1, none⟩ = some (.int .i64 0) := (blk_cell BK239.out 1).trans rfl; have hcz57_2 : w55.cell? ⟨gb239, 2, none⟩ = some (.bool false) := (blk_cell BK239.out 2).trans rfl; have hcz57_3 : w55.cell? ⟨gb239, 3, none⟩ = some (.bool false) := (blk_cell BK239.out 3).trans rfl; have hcz57_4 : w55.cell? ⟨gb239, 4, none⟩ = some (.int .i64 0) := (blk_cell BK239.out 4).trans rfl; have hfz57_0 := blk_frozen BK239.out 0; have hfz57_1 := blk_frozen BK239.out 1; have hfz57_2 := blk_frozen BK239.out 2; have hfz57_3 := blk_frozen BK239.out 3; have hfz57_4 := blk_frozen BK239.out 4) | ((with_reducible refine gate_store (t := 97) (p := 13) rfl ?_); refine store_event (t := 97) (p := 13) (v := ?vo_w58) (w1 := (((((w55.setCell ⟨gb239, 0, none⟩ (.int .i64 ((rd_T97 l0_3 x44_3).f0))).setCell ⟨gb239, 1, none⟩ (.int .i64 ((rd_T97 l0_3 x44_3).f1))).setCell ⟨gb239, 2, none⟩ (.bool false)).setCell ⟨gb239, 3, none⟩ (.bool true)).setCell ⟨gb239, 4, none⟩ (.int .i64 ((rd_T97 l0_3 x44_3).f4)))) ?hg ?ho ?hn ?hr ?_; (case ho => rfl); (case hg => rfl); (case hn => rfl); (case hr => first | (go_simp; done) | (go_simp; rfl)); intro w58 hw; have n0_ : Aside0 (Kd.R Kd.bool 4 w58 w.heap.size (fun k_ => some k_ ≠ (v236 : Value).ownBlock) u7 x7_2) := ⟨(by rw [hw]; exact (by (with_reducible repeat (first | apply Kd.R_alloc | apply Kd.R_drewN | apply Kd.R_drew)); exact Kd.R_mono (Kd.R_far (p := ⟨gb239, 4, none⟩) (Kd.R_far (p := ⟨gb239, 3, none⟩) (Kd.R_far (p := ⟨gb239, 2, none⟩) (Kd.R_far (p := ⟨gb239, 1, none⟩) (Kd.R_far (p := ⟨gb239, 0, none⟩) (Kd.R_types HO_7.out BK239.out (by decide)) (fun _ hk => hk.2) (.int .i64 ((rd_T97 l0_3 x44_3).f0))) (fun _ hk => hk.2) (.int .i64 ((rd_T97 l0_3 x44_3).f1))) (fun _ hk => hk.2) (.bool false)) (fun _ hk => hk.2) (.bool true)) (fun _ hk => hk.2) (.int .i64 ((rd_T97 l0_3 x44_3).f4))) (fun _ hk => hk.1)))⟩; have n1_ : Aside0 (Kd.R Kd.bool 4 w58 w.heap.size (fun k_ => some k_ ≠ (u7 : Value).ownBlock) v236 x11_3) := ⟨(by rw [hw]; exact (by (with_reducible repeat (first | apply Kd.R_alloc | apply Kd.R_drewN | apply Kd.R_drew)); exact Kd.R_mono (Kd.R_far (p := ⟨gb239, 4, none⟩) (Kd.R_far (p := ⟨gb239, 3, none⟩) (Kd.R_far (p := ⟨gb239, 2, none⟩) (Kd.R_far (p := ⟨gb239, 1, none⟩) (Kd.R_far (p := ⟨gb239, 0, none⟩) (Kd.R_types HO_11.out BK239.out (by decide)) (fun _ hk => hk.2) (.int .i64 ((rd_T97 l0_3 x44_3).f0))) (fun _ hk => hk.2) (.int .i64 ((rd_T97 l0_3 x44_3).f1))) (fun _ hk => hk.2) (.bool false)) (fun _ hk => hk.2) (.bool true)) (fun _ hk => hk.2) (.int .i64 ((rd_T97 l0_3 x44_3).f4))) (fun _ hk => hk.1)))⟩; have n2_ : Aside0 (w58.heap[gb224]? = some (.cells #[.int .i64 a0_0, .int .i64 a0_1, .int .i64 a0_2, .slice (some ad238) l0_3.length c0_3] 60 (0, 0))) := ⟨(by rw [hw]; exact (by (with_reducible repeat (first | refine blk_drewN ?_ _ | refine blk_drew ?_ | refine blk_alloc ?_ _)); refine blk_far ?_ NB224_239.out _; (with_reducible repeat (first | refine blk_drewN ?_ _ | refine blk_drew ?_ | refine blk_alloc ?_ _)); refine blk_far ?_ NB224_239.out _; (with_reducible repeat (first | refine blk_drewN ?_ _ | refine blk_drew ?_ | refine blk_alloc ?_ _)); refine blk_far ?_ NB224_239.out _; (with_reducible repeat (first | refine blk_drewN ?_ _ | refine blk_drew ?_ | refine blk_alloc ?_ _)); refine blk_far ?_ NB224_239.out _; (with_reducible repeat (first | refine blk_drewN ?_ _ | refine blk_drew ?_ | refine blk_alloc ?_ _)); refine blk_far ?_ NB224_239.out _; (with_reducible repeat (first | refine blk_drewN ?_ _ | refine blk_drew ?_ | refine blk_alloc ?_ _)); exact BK224.out))⟩; have n3_ : Aside0 (w58.heap[gb239]? = some (.cells #[.int .i64 ((rd_T97 l0_3 x44_3).f0), .int .i64 ((rd_T97 l0_3 x44_3).f1), .bool false, .bool true, .int .i64 ((rd_T97 l0_3 x44_3).f4)] 97 (0, 0))) := ⟨(by rw [hw]; exact (by (with_reducible repeat (first | refine blk_drewN ?_ _ | refine blk_drew ?_ | refine blk_alloc ?_ _)); refine blk_put (cs := #[.int .i64 ((rd_T97 l0_3 x44_3).f0), .int .i64 ((rd_T97 l0_3 x44_3).f1), .bool false, .bool true, .int .i64 0]) ?_ 4 _ rfl; (with_reducible repeat (first | refine blk_drewN ?_ _ | refine blk_drew ?_ | refine blk_alloc ?_ _)); refine blk_put (cs := #[.int .i64 ((rd_T97 l0_3 x44_3).f0), .int .i64 ((rd_T97 l0_3 x44_3).f1), .bool false, .bool false, .int .i64 0]) ?_ 3 _ rfl; (with_reducible repeat (first | refine blk_drewN ?_ _ | refine blk_drew ?_ | refine blk_alloc ?_ _)); refine blk_put (cs := #[.int .i64 ((rd_T97 l0_3 x44_3).f0), .int .i64 ((rd_T97 l0_3 x44_3).f1), .bool false, .bool false, .int .i64 0]) ?_ 2 _ rfl; (with_reducible repeat (first | refine blk_drewN ?_ _ | refine blk_drew ?_ | refine blk_alloc ?_ _)); refine blk_put (cs := #[.int .i64 ((rd_T97 l0_3 x44_3).f0), .int .i64 0, .bool false, .bool false, .int .i64 0]) ?_ 1 _ rfl; (with_reducible repeat (first | refine blk_drewN ?_ _ | refine blk_drew ?_ | refine blk_alloc ?_ _)); refine blk_put (cs := #[.int .i64 0, .int .i64 0, .bool false, .bool false, .int .i64 0]) ?_ 0 _ rfl; (with_reducible repeat (first | refine blk_drewN ?_ _ | refine blk_drew ?_ | refine blk_alloc ?_ _)); exact BK239.out))⟩; have n4_ : Aside0 (Below w.heap.size w w58) := ⟨(by rw [hw]; exact (by repeat (first | (with_reducible first | exact HB.out | apply below_alloc | apply pw_below_drewN | apply below_drew1 | refine below_set ?_ GE224.out | refine below_set ?_ GE239.out) | exact HB.out)))⟩; clear hw; clear HO_7; clear HO_11; clear BK224; clear BK239; clear HB; have HO_7 := n0_; have HO_11 := n1_; have BK224 := n2_; have BK239 := n3_; have HB := n4_; clear n0_ n1_ n2_ n3_ n4_; have hcz59_0 : w58.cell? ⟨gb239, 0, none⟩ = some (.int .i64 ((rd_T97 l0_3 x44_3).f0)) := (blk_cell BK239.out 0).trans rfl; have hcz59_1 : w58.cell? ⟨gb239, 1, none⟩ = some (.int .i64 ((rd_T97 l0_3 x44_3).f1)) := (blk_cell BK239.out 1).trans rfl; have hcz59_2 : w58.cell? ⟨gb239, 2, none⟩ = some (.bool false) := (blk_cell BK239.out 2).trans rfl; have hcz59_3 : w58.cell? ⟨gb239, 3, none⟩ = some (.bool true) := (blk_cell BK239.out 3).trans rfl; have hcz59_4 : w58.cell? ⟨gb239, 4, none⟩ = some (.int .i64 ((rd_T97 l0_3 x44_3).f4)) := (blk_cell BK239.out 4).trans rfl; have hfz59_0 := blk_frozen BK239.out 0; have hfz59_1 := blk_frozen BK239.out 1; have hfz59_2 := blk_frozen BK239.out 2; have hfz59_3 := blk_frozen BK239.out 3; have hfz59_4 := blk_frozen BK239.out 4; obtain ⟨Ao60, co60, eo60⟩ := Kd.R_slice HO_7.out; subst eo60; have p240 : 0 ≤ (((rd_T97 l0_3 x44_3).f0) : Int) := of_decide_eq_true (by first | (with_reducible assumption) | assumption); have q240 : ((rd_T97 l0_3 x44_3).f0) < (x7_2.length : Int) := of_decide_eq_true (by first | (with_reducible assumption) | assumption); obtain ⟨ad240, e240, hx240_0⟩ := Kd.at_bool (Kd.R_reads' HO_7.out).2.2 ((rd_T97 l0_3 x44_3).f0) p240 q240; (try rw [← Nbq42.out] at hx240_0); (try rw [← Nbq44.out] at hx240_0); (try rw [← Nbq50.out] at hx240_0); cases e240; replace p240 := eq_true p240; replace q240 := eq_true q240; have p54 : 0 ≤ (((rd_T97 l0_3 x44_3).f1) : Int) := of_decide_eq_true (by first | (with_reducible assumption) | assumption); have q54 : (((rd_T97 l0_3 x44_3).f1) : Int) < ((x11_3.length : Int) : Int) := of_decide_eq_true (by first | (with_reducible assumption) | assumption); obtain ⟨go54, co54, eo54, gb54, gl54, cl54, HG54⟩ := Kd.R_form HO_11.out (by omega); (first | cases eo54 | (injection eo54 with ea_ en_ ec_; (first | subst ea_ | (injection ea_ with ea_; subst ea_)); subst ec_; clear en_)); have GB54 := Aside0.mk gb54; have GG54 := Aside0.mk HG54; clear gb54 gl54 HG54; obtain ⟨hx54_0, hf54_0⟩ := Kd.R_celln false HO_11.out (((rd_T97 l0_3 x44_3).f1) : Int) p54 q54; replace p54 := eq_true p54; replace q54 := eq_true q54; obtain ⟨hy61_, hz61_⟩ := Kd.R_celln false HO_11.out (((rd_T97 l0_3 x44_3).f1) : Int) (of_decide_eq_true (by first | (with_reducible assumption) | assumption)) (of_decide_eq_true (by first | (with_reducible assumption) | assumption)); have HP61 := Kd.R_putg HO_11.out (((rd_T97 l0_3 x44_3).f1) : Int) true) | ((with_reducible refine gate_store (t := 4) (p := 71) rfl ?_); refine store_event (t := 4) (p := 71) (v := ?vo_w62) (w1 := (w58.setCell ⟨go54, (((rd_T97 l0_3 x44_3).f1) : Int).toNat, none⟩ (.bool true))) ?hg ?ho ?hn ?hr ?_; (case ho => rfl); (case hg => rfl); (case hn => rfl); (case hr => first | (go_simp; done) | (go_simp; rfl)); intro w62 hw; have hg : w58.grownBy w62 (some go54) := (by rw [hw]; exact HP61.2); have hp_ : Kd.R Kd.bool 4 w62 w.heap.size (fun k_ => some k_ ≠ (.slice (some ad240) x7_2.length co60 : Value).ownBlock) (.slice (some ⟨go54, 0, none⟩) x11_3.length co54) y241 := (by rw [hw, Ny241.out]; exact HP61.1); clear HP61; have n0_ := Aside0.mk (Kd.R_after (v := (.slice (some ⟨go54, 0, none⟩) x11_3.length co54)) (v1 := (.slice (some ⟨go54, 0, none⟩) x11_3.length co54)) (ok := (fun _ => True)) (by (with_reducible repeat (first | apply Kd.R_alloc | apply Kd.R_drewN | apply Kd.R_drew)); exact Kd.R_mono HO_7.out (fun _ hk => ⟨trivial, hk⟩)) hg (.inl rfl)); have n1_ := Aside0.mk (hp_); have n2_ := Aside0.mk (blk_grown (g := gb224) (o := .cells #[.int .i64 a0_0, .int .i64 a0_1, .int .i64 a0_2, .slice (some ad238) l0_3.length c0_3] 60 (0, 0)) (by (with_reducible repeat (first | refine blk_drewN ?_ _ | refine blk_drew ?_ | refine blk_alloc ?_ _)); exact BK224.out) hg (Kd.R_ne HO_11.out BK224.out (by decide))); have n3_ := Aside0.mk (blk_grown (g := gb239) (o := .cells #[.int .i64 ((rd_T97 l0_3 x44_3).f0), .int .i64 ((rd_T97 l0_3 x44_3).f1), .bool false, .bool true, .int .i64 ((rd_T97 l0_3 x44_3).f4)] 97 (0, 0)) (by (with_reducible repeat (first | refine blk_drewN ?_ _ | refine blk_drew ?_ | refine blk_alloc ?_ _)); exact BK239.out) hg (Kd.R_ne HO_11.out BK239.out (by decide))); have n4_ := Aside0.mk ((by rw [hw]; exact below_set (HB.out) GB54.out : Below w.heap.size w w62)); clear HO_7; clear HO_11; clear BK224; clear BK239; clear HB; have HO_7 := n0_; have HO_11 := n1_; have BK224 := n2_; have BK239 := n3_; have HB := n4_; clear n0_ n1_ n2_ n3_ n4_; clear hg hw hp_))
                                                      go_roundg k3
                                                      case measure => have := HJ2.out; have := HK2.out; have := HK3.out; omega
                                                      case rel => (try rw [← Nbq42.out]); (try rw [← Nbq44.out]); (try rw [← Nbq50.out]); exact ⟨(y241), (wrap64 (x44_3 + 1)), (by first | rfl | (simp; done) | (simp [*]; done)), H', ⟨by have := HJ2.out; have := HK2.out; have := HK3.out; omega⟩, ⟨by (try rw [← Nbq42.out]); (try rw [← Nbq44.out]); (try rw [← Nbq50.out]); (with_reducible repeat (first | apply Kd.R_alloc | apply Kd.R_drewN | apply Kd.R_drew)); exact Kd.R_mono HO_7.out (fun _ hk => hk.2)⟩, ⟨by (try rw [← Nbq42.out]); (try rw [← Nbq44.out]); (try rw [← Nbq50.out]); (with_reducible repeat (first | apply Kd.R_alloc | apply Kd.R_drewN | apply Kd.R_drew)); exact HO_11.out⟩, ⟨by (try rw [← Nbq42.out]); (try rw [← Nbq44.out]); (try rw [← Nbq50.out]); (with_reducible repeat (first | refine blk_drewN ?_ _ | refine blk_drew ?_ | refine blk_alloc ?_ _)); exact BK224.out⟩, ⟨by repeat (first | (with_reducible first | exact HB.out | apply below_alloc | apply pw_below_drewN | apply below_drew1 | refine below_set ?_ GE224.out | refine below_set ?_ GE239.out) | exact HB.out)⟩⟩
                                                    · rw [if_neg c53] at H
                                                      exact absurd H (by simp)
                                                  · rw [if_neg c52] at H
                                                    exact absurd H (by simp)
                                                · replace c51 := Bool.eq_false_iff.mpr c51
                                                  subst c51
                                                  have H1 : (if ((rd_T97 l0_3 x44_3).f4) = (rd l1 x34_2) then (if 0 ≤ ((rd_T97 l0_3 x44_3).f1) then (if ((rd_T97 l0_3 x44_3).f1) < (x11_3.length : Int) then (impl_RunNfa.l1 k3 x7_2 x8_2 (rd l1 x34_2) (x11_3.set (((rd_T97 l0_3 x44_3).f1) : Int).toNat true) l1 (l1.length : Int) x34_2 l0_3 (l0_3.length : Int) (wrap64 (x44_3 + 1)) a0_0 a0_1 a0_2 l0_3) else (none)) else (none)) else (impl_RunNfa.l1 k3 x7_2 x8_2 (rd l1 x34_2) x11_3 l1 (l1.length : Int) x34_2 l0_3 (l0_3.length : Int) (wrap64 (x44_3 + 1)) a0_0 a0_1 a0_2 l0_3)) = some (r1, r2, r3) := by rw [if_neg (show ¬ (false = true) by decide)] at H; exact H
                                                  clear H
                                                  have H := H1
                                                  clear H1
                                                  by_cases c63 : ((rd_T97 l0_3 x44_3).f4) = (rd l1 x34_2)
                                                  · rw [if_pos c63] at H
                                                    have c63b0 : (((rd_T97 l0_3 x44_3).f4) == (rd l1 x34_2)) = true := beq_iff_eq.mpr c63
                                                    have c63b1 : (((rd_T97 l0_3 x44_3).f4) != (rd l1 x34_2)) = false := bne_eq_false_iff_eq.mpr c63
                                                    clear c63
                                                    by_cases c64 : 0 ≤ ((rd_T97 l0_3 x44_3).f1)
                                                    · rw [if_pos c64] at H
                                                      have c64b0 : decide (0 ≤ ((rd_T97 l0_3 x44_3).f1)) = true := decide_eq_true c64
                                                      clear c64
                                                      by_cases c65 : ((rd_T97 l0_3 x44_3).f1) < (x11_3.length : Int)
                                                      · rw [if_pos c65] at H
                                                        have c65b0 : decide (((rd_T97 l0_3 x44_3).f1) < (x11_3.length : Int)) = true := decide_eq_true c65
                                                        clear c65
                                                        obtain ⟨y242, hy242⟩ : ∃ y_ : List Bool, y_ = (x11_3.set (((rd_T97 l0_3 x44_3).f1) : Int).toNat true) := ⟨_, rfl⟩
                                                        replace H : (impl_RunNfa.l1 k3 x7_2 x8_2 (rd l1 x34_2) y242 l1 (l1.length : Int) x34_2 l0_3 (l0_3.length : Int) (wrap64 (x44_3 + 1)) a0_0 a0_1 a0_2 l0_3) = some (r1, r2, r3) := by first | (rw [hy242]; with_reducible exact H) | (have H2_ := (Option.bind_some _ _).symm.trans H; rw [hy242]; with_reducible exact H2_) | (have H2_ := (Option.bind_some _ _).symm.trans H; with_reducible exact H2_) | with_reducible exact H | (rw [hy242]; exact H) | exact H
                                                        have Ny242 := Aside0.mk hy242
                                                        clear hy242
                                                        have H' := Aside0.mk H
                                                        clear H
                                                        have p238 : 0 ≤ (x44_3 : Int) := of_decide_eq_true (by first | (with_reducible assumption) | assumption)
                                                        have q238 : x44_3 < (l0_3.length : Int) := of_decide_eq_true (by first | (with_reducible assumption) | assumption)
                                                        obtain ⟨ad238, e238, hx238_0, hx238_1, hx238_2, hx238_3, hx238_4⟩ := at_T97 HR0_3.out x44_3 p238 q238
                                                        (try rw [← Nbq42.out] at hx238_2)
                                                        (try rw [← Nbq44.out] at hx238_2)
                                                        (try rw [← Nbq50.out] at hx238_2)
                                                        (try rw [← Nbq42.out] at hx238_3)
                                                        (try rw [← Nbq44.out] at hx238_3)
                                                        (try rw [← Nbq50.out] at hx238_3)
                                                        cases e238
                                                        replace hx238_0 := (HB.out.cell (World.block_lt_of_cell? w _ hx238_0)).trans hx238_0
                                                        replace hx238_1 := (HB.out.cell (World.block_lt_of_cell? w _ hx238_1)).trans hx238_1
                                                        replace hx238_2 := (HB.out.cell (World.block_lt_of_cell? w _ hx238_2)).trans hx238_2
                                                        replace hx238_3 := (HB.out.cell (World.block_lt_of_cell? w _ hx238_3)).trans hx238_3
                                                        replace hx238_4 := (HB.out.cell (World.block_lt_of_cell? w _ hx238_4)).trans hx238_4
                                                        replace p238 := eq_true p238
                                                        replace q238 := eq_true q238
                                                        go_wp2_with (first | ((with_reducible refine gate_dst (N := 13) rfl ?_); refine box_event ?hg (N := 13) ?hd (cs := #[.int .i64 0, .int .i64 0, .bool false, .bool false, .int .i64 0]) (t := 97) ?hr ?_; (case hd => rfl); (case hg => rfl); (case hr => first | (go_simp; done) | (go_simp; rfl)); intro gb239 hg w67 hbox hb; have n0_ := Aside0.mk (Kd.R_below (by (with_reducible repeat (first | apply Kd.R_alloc | apply Kd.R_drewN | apply Kd.R_drew)); exact HO_7.out) hb); have n1_ := Aside0.mk (Kd.R_below (by (with_reducible repeat (first | apply Kd.R_alloc | apply Kd.R_drewN | apply Kd.R_drew)); exact HO_11.out) hb); have n2_ := Aside0.mk (blk_below (g := gb224) (o := .cells #[.int .i64 a0_0, .int .i64 a0_1, .int .i64 a0_2, .slice (some ad238) l0_3.length c0_3] 60 (0, 0)) (by (with_reducible repeat (first | refine blk_drewN ?_ _ | refine blk_drew ?_ | refine blk_alloc ?_ _)); exact BK224.out) hb); have n3_ := Aside0.mk (below_step (by repeat (first | (with_reducible first | exact HB.out | apply below_alloc | apply pw_below_drewN | apply below_drew1 | refine below_set ?_ GE224.out) | exact HB.out)) hb); have n4_ := Aside0.mk (hbox); have n5_ := Aside0.mk ((by rw [hg]; exact (below_size (by repeat (first | (with_reducible first | exact HB.out | apply below_alloc | apply pw_below_drewN | apply below_drew1 | refine below_set ?_ GE224.out) | exact HB.out))) : w.heap.size ≤ gb239)); have n6_ := Aside0.mk ((by rw [hg]; exact (below_size (by repeat (first | (with_reducible first | exact HB.out | apply below_alloc | apply pw_below_drewN | apply below_drew1 | refine below_set ?_ GE224.out) | exact HB.out))) : w.heap.size ≤ gb239)); have n7_ := Aside0.mk ((by rw [hg]; exact Nat.ne_of_lt (blk_lt (g := gb224) (o := .cells #[.int .i64 a0_0, .int .i64 a0_1, .int .i64 a0_2, .slice (some ad238) l0_3.length c0_3] 60 (0, 0)) (by (with_reducible repeat (first | refine blk_drewN ?_ _ | refine blk_drew ?_ | refine blk_alloc ?_ _)); exact BK224.out)) : gb224 ≠ gb239)); have n8_ := Aside0.mk ((by rw [hg]; exact Nat.ne_of_gt (blk_lt (g := gb224) (o := .cells #[.int .i64 a0_0, .int .i64 a0_1, .int .i64 a0_2, .slice (some ad238) l0_3.length c0_3] 60 (0, 0)) (by (with_reducible repeat (first | refine blk_drewN ?_ _ | refine blk_drew ?_ | refine blk_alloc ?_ _)); exact BK224.out)) : gb239 ≠ gb224)); clear HO_7; clear HO_11; clear BK224; clear HB; have HO_7 := n0_; have HO_11 := n1_; have BK224 := n2_; have HB := n3_; have BK239 := n4_; have GW239 := n5_; have GE239 := n6_; have NB224_239 := n7_; have NB239_224 := n8_; clear n0_ n1_ n2_ n3_ n4_ n5_ n6_ n7_ n8_; clear hb hbox hg; have hnb68 := NB239_224.out; have hnc68 := NB224_239.out; have hcz69_0 : w67.cell? ⟨gb239, 0, none⟩ = some (.int .i64 0) := (blk_cell BK239.out 0).trans rfl; have hcz69_1 : w67.cell? ⟨gb239, 1, none⟩ = some (.int .i64 0) := (blk_cell BK239.out 1).trans rfl; have hcz69_2 : w67.cell? ⟨gb239, 2, none⟩ = some (.bool false) := (blk_cell BK239.out 2).trans rfl; have hcz69_3 : w67.cell? ⟨gb239, 3, none⟩ = some (.bool false) := (blk_cell BK239.out 3).trans rfl; have hcz69_4 : w67.cell? ⟨gb239, 4, none⟩ = some (.int .i64 0) := (blk_cell BK239.out 4).trans rfl; have hfz69_0 := blk_frozen BK239.out 0; have hfz69_1 := blk_frozen BK239.out 1; have hfz69_2 := blk_frozen BK239.out 2; have hfz69_3 := blk_frozen BK239.out 3; have hfz69_4 := blk_frozen BK239.out 4) | ((with_reducible refine gate_store (t := 97) (p := 13) rfl ?_); refine store_event (t := 97) (p := 13) (v := ?vo_w70) (w1 := (((((w67.setCell ⟨gb239, 0, none⟩ (.int .i64 ((rd_T97 l0_3 x44_3).f0))).setCell ⟨gb239, 1, none⟩ (.int .i64 ((rd_T97 l0_3 x44_3).f1))).setCell ⟨gb239, 2, none⟩ (.bool false)).setCell ⟨gb239, 3, none⟩ (.bool false)).setCell ⟨gb239, 4, none⟩ (.int .i64 ((rd_T97 l0_3 x44_3).f4)))) ?hg ?ho ?hn ?hr ?_; (case ho => rfl); (case hg => rfl); (case hn => rfl); (case hr => first | (go_simp; done) | (go_simp; rfl)); intro w70 hw; have n0_ : Aside0 (Kd.R Kd.bool 4 w70 w.heap.size (fun k_ => some k_ ≠ (v236 : Value).ownBlock) u7 x7_2) := ⟨(by rw [hw]; exact (by (with_reducible repeat (first | apply Kd.R_alloc | apply Kd.R_drewN | apply Kd.R_drew)); exact Kd.R_mono (Kd.R_far (p := ⟨gb239, 4, none⟩) (Kd.R_far (p := ⟨gb239, 3, none⟩) (Kd.R_far (p := ⟨gb239, 2, none⟩) (Kd.R_far (p := ⟨gb239, 1, none⟩) (Kd.R_far (p := ⟨gb239, 0, none⟩) (Kd.R_types HO_7.out BK239.out (by decide)) (fun _ hk => hk.2) (.int .i64 ((rd_T97 l0_3 x44_3).f0))) (fun _ hk => hk.2) (.int .i64 ((rd_T97 l0_3 x44_3).f1))) (fun _ hk => hk.2) (.bool false)) (fun _ hk => hk.2) (.bool false)) (fun _ hk => hk.2) (.int .i64 ((rd_T97 l0_3 x44_3).f4))) (fun _ hk => hk.1)))⟩; have n1_ : Aside0 (Kd.R Kd.bool 4 w70 w.heap.size (fun k_ => some k_ ≠ (u7 : Value).ownBlock) v236 x11_3) := ⟨(by rw [hw]; exact (by (with_reducible repeat (first | apply Kd.R_alloc | apply Kd.R_drewN | apply Kd.R_drew)); exact Kd.R_mono (Kd.R_far (p := ⟨gb239, 4, none⟩) (Kd.R_far (p := ⟨gb239, 3, none⟩) (Kd.R_far (p := ⟨gb239, 2, none⟩) (Kd.R_far (p := ⟨gb239, 1, none⟩) (Kd.R_far (p := ⟨gb239, 0, none⟩) (Kd.R_types HO_11.out BK239.out (by decide)) (fun _ hk => hk.2) (.int .i64 ((rd_T97 l0_3 x44_3).f0))) (fun _ hk => hk.2) (.int .i64 ((rd_T97 l0_3 x44_3).f1))) (fun _ hk => hk.2) (.bool false)) (fun _ hk => hk.2) (.bool false)) (fun _ hk => hk.2) (.int .i64 ((rd_T97 l0_3 x44_3).f4))) (fun _ hk => hk.1)))⟩; have n2_ : Aside0 (w70.heap[gb224]? = some (.cells #[.int .i64 a0_0, .int .i64 a0_1, .int .i64 a0_2, .slice (some ad238) l0_3.length c0_3] 60 (0, 0))) := ⟨(by rw [hw]; exact (by (with_reducible repeat (first | refine blk_drewN ?_ _ | refine blk_drew ?_ | refine blk_alloc ?_ _)); refine blk_far ?_ NB224_239.out _; (with_reducible repeat (first | refine blk_drewN ?_ _ | refine blk_drew ?_ | refine blk_alloc ?_ _)); refine blk_far ?_ NB224_239.out _; (with_reducible repeat (first | refine blk_drewN ?_ _ | refine blk_drew ?_ | refine blk_alloc ?_ _)); refine blk_far ?_ NB224_239.out _; (with_reducible repeat (first | refine blk_drewN ?_ _ | refine blk_drew ?_ | refine blk_alloc ?_ _)); refine blk_far ?_ NB224_239.out _; (with_reducible repeat (first | refine blk_drewN ?_ _ | refine blk_drew ?_ | refine blk_alloc ?_ _)); refine blk_far ?_ NB224_239.out _; (with_reducible repeat (first | refine blk_drewN ?_ _ | refine blk_drew ?_ | refine blk_alloc ?_ _)); exact BK224.out))⟩; have n3_ : Aside0 (w70.heap[gb239]? = some (.cells #[.int .i64 ((rd_T97 l0_3 x44_3).f0), .int .i64 ((rd_T97 l0_3 x44_3).f1), .bool false, .bool false, .int .i64 ((rd_T97 l0_3 x44_3).f4)] 97 (0, 0))) := ⟨(by rw [hw]; exact (by (with_reducible repeat (first | refine blk_drewN ?_ _ | refine blk_drew ?_ | refine blk_alloc ?_ _)); refine blk_put (cs := #[.int .i64 ((rd_T97 l0_3 x44_3).f0), .int .i64 ((rd_T97 l0_3 x44_3).f1), .bool false, .bool false, .int .i64 0]) ?_ 4 _ rfl; (with_reducible repeat (first | refine blk_drewN ?_ _ | refine blk_drew ?_ | refine blk_alloc ?_ _)); refine blk_put (cs := #[.int .i64 ((rd_T97 l0_3 x44_3).f0), .int .i64 ((rd_T97 l0_3 x44_3).f1), .bool false, .bool false, .int .i64 0]) ?_ 3 _ rfl; (with_reducible repeat (first | refine blk_drewN ?_ _ | refine blk_drew ?_ | refine blk_alloc ?_ _)); refine blk_put (cs := #[.int .i64 ((rd_T97 l0_3 x44_3).f0), .int .i64 ((rd_T97 l0_3 x44_3).f1), .bool false, .bool false, .int .i64 0]) ?_ 2 _ rfl; (with_reducible repeat (first | refine blk_drewN ?_ _ | refine blk_drew ?_ | refine blk_alloc ?_ _)); refine blk_put (cs := #[.int .i64 ((rd_T97 l0_3 x44_3).f0), .int .i64 0, .bool false, .bool false, .int .i64 0]) ?_ 1 _ rfl; (with_reducible repeat (first | refine blk_drewN ?_ _ | refine blk_drew ?_ | refine blk_alloc ?_ _)); refine blk_put (cs := #[.int .i64 0, .int .i64 0, .bool false, .bool false, .int .i64 0]) ?_ 0 _ rfl; (with_reducible repeat (first | refine blk_drewN ?_ _ | refine blk_drew ?_ | refine blk_alloc ?_ _)); exact BK239.out))⟩; have n4_ : Aside0 (Below w.heap.size w w70) := ⟨(by rw [hw]; exact (by repeat (first | (with_reducible first | exact HB.out | apply below_alloc | apply pw_below_drewN | apply below_drew1 | refine below_set ?_ GE224.out | refine below_set ?_ GE239.out) | exact HB.out)))⟩; clear hw; clear HO_7; clear HO_11; clear BK224; clear BK239; clear HB; have HO_7 := n0_; have HO_11 := n1_; have BK224 := n2_; have BK239 := n3_; have HB := n4_; clear n0_ n1_ n2_ n3_ n4_; have hcz71_0 : w70.cell? ⟨gb239, 0, none⟩ = some (.int .i64 ((rd_T97 l0_3 x44_3).f0)) := (blk_cell BK239.out 0).trans rfl; have hcz71_1 : w70.cell? ⟨gb239, 1, none⟩ = some (.int .i64 ((rd_T97 l0_3 x44_3).f1)) := (blk_cell BK239.out 1).trans rfl; have hcz71_2 : w70.cell? ⟨gb239, 2, none⟩ = some (.bool false) := (blk_cell BK239.out 2).trans rfl; have hcz71_3 : w70.cell? ⟨gb239, 3, none⟩ = some (.bool false) := (blk_cell BK239.out 3).trans rfl; have hcz71_4 : w70.cell? ⟨gb239, 4, none⟩ = some (.int .i64 ((rd_T97 l0_3 x44_3).f4)) := (blk_cell BK239.out 4).trans rfl; have hfz71_0 := blk_frozen BK239.out 0; have hfz71_1 := blk_frozen BK239.out 1; have hfz71_2 := blk_frozen BK239.out 2; have hfz71_3 := blk_frozen BK239.out 3; have hfz71_4 := blk_frozen BK239.out 4; obtain ⟨Ao72, co72, eo72⟩ := Kd.R_slice HO_7.out; subst eo72; have p240 : 0 ≤ (((rd_T97 l0_3 x44_3).f0) : Int) := of_decide_eq_true (by first | (with_reducible assumption) | assumption); have q240 : ((rd_T97 l0_3 x44_3).f0) < (x7_2.length : Int) := of_decide_eq_true (by first | (with_reducible assumption) | assumption); obtain ⟨ad240, e240, hx240_0⟩ := Kd.at_bool (Kd.R_reads' HO_7.out).2.2 ((rd_T97 l0_3 x44_3).f0) p240 q240; (try rw [← Nbq42.out] at hx240_0); (try rw [← Nbq44.out] at hx240_0); (try rw [← Nbq50.out] at hx240_0); cases e240; replace p240 := eq_true p240; replace q240 := eq_true q240; have p66 : 0 ≤ (((rd_T97 l0_3 x44_3).f1) : Int) := of_decide_eq_true (by first | (with_reducible assumption) | assumption); have q66 : (((rd_T97 l0_3 x44_3).f1) : Int) < ((x11_3.length : Int) : Int) := of_decide_eq_true (by first | (with_reducible assumption) | assumption); obtain ⟨go66, co66, eo66, gb66, gl66, cl66, HG66⟩ := Kd.R_form HO_11.out (by omega); (first | cases eo66 | (injection eo66 with ea_ en_ ec_; (first | subst ea_ | (injection ea_ with ea_; subst ea_)); subst ec_; clear en_)); have GB66 := Aside0.mk gb66; have GG66 := Aside0.mk HG66; clear gb66 gl66 HG66; obtain ⟨hx66_0, hf66_0⟩ := Kd.R_celln false HO_11.out (((rd_T97 l0_3 x44_3).f1) : Int) p66 q66; replace p66 := eq_true p66; replace q66 := eq_true q66; obtain ⟨hy73_, hz73_⟩ := Kd.R_celln false HO_11.out (((rd_T97 l0_3 x44_3).f1) : Int) (of_decide_eq_true (by first | (with_reducible assumption) | assumption)) (of_decide_eq_true (by first | (with_reducible assumption) | assumption)); have HP73 := Kd.R_putg HO_11.out (((rd_T97 l0_3 x44_3).f1) : Int) true) | ((with_reducible refine gate_store (t := 4) (p := 71) rfl ?_); refine store_event (t := 4) (p := 71) (v := ?vo_w74) (w1 := (w70.setCell ⟨go66, (((rd_T97 l0_3 x44_3).f1) : Int).toNat, none⟩ (.bool true))) ?hg ?ho ?hn ?hr ?_; (case ho => rfl); (case hg => rfl); (case hn => rfl); (case hr => first | (go_simp; done) | (go_simp; rfl)); intro w74 hw; have hg : w70.grownBy w74 (some go66) := (by rw [hw]; exact HP73.2); have hp_ : Kd.R Kd.bool 4 w74 w.heap.size (fun k_ => some k_ ≠ (.slice (some ad240) x7_2.length co72 : Value).ownBlock) (.slice (some ⟨go66, 0, none⟩) x11_3.length co66) y242 := (by rw [hw, Ny242.out]; exact HP73.1); clear HP73; have n0_ := Aside0.mk (Kd.R_after (v := (.slice (some ⟨go66, 0, none⟩) x11_3.length co66)) (v1 := (.slice (some ⟨go66, 0, none⟩) x11_3.length co66)) (ok := (fun _ => True)) (by (with_reducible repeat (first | apply Kd.R_alloc | apply Kd.R_drewN | apply Kd.R_drew)); exact Kd.R_mono HO_7.out (fun _ hk => ⟨trivial, hk⟩)) hg (.inl rfl)); have n1_ := Aside0.mk (hp_); have n2_ := Aside0.mk (blk_grown (g := gb224) (o := .cells #[.int .i64 a0_0, .int .i64 a0_1, .int .i64 a0_2, .slice (some ad238) l0_3.length c0_3] 60 (0, 0)) (by (with_reducible repeat (first | refine blk_drewN ?_ _ | refine blk_drew ?_ | refine blk_alloc ?_ _)); exact BK224.out) hg (Kd.R_ne HO_11.out BK224.out (by decide))); have n3_ := Aside0.mk (blk_grown (g := gb239) (o := .cells #[.int .i64 ((rd_T97 l0_3 x44_3).f0), .int .i64 ((rd_T97 l0_3 x44_3).f1), .bool false, .bool false, .int .i64 ((rd_T97 l0_3 x44_3).f4)] 97 (0, 0)) (by (with_reducible repeat (first | refine blk_drewN ?_ _ | refine blk_drew ?_ | refine blk_alloc ?_ _)); exact BK239.out) hg (Kd.R_ne HO_11.out BK239.out (by decide))); have n4_ := Aside0.mk ((by rw [hw]; exact below_set (HB.out) GB66.out : Below w.heap.size w w74)); clear HO_7; clear HO_11; clear BK224; clear BK239; clear HB; have HO_7 := n0_; have HO_11 := n1_; have BK224 := n2_; have BK239 := n3_; have HB := n4_; clear n0_ n1_ n2_ n3_ n4_; clear hg hw hp_))
                                                        go_roundg k3
                                                        case measure => have := HJ2.out; have := HK2.out; have := HK3.out; omega
                                                        case rel => (try rw [← Nbq42.out]); (try rw [← Nbq44.out]); (try rw [← Nbq50.out]); exact ⟨(y242), (wrap64 (x44_3 + 1)), (by first | rfl | (simp; done) | (simp [*]; done)), H', ⟨by have := HJ2.out; have := HK2.out; have := HK3.out; omega⟩, ⟨by (try rw [← Nbq42.out]); (try rw [← Nbq44.out]); (try rw [← Nbq50.out]); (with_reducible repeat (first | apply Kd.R_alloc | apply Kd.R_drewN | apply Kd.R_drew)); exact Kd.R_mono HO_7.out (fun _ hk => hk.2)⟩, ⟨by (try rw [← Nbq42.out]); (try rw [← Nbq44.out]); (try rw [← Nbq50.out]); (with_reducible repeat (first | apply Kd.R_alloc | apply Kd.R_drewN | apply Kd.R_drew)); exact HO_11.out⟩, ⟨by (try rw [← Nbq42.out]); (try rw [← Nbq44.out]); (try rw [← Nbq50.out]); (with_reducible repeat (first | refine blk_drewN ?_ _ | refine blk_drew ?_ | refine blk_alloc ?_ _)); exact BK224.out⟩, ⟨by repeat (first | (with_reducible first | exact HB.out | apply below_alloc | apply pw_below_drewN | apply below_drew1 | refine below_set ?_ GE224.out | refine below_set ?_ GE239.out) | exact HB.out)⟩⟩
                                                      · rw [if_neg c65] at H
                                                        exact absurd H (by simp)
                                                    · rw [if_neg c64] at H
                                                      exact absurd H (by simp)
                                                  · rw [if_neg c63] at H
                                                    have c63b0 : (((rd_T97 l0_3 x44_3).f4) == (rd l1 x34_2)) = false := beq_eq_false_iff_ne.mpr c63
                                                    have c63b1 : (((rd_T97 l0_3 x44_3).f4) != (rd l1 x34_2)) = true := bne_iff_ne.mpr c63
                                                    have H' := Aside0.mk H
                                                    clear H
                                                    have p238 : 0 ≤ (x44_3 : Int) := of_decide_eq_true (by first | (with_reducible assumption) | assumption)
                                                    have q238 : x44_3 < (l0_3.length : Int) := of_decide_eq_true (by first | (with_reducible assumption) | assumption)
                                                    obtain ⟨ad238, e238, hx238_0, hx238_1, hx238_2, hx238_3, hx238_4⟩ := at_T97 HR0_3.out x44_3 p238 q238
                                                    (try rw [← Nbq42.out] at hx238_2)
                                                    (try rw [← Nbq44.out] at hx238_2)
                                                    (try rw [← Nbq50.out] at hx238_2)
                                                    (try rw [← Nbq42.out] at hx238_3)
                                                    (try rw [← Nbq44.out] at hx238_3)
                                                    (try rw [← Nbq50.out] at hx238_3)
                                                    cases e238
                                                    replace hx238_0 := (HB.out.cell (World.block_lt_of_cell? w _ hx238_0)).trans hx238_0
                                                    replace hx238_1 := (HB.out.cell (World.block_lt_of_cell? w _ hx238_1)).trans hx238_1
                                                    replace hx238_2 := (HB.out.cell (World.block_lt_of_cell? w _ hx238_2)).trans hx238_2
                                                    replace hx238_3 := (HB.out.cell (World.block_lt_of_cell? w _ hx238_3)).trans hx238_3
                                                    replace hx238_4 := (HB.out.cell (World.block_lt_of_cell? w _ hx238_4)).trans hx238_4
                                                    replace p238 := eq_true p238
                                                    replace q238 := eq_true q238
                                                    go_wp2_with (first | ((with_reducible refine gate_dst (N := 13) rfl ?_); refine box_event ?hg (N := 13) ?hd (cs := #[.int .i64 0, .int .i64 0, .bool false, .bool false, .int .i64 0]) (t := 97) ?hr ?_; (case hd => rfl); (case hg => rfl); (case hr => first | (go_simp; done) | (go_simp; rfl)); intro gb239 hg w75 hbox hb; have n0_ := Aside0.mk (Kd.R_below (by (with_reducible repeat (first | apply Kd.R_alloc | apply Kd.R_drewN | apply Kd.R_drew)); exact HO_7.out) hb); have n1_ := Aside0.mk (Kd.R_below (by (with_reducible repeat (first | apply Kd.R_alloc | apply Kd.R_drewN | apply Kd.R_drew)); exact HO_11.out) hb); have n2_ := Aside0.mk (blk_below (g := gb224) (o := .cells #[.int .i64 a0_0, .int .i64 a0_1, .int .i64 a0_2, .slice (some ad238) l0_3.length c0_3] 60 (0, 0)) (by (with_reducible repeat (first | refine blk_drewN ?_ _ | refine blk_drew ?_ | refine blk_alloc ?_ _)); exact BK224.out) hb); have n3_ := Aside0.mk (below_step (by repeat (first | (with_reducible first | exact HB.out | apply below_alloc | apply pw_below_drewN | apply below_drew1 | refine below_set ?_ GE224.out) | exact HB.out)) hb); have n4_ := Aside0.mk (hbox); have n5_ := Aside0.mk ((by rw [hg]; exact (below_size (by repeat (first | (with_reducible first | exact HB.out | apply below_alloc | apply pw_below_drewN | apply below_drew1 | refine below_set ?_ GE224.out) | exact HB.out))) : w.heap.size ≤ gb239)); have n6_ := Aside0.mk ((by rw [hg]; exact (below_size (by repeat (first | (with_reducible first | exact HB.out | apply below_alloc | apply pw_below_drewN | apply below_drew1 | refine below_set ?_ GE224.out) | exact HB.out))) : w.heap.size ≤ gb239)); have n7_ := Aside0.mk ((by rw [hg]; exact Nat.ne_of_lt (blk_lt (g := gb224) (o := .cells #[.int .i64 a0_0, .int .i64 a0_1, .int .i64 a0_2, .slice (some ad238) l0_3.length c0_3] 60 (0, 0)) (by (with_reducible repeat (first | refine blk_drewN ?_ _ | refine blk_drew ?_ | refine blk_alloc ?_ _)); exact BK224.out)) : gb224 ≠ gb239)); have n8_ := Aside0.mk ((by rw [hg]; exact Nat.ne_of_gt (blk_lt (g := gb224) (o := .cells #[.int .i64 a0_0, .int .i64 a0_1, .int .i64 a0_2, .slice (some ad238) l0_3.length c0_3] 60 (0, 0)) (by (with_reducible repeat (first | refine blk_drewN ?_ _ | refine blk_drew ?_ | refine blk_alloc ?_ _)); exact BK224.out)) : gb239 ≠ gb224)); clear HO_7; clear HO_11; clear BK224; clear HB; have HO_7 := n0_; have HO_11 := n1_; have BK224 := n2_; have HB := n3_; have BK239 := n4_; have GW239 := n5_; have GE239 := n6_; have NB224_239 := n7_; have NB239_224 := n8_; clear n0_ n1_ n2_ n3_ n4_ n5_ n6_ n7_ n8_; clear hb hbox hg; have hnb76 := NB239_224.out; have hnc76 := NB224_239.out; have hcz77_0 : w75.cell? ⟨gb239, 0, none⟩ = some (.int .i64 0) := (blk_cell BK239.out 0).trans rfl; have hcz77_1 : w75.cell? ⟨gb239, 1, none⟩ = some (.int .i64 0) := (blk_cell BK239.out 1).trans rfl; have hcz77_2 : w75.cell? ⟨gb239, 2, none⟩ = some (.bool false) := (blk_cell BK239.out 2).trans rfl; have hcz77_3 : w75.cell? ⟨gb239, 3, none⟩ = some (.bool false) := (blk_cell BK239.out 3).trans rfl; have hcz77_4 : w75.cell? ⟨gb239, 4, none⟩ = some (.int .i64 0) := (blk_cell BK239.out 4).trans rfl; have hfz77_0 := blk_frozen BK239.out 0; have hfz77_1 := blk_frozen BK239.out 1; have hfz77_2 := blk_frozen BK239.out 2; have hfz77_3 := blk_frozen BK239.out 3; have hfz77_4 := blk_frozen BK239.out 4; obtain ⟨Ao78, co78, eo78⟩ := Kd.R_slice HO_7.out; subst eo78; have p240 : 0 ≤ (((rd_T97 l0_3 x44_3).f0) : Int) := of_decide_eq_true (by first | (with_reducible assumption) | assumption); have q240 : ((rd_T97 l0_3 x44_3).f0) < (x7_2.length : Int) := of_decide_eq_true (by first | (with_reducible assumption) | assumption); obtain ⟨ad240, e240, hx240_0⟩ := Kd.at_bool (Kd.R_reads' HO_7.out).2.2 ((rd_T97 l0_3 x44_3).f0) p240 q240; (try rw [← Nbq42.out] at hx240_0); (try rw [← Nbq44.out] at hx240_0); (try rw [← Nbq50.out] at hx240_0); cases e240; have hn240_0 : (ad240 : Addr).block ≠ gb239 := Kd.own_blk (Kd.R_ne HO_7.out BK239.out (by decide)); have hn240_1 : (ad240 : Addr).block ≠ gb239 := Kd.own_blk (Kd.R_ne HO_7.out BK239.out (by decide)); have hn240_2 : (ad240 : Addr).block ≠ gb239 := Kd.own_blk (Kd.R_ne HO_7.out BK239.out (by decide)); have hn240_3 : (ad240 : Addr).block ≠ gb239 := Kd.own_blk (Kd.R_ne HO_7.out BK239.out (by decide)); have hn240_4 : (ad240 : Addr).block ≠ gb239 := Kd.own_blk (Kd.R_ne HO_7.out BK239.out (by decide)); replace hx240_0 := (cell_far (p := ⟨gb239, 0, none⟩) (by first | (rw [add_block]; exact hn240_0) | (show (Addr.add _ _).block ≠ _; rw [add_block]; exact hn240_0) | exact hn240_0) (.int .i64 ((rd_T97 l0_3 x44_3).f0))).trans hx240_0; replace hx240_0 := (cell_far (p := ⟨gb239, 1, none⟩) (by first | (rw [add_block]; exact hn240_1) | (show (Addr.add _ _).block ≠ _; rw [add_block]; exact hn240_1) | exact hn240_1) (.int .i64 ((rd_T97 l0_3 x44_3).f1))).trans hx240_0; replace hx240_0 := (cell_far (p := ⟨gb239, 2, none⟩) (by first | (rw [add_block]; exact hn240_2) | (show (Addr.add _ _).block ≠ _; rw [add_block]; exact hn240_2) | exact hn240_2) (.bool false)).trans hx240_0; replace hx240_0 := (cell_far (p := ⟨gb239, 3, none⟩) (by first | (rw [add_block]; exact hn240_3) | (show (Addr.add _ _).block ≠ _; rw [add_block]; exact hn240_3) | exact hn240_3) (.bool false)).trans hx240_0; replace hx240_0 := (cell_far (p := ⟨gb239, 4, none⟩) (by first | (rw [add_block]; exact hn240_4) | (show (Addr.add _ _).block ≠ _; rw [add_block]; exact hn240_4) | exact hn240_4) (.int .i64 ((rd_T97 l0_3 x44_3).f4))).trans hx240_0; clear hn240_0; clear hn240_1; clear hn240_2; clear hn240_3; clear hn240_4; replace p240 := eq_true p240; replace q240 := eq_true q240))
                                                    go_roundg k3
                                                    case measure => have := HJ2.out; have := HK2.out; have := HK3.out; omega
                                                    case rel => (try rw [← Nbq42.out]); (try rw [← Nbq44.out]); (try rw [← Nbq50.out]); exact ⟨(x11_3), (wrap64 (x44_3 + 1)), (by first | rfl | (simp; done) | (simp [*]; done)), H', ⟨by have := HJ2.out; have := HK2.out; have := HK3.out; omega⟩, ⟨by (try rw [← Nbq42.out]); (try rw [← Nbq44.out]); (try rw [← Nbq50.out]); (with_reducible repeat (first | apply Kd.R_alloc | apply Kd.R_drewN | apply Kd.R_drew)); exact Kd.R_mono (Kd.R_far (p := ⟨gb239, 4, none⟩) (Kd.R_far (p := ⟨gb239, 3, none⟩) (Kd.R_far (p := ⟨gb239, 2, none⟩) (Kd.R_far (p := ⟨gb239, 1, none⟩) (Kd.R_far (p := ⟨gb239, 0, none⟩) (Kd.R_types HO_7.out BK239.out (by decide)) (fun _ hk => hk.2) (.int .i64 ((rd_T97 l0_3 x44_3).f0))) (fun _ hk => hk.2) (.int .i64 ((rd_T97 l0_3 x44_3).f1))) (fun _ hk => hk.2) (.bool false)) (fun _ hk => hk.2) (.bool false)) (fun _ hk => hk.2) (.int .i64 ((rd_T97 l0_3 x44_3).f4))) (fun _ hk => hk.1)⟩, ⟨by (try rw [← Nbq42.out]); (try rw [← Nbq44.out]); (try rw [← Nbq50.out]); (with_reducible repeat (first | apply Kd.R_alloc | apply Kd.R_drewN | apply Kd.R_drew)); exact Kd.R_mono (Kd.R_far (p := ⟨gb239, 4, none⟩) (Kd.R_far (p := ⟨gb239, 3, none⟩) (Kd.R_far (p := ⟨gb239, 2, none⟩) (Kd.R_far (p := ⟨gb239, 1, none⟩) (Kd.R_far (p := ⟨gb239, 0, none⟩) (Kd.R_types HO_11.out BK239.out (by decide)) (fun _ hk => hk.2) (.int .i64 ((rd_T97 l0_3 x44_3).f0))) (fun _ hk => hk.2) (.int .i64 ((rd_T97 l0_3 x44_3).f1))) (fun _ hk => hk.2) (.bool false)) (fun _ hk => hk.2) (.bool false)) (fun _ hk => hk.2) (.int .i64 ((rd_T97 l0_3 x44_3).f4))) (fun _ hk => hk.1)⟩, ⟨by (try rw [← Nbq42.out]); (try rw [← Nbq44.out]); (try rw [← Nbq50.out]); (with_reducible repeat (first | refine blk_drewN ?_ _ | refine blk_drew ?_ | refine blk_alloc ?_ _)); refine blk_far ?_ NB224_239.out _; (with_reducible repeat (first | refine blk_drewN ?_ _ | refine blk_drew ?_ | refine blk_alloc ?_ _)); refine blk_far ?_ NB224_239.out _; (with_reducible repeat (first | refine blk_drewN ?_ _ | refine blk_drew ?_ | refine blk_alloc ?_ _)); refine blk_far ?_ NB224_239.out _; (with_reducible repeat (first | refine blk_drewN ?_ _ | refine blk_drew ?_ | refine blk_alloc ?_ _)); refine blk_far ?_ NB224_239.out _; (with_reducible repeat (first | refine blk_drewN ?_ _ | refine blk_drew ?_ | refine blk_alloc ?_ _)); refine blk_far ?_ NB224_239.out _; (with_reducible repeat (first | refine blk_drewN ?_ _ | refine blk_drew ?_ | refine blk_alloc ?_ _)); exact BK224.out⟩, ⟨by repeat (first | (with_reducible first | exact HB.out | apply below_alloc | apply pw_below_drewN | apply below_drew1 | refine below_set ?_ GE224.out | refine below_set ?_ GE239.out) | exact HB.out)⟩⟩
                                            · replace c43 := Bool.eq_false_iff.mpr c43
                                              subst c43
                                              have H1 : (impl_RunNfa.l1 k3 x7_2 x8_2 (rd l1 x34_2) x11_3 l1 (l1.length : Int) x34_2 l0_3 (l0_3.length : Int) (wrap64 (x44_3 + 1)) a0_0 a0_1 a0_2 l0_3) = some (r1, r2, r3) := by rw [if_neg (show ¬ (false = true) by decide)] at H; exact H
                                              clear H
                                              have H := H1
                                              clear H1
                                              have H' := Aside0.mk H
                                              clear H
                                              have p238 : 0 ≤ (x44_3 : Int) := of_decide_eq_true (by first | (with_reducible assumption) | assumption)
                                              have q238 : x44_3 < (l0_3.length : Int) := of_decide_eq_true (by first | (with_reducible assumption) | assumption)
                                              obtain ⟨ad238, e238, hx238_0, hx238_1, hx238_2, hx238_3, hx238_4⟩ := at_T97 HR0_3.out x44_3 p238 q238
                                              (try rw [← Nbq42.out] at hx238_2)
                                              (try rw [← Nbq42.out] at hx238_3)
                                              cases e238
                                              replace hx238_0 := (HB.out.cell (World.block_lt_of_cell? w _ hx238_0)).trans hx238_0
                                              replace hx238_1 := (HB.out.cell (World.block_lt_of_cell? w _ hx238_1)).trans hx238_1
                                              replace hx238_2 := (HB.out.cell (World.block_lt_of_cell? w _ hx238_2)).trans hx238_2
                                              replace hx238_3 := (HB.out.cell (World.block_lt_of_cell? w _ hx238_3)).trans hx238_3
                                              replace hx238_4 := (HB.out.cell (World.block_lt_of_cell? w _ hx238_4)).trans hx238_4
                                              replace p238 := eq_true p238
                                              replace q238 := eq_true q238
                                              go_wp2_with (first | ((with_reducible refine gate_dst (N := 13) rfl ?_); refine box_event ?hg (N := 13) ?hd (cs := #[.int .i64 0, .int .i64 0, .bool false, .bool false, .int .i64 0]) (t := 97) ?hr ?_; (case hd => rfl); (case hg => rfl); (case hr => first | (go_simp; done) | (go_simp; rfl)); intro gb239 hg w79 hbox hb; have n0_ := Aside0.mk (Kd.R_below (by (with_reducible repeat (first | apply Kd.R_alloc | apply Kd.R_drewN | apply Kd.R_drew)); exact HO_7.out) hb); have n1_ := Aside0.mk (Kd.R_below (by (with_reducible repeat (first | apply Kd.R_alloc | apply Kd.R_drewN | apply Kd.R_drew)); exact HO_11.out) hb); have n2_ := Aside0.mk (blk_below (g := gb224) (o := .cells #[.int .i64 a0_0, .int .i64 a0_1, .int .i64 a0_2, .slice (some ad238) l0_3.length c0_3] 60 (0, 0)) (by (with_reducible repeat (first | refine blk_drewN ?_ _ | refine blk_drew ?_ | refine blk_alloc ?_ _)); exact BK224.out) hb); have n3_ := Aside0.mk (below_step (by repeat (first | (with_reducible first | exact HB.out | apply below_alloc | apply pw_below_drewN | apply below_drew1 | refine below_set ?_ GE224.out) | exact HB.out)) hb); have n4_ := Aside0.mk (hbox); have n5_ := Aside0.mk ((by rw [hg]; exact (below_size (by repeat (first | (with_reducible first | exact HB.out | apply below_alloc | apply pw_below_drewN | apply below_drew1 | refine below_set ?_ GE224.out) | exact HB.out))) : w.heap.size ≤ gb239)); have n6_ := Aside0.mk ((by rw [hg]; exact (below_size (by repeat (first | (with_reducible first | exact HB.out | apply below_alloc | apply pw_below_drewN | apply below_drew1 | refine below_set ?_ GE224.out) | exact HB.out))) : w.heap.size ≤ gb239)); have n7_ := Aside0.mk ((by rw [hg]; exact Nat.ne_of_lt (blk_lt (g := gb224) (o := .cells #[.int .i64 a0_0, .int .i64 a0_1, .int .i64 a0_2, .slice (some ad238) l0_3.length c0_3] 60 (0, 0)) (by (with_reducible repeat (first | refine blk_drewN ?_ _ | refine blk_drew ?_ | refine blk_alloc ?_ _)); exact BK224.out)) : gb224 ≠ gb239)); have n8_ := Aside0.mk ((by rw [hg]; exact Nat.ne_of_gt (blk_lt (g := gb224) (o := .cells #[.int .i64 a0_0, .int .i64 a0_1, .int .i64 a0_2, .slice (some ad238) l0_3.length c0_3] 60 (0, 0)) (by (with_reducible repeat (first | refine blk_drewN ?_ _ | refine blk_drew ?_ | refine blk_alloc ?_ _)); exact BK224.out)) : gb239 ≠ gb224)); clear HO_7; clear HO_11; clear BK224; clear HB; have HO_7 := n0_; have HO_11 := n1_; have BK224 := n2_; have HB := n3_; have BK239 := n4_; have GW239 := n5_; have GE239 := n6_; have NB224_239 := n7_; have NB239_224 := n8_; clear n0_ n1_ n2_ n3_ n4_ n5_ n6_ n7_ n8_; clear hb hbox hg; have hnb80 := NB239_224.out; have hnc80 := NB224_239.out; have hcz81_0 : w79.cell? ⟨gb239, 0, none⟩ = some (.int .i64 0) := (blk_cell BK239.out 0).trans rfl; have hcz81_1 : w79.cell? ⟨gb239, 1, none⟩ = some (.int .i64 0) := (blk_cell BK239.out 1).trans rfl; have hcz81_2 : w79.cell? ⟨gb239, 2, none⟩ = some (.bool false) := (blk_cell BK239.out 2).trans rfl; have hcz81_3 : w79.cell? ⟨gb239, 3, none⟩ = some (.bool false) := (blk_cell BK239.out 3).trans rfl; have hcz81_4 : w79.cell? ⟨gb239, 4, none⟩ = some (.int .i64 0) := (blk_cell BK239.out 4).trans rfl; have hfz81_0 := blk_frozen BK239.out 0; have hfz81_1 := blk_frozen BK239.out 1; have hfz81_2 := blk_frozen BK239.out 2; have hfz81_3 := blk_frozen BK239.out 3; have hfz81_4 := blk_frozen BK239.out 4; obtain ⟨Ao82, co82, eo82⟩ := Kd.R_slice HO_7.out; subst eo82; have p240 : 0 ≤ (((rd_T97 l0_3 x44_3).f0) : Int) := of_decide_eq_true (by first | (with_reducible assumption) | assumption); have q240 : ((rd_T97 l0_3 x44_3).f0) < (x7_2.length : Int) := of_decide_eq_true (by first | (with_reducible assumption) | assumption); obtain ⟨ad240, e240, hx240_0⟩ := Kd.at_bool (Kd.R_reads' HO_7.out).2.2 ((rd_T97 l0_3 x44_3).f0) p240 q240; (try rw [← Nbq42.out] at hx240_0); cases e240; have hn240_0 : (ad240 : Addr).block ≠ gb239 := Kd.own_blk (Kd.R_ne HO_7.out BK239.out (by decide)); have hn240_1 : (ad240 : Addr).block ≠ gb239 := Kd.own_blk (Kd.R_ne HO_7.out BK239.out (by decide)); have hn240_2 : (ad240 : Addr).block ≠ gb239 := Kd.own_blk (Kd.R_ne HO_7.out BK239.out (by decide)); have hn240_3 : (ad240 : Addr).block ≠ gb239 := Kd.own_blk (Kd.R_ne HO_7.out BK239.out (by decide)); have hn240_4 : (ad240 : Addr).block ≠ gb239 := Kd.own_blk (Kd.R_ne HO_7.out BK239.out (by decide)); replace hx240_0 := (cell_far (p := ⟨gb239, 0, none⟩) (by first | (rw [add_block]; exact hn240_0) | (show (Addr.add _ _).block ≠ _; rw [add_block]; exact hn240_0) | exact hn240_0) (.int .i64 ((rd_T97 l0_3 x44_3).f0))).trans hx240_0; replace hx240_0 := (cell_far (p := ⟨gb239, 1, none⟩) (by first | (rw [add_block]; exact hn240_1) | (show (Addr.add _ _).block ≠ _; rw [add_block]; exact hn240_1) | exact hn240_1) (.int .i64 ((rd_T97 l0_3 x44_3).f1))).trans hx240_0; replace hx240_0 := (cell_far (p := ⟨gb239, 2, none⟩) (by first | (rw [add_block]; exact hn240_2) | (show (Addr.add _ _).block ≠ _; rw [add_block]; exact hn240_2) | exact hn240_2) (.bool ((rd_T97 l0_3 x44_3).f2))).trans hx240_0; replace hx240_0 := (cell_far (p := ⟨gb239, 3, none⟩) (by first | (rw [add_block]; exact hn240_3) | (show (Addr.add _ _).block ≠ _; rw [add_block]; exact hn240_3) | exact hn240_3) (.bool ((rd_T97 l0_3 x44_3).f3))).trans hx240_0; replace hx240_0 := (cell_far (p := ⟨gb239, 4, none⟩) (by first | (rw [add_block]; exact hn240_4) | (show (Addr.add _ _).block ≠ _; rw [add_block]; exact hn240_4) | exact hn240_4) (.int .i64 ((rd_T97 l0_3 x44_3).f4))).trans hx240_0; clear hn240_0; clear hn240_1; clear hn240_2; clear hn240_3; clear hn240_4; replace p240 := eq_true p240; replace q240 := eq_true q240))
                                              go_roundg k3
                                              case measure => have := HJ2.out; have := HK2.out; have := HK3.out; omega
                                              case rel => (try rw [← Nbq42.out]); exact ⟨(x11_3), (wrap64 (x44_3 + 1)), (by first | rfl | (simp; done) | (simp [*]; done)), H', ⟨by have := HJ2.out; have := HK2.out; have := HK3.out; omega⟩, ⟨by (try rw [← Nbq42.out]); (with_reducible repeat (first | apply Kd.R_alloc | apply Kd.R_drewN | apply Kd.R_drew)); exact Kd.R_mono (Kd.R_far (p := ⟨gb239, 4, none⟩) (Kd.R_far (p := ⟨gb239, 3, none⟩) (Kd.R_far (p := ⟨gb239, 2, none⟩) (Kd.R_far (p := ⟨gb239, 1, none⟩) (Kd.R_far (p := ⟨gb239, 0, none⟩) (Kd.R_types HO_7.out BK239.out (by decide)) (fun _ hk => hk.2) (.int .i64 ((rd_T97 l0_3 x44_3).f0))) (fun _ hk => hk.2) (.int .i64 ((rd_T97 l0_3 x44_3).f1))) (fun _ hk => hk.2) (.bool ((rd_T97 l0_3 x44_3).f2))) (fun _ hk => hk.2) (.bool ((rd_T97 l0_3 x44_3).f3))) (fun _ hk => hk.2) (.int .i64 ((rd_T97 l0_3 x44_3).f4))) (fun _ hk => hk.1)⟩, ⟨by (try rw [← Nbq42.out]); (with_reducible repeat (first | apply Kd.R_alloc | apply Kd.R_drewN | apply Kd.R_drew)); exact Kd.R_mono (Kd.R_far (p := ⟨gb239, 4, none⟩) (Kd.R_far (p := ⟨gb239, 3, none⟩) (Kd.R_far (p := ⟨gb239, 2, none⟩) (Kd.R_far (p := ⟨gb239, 1, none⟩) (Kd.R_far (p := ⟨gb239, 0, none⟩) (Kd.R_types HO_11.out BK239.out (by decide)) (fun _ hk => hk.2) (.int .i64 ((rd_T97 l0_3 x44_3).f0))) (fun _ hk => hk.2) (.int .i64 ((rd_T97 l0_3 x44_3).f1))) (fun _ hk => hk.2) (.bool ((rd_T97 l0_3 x44_3).f2))) (fun _ hk => hk.2) (.bool ((rd_T97 l0_3 x44_3).f3))) (fun _ hk => hk.2) (.int .i64 ((rd_T97 l0_3 x44_3).f4))) (fun _ hk => hk.1)⟩, ⟨by (try rw [← Nbq42.out]); (with_reducible repeat (first | refine blk_drewN ?_ _ | refine blk_drew ?_ | refine blk_alloc ?_ _)); refine blk_far ?_ NB224_239.out _; (with_reducible repeat (first | refine blk_drewN ?_ _ | refine blk_drew ?_ | refine blk_alloc ?_ _)); refine blk_far ?_ NB224_239.out _; (with_reducible repeat (first | refine blk_drewN ?_ _ | refine blk_drew ?_ | refine blk_alloc ?_ _)); refine blk_far ?_ NB224_239.out _; (with_reducible repeat (first | refine blk_drewN ?_ _ | refine blk_drew ?_ | refine blk_alloc ?_ _)); refine blk_far ?_ NB224_239.out _; (with_reducible repeat (first | refine blk_drewN ?_ _ | refine blk_drew ?_ | refine blk_alloc ?_ _)); refine blk_far ?_ NB224_239.out _; (with_reducible repeat (first | refine blk_drewN ?_ _ | refine blk_drew ?_ | refine blk_alloc ?_ _)); exact BK224.out⟩, ⟨by repeat (first | (with_reducible first | exact HB.out | apply below_alloc | apply pw_below_drewN | apply below_drew1 | refine below_set ?_ GE224.out | refine below_set ?_ GE239.out) | exact HB.out)⟩⟩
                                          · rw [if_neg c41] at H
                                            exact absurd H (by simp)
                                        · rw [if_neg c40] at H
                                          exact absurd H (by simp)
                                      · rw [if_neg c39] at H
                                        exact absurd H (by simp)
                                    · rw [if_neg c38] at H
                                      exact absurd H (by simp)
                                  · rw [if_neg c37] at H
                                    have c37b0 : decide (x44_3 < (l0_3.length : Int)) = false := decide_eq_false c37
                                    clear c37
                                    replace H := Option.bind_eq_some_iff.mp H
                                    obtain ⟨⟨t243, t244⟩, A830, H⟩ := H
                                    replace H : (impl_RunNfa.l0 k3 t244 (mx x8_2 t243) l1 (l1.length : Int) (wrap64 (x34_2 + 1)) a0_0 a0_1 a0_2 l0_3) = some (r1, r2, r3) := H
                                    have A83 := Aside0.mk A830
                                    clear A830
                                    obtain ⟨ji84, hji84⟩ : ∃ j_ : Int, (mx x8_2 t243) = j_ := ⟨_, rfl⟩
                                    replace H : (impl_RunNfa.l0 k3 t244 ji84 l1 (l1.length : Int) (wrap64 (x34_2 + 1)) a0_0 a0_1 a0_2 l0_3) = some (r1, r2, r3) := by first | (rw [hji84] at H; exact H) | (simp only [hji84] at H ⊢; exact H)
                                    (try rw [hji84] at A83)
                                    have hji84_ : (if x8_2 < t243 then t243 else x8_2) = ji84 := hji84
                                    have H' := Aside0.mk H
                                    clear H
                                    have hcz85_0 : wr.cell? ⟨gb224, 0, none⟩ = some (.int .i64 a0_0) := (blk_cell BK224.out 0).trans rfl
                                    have hcz85_1 : wr.cell? ⟨gb224, 1, none⟩ = some (.int .i64 a0_1) := (blk_cell BK224.out 1).trans rfl
                                    have hcz85_2 : wr.cell? ⟨gb224, 2, none⟩ = some (.int .i64 a0_2) := (blk_cell BK224.out 2).trans rfl
                                    have hcz85_3 : wr.cell? ⟨gb224, 3, none⟩ = some (.slice A0_3 l0_3.length c0_3) := (blk_cell BK224.out 3).trans rfl
                                    have hfz85_0 := blk_frozen BK224.out 0
                                    have hfz85_1 := blk_frozen BK224.out 1
                                    have hfz85_2 := blk_frozen BK224.out 2
                                    have hfz85_3 := blk_frozen BK224.out 3
                                    obtain ⟨Ao86, co86, eo86⟩ := Kd.R_slice HO_11.out
                                    subst eo86
                                    go_wp2_with (first | ((with_reducible refine gate_callee (f := 94) rfl ?_); refine goesL_ (some 76) rfl rfl Try.func94 (by kernel_rfl) rfl #[.agg #[.int .i64 a0_0, .int .i64 a0_1, .int .i64 a0_2, .slice A0_3 l0_3.length c0_3], .slice Ao86 x11_3.length co86] rfl (by (try simp only [List.map_toArray, List.map_cons, List.map_nil]); first | done | rfl | (simp only [List.length_drop, List.length_take]; rfl)) ?_; (with_reducible refine (impl_Nfa_spread.calls k3 a0_0 a0_1 a0_2 _ _ l0_3 (fun k_ => some k_ = (.slice Ao86 x11_3.length co86 : Value).ownBlock) (.slice Ao86 x11_3.length co86) x11_3 t243 t244 w _ ?side1 ?side2 ?side3 ?side4 A83.out).mono ?_); (case side1 => repeat (first | (with_reducible first | exact HB.out | apply below_alloc | apply pw_below_drewN | apply below_drew1 | refine below_set ?_ GE224.out) | exact HB.out)); (case side2 => exact Kd.C_kept_came k97_heap HR0_3.out (by repeat (first | (with_reducible first | exact HB.out | apply below_alloc | apply pw_below_drewN | apply below_drew1 | refine below_set ?_ GE224.out) | exact HB.out)) (fun k_ hs_ => (fun e_ => Kd.R_base HO_11.out k_ e_.symm) hs_)); (case side3 => exact HC0_3.out); (case side4 => exact Kd.R_tight rfl HO_11.out); rintro e w87 ⟨rfl, hy0, hb, hkp⟩; refine ⟨_, rfl, ?_⟩; have n0_ := Aside0.mk (Kd.R_mono (ok' := fun k_ => some k_ ≠ (.slice Ao86 x11_3.length co86 : Value).ownBlock) (Kd.R_keptB (HO_7.out) hkp (fun k_ hk_ hs_ => (hk_) hs_)) (fun k_ hk_ => hk_.1)); have n1_ := Aside0.mk (Kd.R_reok rfl hy0 (fun k_ e_ => HO_11.out.1 k_ e_)); have n2_ := Aside0.mk (blk_kept (by (with_reducible repeat (first | refine blk_drewN ?_ _ | refine blk_drew ?_ | refine blk_alloc ?_ _)); exact BK224.out) hkp (fun hs_ => (fun e_ => (Kd.R_ne HO_11.out BK224.out (by decide)) e_) hs_)); have n3_ := Aside0.mk (hb); clear HO_7; clear HO_11; clear BK224; clear HB; have HO_7 := n0_; have HO_11 := n1_; have BK224 := n2_; have HB := n3_; clear n0_ n1_ n2_ n3_; (try clear hb); (try clear hkp); (try clear hy0)))
                                    go_roundg k3
                                    case measure => have := HJ2.out; have := HK2.out; have := HK3.out; omega
                                    case rel => exact ⟨(t244), (ji84), (wrap64 (x34_2 + 1)), (by first | rfl | (simp; done) | (simp only [← hji84] <;> (first | rfl | simp)) | (simp [*]; done)), (by first | rfl | (simp; done) | (simp [*]; done)), H', ⟨by have := HJ2.out; have := HK2.out; have := HK3.out; omega⟩, ⟨by (with_reducible repeat (first | apply Kd.R_alloc | apply Kd.R_drewN | apply Kd.R_drew)); exact Kd.R_mono HO_11.out (fun _ hk => trivial)⟩, ⟨by (with_reducible repeat (first | refine blk_drewN ?_ _ | refine blk_drew ?_ | refine blk_alloc ?_ _)); exact BK224.out⟩, ⟨by repeat (first | (with_reducible first | exact HB.out | apply below_alloc | apply pw_below_drewN | apply below_drew1 | refine below_set ?_ GE224.out) | exact HB.out)⟩⟩
                            · rw [if_neg c32] at H
                              exact absurd H (by simp)
                          · rw [if_neg c31] at H
                            exact absurd H (by simp)
                        · rw [if_neg c30] at H
                          exact absurd H (by simp)
                      · rw [if_neg c29] at H
                        exact absurd H (by simp)
                    · rw [if_neg c28] at H
                      have c28b0 : decide (x34_2 < (l1.length : Int)) = false := decide_eq_false c28
                      clear c28
                      by_cases c88 : 0 ≤ a0_2
                      · rw [if_pos c88] at H
                        have c88b0 : decide (0 ≤ a0_2) = true := decide_eq_true c88
                        clear c88
                        by_cases c89 : a0_2 < (x7_2.length : Int)
                        · rw [if_pos c89] at H
                          have c89b0 : decide (a0_2 < (x7_2.length : Int)) = true := decide_eq_true c89
                          clear c89
                          simp only [Option.some.injEq, Prod.mk.injEq] at H
                          obtain ⟨rfl, rfl, rfl⟩ := H
                          have hcz90_0 : wr.cell? ⟨gb224, 0, none⟩ = some (.int .i64 a0_0) := (blk_cell BK224.out 0).trans rfl
                          have hcz90_1 : wr.cell? ⟨gb224, 1, none⟩ = some (.int .i64 a0_1) := (blk_cell BK224.out 1).trans rfl
                          have hcz90_2 : wr.cell? ⟨gb224, 2, none⟩ = some (.int .i64 a0_2) := (blk_cell BK224.out 2).trans rfl
                          have hcz90_3 : wr.cell? ⟨gb224, 3, none⟩ = some (.slice A0_3 l0_3.length c0_3) := (blk_cell BK224.out 3).trans rfl
                          have hfz90_0 := blk_frozen BK224.out 0
                          have hfz90_1 := blk_frozen BK224.out 1
                          have hfz90_2 := blk_frozen BK224.out 2
                          have hfz90_3 := blk_frozen BK224.out 3
                          obtain ⟨Ao91, co91, eo91⟩ := Kd.R_slice HO_7.out
                          subst eo91
                          have p233 : 0 ≤ (a0_2 : Int) := of_decide_eq_true (by first | (with_reducible assumption) | assumption)
                          have q233 : a0_2 < (x7_2.length : Int) := of_decide_eq_true (by first | (with_reducible assumption) | assumption)
                          obtain ⟨ad233, e233, hx233_0⟩ := Kd.at_bool (Kd.R_reads' HO_7.out).2.2 a0_2 p233 q233
                          cases e233
                          replace p233 := eq_true p233
                          replace q233 := eq_true q233
                          go_wp2
                          go_ret3
                          exact ⟨by first | rfl | (simp [errW_none, errW_some] <;> rfl) | (simp [*, errW_none, errW_some] <;> rfl), by repeat (first | (with_reducible first | exact HB.out | apply below_alloc | apply pw_below_drewN | apply below_drew1 | refine below_set ?_ GE224.out) | exact HB.out)⟩
                        · rw [if_neg c89] at H
                          exact absurd H (by simp)
                      · rw [if_neg c88] at H
                        exact absurd H (by simp)
              · rw [if_neg c17] at H
                exact absurd H (by simp)
            · rw [if_neg c16] at H
              exact absurd H (by simp)
          · rw [if_neg c15] at H
            exact absurd H (by simp)
        · rw [if_neg c14] at H
          exact absurd H (by simp)

end Go.Proofs.Ytkkchcalhomgcaa.PFnExactRunNfa
