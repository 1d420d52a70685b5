/- Written by this session's own program over the kit's print: Lean functions that tell what Go functions answer, each with a proof that the call does so. No condition but what each statement says. -/
import Derived.Test.YtkkchcalhomgcaaYFnExactBuildNfax5
import Derived.Test.YtkkchcalhomgcaaYFnExactBuildNfax6
namespace Go.Proofs.Ytkkchcalhomgcaa.PFnExactBuildNfa
open Go.RowKit Go.Proofs.YtkkchcalhomgcaaW.PrintWords Go.Proofs.YtkkchcalhomgcaaW.PrintLast Go.Proofs.YtkkchcalhomgcaaW.PrintMore
attribute [local go_sem] max2_int min2_int max_two min_two max_three min_three max_four min_four   -- for this text's walks alone
set_option linter.unusedVariables false
set_option linter.unusedSimpArgs false

/-! ### laws_FnExactBuildNfa: function 14 -/
mutual
def laws_FnExactBuildNfa.j0 : Nat → List (S111) → Bool → List (S109) → Bool → Bool → Int → Int → Int → List (S97) → Int → Int → Int → List (S97) → Option (Bool)
  | 0, _, _, _, _, _, _, _, _, _, _, _, _, _ => none
  | k + 1, x0, x5, x6, x8, x40, x368000, x368001, x368002, x368003, x379000, x379001, x379002, x379003 => if x40 = true then (some false) else ((laws_toReCellS.f k x0).bind fun t380 => ((laws_eqReCellS.f k x6 t380).bind fun t383 => (if t383 = true then ((laws_markReCellS.f k x6 1).bind fun bt384 => (if bt384.1 < 0 then (laws_FnExactBuildNfa.j1 k x0 x5 true x368000 x368001 x368002 x368003 x379000 x379001 x379002 x379003) else ((laws_eqNfa.f k x379000 x379001 x379002 x379003 x368000 x368001 x368002 x368003).bind fun t386 => (if t386 = true then (laws_FnExactBuildNfa.j1 k x0 x5 (x8 != x5) x368000 x368001 x368002 x368003 x379000 x379001 x379002 x379003) else (laws_FnExactBuildNfa.j1 k x0 x5 true x368000 x368001 x368002 x368003 x379000 x379001 x379002 x379003))))) else (some false))))
def laws_FnExactBuildNfa.j1 : Nat → List (S111) → Bool → Bool → Int → Int → Int → List (S97) → Int → Int → Int → List (S97) → Option (Bool)
  | 0, _, _, _, _, _, _, _, _, _, _, _ => none
  | k + 1, x0, x5, x61, x368000, x368001, x368002, x368003, x379000, x379001, x379002, x379003 => if x61 = true then (some false) else ((laws_markNfa.f k x379000 x379001 x379002 x379003 1).bind fun bt387 => ((laws_heldNfa.f k x379000 x379001 x379002 bt387.2 1).bind fun t389 => (if t389 < 0 then (some false) else (if t389 = bt387.1 then ((laws_toReCellS.f k x0).bind fun t390 => ((impl_BuildNfa.f k t390).bind fun bt393 => ((laws_eqNfa.f k bt393.1 bt393.2.1 bt393.2.2.1 bt393.2.2.2.1 x368000 x368001 x368002 x368003).bind fun t401 => (if t401 = true then (laws_FnExactBuildNfa.j2 k bt387.1 (bt393.2.2.2.2 != x5) x379000 x379001 x379002 bt387.2) else (laws_FnExactBuildNfa.j2 k bt387.1 true x379000 x379001 x379002 bt387.2))))) else (some false)))))
def laws_FnExactBuildNfa.j2 : Nat → Int → Bool → Int → Int → Int → List (S97) → Option (Bool)
  | 0, _, _, _, _, _, _ => none
  | k + 1, x10, x87, x379000, x379001, x379002, x379003 => if x87 = true then (some false) else ((laws_heldNfa.f k x379000 x379001 x379002 x379003 1).bind fun t402 => (if t402 < 0 then (some false) else (if t402 = x10 then (some true) else (some false))))
end
def laws_FnExactBuildNfa.f (k : Nat) (l0 : List (S111)) : Option (Bool) := (laws_szReCellS.f l0 1048576).bind fun t356 => (if t356 < 0 then (some true) else ((laws_toReCellS.f k l0).bind fun t357 => ((spec_BuildNfa.f k t357).bind fun bt360 => ((laws_toReCellS.f k l0).bind fun t368 => ((impl_BuildNfa.f k t368).bind fun bt371 => ((laws_eqNfa.f k bt371.1 bt371.2.1 bt371.2.2.1 bt371.2.2.2.1 bt360.1 bt360.2.1 bt360.2.2.1 bt360.2.2.2.1).bind fun t379 => (if t379 = true then (laws_FnExactBuildNfa.j0 k l0 bt360.2.2.2.2 t368 bt371.2.2.2.2 (bt371.2.2.2.2 != bt360.2.2.2.2) bt360.1 bt360.2.1 bt360.2.2.1 bt360.2.2.2.1 bt371.1 bt371.2.1 bt371.2.2.1 bt371.2.2.2.1) else (laws_FnExactBuildNfa.j0 k l0 bt360.2.2.2.2 t368 bt371.2.2.2.2 true bt360.1 bt360.2.1 bt360.2.2.1 bt360.2.2.2.1 bt371.1 bt371.2.1 bt371.2.2.1 bt371.2.2.2.1))))))))
theorem laws_FnExactBuildNfa.mono_l : ∀ k, (∀ y0 y1 y2 y3 y4 y5 y6 y7 y8 y9 y10 y11 y12, LeO (laws_FnExactBuildNfa.j0 k y0 y1 y2 y3 y4 y5 y6 y7 y8 y9 y10 y11 y12) (laws_FnExactBuildNfa.j0 (k + 1) y0 y1 y2 y3 y4 y5 y6 y7 y8 y9 y10 y11 y12)) ∧ (∀ y0 y1 y2 y3 y4 y5 y6 y7 y8 y9 y10, LeO (laws_FnExactBuildNfa.j1 k y0 y1 y2 y3 y4 y5 y6 y7 y8 y9 y10) (laws_FnExactBuildNfa.j1 (k + 1) y0 y1 y2 y3 y4 y5 y6 y7 y8 y9 y10)) ∧ (∀ y0 y1 y2 y3 y4 y5, LeO (laws_FnExactBuildNfa.j2 k y0 y1 y2 y3 y4 y5) (laws_FnExactBuildNfa.j2 (k + 1) y0 y1 y2 y3 y4 y5))
  | 0 => ⟨fun _ _ _ _ _ _ _ _ _ _ _ _ _ r h => by simp [laws_FnExactBuildNfa.j0] at h, fun _ _ _ _ _ _ _ _ _ _ _ r h => by simp [laws_FnExactBuildNfa.j1] at h, fun _ _ _ _ _ _ r h => by simp [laws_FnExactBuildNfa.j2] at h⟩
  | k + 1 => by
    obtain ⟨ih0, ih1, ih2⟩ := laws_FnExactBuildNfa.mono_l k
    refine ⟨?_, ?_, ?_⟩
    · intro y0 y1 y2 y3 y4 y5 y6 y7 y8 y9 y10 y11 y12
      unfold laws_FnExactBuildNfa.j0
      repeat' first
      | (with_reducible exact ih0 _ _ _ _ _ _ _ _ _ _ _ _ _)
      | (with_reducible exact ih1 _ _ _ _ _ _ _ _ _ _ _)
      | (with_reducible exact ih2 _ _ _ _ _ _)
      | (with_reducible exact impl_BuildNfa.mono _ _)
      | (with_reducible exact laws_eqNfa.mono _ _ _ _ _ _ _ _ _)
      | (with_reducible exact laws_eqReCellS.mono _ _ _)
      | (with_reducible exact laws_heldNfa.mono _ _ _ _ _ _)
      | (with_reducible exact laws_markNfa.mono _ _ _ _ _ _)
      | (with_reducible exact laws_markReCellS.mono _ _ _)
      | (with_reducible exact laws_toReCellS.mono _ _)
      | (with_reducible exact spec_BuildNfa.mono _ _)
      | (with_reducible exact LeO.refl _)
      | (with_reducible exact LeO.none _)
      | (with_reducible refine LeO.ite ?_ ?_)
      | (with_reducible refine LeO.bind ?_ (fun _ => ?_))
      | exact ih0 _ _ _ _ _ _ _ _ _ _ _ _ _
      | exact ih1 _ _ _ _ _ _ _ _ _ _ _
      | exact ih2 _ _ _ _ _ _
      | exact impl_BuildNfa.mono _ _
      | exact laws_eqNfa.mono _ _ _ _ _ _ _ _ _
      | exact laws_eqReCellS.mono _ _ _
      | exact laws_heldNfa.mono _ _ _ _ _ _
      | exact laws_markNfa.mono _ _ _ _ _ _
      | exact laws_markReCellS.mono _ _ _
      | exact laws_toReCellS.mono _ _
      | exact spec_BuildNfa.mono _ _
      | exact LeO.none _
      | refine LeO.ite ?_ ?_
      | refine LeO.bind ?_ (fun _ => ?_)
    · intro y0 y1 y2 y3 y4 y5 y6 y7 y8 y9 y10
      unfold laws_FnExactBuildNfa.j1
      repeat' first
      | (with_reducible exact ih0 _ _ _ _ _ _ _ _ _ _ _ _ _)
      | (with_reducible exact ih1 _ _ _ _ _ _ _ _ _ _ _)
      | (with_reducible exact ih2 _ _ _ _ _ _)
      | (with_reducible exact impl_BuildNfa.mono _ _)
      | (with_reducible exact laws_eqNfa.mono _ _ _ _ _ _ _ _ _)
      | (with_reducible exact laws_eqReCellS.mono _ _ _)
      | (with_reducible exact laws_heldNfa.mono _ _ _ _ _ _)
      | (with_reducible exact laws_markNfa.mono _ _ _ _ _ _)
      | (with_reducible exact laws_markReCellS.mono _ _ _)
      | (with_reducible exact laws_toReCellS.mono _ _)
      | (with_reducible exact spec_BuildNfa.mono _ _)
      | (with_reducible exact LeO.refl _)
      | (with_reducible exact LeO.none _)
      | (with_reducible refine LeO.ite ?_ ?_)
      | (with_reducible refine LeO.bind ?_ (fun _ => ?_))
      | exact ih0 _ _ _ _ _ _ _ _ _ _ _ _ _
      | exact ih1 _ _ _ _ _ _ _ _ _ _ _
      | exact ih2 _ _ _ _ _ _
      | exact impl_BuildNfa.mono _ _
      | exact laws_eqNfa.mono _ _ _ _ _ _ _ _ _
      | exact laws_eqReCellS.mono _ _ _
      | exact laws_heldNfa.mono _ _ _ _ _ _
      | exact laws_markNfa.mono _ _ _ _ _ _
      | exact laws_markReCellS.mono _ _ _
      | exact laws_toReCellS.mono _ _
      | exact spec_BuildNfa.mono _ _
      | exact LeO.none _
      | refine LeO.ite ?_ ?_
      | refine LeO.bind ?_ (fun _ => ?_)
    · intro y0 y1 y2 y3 y4 y5
      unfold laws_FnExactBuildNfa.j2
      repeat' first
      | (with_reducible exact ih0 _ _ _ _ _ _ _ _ _ _ _ _ _)
      | (with_reducible exact ih1 _ _ _ _ _ _ _ _ _ _ _)
      | (with_reducible exact ih2 _ _ _ _ _ _)
      | (with_reducible exact impl_BuildNfa.mono _ _)
      | (with_reducible exact laws_eqNfa.mono _ _ _ _ _ _ _ _ _)
      | (with_reducible exact laws_eqReCellS.mono _ _ _)
      | (with_reducible exact laws_heldNfa.mono _ _ _ _ _ _)
      | (with_reducible exact laws_markNfa.mono _ _ _ _ _ _)
      | (with_reducible exact laws_markReCellS.mono _ _ _)
      | (with_reducible exact laws_toReCellS.mono _ _)
      | (with_reducible exact spec_BuildNfa.mono _ _)
      | (with_reducible exact LeO.refl _)
      | (with_reducible exact LeO.none _)
      | (with_reducible refine LeO.ite ?_ ?_)
      | (with_reducible refine LeO.bind ?_ (fun _ => ?_))
      | exact ih0 _ _ _ _ _ _ _ _ _ _ _ _ _
      | exact ih1 _ _ _ _ _ _ _ _ _ _ _
      | exact ih2 _ _ _ _ _ _
      | exact impl_BuildNfa.mono _ _
      | exact laws_eqNfa.mono _ _ _ _ _ _ _ _ _
      | exact laws_eqReCellS.mono _ _ _
      | exact laws_heldNfa.mono _ _ _ _ _ _
      | exact laws_markNfa.mono _ _ _ _ _ _
      | exact laws_markReCellS.mono _ _ _
      | exact laws_toReCellS.mono _ _
      | exact spec_BuildNfa.mono _ _
      | exact LeO.none _
      | refine LeO.ite ?_ ?_
      | refine LeO.bind ?_ (fun _ => ?_)
theorem laws_FnExactBuildNfa.mono : ∀ a0 k, LeO (laws_FnExactBuildNfa.f k a0) (laws_FnExactBuildNfa.f (k + 1) a0) := by
  intro a0 k
  obtain ⟨ih0, ih1, ih2⟩ := laws_FnExactBuildNfa.mono_l k
  unfold laws_FnExactBuildNfa.f
  repeat' first
      | (with_reducible exact ih0 _ _ _ _ _ _ _ _ _ _ _ _ _)
      | (with_reducible exact ih1 _ _ _ _ _ _ _ _ _ _ _)
      | (with_reducible exact ih2 _ _ _ _ _ _)
      | (with_reducible exact impl_BuildNfa.mono _ _)
      | (with_reducible exact laws_eqNfa.mono _ _ _ _ _ _ _ _ _)
      | (with_reducible exact laws_eqReCellS.mono _ _ _)
      | (with_reducible exact laws_heldNfa.mono _ _ _ _ _ _)
      | (with_reducible exact laws_markNfa.mono _ _ _ _ _ _)
      | (with_reducible exact laws_markReCellS.mono _ _ _)
      | (with_reducible exact laws_toReCellS.mono _ _)
      | (with_reducible exact spec_BuildNfa.mono _ _)
      | (with_reducible exact LeO.refl _)
      | (with_reducible exact LeO.none _)
      | (with_reducible refine LeO.ite ?_ ?_)
      | (with_reducible refine LeO.bind ?_ (fun _ => ?_))
      | exact ih0 _ _ _ _ _ _ _ _ _ _ _ _ _
      | exact ih1 _ _ _ _ _ _ _ _ _ _ _
      | exact ih2 _ _ _ _ _ _
      | exact impl_BuildNfa.mono _ _
      | exact laws_eqNfa.mono _ _ _ _ _ _ _ _ _
      | exact laws_eqReCellS.mono _ _ _
      | exact laws_heldNfa.mono _ _ _ _ _ _
      | exact laws_markNfa.mono _ _ _ _ _ _
      | exact laws_markReCellS.mono _ _ _
      | exact laws_toReCellS.mono _ _
      | exact spec_BuildNfa.mono _ _
      | exact LeO.none _
      | refine LeO.ite ?_ ?_
      | refine LeO.bind ?_ (fun _ => ?_)
set_option maxHeartbeats 8000000 in
set_option maxRecDepth 100000 in
theorem laws_FnExactBuildNfa.calls (k : Nat) (A0 : Option Addr) (c0 : Nat) (l0 : List (S111)) (r : Bool) (w : World) (hr0 : Kd.C k111 w A0 l0.length l0) (hc0 : l0.length ≤ c0) (hT : r = true) (h : laws_FnExactBuildNfa.f k l0 = some r) :
    Calls Try.prog 14 #[.slice A0 l0.length c0] w fun e w' => e = .returned (.bool r) ∧ Below w.heap.size w w' := by
  have hu60 := Try.underlying60
  have HR0 := Aside0.mk hr0
  have HC0 := Aside0.mk hc0
  clear hr0 hc0
  have HB := Aside0.mk (Below.refl w.heap.size w)
  have H : ((laws_szReCellS.f l0 1048576).bind fun t356 => (if t356 < 0 then (some true) else ((laws_toReCellS.f k l0).bind fun t357 => ((spec_BuildNfa.f k t357).bind fun bt360 => ((laws_toReCellS.f k l0).bind fun t368 => ((impl_BuildNfa.f k t368).bind fun bt371 => ((laws_eqNfa.f k bt371.1 bt371.2.1 bt371.2.2.1 bt371.2.2.2.1 bt360.1 bt360.2.1 bt360.2.2.1 bt360.2.2.2.1).bind fun t379 => (if t379 = true then (laws_FnExactBuildNfa.j0 k l0 bt360.2.2.2.2 t368 bt371.2.2.2.2 (bt371.2.2.2.2 != bt360.2.2.2.2) bt360.1 bt360.2.1 bt360.2.2.1 bt360.2.2.2.1 bt371.1 bt371.2.1 bt371.2.2.1 bt371.2.2.2.1) else (laws_FnExactBuildNfa.j0 k l0 bt360.2.2.2.2 t368 bt371.2.2.2.2 true bt360.1 bt360.2.1 bt360.2.2.1 bt360.2.2.2.1 bt371.1 bt371.2.1 bt371.2.2.1 bt371.2.2.2.1))))))))) = some r := h
  clear h
  replace H := Option.bind_eq_some_iff.mp H
  obtain ⟨t356, A20, H⟩ := H
  replace H : (if t356 < 0 then (some true) else ((laws_toReCellS.f k l0).bind fun t357 => ((spec_BuildNfa.f k t357).bind fun bt360 => ((laws_toReCellS.f k l0).bind fun t368 => ((impl_BuildNfa.f k t368).bind fun bt371 => ((laws_eqNfa.f k bt371.1 bt371.2.1 bt371.2.2.1 bt371.2.2.2.1 bt360.1 bt360.2.1 bt360.2.2.1 bt360.2.2.2.1).bind fun t379 => (if t379 = true then (laws_FnExactBuildNfa.j0 k l0 bt360.2.2.2.2 t368 bt371.2.2.2.2 (bt371.2.2.2.2 != bt360.2.2.2.2) bt360.1 bt360.2.1 bt360.2.2.1 bt360.2.2.2.1 bt371.1 bt371.2.1 bt371.2.2.1 bt371.2.2.2.1) else (laws_FnExactBuildNfa.j0 k l0 bt360.2.2.2.2 t368 bt371.2.2.2.2 true bt360.1 bt360.2.1 bt360.2.2.1 bt360.2.2.2.1 bt371.1 bt371.2.1 bt371.2.2.1 bt371.2.2.2.1)))))))) = some r := H
  have A2 := Aside0.mk A20
  clear A20
  by_cases c3 : t356 < 0
  · rw [if_pos c3] at H
    have c3b0 : decide (t356 < 0) = true := decide_eq_true c3
    clear c3
    obtain rfl := Option.some.inj H
    go_enter Try.func14, Try.ntmps14
    go_wp2_with (first | ((with_reducible refine gate_callee (f := 43) rfl ?_); refine goesL_ (some 16) rfl rfl Try.func43 (by kernel_rfl) rfl #[.slice A0 l0.length c0, .int .i64 1048576] rfl (by (try simp only [List.map_toArray, List.map_cons, List.map_nil]); first | done | rfl | (simp only [List.length_drop, List.length_take]; rfl)) ?_; (with_reducible refine (laws_szReCellS.calls _ _ l0 1048576 t356 _ ?side1 ?side2 A2.out).mono ?_); (case side1 => repeat (first | exact HR0.out | (with_reducible refine Kd.C_alloc ?_ _) | (with_reducible refine Kd.C_drewN ?_ _) | (with_reducible refine Kd.C_drew ?_))); (case side2 => exact HC0.out); rintro e w' ⟨rfl, ⟨nd, rfl⟩⟩; refine ⟨_, rfl, ?_⟩))
    go_ret
    exact ⟨by first | rfl | (simp [errW_none, errW_some] <;> rfl) | (simp [*, errW_none, errW_some] <;> rfl), by repeat (first | (with_reducible first | exact HB.out | apply below_alloc | apply pw_below_drewN | apply below_drew1) | exact HB.out)⟩
  · rw [if_neg c3] at H
    have c3b0 : decide (t356 < 0) = false := decide_eq_false c3
    clear c3
    replace H := Option.bind_eq_some_iff.mp H
    obtain ⟨t357, A40, H⟩ := H
    replace H : ((spec_BuildNfa.f k t357).bind fun bt360 => ((laws_toReCellS.f k l0).bind fun t368 => ((impl_BuildNfa.f k t368).bind fun bt371 => ((laws_eqNfa.f k bt371.1 bt371.2.1 bt371.2.2.1 bt371.2.2.2.1 bt360.1 bt360.2.1 bt360.2.2.1 bt360.2.2.2.1).bind fun t379 => (if t379 = true then (laws_FnExactBuildNfa.j0 k l0 bt360.2.2.2.2 t368 bt371.2.2.2.2 (bt371.2.2.2.2 != bt360.2.2.2.2) bt360.1 bt360.2.1 bt360.2.2.1 bt360.2.2.2.1 bt371.1 bt371.2.1 bt371.2.2.1 bt371.2.2.2.1) else (laws_FnExactBuildNfa.j0 k l0 bt360.2.2.2.2 t368 bt371.2.2.2.2 true bt360.1 bt360.2.1 bt360.2.2.1 bt360.2.2.2.1 bt371.1 bt371.2.1 bt371.2.2.1 bt371.2.2.2.1)))))) = some r := H
    have A4 := Aside0.mk A40
    clear A40
    replace H := Option.bind_eq_some_iff.mp H
    obtain ⟨⟨t360, t361, t362, t363, t366⟩, A50, H⟩ := H
    replace H : ((laws_toReCellS.f k l0).bind fun t368 => ((impl_BuildNfa.f k t368).bind fun bt371 => ((laws_eqNfa.f k bt371.1 bt371.2.1 bt371.2.2.1 bt371.2.2.2.1 t360 t361 t362 t363).bind fun t379 => (if t379 = true then (laws_FnExactBuildNfa.j0 k l0 t366 t368 bt371.2.2.2.2 (bt371.2.2.2.2 != t366) t360 t361 t362 t363 bt371.1 bt371.2.1 bt371.2.2.1 bt371.2.2.2.1) else (laws_FnExactBuildNfa.j0 k l0 t366 t368 bt371.2.2.2.2 true t360 t361 t362 t363 bt371.1 bt371.2.1 bt371.2.2.1 bt371.2.2.2.1))))) = some r := H
    have A5 := Aside0.mk A50
    clear A50
    replace H := Option.bind_eq_some_iff.mp H
    obtain ⟨t368, A60, H⟩ := H
    replace H : ((impl_BuildNfa.f k t368).bind fun bt371 => ((laws_eqNfa.f k bt371.1 bt371.2.1 bt371.2.2.1 bt371.2.2.2.1 t360 t361 t362 t363).bind fun t379 => (if t379 = true then (laws_FnExactBuildNfa.j0 k l0 t366 t368 bt371.2.2.2.2 (bt371.2.2.2.2 != t366) t360 t361 t362 t363 bt371.1 bt371.2.1 bt371.2.2.1 bt371.2.2.2.1) else (laws_FnExactBuildNfa.j0 k l0 t366 t368 bt371.2.2.2.2 true t360 t361 t362 t363 bt371.1 bt371.2.1 bt371.2.2.1 bt371.2.2.2.1)))) = some r := H
    have A6 := Aside0.mk A60
    clear A60
    replace H := Option.bind_eq_some_iff.mp H
    obtain ⟨⟨t371, t372, t373, t374, t377⟩, A70, H⟩ := H
    replace H : ((laws_eqNfa.f k t371 t372 t373 t374 t360 t361 t362 t363).bind fun t379 => (if t379 = true then (laws_FnExactBuildNfa.j0 k l0 t366 t368 t377 (t377 != t366) t360 t361 t362 t363 t371 t372 t373 t374) else (laws_FnExactBuildNfa.j0 k l0 t366 t368 t377 true t360 t361 t362 t363 t371 t372 t373 t374))) = some r := H
    have A7 := Aside0.mk A70
    clear A70
    have HC8 := Aside0.mk H
    clear H
    go_enter Try.func14, Try.ntmps14
    go_upto_region 8 with (first | ((with_reducible refine gate_callee (f := 43) rfl ?_); refine goesL_ (some 16) rfl rfl Try.func43 (by kernel_rfl) rfl #[.slice A0 l0.length c0, .int .i64 1048576] rfl (by (try simp only [List.map_toArray, List.map_cons, List.map_nil]); first | done | rfl | (simp only [List.length_drop, List.length_take]; rfl)) ?_; (with_reducible refine (laws_szReCellS.calls _ _ l0 1048576 t356 _ ?side1 ?side2 A2.out).mono ?_); (case side1 => repeat (first | exact HR0.out | (with_reducible refine Kd.C_alloc ?_ _) | (with_reducible refine Kd.C_drewN ?_ _) | (with_reducible refine Kd.C_drew ?_))); (case side2 => exact HC0.out); rintro e w' ⟨rfl, ⟨nd, rfl⟩⟩; refine ⟨_, rfl, ?_⟩) | ((with_reducible refine gate_callee (f := 45) rfl ?_); refine goesL_ (some 21) rfl rfl Try.func45 (by kernel_rfl) rfl #[.slice A0 l0.length c0] rfl (by (try simp only [List.map_toArray, List.map_cons, List.map_nil]); first | done | rfl | (simp only [List.length_drop, List.length_take]; rfl)) ?_; (with_reducible refine (laws_toReCellS.calls k _ _ l0 t357 _ ?side1 ?side2 A4.out).mono ?_); (case side1 => repeat (first | exact HR0.out | (with_reducible refine Kd.C_alloc ?_ _) | (with_reducible refine Kd.C_drewN ?_ _) | (with_reducible refine Kd.C_drew ?_))); (case side2 => exact HC0.out); rintro e w9 ⟨v358, rfl, ho0, hb⟩; refine ⟨_, rfl, ?_⟩; have n0_ := Aside0.mk (Kd.R_lower ho0 (below_size (by repeat (first | (with_reducible first | exact HB.out | apply below_alloc | apply pw_below_drewN | apply below_drew1) | exact HB.out)))); have n1_ := Aside0.mk (below_step (by repeat (first | (with_reducible first | exact HB.out | apply below_alloc | apply pw_below_drewN | apply below_drew1) | exact HB.out)) hb); clear HB; have HO359 := n0_; have HB := n1_; clear n0_ n1_; (try clear hb); (try clear hb2); (try clear hk); (try clear hi); (try clear ho0); obtain ⟨Ao10, co10, eo10⟩ := Kd.R_slice HO359.out; subst eo10) | ((with_reducible refine gate_callee (f := 58) rfl ?_); refine goesL_ (some 22) rfl rfl Try.func58 (by kernel_rfl) rfl #[.slice Ao10 t357.length co10] rfl (by (try simp only [List.map_toArray, List.map_cons, List.map_nil]); first | done | rfl | (simp only [List.length_drop, List.length_take]; rfl)) ?_; (with_reducible refine (spec_BuildNfa.calls k _ _ t357 t360 t361 t362 t363 t366 _ ?side1 ?side2 A5.out).mono ?_); (case side1 => repeat (first | exact (Kd.R_reads' HO359.out).2.2 | (with_reducible refine Kd.C_alloc ?_ _) | (with_reducible refine Kd.C_drewN ?_ _) | (with_reducible refine Kd.C_drew ?_))); (case side2 => exact (Kd.R_reads' HO359.out).2.1); rintro e w11 ⟨v364, rfl, ho0, hb⟩; refine ⟨_, rfl, ?_⟩; have n0_ := Aside0.mk (Kd.R_below (by (with_reducible repeat (first | apply Kd.R_alloc | apply Kd.R_drewN | apply Kd.R_drew)); exact HO359.out) hb); have n1_ := Aside0.mk (Kd.R_lower ho0 (below_size (by repeat (first | (with_reducible first | exact HB.out | apply below_alloc | apply pw_below_drewN | apply below_drew1) | exact HB.out)))); have n2_ := Aside0.mk (below_step (by repeat (first | (with_reducible first | exact HB.out | apply below_alloc | apply pw_below_drewN | apply below_drew1) | exact HB.out)) hb); clear HO359; clear HB; have HO359 := n0_; have HO365 := n1_; have HB := n2_; clear n0_ n1_ n2_; (try clear hb); (try clear hb2); (try clear hk); (try clear hi); (try clear ho0)) | ((with_reducible refine gate_dst (N := 4) rfl ?_); refine box_event ?hg (N := 4) ?hd (cs := #[.int .i64 0, .int .i64 0, .int .i64 0, .slice none 0 0]) (t := 60) ?hr ?_; (case hd => rfl); (case hg => rfl); (case hr => first | (go_simp; done) | (go_simp; rfl)); intro gb367 hg w12 hbox hb; have n0_ := Aside0.mk (Kd.R_below (by (with_reducible repeat (first | apply Kd.R_alloc | apply Kd.R_drewN | apply Kd.R_drew)); exact HO359.out) hb); have n1_ := Aside0.mk (Kd.R_below (by (with_reducible repeat (first | apply Kd.R_alloc | apply Kd.R_drewN | apply Kd.R_drew)); exact HO365.out) hb); have n2_ := Aside0.mk (below_step (by repeat (first | (with_reducible first | exact HB.out | apply below_alloc | apply pw_below_drewN | apply below_drew1) | exact HB.out)) hb); have n3_ := Aside0.mk (hbox); have n4_ := Aside0.mk ((by rw [hg]; exact (below_size (by repeat (first | (with_reducible first | exact HB.out | apply below_alloc | apply pw_below_drewN | apply below_drew1) | exact HB.out))) : w.heap.size ≤ gb367)); have n5_ := Aside0.mk ((by rw [hg]; exact (below_size (by repeat (first | (with_reducible first | exact HB.out | apply below_alloc | apply pw_below_drewN | apply below_drew1) | exact HB.out))) : w.heap.size ≤ gb367)); clear HO359; clear HO365; clear HB; have HO359 := n0_; have HO365 := n1_; have HB := n2_; have BK367 := n3_; have GW367 := n4_; have GE367 := n5_; clear n0_ n1_ n2_ n3_ n4_ n5_; clear hb hbox hg; have hcz13_0 : w12.cell? ⟨gb367, 0, none⟩ = some (.int .i64 0) := (blk_cell BK367.out 0).trans rfl; have hcz13_1 : w12.cell? ⟨gb367, 1, none⟩ = some (.int .i64 0) := (blk_cell BK367.out 1).trans rfl; have hcz13_2 : w12.cell? ⟨gb367, 2, none⟩ = some (.int .i64 0) := (blk_cell BK367.out 2).trans rfl; have hcz13_3 : w12.cell? ⟨gb367, 3, none⟩ = some (.slice none 0 0) := (blk_cell BK367.out 3).trans rfl; have hfz13_0 := blk_frozen BK367.out 0; have hfz13_1 := blk_frozen BK367.out 1; have hfz13_2 := blk_frozen BK367.out 2; have hfz13_3 := blk_frozen BK367.out 3; obtain ⟨Ao14, co14, eo14⟩ := Kd.R_slice HO365.out; subst eo14) | ((with_reducible refine gate_callee (f := 45) rfl ?_); refine goesL_ (some 26) rfl rfl Try.func45 (by kernel_rfl) rfl #[.slice A0 l0.length c0] rfl (by (try simp only [List.map_toArray, List.map_cons, List.map_nil]); first | done | rfl | (simp only [List.length_drop, List.length_take]; rfl)) ?_; (with_reducible refine (laws_toReCellS.calls k _ _ l0 t368 _ ?side1 ?side2 A6.out).mono ?_); (case side1 => exact Kd.C_below HR0.out (by repeat (first | (with_reducible first | exact HB.out | apply below_alloc | apply pw_below_drewN | apply below_drew1 | refine below_set ?_ GE367.out) | exact HB.out))); (case side2 => exact HC0.out); rintro e w15 ⟨v369, rfl, ho0, hb⟩; refine ⟨_, rfl, ?_⟩; have n0_ := Aside0.mk (Kd.R_elder' (by (with_reducible repeat (first | apply Kd.R_alloc | apply Kd.R_drewN | apply Kd.R_drew)); exact (Kd.R_mono (Kd.R_far (p := ⟨gb367, 3, none⟩) (Kd.R_far (p := ⟨gb367, 2, none⟩) (Kd.R_far (p := ⟨gb367, 1, none⟩) (Kd.R_far (p := ⟨gb367, 0, none⟩) (Kd.R_types HO359.out BK367.out (by decide)) (fun _ hk => hk.2) (.int .i64 t360)) (fun _ hk => hk.2) (.int .i64 t361)) (fun _ hk => hk.2) (.int .i64 t362)) (fun _ hk => hk.2) (.slice Ao14 t363.length co14)) (fun _ h_ => h_.1))) (Kd.R_base ho0) hb); have n1_ := Aside0.mk (Kd.R_below (by (with_reducible repeat (first | apply Kd.R_alloc | apply Kd.R_drewN | apply Kd.R_drew)); exact (Kd.R_mono (Kd.R_far (p := ⟨gb367, 3, none⟩) (Kd.R_far (p := ⟨gb367, 2, none⟩) (Kd.R_far (p := ⟨gb367, 1, none⟩) (Kd.R_far (p := ⟨gb367, 0, none⟩) (Kd.R_types HO365.out BK367.out (by decide)) (fun _ hk => hk.2) (.int .i64 t360)) (fun _ hk => hk.2) (.int .i64 t361)) (fun _ hk => hk.2) (.int .i64 t362)) (fun _ hk => hk.2) (.slice Ao14 t363.length co14)) (fun _ h_ => h_.1))) hb); have n2_ := Aside0.mk (Kd.R_lower (Kd.R_new' ho0 (Kd.R_lt (by (with_reducible repeat (first | apply Kd.R_alloc | apply Kd.R_drewN | apply Kd.R_drew)); exact (Kd.R_mono (Kd.R_far (p := ⟨gb367, 3, none⟩) (Kd.R_far (p := ⟨gb367, 2, none⟩) (Kd.R_far (p := ⟨gb367, 1, none⟩) (Kd.R_far (p := ⟨gb367, 0, none⟩) (Kd.R_types HO359.out BK367.out (by decide)) (fun _ hk => hk.2) (.int .i64 t360)) (fun _ hk => hk.2) (.int .i64 t361)) (fun _ hk => hk.2) (.int .i64 t362)) (fun _ hk => hk.2) (.slice Ao14 t363.length co14)) (fun _ h_ => h_.1))))) (below_size (by repeat (first | (with_reducible first | exact HB.out | apply below_alloc | apply pw_below_drewN | apply below_drew1 | refine below_set ?_ GE367.out) | exact HB.out)))); have n3_ := Aside0.mk (blk_below (g := gb367) (o := .cells #[.int .i64 t360, .int .i64 t361, .int .i64 t362, .slice Ao14 t363.length co14] 60 (0, 0)) (by (with_reducible repeat (first | refine blk_drewN ?_ _ | refine blk_drew ?_ | refine blk_alloc ?_ _)); refine blk_put (cs := #[.int .i64 t360, .int .i64 t361, .int .i64 t362, .slice none 0 0]) ?_ 3 _ rfl; (with_reducible repeat (first | refine blk_drewN ?_ _ | refine blk_drew ?_ | refine blk_alloc ?_ _)); refine blk_put (cs := #[.int .i64 t360, .int .i64 t361, .int .i64 0, .slice none 0 0]) ?_ 2 _ rfl; (with_reducible repeat (first | refine blk_drewN ?_ _ | refine blk_drew ?_ | refine blk_alloc ?_ _)); refine blk_put (cs := #[.int .i64 t360, .int .i64 0, .int .i64 0, .slice none 0 0]) ?_ 1 _ rfl; (with_reducible repeat (first | refine blk_drewN ?_ _ | refine blk_drew ?_ | refine blk_alloc ?_ _)); refine blk_put (cs := #[.int .i64 0, .int .i64 0, .int .i64 0, .slice none 0 0]) ?_ 0 _ rfl; (with_reducible repeat (first | refine blk_drewN ?_ _ | refine blk_drew ?_ | refine blk_alloc ?_ _)); exact BK367.out) hb); have n4_ := Aside0.mk (below_step (by repeat (first | (with_reducible first | exact HB.out | apply below_alloc | apply pw_below_drewN | apply below_drew1 | refine below_set ?_ GE367.out) | exact HB.out)) hb); clear HO359; clear HO365; clear BK367; clear HB; have HO359 := n0_; have HO365 := n1_; have HO370 := n2_; have BK367 := n3_; have HB := n4_; clear n0_ n1_ n2_ n3_ n4_; (try clear hb); (try clear hb2); (try clear hk); (try clear hi); (try clear ho0); obtain ⟨Ao16, co16, eo16⟩ := Kd.R_slice HO370.out; subst eo16) | ((with_reducible refine gate_callee (f := 59) rfl ?_); refine goesL_ (some 29) rfl rfl Try.func59 (by kernel_rfl) rfl #[.slice Ao16 t368.length co16] rfl (by (try simp only [List.map_toArray, List.map_cons, List.map_nil]); first | done | rfl | (simp only [List.length_drop, List.length_take]; rfl)) ?_; (with_reducible refine (impl_BuildNfa.calls k _ _ t368 t371 t372 t373 t374 t377 _ ?side1 ?side2 A7.out).mono ?_); (case side1 => repeat (first | exact (Kd.R_reads' HO370.out).2.2 | (with_reducible refine Kd.C_alloc ?_ _) | (with_reducible refine Kd.C_drewN ?_ _) | (with_reducible refine Kd.C_drew ?_))); (case side2 => exact (Kd.R_reads' HO370.out).2.1); rintro e w17 ⟨v375, rfl, ho0, hb⟩; refine ⟨_, rfl, ?_⟩; have n0_ := Aside0.mk (Kd.R_below (by (with_reducible repeat (first | apply Kd.R_alloc | apply Kd.R_drewN | apply Kd.R_drew)); exact HO359.out) hb); have n1_ := Aside0.mk (Kd.R_elder' (by (with_reducible repeat (first | apply Kd.R_alloc | apply Kd.R_drewN | apply Kd.R_drew)); exact HO365.out) (Kd.R_base ho0) hb); have n2_ := Aside0.mk (Kd.R_below (by (with_reducible repeat (first | apply Kd.R_alloc | apply Kd.R_drewN | apply Kd.R_drew)); exact HO370.out) hb); have n3_ := Aside0.mk (Kd.R_lower (Kd.R_new' ho0 (Kd.R_lt (by (with_reducible repeat (first | apply Kd.R_alloc | apply Kd.R_drewN | apply Kd.R_drew)); exact HO365.out))) (below_size (by repeat (first | (with_reducible first | exact HB.out | apply below_alloc | apply pw_below_drewN | apply below_drew1 | refine below_set ?_ GE367.out) | exact HB.out)))); have n4_ := Aside0.mk (blk_below (g := gb367) (o := .cells #[.int .i64 t360, .int .i64 t361, .int .i64 t362, .slice Ao14 t363.length co14] 60 (0, 0)) (by (with_reducible repeat (first | refine blk_drewN ?_ _ | refine blk_drew ?_ | refine blk_alloc ?_ _)); exact BK367.out) hb); have n5_ := Aside0.mk (below_step (by repeat (first | (with_reducible first | exact HB.out | apply below_alloc | apply pw_below_drewN | apply below_drew1 | refine below_set ?_ GE367.out) | exact HB.out)) hb); clear HO359; clear HO365; clear HO370; clear BK367; clear HB; have HO359 := n0_; have HO365 := n1_; have HO370 := n2_; have HO376 := n3_; have BK367 := n4_; have HB := n5_; clear n0_ n1_ n2_ n3_ n4_ n5_; (try clear hb); (try clear hb2); (try clear hk); (try clear hi); (try clear ho0)) | ((with_reducible refine gate_dst (N := 7) rfl ?_); refine box_event ?hg (N := 7) ?hd (cs := #[.int .i64 0, .int .i64 0, .int .i64 0, .slice none 0 0]) (t := 60) ?hr ?_; (case hd => rfl); (case hg => rfl); (case hr => first | (go_simp; done) | (go_simp; rfl)); intro gb378 hg w18 hbox hb; have n0_ := Aside0.mk (Kd.R_below (by (with_reducible repeat (first | apply Kd.R_alloc | apply Kd.R_drewN | apply Kd.R_drew)); exact HO359.out) hb); have n1_ := Aside0.mk (Kd.R_below (by (with_reducible repeat (first | apply Kd.R_alloc | apply Kd.R_drewN | apply Kd.R_drew)); exact HO365.out) hb); have n2_ := Aside0.mk (Kd.R_below (by (with_reducible repeat (first | apply Kd.R_alloc | apply Kd.R_drewN | apply Kd.R_drew)); exact HO370.out) hb); have n3_ := Aside0.mk (Kd.R_below (by (with_reducible repeat (first | apply Kd.R_alloc | apply Kd.R_drewN | apply Kd.R_drew)); exact HO376.out) hb); have n4_ := Aside0.mk (blk_below (g := gb367) (o := .cells #[.int .i64 t360, .int .i64 t361, .int .i64 t362, .slice Ao14 t363.length co14] 60 (0, 0)) (by (with_reducible repeat (first | refine blk_drewN ?_ _ | refine blk_drew ?_ | refine blk_alloc ?_ _)); exact BK367.out) hb); have n5_ := Aside0.mk (below_step (by repeat (first | (with_reducible first | exact HB.out | apply below_alloc | apply pw_below_drewN | apply below_drew1 | refine below_set ?_ GE367.out) | exact HB.out)) hb); have n6_ := Aside0.mk (hbox); have n7_ := Aside0.mk ((by rw [hg]; exact (below_size (by repeat (first | (with_reducible first | exact HB.out | apply below_alloc | apply pw_below_drewN | apply below_drew1 | refine below_set ?_ GE367.out) | exact HB.out))) : w.heap.size ≤ gb378)); have n8_ := Aside0.mk ((by rw [hg]; exact (below_size (by repeat (first | (with_reducible first | exact HB.out | apply below_alloc | apply pw_below_drewN | apply below_drew1 | refine below_set ?_ GE367.out) | exact HB.out))) : w.heap.size ≤ gb378)); have n9_ := Aside0.mk ((by rw [hg]; exact Nat.ne_of_lt (blk_lt (g := gb367) (o := .cells #[.int .i64 t360, .int .i64 t361, .int .i64 t362, .slice Ao14 t363.length co14] 60 (0, 0)) (by (with_reducible repeat (first | refine blk_drewN ?_ _ | refine blk_drew ?_ | refine blk_alloc ?_ _)); exact BK367.out)) : gb367 ≠ gb378)); have n10_ := Aside0.mk ((by rw [hg]; exact Nat.ne_of_gt (blk_lt (g := gb367) (o := .cells #[.int .i64 t360, .int .i64 t361, .int .i64 t362, .slice Ao14 t363.length co14] 60 (0, 0)) (by (with_reducible repeat (first | refine blk_drewN ?_ _ | refine blk_drew ?_ | refine blk_alloc ?_ _)); exact BK367.out)) : gb378 ≠ gb367)); clear HO359; clear HO365; clear HO370; clear HO376; clear BK367; clear HB; have HO359 := n0_; have HO365 := n1_; have HO370 := n2_; have HO376 := n3_; have BK367 := n4_; have HB := n5_; have BK378 := n6_; have GW378 := n7_; have GE378 := n8_; have NB367_378 := n9_; have NB378_367 := n10_; clear n0_ n1_ n2_ n3_ n4_ n5_ n6_ n7_ n8_ n9_ n10_; clear hb hbox hg; have hnb19 := NB378_367.out; have hnc19 := NB367_378.out; have hcz20_0 : w18.cell? ⟨gb378, 0, none⟩ = some (.int .i64 0) := (blk_cell BK378.out 0).trans rfl; have hcz20_1 : w18.cell? ⟨gb378, 1, none⟩ = some (.int .i64 0) := (blk_cell BK378.out 1).trans rfl; have hcz20_2 : w18.cell? ⟨gb378, 2, none⟩ = some (.int .i64 0) := (blk_cell BK378.out 2).trans rfl; have hcz20_3 : w18.cell? ⟨gb378, 3, none⟩ = some (.slice none 0 0) := (blk_cell BK378.out 3).trans rfl; have hfz20_0 := blk_frozen BK378.out 0; have hfz20_1 := blk_frozen BK378.out 1; have hfz20_2 := blk_frozen BK378.out 2; have hfz20_3 := blk_frozen BK378.out 3; obtain ⟨Ao21, co21, eo21⟩ := Kd.R_slice HO376.out; subst eo21))
    (try simp only [Act.put, List.setIfInBounds_toArray, List.set_cons_zero, List.set_cons_succ])
    go_cut [40] (fun v40 wc => ∃ (kq : Nat) (x40_7 : Bool), v40 = .bool x40_7 ∧ Aside0 (laws_FnExactBuildNfa.j0 kq l0 t366 t368 t377 x40_7 t360 t361 t362 t363 t371 t372 t373 t374 = some r) ∧ Aside0 (kq ≤ k) ∧ Aside0 (Kd.R k109 109 wc w.heap.size (fun _ => True) (.slice Ao16 t368.length co16) t368) ∧ Aside0 (Kd.R k97 97 wc w.heap.size (fun k_ => some k_ ≠ ((.slice Ao21 t374.length co21) : Value).ownBlock) (.slice Ao14 t363.length co14) t363) ∧ Aside0 (Kd.R k97 97 wc w.heap.size (fun k_ => some k_ ≠ ((.slice Ao14 t363.length co14) : Value).ownBlock) (.slice Ao21 t374.length co21) t374) ∧ Aside0 (wc.heap[gb367]? = some (.cells #[.int .i64 t360, .int .i64 t361, .int .i64 t362, (.slice Ao14 t363.length co14)] 60 (0, 0))) ∧ Aside0 (wc.heap[gb378]? = some (.cells #[.int .i64 t371, .int .i64 t372, .int .i64 t373, (.slice Ao21 t374.length co21)] 60 (0, 0))) ∧ Aside0 (Below w.heap.size w wc))
    case first =>
      have H := HC8.out
      clear HC8
      replace H := Option.bind_eq_some_iff.mp H
      obtain ⟨t379, A220, H⟩ := H
      replace H : (if t379 = true then (laws_FnExactBuildNfa.j0 k l0 t366 t368 t377 (t377 != t366) t360 t361 t362 t363 t371 t372 t373 t374) else (laws_FnExactBuildNfa.j0 k l0 t366 t368 t377 true t360 t361 t362 t363 t371 t372 t373 t374)) = some r := H
      have A22 := Aside0.mk A220
      clear A220
      by_cases c23 : t379 = true
      · subst c23
        have H1 : (laws_FnExactBuildNfa.j0 k l0 t366 t368 t377 (t377 != t366) t360 t361 t362 t363 t371 t372 t373 t374) = some r := by rw [if_pos rfl] at H; exact H
        clear H
        have H := H1
        clear H1
        have H' := Aside0.mk H
        clear H
        have hnb24 := NB378_367.out
        have hnc24 := NB367_378.out
        have hcz25_0 : w18.cell? ⟨gb378, 0, none⟩ = some (.int .i64 0) := (blk_cell BK378.out 0).trans rfl
        have hcz25_1 : w18.cell? ⟨gb378, 1, none⟩ = some (.int .i64 0) := (blk_cell BK378.out 1).trans rfl
        have hcz25_2 : w18.cell? ⟨gb378, 2, none⟩ = some (.int .i64 0) := (blk_cell BK378.out 2).trans rfl
        have hcz25_3 : w18.cell? ⟨gb378, 3, none⟩ = some (.slice none 0 0) := (blk_cell BK378.out 3).trans rfl
        have hfz25_0 := blk_frozen BK378.out 0
        have hfz25_1 := blk_frozen BK378.out 1
        have hfz25_2 := blk_frozen BK378.out 2
        have hfz25_3 := blk_frozen BK378.out 3
        have hcz26_0 : w18.cell? ⟨gb367, 0, none⟩ = some (.int .i64 t360) := (blk_cell BK367.out 0).trans rfl
        have hcz26_1 : w18.cell? ⟨gb367, 1, none⟩ = some (.int .i64 t361) := (blk_cell BK367.out 1).trans rfl
        have hcz26_2 : w18.cell? ⟨gb367, 2, none⟩ = some (.int .i64 t362) := (blk_cell BK367.out 2).trans rfl
        have hcz26_3 : w18.cell? ⟨gb367, 3, none⟩ = some (.slice Ao14 t363.length co14) := (blk_cell BK367.out 3).trans rfl
        have hfz26_0 := blk_frozen BK367.out 0
        have hfz26_1 := blk_frozen BK367.out 1
        have hfz26_2 := blk_frozen BK367.out 2
        have hfz26_3 := blk_frozen BK367.out 3
        go_wp2_with (first | ((with_reducible refine gate_callee (f := 42) rfl ?_); refine goesL_ (some 34) rfl rfl Try.func42 (by kernel_rfl) rfl #[.agg #[.int .i64 t371, .int .i64 t372, .int .i64 t373, .slice Ao21 t374.length co21], .agg #[.int .i64 t360, .int .i64 t361, .int .i64 t362, .slice Ao14 t363.length co14]] rfl (by (try simp only [List.map_toArray, List.map_cons, List.map_nil]); first | done | rfl | (simp only [List.length_drop, List.length_take]; rfl)) ?_; (with_reducible refine (laws_eqNfa.calls k t371 t372 t373 _ _ t374 t360 t361 t362 _ _ t363 true _ ?side1 ?side2 ?side3 ?side4 A22.out).mono ?_); (case side1 => refine (Kd.R_reads' (e := 97) (base := w.heap.size) (ok := fun k_ => (True ∧ some k_ ≠ (.slice Ao14 t363.length co14 : Value).ownBlock)) (n := t374.length) (c := co21) ?_).2.2; exact (by (with_reducible repeat (first | apply Kd.R_alloc | apply Kd.R_drewN | apply Kd.R_drew)); exact (Kd.R_mono (Kd.R_far (p := ⟨gb378, 3, none⟩) (Kd.R_far (p := ⟨gb378, 2, none⟩) (Kd.R_far (p := ⟨gb378, 1, none⟩) (Kd.R_far (p := ⟨gb378, 0, none⟩) (Kd.R_types HO376.out BK378.out (by decide)) (fun _ hk => hk.2) (.int .i64 t371)) (fun _ hk => hk.2) (.int .i64 t372)) (fun _ hk => hk.2) (.int .i64 t373)) (fun _ hk => hk.2) (.slice Ao21 t374.length co21)) (fun _ h_ => h_.1)))); (case side2 => exact (Kd.R_reads' HO376.out).2.1); (case side3 => refine (Kd.R_reads' (e := 97) (base := w.heap.size) (ok := fun k_ => (True ∧ some k_ ≠ (.slice Ao21 t374.length co21 : Value).ownBlock)) (n := t363.length) (c := co14) ?_).2.2; exact (by (with_reducible repeat (first | apply Kd.R_alloc | apply Kd.R_drewN | apply Kd.R_drew)); exact (Kd.R_mono (Kd.R_far (p := ⟨gb378, 3, none⟩) (Kd.R_far (p := ⟨gb378, 2, none⟩) (Kd.R_far (p := ⟨gb378, 1, none⟩) (Kd.R_far (p := ⟨gb378, 0, none⟩) (Kd.R_types HO365.out BK378.out (by decide)) (fun _ hk => hk.2) (.int .i64 t371)) (fun _ hk => hk.2) (.int .i64 t372)) (fun _ hk => hk.2) (.int .i64 t373)) (fun _ hk => hk.2) (.slice Ao21 t374.length co21)) (fun _ h_ => h_.1)))); (case side4 => exact (Kd.R_reads' HO365.out).2.1); rintro e w27 ⟨rfl, hb⟩; refine ⟨_, rfl, ?_⟩; have n0_ := Aside0.mk (Kd.R_below (by (with_reducible repeat (first | apply Kd.R_alloc | apply Kd.R_drewN | apply Kd.R_drew)); exact (Kd.R_mono (Kd.R_far (p := ⟨gb378, 3, none⟩) (Kd.R_far (p := ⟨gb378, 2, none⟩) (Kd.R_far (p := ⟨gb378, 1, none⟩) (Kd.R_far (p := ⟨gb378, 0, none⟩) (Kd.R_types HO359.out BK378.out (by decide)) (fun _ hk => hk.2) (.int .i64 t371)) (fun _ hk => hk.2) (.int .i64 t372)) (fun _ hk => hk.2) (.int .i64 t373)) (fun _ hk => hk.2) (.slice Ao21 t374.length co21)) (fun _ h_ => h_.1))) hb); have n1_ := Aside0.mk (Kd.R_below (by (with_reducible repeat (first | apply Kd.R_alloc | apply Kd.R_drewN | apply Kd.R_drew)); exact (Kd.R_mono (Kd.R_far (p := ⟨gb378, 3, none⟩) (Kd.R_far (p := ⟨gb378, 2, none⟩) (Kd.R_far (p := ⟨gb378, 1, none⟩) (Kd.R_far (p := ⟨gb378, 0, none⟩) (Kd.R_types HO365.out BK378.out (by decide)) (fun _ hk => hk.2) (.int .i64 t371)) (fun _ hk => hk.2) (.int .i64 t372)) (fun _ hk => hk.2) (.int .i64 t373)) (fun _ hk => hk.2) (.slice Ao21 t374.length co21)) (fun _ h_ => h_.1))) hb); have n2_ := Aside0.mk (Kd.R_below (by (with_reducible repeat (first | apply Kd.R_alloc | apply Kd.R_drewN | apply Kd.R_drew)); exact (Kd.R_mono (Kd.R_far (p := ⟨gb378, 3, none⟩) (Kd.R_far (p := ⟨gb378, 2, none⟩) (Kd.R_far (p := ⟨gb378, 1, none⟩) (Kd.R_far (p := ⟨gb378, 0, none⟩) (Kd.R_types HO370.out BK378.out (by decide)) (fun _ hk => hk.2) (.int .i64 t371)) (fun _ hk => hk.2) (.int .i64 t372)) (fun _ hk => hk.2) (.int .i64 t373)) (fun _ hk => hk.2) (.slice Ao21 t374.length co21)) (fun _ h_ => h_.1))) hb); have n3_ := Aside0.mk (Kd.R_below (by (with_reducible repeat (first | apply Kd.R_alloc | apply Kd.R_drewN | apply Kd.R_drew)); exact (Kd.R_mono (Kd.R_far (p := ⟨gb378, 3, none⟩) (Kd.R_far (p := ⟨gb378, 2, none⟩) (Kd.R_far (p := ⟨gb378, 1, none⟩) (Kd.R_far (p := ⟨gb378, 0, none⟩) (Kd.R_types HO376.out BK378.out (by decide)) (fun _ hk => hk.2) (.int .i64 t371)) (fun _ hk => hk.2) (.int .i64 t372)) (fun _ hk => hk.2) (.int .i64 t373)) (fun _ hk => hk.2) (.slice Ao21 t374.length co21)) (fun _ h_ => h_.1))) hb); have n4_ := Aside0.mk (blk_below (g := gb367) (o := .cells #[.int .i64 t360, .int .i64 t361, .int .i64 t362, .slice Ao14 t363.length co14] 60 (0, 0)) (by (with_reducible repeat (first | refine blk_drewN ?_ _ | refine blk_drew ?_ | refine blk_alloc ?_ _)); refine blk_far ?_ NB367_378.out _; (with_reducible repeat (first | refine blk_drewN ?_ _ | refine blk_drew ?_ | refine blk_alloc ?_ _)); refine blk_far ?_ NB367_378.out _; (with_reducible repeat (first | refine blk_drewN ?_ _ | refine blk_drew ?_ | refine blk_alloc ?_ _)); refine blk_far ?_ NB367_378.out _; (with_reducible repeat (first | refine blk_drewN ?_ _ | refine blk_drew ?_ | refine blk_alloc ?_ _)); refine blk_far ?_ NB367_378.out _; (with_reducible repeat (first | refine blk_drewN ?_ _ | refine blk_drew ?_ | refine blk_alloc ?_ _)); exact BK367.out) hb); have n5_ := Aside0.mk (blk_below (g := gb378) (o := .cells #[.int .i64 t371, .int .i64 t372, .int .i64 t373, .slice Ao21 t374.length co21] 60 (0, 0)) (by (with_reducible repeat (first | refine blk_drewN ?_ _ | refine blk_drew ?_ | refine blk_alloc ?_ _)); refine blk_put (cs := #[.int .i64 t371, .int .i64 t372, .int .i64 t373, .slice none 0 0]) ?_ 3 _ rfl; (with_reducible repeat (first | refine blk_drewN ?_ _ | refine blk_drew ?_ | refine blk_alloc ?_ _)); refine blk_put (cs := #[.int .i64 t371, .int .i64 t372, .int .i64 0, .slice none 0 0]) ?_ 2 _ rfl; (with_reducible repeat (first | refine blk_drewN ?_ _ | refine blk_drew ?_ | refine blk_alloc ?_ _)); refine blk_put (cs := #[.int .i64 t371, .int .i64 0, .int .i64 0, .slice none 0 0]) ?_ 1 _ rfl; (with_reducible repeat (first | refine blk_drewN ?_ _ | refine blk_drew ?_ | refine blk_alloc ?_ _)); refine blk_put (cs := #[.int .i64 0, .int .i64 0, .int .i64 0, .slice none 0 0]) ?_ 0 _ rfl; (with_reducible repeat (first | refine blk_drewN ?_ _ | refine blk_drew ?_ | refine blk_alloc ?_ _)); exact BK378.out) hb); have n6_ := Aside0.mk (below_step (by repeat (first | (with_reducible first | exact HB.out | apply below_alloc | apply pw_below_drewN | apply below_drew1 | refine below_set ?_ GE367.out | refine below_set ?_ GE378.out) | exact HB.out)) hb); clear HO359; clear HO365; clear HO370; clear HO376; clear BK367; clear BK378; clear HB; have HO359 := n0_; have HO365 := n1_; have HO370 := n2_; have HO376 := n3_; have BK367 := n4_; have BK378 := n5_; have HB := n6_; clear n0_ n1_ n2_ n3_ n4_ n5_ n6_; (try clear hb); (try clear hb2); (try clear hk); (try clear hi)))
        go_meet
        case rel => exact ⟨_, ((t377 != t366)), (by first | rfl | (simp; done) | (simp [*]; done)), H', ⟨by first | omega | exact Nat.le_refl _⟩, ⟨by (with_reducible repeat (first | apply Kd.R_alloc | apply Kd.R_drewN | apply Kd.R_drew)); exact Kd.R_mono HO370.out (fun _ hk => trivial)⟩, ⟨by (with_reducible repeat (first | apply Kd.R_alloc | apply Kd.R_drewN | apply Kd.R_drew)); exact Kd.R_mono HO365.out (fun _ hk => hk.2)⟩, ⟨by (with_reducible repeat (first | apply Kd.R_alloc | apply Kd.R_drewN | apply Kd.R_drew)); exact Kd.R_mono HO376.out (fun _ hk => hk.2)⟩, ⟨by (with_reducible repeat (first | refine blk_drewN ?_ _ | refine blk_drew ?_ | refine blk_alloc ?_ _)); exact BK367.out⟩, ⟨by (with_reducible repeat (first | refine blk_drewN ?_ _ | refine blk_drew ?_ | refine blk_alloc ?_ _)); exact BK378.out⟩, ⟨by repeat (first | (with_reducible first | exact HB.out | apply below_alloc | apply pw_below_drewN | apply below_drew1 | refine below_set ?_ GE367.out | refine below_set ?_ GE378.out) | exact HB.out)⟩⟩
      · replace c23 := Bool.eq_false_iff.mpr c23
        subst c23
        have H1 : (laws_FnExactBuildNfa.j0 k l0 t366 t368 t377 true t360 t361 t362 t363 t371 t372 t373 t374) = some r := by rw [if_neg (show ¬ (false = true) by decide)] at H; exact H
        clear H
        have H := H1
        clear H1
        have H' := Aside0.mk H
        clear H
        have hnb28 := NB378_367.out
        have hnc28 := NB367_378.out
        have hcz29_0 : w18.cell? ⟨gb378, 0, none⟩ = some (.int .i64 0) := (blk_cell BK378.out 0).trans rfl
        have hcz29_1 : w18.cell? ⟨gb378, 1, none⟩ = some (.int .i64 0) := (blk_cell BK378.out 1).trans rfl
        have hcz29_2 : w18.cell? ⟨gb378, 2, none⟩ = some (.int .i64 0) := (blk_cell BK378.out 2).trans rfl
        have hcz29_3 : w18.cell? ⟨gb378, 3, none⟩ = some (.slice none 0 0) := (blk_cell BK378.out 3).trans rfl
        have hfz29_0 := blk_frozen BK378.out 0
        have hfz29_1 := blk_frozen BK378.out 1
        have hfz29_2 := blk_frozen BK378.out 2
        have hfz29_3 := blk_frozen BK378.out 3
        have hcz30_0 : w18.cell? ⟨gb367, 0, none⟩ = some (.int .i64 t360) := (blk_cell BK367.out 0).trans rfl
        have hcz30_1 : w18.cell? ⟨gb367, 1, none⟩ = some (.int .i64 t361) := (blk_cell BK367.out 1).trans rfl
        have hcz30_2 : w18.cell? ⟨gb367, 2, none⟩ = some (.int .i64 t362) := (blk_cell BK367.out 2).trans rfl
        have hcz30_3 : w18.cell? ⟨gb367, 3, none⟩ = some (.slice Ao14 t363.length co14) := (blk_cell BK367.out 3).trans rfl
        have hfz30_0 := blk_frozen BK367.out 0
        have hfz30_1 := blk_frozen BK367.out 1
        have hfz30_2 := blk_frozen BK367.out 2
        have hfz30_3 := blk_frozen BK367.out 3
        go_wp2_with (first | ((with_reducible refine gate_callee (f := 42) rfl ?_); refine goesL_ (some 34) rfl rfl Try.func42 (by kernel_rfl) rfl #[.agg #[.int .i64 t371, .int .i64 t372, .int .i64 t373, .slice Ao21 t374.length co21], .agg #[.int .i64 t360, .int .i64 t361, .int .i64 t362, .slice Ao14 t363.length co14]] rfl (by (try simp only [List.map_toArray, List.map_cons, List.map_nil]); first | done | rfl | (simp only [List.length_drop, List.length_take]; rfl)) ?_; (with_reducible refine (laws_eqNfa.calls k t371 t372 t373 _ _ t374 t360 t361 t362 _ _ t363 false _ ?side1 ?side2 ?side3 ?side4 A22.out).mono ?_); (case side1 => refine (Kd.R_reads' (e := 97) (base := w.heap.size) (ok := fun k_ => (True ∧ some k_ ≠ (.slice Ao14 t363.length co14 : Value).ownBlock)) (n := t374.length) (c := co21) ?_).2.2; exact (by (with_reducible repeat (first | apply Kd.R_alloc | apply Kd.R_drewN | apply Kd.R_drew)); exact (Kd.R_mono (Kd.R_far (p := ⟨gb378, 3, none⟩) (Kd.R_far (p := ⟨gb378, 2, none⟩) (Kd.R_far (p := ⟨gb378, 1, none⟩) (Kd.R_far (p := ⟨gb378, 0, none⟩) (Kd.R_types HO376.out BK378.out (by decide)) (fun _ hk => hk.2) (.int .i64 t371)) (fun _ hk => hk.2) (.int .i64 t372)) (fun _ hk => hk.2) (.int .i64 t373)) (fun _ hk => hk.2) (.slice Ao21 t374.length co21)) (fun _ h_ => h_.1)))); (case side2 => exact (Kd.R_reads' HO376.out).2.1); (case side3 => refine (Kd.R_reads' (e := 97) (base := w.heap.size) (ok := fun k_ => (True ∧ some k_ ≠ (.slice Ao21 t374.length co21 : Value).ownBlock)) (n := t363.length) (c := co14) ?_).2.2; exact (by (with_reducible repeat (first | apply Kd.R_alloc | apply Kd.R_drewN | apply Kd.R_drew)); exact (Kd.R_mono (Kd.R_far (p := ⟨gb378, 3, none⟩) (Kd.R_far (p := ⟨gb378, 2, none⟩) (Kd.R_far (p := ⟨gb378, 1, none⟩) (Kd.R_far (p := ⟨gb378, 0, none⟩) (Kd.R_types HO365.out BK378.out (by decide)) (fun _ hk => hk.2) (.int .i64 t371)) (fun _ hk => hk.2) (.int .i64 t372)) (fun _ hk => hk.2) (.int .i64 t373)) (fun _ hk => hk.2) (.slice Ao21 t374.length co21)) (fun _ h_ => h_.1)))); (case side4 => exact (Kd.R_reads' HO365.out).2.1); rintro e w31 ⟨rfl, hb⟩; refine ⟨_, rfl, ?_⟩; have n0_ := Aside0.mk (Kd.R_below (by (with_reducible repeat (first | apply Kd.R_alloc | apply Kd.R_drewN | apply Kd.R_drew)); exact (Kd.R_mono (Kd.R_far (p := ⟨gb378, 3, none⟩) (Kd.R_far (p := ⟨gb378, 2, none⟩) (Kd.R_far (p := ⟨gb378, 1, none⟩) (Kd.R_far (p := ⟨gb378, 0, none⟩) (Kd.R_types HO359.out BK378.out (by decide)) (fun _ hk => hk.2) (.int .i64 t371)) (fun _ hk => hk.2) (.int .i64 t372)) (fun _ hk => hk.2) (.int .i64 t373)) (fun _ hk => hk.2) (.slice Ao21 t374.length co21)) (fun _ h_ => h_.1))) hb); have n1_ := Aside0.mk (Kd.R_below (by (with_reducible repeat (first | apply Kd.R_alloc | apply Kd.R_drewN | apply Kd.R_drew)); exact (Kd.R_mono (Kd.R_far (p := ⟨gb378, 3, none⟩) (Kd.R_far (p := ⟨gb378, 2, none⟩) (Kd.R_far (p := ⟨gb378, 1, none⟩) (Kd.R_far (p := ⟨gb378, 0, none⟩) (Kd.R_types HO365.out BK378.out (by decide)) (fun _ hk => hk.2) (.int .i64 t371)) (fun _ hk => hk.2) (.int .i64 t372)) (fun _ hk => hk.2) (.int .i64 t373)) (fun _ hk => hk.2) (.slice Ao21 t374.length co21)) (fun _ h_ => h_.1))) hb); have n2_ := Aside0.mk (Kd.R_below (by (with_reducible repeat (first | apply Kd.R_alloc | apply Kd.R_drewN | apply Kd.R_drew)); exact (Kd.R_mono (Kd.R_far (p := ⟨gb378, 3, none⟩) (Kd.R_far (p := ⟨gb378, 2, none⟩) (Kd.R_far (p := ⟨gb378, 1, none⟩) (Kd.R_far (p := ⟨gb378, 0, none⟩) (Kd.R_types HO370.out BK378.out (by decide)) (fun _ hk => hk.2) (.int .i64 t371)) (fun _ hk => hk.2) (.int .i64 t372)) (fun _ hk => hk.2) (.int .i64 t373)) (fun _ hk => hk.2) (.slice Ao21 t374.length co21)) (fun _ h_ => h_.1))) hb); have n3_ := Aside0.mk (Kd.R_below (by (with_reducible repeat (first | apply Kd.R_alloc | apply Kd.R_drewN | apply Kd.R_drew)); exact (Kd.R_mono (Kd.R_far (p := ⟨gb378, 3, none⟩) (Kd.R_far (p := ⟨gb378, 2, none⟩) (Kd.R_far (p := ⟨gb378, 1, none⟩) (Kd.R_far (p := ⟨gb378, 0, none⟩) (Kd.R_types HO376.out BK378.out (by decide)) (fun _ hk => hk.2) (.int .i64 t371)) (fun _ hk => hk.2) (.int .i64 t372)) (fun _ hk => hk.2) (.int .i64 t373)) (fun _ hk => hk.2) (.slice Ao21 t374.length co21)) (fun _ h_ => h_.1))) hb); have n4_ := Aside0.mk (blk_below (g := gb367) (o := .cells #[.int .i64 t360, .int .i64 t361, .int .i64 t362, .slice Ao14 t363.length co14] 60 (0, 0)) (by (with_reducible repeat (first | refine blk_drewN ?_ _ | refine blk_drew ?_ | refine blk_alloc ?_ _)); refine blk_far ?_ NB367_378.out _; (with_reducible repeat (first | refine blk_drewN ?_ _ | refine blk_drew ?_ | refine blk_alloc ?_ _)); refine blk_far ?_ NB367_378.out _; (with_reducible repeat (first | refine blk_drewN ?_ _ | refine blk_drew ?_ | refine blk_alloc ?_ _)); refine blk_far ?_ NB367_378.out _; (with_reducible repeat (first | refine blk_drewN ?_ _ | refine blk_drew ?_ | refine blk_alloc ?_ _)); refine blk_far ?_ NB367_378.out _; (with_reducible repeat (first | refine blk_drewN ?_ _ | refine blk_drew ?_ | refine blk_alloc ?_ _)); exact BK367.out) hb); have n5_ := Aside0.mk (blk_below (g := gb378) (o := .cells #[.int .i64 t371, .int .i64 t372, .int .i64 t373, .slice Ao21 t374.length co21] 60 (0, 0)) (by (with_reducible repeat (first | refine blk_drewN ?_ _ | refine blk_drew ?_ | refine blk_alloc ?_ _)); refine blk_put (cs := #[.int .i64 t371, .int .i64 t372, .int .i64 t373, .slice none 0 0]) ?_ 3 _ rfl; (with_reducible repeat (first | refine blk_drewN ?_ _ | refine blk_drew ?_ | refine blk_alloc ?_ _)); refine blk_put (cs := #[.int .i64 t371, .int .i64 t372, .int .i64 0, .slice none 0 0]) ?_ 2 _ rfl; (with_reducible repeat (first | refine blk_drewN ?_ _ | refine blk_drew ?_ | refine blk_alloc ?_ _)); refine blk_put (cs := #[.int .i64 t371, .int .i64 0, .int .i64 0, .slice none 0 0]) ?_ 1 _ rfl; (with_reducible repeat (first | refine blk_drewN ?_ _ | refine blk_drew ?_ | refine blk_alloc ?_ _)); refine blk_put (cs := #[.int .i64 0, .int .i64 0, .int .i64 0, .slice none 0 0]) ?_ 0 _ rfl; (with_reducible repeat (first | refine blk_drewN ?_ _ | refine blk_drew ?_ | refine blk_alloc ?_ _)); exact BK378.out) hb); have n6_ := Aside0.mk (below_step (by repeat (first | (with_reducible first | exact HB.out | apply below_alloc | apply pw_below_drewN | apply below_drew1 | refine below_set ?_ GE367.out | refine below_set ?_ GE378.out) | exact HB.out)) hb); clear HO359; clear HO365; clear HO370; clear HO376; clear BK367; clear BK378; clear HB; have HO359 := n0_; have HO365 := n1_; have HO370 := n2_; have HO376 := n3_; have BK367 := n4_; have BK378 := n5_; have HB := n6_; clear n0_ n1_ n2_ n3_ n4_ n5_ n6_; (try clear hb); (try clear hb2); (try clear hk); (try clear hi)))
        go_meet
        case rel => exact ⟨_, (true), (by first | rfl | (simp; done) | (simp [*]; done)), H', ⟨by first | omega | exact Nat.le_refl _⟩, ⟨by (with_reducible repeat (first | apply Kd.R_alloc | apply Kd.R_drewN | apply Kd.R_drew)); exact Kd.R_mono HO370.out (fun _ hk => trivial)⟩, ⟨by (with_reducible repeat (first | apply Kd.R_alloc | apply Kd.R_drewN | apply Kd.R_drew)); exact Kd.R_mono HO365.out (fun _ hk => hk.2)⟩, ⟨by (with_reducible repeat (first | apply Kd.R_alloc | apply Kd.R_drewN | apply Kd.R_drew)); exact Kd.R_mono HO376.out (fun _ hk => hk.2)⟩, ⟨by (with_reducible repeat (first | refine blk_drewN ?_ _ | refine blk_drew ?_ | refine blk_alloc ?_ _)); exact BK367.out⟩, ⟨by (with_reducible repeat (first | refine blk_drewN ?_ _ | refine blk_drew ?_ | refine blk_alloc ?_ _)); exact BK378.out⟩, ⟨by repeat (first | (with_reducible first | exact HB.out | apply below_alloc | apply pw_below_drewN | apply below_drew1 | refine below_set ?_ GE367.out | refine below_set ?_ GE378.out) | exact HB.out)⟩⟩
    case rest =>
      clear HC8
      try clear c1
      try clear c2
      try clear p2
      try clear c3
      try clear c3b0
      try clear c4
      try clear c5
      try clear c14
      try clear c19
      try clear c23
      try clear c24
      try clear c28
      try clear hcz13_0
      try clear hcz13_1
      try clear hcz13_2
      try clear hcz13_3
      try clear hcz20_0
      try clear hcz20_1
      try clear hcz20_2
      try clear hcz20_3
      try clear hcz25_0
      try clear hcz25_1
      try clear hcz25_2
      try clear hcz25_3
      try clear hcz26_0
      try clear hcz26_1
      try clear hcz26_2
      try clear hcz26_3
      try clear hcz29_0
      try clear hcz29_1
      try clear hcz29_2
      try clear hcz29_3
      try clear hcz30_0
      try clear hcz30_1
      try clear hcz30_2
      try clear hcz30_3
      try clear hfz13_0
      try clear hfz13_1
      try clear hfz13_2
      try clear hfz13_3
      try clear hfz20_0
      try clear hfz20_1
      try clear hfz20_2
      try clear hfz20_3
      try clear hfz25_0
      try clear hfz25_1
      try clear hfz25_2
      try clear hfz25_3
      try clear hfz26_0
      try clear hfz26_1
      try clear hfz26_2
      try clear hfz26_3
      try clear hfz29_0
      try clear hfz29_1
      try clear hfz29_2
      try clear hfz29_3
      try clear hfz30_0
      try clear hfz30_1
      try clear hfz30_2
      try clear hfz30_3
      obtain ⟨kq, x40_7, rfl, HA, HJ7, HO_6, HO_368003, HO_379003, BK367, BK378, HB⟩ := hcut
      cases kq with
      | zero => exact absurd HA.out (by simp [laws_FnExactBuildNfa.j0])
      | succ kj7 =>
        have H := HA.out
        clear HA
        simp only [laws_FnExactBuildNfa.j0] at H
        by_cases c32 : x40_7 = true
        · subst c32
          have H1 : (some false) = some r := by rw [if_pos rfl] at H; exact H
          clear H
          have H := H1
          clear H1
          obtain rfl := Option.some.inj H
          cases hT
        · replace c32 := Bool.eq_false_iff.mpr c32
          subst c32
          have H1 : ((laws_toReCellS.f kj7 l0).bind fun t380 => ((laws_eqReCellS.f kj7 t368 t380).bind fun t383 => (if t383 = true then ((laws_markReCellS.f kj7 t368 1).bind fun bt384 => (if bt384.1 < 0 then (laws_FnExactBuildNfa.j1 kj7 l0 t366 true t360 t361 t362 t363 t371 t372 t373 t374) else ((laws_eqNfa.f kj7 t371 t372 t373 t374 t360 t361 t362 t363).bind fun t386 => (if t386 = true then (laws_FnExactBuildNfa.j1 kj7 l0 t366 (t377 != t366) t360 t361 t362 t363 t371 t372 t373 t374) else (laws_FnExactBuildNfa.j1 kj7 l0 t366 true t360 t361 t362 t363 t371 t372 t373 t374))))) else (some false)))) = some r := by rw [if_neg (show ¬ (false = true) by decide)] at H; exact H
          clear H
          have H := H1
          clear H1
          replace H := Option.bind_eq_some_iff.mp H
          obtain ⟨t380, A330, H⟩ := H
          replace H : ((laws_eqReCellS.f kj7 t368 t380).bind fun t383 => (if t383 = true then ((laws_markReCellS.f kj7 t368 1).bind fun bt384 => (if bt384.1 < 0 then (laws_FnExactBuildNfa.j1 kj7 l0 t366 true t360 t361 t362 t363 t371 t372 t373 t374) else ((laws_eqNfa.f kj7 t371 t372 t373 t374 t360 t361 t362 t363).bind fun t386 => (if t386 = true then (laws_FnExactBuildNfa.j1 kj7 l0 t366 (t377 != t366) t360 t361 t362 t363 t371 t372 t373 t374) else (laws_FnExactBuildNfa.j1 kj7 l0 t366 true t360 t361 t362 t363 t371 t372 t373 t374))))) else (some false))) = some r := H
          have A33 := Aside0.mk A330
          clear A330
          replace H := Option.bind_eq_some_iff.mp H
          obtain ⟨t383, A340, H⟩ := H
          replace H : (if t383 = true then ((laws_markReCellS.f kj7 t368 1).bind fun bt384 => (if bt384.1 < 0 then (laws_FnExactBuildNfa.j1 kj7 l0 t366 true t360 t361 t362 t363 t371 t372 t373 t374) else ((laws_eqNfa.f kj7 t371 t372 t373 t374 t360 t361 t362 t363).bind fun t386 => (if t386 = true then (laws_FnExactBuildNfa.j1 kj7 l0 t366 (t377 != t366) t360 t361 t362 t363 t371 t372 t373 t374) else (laws_FnExactBuildNfa.j1 kj7 l0 t366 true t360 t361 t362 t363 t371 t372 t373 t374))))) else (some false)) = some r := H
          have A34 := Aside0.mk A340
          clear A340
          by_cases c35 : t383 = true
          · subst c35
            have H1 : ((laws_markReCellS.f kj7 t368 1).bind fun bt384 => (if bt384.1 < 0 then (laws_FnExactBuildNfa.j1 kj7 l0 t366 true t360 t361 t362 t363 t371 t372 t373 t374) else ((laws_eqNfa.f kj7 t371 t372 t373 t374 t360 t361 t362 t363).bind fun t386 => (if t386 = true then (laws_FnExactBuildNfa.j1 kj7 l0 t366 (t377 != t366) t360 t361 t362 t363 t371 t372 t373 t374) else (laws_FnExactBuildNfa.j1 kj7 l0 t366 true t360 t361 t362 t363 t371 t372 t373 t374))))) = some r := by rw [if_pos rfl] at H; exact H
            clear H
            have H := H1
            clear H1
            replace H := Option.bind_eq_some_iff.mp H
            obtain ⟨⟨t384, t385⟩, A360, H⟩ := H
            replace H : (if t384 < 0 then (laws_FnExactBuildNfa.j1 kj7 l0 t366 true t360 t361 t362 t363 t371 t372 t373 t374) else ((laws_eqNfa.f kj7 t371 t372 t373 t374 t360 t361 t362 t363).bind fun t386 => (if t386 = true then (laws_FnExactBuildNfa.j1 kj7 l0 t366 (t377 != t366) t360 t361 t362 t363 t371 t372 t373 t374) else (laws_FnExactBuildNfa.j1 kj7 l0 t366 true t360 t361 t362 t363 t371 t372 t373 t374)))) = some r := H
            have A36 := Aside0.mk A360
            clear A360
            have HC37 := Aside0.mk H
            clear H
            go_upto_region 14 with (first | ((with_reducible refine gate_callee (f := 45) rfl ?_); refine goesL_ (some 43) rfl rfl Try.func45 (by kernel_rfl) rfl #[.slice A0 l0.length c0] rfl (by (try simp only [List.map_toArray, List.map_cons, List.map_nil]); first | done | rfl | (simp only [List.length_drop, List.length_take]; rfl)) ?_; (with_reducible refine (laws_toReCellS.calls kj7 _ _ l0 t380 _ ?side1 ?side2 A33.out).mono ?_); (case side1 => repeat (first | exact (Kd.C_below HR0.out HB.out) | (with_reducible refine Kd.C_alloc ?_ _) | (with_reducible refine Kd.C_drewN ?_ _) | (with_reducible refine Kd.C_drew ?_))); (case side2 => exact HC0.out); rintro e w38 ⟨v381, rfl, ho0, hb⟩; refine ⟨_, rfl, ?_⟩; have n0_ := Aside0.mk (Kd.R_elder' (by (with_reducible repeat (first | apply Kd.R_alloc | apply Kd.R_drewN | apply Kd.R_drew)); exact HO_6.out) (Kd.R_base ho0) hb); have n1_ := Aside0.mk (Kd.R_below (by (with_reducible repeat (first | apply Kd.R_alloc | apply Kd.R_drewN | apply Kd.R_drew)); exact HO_368003.out) hb); have n2_ := Aside0.mk (Kd.R_below (by (with_reducible repeat (first | apply Kd.R_alloc | apply Kd.R_drewN | apply Kd.R_drew)); exact HO_379003.out) hb); have n3_ := Aside0.mk (Kd.R_lower (Kd.R_new' ho0 (Kd.R_lt (by (with_reducible repeat (first | apply Kd.R_alloc | apply Kd.R_drewN | apply Kd.R_drew)); exact HO_6.out))) (below_size (by repeat (first | (with_reducible first | exact HB.out | apply below_alloc | apply pw_below_drewN | apply below_drew1 | refine below_set ?_ GE367.out | refine below_set ?_ GE378.out) | exact HB.out)))); have n4_ := Aside0.mk (blk_below (g := gb367) (o := .cells #[.int .i64 t360, .int .i64 t361, .int .i64 t362, .slice Ao14 t363.length co14] 60 (0, 0)) (by (with_reducible repeat (first | refine blk_drewN ?_ _ | refine blk_drew ?_ | refine blk_alloc ?_ _)); exact BK367.out) hb); have n5_ := Aside0.mk (blk_below (g := gb378) (o := .cells #[.int .i64 t371, .int .i64 t372, .int .i64 t373, .slice Ao21 t374.length co21] 60 (0, 0)) (by (with_reducible repeat (first | refine blk_drewN ?_ _ | refine blk_drew ?_ | refine blk_alloc ?_ _)); exact BK378.out) hb); have n6_ := Aside0.mk (below_step (by repeat (first | (with_reducible first | exact HB.out | apply below_alloc | apply pw_below_drewN | apply below_drew1 | refine below_set ?_ GE367.out | refine below_set ?_ GE378.out) | exact HB.out)) hb); clear HO_6; clear HO_368003; clear HO_379003; clear BK367; clear BK378; clear HB; have HO_6 := n0_; have HO_368003 := n1_; have HO_379003 := n2_; have HO382 := n3_; have BK367 := n4_; have BK378 := n5_; have HB := n6_; clear n0_ n1_ n2_ n3_ n4_ n5_ n6_; (try clear hb); (try clear hb2); (try clear hk); (try clear hi); (try clear ho0); obtain ⟨Ao39, co39, eo39⟩ := Kd.R_slice HO382.out; subst eo39) | ((with_reducible refine gate_callee (f := 47) rfl ?_); refine goesL_ (some 44) rfl rfl Try.func47 (by kernel_rfl) rfl #[.slice Ao16 t368.length co16, .slice Ao39 t380.length co39] rfl (by (try simp only [List.map_toArray, List.map_cons, List.map_nil]); first | done | rfl | (simp only [List.length_drop, List.length_take]; rfl)) ?_; (with_reducible refine (laws_eqReCellS.calls kj7 _ _ t368 _ _ t380 true _ ?side1 ?side2 ?side3 ?side4 A34.out).mono ?_); (case side1 => repeat (first | exact (Kd.R_reads' HO_6.out).2.2 | (with_reducible refine Kd.C_alloc ?_ _) | (with_reducible refine Kd.C_drewN ?_ _) | (with_reducible refine Kd.C_drew ?_))); (case side2 => exact (Kd.R_reads' HO_6.out).2.1); (case side3 => repeat (first | exact (Kd.R_reads' HO382.out).2.2 | (with_reducible refine Kd.C_alloc ?_ _) | (with_reducible refine Kd.C_drewN ?_ _) | (with_reducible refine Kd.C_drew ?_))); (case side4 => exact (Kd.R_reads' HO382.out).2.1); rintro e w40 ⟨rfl, hb⟩; refine ⟨_, rfl, ?_⟩; have n0_ := Aside0.mk (Kd.R_below (by (with_reducible repeat (first | apply Kd.R_alloc | apply Kd.R_drewN | apply Kd.R_drew)); exact HO_6.out) hb); have n1_ := Aside0.mk (Kd.R_below (by (with_reducible repeat (first | apply Kd.R_alloc | apply Kd.R_drewN | apply Kd.R_drew)); exact HO_368003.out) hb); have n2_ := Aside0.mk (Kd.R_below (by (with_reducible repeat (first | apply Kd.R_alloc | apply Kd.R_drewN | apply Kd.R_drew)); exact HO_379003.out) hb); have n3_ := Aside0.mk (Kd.R_below (by (with_reducible repeat (first | apply Kd.R_alloc | apply Kd.R_drewN | apply Kd.R_drew)); exact HO382.out) hb); have n4_ := Aside0.mk (blk_below (g := gb367) (o := .cells #[.int .i64 t360, .int .i64 t361, .int .i64 t362, .slice Ao14 t363.length co14] 60 (0, 0)) (by (with_reducible repeat (first | refine blk_drewN ?_ _ | refine blk_drew ?_ | refine blk_alloc ?_ _)); exact BK367.out) hb); have n5_ := Aside0.mk (blk_below (g := gb378) (o := .cells #[.int .i64 t371, .int .i64 t372, .int .i64 t373, .slice Ao21 t374.length co21] 60 (0, 0)) (by (with_reducible repeat (first | refine blk_drewN ?_ _ | refine blk_drew ?_ | refine blk_alloc ?_ _)); exact BK378.out) hb); have n6_ := Aside0.mk (below_step (by repeat (first | (with_reducible first | exact HB.out | apply below_alloc | apply pw_below_drewN | apply below_drew1 | refine below_set ?_ GE367.out | refine below_set ?_ GE378.out) | exact HB.out)) hb); clear HO_6; clear HO_368003; clear HO_379003; clear HO382; clear BK367; clear BK378; clear HB; have HO_6 := n0_; have HO_368003 := n1_; have HO_379003 := n2_; have HO382 := n3_; have BK367 := n4_; have BK378 := n5_; have HB := n6_; clear n0_ n1_ n2_ n3_ n4_ n5_ n6_; (try clear hb); (try clear hb2); (try clear hk); (try clear hi)) | ((with_reducible refine gate_callee (f := 56) rfl ?_); refine goesL_ (some 48) rfl rfl Try.func56 (by kernel_rfl) rfl #[.slice Ao16 t368.length co16, .int .i64 1] rfl (by (try simp only [List.map_toArray, List.map_cons, List.map_nil]); first | done | rfl | (simp only [List.length_drop, List.length_take]; rfl)) ?_; (with_reducible refine (laws_markReCellS.calls kj7 (fun k_ => some k_ = (.slice Ao16 t368.length co16 : Value).ownBlock) (.slice Ao16 t368.length co16) t368 1 t384 t385 w _ ?side1 ?side2 A36.out).mono ?_); (case side1 => repeat (first | (with_reducible first | exact HB.out | apply below_alloc | apply pw_below_drewN | apply below_drew1 | refine below_set ?_ GE367.out | refine below_set ?_ GE378.out) | exact HB.out)); (case side2 => exact Kd.R_tight rfl HO_6.out); rintro e w41 ⟨rfl, hy0, hb, hkp⟩; refine ⟨_, rfl, ?_⟩; have n0_ := Aside0.mk (Kd.R_reok rfl hy0 (fun k_ e_ => HO_6.out.1 k_ e_)); have n1_ := Aside0.mk (Kd.R_mono (ok' := fun k_ => some k_ ≠ (.slice Ao21 t374.length co21 : Value).ownBlock) (Kd.R_keptB ((Kd.R_apart' HO_368003.out (Kd.R_typed HO_6.out) (by decide))) hkp (fun k_ hk_ hs_ => (hk_.2) hs_)) (fun k_ hk_ => hk_.1.1)); have n2_ := Aside0.mk (Kd.R_mono (ok' := fun k_ => some k_ ≠ (.slice Ao14 t363.length co14 : Value).ownBlock) (Kd.R_keptB ((Kd.R_apart' HO_379003.out (Kd.R_typed HO_6.out) (by decide))) hkp (fun k_ hk_ hs_ => (hk_.2) hs_)) (fun k_ hk_ => hk_.1.1)); have n3_ := Aside0.mk (blk_kept (by (with_reducible repeat (first | refine blk_drewN ?_ _ | refine blk_drew ?_ | refine blk_alloc ?_ _)); exact BK367.out) hkp (fun hs_ => (fun e_ => (Kd.R_ne HO_6.out BK367.out (by decide)) e_) hs_)); have n4_ := Aside0.mk (blk_kept (by (with_reducible repeat (first | refine blk_drewN ?_ _ | refine blk_drew ?_ | refine blk_alloc ?_ _)); exact BK378.out) hkp (fun hs_ => (fun e_ => (Kd.R_ne HO_6.out BK378.out (by decide)) e_) hs_)); have n5_ := Aside0.mk (Kd.R_mono (ok' := fun k_ => some k_ ≠ (.slice Ao16 t368.length co16 : Value).ownBlock) (Kd.R_keptB (HO382.out) hkp (fun k_ hk_ hs_ => (hk_.2) hs_)) (fun k_ hk_ => hk_.1.2)); have n6_ := Aside0.mk (hb); clear HO_6; clear HO_368003; clear HO_379003; clear BK367; clear BK378; clear HO382; clear HB; have HO_6 := n0_; have HO_368003 := n1_; have HO_379003 := n2_; have BK367 := n3_; have BK378 := n4_; have HO382 := n5_; have HB := n6_; clear n0_ n1_ n2_ n3_ n4_ n5_ n6_; (try clear hb); (try clear hkp); (try clear hy0)))
            (try simp only [Act.put, List.setIfInBounds_toArray, List.set_cons_zero, List.set_cons_succ])
            go_cut [61] (fun v61 wc => ∃ (kq : Nat) (x61_36 : Bool), v61 = .bool x61_36 ∧ Aside0 (laws_FnExactBuildNfa.j1 kq l0 t366 x61_36 t360 t361 t362 t363 t371 t372 t373 t374 = some r) ∧ Aside0 (kq ≤ kj7) ∧ Aside0 (Kd.R k97 97 wc w.heap.size (fun k_ => some k_ ≠ ((.slice Ao21 t374.length co21) : Value).ownBlock) (.slice Ao14 t363.length co14) t363) ∧ Aside0 (Kd.R k97 97 wc w.heap.size (fun k_ => some k_ ≠ ((.slice Ao14 t363.length co14) : Value).ownBlock) (.slice Ao21 t374.length co21) t374) ∧ Aside0 (wc.heap[gb367]? = some (.cells #[.int .i64 t360, .int .i64 t361, .int .i64 t362, (.slice Ao14 t363.length co14)] 60 (0, 0))) ∧ Aside0 (wc.heap[gb378]? = some (.cells #[.int .i64 t371, .int .i64 t372, .int .i64 t373, (.slice Ao21 t374.length co21)] 60 (0, 0))) ∧ Aside0 (Below w.heap.size w wc))
            case first =>
              have H := HC37.out
              clear HC37
              by_cases c42 : t384 < 0
              · rw [if_pos c42] at H
                have c42b0 : decide (t384 < 0) = true := decide_eq_true c42
                clear c42
                (first | rw [c42b0] | (simp only [i64_w, i32_w]; rw [c42b0]) | skip)
                have H' := Aside0.mk H
                clear H
                go_wp2
                go_meet
                case rel => exact ⟨_, (true), (by first | rfl | (simp; done) | (simp [*]; done)), H', ⟨by have := HJ7.out; first | omega | exact Nat.le_refl _⟩, ⟨by (with_reducible repeat (first | apply Kd.R_alloc | apply Kd.R_drewN | apply Kd.R_drew)); exact HO_368003.out⟩, ⟨by (with_reducible repeat (first | apply Kd.R_alloc | apply Kd.R_drewN | apply Kd.R_drew)); exact HO_379003.out⟩, ⟨by (with_reducible repeat (first | refine blk_drewN ?_ _ | refine blk_drew ?_ | refine blk_alloc ?_ _)); exact BK367.out⟩, ⟨by (with_reducible repeat (first | refine blk_drewN ?_ _ | refine blk_drew ?_ | refine blk_alloc ?_ _)); exact BK378.out⟩, ⟨by repeat (first | (with_reducible first | exact HB.out | apply below_alloc | apply pw_below_drewN | apply below_drew1 | refine below_set ?_ GE367.out | refine below_set ?_ GE378.out) | exact HB.out)⟩⟩
              · rw [if_neg c42] at H
                have c42b0 : decide (t384 < 0) = false := decide_eq_false c42
                clear c42
                (first | rw [c42b0] | (simp only [i64_w, i32_w]; rw [c42b0]) | skip)
                replace H := Option.bind_eq_some_iff.mp H
                obtain ⟨t386, A430, H⟩ := H
                replace H : (if t386 = true then (laws_FnExactBuildNfa.j1 kj7 l0 t366 (t377 != t366) t360 t361 t362 t363 t371 t372 t373 t374) else (laws_FnExactBuildNfa.j1 kj7 l0 t366 true t360 t361 t362 t363 t371 t372 t373 t374)) = some r := H
                have A43 := Aside0.mk A430
                clear A430
                by_cases c44 : t386 = true
                · subst c44
                  have H1 : (laws_FnExactBuildNfa.j1 kj7 l0 t366 (t377 != t366) t360 t361 t362 t363 t371 t372 t373 t374) = some r := by rw [if_pos rfl] at H; exact H
                  clear H
                  have H := H1
                  clear H1
                  have H' := Aside0.mk H
                  clear H
                  have hnb45 := NB378_367.out
                  have hnc45 := NB367_378.out
                  have hcz46_0 : w41.cell? ⟨gb378, 0, none⟩ = some (.int .i64 t371) := (blk_cell BK378.out 0).trans rfl
                  have hcz46_1 : w41.cell? ⟨gb378, 1, none⟩ = some (.int .i64 t372) := (blk_cell BK378.out 1).trans rfl
                  have hcz46_2 : w41.cell? ⟨gb378, 2, none⟩ = some (.int .i64 t373) := (blk_cell BK378.out 2).trans rfl
                  have hcz46_3 : w41.cell? ⟨gb378, 3, none⟩ = some (.slice Ao21 t374.length co21) := (blk_cell BK378.out 3).trans rfl
                  have hfz46_0 := blk_frozen BK378.out 0
                  have hfz46_1 := blk_frozen BK378.out 1
                  have hfz46_2 := blk_frozen BK378.out 2
                  have hfz46_3 := blk_frozen BK378.out 3
                  have hcz47_0 : w41.cell? ⟨gb367, 0, none⟩ = some (.int .i64 t360) := (blk_cell BK367.out 0).trans rfl
                  have hcz47_1 : w41.cell? ⟨gb367, 1, none⟩ = some (.int .i64 t361) := (blk_cell BK367.out 1).trans rfl
                  have hcz47_2 : w41.cell? ⟨gb367, 2, none⟩ = some (.int .i64 t362) := (blk_cell BK367.out 2).trans rfl
                  have hcz47_3 : w41.cell? ⟨gb367, 3, none⟩ = some (.slice Ao14 t363.length co14) := (blk_cell BK367.out 3).trans rfl
                  have hfz47_0 := blk_frozen BK367.out 0
                  have hfz47_1 := blk_frozen BK367.out 1
                  have hfz47_2 := blk_frozen BK367.out 2
                  have hfz47_3 := blk_frozen BK367.out 3
                  go_wp2_with (first | (go_at_call 42; (with_reducible refine (laws_eqNfa.calls kj7 t371 t372 t373 _ _ t374 t360 t361 t362 _ _ t363 true _ ?side1 ?side2 ?side3 ?side4 A43.out).mono ?_); (case side1 => repeat (first | exact (Kd.R_reads' HO_379003.out).2.2 | (with_reducible refine Kd.C_alloc ?_ _) | (with_reducible refine Kd.C_drewN ?_ _) | (with_reducible refine Kd.C_drew ?_))); (case side2 => exact (Kd.R_reads' HO_379003.out).2.1); (case side3 => repeat (first | exact (Kd.R_reads' HO_368003.out).2.2 | (with_reducible refine Kd.C_alloc ?_ _) | (with_reducible refine Kd.C_drewN ?_ _) | (with_reducible refine Kd.C_drew ?_))); (case side4 => exact (Kd.R_reads' HO_368003.out).2.1); rintro e w48 ⟨rfl, hb⟩; have n0_ := Aside0.mk (Kd.R_below (by (with_reducible repeat (first | apply Kd.R_alloc | apply Kd.R_drewN | apply Kd.R_drew)); exact HO_6.out) hb); have n1_ := Aside0.mk (Kd.R_below (by (with_reducible repeat (first | apply Kd.R_alloc | apply Kd.R_drewN | apply Kd.R_drew)); exact HO_368003.out) hb); have n2_ := Aside0.mk (Kd.R_below (by (with_reducible repeat (first | apply Kd.R_alloc | apply Kd.R_drewN | apply Kd.R_drew)); exact HO_379003.out) hb); have n3_ := Aside0.mk (Kd.R_below (by (with_reducible repeat (first | apply Kd.R_alloc | apply Kd.R_drewN | apply Kd.R_drew)); exact HO382.out) hb); have n4_ := Aside0.mk (blk_below (g := gb367) (o := .cells #[.int .i64 t360, .int .i64 t361, .int .i64 t362, .slice Ao14 t363.length co14] 60 (0, 0)) (by (with_reducible repeat (first | refine blk_drewN ?_ _ | refine blk_drew ?_ | refine blk_alloc ?_ _)); exact BK367.out) hb); have n5_ := Aside0.mk (blk_below (g := gb378) (o := .cells #[.int .i64 t371, .int .i64 t372, .int .i64 t373, .slice Ao21 t374.length co21] 60 (0, 0)) (by (with_reducible repeat (first | refine blk_drewN ?_ _ | refine blk_drew ?_ | refine blk_alloc ?_ _)); exact BK378.out) hb); have n6_ := Aside0.mk (below_step (by repeat (first | (with_reducible first | exact HB.out | apply below_alloc | apply pw_below_drewN | apply below_drew1 | refine below_set ?_ GE367.out | refine below_set ?_ GE378.out) | exact HB.out)) hb); clear HO_6; clear HO_368003; clear HO_379003; clear HO382; clear BK367; clear BK378; clear HB; have HO_6 := n0_; have HO_368003 := n1_; have HO_379003 := n2_; have HO382 := n3_; have BK367 := n4_; have BK378 := n5_; have HB := n6_; clear n0_ n1_ n2_ n3_ n4_ n5_ n6_; (try clear hb); (try clear hb2); (try clear hk); (try clear hi)))
                  go_meet
                  case rel => exact ⟨_, ((t377 != t366)), (by first | rfl | (simp; done) | (simp [*]; done)), H', ⟨by have := HJ7.out; first | omega | exact Nat.le_refl _⟩, ⟨by (with_reducible repeat (first | apply Kd.R_alloc | apply Kd.R_drewN | apply Kd.R_drew)); exact HO_368003.out⟩, ⟨by (with_reducible repeat (first | apply Kd.R_alloc | apply Kd.R_drewN | apply Kd.R_drew)); exact HO_379003.out⟩, ⟨by (with_reducible repeat (first | refine blk_drewN ?_ _ | refine blk_drew ?_ | refine blk_alloc ?_ _)); exact BK367.out⟩, ⟨by (with_reducible repeat (first | refine blk_drewN ?_ _ | refine blk_drew ?_ | refine blk_alloc ?_ _)); exact BK378.out⟩, ⟨by repeat (first | (with_reducible first | exact HB.out | apply below_alloc | apply pw_below_drewN | apply below_drew1 | refine below_set ?_ GE367.out | refine below_set ?_ GE378.out) | exact HB.out)⟩⟩
                · replace c44 := Bool.eq_false_iff.mpr c44
                  subst c44
                  have H1 : (laws_FnExactBuildNfa.j1 kj7 l0 t366 true t360 t361 t362 t363 t371 t372 t373 t374) = some r := by rw [if_neg (show ¬ (false = true) by decide)] at H; exact H
                  clear H
                  have H := H1
                  clear H1
                  have H' := Aside0.mk H
                  clear H
                  have hnb49 := NB378_367.out
                  have hnc49 := NB367_378.out
                  have hcz50_0 : w41.cell? ⟨gb378, 0, none⟩ = some (.int .i64 t371) := (blk_cell BK378.out 0).trans rfl
                  have hcz50_1 : w41.cell? ⟨gb378, 1, none⟩ = some (.int .i64 t372) := (blk_cell BK378.out 1).trans rfl
                  have hcz50_2 : w41.cell? ⟨gb378, 2, none⟩ = some (.int .i64 t373) := (blk_cell BK378.out 2).trans rfl
                  have hcz50_3 : w41.cell? ⟨gb378, 3, none⟩ = some (.slice Ao21 t374.length co21) := (blk_cell BK378.out 3).trans rfl
                  have hfz50_0 := blk_frozen BK378.out 0
                  have hfz50_1 := blk_frozen BK378.out 1
                  have hfz50_2 := blk_frozen BK378.out 2
                  have hfz50_3 := blk_frozen BK378.out 3
                  have hcz51_0 : w41.cell? ⟨gb367, 0, none⟩ = some (.int .i64 t360) := (blk_cell BK367.out 0).trans rfl
                  have hcz51_1 : w41.cell? ⟨gb367, 1, none⟩ = some (.int .i64 t361) := (blk_cell BK367.out 1).trans rfl
                  have hcz51_2 : w41.cell? ⟨gb367, 2, none⟩ = some (.int .i64 t362) := (blk_cell BK367.out 2).trans rfl
                  have hcz51_3 : w41.cell? ⟨gb367, 3, none⟩ = some (.slice Ao14 t363.length co14) := (blk_cell BK367.out 3).trans rfl
                  have hfz51_0 := blk_frozen BK367.out 0
                  have hfz51_1 := blk_frozen BK367.out 1
                  have hfz51_2 := blk_frozen BK367.out 2
                  have hfz51_3 := blk_frozen BK367.out 3
                  go_wp2_with (first | (go_at_call 42; (with_reducible refine (laws_eqNfa.calls kj7 t371 t372 t373 _ _ t374 t360 t361 t362 _ _ t363 false _ ?side1 ?side2 ?side3 ?side4 A43.out).mono ?_); (case side1 => repeat (first | exact (Kd.R_reads' HO_379003.out).2.2 | (with_reducible refine Kd.C_alloc ?_ _) | (with_reducible refine Kd.C_drewN ?_ _) | (with_reducible refine Kd.C_drew ?_))); (case side2 => exact (Kd.R_reads' HO_379003.out).2.1); (case side3 => repeat (first | exact (Kd.R_reads' HO_368003.out).2.2 | (with_reducible refine Kd.C_alloc ?_ _) | (with_reducible refine Kd.C_drewN ?_ _) | (with_reducible refine Kd.C_drew ?_))); (case side4 => exact (Kd.R_reads' HO_368003.out).2.1); rintro e w52 ⟨rfl, hb⟩; have n0_ := Aside0.mk (Kd.R_below (by (with_reducible repeat (first | apply Kd.R_alloc | apply Kd.R_drewN | apply Kd.R_drew)); exact HO_6.out) hb); have n1_ := Aside0.mk (Kd.R_below (by (with_reducible repeat (first | apply Kd.R_alloc | apply Kd.R_drewN | apply Kd.R_drew)); exact HO_368003.out) hb); have n2_ := Aside0.mk (Kd.R_below (by (with_reducible repeat (first | apply Kd.R_alloc | apply Kd.R_drewN | apply Kd.R_drew)); exact HO_379003.out) hb); have n3_ := Aside0.mk (Kd.R_below (by (with_reducible repeat (first | apply Kd.R_alloc | apply Kd.R_drewN | apply Kd.R_drew)); exact HO382.out) hb); have n4_ := Aside0.mk (blk_below (g := gb367) (o := .cells #[.int .i64 t360, .int .i64 t361, .int .i64 t362, .slice Ao14 t363.length co14] 60 (0, 0)) (by (with_reducible repeat (first | refine blk_drewN ?_ _ | refine blk_drew ?_ | refine blk_alloc ?_ _)); exact BK367.out) hb); have n5_ := Aside0.mk (blk_below (g := gb378) (o := .cells #[.int .i64 t371, .int .i64 t372, .int .i64 t373, .slice Ao21 t374.length co21] 60 (0, 0)) (by (with_reducible repeat (first | refine blk_drewN ?_ _ | refine blk_drew ?_ | refine blk_alloc ?_ _)); exact BK378.out) hb); have n6_ := Aside0.mk (below_step (by repeat (first | (with_reducible first | exact HB.out | apply below_alloc | apply pw_below_drewN | apply below_drew1 | refine below_set ?_ GE367.out | refine below_set ?_ GE378.out) | exact HB.out)) hb); clear HO_6; clear HO_368003; clear HO_379003; clear HO382; clear BK367; clear BK378; clear HB; have HO_6 := n0_; have HO_368003 := n1_; have HO_379003 := n2_; have HO382 := n3_; have BK367 := n4_; have BK378 := n5_; have HB := n6_; clear n0_ n1_ n2_ n3_ n4_ n5_ n6_; (try clear hb); (try clear hb2); (try clear hk); (try clear hi)))
                  go_meet
                  case rel => exact ⟨_, (true), (by first | rfl | (simp; done) | (simp [*]; done)), H', ⟨by have := HJ7.out; first | omega | exact Nat.le_refl _⟩, ⟨by (with_reducible repeat (first | apply Kd.R_alloc | apply Kd.R_drewN | apply Kd.R_drew)); exact HO_368003.out⟩, ⟨by (with_reducible repeat (first | apply Kd.R_alloc | apply Kd.R_drewN | apply Kd.R_drew)); exact HO_379003.out⟩, ⟨by (with_reducible repeat (first | refine blk_drewN ?_ _ | refine blk_drew ?_ | refine blk_alloc ?_ _)); exact BK367.out⟩, ⟨by (with_reducible repeat (first | refine blk_drewN ?_ _ | refine blk_drew ?_ | refine blk_alloc ?_ _)); exact BK378.out⟩, ⟨by repeat (first | (with_reducible first | exact HB.out | apply below_alloc | apply pw_below_drewN | apply below_drew1 | refine below_set ?_ GE367.out | refine below_set ?_ GE378.out) | exact HB.out)⟩⟩
            case rest =>
              clear HC37
              try clear c1
              try clear c2
              try clear p2
              try clear c3
              try clear c3b0
              try clear c4
              try clear c5
              try clear c14
              try clear c19
              try clear c23
              try clear c24
              try clear c28
              try clear c32
              try clear c35
              try clear c42
              try clear c42b0
              try clear c43
              try clear c44
              try clear c45
              try clear c47
              try clear c49
              try clear hcz13_0
              try clear hcz13_1
              try clear hcz13_2
              try clear hcz13_3
              try clear hcz20_0
              try clear hcz20_1
              try clear hcz20_2
              try clear hcz20_3
              try clear hcz25_0
              try clear hcz25_1
              try clear hcz25_2
              try clear hcz25_3
              try clear hcz26_0
              try clear hcz26_1
              try clear hcz26_2
              try clear hcz26_3
              try clear hcz29_0
              try clear hcz29_1
              try clear hcz29_2
              try clear hcz29_3
              try clear hcz30_0
              try clear hcz30_1
              try clear hcz30_2
              try clear hcz30_3
              try clear hcz46_0
              try clear hcz46_1
              try clear hcz46_2
              try clear hcz46_3
              try clear hcz47_0
              try clear hcz47_1
              try clear hcz47_2
              try clear hcz47_3
              try clear hcz50_0
              try clear hcz50_1
              try clear hcz50_2
              try clear hcz50_3
              try clear hcz51_0
              try clear hcz51_1
              try clear hcz51_2
              try clear hcz51_3
              try clear hfz13_0
              try clear hfz13_1
              try clear hfz13_2
              try clear hfz13_3
              try clear hfz20_0
              try clear hfz20_1
              try clear hfz20_2
              try clear hfz20_3
              try clear hfz25_0
              try clear hfz25_1
              try clear hfz25_2
              try clear hfz25_3
              try clear hfz26_0
              try clear hfz26_1
              try clear hfz26_2
              try clear hfz26_3
              try clear hfz29_0
              try clear hfz29_1
              try clear hfz29_2
              try clear hfz29_3
              try clear hfz30_0
              try clear hfz30_1
              try clear hfz30_2
              try clear hfz30_3
              try clear hfz46_0
              try clear hfz46_1
              try clear hfz46_2
              try clear hfz46_3
              try clear hfz47_0
              try clear hfz47_1
              try clear hfz47_2
              try clear hfz47_3
              try clear hfz50_0
              try clear hfz50_1
              try clear hfz50_2
              try clear hfz50_3
              try clear hfz51_0
              try clear hfz51_1
              try clear hfz51_2
              try clear hfz51_3
              try clear p2
              obtain ⟨kq, x61_36, rfl, HA, HJ36, HO_368003, HO_379003, BK367, BK378, HB⟩ := hcut
              cases kq with
              | zero => exact absurd HA.out (by simp [laws_FnExactBuildNfa.j1])
              | succ kj36 =>
                have H := HA.out
                clear HA
                simp only [laws_FnExactBuildNfa.j1] at H
                by_cases c53 : x61_36 = true
                · subst c53
                  have H1 : (some false) = some r := by rw [if_pos rfl] at H; exact H
                  clear H
                  have H := H1
                  clear H1
                  obtain rfl := Option.some.inj H
                  cases hT
                · replace c53 := Bool.eq_false_iff.mpr c53
                  subst c53
                  have H1 : ((laws_markNfa.f kj36 t371 t372 t373 t374 1).bind fun bt387 => ((laws_heldNfa.f kj36 t371 t372 t373 bt387.2 1).bind fun t389 => (if t389 < 0 then (some false) else (if t389 = bt387.1 then ((laws_toReCellS.f kj36 l0).bind fun t390 => ((impl_BuildNfa.f kj36 t390).bind fun bt393 => ((laws_eqNfa.f kj36 bt393.1 bt393.2.1 bt393.2.2.1 bt393.2.2.2.1 t360 t361 t362 t363).bind fun t401 => (if t401 = true then (laws_FnExactBuildNfa.j2 kj36 bt387.1 (bt393.2.2.2.2 != t366) t371 t372 t373 bt387.2) else (laws_FnExactBuildNfa.j2 kj36 bt387.1 true t371 t372 t373 bt387.2))))) else (some false))))) = some r := by rw [if_neg (show ¬ (false = true) by decide)] at H; exact H
                  clear H
                  have H := H1
                  clear H1
                  replace H := Option.bind_eq_some_iff.mp H
                  obtain ⟨⟨t387, t388⟩, A540, H⟩ := H
                  replace H : ((laws_heldNfa.f kj36 t371 t372 t373 t388 1).bind fun t389 => (if t389 < 0 then (some false) else (if t389 = t387 then ((laws_toReCellS.f kj36 l0).bind fun t390 => ((impl_BuildNfa.f kj36 t390).bind fun bt393 => ((laws_eqNfa.f kj36 bt393.1 bt393.2.1 bt393.2.2.1 bt393.2.2.2.1 t360 t361 t362 t363).bind fun t401 => (if t401 = true then (laws_FnExactBuildNfa.j2 kj36 t387 (bt393.2.2.2.2 != t366) t371 t372 t373 t388) else (laws_FnExactBuildNfa.j2 kj36 t387 true t371 t372 t373 t388))))) else (some false)))) = some r := H
                  have A54 := Aside0.mk A540
                  clear A540
                  replace H := Option.bind_eq_some_iff.mp H
                  obtain ⟨t389, A550, H⟩ := H
                  replace H : (if t389 < 0 then (some false) else (if t389 = t387 then ((laws_toReCellS.f kj36 l0).bind fun t390 => ((impl_BuildNfa.f kj36 t390).bind fun bt393 => ((laws_eqNfa.f kj36 bt393.1 bt393.2.1 bt393.2.2.1 bt393.2.2.2.1 t360 t361 t362 t363).bind fun t401 => (if t401 = true then (laws_FnExactBuildNfa.j2 kj36 t387 (bt393.2.2.2.2 != t366) t371 t372 t373 t388) else (laws_FnExactBuildNfa.j2 kj36 t387 true t371 t372 t373 t388))))) else (some false))) = some r := H
                  have A55 := Aside0.mk A550
                  clear A550
                  by_cases c56 : t389 < 0
                  · rw [if_pos c56] at H
                    have c56b0 : decide (t389 < 0) = true := decide_eq_true c56
                    clear c56
                    obtain rfl := Option.some.inj H
                    cases hT
                  · rw [if_neg c56] at H
                    have c56b0 : decide (t389 < 0) = false := decide_eq_false c56
                    clear c56
                    by_cases c57 : t389 = t387
                    · rw [if_pos c57] at H
                      have c57b0 : (t389 == t387) = true := beq_iff_eq.mpr c57
                      have c57b1 : (t389 != t387) = false := bne_eq_false_iff_eq.mpr c57
                      clear c57
                      replace H := Option.bind_eq_some_iff.mp H
                      obtain ⟨t390, A580, H⟩ := H
                      replace H : ((impl_BuildNfa.f kj36 t390).bind fun bt393 => ((laws_eqNfa.f kj36 bt393.1 bt393.2.1 bt393.2.2.1 bt393.2.2.2.1 t360 t361 t362 t363).bind fun t401 => (if t401 = true then (laws_FnExactBuildNfa.j2 kj36 t387 (bt393.2.2.2.2 != t366) t371 t372 t373 t388) else (laws_FnExactBuildNfa.j2 kj36 t387 true t371 t372 t373 t388)))) = some r := H
                      have A58 := Aside0.mk A580
                      clear A580
                      replace H := Option.bind_eq_some_iff.mp H
                      obtain ⟨⟨t393, t394, t395, t396, t399⟩, A590, H⟩ := H
                      replace H : ((laws_eqNfa.f kj36 t393 t394 t395 t396 t360 t361 t362 t363).bind fun t401 => (if t401 = true then (laws_FnExactBuildNfa.j2 kj36 t387 (t399 != t366) t371 t372 t373 t388) else (laws_FnExactBuildNfa.j2 kj36 t387 true t371 t372 t373 t388))) = some r := H
                      have A59 := Aside0.mk A590
                      clear A590
                      have HC60 := Aside0.mk H
                      clear H
                      have hnb61 := NB378_367.out
                      have hnc61 := NB367_378.out
                      have hcz62_0 : wc.cell? ⟨gb378, 0, none⟩ = some (.int .i64 t371) := (blk_cell BK378.out 0).trans rfl
                      have hcz62_1 : wc.cell? ⟨gb378, 1, none⟩ = some (.int .i64 t372) := (blk_cell BK378.out 1).trans rfl
                      have hcz62_2 : wc.cell? ⟨gb378, 2, none⟩ = some (.int .i64 t373) := (blk_cell BK378.out 2).trans rfl
                      have hcz62_3 : wc.cell? ⟨gb378, 3, none⟩ = some (.slice Ao21 t374.length co21) := (blk_cell BK378.out 3).trans rfl
                      have hfz62_0 := blk_frozen BK378.out 0
                      have hfz62_1 := blk_frozen BK378.out 1
                      have hfz62_2 := blk_frozen BK378.out 2
                      have hfz62_3 := blk_frozen BK378.out 3
                      go_upto_region 25 with (first | ((with_reducible refine gate_callee (f := 60) rfl ?_); refine goesL_ (some 64) rfl rfl Try.func60 (by kernel_rfl) rfl #[.agg #[.int .i64 t371, .int .i64 t372, .int .i64 t373, .slice Ao21 t374.length co21], .int .i64 1] rfl (by (try simp only [List.map_toArray, List.map_cons, List.map_nil]); first | done | rfl | (simp only [List.length_drop, List.length_take]; rfl)) ?_; (with_reducible refine (laws_markNfa.calls kj36 t371 t372 t373 (fun k_ => some k_ = (.slice Ao21 t374.length co21 : Value).ownBlock) (.slice Ao21 t374.length co21) t374 1 t387 t388 w _ ?side1 ?side2 A54.out).mono ?_); (case side1 => repeat (first | (with_reducible first | exact HB.out | apply below_alloc | apply pw_below_drewN | apply below_drew1 | refine below_set ?_ GE367.out | refine below_set ?_ GE378.out) | exact HB.out)); (case side2 => exact Kd.R_tight rfl HO_379003.out); rintro e w63 ⟨rfl, hy0, hb, hkp⟩; refine ⟨_, rfl, ?_⟩; have n0_ := Aside0.mk (Kd.R_mono (ok' := fun k_ => some k_ ≠ (.slice Ao21 t374.length co21 : Value).ownBlock) (Kd.R_keptB (HO_368003.out) hkp (fun k_ hk_ hs_ => (hk_) hs_)) (fun k_ hk_ => hk_.1)); have n1_ := Aside0.mk (Kd.R_reok rfl hy0 (fun k_ e_ => HO_379003.out.1 k_ e_)); have n2_ := Aside0.mk (blk_kept (by (with_reducible repeat (first | refine blk_drewN ?_ _ | refine blk_drew ?_ | refine blk_alloc ?_ _)); exact BK367.out) hkp (fun hs_ => (fun e_ => (Kd.R_ne HO_379003.out BK367.out (by decide)) e_) hs_)); have n3_ := Aside0.mk (blk_kept (by (with_reducible repeat (first | refine blk_drewN ?_ _ | refine blk_drew ?_ | refine blk_alloc ?_ _)); exact BK378.out) hkp (fun hs_ => (fun e_ => (Kd.R_ne HO_379003.out BK378.out (by decide)) e_) hs_)); have n4_ := Aside0.mk (hb); clear HO_368003; clear HO_379003; clear BK367; clear BK378; clear HB; have HO_368003 := n0_; have HO_379003 := n1_; have BK367 := n2_; have BK378 := n3_; have HB := n4_; clear n0_ n1_ n2_ n3_ n4_; (try clear hb); (try clear hkp); (try clear hy0); have hcz64_0 : w63.cell? ⟨gb378, 0, none⟩ = some (.int .i64 t371) := (blk_cell BK378.out 0).trans rfl; have hcz64_1 : w63.cell? ⟨gb378, 1, none⟩ = some (.int .i64 t372) := (blk_cell BK378.out 1).trans rfl; have hcz64_2 : w63.cell? ⟨gb378, 2, none⟩ = some (.int .i64 t373) := (blk_cell BK378.out 2).trans rfl; have hcz64_3 : w63.cell? ⟨gb378, 3, none⟩ = some (.slice Ao21 t374.length co21) := (blk_cell BK378.out 3).trans rfl; have hfz64_0 := blk_frozen BK378.out 0; have hfz64_1 := blk_frozen BK378.out 1; have hfz64_2 := blk_frozen BK378.out 2; have hfz64_3 := blk_frozen BK378.out 3) | ((with_reducible refine gate_callee (f := 61) rfl ?_); refine goesL_ (some 67) rfl rfl Try.func61 (by kernel_rfl) rfl #[.agg #[.int .i64 t371, .int .i64 t372, .int .i64 t373, .slice Ao21 t388.length co21], .int .i64 1] rfl (by (try simp only [List.map_toArray, List.map_cons, List.map_nil]); first | done | (rw [show t388.length = t374.length from (Kd.R_reads' HO_379003.out).1.symm] <;> rfl) | rfl | (simp only [List.length_drop, List.length_take]; rfl)) ?_; (with_reducible refine (laws_heldNfa.calls kj36 t371 t372 t373 _ _ t388 1 t389 _ ?side1 ?side2 A55.out).mono ?_); (case side1 => repeat (first | exact (Kd.R_reads' HO_379003.out).2.2 | (with_reducible refine Kd.C_alloc ?_ _) | (with_reducible refine Kd.C_drewN ?_ _) | (with_reducible refine Kd.C_drew ?_))); (case side2 => rw [show t388.length = t374.length from (Kd.R_reads' HO_379003.out).1.symm]; exact (Kd.R_reads' HO_379003.out).2.1); rintro e w65 ⟨rfl, hb⟩; refine ⟨_, rfl, ?_⟩; have n0_ := Aside0.mk (Kd.R_below (by (with_reducible repeat (first | apply Kd.R_alloc | apply Kd.R_drewN | apply Kd.R_drew)); exact HO_368003.out) hb); have n1_ := Aside0.mk (Kd.R_below (by (with_reducible repeat (first | apply Kd.R_alloc | apply Kd.R_drewN | apply Kd.R_drew)); exact HO_379003.out) hb); have n2_ := Aside0.mk (blk_below (g := gb367) (o := .cells #[.int .i64 t360, .int .i64 t361, .int .i64 t362, .slice Ao14 t363.length co14] 60 (0, 0)) (by (with_reducible repeat (first | refine blk_drewN ?_ _ | refine blk_drew ?_ | refine blk_alloc ?_ _)); exact BK367.out) hb); have n3_ := Aside0.mk (blk_below (g := gb378) (o := .cells #[.int .i64 t371, .int .i64 t372, .int .i64 t373, .slice Ao21 t374.length co21] 60 (0, 0)) (by (with_reducible repeat (first | refine blk_drewN ?_ _ | refine blk_drew ?_ | refine blk_alloc ?_ _)); exact BK378.out) hb); have n4_ := Aside0.mk (below_step (by repeat (first | (with_reducible first | exact HB.out | apply below_alloc | apply pw_below_drewN | apply below_drew1 | refine below_set ?_ GE367.out | refine below_set ?_ GE378.out) | exact HB.out)) hb); clear HO_368003; clear HO_379003; clear BK367; clear BK378; clear HB; have HO_368003 := n0_; have HO_379003 := n1_; have BK367 := n2_; have BK378 := n3_; have HB := n4_; clear n0_ n1_ n2_ n3_ n4_; (try clear hb); (try clear hb2); (try clear hk); (try clear hi)) | ((with_reducible refine gate_callee (f := 45) rfl ?_); refine goesL_ (some 75) rfl rfl Try.func45 (by kernel_rfl) rfl #[.slice A0 l0.length c0] rfl (by (try simp only [List.map_toArray, List.map_cons, List.map_nil]); first | done | rfl | (simp only [List.length_drop, List.length_take]; rfl)) ?_; (with_reducible refine (laws_toReCellS.calls kj36 _ _ l0 t390 _ ?side1 ?side2 A58.out).mono ?_); (case side1 => repeat (first | exact (Kd.C_below HR0.out HB.out) | (with_reducible refine Kd.C_alloc ?_ _) | (with_reducible refine Kd.C_drewN ?_ _) | (with_reducible refine Kd.C_drew ?_))); (case side2 => exact HC0.out); rintro e w66 ⟨v391, rfl, ho0, hb⟩; refine ⟨_, rfl, ?_⟩; have n0_ := Aside0.mk (Kd.R_below (by (with_reducible repeat (first | apply Kd.R_alloc | apply Kd.R_drewN | apply Kd.R_drew)); exact HO_368003.out) hb); have n1_ := Aside0.mk (Kd.R_below (by (with_reducible repeat (first | apply Kd.R_alloc | apply Kd.R_drewN | apply Kd.R_drew)); exact HO_379003.out) hb); have n2_ := Aside0.mk (Kd.R_lower ho0 (below_size (by repeat (first | (with_reducible first | exact HB.out | apply below_alloc | apply pw_below_drewN | apply below_drew1 | refine below_set ?_ GE367.out | refine below_set ?_ GE378.out) | exact HB.out)))); have n3_ := Aside0.mk (blk_below (g := gb367) (o := .cells #[.int .i64 t360, .int .i64 t361, .int .i64 t362, .slice Ao14 t363.length co14] 60 (0, 0)) (by (with_reducible repeat (first | refine blk_drewN ?_ _ | refine blk_drew ?_ | refine blk_alloc ?_ _)); exact BK367.out) hb); have n4_ := Aside0.mk (blk_below (g := gb378) (o := .cells #[.int .i64 t371, .int .i64 t372, .int .i64 t373, .slice Ao21 t374.length co21] 60 (0, 0)) (by (with_reducible repeat (first | refine blk_drewN ?_ _ | refine blk_drew ?_ | refine blk_alloc ?_ _)); exact BK378.out) hb); have n5_ := Aside0.mk (below_step (by repeat (first | (with_reducible first | exact HB.out | apply below_alloc | apply pw_below_drewN | apply below_drew1 | refine below_set ?_ GE367.out | refine below_set ?_ GE378.out) | exact HB.out)) hb); clear HO_368003; clear HO_379003; clear BK367; clear BK378; clear HB; have HO_368003 := n0_; have HO_379003 := n1_; have HO392 := n2_; have BK367 := n3_; have BK378 := n4_; have HB := n5_; clear n0_ n1_ n2_ n3_ n4_ n5_; (try clear hb); (try clear hb2); (try clear hk); (try clear hi); (try clear ho0); obtain ⟨Ao67, co67, eo67⟩ := Kd.R_slice HO392.out; subst eo67) | ((with_reducible refine gate_callee (f := 59) rfl ?_); refine goesL_ (some 76) rfl rfl Try.func59 (by kernel_rfl) rfl #[.slice Ao67 t390.length co67] rfl (by (try simp only [List.map_toArray, List.map_cons, List.map_nil]); first | done | rfl | (simp only [List.length_drop, List.length_take]; rfl)) ?_; (with_reducible refine (impl_BuildNfa.calls kj36 _ _ t390 t393 t394 t395 t396 t399 _ ?side1 ?side2 A59.out).mono ?_); (case side1 => repeat (first | exact (Kd.R_reads' HO392.out).2.2 | (with_reducible refine Kd.C_alloc ?_ _) | (with_reducible refine Kd.C_drewN ?_ _) | (with_reducible refine Kd.C_drew ?_))); (case side2 => exact (Kd.R_reads' HO392.out).2.1); rintro e w68 ⟨v397, rfl, ho0, hb⟩; refine ⟨_, rfl, ?_⟩; have n0_ := Aside0.mk (Kd.R_elder' (by (with_reducible repeat (first | apply Kd.R_alloc | apply Kd.R_drewN | apply Kd.R_drew)); exact HO_368003.out) (Kd.R_base ho0) hb); have n1_ := Aside0.mk (Kd.R_elder' (by (with_reducible repeat (first | apply Kd.R_alloc | apply Kd.R_drewN | apply Kd.R_drew)); exact HO_379003.out) (Kd.R_base ho0) hb); have n2_ := Aside0.mk (Kd.R_below (by (with_reducible repeat (first | apply Kd.R_alloc | apply Kd.R_drewN | apply Kd.R_drew)); exact HO392.out) hb); have n3_ := Aside0.mk (Kd.R_lower (Kd.R_new' (Kd.R_new' ho0 (Kd.R_lt (by (with_reducible repeat (first | apply Kd.R_alloc | apply Kd.R_drewN | apply Kd.R_drew)); exact HO_368003.out))) (Kd.R_lt (by (with_reducible repeat (first | apply Kd.R_alloc | apply Kd.R_drewN | apply Kd.R_drew)); exact HO_379003.out))) (below_size (by repeat (first | (with_reducible first | exact HB.out | apply below_alloc | apply pw_below_drewN | apply below_drew1 | refine below_set ?_ GE367.out | refine below_set ?_ GE378.out) | exact HB.out)))); have n4_ := Aside0.mk (blk_below (g := gb367) (o := .cells #[.int .i64 t360, .int .i64 t361, .int .i64 t362, .slice Ao14 t363.length co14] 60 (0, 0)) (by (with_reducible repeat (first | refine blk_drewN ?_ _ | refine blk_drew ?_ | refine blk_alloc ?_ _)); exact BK367.out) hb); have n5_ := Aside0.mk (blk_below (g := gb378) (o := .cells #[.int .i64 t371, .int .i64 t372, .int .i64 t373, .slice Ao21 t374.length co21] 60 (0, 0)) (by (with_reducible repeat (first | refine blk_drewN ?_ _ | refine blk_drew ?_ | refine blk_alloc ?_ _)); exact BK378.out) hb); have n6_ := Aside0.mk (below_step (by repeat (first | (with_reducible first | exact HB.out | apply below_alloc | apply pw_below_drewN | apply below_drew1 | refine below_set ?_ GE367.out | refine below_set ?_ GE378.out) | exact HB.out)) hb); clear HO_368003; clear HO_379003; clear HO392; clear BK367; clear BK378; clear HB; have HO_368003 := n0_; have HO_379003 := n1_; have HO392 := n2_; have HO398 := n3_; have BK367 := n4_; have BK378 := n5_; have HB := n6_; clear n0_ n1_ n2_ n3_ n4_ n5_ n6_; (try clear hb); (try clear hb2); (try clear hk); (try clear hi); (try clear ho0)) | ((with_reducible refine gate_dst (N := 12) rfl ?_); refine box_event ?hg (N := 12) ?hd (cs := #[.int .i64 0, .int .i64 0, .int .i64 0, .slice none 0 0]) (t := 60) ?hr ?_; (case hd => rfl); (case hg => rfl); (case hr => first | (go_simp; done) | (go_simp; rfl)); intro gb400 hg w69 hbox hb; have n0_ := Aside0.mk (Kd.R_below (by (with_reducible repeat (first | apply Kd.R_alloc | apply Kd.R_drewN | apply Kd.R_drew)); exact HO_368003.out) hb); have n1_ := Aside0.mk (Kd.R_below (by (with_reducible repeat (first | apply Kd.R_alloc | apply Kd.R_drewN | apply Kd.R_drew)); exact HO_379003.out) hb); have n2_ := Aside0.mk (Kd.R_below (by (with_reducible repeat (first | apply Kd.R_alloc | apply Kd.R_drewN | apply Kd.R_drew)); exact HO392.out) hb); have n3_ := Aside0.mk (Kd.R_below (by (with_reducible repeat (first | apply Kd.R_alloc | apply Kd.R_drewN | apply Kd.R_drew)); exact HO398.out) hb); have n4_ := Aside0.mk (blk_below (g := gb367) (o := .cells #[.int .i64 t360, .int .i64 t361, .int .i64 t362, .slice Ao14 t363.length co14] 60 (0, 0)) (by (with_reducible repeat (first | refine blk_drewN ?_ _ | refine blk_drew ?_ | refine blk_alloc ?_ _)); exact BK367.out) hb); have n5_ := Aside0.mk (blk_below (g := gb378) (o := .cells #[.int .i64 t371, .int .i64 t372, .int .i64 t373, .slice Ao21 t374.length co21] 60 (0, 0)) (by (with_reducible repeat (first | refine blk_drewN ?_ _ | refine blk_drew ?_ | refine blk_alloc ?_ _)); exact BK378.out) hb); have n6_ := Aside0.mk (below_step (by repeat (first | (with_reducible first | exact HB.out | apply below_alloc | apply pw_below_drewN | apply below_drew1 | refine below_set ?_ GE367.out | refine below_set ?_ GE378.out) | exact HB.out)) hb); have n7_ := Aside0.mk (hbox); have n8_ := Aside0.mk ((by rw [hg]; exact (below_size (by repeat (first | (with_reducible first | exact HB.out | apply below_alloc | apply pw_below_drewN | apply below_drew1 | refine below_set ?_ GE367.out | refine below_set ?_ GE378.out) | exact HB.out))) : w.heap.size ≤ gb400)); have n9_ := Aside0.mk ((by rw [hg]; exact (below_size (by repeat (first | (with_reducible first | exact HB.out | apply below_alloc | apply pw_below_drewN | apply below_drew1 | refine below_set ?_ GE367.out | refine below_set ?_ GE378.out) | exact HB.out))) : w.heap.size ≤ gb400)); have n10_ := Aside0.mk ((by rw [hg]; exact Nat.ne_of_lt (blk_lt (g := gb367) (o := .cells #[.int .i64 t360, .int .i64 t361, .int .i64 t362, .slice Ao14 t363.length co14] 60 (0, 0)) (by (with_reducible repeat (first | refine blk_drewN ?_ _ | refine blk_drew ?_ | refine blk_alloc ?_ _)); exact BK367.out)) : gb367 ≠ gb400)); have n11_ := Aside0.mk ((by rw [hg]; exact Nat.ne_of_gt (blk_lt (g := gb367) (o := .cells #[.int .i64 t360, .int .i64 t361, .int .i64 t362, .slice Ao14 t363.length co14] 60 (0, 0)) (by (with_reducible repeat (first | refine blk_drewN ?_ _ | refine blk_drew ?_ | refine blk_alloc ?_ _)); exact BK367.out)) : gb400 ≠ gb367)); have n12_ := Aside0.mk ((by rw [hg]; exact Nat.ne_of_lt (blk_lt (g := gb378) (o := .cells #[.int .i64 t371, .int .i64 t372, .int .i64 t373, .slice Ao21 t374.length co21] 60 (0, 0)) (by (with_reducible repeat (first | refine blk_drewN ?_ _ | refine blk_drew ?_ | refine blk_alloc ?_ _)); exact BK378.out)) : gb378 ≠ gb400)); have n13_ := Aside0.mk ((by rw [hg]; exact Nat.ne_of_gt (blk_lt (g := gb378) (o := .cells #[.int .i64 t371, .int .i64 t372, .int .i64 t373, .slice Ao21 t374.length co21] 60 (0, 0)) (by (with_reducible repeat (first | refine blk_drewN ?_ _ | refine blk_drew ?_ | refine blk_alloc ?_ _)); exact BK378.out)) : gb400 ≠ gb378)); clear HO_368003; clear HO_379003; clear HO392; clear HO398; clear BK367; clear BK378; clear HB; have HO_368003 := n0_; have HO_379003 := n1_; have HO392 := n2_; have HO398 := n3_; have BK367 := n4_; have BK378 := n5_; have HB := n6_; have BK400 := n7_; have GW400 := n8_; have GE400 := n9_; have NB367_400 := n10_; have NB400_367 := n11_; have NB378_400 := n12_; have NB400_378 := n13_; clear n0_ n1_ n2_ n3_ n4_ n5_ n6_ n7_ n8_ n9_ n10_ n11_ n12_ n13_; clear hb hbox hg; have hnb70 := NB400_367.out; have hnc70 := NB367_400.out; have hnb71 := NB400_378.out; have hnc71 := NB378_400.out; have hcz72_0 : w69.cell? ⟨gb400, 0, none⟩ = some (.int .i64 0) := (blk_cell BK400.out 0).trans rfl; have hcz72_1 : w69.cell? ⟨gb400, 1, none⟩ = some (.int .i64 0) := (blk_cell BK400.out 1).trans rfl; have hcz72_2 : w69.cell? ⟨gb400, 2, none⟩ = some (.int .i64 0) := (blk_cell BK400.out 2).trans rfl; have hcz72_3 : w69.cell? ⟨gb400, 3, none⟩ = some (.slice none 0 0) := (blk_cell BK400.out 3).trans rfl; have hfz72_0 := blk_frozen BK400.out 0; have hfz72_1 := blk_frozen BK400.out 1; have hfz72_2 := blk_frozen BK400.out 2; have hfz72_3 := blk_frozen BK400.out 3; obtain ⟨Ao73, co73, eo73⟩ := Kd.R_slice HO398.out; subst eo73))
                      (try simp only [Act.put, List.setIfInBounds_toArray, List.set_cons_zero, List.set_cons_succ])
                      go_cut [87] (fun v87 wc => ∃ (kq : Nat) (x87_59 : Bool), v87 = .bool x87_59 ∧ Aside0 (laws_FnExactBuildNfa.j2 kq t387 x87_59 t371 t372 t373 t388 = some r) ∧ Aside0 (kq ≤ kj36) ∧ Aside0 (Kd.R k97 97 wc w.heap.size (fun k_ => some k_ ≠ ((.slice Ao21 t374.length co21) : Value).ownBlock ∧ some k_ ≠ ((.slice Ao73 t396.length co73) : Value).ownBlock) (.slice Ao14 t363.length co14) t363) ∧ Aside0 (Kd.R k97 97 wc w.heap.size (fun k_ => some k_ ≠ ((.slice Ao14 t363.length co14) : Value).ownBlock ∧ some k_ ≠ ((.slice Ao73 t396.length co73) : Value).ownBlock) (.slice Ao21 t374.length co21) t388) ∧ Aside0 (Kd.R k97 97 wc w.heap.size (fun k_ => some k_ ≠ ((.slice Ao14 t363.length co14) : Value).ownBlock ∧ some k_ ≠ ((.slice Ao21 t374.length co21) : Value).ownBlock) (.slice Ao73 t396.length co73) t396) ∧ Aside0 (wc.heap[gb367]? = some (.cells #[.int .i64 t360, .int .i64 t361, .int .i64 t362, (.slice Ao14 t363.length co14)] 60 (0, 0))) ∧ Aside0 (wc.heap[gb378]? = some (.cells #[.int .i64 t371, .int .i64 t372, .int .i64 t373, (.slice Ao21 t374.length co21)] 60 (0, 0))) ∧ Aside0 (wc.heap[gb400]? = some (.cells #[.int .i64 t393, .int .i64 t394, .int .i64 t395, (.slice Ao73 t396.length co73)] 60 (0, 0))) ∧ Aside0 (Below w.heap.size w wc))
                      case first =>
                        have H := HC60.out
                        clear HC60
                        replace H := Option.bind_eq_some_iff.mp H
                        obtain ⟨t401, A740, H⟩ := H
                        replace H : (if t401 = true then (laws_FnExactBuildNfa.j2 kj36 t387 (t399 != t366) t371 t372 t373 t388) else (laws_FnExactBuildNfa.j2 kj36 t387 true t371 t372 t373 t388)) = some r := H
                        have A74 := Aside0.mk A740
                        clear A740
                        by_cases c75 : t401 = true
                        · subst c75
                          have H1 : (laws_FnExactBuildNfa.j2 kj36 t387 (t399 != t366) t371 t372 t373 t388) = some r := by rw [if_pos rfl] at H; exact H
                          clear H
                          have H := H1
                          clear H1
                          have H' := Aside0.mk H
                          clear H
                          have hnb76 := NB400_367.out
                          have hnc76 := NB367_400.out
                          have hnb77 := NB400_378.out
                          have hnc77 := NB378_400.out
                          have hcz78_0 : w69.cell? ⟨gb400, 0, none⟩ = some (.int .i64 0) := (blk_cell BK400.out 0).trans rfl
                          have hcz78_1 : w69.cell? ⟨gb400, 1, none⟩ = some (.int .i64 0) := (blk_cell BK400.out 1).trans rfl
                          have hcz78_2 : w69.cell? ⟨gb400, 2, none⟩ = some (.int .i64 0) := (blk_cell BK400.out 2).trans rfl
                          have hcz78_3 : w69.cell? ⟨gb400, 3, none⟩ = some (.slice none 0 0) := (blk_cell BK400.out 3).trans rfl
                          have hfz78_0 := blk_frozen BK400.out 0
                          have hfz78_1 := blk_frozen BK400.out 1
                          have hfz78_2 := blk_frozen BK400.out 2
                          have hfz78_3 := blk_frozen BK400.out 3
                          have hnb79 := NB367_378.out
                          have hnc79 := NB378_367.out
                          have hcz80_0 : w69.cell? ⟨gb367, 0, none⟩ = some (.int .i64 t360) := (blk_cell BK367.out 0).trans rfl
                          have hcz80_1 : w69.cell? ⟨gb367, 1, none⟩ = some (.int .i64 t361) := (blk_cell BK367.out 1).trans rfl
                          have hcz80_2 : w69.cell? ⟨gb367, 2, none⟩ = some (.int .i64 t362) := (blk_cell BK367.out 2).trans rfl
                          have hcz80_3 : w69.cell? ⟨gb367, 3, none⟩ = some (.slice Ao14 t363.length co14) := (blk_cell BK367.out 3).trans rfl
                          have hfz80_0 := blk_frozen BK367.out 0
                          have hfz80_1 := blk_frozen BK367.out 1
                          have hfz80_2 := blk_frozen BK367.out 2
                          have hfz80_3 := blk_frozen BK367.out 3
                          go_wp2_with (first | ((with_reducible refine gate_callee (f := 42) rfl ?_); refine goesL_ (some 81) rfl rfl Try.func42 (by kernel_rfl) rfl #[.agg #[.int .i64 t393, .int .i64 t394, .int .i64 t395, .slice Ao73 t396.length co73], .agg #[.int .i64 t360, .int .i64 t361, .int .i64 t362, .slice Ao14 t363.length co14]] rfl (by (try simp only [List.map_toArray, List.map_cons, List.map_nil]); first | done | rfl | (simp only [List.length_drop, List.length_take]; rfl)) ?_; (with_reducible refine (laws_eqNfa.calls kj36 t393 t394 t395 _ _ t396 t360 t361 t362 _ _ t363 true _ ?side1 ?side2 ?side3 ?side4 A74.out).mono ?_); (case side1 => refine (Kd.R_reads' (e := 97) (base := w.heap.size) (ok := fun k_ => ((True ∧ some k_ ≠ (.slice Ao14 t363.length co14 : Value).ownBlock) ∧ some k_ ≠ (.slice Ao21 t374.length co21 : Value).ownBlock)) (n := t396.length) (c := co73) ?_).2.2; exact (by (with_reducible repeat (first | apply Kd.R_alloc | apply Kd.R_drewN | apply Kd.R_drew)); exact (Kd.R_mono (Kd.R_far (p := ⟨gb400, 3, none⟩) (Kd.R_far (p := ⟨gb400, 2, none⟩) (Kd.R_far (p := ⟨gb400, 1, none⟩) (Kd.R_far (p := ⟨gb400, 0, none⟩) (Kd.R_types HO398.out BK400.out (by decide)) (fun _ hk => hk.2) (.int .i64 t393)) (fun _ hk => hk.2) (.int .i64 t394)) (fun _ hk => hk.2) (.int .i64 t395)) (fun _ hk => hk.2) (.slice Ao73 t396.length co73)) (fun _ h_ => h_.1)))); (case side2 => exact (Kd.R_reads' HO398.out).2.1); (case side3 => refine (Kd.R_reads' (e := 97) (base := w.heap.size) (ok := fun k_ => (some k_ ≠ (.slice Ao21 t374.length co21 : Value).ownBlock ∧ some k_ ≠ (.slice Ao73 t396.length co73 : Value).ownBlock)) (n := t363.length) (c := co14) ?_).2.2; exact (by (with_reducible repeat (first | apply Kd.R_alloc | apply Kd.R_drewN | apply Kd.R_drew)); exact (Kd.R_mono (Kd.R_far (p := ⟨gb400, 3, none⟩) (Kd.R_far (p := ⟨gb400, 2, none⟩) (Kd.R_far (p := ⟨gb400, 1, none⟩) (Kd.R_far (p := ⟨gb400, 0, none⟩) (Kd.R_types HO_368003.out BK400.out (by decide)) (fun _ hk => hk.2) (.int .i64 t393)) (fun _ hk => hk.2) (.int .i64 t394)) (fun _ hk => hk.2) (.int .i64 t395)) (fun _ hk => hk.2) (.slice Ao73 t396.length co73)) (fun _ h_ => h_.1)))); (case side4 => exact (Kd.R_reads' HO_368003.out).2.1); rintro e w81 ⟨rfl, hb⟩; refine ⟨_, rfl, ?_⟩; have n0_ := Aside0.mk (Kd.R_below (by (with_reducible repeat (first | apply Kd.R_alloc | apply Kd.R_drewN | apply Kd.R_drew)); exact (Kd.R_mono (Kd.R_far (p := ⟨gb400, 3, none⟩) (Kd.R_far (p := ⟨gb400, 2, none⟩) (Kd.R_far (p := ⟨gb400, 1, none⟩) (Kd.R_far (p := ⟨gb400, 0, none⟩) (Kd.R_types HO_368003.out BK400.out (by decide)) (fun _ hk => hk.2) (.int .i64 t393)) (fun _ hk => hk.2) (.int .i64 t394)) (fun _ hk => hk.2) (.int .i64 t395)) (fun _ hk => hk.2) (.slice Ao73 t396.length co73)) (fun _ h_ => h_.1))) hb); have n1_ := Aside0.mk (Kd.R_below (by (with_reducible repeat (first | apply Kd.R_alloc | apply Kd.R_drewN | apply Kd.R_drew)); exact (Kd.R_mono (Kd.R_far (p := ⟨gb400, 3, none⟩) (Kd.R_far (p := ⟨gb400, 2, none⟩) (Kd.R_far (p := ⟨gb400, 1, none⟩) (Kd.R_far (p := ⟨gb400, 0, none⟩) (Kd.R_types HO_379003.out BK400.out (by decide)) (fun _ hk => hk.2) (.int .i64 t393)) (fun _ hk => hk.2) (.int .i64 t394)) (fun _ hk => hk.2) (.int .i64 t395)) (fun _ hk => hk.2) (.slice Ao73 t396.length co73)) (fun _ h_ => h_.1))) hb); have n2_ := Aside0.mk (Kd.R_below (by (with_reducible repeat (first | apply Kd.R_alloc | apply Kd.R_drewN | apply Kd.R_drew)); exact (Kd.R_mono (Kd.R_far (p := ⟨gb400, 3, none⟩) (Kd.R_far (p := ⟨gb400, 2, none⟩) (Kd.R_far (p := ⟨gb400, 1, none⟩) (Kd.R_far (p := ⟨gb400, 0, none⟩) (Kd.R_types HO392.out BK400.out (by decide)) (fun _ hk => hk.2) (.int .i64 t393)) (fun _ hk => hk.2) (.int .i64 t394)) (fun _ hk => hk.2) (.int .i64 t395)) (fun _ hk => hk.2) (.slice Ao73 t396.length co73)) (fun _ h_ => h_.1))) hb); have n3_ := Aside0.mk (Kd.R_below (by (with_reducible repeat (first | apply Kd.R_alloc | apply Kd.R_drewN | apply Kd.R_drew)); exact (Kd.R_mono (Kd.R_far (p := ⟨gb400, 3, none⟩) (Kd.R_far (p := ⟨gb400, 2, none⟩) (Kd.R_far (p := ⟨gb400, 1, none⟩) (Kd.R_far (p := ⟨gb400, 0, none⟩) (Kd.R_types HO398.out BK400.out (by decide)) (fun _ hk => hk.2) (.int .i64 t393)) (fun _ hk => hk.2) (.int .i64 t394)) (fun _ hk => hk.2) (.int .i64 t395)) (fun _ hk => hk.2) (.slice Ao73 t396.length co73)) (fun _ h_ => h_.1))) hb); have n4_ := Aside0.mk (blk_below (g := gb367) (o := .cells #[.int .i64 t360, .int .i64 t361, .int .i64 t362, .slice Ao14 t363.length co14] 60 (0, 0)) (by (with_reducible repeat (first | refine blk_drewN ?_ _ | refine blk_drew ?_ | refine blk_alloc ?_ _)); refine blk_far ?_ NB367_400.out _; (with_reducible repeat (first | refine blk_drewN ?_ _ | refine blk_drew ?_ | refine blk_alloc ?_ _)); refine blk_far ?_ NB367_400.out _; (with_reducible repeat (first | refine blk_drewN ?_ _ | refine blk_drew ?_ | refine blk_alloc ?_ _)); refine blk_far ?_ NB367_400.out _; (with_reducible repeat (first | refine blk_drewN ?_ _ | refine blk_drew ?_ | refine blk_alloc ?_ _)); refine blk_far ?_ NB367_400.out _; (with_reducible repeat (first | refine blk_drewN ?_ _ | refine blk_drew ?_ | refine blk_alloc ?_ _)); exact BK367.out) hb); have n5_ := Aside0.mk (blk_below (g := gb378) (o := .cells #[.int .i64 t371, .int .i64 t372, .int .i64 t373, .slice Ao21 t374.length co21] 60 (0, 0)) (by (with_reducible repeat (first | refine blk_drewN ?_ _ | refine blk_drew ?_ | refine blk_alloc ?_ _)); refine blk_far ?_ NB378_400.out _; (with_reducible repeat (first | refine blk_drewN ?_ _ | refine blk_drew ?_ | refine blk_alloc ?_ _)); refine blk_far ?_ NB378_400.out _; (with_reducible repeat (first | refine blk_drewN ?_ _ | refine blk_drew ?_ | refine blk_alloc ?_ _)); refine blk_far ?_ NB378_400.out _; (with_reducible repeat (first | refine blk_drewN ?_ _ | refine blk_drew ?_ | refine blk_alloc ?_ _)); refine blk_far ?_ NB378_400.out _; (with_reducible repeat (first | refine blk_drewN ?_ _ | refine blk_drew ?_ | refine blk_alloc ?_ _)); exact BK378.out) hb); have n6_ := Aside0.mk (blk_below (g := gb400) (o := .cells #[.int .i64 t393, .int .i64 t394, .int .i64 t395, .slice Ao73 t396.length co73] 60 (0, 0)) (by (with_reducible repeat (first | refine blk_drewN ?_ _ | refine blk_drew ?_ | refine blk_alloc ?_ _)); refine blk_put (cs := #[.int .i64 t393, .int .i64 t394, .int .i64 t395, .slice none 0 0]) ?_ 3 _ rfl; (with_reducible repeat (first | refine blk_drewN ?_ _ | refine blk_drew ?_ | refine blk_alloc ?_ _)); refine blk_put (cs := #[.int .i64 t393, .int .i64 t394, .int .i64 0, .slice none 0 0]) ?_ 2 _ rfl; (with_reducible repeat (first | refine blk_drewN ?_ _ | refine blk_drew ?_ | refine blk_alloc ?_ _)); refine blk_put (cs := #[.int .i64 t393, .int .i64 0, .int .i64 0, .slice none 0 0]) ?_ 1 _ rfl; (with_reducible repeat (first | refine blk_drewN ?_ _ | refine blk_drew ?_ | refine blk_alloc ?_ _)); refine blk_put (cs := #[.int .i64 0, .int .i64 0, .int .i64 0, .slice none 0 0]) ?_ 0 _ rfl; (with_reducible repeat (first | refine blk_drewN ?_ _ | refine blk_drew ?_ | refine blk_alloc ?_ _)); exact BK400.out) hb); have n7_ := Aside0.mk (below_step (by repeat (first | (with_reducible first | exact HB.out | apply below_alloc | apply pw_below_drewN | apply below_drew1 | refine below_set ?_ GE367.out | refine below_set ?_ GE378.out | refine below_set ?_ GE400.out) | exact HB.out)) hb); clear HO_368003; clear HO_379003; clear HO392; clear HO398; clear BK367; clear BK378; clear BK400; clear HB; have HO_368003 := n0_; have HO_379003 := n1_; have HO392 := n2_; have HO398 := n3_; have BK367 := n4_; have BK378 := n5_; have BK400 := n6_; have HB := n7_; clear n0_ n1_ n2_ n3_ n4_ n5_ n6_ n7_; (try clear hb); (try clear hb2); (try clear hk); (try clear hi)))
                          go_meet
                          case rel => exact ⟨_, ((t399 != t366)), (by first | rfl | (simp; done) | (simp [*]; done)), H', ⟨by have := HJ7.out; have := HJ36.out; first | omega | exact Nat.le_refl _⟩, ⟨by (with_reducible repeat (first | apply Kd.R_alloc | apply Kd.R_drewN | apply Kd.R_drew)); exact HO_368003.out⟩, ⟨by (with_reducible repeat (first | apply Kd.R_alloc | apply Kd.R_drewN | apply Kd.R_drew)); exact HO_379003.out⟩, ⟨by (with_reducible repeat (first | apply Kd.R_alloc | apply Kd.R_drewN | apply Kd.R_drew)); exact Kd.R_mono HO398.out (fun _ hk => ⟨hk.1.2, hk.2⟩)⟩, ⟨by (with_reducible repeat (first | refine blk_drewN ?_ _ | refine blk_drew ?_ | refine blk_alloc ?_ _)); exact BK367.out⟩, ⟨by (with_reducible repeat (first | refine blk_drewN ?_ _ | refine blk_drew ?_ | refine blk_alloc ?_ _)); exact BK378.out⟩, ⟨by (with_reducible repeat (first | refine blk_drewN ?_ _ | refine blk_drew ?_ | refine blk_alloc ?_ _)); exact BK400.out⟩, ⟨by repeat (first | (with_reducible first | exact HB.out | apply below_alloc | apply pw_below_drewN | apply below_drew1 | refine below_set ?_ GE367.out | refine below_set ?_ GE378.out | refine below_set ?_ GE400.out) | exact HB.out)⟩⟩
                        · replace c75 := Bool.eq_false_iff.mpr c75
                          subst c75
                          have H1 : (laws_FnExactBuildNfa.j2 kj36 t387 true t371 t372 t373 t388) = some r := by rw [if_neg (show ¬ (false = true) by decide)] at H; exact H
                          clear H
                          have H := H1
                          clear H1
                          have H' := Aside0.mk H
                          clear H
                          have hnb82 := NB400_367.out
                          have hnc82 := NB367_400.out
                          have hnb83 := NB400_378.out
                          have hnc83 := NB378_400.out
                          have hcz84_0 : w69.cell? ⟨gb400, 0, none⟩ = some (.int .i64 0) := (blk_cell BK400.out 0).trans rfl
                          have hcz84_1 : w69.cell? ⟨gb400, 1, none⟩ = some (.int .i64 0) := (blk_cell BK400.out 1).trans rfl
                          have hcz84_2 : w69.cell? ⟨gb400, 2, none⟩ = some (.int .i64 0) := (blk_cell BK400.out 2).trans rfl
                          have hcz84_3 : w69.cell? ⟨gb400, 3, none⟩ = some (.slice none 0 0) := (blk_cell BK400.out 3).trans rfl
                          have hfz84_0 := blk_frozen BK400.out 0
                          have hfz84_1 := blk_frozen BK400.out 1
                          have hfz84_2 := blk_frozen BK400.out 2
                          have hfz84_3 := blk_frozen BK400.out 3
                          have hnb85 := NB367_378.out
                          have hnc85 := NB378_367.out
                          have hcz86_0 : w69.cell? ⟨gb367, 0, none⟩ = some (.int .i64 t360) := (blk_cell BK367.out 0).trans rfl
                          have hcz86_1 : w69.cell? ⟨gb367, 1, none⟩ = some (.int .i64 t361) := (blk_cell BK367.out 1).trans rfl
                          have hcz86_2 : w69.cell? ⟨gb367, 2, none⟩ = some (.int .i64 t362) := (blk_cell BK367.out 2).trans rfl
                          have hcz86_3 : w69.cell? ⟨gb367, 3, none⟩ = some (.slice Ao14 t363.length co14) := (blk_cell BK367.out 3).trans rfl
                          have hfz86_0 := blk_frozen BK367.out 0
                          have hfz86_1 := blk_frozen BK367.out 1
                          have hfz86_2 := blk_frozen BK367.out 2
                          have hfz86_3 := blk_frozen BK367.out 3
                          go_wp2_with (first | ((with_reducible refine gate_callee (f := 42) rfl ?_); refine goesL_ (some 81) rfl rfl Try.func42 (by kernel_rfl) rfl #[.agg #[.int .i64 t393, .int .i64 t394, .int .i64 t395, .slice Ao73 t396.length co73], .agg #[.int .i64 t360, .int .i64 t361, .int .i64 t362, .slice Ao14 t363.length co14]] rfl (by (try simp only [List.map_toArray, List.map_cons, List.map_nil]); first | done | rfl | (simp only [List.length_drop, List.length_take]; rfl)) ?_; (with_reducible refine (laws_eqNfa.calls kj36 t393 t394 t395 _ _ t396 t360 t361 t362 _ _ t363 false _ ?side1 ?side2 ?side3 ?side4 A74.out).mono ?_); (case side1 => refine (Kd.R_reads' (e := 97) (base := w.heap.size) (ok := fun k_ => ((True ∧ some k_ ≠ (.slice Ao14 t363.length co14 : Value).ownBlock) ∧ some k_ ≠ (.slice Ao21 t374.length co21 : Value).ownBlock)) (n := t396.length) (c := co73) ?_).2.2; exact (by (with_reducible repeat (first | apply Kd.R_alloc | apply Kd.R_drewN | apply Kd.R_drew)); exact (Kd.R_mono (Kd.R_far (p := ⟨gb400, 3, none⟩) (Kd.R_far (p := ⟨gb400, 2, none⟩) (Kd.R_far (p := ⟨gb400, 1, none⟩) (Kd.R_far (p := ⟨gb400, 0, none⟩) (Kd.R_types HO398.out BK400.out (by decide)) (fun _ hk => hk.2) (.int .i64 t393)) (fun _ hk => hk.2) (.int .i64 t394)) (fun _ hk => hk.2) (.int .i64 t395)) (fun _ hk => hk.2) (.slice Ao73 t396.length co73)) (fun _ h_ => h_.1)))); (case side2 => exact (Kd.R_reads' HO398.out).2.1); (case side3 => refine (Kd.R_reads' (e := 97) (base := w.heap.size) (ok := fun k_ => (some k_ ≠ (.slice Ao21 t374.length co21 : Value).ownBlock ∧ some k_ ≠ (.slice Ao73 t396.length co73 : Value).ownBlock)) (n := t363.length) (c := co14) ?_).2.2; exact (by (with_reducible repeat (first | apply Kd.R_alloc | apply Kd.R_drewN | apply Kd.R_drew)); exact (Kd.R_mono (Kd.R_far (p := ⟨gb400, 3, none⟩) (Kd.R_far (p := ⟨gb400, 2, none⟩) (Kd.R_far (p := ⟨gb400, 1, none⟩) (Kd.R_far (p := ⟨gb400, 0, none⟩) (Kd.R_types HO_368003.out BK400.out (by decide)) (fun _ hk => hk.2) (.int .i64 t393)) (fun _ hk => hk.2) (.int .i64 t394)) (fun _ hk => hk.2) (.int .i64 t395)) (fun _ hk => hk.2) (.slice Ao73 t396.length co73)) (fun _ h_ => h_.1)))); (case side4 => exact (Kd.R_reads' HO_368003.out).2.1); rintro e w87 ⟨rfl, hb⟩; refine ⟨_, rfl, ?_⟩; have n0_ := Aside0.mk (Kd.R_below (by (with_reducible repeat (first | apply Kd.R_alloc | apply Kd.R_drewN | apply Kd.R_drew)); exact (Kd.R_mono (Kd.R_far (p := ⟨gb400, 3, none⟩) (Kd.R_far (p := ⟨gb400, 2, none⟩) (Kd.R_far (p := ⟨gb400, 1, none⟩) (Kd.R_far (p := ⟨gb400, 0, none⟩) (Kd.R_types HO_368003.out BK400.out (by decide)) (fun _ hk => hk.2) (.int .i64 t393)) (fun _ hk => hk.2) (.int .i64 t394)) (fun _ hk => hk.2) (.int .i64 t395)) (fun _ hk => hk.2) (.slice Ao73 t396.length co73)) (fun _ h_ => h_.1))) hb); have n1_ := Aside0.mk (Kd.R_below (by (with_reducible repeat (first | apply Kd.R_alloc | apply Kd.R_drewN | apply Kd.R_drew)); exact (Kd.R_mono (Kd.R_far (p := ⟨gb400, 3, none⟩) (Kd.R_far (p := ⟨gb400, 2, none⟩) (Kd.R_far (p := ⟨gb400, 1, none⟩) (Kd.R_far (p := ⟨gb400, 0, none⟩) (Kd.R_types HO_379003.out BK400.out (by decide)) (fun _ hk => hk.2) (.int .i64 t393)) (fun _ hk => hk.2) (.int .i64 t394)) (fun _ hk => hk.2) (.int .i64 t395)) (fun _ hk => hk.2) (.slice Ao73 t396.length co73)) (fun _ h_ => h_.1))) hb); have n2_ := Aside0.mk (Kd.R_below (by (with_reducible repeat (first | apply Kd.R_alloc | apply Kd.R_drewN | apply Kd.R_drew)); exact (Kd.R_mono (Kd.R_far (p := ⟨gb400, 3, none⟩) (Kd.R_far (p := ⟨gb400, 2, none⟩) (Kd.R_far (p := ⟨gb400, 1, none⟩) (Kd.R_far (p := ⟨gb400, 0, none⟩) (Kd.R_types HO392.out BK400.out (by decide)) (fun _ hk => hk.2) (.int .i64 t393)) (fun _ hk => hk.2) (.int .i64 t394)) (fun _ hk => hk.2) (.int .i64 t395)) (fun _ hk => hk.2) (.slice Ao73 t396.length co73)) (fun _ h_ => h_.1))) hb); have n3_ := Aside0.mk (Kd.R_below (by (with_reducible repeat (first | apply Kd.R_alloc | apply Kd.R_drewN | apply Kd.R_drew)); exact (Kd.R_mono (Kd.R_far (p := ⟨gb400, 3, none⟩) (Kd.R_far (p := ⟨gb400, 2, none⟩) (Kd.R_far (p := ⟨gb400, 1, none⟩) (Kd.R_far (p := ⟨gb400, 0, none⟩) (Kd.R_types HO398.out BK400.out (by decide)) (fun _ hk => hk.2) (.int .i64 t393)) (fun _ hk => hk.2) (.int .i64 t394)) (fun _ hk => hk.2) (.int .i64 t395)) (fun _ hk => hk.2) (.slice Ao73 t396.length co73)) (fun _ h_ => h_.1))) hb); have n4_ := Aside0.mk (blk_below (g := gb367) (o := .cells #[.int .i64 t360, .int .i64 t361, .int .i64 t362, .slice Ao14 t363.length co14] 60 (0, 0)) (by (with_reducible repeat (first | refine blk_drewN ?_ _ | refine blk_drew ?_ | refine blk_alloc ?_ _)); refine blk_far ?_ NB367_400.out _; (with_reducible repeat (first | refine blk_drewN ?_ _ | refine blk_drew ?_ | refine blk_alloc ?_ _)); refine blk_far ?_ NB367_400.out _; (with_reducible repeat (first | refine blk_drewN ?_ _ | refine blk_drew ?_ | refine blk_alloc ?_ _)); refine blk_far ?_ NB367_400.out _; (with_reducible repeat (first | refine blk_drewN ?_ _ | refine blk_drew ?_ | refine blk_alloc ?_ _)); refine blk_far ?_ NB367_400.out _; (with_reducible repeat (first | refine blk_drewN ?_ _ | refine blk_drew ?_ | refine blk_alloc ?_ _)); exact BK367.out) hb); have n5_ := Aside0.mk (blk_below (g := gb378) (o := .cells #[.int .i64 t371, .int .i64 t372, .int .i64 t373, .slice Ao21 t374.length co21] 60 (0, 0)) (by (with_reducible repeat (first | refine blk_drewN ?_ _ | refine blk_drew ?_ | refine blk_alloc ?_ _)); refine blk_far ?_ NB378_400.out _; (with_reducible repeat (first | refine blk_drewN ?_ _ | refine blk_drew ?_ | refine blk_alloc ?_ _)); refine blk_far ?_ NB378_400.out _; (with_reducible repeat (first | refine blk_drewN ?_ _ | refine blk_drew ?_ | refine blk_alloc ?_ _)); refine blk_far ?_ NB378_400.out _; (with_reducible repeat (first | refine blk_drewN ?_ _ | refine blk_drew ?_ | refine blk_alloc ?_ _)); refine blk_far ?_ NB378_400.out _; (with_reducible repeat (first | refine blk_drewN ?_ _ | refine blk_drew ?_ | refine blk_alloc ?_ _)); exact BK378.out) hb); have n6_ := Aside0.mk (blk_below (g := gb400) (o := .cells #[.int .i64 t393, .int .i64 t394, .int .i64 t395, .slice Ao73 t396.length co73] 60 (0, 0)) (by (with_reducible repeat (first | refine blk_drewN ?_ _ | refine blk_drew ?_ | refine blk_alloc ?_ _)); refine blk_put (cs := #[.int .i64 t393, .int .i64 t394, .int .i64 t395, .slice none 0 0]) ?_ 3 _ rfl; (with_reducible repeat (first | refine blk_drewN ?_ _ | refine blk_drew ?_ | refine blk_alloc ?_ _)); refine blk_put (cs := #[.int .i64 t393, .int .i64 t394, .int .i64 0, .slice none 0 0]) ?_ 2 _ rfl; (with_reducible repeat (first | refine blk_drewN ?_ _ | refine blk_drew ?_ | refine blk_alloc ?_ _)); refine blk_put (cs := #[.int .i64 t393, .int .i64 0, .int .i64 0, .slice none 0 0]) ?_ 1 _ rfl; (with_reducible repeat (first | refine blk_drewN ?_ _ | refine blk_drew ?_ | refine blk_alloc ?_ _)); refine blk_put (cs := #[.int .i64 0, .int .i64 0, .int .i64 0, .slice none 0 0]) ?_ 0 _ rfl; (with_reducible repeat (first | refine blk_drewN ?_ _ | refine blk_drew ?_ | refine blk_alloc ?_ _)); exact BK400.out) hb); have n7_ := Aside0.mk (below_step (by repeat (first | (with_reducible first | exact HB.out | apply below_alloc | apply pw_below_drewN | apply below_drew1 | refine below_set ?_ GE367.out | refine below_set ?_ GE378.out | refine below_set ?_ GE400.out) | exact HB.out)) hb); clear HO_368003; clear HO_379003; clear HO392; clear HO398; clear BK367; clear BK378; clear BK400; clear HB; have HO_368003 := n0_; have HO_379003 := n1_; have HO392 := n2_; have HO398 := n3_; have BK367 := n4_; have BK378 := n5_; have BK400 := n6_; have HB := n7_; clear n0_ n1_ n2_ n3_ n4_ n5_ n6_ n7_; (try clear hb); (try clear hb2); (try clear hk); (try clear hi)))
                          go_meet
                          case rel => exact ⟨_, (true), (by first | rfl | (simp; done) | (simp [*]; done)), H', ⟨by have := HJ7.out; have := HJ36.out; first | omega | exact Nat.le_refl _⟩, ⟨by (with_reducible repeat (first | apply Kd.R_alloc | apply Kd.R_drewN | apply Kd.R_drew)); exact HO_368003.out⟩, ⟨by (with_reducible repeat (first | apply Kd.R_alloc | apply Kd.R_drewN | apply Kd.R_drew)); exact HO_379003.out⟩, ⟨by (with_reducible repeat (first | apply Kd.R_alloc | apply Kd.R_drewN | apply Kd.R_drew)); exact Kd.R_mono HO398.out (fun _ hk => ⟨hk.1.2, hk.2⟩)⟩, ⟨by (with_reducible repeat (first | refine blk_drewN ?_ _ | refine blk_drew ?_ | refine blk_alloc ?_ _)); exact BK367.out⟩, ⟨by (with_reducible repeat (first | refine blk_drewN ?_ _ | refine blk_drew ?_ | refine blk_alloc ?_ _)); exact BK378.out⟩, ⟨by (with_reducible repeat (first | refine blk_drewN ?_ _ | refine blk_drew ?_ | refine blk_alloc ?_ _)); exact BK400.out⟩, ⟨by repeat (first | (with_reducible first | exact HB.out | apply below_alloc | apply pw_below_drewN | apply below_drew1 | refine below_set ?_ GE367.out | refine below_set ?_ GE378.out | refine below_set ?_ GE400.out) | exact HB.out)⟩⟩
                      case rest =>
                        clear HC60
                        try clear c1
                        try clear c2
                        try clear p2
                        try clear c3
                        try clear c3b0
                        try clear c4
                        try clear c5
                        try clear c6
                        try clear c7
                        try clear c8
                        try clear c14
                        try clear c19
                        try clear c23
                        try clear c24
                        try clear c28
                        try clear c32
                        try clear c35
                        try clear c42
                        try clear c42b0
                        try clear c43
                        try clear c44
                        try clear c45
                        try clear c47
                        try clear c49
                        try clear c53
                        try clear c56
                        try clear c56b0
                        try clear c57
                        try clear c57b0
                        try clear c57b1
                        try clear c58
                        try clear c59
                        try clear c60
                        try clear c61
                        try clear c70
                        try clear c71
                        try clear c75
                        try clear c76
                        try clear c77
                        try clear c79
                        try clear c82
                        try clear c83
                        try clear c85
                        try clear hcz13_0
                        try clear hcz13_1
                        try clear hcz13_2
                        try clear hcz13_3
                        try clear hcz20_0
                        try clear hcz20_1
                        try clear hcz20_2
                        try clear hcz20_3
                        try clear hcz25_0
                        try clear hcz25_1
                        try clear hcz25_2
                        try clear hcz25_3
                        try clear hcz26_0
                        try clear hcz26_1
                        try clear hcz26_2
                        try clear hcz26_3
                        try clear hcz29_0
                        try clear hcz29_1
                        try clear hcz29_2
                        try clear hcz29_3
                        try clear hcz30_0
                        try clear hcz30_1
                        try clear hcz30_2
                        try clear hcz30_3
                        try clear hcz46_0
                        try clear hcz46_1
                        try clear hcz46_2
                        try clear hcz46_3
                        try clear hcz47_0
                        try clear hcz47_1
                        try clear hcz47_2
                        try clear hcz47_3
                        try clear hcz50_0
                        try clear hcz50_1
                        try clear hcz50_2
                        try clear hcz50_3
                        try clear hcz51_0
                        try clear hcz51_1
                        try clear hcz51_2
                        try clear hcz51_3
                        try clear hcz62_0
                        try clear hcz62_1
                        try clear hcz62_2
                        try clear hcz62_3
                        try clear hcz64_0
                        try clear hcz64_1
                        try clear hcz64_2
                        try clear hcz64_3
                        try clear hcz72_0
                        try clear hcz72_1
                        try clear hcz72_2
                        try clear hcz72_3
                        try clear hcz78_0
                        try clear hcz78_1
                        try clear hcz78_2
                        try clear hcz78_3
                        try clear hcz80_0
                        try clear hcz80_1
                        try clear hcz80_2
                        try clear hcz80_3
                        try clear hcz84_0
                        try clear hcz84_1
                        try clear hcz84_2
                        try clear hcz84_3
                        try clear hcz86_0
                        try clear hcz86_1
                        try clear hcz86_2
                        try clear hcz86_3
                        try clear hfz13_0
                        try clear hfz13_1
                        try clear hfz13_2
                        try clear hfz13_3
                        try clear hfz20_0
                        try clear hfz20_1
                        try clear hfz20_2
                        try clear hfz20_3
                        try clear hfz25_0
                        try clear hfz25_1
                        try clear hfz25_2
                        try clear hfz25_3
                        try clear hfz26_0
                        try clear hfz26_1
                        try clear hfz26_2
                        try clear hfz26_3
                        try clear hfz29_0
                        try clear hfz29_1
                        try clear hfz29_2
                        try clear hfz29_3
                        try clear hfz30_0
                        try clear hfz30_1
                        try clear hfz30_2
                        try clear hfz30_3
                        try clear hfz46_0
                        try clear hfz46_1
                        try clear hfz46_2
                        try clear hfz46_3
                        try clear hfz47_0
                        try clear hfz47_1
                        try clear hfz47_2
                        try clear hfz47_3
                        try clear hfz50_0
                        try clear hfz50_1
                        try clear hfz50_2
                        try clear hfz50_3
                        try clear hfz51_0
                        try clear hfz51_1
                        try clear hfz51_2
                        try clear hfz51_3
                        try clear hfz62_0
                        try clear hfz62_1
                        try clear hfz62_2
                        try clear hfz62_3
                        try clear hfz64_0
                        try clear hfz64_1
                        try clear hfz64_2
                        try clear hfz64_3
                        try clear hfz72_0
                        try clear hfz72_1
                        try clear hfz72_2
                        try clear hfz72_3
                        try clear hfz78_0
                        try clear hfz78_1
                        try clear hfz78_2
                        try clear hfz78_3
                        try clear hfz80_0
                        try clear hfz80_1
                        try clear hfz80_2
                        try clear hfz80_3
                        try clear hfz84_0
                        try clear hfz84_1
                        try clear hfz84_2
                        try clear hfz84_3
                        try clear hfz86_0
                        try clear hfz86_1
                        try clear hfz86_2
                        try clear hfz86_3
                        try clear p2
                        obtain ⟨kq, x87_59, rfl, HA, HJ59, HO_368003, HO_379003, HO_401003, BK367, BK378, BK400, HB⟩ := hcut
                        have hl379003_59 := (Kd.R_reads' HO_379003.out).1
                        rw [hl379003_59] at HO_379003
                        (try simp only [hl379003_59])
                        (try simp only [hl379003_59] at BK367)
                        (try simp only [hl379003_59] at BK378)
                        (try simp only [hl379003_59] at BK400)
                        (try simp only [hl379003_59] at HO_368003)
                        (try simp only [hl379003_59] at HO_401003)
                        cases kq with
                        | zero => exact absurd HA.out (by simp [laws_FnExactBuildNfa.j2])
                        | succ kj59 =>
                          have H := HA.out
                          clear HA
                          simp only [laws_FnExactBuildNfa.j2] at H
                          by_cases c88 : x87_59 = true
                          · subst c88
                            have H1 : (some false) = some r := by rw [if_pos rfl] at H; exact H
                            clear H
                            have H := H1
                            clear H1
                            obtain rfl := Option.some.inj H
                            cases hT
                          · replace c88 := Bool.eq_false_iff.mpr c88
                            subst c88
                            have H1 : ((laws_heldNfa.f kj59 t371 t372 t373 t388 1).bind fun t402 => (if t402 < 0 then (some false) else (if t402 = t387 then (some true) else (some false)))) = some r := by rw [if_neg (show ¬ (false = true) by decide)] at H; exact H
                            clear H
                            have H := H1
                            clear H1
                            replace H := Option.bind_eq_some_iff.mp H
                            obtain ⟨t402, A890, H⟩ := H
                            replace H : (if t402 < 0 then (some false) else (if t402 = t387 then (some true) else (some false))) = some r := H
                            have A89 := Aside0.mk A890
                            clear A890
                            by_cases c90 : t402 < 0
                            · rw [if_pos c90] at H
                              have c90b0 : decide (t402 < 0) = true := decide_eq_true c90
                              clear c90
                              obtain rfl := Option.some.inj H
                              cases hT
                            · rw [if_neg c90] at H
                              have c90b0 : decide (t402 < 0) = false := decide_eq_false c90
                              clear c90
                              by_cases c91 : t402 = t387
                              · rw [if_pos c91] at H
                                have c91b0 : (t402 == t387) = true := beq_iff_eq.mpr c91
                                have c91b1 : (t402 != t387) = false := bne_eq_false_iff_eq.mpr c91
                                clear c91
                                obtain rfl := Option.some.inj H
                                have hnb92 := NB378_367.out
                                have hnc92 := NB367_378.out
                                have hnb93 := NB378_400.out
                                have hnc93 := NB400_378.out
                                have hcz94_0 : wc.cell? ⟨gb378, 0, none⟩ = some (.int .i64 t371) := (blk_cell BK378.out 0).trans rfl
                                have hcz94_1 : wc.cell? ⟨gb378, 1, none⟩ = some (.int .i64 t372) := (blk_cell BK378.out 1).trans rfl
                                have hcz94_2 : wc.cell? ⟨gb378, 2, none⟩ = some (.int .i64 t373) := (blk_cell BK378.out 2).trans rfl
                                have hcz94_3 : wc.cell? ⟨gb378, 3, none⟩ = some (.slice Ao21 t388.length co21) := (blk_cell BK378.out 3).trans rfl
                                have hfz94_0 := blk_frozen BK378.out 0
                                have hfz94_1 := blk_frozen BK378.out 1
                                have hfz94_2 := blk_frozen BK378.out 2
                                have hfz94_3 := blk_frozen BK378.out 3
                                go_wp2_with (first | ((with_reducible refine gate_callee (f := 61) rfl ?_); refine goesL_ (some 90) rfl rfl Try.func61 (by kernel_rfl) rfl #[.agg #[.int .i64 t371, .int .i64 t372, .int .i64 t373, .slice Ao21 t388.length co21], .int .i64 1] rfl (by (try simp only [List.map_toArray, List.map_cons, List.map_nil]); first | done | rfl | (simp only [List.length_drop, List.length_take]; rfl)) ?_; (with_reducible refine (laws_heldNfa.calls kj59 t371 t372 t373 _ _ t388 1 t402 _ ?side1 ?side2 A89.out).mono ?_); (case side1 => repeat (first | exact (Kd.R_reads' HO_379003.out).2.2 | (with_reducible refine Kd.C_alloc ?_ _) | (with_reducible refine Kd.C_drewN ?_ _) | (with_reducible refine Kd.C_drew ?_))); (case side2 => exact (Kd.R_reads' HO_379003.out).2.1); rintro e w95 ⟨rfl, hb⟩; refine ⟨_, rfl, ?_⟩; have n0_ := Aside0.mk (Kd.R_below (by (with_reducible repeat (first | apply Kd.R_alloc | apply Kd.R_drewN | apply Kd.R_drew)); exact HO_368003.out) hb); have n1_ := Aside0.mk (Kd.R_below (by (with_reducible repeat (first | apply Kd.R_alloc | apply Kd.R_drewN | apply Kd.R_drew)); exact HO_379003.out) hb); have n2_ := Aside0.mk (Kd.R_below (by (with_reducible repeat (first | apply Kd.R_alloc | apply Kd.R_drewN | apply Kd.R_drew)); exact HO_401003.out) hb); have n3_ := Aside0.mk (blk_below (g := gb367) (o := .cells #[.int .i64 t360, .int .i64 t361, .int .i64 t362, .slice Ao14 t363.length co14] 60 (0, 0)) (by (with_reducible repeat (first | refine blk_drewN ?_ _ | refine blk_drew ?_ | refine blk_alloc ?_ _)); exact BK367.out) hb); have n4_ := Aside0.mk (blk_below (g := gb378) (o := .cells #[.int .i64 t371, .int .i64 t372, .int .i64 t373, .slice Ao21 t388.length co21] 60 (0, 0)) (by (with_reducible repeat (first | refine blk_drewN ?_ _ | refine blk_drew ?_ | refine blk_alloc ?_ _)); exact BK378.out) hb); have n5_ := Aside0.mk (blk_below (g := gb400) (o := .cells #[.int .i64 t393, .int .i64 t394, .int .i64 t395, .slice Ao73 t396.length co73] 60 (0, 0)) (by (with_reducible repeat (first | refine blk_drewN ?_ _ | refine blk_drew ?_ | refine blk_alloc ?_ _)); exact BK400.out) hb); have n6_ := Aside0.mk (below_step (by repeat (first | (with_reducible first | exact HB.out | apply below_alloc | apply pw_below_drewN | apply below_drew1 | refine below_set ?_ GE367.out | refine below_set ?_ GE378.out | refine below_set ?_ GE400.out) | exact HB.out)) hb); clear HO_368003; clear HO_379003; clear HO_401003; clear BK367; clear BK378; clear BK400; clear HB; have HO_368003 := n0_; have HO_379003 := n1_; have HO_401003 := n2_; have BK367 := n3_; have BK378 := n4_; have BK400 := n5_; have HB := n6_; clear n0_ n1_ n2_ n3_ n4_ n5_ n6_; (try clear hb); (try clear hb2); (try clear hk); (try clear hi)))
                                go_ret
                                exact ⟨by first | rfl | (simp [errW_none, errW_some] <;> rfl) | (simp [*, errW_none, errW_some] <;> rfl), by repeat (first | (with_reducible first | exact HB.out | apply below_alloc | apply pw_below_drewN | apply below_drew1 | refine below_set ?_ GE367.out | refine below_set ?_ GE378.out | refine below_set ?_ GE400.out) | exact HB.out)⟩
                              · rw [if_neg c91] at H
                                have c91b0 : (t402 == t387) = false := beq_eq_false_iff_ne.mpr c91
                                have c91b1 : (t402 != t387) = true := bne_iff_ne.mpr c91
                                obtain rfl := Option.some.inj H
                                cases hT
                    · rw [if_neg c57] at H
                      have c57b0 : (t389 == t387) = false := beq_eq_false_iff_ne.mpr c57
                      have c57b1 : (t389 != t387) = true := bne_iff_ne.mpr c57
                      obtain rfl := Option.some.inj H
                      cases hT
          · replace c35 := Bool.eq_false_iff.mpr c35
            subst c35
            have H1 : (some false) = some r := by rw [if_neg (show ¬ (false = true) by decide)] at H; exact H
            clear H
            have H := H1
            clear H1
            obtain rfl := Option.some.inj H
            cases hT

end Go.Proofs.Ytkkchcalhomgcaa.PFnExactBuildNfa
