/- Written by this session's own program over the kit's print: Lean functions that tell what Go functions answer, each with a proof that the call does so. No condition but what each statement says. -/
import Derived.Test.YtkollihfejkklaaGreatDoorYFnPrefixesx9
namespace Go.Proofs.YtkollihfejkklaaGreatDoor.PFnPrefixes
open Go.RowKit Go.Proofs.YtkollihfejkklaaGreatDoorW.PrintWords Go.Proofs.YtkollihfejkklaaGreatDoorW.PrintLast Go.Proofs.YtkollihfejkklaaGreatDoorW.PrintMore
attribute [local go_sem] max2_int min2_int max_two min_two max_three min_three max_four min_four   -- for this text's walks alone
set_option linter.unusedVariables false
set_option linter.unusedSimpArgs false

attribute [local go_sem high] eqA24
/-! ### laws_FnPrefixes: function 3 -/
mutual
def laws_FnPrefixes.j0 : Nat → List Int → Bool → Bool → Int → ByteArray → Bool → Bool → Int → Int → Int → Int → Option (Bool)
  | 0, _, _, _, _, _, _, _, _, _, _, _ => none
  | k + 1, x1, x7, x8, x11, x15, x16, x120, x367000, x367001, x368000, x368001 => if x120 = true then (some false) else (if x16 = true then ((impl_ReadPrefix.f k x15).bind fun bt381 => (if bt381.2.2 = true then (if (!(bt381.1 == x367000) || (!(bt381.2.1 == x367001))) = true then (some false) else (laws_FnPrefixes.j1 k x1 x7 x8 x11 x367000 x367001 x368000 x368001)) else (some false))) else (laws_FnPrefixes.j1 k x1 x7 x8 x11 x367000 x367001 x368000 x368001))
def laws_FnPrefixes.j1 : Nat → List Int → Bool → Bool → Int → Int → Int → Int → Int → Option (Bool)
  | 0, _, _, _, _, _, _, _, _ => none
  | k + 1, x1, x7, x8, x11, x367000, x367001, x368000, x368001 => if x8 = true then (laws_FnPrefixes.l0 k x1 x7 x11 x368000 x368001 x367000 x367001 x368000 x368001) else (laws_FnPrefixes.j3 k x1)
def laws_FnPrefixes.j3 : Nat → List Int → Option (Bool)
  | 0, _ => none
  | k + 1, x1 => (spec_DrawReadPrefix.f k x1).bind fun t391 => ((impl_ReadPrefix.f k t391).bind fun bt392 => ((spec_ReadPrefix.f k t391).bind fun bt396 => ((spec_DrawHasAddr.f x1).bind fun bt400 => ((impl_HasAddr.f bt400.1 bt400.2.1 bt400.2.2).bind fun bt404 => ((spec_HasAddr.f bt400.1 bt400.2.1 bt400.2.2).bind fun bt406 => (if (bt392.2.2 != bt396.2.2) = true then (some false) else (if (!(bt392.1 == bt396.1) || (!(bt392.2.1 == bt396.2.1))) = true then (some false) else (if (bt404.2 != bt406.2) = true then (some false) else (if (bt404.1 != bt406.1) = true then (some false) else ((impl_PrefixText.f k bt392.1 bt392.2.1).bind fun bt408 => (if bt392.2.2 = true then (if bt408.2 = true then (some (bt408.1.toList == t391.toList)) else (some false)) else (some true))))))))))))
def laws_FnPrefixes.l0 : Nat → List Int → Bool → Int → Int → Int → Int → Int → Int → Int → Option (Bool)
  | 0, _, _, _, _, _, _, _, _, _ => none
  | k + 1, x1, x7, x11, x21, x22, x367000, x367001, x368000, x368001 => if x22 < 32 then (if 0 ≤ (IntKind.u64.wrap (wrap64 (31 - x22))) then (laws_FnPrefixes.l0 k x1 x7 x11 (wrap64 (x21 + (shl .i64 1 (IntKind.u64.wrap (wrap64 (31 - x22)))))) (wrap64 (x22 + 1)) x367000 x367001 x368000 x368001) else (none)) else ((impl_HasAddr.f x367000 x367001 x368000).bind fun bt385 => ((impl_HasAddr.f x367000 x367001 x21).bind fun bt387 => ((impl_ComparePrefixes.f k x368000 x368001 x367000 x367001).bind fun bt389 => (if bt385.2 = true then (if bt387.2 = true then (if bt385.1 = true then (if (x7 != bt387.1) = true then (some false) else (if bt389.2 = true then (if bt389.1 = (wrap64 (-x11)) then (if ((x11 == 0) != (x367000 == x368000 && (x367001 == x368001))) = true then (some false) else (laws_FnPrefixes.j3 k x1)) else (some false)) else (some false))) else (if (x7 != false) = true then (some false) else (if bt389.2 = true then (if bt389.1 = (wrap64 (-x11)) then (if ((x11 == 0) != (x367000 == x368000 && (x367001 == x368001))) = true then (some false) else (laws_FnPrefixes.j3 k x1)) else (some false)) else (some false)))) else (some false)) else (some false)))))
end
def laws_FnPrefixes.f (k : Nat) (l0 : List Int) (l1 : List Int) : Option (Bool) := if (wrap64 ((l0.length : Int) + (l1.length : Int))) > 1048576 then (some true) else ((spec_DrawPrefixHas.f k l0).bind fun bt362 => ((impl_PrefixHas.f bt362.1 bt362.2.1 bt362.2.2.1 bt362.2.2.2).bind fun bt368 => ((spec_PrefixHas.f bt362.1 bt362.2.1 bt362.2.2.1 bt362.2.2.2).bind fun bt370 => ((impl_ComparePrefixes.f k bt362.1 bt362.2.1 bt362.2.2.1 bt362.2.2.2).bind fun bt372 => ((spec_ComparePrefixes.f k bt362.1 bt362.2.1 bt362.2.2.1 bt362.2.2.2).bind fun bt374 => ((impl_PrefixText.f k bt362.1 bt362.2.1).bind fun bt376 => ((spec_PrefixText.f k bt362.1 bt362.2.1).bind fun bt378 => (if (bt368.2 != bt370.2) = true then (laws_FnPrefixes.j0 k l1 bt368.1 bt368.2 bt372.1 bt376.1 bt376.2 true bt362.1 bt362.2.1 bt362.2.2.1 bt362.2.2.2) else (if (bt368.1 != bt370.1) = true then (laws_FnPrefixes.j0 k l1 bt368.1 bt368.2 bt372.1 bt376.1 bt376.2 true bt362.1 bt362.2.1 bt362.2.2.1 bt362.2.2.2) else (if (bt372.2 != bt374.2) = true then (laws_FnPrefixes.j0 k l1 bt368.1 bt368.2 bt372.1 bt376.1 bt376.2 true bt362.1 bt362.2.1 bt362.2.2.1 bt362.2.2.2) else (if bt372.1 = bt374.1 then (if (bt376.2 != bt378.2) = true then (laws_FnPrefixes.j0 k l1 bt368.1 bt368.2 bt372.1 bt376.1 bt376.2 true bt362.1 bt362.2.1 bt362.2.2.1 bt362.2.2.2) else (if bt376.1.toList = bt378.1.toList then ((impl_GoodPrefix.f bt362.1 bt362.2.1).bind fun t380 => (laws_FnPrefixes.j0 k l1 bt368.1 bt368.2 bt372.1 bt376.1 bt376.2 (t380 != bt378.2) bt362.1 bt362.2.1 bt362.2.2.1 bt362.2.2.2)) else (laws_FnPrefixes.j0 k l1 bt368.1 bt368.2 bt372.1 bt376.1 bt376.2 true bt362.1 bt362.2.1 bt362.2.2.1 bt362.2.2.2))) else (laws_FnPrefixes.j0 k l1 bt368.1 bt368.2 bt372.1 bt376.1 bt376.2 true bt362.1 bt362.2.1 bt362.2.2.1 bt362.2.2.2))))))))))))
theorem laws_FnPrefixes.mono_l : ∀ k, (∀ y0 y1 y2 y3 y4 y5 y6 y7 y8 y9 y10, LeO (laws_FnPrefixes.j0 k y0 y1 y2 y3 y4 y5 y6 y7 y8 y9 y10) (laws_FnPrefixes.j0 (k + 1) y0 y1 y2 y3 y4 y5 y6 y7 y8 y9 y10)) ∧ (∀ y0 y1 y2 y3 y4 y5 y6 y7, LeO (laws_FnPrefixes.j1 k y0 y1 y2 y3 y4 y5 y6 y7) (laws_FnPrefixes.j1 (k + 1) y0 y1 y2 y3 y4 y5 y6 y7)) ∧ (∀ y0, LeO (laws_FnPrefixes.j3 k y0) (laws_FnPrefixes.j3 (k + 1) y0)) ∧ (∀ y0 y1 y2 y3 y4 y5 y6 y7 y8, LeO (laws_FnPrefixes.l0 k y0 y1 y2 y3 y4 y5 y6 y7 y8) (laws_FnPrefixes.l0 (k + 1) y0 y1 y2 y3 y4 y5 y6 y7 y8))
  | 0 => ⟨fun _ _ _ _ _ _ _ _ _ _ _ r h => by simp [laws_FnPrefixes.j0] at h, fun _ _ _ _ _ _ _ _ r h => by simp [laws_FnPrefixes.j1] at h, fun _ r h => by simp [laws_FnPrefixes.j3] at h, fun _ _ _ _ _ _ _ _ _ r h => by simp [laws_FnPrefixes.l0] at h⟩
  | k + 1 => by
    obtain ⟨ih0, ih1, ih2, ih3⟩ := laws_FnPrefixes.mono_l k
    refine ⟨?_, ?_, ?_, ?_⟩
    · intro y0 y1 y2 y3 y4 y5 y6 y7 y8 y9 y10
      unfold laws_FnPrefixes.j0
      repeat' first
      | (with_reducible exact ih0 _ _ _ _ _ _ _ _ _ _ _)
      | (with_reducible exact ih1 _ _ _ _ _ _ _ _)
      | (with_reducible exact ih2 _)
      | (with_reducible exact ih3 _ _ _ _ _ _ _ _ _)
      | (with_reducible exact impl_ComparePrefixes.mono _ _ _ _ _)
      | (with_reducible exact impl_PrefixText.mono _ _ _)
      | (with_reducible exact impl_ReadPrefix.mono _ _)
      | (with_reducible exact spec_ComparePrefixes.mono _ _ _ _ _)
      | (with_reducible exact spec_DrawPrefixHas.mono _ _)
      | (with_reducible exact spec_DrawReadPrefix.mono _ _)
      | (with_reducible exact spec_PrefixText.mono _ _ _)
      | (with_reducible exact spec_ReadPrefix.mono _ _)
      | (with_reducible exact LeO.refl _)
      | (with_reducible exact LeO.none _)
      | (with_reducible refine LeO.ite ?_ ?_)
      | (with_reducible refine LeO.bind ?_ (fun _ => ?_))
      | exact ih0 _ _ _ _ _ _ _ _ _ _ _
      | exact ih1 _ _ _ _ _ _ _ _
      | exact ih2 _
      | exact ih3 _ _ _ _ _ _ _ _ _
      | exact impl_ComparePrefixes.mono _ _ _ _ _
      | exact impl_PrefixText.mono _ _ _
      | exact impl_ReadPrefix.mono _ _
      | exact spec_ComparePrefixes.mono _ _ _ _ _
      | exact spec_DrawPrefixHas.mono _ _
      | exact spec_DrawReadPrefix.mono _ _
      | exact spec_PrefixText.mono _ _ _
      | exact spec_ReadPrefix.mono _ _
      | exact LeO.none _
      | refine LeO.ite ?_ ?_
      | refine LeO.bind ?_ (fun _ => ?_)
    · intro y0 y1 y2 y3 y4 y5 y6 y7
      unfold laws_FnPrefixes.j1
      repeat' first
      | (with_reducible exact ih0 _ _ _ _ _ _ _ _ _ _ _)
      | (with_reducible exact ih1 _ _ _ _ _ _ _ _)
      | (with_reducible exact ih2 _)
      | (with_reducible exact ih3 _ _ _ _ _ _ _ _ _)
      | (with_reducible exact impl_ComparePrefixes.mono _ _ _ _ _)
      | (with_reducible exact impl_PrefixText.mono _ _ _)
      | (with_reducible exact impl_ReadPrefix.mono _ _)
      | (with_reducible exact spec_ComparePrefixes.mono _ _ _ _ _)
      | (with_reducible exact spec_DrawPrefixHas.mono _ _)
      | (with_reducible exact spec_DrawReadPrefix.mono _ _)
      | (with_reducible exact spec_PrefixText.mono _ _ _)
      | (with_reducible exact spec_ReadPrefix.mono _ _)
      | (with_reducible exact LeO.refl _)
      | (with_reducible exact LeO.none _)
      | (with_reducible refine LeO.ite ?_ ?_)
      | (with_reducible refine LeO.bind ?_ (fun _ => ?_))
      | exact ih0 _ _ _ _ _ _ _ _ _ _ _
      | exact ih1 _ _ _ _ _ _ _ _
      | exact ih2 _
      | exact ih3 _ _ _ _ _ _ _ _ _
      | exact impl_ComparePrefixes.mono _ _ _ _ _
      | exact impl_PrefixText.mono _ _ _
      | exact impl_ReadPrefix.mono _ _
      | exact spec_ComparePrefixes.mono _ _ _ _ _
      | exact spec_DrawPrefixHas.mono _ _
      | exact spec_DrawReadPrefix.mono _ _
      | exact spec_PrefixText.mono _ _ _
      | exact spec_ReadPrefix.mono _ _
      | exact LeO.none _
      | refine LeO.ite ?_ ?_
      | refine LeO.bind ?_ (fun _ => ?_)
    · intro y0
      unfold laws_FnPrefixes.j3
      repeat' first
      | (with_reducible exact ih0 _ _ _ _ _ _ _ _ _ _ _)
      | (with_reducible exact ih1 _ _ _ _ _ _ _ _)
      | (with_reducible exact ih2 _)
      | (with_reducible exact ih3 _ _ _ _ _ _ _ _ _)
      | (with_reducible exact impl_ComparePrefixes.mono _ _ _ _ _)
      | (with_reducible exact impl_PrefixText.mono _ _ _)
      | (with_reducible exact impl_ReadPrefix.mono _ _)
      | (with_reducible exact spec_ComparePrefixes.mono _ _ _ _ _)
      | (with_reducible exact spec_DrawPrefixHas.mono _ _)
      | (with_reducible exact spec_DrawReadPrefix.mono _ _)
      | (with_reducible exact spec_PrefixText.mono _ _ _)
      | (with_reducible exact spec_ReadPrefix.mono _ _)
      | (with_reducible exact LeO.refl _)
      | (with_reducible exact LeO.none _)
      | (with_reducible refine LeO.ite ?_ ?_)
      | (with_reducible refine LeO.bind ?_ (fun _ => ?_))
      | exact ih0 _ _ _ _ _ _ _ _ _ _ _
      | exact ih1 _ _ _ _ _ _ _ _
      | exact ih2 _
      | exact ih3 _ _ _ _ _ _ _ _ _
      | exact impl_ComparePrefixes.mono _ _ _ _ _
      | exact impl_PrefixText.mono _ _ _
      | exact impl_ReadPrefix.mono _ _
      | exact spec_ComparePrefixes.mono _ _ _ _ _
      | exact spec_DrawPrefixHas.mono _ _
      | exact spec_DrawReadPrefix.mono _ _
      | exact spec_PrefixText.mono _ _ _
      | exact spec_ReadPrefix.mono _ _
      | exact LeO.none _
      | refine LeO.ite ?_ ?_
      | refine LeO.bind ?_ (fun _ => ?_)
    · intro y0 y1 y2 y3 y4 y5 y6 y7 y8
      unfold laws_FnPrefixes.l0
      repeat' first
      | (with_reducible exact ih0 _ _ _ _ _ _ _ _ _ _ _)
      | (with_reducible exact ih1 _ _ _ _ _ _ _ _)
      | (with_reducible exact ih2 _)
      | (with_reducible exact ih3 _ _ _ _ _ _ _ _ _)
      | (with_reducible exact impl_ComparePrefixes.mono _ _ _ _ _)
      | (with_reducible exact impl_PrefixText.mono _ _ _)
      | (with_reducible exact impl_ReadPrefix.mono _ _)
      | (with_reducible exact spec_ComparePrefixes.mono _ _ _ _ _)
      | (with_reducible exact spec_DrawPrefixHas.mono _ _)
      | (with_reducible exact spec_DrawReadPrefix.mono _ _)
      | (with_reducible exact spec_PrefixText.mono _ _ _)
      | (with_reducible exact spec_ReadPrefix.mono _ _)
      | (with_reducible exact LeO.refl _)
      | (with_reducible exact LeO.none _)
      | (with_reducible refine LeO.ite ?_ ?_)
      | (with_reducible refine LeO.bind ?_ (fun _ => ?_))
      | exact ih0 _ _ _ _ _ _ _ _ _ _ _
      | exact ih1 _ _ _ _ _ _ _ _
      | exact ih2 _
      | exact ih3 _ _ _ _ _ _ _ _ _
      | exact impl_ComparePrefixes.mono _ _ _ _ _
      | exact impl_PrefixText.mono _ _ _
      | exact impl_ReadPrefix.mono _ _
      | exact spec_ComparePrefixes.mono _ _ _ _ _
      | exact spec_DrawPrefixHas.mono _ _
      | exact spec_DrawReadPrefix.mono _ _
      | exact spec_PrefixText.mono _ _ _
      | exact spec_ReadPrefix.mono _ _
      | exact LeO.none _
      | refine LeO.ite ?_ ?_
      | refine LeO.bind ?_ (fun _ => ?_)
theorem laws_FnPrefixes.mono : ∀ a0 a1 k, LeO (laws_FnPrefixes.f k a0 a1) (laws_FnPrefixes.f (k + 1) a0 a1) := by
  intro a0 a1 k
  obtain ⟨ih0, ih1, ih2, ih3⟩ := laws_FnPrefixes.mono_l k
  unfold laws_FnPrefixes.f
  repeat' first
      | (with_reducible exact ih0 _ _ _ _ _ _ _ _ _ _ _)
      | (with_reducible exact ih1 _ _ _ _ _ _ _ _)
      | (with_reducible exact ih2 _)
      | (with_reducible exact ih3 _ _ _ _ _ _ _ _ _)
      | (with_reducible exact impl_ComparePrefixes.mono _ _ _ _ _)
      | (with_reducible exact impl_PrefixText.mono _ _ _)
      | (with_reducible exact impl_ReadPrefix.mono _ _)
      | (with_reducible exact spec_ComparePrefixes.mono _ _ _ _ _)
      | (with_reducible exact spec_DrawPrefixHas.mono _ _)
      | (with_reducible exact spec_DrawReadPrefix.mono _ _)
      | (with_reducible exact spec_PrefixText.mono _ _ _)
      | (with_reducible exact spec_ReadPrefix.mono _ _)
      | (with_reducible exact LeO.refl _)
      | (with_reducible exact LeO.none _)
      | (with_reducible refine LeO.ite ?_ ?_)
      | (with_reducible refine LeO.bind ?_ (fun _ => ?_))
      | exact ih0 _ _ _ _ _ _ _ _ _ _ _
      | exact ih1 _ _ _ _ _ _ _ _
      | exact ih2 _
      | exact ih3 _ _ _ _ _ _ _ _ _
      | exact impl_ComparePrefixes.mono _ _ _ _ _
      | exact impl_PrefixText.mono _ _ _
      | exact impl_ReadPrefix.mono _ _
      | exact spec_ComparePrefixes.mono _ _ _ _ _
      | exact spec_DrawPrefixHas.mono _ _
      | exact spec_DrawReadPrefix.mono _ _
      | exact spec_PrefixText.mono _ _ _
      | exact spec_ReadPrefix.mono _ _
      | exact LeO.none _
      | refine LeO.ite ?_ ?_
      | refine LeO.bind ?_ (fun _ => ?_)
set_option maxHeartbeats 8000000 in
set_option maxRecDepth 100000 in
theorem laws_FnPrefixes.calls (k : Nat) (A0 : Option Addr) (c0 : Nat) (l0 : List Int) (A1 : Option Addr) (c1 : Nat) (l1 : List Int) (r : Bool) (w : World) (hr0 : Kd.C (Kd.int .u8) w A0 l0.length l0) (hc0 : l0.length ≤ c0) (hr1 : Kd.C (Kd.int .u8) w A1 l1.length l1) (hc1 : l1.length ≤ c1) (hT : r = true) (ht0 : LaysR.All w) (h : laws_FnPrefixes.f k l0 l1 = some r) :
    Calls Tryz.prog 3 #[.slice A0 l0.length c0, .slice A1 l1.length c1] w fun e w' => e = .returned (.bool r) ∧ Below w.heap.size w w' := by
  have HTAB := Aside0.mk ht0
  clear ht0
  have hu24 := Tryz.underlying24
  have HR0 := Aside0.mk hr0
  have HC0 := Aside0.mk hc0
  clear hr0 hc0
  have HR1 := Aside0.mk hr1
  have HC1 := Aside0.mk hc1
  clear hr1 hc1
  have HB := Aside0.mk (Below.refl w.heap.size w)
  have H : (if (wrap64 ((l0.length : Int) + (l1.length : Int))) > 1048576 then (some true) else ((spec_DrawPrefixHas.f k l0).bind fun bt362 => ((impl_PrefixHas.f bt362.1 bt362.2.1 bt362.2.2.1 bt362.2.2.2).bind fun bt368 => ((spec_PrefixHas.f bt362.1 bt362.2.1 bt362.2.2.1 bt362.2.2.2).bind fun bt370 => ((impl_ComparePrefixes.f k bt362.1 bt362.2.1 bt362.2.2.1 bt362.2.2.2).bind fun bt372 => ((spec_ComparePrefixes.f k bt362.1 bt362.2.1 bt362.2.2.1 bt362.2.2.2).bind fun bt374 => ((impl_PrefixText.f k bt362.1 bt362.2.1).bind fun bt376 => ((spec_PrefixText.f k bt362.1 bt362.2.1).bind fun bt378 => (if (bt368.2 != bt370.2) = true then (laws_FnPrefixes.j0 k l1 bt368.1 bt368.2 bt372.1 bt376.1 bt376.2 true bt362.1 bt362.2.1 bt362.2.2.1 bt362.2.2.2) else (if (bt368.1 != bt370.1) = true then (laws_FnPrefixes.j0 k l1 bt368.1 bt368.2 bt372.1 bt376.1 bt376.2 true bt362.1 bt362.2.1 bt362.2.2.1 bt362.2.2.2) else (if (bt372.2 != bt374.2) = true then (laws_FnPrefixes.j0 k l1 bt368.1 bt368.2 bt372.1 bt376.1 bt376.2 true bt362.1 bt362.2.1 bt362.2.2.1 bt362.2.2.2) else (if bt372.1 = bt374.1 then (if (bt376.2 != bt378.2) = true then (laws_FnPrefixes.j0 k l1 bt368.1 bt368.2 bt372.1 bt376.1 bt376.2 true bt362.1 bt362.2.1 bt362.2.2.1 bt362.2.2.2) else (if bt376.1.toList = bt378.1.toList then ((impl_GoodPrefix.f bt362.1 bt362.2.1).bind fun t380 => (laws_FnPrefixes.j0 k l1 bt368.1 bt368.2 bt372.1 bt376.1 bt376.2 (t380 != bt378.2) bt362.1 bt362.2.1 bt362.2.2.1 bt362.2.2.2)) else (laws_FnPrefixes.j0 k l1 bt368.1 bt368.2 bt372.1 bt376.1 bt376.2 true bt362.1 bt362.2.1 bt362.2.2.1 bt362.2.2.2))) else (laws_FnPrefixes.j0 k l1 bt368.1 bt368.2 bt372.1 bt376.1 bt376.2 true bt362.1 bt362.2.1 bt362.2.2.1 bt362.2.2.2))))))))))))) = some r := h
  clear h
  by_cases c3 : (wrap64 ((l0.length : Int) + (l1.length : Int))) > 1048576
  · rw [if_pos c3] at H
    have c3b0 : decide (1048576 < (wrap64 ((l0.length : Int) + (l1.length : Int)))) = true := decide_eq_true c3
    clear c3
    obtain rfl := Option.some.inj H
    go_enter Tryz.func3, Tryz.ntmps3
    go_wp2
    go_ret
    exact ⟨by first | rfl | (simp [errW_none, errW_some] <;> rfl) | (simp [*, errW_none, errW_some] <;> rfl), by repeat (first | (with_reducible first | exact HB.out | apply below_alloc | apply pw_below_drewN | apply below_drew1) | exact HB.out)⟩
  · rw [if_neg c3] at H
    have c3b0 : decide (1048576 < (wrap64 ((l0.length : Int) + (l1.length : Int)))) = false := decide_eq_false c3
    clear c3
    replace H := Option.bind_eq_some_iff.mp H
    obtain ⟨⟨t362, t363, t364, t365⟩, A40, H⟩ := H
    replace H : ((impl_PrefixHas.f t362 t363 t364 t365).bind fun bt368 => ((spec_PrefixHas.f t362 t363 t364 t365).bind fun bt370 => ((impl_ComparePrefixes.f k t362 t363 t364 t365).bind fun bt372 => ((spec_ComparePrefixes.f k t362 t363 t364 t365).bind fun bt374 => ((impl_PrefixText.f k t362 t363).bind fun bt376 => ((spec_PrefixText.f k t362 t363).bind fun bt378 => (if (bt368.2 != bt370.2) = true then (laws_FnPrefixes.j0 k l1 bt368.1 bt368.2 bt372.1 bt376.1 bt376.2 true t362 t363 t364 t365) else (if (bt368.1 != bt370.1) = true then (laws_FnPrefixes.j0 k l1 bt368.1 bt368.2 bt372.1 bt376.1 bt376.2 true t362 t363 t364 t365) else (if (bt372.2 != bt374.2) = true then (laws_FnPrefixes.j0 k l1 bt368.1 bt368.2 bt372.1 bt376.1 bt376.2 true t362 t363 t364 t365) else (if bt372.1 = bt374.1 then (if (bt376.2 != bt378.2) = true then (laws_FnPrefixes.j0 k l1 bt368.1 bt368.2 bt372.1 bt376.1 bt376.2 true t362 t363 t364 t365) else (if bt376.1.toList = bt378.1.toList then ((impl_GoodPrefix.f t362 t363).bind fun t380 => (laws_FnPrefixes.j0 k l1 bt368.1 bt368.2 bt372.1 bt376.1 bt376.2 (t380 != bt378.2) t362 t363 t364 t365)) else (laws_FnPrefixes.j0 k l1 bt368.1 bt368.2 bt372.1 bt376.1 bt376.2 true t362 t363 t364 t365))) else (laws_FnPrefixes.j0 k l1 bt368.1 bt368.2 bt372.1 bt376.1 bt376.2 true t362 t363 t364 t365))))))))))) = some r := H
    have A4 := Aside0.mk A40
    clear A40
    replace H := Option.bind_eq_some_iff.mp H
    obtain ⟨⟨t368, t369⟩, A50, H⟩ := H
    replace H : ((spec_PrefixHas.f t362 t363 t364 t365).bind fun bt370 => ((impl_ComparePrefixes.f k t362 t363 t364 t365).bind fun bt372 => ((spec_ComparePrefixes.f k t362 t363 t364 t365).bind fun bt374 => ((impl_PrefixText.f k t362 t363).bind fun bt376 => ((spec_PrefixText.f k t362 t363).bind fun bt378 => (if (t369 != bt370.2) = true then (laws_FnPrefixes.j0 k l1 t368 t369 bt372.1 bt376.1 bt376.2 true t362 t363 t364 t365) else (if (t368 != bt370.1) = true then (laws_FnPrefixes.j0 k l1 t368 t369 bt372.1 bt376.1 bt376.2 true t362 t363 t364 t365) else (if (bt372.2 != bt374.2) = true then (laws_FnPrefixes.j0 k l1 t368 t369 bt372.1 bt376.1 bt376.2 true t362 t363 t364 t365) else (if bt372.1 = bt374.1 then (if (bt376.2 != bt378.2) = true then (laws_FnPrefixes.j0 k l1 t368 t369 bt372.1 bt376.1 bt376.2 true t362 t363 t364 t365) else (if bt376.1.toList = bt378.1.toList then ((impl_GoodPrefix.f t362 t363).bind fun t380 => (laws_FnPrefixes.j0 k l1 t368 t369 bt372.1 bt376.1 bt376.2 (t380 != bt378.2) t362 t363 t364 t365)) else (laws_FnPrefixes.j0 k l1 t368 t369 bt372.1 bt376.1 bt376.2 true t362 t363 t364 t365))) else (laws_FnPrefixes.j0 k l1 t368 t369 bt372.1 bt376.1 bt376.2 true t362 t363 t364 t365)))))))))) = some r := H
    have A5 := Aside0.mk A50
    clear A50
    replace H := Option.bind_eq_some_iff.mp H
    obtain ⟨⟨t370, t371⟩, A60, H⟩ := H
    replace H : ((impl_ComparePrefixes.f k t362 t363 t364 t365).bind fun bt372 => ((spec_ComparePrefixes.f k t362 t363 t364 t365).bind fun bt374 => ((impl_PrefixText.f k t362 t363).bind fun bt376 => ((spec_PrefixText.f k t362 t363).bind fun bt378 => (if (t369 != t371) = true then (laws_FnPrefixes.j0 k l1 t368 t369 bt372.1 bt376.1 bt376.2 true t362 t363 t364 t365) else (if (t368 != t370) = true then (laws_FnPrefixes.j0 k l1 t368 t369 bt372.1 bt376.1 bt376.2 true t362 t363 t364 t365) else (if (bt372.2 != bt374.2) = true then (laws_FnPrefixes.j0 k l1 t368 t369 bt372.1 bt376.1 bt376.2 true t362 t363 t364 t365) else (if bt372.1 = bt374.1 then (if (bt376.2 != bt378.2) = true then (laws_FnPrefixes.j0 k l1 t368 t369 bt372.1 bt376.1 bt376.2 true t362 t363 t364 t365) else (if bt376.1.toList = bt378.1.toList then ((impl_GoodPrefix.f t362 t363).bind fun t380 => (laws_FnPrefixes.j0 k l1 t368 t369 bt372.1 bt376.1 bt376.2 (t380 != bt378.2) t362 t363 t364 t365)) else (laws_FnPrefixes.j0 k l1 t368 t369 bt372.1 bt376.1 bt376.2 true t362 t363 t364 t365))) else (laws_FnPrefixes.j0 k l1 t368 t369 bt372.1 bt376.1 bt376.2 true t362 t363 t364 t365))))))))) = some r := H
    have A6 := Aside0.mk A60
    clear A60
    replace H := Option.bind_eq_some_iff.mp H
    obtain ⟨⟨t372, t373⟩, A70, H⟩ := H
    replace H : ((spec_ComparePrefixes.f k t362 t363 t364 t365).bind fun bt374 => ((impl_PrefixText.f k t362 t363).bind fun bt376 => ((spec_PrefixText.f k t362 t363).bind fun bt378 => (if (t369 != t371) = true then (laws_FnPrefixes.j0 k l1 t368 t369 t372 bt376.1 bt376.2 true t362 t363 t364 t365) else (if (t368 != t370) = true then (laws_FnPrefixes.j0 k l1 t368 t369 t372 bt376.1 bt376.2 true t362 t363 t364 t365) else (if (t373 != bt374.2) = true then (laws_FnPrefixes.j0 k l1 t368 t369 t372 bt376.1 bt376.2 true t362 t363 t364 t365) else (if t372 = bt374.1 then (if (bt376.2 != bt378.2) = true then (laws_FnPrefixes.j0 k l1 t368 t369 t372 bt376.1 bt376.2 true t362 t363 t364 t365) else (if bt376.1.toList = bt378.1.toList then ((impl_GoodPrefix.f t362 t363).bind fun t380 => (laws_FnPrefixes.j0 k l1 t368 t369 t372 bt376.1 bt376.2 (t380 != bt378.2) t362 t363 t364 t365)) else (laws_FnPrefixes.j0 k l1 t368 t369 t372 bt376.1 bt376.2 true t362 t363 t364 t365))) else (laws_FnPrefixes.j0 k l1 t368 t369 t372 bt376.1 bt376.2 true t362 t363 t364 t365)))))))) = some r := H
    have A7 := Aside0.mk A70
    clear A70
    replace H := Option.bind_eq_some_iff.mp H
    obtain ⟨⟨t374, t375⟩, A80, H⟩ := H
    replace H : ((impl_PrefixText.f k t362 t363).bind fun bt376 => ((spec_PrefixText.f k t362 t363).bind fun bt378 => (if (t369 != t371) = true then (laws_FnPrefixes.j0 k l1 t368 t369 t372 bt376.1 bt376.2 true t362 t363 t364 t365) else (if (t368 != t370) = true then (laws_FnPrefixes.j0 k l1 t368 t369 t372 bt376.1 bt376.2 true t362 t363 t364 t365) else (if (t373 != t375) = true then (laws_FnPrefixes.j0 k l1 t368 t369 t372 bt376.1 bt376.2 true t362 t363 t364 t365) else (if t372 = t374 then (if (bt376.2 != bt378.2) = true then (laws_FnPrefixes.j0 k l1 t368 t369 t372 bt376.1 bt376.2 true t362 t363 t364 t365) else (if bt376.1.toList = bt378.1.toList then ((impl_GoodPrefix.f t362 t363).bind fun t380 => (laws_FnPrefixes.j0 k l1 t368 t369 t372 bt376.1 bt376.2 (t380 != bt378.2) t362 t363 t364 t365)) else (laws_FnPrefixes.j0 k l1 t368 t369 t372 bt376.1 bt376.2 true t362 t363 t364 t365))) else (laws_FnPrefixes.j0 k l1 t368 t369 t372 bt376.1 bt376.2 true t362 t363 t364 t365))))))) = some r := H
    have A8 := Aside0.mk A80
    clear A80
    replace H := Option.bind_eq_some_iff.mp H
    obtain ⟨⟨t376, t377⟩, A90, H⟩ := H
    replace H : ((spec_PrefixText.f k t362 t363).bind fun bt378 => (if (t369 != t371) = true then (laws_FnPrefixes.j0 k l1 t368 t369 t372 t376 t377 true t362 t363 t364 t365) else (if (t368 != t370) = true then (laws_FnPrefixes.j0 k l1 t368 t369 t372 t376 t377 true t362 t363 t364 t365) else (if (t373 != t375) = true then (laws_FnPrefixes.j0 k l1 t368 t369 t372 t376 t377 true t362 t363 t364 t365) else (if t372 = t374 then (if (t377 != bt378.2) = true then (laws_FnPrefixes.j0 k l1 t368 t369 t372 t376 t377 true t362 t363 t364 t365) else (if t376.toList = bt378.1.toList then ((impl_GoodPrefix.f t362 t363).bind fun t380 => (laws_FnPrefixes.j0 k l1 t368 t369 t372 t376 t377 (t380 != bt378.2) t362 t363 t364 t365)) else (laws_FnPrefixes.j0 k l1 t368 t369 t372 t376 t377 true t362 t363 t364 t365))) else (laws_FnPrefixes.j0 k l1 t368 t369 t372 t376 t377 true t362 t363 t364 t365)))))) = some r := H
    have A9 := Aside0.mk A90
    clear A90
    replace H := Option.bind_eq_some_iff.mp H
    obtain ⟨⟨t378, t379⟩, A100, H⟩ := H
    replace H : (if (t369 != t371) = true then (laws_FnPrefixes.j0 k l1 t368 t369 t372 t376 t377 true t362 t363 t364 t365) else (if (t368 != t370) = true then (laws_FnPrefixes.j0 k l1 t368 t369 t372 t376 t377 true t362 t363 t364 t365) else (if (t373 != t375) = true then (laws_FnPrefixes.j0 k l1 t368 t369 t372 t376 t377 true t362 t363 t364 t365) else (if t372 = t374 then (if (t377 != t379) = true then (laws_FnPrefixes.j0 k l1 t368 t369 t372 t376 t377 true t362 t363 t364 t365) else (if t376.toList = t378.toList then ((impl_GoodPrefix.f t362 t363).bind fun t380 => (laws_FnPrefixes.j0 k l1 t368 t369 t372 t376 t377 (t380 != t379) t362 t363 t364 t365)) else (laws_FnPrefixes.j0 k l1 t368 t369 t372 t376 t377 true t362 t363 t364 t365))) else (laws_FnPrefixes.j0 k l1 t368 t369 t372 t376 t377 true t362 t363 t364 t365))))) = some r := H
    have A10 := Aside0.mk A100
    clear A100
    have HC11 := Aside0.mk H
    clear H
    go_enter Tryz.func3, Tryz.ntmps3
    go_upto_region 10 with (first | ((with_reducible refine gate_callee (f := 4) rfl ?_); refine goesL_ (some 50) rfl rfl Tryz.func4 (by kernel_rfl) rfl #[.slice A0 l0.length c0] rfl (by (try simp only [List.map_toArray, List.map_cons, List.map_nil]); first | done | rfl | (simp only [List.length_drop, List.length_take]; rfl)) ?_; (with_reducible refine (spec_DrawPrefixHas.calls k _ _ l0 t362 t363 t364 t365 _ ?side1 ?side2 A4.out).mono ?_); (case side1 => repeat (first | exact HR0.out | (with_reducible refine Kd.C_alloc ?_ _) | (with_reducible refine Kd.C_drewN ?_ _) | (with_reducible refine Kd.C_drew ?_))); (case side2 => exact HC0.out); rintro e w12 ⟨rfl, hb⟩; refine ⟨_, rfl, ?_⟩; have n0_ := Aside0.mk (below_step (by repeat (first | (with_reducible first | exact HB.out | apply below_alloc | apply pw_below_drewN | apply below_drew1) | exact HB.out)) hb); clear HB; have HB := n0_; clear n0_; (try clear hb); (try clear hb2); (try clear hk); (try clear hi)) | ((with_reducible refine gate_dst (N := 5) rfl ?_); refine box_event ?hg (N := 5) ?hd (cs := #[.int .i64 0, .int .i64 0]) (t := 24) ?hr ?_; (case hd => rfl); (case hg => rfl); (case hr => first | (go_simp; done) | (go_simp; rfl)); intro gb366 hg w13 hbox hb; have n0_ := Aside0.mk (below_step (by repeat (first | (with_reducible first | exact HB.out | apply below_alloc | apply pw_below_drewN | apply below_drew1) | exact HB.out)) hb); have n1_ := Aside0.mk (hbox); have n2_ := Aside0.mk ((by rw [hg]; exact (below_size (by repeat (first | (with_reducible first | exact HB.out | apply below_alloc | apply pw_below_drewN | apply below_drew1) | exact HB.out))) : w.heap.size ≤ gb366)); have n3_ := Aside0.mk ((by rw [hg]; exact (below_size (by repeat (first | (with_reducible first | exact HB.out | apply below_alloc | apply pw_below_drewN | apply below_drew1) | exact HB.out))) : w.heap.size ≤ gb366)); clear HB; have HB := n0_; have BK366 := n1_; have GW366 := n2_; have GE366 := n3_; clear n0_ n1_ n2_ n3_; clear hb hbox hg) | ((with_reducible refine gate_dst (N := 6) rfl ?_); refine box_event ?hg (N := 6) ?hd (cs := #[.int .i64 0, .int .i64 0]) (t := 24) ?hr ?_; (case hd => rfl); (case hg => rfl); (case hr => first | (go_simp; done) | (go_simp; rfl)); intro gb367 hg w14 hbox hb; have n0_ := Aside0.mk (blk_below (g := gb366) (o := .cells #[.int .i64 0, .int .i64 0] 24 (0, 0)) (by (with_reducible repeat (first | refine blk_drewN ?_ _ | refine blk_drew ?_ | refine blk_alloc ?_ _)); exact BK366.out) hb); have n1_ := Aside0.mk (below_step (by repeat (first | (with_reducible first | exact HB.out | apply below_alloc | apply pw_below_drewN | apply below_drew1 | refine below_set ?_ GE366.out) | exact HB.out)) hb); have n2_ := Aside0.mk (hbox); have n3_ := Aside0.mk ((by rw [hg]; exact (below_size (by repeat (first | (with_reducible first | exact HB.out | apply below_alloc | apply pw_below_drewN | apply below_drew1 | refine below_set ?_ GE366.out) | exact HB.out))) : w.heap.size ≤ gb367)); have n4_ := Aside0.mk ((by rw [hg]; exact (below_size (by repeat (first | (with_reducible first | exact HB.out | apply below_alloc | apply pw_below_drewN | apply below_drew1 | refine below_set ?_ GE366.out) | exact HB.out))) : w.heap.size ≤ gb367)); have n5_ := Aside0.mk ((by rw [hg]; exact Nat.ne_of_lt (blk_lt (g := gb366) (o := .cells #[.int .i64 0, .int .i64 0] 24 (0, 0)) (by (with_reducible repeat (first | refine blk_drewN ?_ _ | refine blk_drew ?_ | refine blk_alloc ?_ _)); exact BK366.out)) : gb366 ≠ gb367)); have n6_ := Aside0.mk ((by rw [hg]; exact Nat.ne_of_gt (blk_lt (g := gb366) (o := .cells #[.int .i64 0, .int .i64 0] 24 (0, 0)) (by (with_reducible repeat (first | refine blk_drewN ?_ _ | refine blk_drew ?_ | refine blk_alloc ?_ _)); exact BK366.out)) : gb367 ≠ gb366)); clear BK366; clear HB; have BK366 := n0_; have HB := n1_; have BK367 := n2_; have GW367 := n3_; have GE367 := n4_; have NB366_367 := n5_; have NB367_366 := n6_; clear n0_ n1_ n2_ n3_ n4_ n5_ n6_; clear hb hbox hg; have hnb15 := NB366_367.out; have hnc15 := NB367_366.out; have hcz16_0 : w14.cell? ⟨gb366, 0, none⟩ = some (.int .i64 0) := (blk_cell BK366.out 0).trans rfl; have hcz16_1 : w14.cell? ⟨gb366, 1, none⟩ = some (.int .i64 0) := (blk_cell BK366.out 1).trans rfl; have hfz16_0 := blk_frozen BK366.out 0; have hfz16_1 := blk_frozen BK366.out 1; have hcz17_0 : w14.cell? ⟨gb367, 0, none⟩ = some (.int .i64 0) := (blk_cell BK367.out 0).trans rfl; have hcz17_1 : w14.cell? ⟨gb367, 1, none⟩ = some (.int .i64 0) := (blk_cell BK367.out 1).trans rfl; have hfz17_0 := blk_frozen BK367.out 0; have hfz17_1 := blk_frozen BK367.out 1) | ((with_reducible refine gate_callee (f := 5) rfl ?_); refine goesL_ (some 56) rfl rfl Tryz.func5 (by kernel_rfl) rfl #[.agg #[.int .i64 t362, .int .i64 t363], .agg #[.int .i64 t364, .int .i64 t365]] rfl (by (try simp only [List.map_toArray, List.map_cons, List.map_nil]); first | done | rfl | (simp only [List.length_drop, List.length_take]; rfl)) ?_; (with_reducible refine (impl_PrefixHas.calls t362 t363 t364 t365 t368 t369 _ A5.out).mono ?_); rintro e w18 ⟨rfl, hb⟩; refine ⟨_, rfl, ?_⟩; have n0_ := Aside0.mk (blk_below (g := gb366) (o := .cells #[.int .i64 t362, .int .i64 t363] 24 (0, 0)) (by (with_reducible repeat (first | refine blk_drewN ?_ _ | refine blk_drew ?_ | refine blk_alloc ?_ _)); refine blk_far ?_ NB366_367.out _; (with_reducible repeat (first | refine blk_drewN ?_ _ | refine blk_drew ?_ | refine blk_alloc ?_ _)); refine blk_far ?_ NB366_367.out _; (with_reducible repeat (first | refine blk_drewN ?_ _ | refine blk_drew ?_ | refine blk_alloc ?_ _)); refine blk_put (cs := #[.int .i64 t362, .int .i64 0]) ?_ 1 _ rfl; (with_reducible repeat (first | refine blk_drewN ?_ _ | refine blk_drew ?_ | refine blk_alloc ?_ _)); refine blk_put (cs := #[.int .i64 0, .int .i64 0]) ?_ 0 _ rfl; (with_reducible repeat (first | refine blk_drewN ?_ _ | refine blk_drew ?_ | refine blk_alloc ?_ _)); exact BK366.out) hb); have n1_ := Aside0.mk (blk_below (g := gb367) (o := .cells #[.int .i64 t364, .int .i64 t365] 24 (0, 0)) (by (with_reducible repeat (first | refine blk_drewN ?_ _ | refine blk_drew ?_ | refine blk_alloc ?_ _)); refine blk_put (cs := #[.int .i64 t364, .int .i64 0]) ?_ 1 _ rfl; (with_reducible repeat (first | refine blk_drewN ?_ _ | refine blk_drew ?_ | refine blk_alloc ?_ _)); refine blk_put (cs := #[.int .i64 0, .int .i64 0]) ?_ 0 _ rfl; (with_reducible repeat (first | refine blk_drewN ?_ _ | refine blk_drew ?_ | refine blk_alloc ?_ _)); refine blk_far ?_ NB367_366.out _; (with_reducible repeat (first | refine blk_drewN ?_ _ | refine blk_drew ?_ | refine blk_alloc ?_ _)); refine blk_far ?_ NB367_366.out _; (with_reducible repeat (first | refine blk_drewN ?_ _ | refine blk_drew ?_ | refine blk_alloc ?_ _)); exact BK367.out) hb); have n2_ := Aside0.mk (below_step (by repeat (first | (with_reducible first | exact HB.out | apply below_alloc | apply pw_below_drewN | apply below_drew1 | refine below_set ?_ GE366.out | refine below_set ?_ GE367.out) | exact HB.out)) hb); clear BK366; clear BK367; clear HB; have BK366 := n0_; have BK367 := n1_; have HB := n2_; clear n0_ n1_ n2_; (try clear hb); (try clear hb2); (try clear hk); (try clear hi); have hcz19_0 : w18.cell? ⟨gb366, 0, none⟩ = some (.int .i64 t362) := (blk_cell BK366.out 0).trans rfl; have hcz19_1 : w18.cell? ⟨gb366, 1, none⟩ = some (.int .i64 t363) := (blk_cell BK366.out 1).trans rfl; have hfz19_0 := blk_frozen BK366.out 0; have hfz19_1 := blk_frozen BK366.out 1; have hcz20_0 : w18.cell? ⟨gb367, 0, none⟩ = some (.int .i64 t364) := (blk_cell BK367.out 0).trans rfl; have hcz20_1 : w18.cell? ⟨gb367, 1, none⟩ = some (.int .i64 t365) := (blk_cell BK367.out 1).trans rfl; have hfz20_0 := blk_frozen BK367.out 0; have hfz20_1 := blk_frozen BK367.out 1) | ((with_reducible refine gate_callee (f := 6) rfl ?_); refine goesL_ (some 62) rfl rfl Tryz.func6 (by kernel_rfl) rfl #[.agg #[.int .i64 t362, .int .i64 t363], .agg #[.int .i64 t364, .int .i64 t365]] rfl (by (try simp only [List.map_toArray, List.map_cons, List.map_nil]); first | done | rfl | (simp only [List.length_drop, List.length_take]; rfl)) ?_; (with_reducible refine (spec_PrefixHas.calls t362 t363 t364 t365 t370 t371 _ A6.out).mono ?_); rintro e w21 ⟨rfl, hb⟩; refine ⟨_, rfl, ?_⟩; have n0_ := Aside0.mk (blk_below (g := gb366) (o := .cells #[.int .i64 t362, .int .i64 t363] 24 (0, 0)) (by (with_reducible repeat (first | refine blk_drewN ?_ _ | refine blk_drew ?_ | refine blk_alloc ?_ _)); exact BK366.out) hb); have n1_ := Aside0.mk (blk_below (g := gb367) (o := .cells #[.int .i64 t364, .int .i64 t365] 24 (0, 0)) (by (with_reducible repeat (first | refine blk_drewN ?_ _ | refine blk_drew ?_ | refine blk_alloc ?_ _)); exact BK367.out) hb); have n2_ := Aside0.mk (below_step (by repeat (first | (with_reducible first | exact HB.out | apply below_alloc | apply pw_below_drewN | apply below_drew1 | refine below_set ?_ GE366.out | refine below_set ?_ GE367.out) | exact HB.out)) hb); clear BK366; clear BK367; clear HB; have BK366 := n0_; have BK367 := n1_; have HB := n2_; clear n0_ n1_ n2_; (try clear hb); (try clear hb2); (try clear hk); (try clear hi); have hcz22_0 : w21.cell? ⟨gb366, 0, none⟩ = some (.int .i64 t362) := (blk_cell BK366.out 0).trans rfl; have hcz22_1 : w21.cell? ⟨gb366, 1, none⟩ = some (.int .i64 t363) := (blk_cell BK366.out 1).trans rfl; have hfz22_0 := blk_frozen BK366.out 0; have hfz22_1 := blk_frozen BK366.out 1; have hcz23_0 : w21.cell? ⟨gb367, 0, none⟩ = some (.int .i64 t364) := (blk_cell BK367.out 0).trans rfl; have hcz23_1 : w21.cell? ⟨gb367, 1, none⟩ = some (.int .i64 t365) := (blk_cell BK367.out 1).trans rfl; have hfz23_0 := blk_frozen BK367.out 0; have hfz23_1 := blk_frozen BK367.out 1) | ((with_reducible refine gate_callee (f := 7) rfl ?_); refine goesL_ (some 68) rfl rfl Tryz.func7 (by kernel_rfl) rfl #[.agg #[.int .i64 t362, .int .i64 t363], .agg #[.int .i64 t364, .int .i64 t365]] rfl (by (try simp only [List.map_toArray, List.map_cons, List.map_nil]); first | done | rfl | (simp only [List.length_drop, List.length_take]; rfl)) ?_; (with_reducible refine (impl_ComparePrefixes.calls k t362 t363 t364 t365 t372 t373 _ A7.out).mono ?_); rintro e w24 ⟨rfl, hb⟩; refine ⟨_, rfl, ?_⟩; have n0_ := Aside0.mk (blk_below (g := gb366) (o := .cells #[.int .i64 t362, .int .i64 t363] 24 (0, 0)) (by (with_reducible repeat (first | refine blk_drewN ?_ _ | refine blk_drew ?_ | refine blk_alloc ?_ _)); exact BK366.out) hb); have n1_ := Aside0.mk (blk_below (g := gb367) (o := .cells #[.int .i64 t364, .int .i64 t365] 24 (0, 0)) (by (with_reducible repeat (first | refine blk_drewN ?_ _ | refine blk_drew ?_ | refine blk_alloc ?_ _)); exact BK367.out) hb); have n2_ := Aside0.mk (below_step (by repeat (first | (with_reducible first | exact HB.out | apply below_alloc | apply pw_below_drewN | apply below_drew1 | refine below_set ?_ GE366.out | refine below_set ?_ GE367.out) | exact HB.out)) hb); clear BK366; clear BK367; clear HB; have BK366 := n0_; have BK367 := n1_; have HB := n2_; clear n0_ n1_ n2_; (try clear hb); (try clear hb2); (try clear hk); (try clear hi); have hcz25_0 : w24.cell? ⟨gb366, 0, none⟩ = some (.int .i64 t362) := (blk_cell BK366.out 0).trans rfl; have hcz25_1 : w24.cell? ⟨gb366, 1, none⟩ = some (.int .i64 t363) := (blk_cell BK366.out 1).trans rfl; have hfz25_0 := blk_frozen BK366.out 0; have hfz25_1 := blk_frozen BK366.out 1; have hcz26_0 : w24.cell? ⟨gb367, 0, none⟩ = some (.int .i64 t364) := (blk_cell BK367.out 0).trans rfl; have hcz26_1 : w24.cell? ⟨gb367, 1, none⟩ = some (.int .i64 t365) := (blk_cell BK367.out 1).trans rfl; have hfz26_0 := blk_frozen BK367.out 0; have hfz26_1 := blk_frozen BK367.out 1) | ((with_reducible refine gate_callee (f := 8) rfl ?_); refine goesL_ (some 74) rfl rfl Tryz.func8 (by kernel_rfl) rfl #[.agg #[.int .i64 t362, .int .i64 t363], .agg #[.int .i64 t364, .int .i64 t365]] rfl (by (try simp only [List.map_toArray, List.map_cons, List.map_nil]); first | done | rfl | (simp only [List.length_drop, List.length_take]; rfl)) ?_; (with_reducible refine (spec_ComparePrefixes.calls k t362 t363 t364 t365 t374 t375 _ A8.out).mono ?_); rintro e w27 ⟨rfl, hb⟩; refine ⟨_, rfl, ?_⟩; have n0_ := Aside0.mk (blk_below (g := gb366) (o := .cells #[.int .i64 t362, .int .i64 t363] 24 (0, 0)) (by (with_reducible repeat (first | refine blk_drewN ?_ _ | refine blk_drew ?_ | refine blk_alloc ?_ _)); exact BK366.out) hb); have n1_ := Aside0.mk (blk_below (g := gb367) (o := .cells #[.int .i64 t364, .int .i64 t365] 24 (0, 0)) (by (with_reducible repeat (first | refine blk_drewN ?_ _ | refine blk_drew ?_ | refine blk_alloc ?_ _)); exact BK367.out) hb); have n2_ := Aside0.mk (below_step (by repeat (first | (with_reducible first | exact HB.out | apply below_alloc | apply pw_below_drewN | apply below_drew1 | refine below_set ?_ GE366.out | refine below_set ?_ GE367.out) | exact HB.out)) hb); clear BK366; clear BK367; clear HB; have BK366 := n0_; have BK367 := n1_; have HB := n2_; clear n0_ n1_ n2_; (try clear hb); (try clear hb2); (try clear hk); (try clear hi); have hcz28_0 : w27.cell? ⟨gb366, 0, none⟩ = some (.int .i64 t362) := (blk_cell BK366.out 0).trans rfl; have hcz28_1 : w27.cell? ⟨gb366, 1, none⟩ = some (.int .i64 t363) := (blk_cell BK366.out 1).trans rfl; have hfz28_0 := blk_frozen BK366.out 0; have hfz28_1 := blk_frozen BK366.out 1) | ((with_reducible refine gate_callee (f := 9) rfl ?_); refine goesL_ (some 79) rfl rfl Tryz.func9 (by kernel_rfl) rfl #[.agg #[.int .i64 t362, .int .i64 t363]] rfl (by (try simp only [List.map_toArray, List.map_cons, List.map_nil]); first | done | rfl | (simp only [List.length_drop, List.length_take]; rfl)) ?_; (with_reducible refine (impl_PrefixText.calls k t362 t363 t376 t377 _ ?tab A9.out).mono ?_); (case tab => exact LaysR.All.below HTAB.out (by repeat (first | (with_reducible first | exact HB.out | apply below_alloc | apply pw_below_drewN | apply below_drew1 | refine below_set ?_ GE366.out | refine below_set ?_ GE367.out) | exact HB.out))); rintro e w29 ⟨rfl, hb⟩; refine ⟨_, rfl, ?_⟩; have n0_ := Aside0.mk (blk_below (g := gb366) (o := .cells #[.int .i64 t362, .int .i64 t363] 24 (0, 0)) (by (with_reducible repeat (first | refine blk_drewN ?_ _ | refine blk_drew ?_ | refine blk_alloc ?_ _)); exact BK366.out) hb); have n1_ := Aside0.mk (blk_below (g := gb367) (o := .cells #[.int .i64 t364, .int .i64 t365] 24 (0, 0)) (by (with_reducible repeat (first | refine blk_drewN ?_ _ | refine blk_drew ?_ | refine blk_alloc ?_ _)); exact BK367.out) hb); have n2_ := Aside0.mk (below_step (by repeat (first | (with_reducible first | exact HB.out | apply below_alloc | apply pw_below_drewN | apply below_drew1 | refine below_set ?_ GE366.out | refine below_set ?_ GE367.out) | exact HB.out)) hb); clear BK366; clear BK367; clear HB; have BK366 := n0_; have BK367 := n1_; have HB := n2_; clear n0_ n1_ n2_; (try clear hb); (try clear hb2); (try clear hk); (try clear hi); have hcz30_0 : w29.cell? ⟨gb366, 0, none⟩ = some (.int .i64 t362) := (blk_cell BK366.out 0).trans rfl; have hcz30_1 : w29.cell? ⟨gb366, 1, none⟩ = some (.int .i64 t363) := (blk_cell BK366.out 1).trans rfl; have hfz30_0 := blk_frozen BK366.out 0; have hfz30_1 := blk_frozen BK366.out 1) | ((with_reducible refine gate_callee (f := 10) rfl ?_); refine goesL_ (some 84) rfl rfl Tryz.func10 (by kernel_rfl) rfl #[.agg #[.int .i64 t362, .int .i64 t363]] rfl (by (try simp only [List.map_toArray, List.map_cons, List.map_nil]); first | done | rfl | (simp only [List.length_drop, List.length_take]; rfl)) ?_; (with_reducible refine (spec_PrefixText.calls k t362 t363 t378 t379 _ A10.out).mono ?_); rintro e w31 ⟨rfl, hb⟩; refine ⟨_, rfl, ?_⟩; have n0_ := Aside0.mk (blk_below (g := gb366) (o := .cells #[.int .i64 t362, .int .i64 t363] 24 (0, 0)) (by (with_reducible repeat (first | refine blk_drewN ?_ _ | refine blk_drew ?_ | refine blk_alloc ?_ _)); exact BK366.out) hb); have n1_ := Aside0.mk (blk_below (g := gb367) (o := .cells #[.int .i64 t364, .int .i64 t365] 24 (0, 0)) (by (with_reducible repeat (first | refine blk_drewN ?_ _ | refine blk_drew ?_ | refine blk_alloc ?_ _)); exact BK367.out) hb); have n2_ := Aside0.mk (below_step (by repeat (first | (with_reducible first | exact HB.out | apply below_alloc | apply pw_below_drewN | apply below_drew1 | refine below_set ?_ GE366.out | refine below_set ?_ GE367.out) | exact HB.out)) hb); clear BK366; clear BK367; clear HB; have BK366 := n0_; have BK367 := n1_; have HB := n2_; clear n0_ n1_ n2_; (try clear hb); (try clear hb2); (try clear hk); (try clear hi)))
    (try simp only [Act.put, List.setIfInBounds_toArray, List.set_cons_zero, List.set_cons_succ])
    go_cut [120] (fun v120 wc => ∃ (kq : Nat) (x120_10 : Bool), v120 = .bool x120_10 ∧ Aside0 (laws_FnPrefixes.j0 kq l1 t368 t369 t372 t376 t377 x120_10 t362 t363 t364 t365 = some r) ∧ Aside0 (kq ≤ k) ∧ Aside0 (wc.heap[gb366]? = some (.cells #[.int .i64 t362, .int .i64 t363] 24 (0, 0))) ∧ Aside0 (wc.heap[gb367]? = some (.cells #[.int .i64 t364, .int .i64 t365] 24 (0, 0))) ∧ Aside0 (Below w.heap.size w wc))
    case first => as_aux_lemma =>
      have H := HC11.out
      clear HC11
      by_cases c32 : (t369 != t371) = true
      · rw [if_pos c32] at H
        have c32b0 : (t369 != t371) = true := c32
        (try (have c32b1 : decide (t369 = t371) = false := by simpa using c32))
        (try (have c32b2 : (t369 == t371) = false := by simpa using c32))
        (try (have c32b3 : ¬ (t369 = t371) := by simpa using c32))
        clear c32
        (first | rw [c32b0] | (simp only [i64_w, i32_w]; rw [c32b0]) | skip)
        have H' := Aside0.mk H
        clear H
        go_wp2
        go_meet
        case rel => exact ⟨_, (true), (by first | rfl | (simp; done) | (simp [*]; done)), H', ⟨by first | omega | exact Nat.le_refl _⟩, ⟨by (with_reducible repeat (first | refine blk_drewN ?_ _ | refine blk_drew ?_ | refine blk_alloc ?_ _)); exact BK366.out⟩, ⟨by (with_reducible repeat (first | refine blk_drewN ?_ _ | refine blk_drew ?_ | refine blk_alloc ?_ _)); exact BK367.out⟩, ⟨by repeat (first | (with_reducible first | exact HB.out | apply below_alloc | apply pw_below_drewN | apply below_drew1 | refine below_set ?_ GE366.out | refine below_set ?_ GE367.out) | exact HB.out)⟩⟩
      · rw [if_neg c32] at H
        have c32b0 : (t369 != t371) = false := by simpa using c32
        (try (have c32b1 : decide (t369 = t371) = true := by simpa using c32))
        (try (have c32b2 : (t369 == t371) = true := by simpa using c32))
        clear c32
        (first | rw [c32b0] | (simp only [i64_w, i32_w]; rw [c32b0]) | skip)
        by_cases c33 : (t368 != t370) = true
        · rw [if_pos c33] at H
          have c33b0 : (t368 != t370) = true := c33
          (try (have c33b1 : decide (t368 = t370) = false := by simpa using c33))
          (try (have c33b2 : (t368 == t370) = false := by simpa using c33))
          (try (have c33b3 : ¬ (t368 = t370) := by simpa using c33))
          clear c33
          have H' := Aside0.mk H
          clear H
          go_wp2
          go_meet
          case rel => exact ⟨_, (true), (by first | rfl | (simp; done) | (simp [*]; done)), H', ⟨by first | omega | exact Nat.le_refl _⟩, ⟨by (with_reducible repeat (first | refine blk_drewN ?_ _ | refine blk_drew ?_ | refine blk_alloc ?_ _)); exact BK366.out⟩, ⟨by (with_reducible repeat (first | refine blk_drewN ?_ _ | refine blk_drew ?_ | refine blk_alloc ?_ _)); exact BK367.out⟩, ⟨by repeat (first | (with_reducible first | exact HB.out | apply below_alloc | apply pw_below_drewN | apply below_drew1 | refine below_set ?_ GE366.out | refine below_set ?_ GE367.out) | exact HB.out)⟩⟩
        · rw [if_neg c33] at H
          have c33b0 : (t368 != t370) = false := by simpa using c33
          (try (have c33b1 : decide (t368 = t370) = true := by simpa using c33))
          (try (have c33b2 : (t368 == t370) = true := by simpa using c33))
          clear c33
          by_cases c34 : (t373 != t375) = true
          · rw [if_pos c34] at H
            have c34b0 : (t373 != t375) = true := c34
            (try (have c34b1 : decide (t373 = t375) = false := by simpa using c34))
            (try (have c34b2 : (t373 == t375) = false := by simpa using c34))
            (try (have c34b3 : ¬ (t373 = t375) := by simpa using c34))
            clear c34
            have H' := Aside0.mk H
            clear H
            go_wp2
            go_meet
            case rel => exact ⟨_, (true), (by first | rfl | (simp; done) | (simp [*]; done)), H', ⟨by first | omega | exact Nat.le_refl _⟩, ⟨by (with_reducible repeat (first | refine blk_drewN ?_ _ | refine blk_drew ?_ | refine blk_alloc ?_ _)); exact BK366.out⟩, ⟨by (with_reducible repeat (first | refine blk_drewN ?_ _ | refine blk_drew ?_ | refine blk_alloc ?_ _)); exact BK367.out⟩, ⟨by repeat (first | (with_reducible first | exact HB.out | apply below_alloc | apply pw_below_drewN | apply below_drew1 | refine below_set ?_ GE366.out | refine below_set ?_ GE367.out) | exact HB.out)⟩⟩
          · rw [if_neg c34] at H
            have c34b0 : (t373 != t375) = false := by simpa using c34
            (try (have c34b1 : decide (t373 = t375) = true := by simpa using c34))
            (try (have c34b2 : (t373 == t375) = true := by simpa using c34))
            clear c34
            by_cases c35 : t372 = t374
            · rw [if_pos c35] at H
              have c35b0 : (t372 == t374) = true := beq_iff_eq.mpr c35
              have c35b1 : (t372 != t374) = false := bne_eq_false_iff_eq.mpr c35
              clear c35
              by_cases c36 : (t377 != t379) = true
              · rw [if_pos c36] at H
                have c36b0 : (t377 != t379) = true := c36
                (try (have c36b1 : decide (t377 = t379) = false := by simpa using c36))
                (try (have c36b2 : (t377 == t379) = false := by simpa using c36))
                (try (have c36b3 : ¬ (t377 = t379) := by simpa using c36))
                clear c36
                have H' := Aside0.mk H
                clear H
                go_wp2
                go_meet
                case rel => exact ⟨_, (true), (by first | rfl | (simp; done) | (simp [*]; done)), H', ⟨by first | omega | exact Nat.le_refl _⟩, ⟨by (with_reducible repeat (first | refine blk_drewN ?_ _ | refine blk_drew ?_ | refine blk_alloc ?_ _)); exact BK366.out⟩, ⟨by (with_reducible repeat (first | refine blk_drewN ?_ _ | refine blk_drew ?_ | refine blk_alloc ?_ _)); exact BK367.out⟩, ⟨by repeat (first | (with_reducible first | exact HB.out | apply below_alloc | apply pw_below_drewN | apply below_drew1 | refine below_set ?_ GE366.out | refine below_set ?_ GE367.out) | exact HB.out)⟩⟩
              · rw [if_neg c36] at H
                have c36b0 : (t377 != t379) = false := by simpa using c36
                (try (have c36b1 : decide (t377 = t379) = true := by simpa using c36))
                (try (have c36b2 : (t377 == t379) = true := by simpa using c36))
                clear c36
                by_cases c37 : t376.toList = t378.toList
                · rw [if_pos c37] at H
                  have c37b0 : (t376.toList == t378.toList) = true := beq_iff_eq.mpr c37
                  have c37b1 : (t376.toList != t378.toList) = false := bne_eq_false_iff_eq.mpr c37
                  clear c37
                  replace H := Option.bind_eq_some_iff.mp H
                  obtain ⟨t380, A380, H⟩ := H
                  replace H : (laws_FnPrefixes.j0 k l1 t368 t369 t372 t376 t377 (t380 != t379) t362 t363 t364 t365) = some r := H
                  have A38 := Aside0.mk A380
                  clear A380
                  have H' := Aside0.mk H
                  clear H
                  have hnb39 := NB366_367.out
                  have hnc39 := NB367_366.out
                  have hcz40_0 : w31.cell? ⟨gb366, 0, none⟩ = some (.int .i64 t362) := (blk_cell BK366.out 0).trans rfl
                  have hcz40_1 : w31.cell? ⟨gb366, 1, none⟩ = some (.int .i64 t363) := (blk_cell BK366.out 1).trans rfl
                  have hfz40_0 := blk_frozen BK366.out 0
                  have hfz40_1 := blk_frozen BK366.out 1
                  go_wp2_with (first | (go_at_call 11; (with_reducible refine (impl_GoodPrefix.calls t362 t363 t380 _ A38.out).mono ?_); rintro e w41 ⟨rfl, hb⟩; have n0_ := Aside0.mk (blk_below (g := gb366) (o := .cells #[.int .i64 t362, .int .i64 t363] 24 (0, 0)) (by (with_reducible repeat (first | refine blk_drewN ?_ _ | refine blk_drew ?_ | refine blk_alloc ?_ _)); exact BK366.out) hb); have n1_ := Aside0.mk (blk_below (g := gb367) (o := .cells #[.int .i64 t364, .int .i64 t365] 24 (0, 0)) (by (with_reducible repeat (first | refine blk_drewN ?_ _ | refine blk_drew ?_ | refine blk_alloc ?_ _)); exact BK367.out) hb); have n2_ := Aside0.mk (below_step (by repeat (first | (with_reducible first | exact HB.out | apply below_alloc | apply pw_below_drewN | apply below_drew1 | refine below_set ?_ GE366.out | refine below_set ?_ GE367.out) | exact HB.out)) hb); clear BK366; clear BK367; clear HB; have BK366 := n0_; have BK367 := n1_; have HB := n2_; clear n0_ n1_ n2_; (try clear hb); (try clear hb2); (try clear hk); (try clear hi)))
                  go_meet
                  case rel => exact ⟨_, ((t380 != t379)), (by first | rfl | (simp; done) | (simp [*]; done)), H', ⟨by first | omega | exact Nat.le_refl _⟩, ⟨by (with_reducible repeat (first | refine blk_drewN ?_ _ | refine blk_drew ?_ | refine blk_alloc ?_ _)); exact BK366.out⟩, ⟨by (with_reducible repeat (first | refine blk_drewN ?_ _ | refine blk_drew ?_ | refine blk_alloc ?_ _)); exact BK367.out⟩, ⟨by repeat (first | (with_reducible first | exact HB.out | apply below_alloc | apply pw_below_drewN | apply below_drew1 | refine below_set ?_ GE366.out | refine below_set ?_ GE367.out) | exact HB.out)⟩⟩
                · rw [if_neg c37] at H
                  have c37b0 : (t376.toList == t378.toList) = false := beq_eq_false_iff_ne.mpr c37
                  have c37b1 : (t376.toList != t378.toList) = true := bne_iff_ne.mpr c37
                  have H' := Aside0.mk H
                  clear H
                  go_wp2
                  go_meet
                  case rel => exact ⟨_, (true), (by first | rfl | (simp; done) | (simp [*]; done)), H', ⟨by first | omega | exact Nat.le_refl _⟩, ⟨by (with_reducible repeat (first | refine blk_drewN ?_ _ | refine blk_drew ?_ | refine blk_alloc ?_ _)); exact BK366.out⟩, ⟨by (with_reducible repeat (first | refine blk_drewN ?_ _ | refine blk_drew ?_ | refine blk_alloc ?_ _)); exact BK367.out⟩, ⟨by repeat (first | (with_reducible first | exact HB.out | apply below_alloc | apply pw_below_drewN | apply below_drew1 | refine below_set ?_ GE366.out | refine below_set ?_ GE367.out) | exact HB.out)⟩⟩
            · rw [if_neg c35] at H
              have c35b0 : (t372 == t374) = false := beq_eq_false_iff_ne.mpr c35
              have c35b1 : (t372 != t374) = true := bne_iff_ne.mpr c35
              have H' := Aside0.mk H
              clear H
              go_wp2
              go_meet
              case rel => exact ⟨_, (true), (by first | rfl | (simp; done) | (simp [*]; done)), H', ⟨by first | omega | exact Nat.le_refl _⟩, ⟨by (with_reducible repeat (first | refine blk_drewN ?_ _ | refine blk_drew ?_ | refine blk_alloc ?_ _)); exact BK366.out⟩, ⟨by (with_reducible repeat (first | refine blk_drewN ?_ _ | refine blk_drew ?_ | refine blk_alloc ?_ _)); exact BK367.out⟩, ⟨by repeat (first | (with_reducible first | exact HB.out | apply below_alloc | apply pw_below_drewN | apply below_drew1 | refine below_set ?_ GE366.out | refine below_set ?_ GE367.out) | exact HB.out)⟩⟩
    case rest => as_aux_lemma =>
      clear HC11
      try clear c1
      try clear p2
      try clear c3
      try clear c3b0
      try clear c4
      try clear c5
      try clear c6
      try clear p6
      try clear c7
      try clear c8
      try clear c9
      try clear c10
      try clear c15
      try clear c32
      try clear c32b0
      try clear c32b1
      try clear c32b2
      try clear c33
      try clear c33b0
      try clear c33b1
      try clear c33b2
      try clear c34
      try clear c34b0
      try clear c34b1
      try clear c34b2
      try clear c35
      try clear c35b0
      try clear c35b1
      try clear c36
      try clear c36b0
      try clear c36b1
      try clear c36b2
      try clear c37
      try clear c37b0
      try clear c37b1
      try clear c39
      try clear hcz16_0
      try clear hcz16_1
      try clear hcz17_0
      try clear hcz17_1
      try clear hcz19_0
      try clear hcz19_1
      try clear hcz20_0
      try clear hcz20_1
      try clear hcz22_0
      try clear hcz22_1
      try clear hcz23_0
      try clear hcz23_1
      try clear hcz25_0
      try clear hcz25_1
      try clear hcz26_0
      try clear hcz26_1
      try clear hcz28_0
      try clear hcz28_1
      try clear hcz30_0
      try clear hcz30_1
      try clear hcz40_0
      try clear hcz40_1
      try clear hfz16_0
      try clear hfz16_1
      try clear hfz17_0
      try clear hfz17_1
      try clear hfz19_0
      try clear hfz19_1
      try clear hfz20_0
      try clear hfz20_1
      try clear hfz22_0
      try clear hfz22_1
      try clear hfz23_0
      try clear hfz23_1
      try clear hfz25_0
      try clear hfz25_1
      try clear hfz26_0
      try clear hfz26_1
      try clear hfz28_0
      try clear hfz28_1
      try clear hfz30_0
      try clear hfz30_1
      try clear hfz40_0
      try clear hfz40_1
      obtain ⟨kq, x120_10, rfl, HA, HJ10, BK366, BK367, HB⟩ := hcut
      cases kq with
      | zero => exact absurd HA.out (by simp [laws_FnPrefixes.j0])
      | succ kj10 =>
        have H := HA.out
        clear HA
        simp only [laws_FnPrefixes.j0] at H
        by_cases c42 : x120_10 = true
        · subst c42
          have H1 : (some false) = some r := by rw [if_pos rfl] at H; exact H
          clear H
          have H := H1
          clear H1
          obtain rfl := Option.some.inj H
          cases hT
        · replace c42 := Bool.eq_false_iff.mpr c42
          subst c42
          have H1 : (if t377 = true then ((impl_ReadPrefix.f kj10 t376).bind fun bt381 => (if bt381.2.2 = true then (if (!(bt381.1 == t362) || (!(bt381.2.1 == t363))) = true then (some false) else (laws_FnPrefixes.j1 kj10 l1 t368 t369 t372 t362 t363 t364 t365)) else (some false))) else (laws_FnPrefixes.j1 kj10 l1 t368 t369 t372 t362 t363 t364 t365)) = some r := by rw [if_neg (show ¬ (false = true) by decide)] at H; exact H
          clear H
          have H := H1
          clear H1
          have HC43 := Aside0.mk H
          clear H
          go_upto_if 121 with (fail)
          go_cut [] (fun wc => ∃ (kq : Nat), Aside0 (laws_FnPrefixes.j1 kq l1 t368 t369 t372 t362 t363 t364 t365 = some r) ∧ Aside0 (kq ≤ kj10) ∧ Aside0 (wc.heap[gb366]? = some (.cells #[.int .i64 t362, .int .i64 t363] 24 (0, 0))) ∧ Aside0 (wc.heap[gb367]? = some (.cells #[.int .i64 t364, .int .i64 t365] 24 (0, 0))) ∧ Aside0 (Below w.heap.size w wc))
          case first => as_aux_lemma =>
            have H := HC43.out
            clear HC43
            by_cases c44 : t377 = true
            · subst c44
              have H1 : ((impl_ReadPrefix.f kj10 t376).bind fun bt381 => (if bt381.2.2 = true then (if (!(bt381.1 == t362) || (!(bt381.2.1 == t363))) = true then (some false) else (laws_FnPrefixes.j1 kj10 l1 t368 t369 t372 t362 t363 t364 t365)) else (some false))) = some r := by rw [if_pos rfl] at H; exact H
              clear H
              have H := H1
              clear H1
              replace H := Option.bind_eq_some_iff.mp H
              obtain ⟨⟨t381, t382, t383⟩, A450, H⟩ := H
              replace H : (if t383 = true then (if (!(t381 == t362) || (!(t382 == t363))) = true then (some false) else (laws_FnPrefixes.j1 kj10 l1 t368 t369 t372 t362 t363 t364 t365)) else (some false)) = some r := H
              have A45 := Aside0.mk A450
              clear A450
              by_cases c46 : t383 = true
              · subst c46
                have H1 : (if (!(t381 == t362) || (!(t382 == t363))) = true then (some false) else (laws_FnPrefixes.j1 kj10 l1 t368 t369 t372 t362 t363 t364 t365)) = some r := by rw [if_pos rfl] at H; exact H
                clear H
                have H := H1
                clear H1
                by_cases c47 : (!(t381 == t362) || (!(t382 == t363))) = true
                · rw [if_pos c47] at H
                  have c47b0 : (!(t381 == t362) || (!(t382 == t363))) = true := c47
                  clear c47
                  (first | rw [c47b0] | (simp only [i64_w, i32_w]; rw [c47b0]) | skip)
                  obtain rfl := Option.some.inj H
                  cases hT
                · rw [if_neg c47] at H
                  have c47b0 : (!(t381 == t362) || (!(t382 == t363))) = false := by simpa using c47
                  clear c47
                  (first | rw [c47b0] | (simp only [i64_w, i32_w]; rw [c47b0]) | skip)
                  have H' := Aside0.mk H
                  clear H
                  go_wp2_with (first | ((with_reducible refine gate_callee (f := 12) rfl ?_); refine goesL_ (some 124) rfl rfl Tryz.func12 (by kernel_rfl) rfl #[.string t376] rfl (by (try simp only [List.map_toArray, List.map_cons, List.map_nil]); first | done | rfl | (simp only [List.length_drop, List.length_take]; rfl)) ?_; (with_reducible refine (impl_ReadPrefix.calls kj10 t376 t381 t382 true _ ?tab A45.out).mono ?_); (case tab => exact LaysR.All.below HTAB.out (by repeat (first | (with_reducible first | exact HB.out | apply below_alloc | apply pw_below_drewN | apply below_drew1 | refine below_set ?_ GE366.out | refine below_set ?_ GE367.out) | exact HB.out))); rintro e w48 ⟨rfl, hb⟩; refine ⟨_, rfl, ?_⟩; have n0_ := Aside0.mk (blk_below (g := gb366) (o := .cells #[.int .i64 t362, .int .i64 t363] 24 (0, 0)) (by (with_reducible repeat (first | refine blk_drewN ?_ _ | refine blk_drew ?_ | refine blk_alloc ?_ _)); exact BK366.out) hb); have n1_ := Aside0.mk (blk_below (g := gb367) (o := .cells #[.int .i64 t364, .int .i64 t365] 24 (0, 0)) (by (with_reducible repeat (first | refine blk_drewN ?_ _ | refine blk_drew ?_ | refine blk_alloc ?_ _)); exact BK367.out) hb); have n2_ := Aside0.mk (below_step (by repeat (first | (with_reducible first | exact HB.out | apply below_alloc | apply pw_below_drewN | apply below_drew1 | refine below_set ?_ GE366.out | refine below_set ?_ GE367.out) | exact HB.out)) hb); clear BK366; clear BK367; clear HB; have BK366 := n0_; have BK367 := n1_; have HB := n2_; clear n0_ n1_ n2_; (try clear hb); (try clear hb2); (try clear hk); (try clear hi)) | ((with_reducible refine gate_dst (N := 19) rfl ?_); refine box_event ?hg (N := 19) ?hd (cs := #[.int .i64 0, .int .i64 0]) (t := 24) ?hr ?_; (case hd => rfl); (case hg => rfl); (case hr => first | (go_simp; done) | (go_simp; rfl)); intro gb384 hg w49 hbox hb; have n0_ := Aside0.mk (blk_below (g := gb366) (o := .cells #[.int .i64 t362, .int .i64 t363] 24 (0, 0)) (by (with_reducible repeat (first | refine blk_drewN ?_ _ | refine blk_drew ?_ | refine blk_alloc ?_ _)); exact BK366.out) hb); have n1_ := Aside0.mk (blk_below (g := gb367) (o := .cells #[.int .i64 t364, .int .i64 t365] 24 (0, 0)) (by (with_reducible repeat (first | refine blk_drewN ?_ _ | refine blk_drew ?_ | refine blk_alloc ?_ _)); exact BK367.out) hb); have n2_ := Aside0.mk (below_step (by repeat (first | (with_reducible first | exact HB.out | apply below_alloc | apply pw_below_drewN | apply below_drew1 | refine below_set ?_ GE366.out | refine below_set ?_ GE367.out) | exact HB.out)) hb); have n3_ := Aside0.mk (hbox); have n4_ := Aside0.mk ((by rw [hg]; exact (below_size (by repeat (first | (with_reducible first | exact HB.out | apply below_alloc | apply pw_below_drewN | apply below_drew1 | refine below_set ?_ GE366.out | refine below_set ?_ GE367.out) | exact HB.out))) : w.heap.size ≤ gb384)); have n5_ := Aside0.mk ((by rw [hg]; exact (below_size (by repeat (first | (with_reducible first | exact HB.out | apply below_alloc | apply pw_below_drewN | apply below_drew1 | refine below_set ?_ GE366.out | refine below_set ?_ GE367.out) | exact HB.out))) : w.heap.size ≤ gb384)); have n6_ := Aside0.mk ((by rw [hg]; exact Nat.ne_of_lt (blk_lt (g := gb366) (o := .cells #[.int .i64 t362, .int .i64 t363] 24 (0, 0)) (by (with_reducible repeat (first | refine blk_drewN ?_ _ | refine blk_drew ?_ | refine blk_alloc ?_ _)); exact BK366.out)) : gb366 ≠ gb384)); have n7_ := Aside0.mk ((by rw [hg]; exact Nat.ne_of_gt (blk_lt (g := gb366) (o := .cells #[.int .i64 t362, .int .i64 t363] 24 (0, 0)) (by (with_reducible repeat (first | refine blk_drewN ?_ _ | refine blk_drew ?_ | refine blk_alloc ?_ _)); exact BK366.out)) : gb384 ≠ gb366)); have n8_ := Aside0.mk ((by rw [hg]; exact Nat.ne_of_lt (blk_lt (g := gb367) (o := .cells #[.int .i64 t364, .int .i64 t365] 24 (0, 0)) (by (with_reducible repeat (first | refine blk_drewN ?_ _ | refine blk_drew ?_ | refine blk_alloc ?_ _)); exact BK367.out)) : gb367 ≠ gb384)); have n9_ := Aside0.mk ((by rw [hg]; exact Nat.ne_of_gt (blk_lt (g := gb367) (o := .cells #[.int .i64 t364, .int .i64 t365] 24 (0, 0)) (by (with_reducible repeat (first | refine blk_drewN ?_ _ | refine blk_drew ?_ | refine blk_alloc ?_ _)); exact BK367.out)) : gb384 ≠ gb367)); clear BK366; clear BK367; clear HB; have BK366 := n0_; have BK367 := n1_; have HB := n2_; have BK384 := n3_; have GW384 := n4_; have GE384 := n5_; have NB366_384 := n6_; have NB384_366 := n7_; have NB367_384 := n8_; have NB384_367 := n9_; clear n0_ n1_ n2_ n3_ n4_ n5_ n6_ n7_ n8_ n9_; clear hb hbox hg; have hnb50 := NB384_366.out; have hnc50 := NB366_384.out; have hnb51 := NB384_367.out; have hnc51 := NB367_384.out; have hcz52_0 : w49.cell? ⟨gb384, 0, none⟩ = some (.int .i64 0) := (blk_cell BK384.out 0).trans rfl; have hcz52_1 : w49.cell? ⟨gb384, 1, none⟩ = some (.int .i64 0) := (blk_cell BK384.out 1).trans rfl; have hfz52_0 := blk_frozen BK384.out 0; have hfz52_1 := blk_frozen BK384.out 1; have hnb53 := NB366_367.out; have hnc53 := NB367_366.out; have hcz54_0 : w49.cell? ⟨gb366, 0, none⟩ = some (.int .i64 t362) := (blk_cell BK366.out 0).trans rfl; have hcz54_1 : w49.cell? ⟨gb366, 1, none⟩ = some (.int .i64 t363) := (blk_cell BK366.out 1).trans rfl; have hfz54_0 := blk_frozen BK366.out 0; have hfz54_1 := blk_frozen BK366.out 1))
                  go_meet
                  case rel => exact ⟨_, H', ⟨by have := HJ10.out; first | omega | exact Nat.le_refl _⟩, ⟨by (with_reducible repeat (first | refine blk_drewN ?_ _ | refine blk_drew ?_ | refine blk_alloc ?_ _)); refine blk_far ?_ NB366_384.out _; (with_reducible repeat (first | refine blk_drewN ?_ _ | refine blk_drew ?_ | refine blk_alloc ?_ _)); refine blk_far ?_ NB366_384.out _; (with_reducible repeat (first | refine blk_drewN ?_ _ | refine blk_drew ?_ | refine blk_alloc ?_ _)); exact BK366.out⟩, ⟨by (with_reducible repeat (first | refine blk_drewN ?_ _ | refine blk_drew ?_ | refine blk_alloc ?_ _)); refine blk_far ?_ NB367_384.out _; (with_reducible repeat (first | refine blk_drewN ?_ _ | refine blk_drew ?_ | refine blk_alloc ?_ _)); refine blk_far ?_ NB367_384.out _; (with_reducible repeat (first | refine blk_drewN ?_ _ | refine blk_drew ?_ | refine blk_alloc ?_ _)); exact BK367.out⟩, ⟨by repeat (first | (with_reducible first | exact HB.out | apply below_alloc | apply pw_below_drewN | apply below_drew1 | refine below_set ?_ GE366.out | refine below_set ?_ GE367.out | refine below_set ?_ GE384.out) | exact HB.out)⟩⟩
              · replace c46 := Bool.eq_false_iff.mpr c46
                subst c46
                have H1 : (some false) = some r := by rw [if_neg (show ¬ (false = true) by decide)] at H; exact H
                clear H
                have H := H1
                clear H1
                obtain rfl := Option.some.inj H
                cases hT
            · replace c44 := Bool.eq_false_iff.mpr c44
              subst c44
              have H1 : (laws_FnPrefixes.j1 kj10 l1 t368 t369 t372 t362 t363 t364 t365) = some r := by rw [if_neg (show ¬ (false = true) by decide)] at H; exact H
              clear H
              have H := H1
              clear H1
              have H' := Aside0.mk H
              clear H
              go_wp2
              go_meet
              case rel => exact ⟨_, H', ⟨by have := HJ10.out; first | omega | exact Nat.le_refl _⟩, ⟨by (with_reducible repeat (first | refine blk_drewN ?_ _ | refine blk_drew ?_ | refine blk_alloc ?_ _)); exact BK366.out⟩, ⟨by (with_reducible repeat (first | refine blk_drewN ?_ _ | refine blk_drew ?_ | refine blk_alloc ?_ _)); exact BK367.out⟩, ⟨by repeat (first | (with_reducible first | exact HB.out | apply below_alloc | apply pw_below_drewN | apply below_drew1 | refine below_set ?_ GE366.out | refine below_set ?_ GE367.out) | exact HB.out)⟩⟩
          case rest => as_aux_lemma =>
            clear HC43
            try clear c1
            try clear p2
            try clear c3
            try clear c3b0
            try clear c4
            try clear c5
            try clear c6
            try clear p6
            try clear c7
            try clear c8
            try clear c9
            try clear c10
            try clear c12
            try clear c15
            try clear c32
            try clear c32b0
            try clear c32b1
            try clear c32b2
            try clear c33
            try clear c33b0
            try clear c33b1
            try clear c33b2
            try clear c34
            try clear c34b0
            try clear c34b1
            try clear c34b2
            try clear c35
            try clear c35b0
            try clear c35b1
            try clear c36
            try clear c36b0
            try clear c36b1
            try clear c36b2
            try clear c37
            try clear c37b0
            try clear c37b1
            try clear c39
            try clear c42
            try clear c44
            try clear c46
            try clear c47
            try clear c47b0
            try clear c50
            try clear c51
            try clear c53
            try clear hcz16_0
            try clear hcz16_1
            try clear hcz17_0
            try clear hcz17_1
            try clear hcz19_0
            try clear hcz19_1
            try clear hcz20_0
            try clear hcz20_1
            try clear hcz22_0
            try clear hcz22_1
            try clear hcz23_0
            try clear hcz23_1
            try clear hcz25_0
            try clear hcz25_1
            try clear hcz26_0
            try clear hcz26_1
            try clear hcz28_0
            try clear hcz28_1
            try clear hcz30_0
            try clear hcz30_1
            try clear hcz40_0
            try clear hcz40_1
            try clear hcz52_0
            try clear hcz52_1
            try clear hcz54_0
            try clear hcz54_1
            try clear hfz16_0
            try clear hfz16_1
            try clear hfz17_0
            try clear hfz17_1
            try clear hfz19_0
            try clear hfz19_1
            try clear hfz20_0
            try clear hfz20_1
            try clear hfz22_0
            try clear hfz22_1
            try clear hfz23_0
            try clear hfz23_1
            try clear hfz25_0
            try clear hfz25_1
            try clear hfz26_0
            try clear hfz26_1
            try clear hfz28_0
            try clear hfz28_1
            try clear hfz30_0
            try clear hfz30_1
            try clear hfz40_0
            try clear hfz40_1
            try clear hfz52_0
            try clear hfz52_1
            try clear hfz54_0
            try clear hfz54_1
            try clear p2
            try clear p6
            obtain ⟨kq, HA, HJ42, BK366, BK367, HB⟩ := hcut
            cases kq with
            | zero => exact absurd HA.out (by simp [laws_FnPrefixes.j1])
            | succ kj42 =>
              have H := HA.out
              clear HA
              simp only [laws_FnPrefixes.j1] at H
              have HC55 := Aside0.mk H
              clear H
              go_upto_if 134 with (fail)
              go_cut [] (fun wc => ∃ (kq : Nat), Aside0 (laws_FnPrefixes.j3 kq l1 = some r) ∧ Aside0 (kq ≤ kj42) ∧ Aside0 (wc.heap[gb366]? = some (.cells #[.int .i64 t362, .int .i64 t363] 24 (0, 0))) ∧ Aside0 (wc.heap[gb367]? = some (.cells #[.int .i64 t364, .int .i64 t365] 24 (0, 0))) ∧ Aside0 (Below w.heap.size w wc))
              case first => as_aux_lemma =>
                have H := HC55.out
                clear HC55
                by_cases c56 : t369 = true
                · subst c56
                  have H1 : (laws_FnPrefixes.l0 kj42 l1 t368 t372 t364 t365 t362 t363 t364 t365) = some r := by rw [if_pos rfl] at H; exact H
                  clear H
                  have H := H1
                  clear H1
                  have H' := Aside0.mk H
                  clear H
                  have hnb57 := NB367_366.out
                  have hnc57 := NB366_367.out
                  have hcz58_0 : wc.cell? ⟨gb367, 0, none⟩ = some (.int .i64 t364) := (blk_cell BK367.out 0).trans rfl
                  have hcz58_1 : wc.cell? ⟨gb367, 1, none⟩ = some (.int .i64 t365) := (blk_cell BK367.out 1).trans rfl
                  have hfz58_0 := blk_frozen BK367.out 0
                  have hfz58_1 := blk_frozen BK367.out 1
                  go_wp2
                  go_loopg [21, 22] kj42 (fun kq v21 v22 w' => ∃ (x21_3 : Int) (x22_3 : Int), v21 = .int .i64 x21_3 ∧ v22 = .int .i64 x22_3 ∧ Aside0 (laws_FnPrefixes.l0 kq l1 t368 t372 x21_3 x22_3 t362 t363 t364 t365 = some r) ∧ Aside0 (kq ≤ kj42) ∧ Aside0 (w'.heap[gb366]? = some (.cells #[.int .i64 t362, .int .i64 t363] 24 (0, 0))) ∧ Aside0 (w'.heap[gb367]? = some (.cells #[.int .i64 t364, .int .i64 t365] 24 (0, 0))) ∧ Aside0 (Below w.heap.size w w'))
                  case atStart => exact ⟨(t364), (t365), (by first | rfl | (simp; done) | (simp [*]; done)), (by first | rfl | (simp; done) | (simp [*]; done)), H', ⟨Nat.le_refl _⟩, ⟨by (with_reducible repeat (first | refine blk_drewN ?_ _ | refine blk_drew ?_ | refine blk_alloc ?_ _)); exact BK366.out⟩, ⟨by (with_reducible repeat (first | refine blk_drewN ?_ _ | refine blk_drew ?_ | refine blk_alloc ?_ _)); exact BK367.out⟩, ⟨by repeat (first | (with_reducible first | exact HB.out | apply below_alloc | apply pw_below_drewN | apply below_drew1 | refine below_set ?_ GE366.out | refine below_set ?_ GE367.out) | exact HB.out)⟩⟩
                  case round => as_aux_lemma =>
                    clear H'
                    try clear c1
                    try clear p2
                    try clear c3
                    try clear c3b0
                    try clear c4
                    try clear c5
                    try clear c6
                    try clear p6
                    try clear c7
                    try clear c8
                    try clear c9
                    try clear c10
                    try clear c12
                    try clear c15
                    try clear c32
                    try clear c32b0
                    try clear c32b1
                    try clear c32b2
                    try clear c33
                    try clear c33b0
                    try clear c33b1
                    try clear c33b2
                    try clear c34
                    try clear c34b0
                    try clear c34b1
                    try clear c34b2
                    try clear c35
                    try clear c35b0
                    try clear c35b1
                    try clear c36
                    try clear c36b0
                    try clear c36b1
                    try clear c36b2
                    try clear c37
                    try clear c37b0
                    try clear c37b1
                    try clear c39
                    try clear c42
                    try clear c44
                    try clear c46
                    try clear c47
                    try clear c47b0
                    try clear c50
                    try clear c51
                    try clear c53
                    try clear c56
                    try clear c57
                    try clear hcz16_0
                    try clear hcz16_1
                    try clear hcz17_0
                    try clear hcz17_1
                    try clear hcz19_0
                    try clear hcz19_1
                    try clear hcz20_0
                    try clear hcz20_1
                    try clear hcz22_0
                    try clear hcz22_1
                    try clear hcz23_0
                    try clear hcz23_1
                    try clear hcz25_0
                    try clear hcz25_1
                    try clear hcz26_0
                    try clear hcz26_1
                    try clear hcz28_0
                    try clear hcz28_1
                    try clear hcz30_0
                    try clear hcz30_1
                    try clear hcz40_0
                    try clear hcz40_1
                    try clear hcz52_0
                    try clear hcz52_1
                    try clear hcz54_0
                    try clear hcz54_1
                    try clear hcz58_0
                    try clear hcz58_1
                    try clear hfz16_0
                    try clear hfz16_1
                    try clear hfz17_0
                    try clear hfz17_1
                    try clear hfz19_0
                    try clear hfz19_1
                    try clear hfz20_0
                    try clear hfz20_1
                    try clear hfz22_0
                    try clear hfz22_1
                    try clear hfz23_0
                    try clear hfz23_1
                    try clear hfz25_0
                    try clear hfz25_1
                    try clear hfz26_0
                    try clear hfz26_1
                    try clear hfz28_0
                    try clear hfz28_1
                    try clear hfz30_0
                    try clear hfz30_1
                    try clear hfz40_0
                    try clear hfz40_1
                    try clear hfz52_0
                    try clear hfz52_1
                    try clear hfz54_0
                    try clear hfz54_1
                    try clear hfz58_0
                    try clear hfz58_1
                    try clear p2
                    try clear p6
                    obtain ⟨x21_3, x22_3, rfl, rfl, HA, HK3, BK366, BK367, HB⟩ := hrel
                    cases gk with
                    | zero => exact absurd HA.out (by simp [laws_FnPrefixes.l0])
                    | succ k3 =>
                      have H := HA.out
                      clear HA
                      simp only [laws_FnPrefixes.l0] at H
                      by_cases c59 : x22_3 < 32
                      · rw [if_pos c59] at H
                        have c59b0 : decide (x22_3 < 32) = true := decide_eq_true c59
                        clear c59
                        (first | rw [c59b0] | (simp only [i64_w, i32_w]; rw [c59b0]) | skip)
                        obtain ⟨ji60, hji60⟩ : ∃ j_ : Int, (IntKind.u64.wrap (wrap64 (31 - x22_3))) = j_ := ⟨_, rfl⟩
                        replace H : (if 0 ≤ (ji60) then (laws_FnPrefixes.l0 k3 l1 t368 t372 (wrap64 (x21_3 + (shl .i64 1 (ji60)))) (wrap64 (x22_3 + 1)) t362 t363 t364 t365) else (none)) = some r := by first | (rw [hji60] at H; exact H) | (simp only [hji60] at H ⊢; exact H)
                        by_cases c61 : 0 ≤ (ji60)
                        · rw [if_pos c61] at H
                          have c61b0 := eq_true c61
                          have c61b1 : decide (0 ≤ (ji60)) = true := decide_eq_true c61
                          clear c61
                          obtain ⟨ji62, hji62⟩ : ∃ j_ : Int, (shl .i64 1 (ji60)) = j_ := ⟨_, rfl⟩
                          replace H : (laws_FnPrefixes.l0 k3 l1 t368 t372 (wrap64 (x21_3 + (ji62))) (wrap64 (x22_3 + 1)) t362 t363 t364 t365) = some r := by first | (rw [hji62] at H; exact H) | (simp only [hji62] at H ⊢; exact H)
                          have hji62_ : (IntKind.i64.wrap (1 * 2 ^ min (ji60).toNat 64)) = ji62 := hji62
                          have hji62z : (ji60) ≤ 64 → (IntKind.i64.wrap (1 * 2 ^ (ji60).toNat)) = ji62 := shl_small hji62
                          have hji62u : (IntKind.i64.wrap (2 ^ min (ji60).toNat 64)) = ji62 := by have h_ := hji62_; rw [Int.one_mul] at h_; exact h_
                          have hji62v : (ji60) ≤ 64 → (IntKind.i64.wrap (2 ^ (ji60).toNat)) = ji62 := fun hle_ => by have h_ := hji62z hle_; rw [Int.one_mul] at h_; exact h_
                          have hji62y : (wrap64 (1 * 2 ^ min (ji60).toNat 64)) = ji62 := (i64_w _).symm.trans hji62_
                          have hji62x : (ji60) ≤ 64 → (wrap64 (1 * 2 ^ (ji60).toNat)) = ji62 := fun h_ => (i64_w _).symm.trans (hji62z h_)
                          have H' := Aside0.mk H
                          clear H
                          go_wp2
                          go_roundg k3
                          case measure => have := HJ10.out; have := HJ42.out; have := HK3.out; omega
                          case rel => exact ⟨(wrap64 (x21_3 + (ji62))), (wrap64 (x22_3 + 1)), (by first | rfl | (simp; done) | (simp only [← hji62] <;> (first | rfl | simp)) | (simp [*]; done)), (by first | rfl | (simp; done) | (simp [*]; done)), H', ⟨by have := HJ10.out; have := HJ42.out; have := HK3.out; omega⟩, ⟨by (with_reducible repeat (first | refine blk_drewN ?_ _ | refine blk_drew ?_ | refine blk_alloc ?_ _)); exact BK366.out⟩, ⟨by (with_reducible repeat (first | refine blk_drewN ?_ _ | refine blk_drew ?_ | refine blk_alloc ?_ _)); exact BK367.out⟩, ⟨by repeat (first | (with_reducible first | exact HB.out | apply below_alloc | apply pw_below_drewN | apply below_drew1 | refine below_set ?_ GE366.out | refine below_set ?_ GE367.out) | exact HB.out)⟩⟩
                        · rw [if_neg c61] at H
                          exact absurd H (by simp)
                      · rw [if_neg c59] at H
                        have c59b0 : decide (x22_3 < 32) = false := decide_eq_false c59
                        clear c59
                        (first | rw [c59b0] | (simp only [i64_w, i32_w]; rw [c59b0]) | skip)
                        replace H := Option.bind_eq_some_iff.mp H
                        obtain ⟨⟨t385, t386⟩, A630, H⟩ := H
                        replace H : ((impl_HasAddr.f t362 t363 x21_3).bind fun bt387 => ((impl_ComparePrefixes.f k3 t364 t365 t362 t363).bind fun bt389 => (if t386 = true then (if bt387.2 = true then (if t385 = true then (if (t368 != bt387.1) = true then (some false) else (if bt389.2 = true then (if bt389.1 = (wrap64 (-t372)) then (if ((t372 == 0) != (t362 == t364 && (t363 == t365))) = true then (some false) else (laws_FnPrefixes.j3 k3 l1)) else (some false)) else (some false))) else (if (t368 != false) = true then (some false) else (if bt389.2 = true then (if bt389.1 = (wrap64 (-t372)) then (if ((t372 == 0) != (t362 == t364 && (t363 == t365))) = true then (some false) else (laws_FnPrefixes.j3 k3 l1)) else (some false)) else (some false)))) else (some false)) else (some false)))) = some r := H
                        have A63 := Aside0.mk A630
                        clear A630
                        replace H := Option.bind_eq_some_iff.mp H
                        obtain ⟨⟨t387, t388⟩, A640, H⟩ := H
                        replace H : ((impl_ComparePrefixes.f k3 t364 t365 t362 t363).bind fun bt389 => (if t386 = true then (if t388 = true then (if t385 = true then (if (t368 != t387) = true then (some false) else (if bt389.2 = true then (if bt389.1 = (wrap64 (-t372)) then (if ((t372 == 0) != (t362 == t364 && (t363 == t365))) = true then (some false) else (laws_FnPrefixes.j3 k3 l1)) else (some false)) else (some false))) else (if (t368 != false) = true then (some false) else (if bt389.2 = true then (if bt389.1 = (wrap64 (-t372)) then (if ((t372 == 0) != (t362 == t364 && (t363 == t365))) = true then (some false) else (laws_FnPrefixes.j3 k3 l1)) else (some false)) else (some false)))) else (some false)) else (some false))) = some r := H
                        have A64 := Aside0.mk A640
                        clear A640
                        replace H := Option.bind_eq_some_iff.mp H
                        obtain ⟨⟨t389, t390⟩, A650, H⟩ := H
                        replace H : (if t386 = true then (if t388 = true then (if t385 = true then (if (t368 != t387) = true then (some false) else (if t390 = true then (if t389 = (wrap64 (-t372)) then (if ((t372 == 0) != (t362 == t364 && (t363 == t365))) = true then (some false) else (laws_FnPrefixes.j3 k3 l1)) else (some false)) else (some false))) else (if (t368 != false) = true then (some false) else (if t390 = true then (if t389 = (wrap64 (-t372)) then (if ((t372 == 0) != (t362 == t364 && (t363 == t365))) = true then (some false) else (laws_FnPrefixes.j3 k3 l1)) else (some false)) else (some false)))) else (some false)) else (some false)) = some r := H
                        have A65 := Aside0.mk A650
                        clear A650
                        by_cases c66 : t386 = true
                        · subst c66
                          have H1 : (if t388 = true then (if t385 = true then (if (t368 != t387) = true then (some false) else (if t390 = true then (if t389 = (wrap64 (-t372)) then (if ((t372 == 0) != (t362 == t364 && (t363 == t365))) = true then (some false) else (laws_FnPrefixes.j3 k3 l1)) else (some false)) else (some false))) else (if (t368 != false) = true then (some false) else (if t390 = true then (if t389 = (wrap64 (-t372)) then (if ((t372 == 0) != (t362 == t364 && (t363 == t365))) = true then (some false) else (laws_FnPrefixes.j3 k3 l1)) else (some false)) else (some false)))) else (some false)) = some r := by rw [if_pos rfl] at H; exact H
                          clear H
                          have H := H1
                          clear H1
                          by_cases c67 : t388 = true
                          · subst c67
                            have H1 : (if t385 = true then (if (t368 != t387) = true then (some false) else (if t390 = true then (if t389 = (wrap64 (-t372)) then (if ((t372 == 0) != (t362 == t364 && (t363 == t365))) = true then (some false) else (laws_FnPrefixes.j3 k3 l1)) else (some false)) else (some false))) else (if (t368 != false) = true then (some false) else (if t390 = true then (if t389 = (wrap64 (-t372)) then (if ((t372 == 0) != (t362 == t364 && (t363 == t365))) = true then (some false) else (laws_FnPrefixes.j3 k3 l1)) else (some false)) else (some false)))) = some r := by rw [if_pos rfl] at H; exact H
                            clear H
                            have H := H1
                            clear H1
                            by_cases c68 : t385 = true
                            · subst c68
                              have H1 : (if (t368 != t387) = true then (some false) else (if t390 = true then (if t389 = (wrap64 (-t372)) then (if ((t372 == 0) != (t362 == t364 && (t363 == t365))) = true then (some false) else (laws_FnPrefixes.j3 k3 l1)) else (some false)) else (some false))) = some r := by rw [if_pos rfl] at H; exact H
                              clear H
                              have H := H1
                              clear H1
                              by_cases c69 : (t368 != t387) = true
                              · rw [if_pos c69] at H
                                have c69b0 : (t368 != t387) = true := c69
                                (try (have c69b1 : decide (t368 = t387) = false := by simpa using c69))
                                (try (have c69b2 : (t368 == t387) = false := by simpa using c69))
                                (try (have c69b3 : ¬ (t368 = t387) := by simpa using c69))
                                clear c69
                                obtain rfl := Option.some.inj H
                                cases hT
                              · rw [if_neg c69] at H
                                have c69b0 : (t368 != t387) = false := by simpa using c69
                                (try (have c69b1 : decide (t368 = t387) = true := by simpa using c69))
                                (try (have c69b2 : (t368 == t387) = true := by simpa using c69))
                                clear c69
                                by_cases c70 : t390 = true
                                · subst c70
                                  have H1 : (if t389 = (wrap64 (-t372)) then (if ((t372 == 0) != (t362 == t364 && (t363 == t365))) = true then (some false) else (laws_FnPrefixes.j3 k3 l1)) else (some false)) = some r := by rw [if_pos rfl] at H; exact H
                                  clear H
                                  have H := H1
                                  clear H1
                                  by_cases c71 : t389 = (wrap64 (-t372))
                                  · rw [if_pos c71] at H
                                    have c71b0 : (t389 == (wrap64 (-t372))) = true := beq_iff_eq.mpr c71
                                    have c71b1 : (t389 != (wrap64 (-t372))) = false := bne_eq_false_iff_eq.mpr c71
                                    clear c71
                                    by_cases c72 : ((t372 == 0) != (t362 == t364 && (t363 == t365))) = true
                                    · rw [if_pos c72] at H
                                      have c72b0 : ((t372 == 0) != (t362 == t364 && (t363 == t365))) = true := c72
                                      (try (have c72b1 : decide ((t372 == 0) = (t362 == t364 && (t363 == t365))) = false := by simpa using c72))
                                      (try (have c72b2 : ((t372 == 0) == (t362 == t364 && (t363 == t365))) = false := by simpa using c72))
                                      (try (have c72b3 : ¬ ((t372 == 0) = (t362 == t364 && (t363 == t365))) := by simpa using c72))
                                      clear c72
                                      obtain rfl := Option.some.inj H
                                      cases hT
                                    · rw [if_neg c72] at H
                                      have c72b0 : ((t372 == 0) != (t362 == t364 && (t363 == t365))) = false := by simpa using c72
                                      (try (have c72b1 : decide ((t372 == 0) = (t362 == t364 && (t363 == t365))) = true := by simpa using c72))
                                      (try (have c72b2 : ((t372 == 0) == (t362 == t364 && (t363 == t365))) = true := by simpa using c72))
                                      clear c72
                                      have H' := Aside0.mk H
                                      clear H
                                      have hnb73 := NB366_367.out
                                      have hnc73 := NB367_366.out
                                      have hcz74_0 : wr.cell? ⟨gb366, 0, none⟩ = some (.int .i64 t362) := (blk_cell BK366.out 0).trans rfl
                                      have hcz74_1 : wr.cell? ⟨gb366, 1, none⟩ = some (.int .i64 t363) := (blk_cell BK366.out 1).trans rfl
                                      have hfz74_0 := blk_frozen BK366.out 0
                                      have hfz74_1 := blk_frozen BK366.out 1
                                      have hcz75_0 : wr.cell? ⟨gb367, 0, none⟩ = some (.int .i64 t364) := (blk_cell BK367.out 0).trans rfl
                                      have hcz75_1 : wr.cell? ⟨gb367, 1, none⟩ = some (.int .i64 t365) := (blk_cell BK367.out 1).trans rfl
                                      have hfz75_0 := blk_frozen BK367.out 0
                                      have hfz75_1 := blk_frozen BK367.out 1
                                      go_wp2_with (first | ((with_reducible refine gate_callee (f := 13) rfl ?_); refine goesL_ (some 153) rfl rfl Tryz.func13 (by kernel_rfl) rfl #[.agg #[.int .i64 t362, .int .i64 t363], .int .i64 t364] rfl (by (try simp only [List.map_toArray, List.map_cons, List.map_nil]); first | done | rfl | (simp only [List.length_drop, List.length_take]; rfl)) ?_; (with_reducible refine (impl_HasAddr.calls t362 t363 t364 true true _ A63.out).mono ?_); rintro e w76 ⟨rfl, hb⟩; refine ⟨_, rfl, ?_⟩; have n0_ := Aside0.mk (blk_below (g := gb366) (o := .cells #[.int .i64 t362, .int .i64 t363] 24 (0, 0)) (by (with_reducible repeat (first | refine blk_drewN ?_ _ | refine blk_drew ?_ | refine blk_alloc ?_ _)); exact BK366.out) hb); have n1_ := Aside0.mk (blk_below (g := gb367) (o := .cells #[.int .i64 t364, .int .i64 t365] 24 (0, 0)) (by (with_reducible repeat (first | refine blk_drewN ?_ _ | refine blk_drew ?_ | refine blk_alloc ?_ _)); exact BK367.out) hb); have n2_ := Aside0.mk (below_step (by repeat (first | (with_reducible first | exact HB.out | apply below_alloc | apply pw_below_drewN | apply below_drew1 | refine below_set ?_ GE366.out | refine below_set ?_ GE367.out) | exact HB.out)) hb); clear BK366; clear BK367; clear HB; have BK366 := n0_; have BK367 := n1_; have HB := n2_; clear n0_ n1_ n2_; (try clear hb); (try clear hb2); (try clear hk); (try clear hi); have hcz77_0 : w76.cell? ⟨gb366, 0, none⟩ = some (.int .i64 t362) := (blk_cell BK366.out 0).trans rfl; have hcz77_1 : w76.cell? ⟨gb366, 1, none⟩ = some (.int .i64 t363) := (blk_cell BK366.out 1).trans rfl; have hfz77_0 := blk_frozen BK366.out 0; have hfz77_1 := blk_frozen BK366.out 1) | ((with_reducible refine gate_callee (f := 13) rfl ?_); refine goesL_ (some 159) rfl rfl Tryz.func13 (by kernel_rfl) rfl #[.agg #[.int .i64 t362, .int .i64 t363], .int .i64 x21_3] rfl (by (try simp only [List.map_toArray, List.map_cons, List.map_nil]); first | done | rfl | (simp only [List.length_drop, List.length_take]; rfl)) ?_; (with_reducible refine (impl_HasAddr.calls t362 t363 x21_3 t387 true _ A64.out).mono ?_); rintro e w78 ⟨rfl, hb⟩; refine ⟨_, rfl, ?_⟩; have n0_ := Aside0.mk (blk_below (g := gb366) (o := .cells #[.int .i64 t362, .int .i64 t363] 24 (0, 0)) (by (with_reducible repeat (first | refine blk_drewN ?_ _ | refine blk_drew ?_ | refine blk_alloc ?_ _)); exact BK366.out) hb); have n1_ := Aside0.mk (blk_below (g := gb367) (o := .cells #[.int .i64 t364, .int .i64 t365] 24 (0, 0)) (by (with_reducible repeat (first | refine blk_drewN ?_ _ | refine blk_drew ?_ | refine blk_alloc ?_ _)); exact BK367.out) hb); have n2_ := Aside0.mk (below_step (by repeat (first | (with_reducible first | exact HB.out | apply below_alloc | apply pw_below_drewN | apply below_drew1 | refine below_set ?_ GE366.out | refine below_set ?_ GE367.out) | exact HB.out)) hb); clear BK366; clear BK367; clear HB; have BK366 := n0_; have BK367 := n1_; have HB := n2_; clear n0_ n1_ n2_; (try clear hb); (try clear hb2); (try clear hk); (try clear hi); have hcz79_0 : w78.cell? ⟨gb367, 0, none⟩ = some (.int .i64 t364) := (blk_cell BK367.out 0).trans rfl; have hcz79_1 : w78.cell? ⟨gb367, 1, none⟩ = some (.int .i64 t365) := (blk_cell BK367.out 1).trans rfl; have hfz79_0 := blk_frozen BK367.out 0; have hfz79_1 := blk_frozen BK367.out 1; have hcz80_0 : w78.cell? ⟨gb366, 0, none⟩ = some (.int .i64 t362) := (blk_cell BK366.out 0).trans rfl; have hcz80_1 : w78.cell? ⟨gb366, 1, none⟩ = some (.int .i64 t363) := (blk_cell BK366.out 1).trans rfl; have hfz80_0 := blk_frozen BK366.out 0; have hfz80_1 := blk_frozen BK366.out 1) | ((with_reducible refine gate_callee (f := 7) rfl ?_); refine goesL_ (some 165) rfl rfl Tryz.func7 (by kernel_rfl) rfl #[.agg #[.int .i64 t364, .int .i64 t365], .agg #[.int .i64 t362, .int .i64 t363]] rfl (by (try simp only [List.map_toArray, List.map_cons, List.map_nil]); first | done | rfl | (simp only [List.length_drop, List.length_take]; rfl)) ?_; (with_reducible refine (impl_ComparePrefixes.calls k3 t364 t365 t362 t363 t389 true _ A65.out).mono ?_); rintro e w81 ⟨rfl, hb⟩; refine ⟨_, rfl, ?_⟩; have n0_ := Aside0.mk (blk_below (g := gb366) (o := .cells #[.int .i64 t362, .int .i64 t363] 24 (0, 0)) (by (with_reducible repeat (first | refine blk_drewN ?_ _ | refine blk_drew ?_ | refine blk_alloc ?_ _)); exact BK366.out) hb); have n1_ := Aside0.mk (blk_below (g := gb367) (o := .cells #[.int .i64 t364, .int .i64 t365] 24 (0, 0)) (by (with_reducible repeat (first | refine blk_drewN ?_ _ | refine blk_drew ?_ | refine blk_alloc ?_ _)); exact BK367.out) hb); have n2_ := Aside0.mk (below_step (by repeat (first | (with_reducible first | exact HB.out | apply below_alloc | apply pw_below_drewN | apply below_drew1 | refine below_set ?_ GE366.out | refine below_set ?_ GE367.out) | exact HB.out)) hb); clear BK366; clear BK367; clear HB; have BK366 := n0_; have BK367 := n1_; have HB := n2_; clear n0_ n1_ n2_; (try clear hb); (try clear hb2); (try clear hk); (try clear hi); have hcz82_0 : w81.cell? ⟨gb366, 0, none⟩ = some (.int .i64 t362) := (blk_cell BK366.out 0).trans rfl; have hcz82_1 : w81.cell? ⟨gb366, 1, none⟩ = some (.int .i64 t363) := (blk_cell BK366.out 1).trans rfl; have hfz82_0 := blk_frozen BK366.out 0; have hfz82_1 := blk_frozen BK366.out 1; have hcz83_0 : w81.cell? ⟨gb367, 0, none⟩ = some (.int .i64 t364) := (blk_cell BK367.out 0).trans rfl; have hcz83_1 : w81.cell? ⟨gb367, 1, none⟩ = some (.int .i64 t365) := (blk_cell BK367.out 1).trans rfl; have hfz83_0 := blk_frozen BK367.out 0; have hfz83_1 := blk_frozen BK367.out 1))
                                      go_meet
                                      case rel => exact ⟨_, H', ⟨by have := HJ10.out; have := HJ42.out; have := HK3.out; first | omega | exact Nat.le_refl _⟩, ⟨by (with_reducible repeat (first | refine blk_drewN ?_ _ | refine blk_drew ?_ | refine blk_alloc ?_ _)); exact BK366.out⟩, ⟨by (with_reducible repeat (first | refine blk_drewN ?_ _ | refine blk_drew ?_ | refine blk_alloc ?_ _)); exact BK367.out⟩, ⟨by repeat (first | (with_reducible first | exact HB.out | apply below_alloc | apply pw_below_drewN | apply below_drew1 | refine below_set ?_ GE366.out | refine below_set ?_ GE367.out) | exact HB.out)⟩⟩
                                  · rw [if_neg c71] at H
                                    have c71b0 : (t389 == (wrap64 (-t372))) = false := beq_eq_false_iff_ne.mpr c71
                                    have c71b1 : (t389 != (wrap64 (-t372))) = true := bne_iff_ne.mpr c71
                                    obtain rfl := Option.some.inj H
                                    cases hT
                                · replace c70 := Bool.eq_false_iff.mpr c70
                                  subst c70
                                  have H1 : (some false) = some r := by rw [if_neg (show ¬ (false = true) by decide)] at H; exact H
                                  clear H
                                  have H := H1
                                  clear H1
                                  obtain rfl := Option.some.inj H
                                  cases hT
                            · replace c68 := Bool.eq_false_iff.mpr c68
                              subst c68
                              have H1 : (if (t368 != false) = true then (some false) else (if t390 = true then (if t389 = (wrap64 (-t372)) then (if ((t372 == 0) != (t362 == t364 && (t363 == t365))) = true then (some false) else (laws_FnPrefixes.j3 k3 l1)) else (some false)) else (some false))) = some r := by rw [if_neg (show ¬ (false = true) by decide)] at H; exact H
                              clear H
                              have H := H1
                              clear H1
                              by_cases c84 : (t368 != false) = true
                              · rw [if_pos c84] at H
                                have c84b0 : (t368 != false) = true := c84
                                (try (have c84b1 : decide (t368 = false) = false := by simpa using c84))
                                (try (have c84b2 : (t368 == false) = false := by simpa using c84))
                                (try (have c84b3 : ¬ (t368 = false) := by simpa using c84))
                                clear c84
                                obtain rfl := Option.some.inj H
                                cases hT
                              · rw [if_neg c84] at H
                                have c84b0 : (t368 != false) = false := by simpa using c84
                                (try (have c84b1 : decide (t368 = false) = true := by simpa using c84))
                                (try (have c84b2 : (t368 == false) = true := by simpa using c84))
                                clear c84
                                by_cases c85 : t390 = true
                                · subst c85
                                  have H1 : (if t389 = (wrap64 (-t372)) then (if ((t372 == 0) != (t362 == t364 && (t363 == t365))) = true then (some false) else (laws_FnPrefixes.j3 k3 l1)) else (some false)) = some r := by rw [if_pos rfl] at H; exact H
                                  clear H
                                  have H := H1
                                  clear H1
                                  by_cases c86 : t389 = (wrap64 (-t372))
                                  · rw [if_pos c86] at H
                                    have c86b0 : (t389 == (wrap64 (-t372))) = true := beq_iff_eq.mpr c86
                                    have c86b1 : (t389 != (wrap64 (-t372))) = false := bne_eq_false_iff_eq.mpr c86
                                    clear c86
                                    by_cases c87 : ((t372 == 0) != (t362 == t364 && (t363 == t365))) = true
                                    · rw [if_pos c87] at H
                                      have c87b0 : ((t372 == 0) != (t362 == t364 && (t363 == t365))) = true := c87
                                      (try (have c87b1 : decide ((t372 == 0) = (t362 == t364 && (t363 == t365))) = false := by simpa using c87))
                                      (try (have c87b2 : ((t372 == 0) == (t362 == t364 && (t363 == t365))) = false := by simpa using c87))
                                      (try (have c87b3 : ¬ ((t372 == 0) = (t362 == t364 && (t363 == t365))) := by simpa using c87))
                                      clear c87
                                      obtain rfl := Option.some.inj H
                                      cases hT
                                    · rw [if_neg c87] at H
                                      have c87b0 : ((t372 == 0) != (t362 == t364 && (t363 == t365))) = false := by simpa using c87
                                      (try (have c87b1 : decide ((t372 == 0) = (t362 == t364 && (t363 == t365))) = true := by simpa using c87))
                                      (try (have c87b2 : ((t372 == 0) == (t362 == t364 && (t363 == t365))) = true := by simpa using c87))
                                      clear c87
                                      have H' := Aside0.mk H
                                      clear H
                                      have hnb88 := NB366_367.out
                                      have hnc88 := NB367_366.out
                                      have hcz89_0 : wr.cell? ⟨gb366, 0, none⟩ = some (.int .i64 t362) := (blk_cell BK366.out 0).trans rfl
                                      have hcz89_1 : wr.cell? ⟨gb366, 1, none⟩ = some (.int .i64 t363) := (blk_cell BK366.out 1).trans rfl
                                      have hfz89_0 := blk_frozen BK366.out 0
                                      have hfz89_1 := blk_frozen BK366.out 1
                                      have hcz90_0 : wr.cell? ⟨gb367, 0, none⟩ = some (.int .i64 t364) := (blk_cell BK367.out 0).trans rfl
                                      have hcz90_1 : wr.cell? ⟨gb367, 1, none⟩ = some (.int .i64 t365) := (blk_cell BK367.out 1).trans rfl
                                      have hfz90_0 := blk_frozen BK367.out 0
                                      have hfz90_1 := blk_frozen BK367.out 1
                                      go_wp2_with (first | ((with_reducible refine gate_callee (f := 13) rfl ?_); refine goesL_ (some 153) rfl rfl Tryz.func13 (by kernel_rfl) rfl #[.agg #[.int .i64 t362, .int .i64 t363], .int .i64 t364] rfl (by (try simp only [List.map_toArray, List.map_cons, List.map_nil]); first | done | rfl | (simp only [List.length_drop, List.length_take]; rfl)) ?_; (with_reducible refine (impl_HasAddr.calls t362 t363 t364 false true _ A63.out).mono ?_); rintro e w91 ⟨rfl, hb⟩; refine ⟨_, rfl, ?_⟩; have n0_ := Aside0.mk (blk_below (g := gb366) (o := .cells #[.int .i64 t362, .int .i64 t363] 24 (0, 0)) (by (with_reducible repeat (first | refine blk_drewN ?_ _ | refine blk_drew ?_ | refine blk_alloc ?_ _)); exact BK366.out) hb); have n1_ := Aside0.mk (blk_below (g := gb367) (o := .cells #[.int .i64 t364, .int .i64 t365] 24 (0, 0)) (by (with_reducible repeat (first | refine blk_drewN ?_ _ | refine blk_drew ?_ | refine blk_alloc ?_ _)); exact BK367.out) hb); have n2_ := Aside0.mk (below_step (by repeat (first | (with_reducible first | exact HB.out | apply below_alloc | apply pw_below_drewN | apply below_drew1 | refine below_set ?_ GE366.out | refine below_set ?_ GE367.out) | exact HB.out)) hb); clear BK366; clear BK367; clear HB; have BK366 := n0_; have BK367 := n1_; have HB := n2_; clear n0_ n1_ n2_; (try clear hb); (try clear hb2); (try clear hk); (try clear hi); have hcz92_0 : w91.cell? ⟨gb366, 0, none⟩ = some (.int .i64 t362) := (blk_cell BK366.out 0).trans rfl; have hcz92_1 : w91.cell? ⟨gb366, 1, none⟩ = some (.int .i64 t363) := (blk_cell BK366.out 1).trans rfl; have hfz92_0 := blk_frozen BK366.out 0; have hfz92_1 := blk_frozen BK366.out 1) | ((with_reducible refine gate_callee (f := 13) rfl ?_); refine goesL_ (some 159) rfl rfl Tryz.func13 (by kernel_rfl) rfl #[.agg #[.int .i64 t362, .int .i64 t363], .int .i64 x21_3] rfl (by (try simp only [List.map_toArray, List.map_cons, List.map_nil]); first | done | rfl | (simp only [List.length_drop, List.length_take]; rfl)) ?_; (with_reducible refine (impl_HasAddr.calls t362 t363 x21_3 t387 true _ A64.out).mono ?_); rintro e w93 ⟨rfl, hb⟩; refine ⟨_, rfl, ?_⟩; have n0_ := Aside0.mk (blk_below (g := gb366) (o := .cells #[.int .i64 t362, .int .i64 t363] 24 (0, 0)) (by (with_reducible repeat (first | refine blk_drewN ?_ _ | refine blk_drew ?_ | refine blk_alloc ?_ _)); exact BK366.out) hb); have n1_ := Aside0.mk (blk_below (g := gb367) (o := .cells #[.int .i64 t364, .int .i64 t365] 24 (0, 0)) (by (with_reducible repeat (first | refine blk_drewN ?_ _ | refine blk_drew ?_ | refine blk_alloc ?_ _)); exact BK367.out) hb); have n2_ := Aside0.mk (below_step (by repeat (first | (with_reducible first | exact HB.out | apply below_alloc | apply pw_below_drewN | apply below_drew1 | refine below_set ?_ GE366.out | refine below_set ?_ GE367.out) | exact HB.out)) hb); clear BK366; clear BK367; clear HB; have BK366 := n0_; have BK367 := n1_; have HB := n2_; clear n0_ n1_ n2_; (try clear hb); (try clear hb2); (try clear hk); (try clear hi); have hcz94_0 : w93.cell? ⟨gb367, 0, none⟩ = some (.int .i64 t364) := (blk_cell BK367.out 0).trans rfl; have hcz94_1 : w93.cell? ⟨gb367, 1, none⟩ = some (.int .i64 t365) := (blk_cell BK367.out 1).trans rfl; have hfz94_0 := blk_frozen BK367.out 0; have hfz94_1 := blk_frozen BK367.out 1; have hcz95_0 : w93.cell? ⟨gb366, 0, none⟩ = some (.int .i64 t362) := (blk_cell BK366.out 0).trans rfl; have hcz95_1 : w93.cell? ⟨gb366, 1, none⟩ = some (.int .i64 t363) := (blk_cell BK366.out 1).trans rfl; have hfz95_0 := blk_frozen BK366.out 0; have hfz95_1 := blk_frozen BK366.out 1) | ((with_reducible refine gate_callee (f := 7) rfl ?_); refine goesL_ (some 165) rfl rfl Tryz.func7 (by kernel_rfl) rfl #[.agg #[.int .i64 t364, .int .i64 t365], .agg #[.int .i64 t362, .int .i64 t363]] rfl (by (try simp only [List.map_toArray, List.map_cons, List.map_nil]); first | done | rfl | (simp only [List.length_drop, List.length_take]; rfl)) ?_; (with_reducible refine (impl_ComparePrefixes.calls k3 t364 t365 t362 t363 t389 true _ A65.out).mono ?_); rintro e w96 ⟨rfl, hb⟩; refine ⟨_, rfl, ?_⟩; have n0_ := Aside0.mk (blk_below (g := gb366) (o := .cells #[.int .i64 t362, .int .i64 t363] 24 (0, 0)) (by (with_reducible repeat (first | refine blk_drewN ?_ _ | refine blk_drew ?_ | refine blk_alloc ?_ _)); exact BK366.out) hb); have n1_ := Aside0.mk (blk_below (g := gb367) (o := .cells #[.int .i64 t364, .int .i64 t365] 24 (0, 0)) (by (with_reducible repeat (first | refine blk_drewN ?_ _ | refine blk_drew ?_ | refine blk_alloc ?_ _)); exact BK367.out) hb); have n2_ := Aside0.mk (below_step (by repeat (first | (with_reducible first | exact HB.out | apply below_alloc | apply pw_below_drewN | apply below_drew1 | refine below_set ?_ GE366.out | refine below_set ?_ GE367.out) | exact HB.out)) hb); clear BK366; clear BK367; clear HB; have BK366 := n0_; have BK367 := n1_; have HB := n2_; clear n0_ n1_ n2_; (try clear hb); (try clear hb2); (try clear hk); (try clear hi); have hcz97_0 : w96.cell? ⟨gb366, 0, none⟩ = some (.int .i64 t362) := (blk_cell BK366.out 0).trans rfl; have hcz97_1 : w96.cell? ⟨gb366, 1, none⟩ = some (.int .i64 t363) := (blk_cell BK366.out 1).trans rfl; have hfz97_0 := blk_frozen BK366.out 0; have hfz97_1 := blk_frozen BK366.out 1; have hcz98_0 : w96.cell? ⟨gb367, 0, none⟩ = some (.int .i64 t364) := (blk_cell BK367.out 0).trans rfl; have hcz98_1 : w96.cell? ⟨gb367, 1, none⟩ = some (.int .i64 t365) := (blk_cell BK367.out 1).trans rfl; have hfz98_0 := blk_frozen BK367.out 0; have hfz98_1 := blk_frozen BK367.out 1))
                                      go_meet
                                      case rel => exact ⟨_, H', ⟨by have := HJ10.out; have := HJ42.out; have := HK3.out; first | omega | exact Nat.le_refl _⟩, ⟨by (with_reducible repeat (first | refine blk_drewN ?_ _ | refine blk_drew ?_ | refine blk_alloc ?_ _)); exact BK366.out⟩, ⟨by (with_reducible repeat (first | refine blk_drewN ?_ _ | refine blk_drew ?_ | refine blk_alloc ?_ _)); exact BK367.out⟩, ⟨by repeat (first | (with_reducible first | exact HB.out | apply below_alloc | apply pw_below_drewN | apply below_drew1 | refine below_set ?_ GE366.out | refine below_set ?_ GE367.out) | exact HB.out)⟩⟩
                                  · rw [if_neg c86] at H
                                    have c86b0 : (t389 == (wrap64 (-t372))) = false := beq_eq_false_iff_ne.mpr c86
                                    have c86b1 : (t389 != (wrap64 (-t372))) = true := bne_iff_ne.mpr c86
                                    obtain rfl := Option.some.inj H
                                    cases hT
                                · replace c85 := Bool.eq_false_iff.mpr c85
                                  subst c85
                                  have H1 : (some false) = some r := by rw [if_neg (show ¬ (false = true) by decide)] at H; exact H
                                  clear H
                                  have H := H1
                                  clear H1
                                  obtain rfl := Option.some.inj H
                                  cases hT
                          · replace c67 := Bool.eq_false_iff.mpr c67
                            subst c67
                            have H1 : (some false) = some r := by rw [if_neg (show ¬ (false = true) by decide)] at H; exact H
                            clear H
                            have H := H1
                            clear H1
                            obtain rfl := Option.some.inj H
                            cases hT
                        · replace c66 := Bool.eq_false_iff.mpr c66
                          subst c66
                          have H1 : (some false) = some r := by rw [if_neg (show ¬ (false = true) by decide)] at H; exact H
                          clear H
                          have H := H1
                          clear H1
                          obtain rfl := Option.some.inj H
                          cases hT
                · replace c56 := Bool.eq_false_iff.mpr c56
                  subst c56
                  have H1 : (laws_FnPrefixes.j3 kj42 l1) = some r := by rw [if_neg (show ¬ (false = true) by decide)] at H; exact H
                  clear H
                  have H := H1
                  clear H1
                  have H' := Aside0.mk H
                  clear H
                  go_wp2
                  go_meet
                  case rel => exact ⟨_, H', ⟨by have := HJ10.out; have := HJ42.out; first | omega | exact Nat.le_refl _⟩, ⟨by (with_reducible repeat (first | refine blk_drewN ?_ _ | refine blk_drew ?_ | refine blk_alloc ?_ _)); exact BK366.out⟩, ⟨by (with_reducible repeat (first | refine blk_drewN ?_ _ | refine blk_drew ?_ | refine blk_alloc ?_ _)); exact BK367.out⟩, ⟨by repeat (first | (with_reducible first | exact HB.out | apply below_alloc | apply pw_below_drewN | apply below_drew1 | refine below_set ?_ GE366.out | refine below_set ?_ GE367.out) | exact HB.out)⟩⟩
              case rest => as_aux_lemma =>
                clear HC55
                try clear c1
                try clear p2
                try clear c3
                try clear c3b0
                try clear c4
                try clear c5
                try clear c6
                try clear p6
                try clear c7
                try clear c8
                try clear c9
                try clear c10
                try clear c12
                try clear c13
                try clear c15
                try clear c32
                try clear c32b0
                try clear c32b1
                try clear c32b2
                try clear c33
                try clear c33b0
                try clear c33b1
                try clear c33b2
                try clear c34
                try clear c34b0
                try clear c34b1
                try clear c34b2
                try clear c35
                try clear c35b0
                try clear c35b1
                try clear c36
                try clear c36b0
                try clear c36b1
                try clear c36b2
                try clear c37
                try clear c37b0
                try clear c37b1
                try clear c39
                try clear c42
                try clear c44
                try clear c46
                try clear c47
                try clear c47b0
                try clear c50
                try clear c51
                try clear c53
                try clear c56
                try clear c57
                try clear c59
                try clear c59b0
                try clear c61
                try clear c61b0
                try clear c61b1
                try clear p64
                try clear c66
                try clear c67
                try clear c68
                try clear c69
                try clear c69b0
                try clear c69b1
                try clear c69b2
                try clear c70
                try clear c71
                try clear c71b0
                try clear c71b1
                try clear c72
                try clear c72b0
                try clear c72b1
                try clear c72b2
                try clear c73
                try clear c84
                try clear c84b0
                try clear c84b1
                try clear c84b2
                try clear c85
                try clear c86
                try clear c86b0
                try clear c86b1
                try clear c87
                try clear c87b0
                try clear c87b1
                try clear c87b2
                try clear c88
                try clear hcz16_0
                try clear hcz16_1
                try clear hcz17_0
                try clear hcz17_1
                try clear hcz19_0
                try clear hcz19_1
                try clear hcz20_0
                try clear hcz20_1
                try clear hcz22_0
                try clear hcz22_1
                try clear hcz23_0
                try clear hcz23_1
                try clear hcz25_0
                try clear hcz25_1
                try clear hcz26_0
                try clear hcz26_1
                try clear hcz28_0
                try clear hcz28_1
                try clear hcz30_0
                try clear hcz30_1
                try clear hcz40_0
                try clear hcz40_1
                try clear hcz52_0
                try clear hcz52_1
                try clear hcz54_0
                try clear hcz54_1
                try clear hcz58_0
                try clear hcz58_1
                try clear hcz74_0
                try clear hcz74_1
                try clear hcz75_0
                try clear hcz75_1
                try clear hcz77_0
                try clear hcz77_1
                try clear hcz79_0
                try clear hcz79_1
                try clear hcz80_0
                try clear hcz80_1
                try clear hcz82_0
                try clear hcz82_1
                try clear hcz83_0
                try clear hcz83_1
                try clear hcz89_0
                try clear hcz89_1
                try clear hcz90_0
                try clear hcz90_1
                try clear hcz92_0
                try clear hcz92_1
                try clear hcz94_0
                try clear hcz94_1
                try clear hcz95_0
                try clear hcz95_1
                try clear hcz97_0
                try clear hcz97_1
                try clear hcz98_0
                try clear hcz98_1
                try clear hfz16_0
                try clear hfz16_1
                try clear hfz17_0
                try clear hfz17_1
                try clear hfz19_0
                try clear hfz19_1
                try clear hfz20_0
                try clear hfz20_1
                try clear hfz22_0
                try clear hfz22_1
                try clear hfz23_0
                try clear hfz23_1
                try clear hfz25_0
                try clear hfz25_1
                try clear hfz26_0
                try clear hfz26_1
                try clear hfz28_0
                try clear hfz28_1
                try clear hfz30_0
                try clear hfz30_1
                try clear hfz40_0
                try clear hfz40_1
                try clear hfz52_0
                try clear hfz52_1
                try clear hfz54_0
                try clear hfz54_1
                try clear hfz58_0
                try clear hfz58_1
                try clear hfz74_0
                try clear hfz74_1
                try clear hfz75_0
                try clear hfz75_1
                try clear hfz77_0
                try clear hfz77_1
                try clear hfz79_0
                try clear hfz79_1
                try clear hfz80_0
                try clear hfz80_1
                try clear hfz82_0
                try clear hfz82_1
                try clear hfz83_0
                try clear hfz83_1
                try clear hfz89_0
                try clear hfz89_1
                try clear hfz90_0
                try clear hfz90_1
                try clear hfz92_0
                try clear hfz92_1
                try clear hfz94_0
                try clear hfz94_1
                try clear hfz95_0
                try clear hfz95_1
                try clear hfz97_0
                try clear hfz97_1
                try clear hfz98_0
                try clear hfz98_1
                try clear p2
                try clear p6
                obtain ⟨kq, HA, HJ54, BK366, BK367, HB⟩ := hcut
                cases kq with
                | zero => exact absurd HA.out (by simp [laws_FnPrefixes.j3])
                | succ kj54 =>
                  have H := HA.out
                  clear HA
                  simp only [laws_FnPrefixes.j3] at H
                  replace H := Option.bind_eq_some_iff.mp H
                  obtain ⟨t391, A990, H⟩ := H
                  replace H : ((impl_ReadPrefix.f kj54 t391).bind fun bt392 => ((spec_ReadPrefix.f kj54 t391).bind fun bt396 => ((spec_DrawHasAddr.f l1).bind fun bt400 => ((impl_HasAddr.f bt400.1 bt400.2.1 bt400.2.2).bind fun bt404 => ((spec_HasAddr.f bt400.1 bt400.2.1 bt400.2.2).bind fun bt406 => (if (bt392.2.2 != bt396.2.2) = true then (some false) else (if (!(bt392.1 == bt396.1) || (!(bt392.2.1 == bt396.2.1))) = true then (some false) else (if (bt404.2 != bt406.2) = true then (some false) else (if (bt404.1 != bt406.1) = true then (some false) else ((impl_PrefixText.f kj54 bt392.1 bt392.2.1).bind fun bt408 => (if bt392.2.2 = true then (if bt408.2 = true then (some (bt408.1.toList == t391.toList)) else (some false)) else (some true)))))))))))) = some r := H
                  have A99 := Aside0.mk A990
                  clear A990
                  replace H := Option.bind_eq_some_iff.mp H
                  obtain ⟨⟨t392, t393, t394⟩, A1000, H⟩ := H
                  replace H : ((spec_ReadPrefix.f kj54 t391).bind fun bt396 => ((spec_DrawHasAddr.f l1).bind fun bt400 => ((impl_HasAddr.f bt400.1 bt400.2.1 bt400.2.2).bind fun bt404 => ((spec_HasAddr.f bt400.1 bt400.2.1 bt400.2.2).bind fun bt406 => (if (t394 != bt396.2.2) = true then (some false) else (if (!(t392 == bt396.1) || (!(t393 == bt396.2.1))) = true then (some false) else (if (bt404.2 != bt406.2) = true then (some false) else (if (bt404.1 != bt406.1) = true then (some false) else ((impl_PrefixText.f kj54 t392 t393).bind fun bt408 => (if t394 = true then (if bt408.2 = true then (some (bt408.1.toList == t391.toList)) else (some false)) else (some true))))))))))) = some r := H
                  have A100 := Aside0.mk A1000
                  clear A1000
                  replace H := Option.bind_eq_some_iff.mp H
                  obtain ⟨⟨t396, t397, t398⟩, A1010, H⟩ := H
                  replace H : ((spec_DrawHasAddr.f l1).bind fun bt400 => ((impl_HasAddr.f bt400.1 bt400.2.1 bt400.2.2).bind fun bt404 => ((spec_HasAddr.f bt400.1 bt400.2.1 bt400.2.2).bind fun bt406 => (if (t394 != t398) = true then (some false) else (if (!(t392 == t396) || (!(t393 == t397))) = true then (some false) else (if (bt404.2 != bt406.2) = true then (some false) else (if (bt404.1 != bt406.1) = true then (some false) else ((impl_PrefixText.f kj54 t392 t393).bind fun bt408 => (if t394 = true then (if bt408.2 = true then (some (bt408.1.toList == t391.toList)) else (some false)) else (some true)))))))))) = some r := H
                  have A101 := Aside0.mk A1010
                  clear A1010
                  replace H := Option.bind_eq_some_iff.mp H
                  obtain ⟨⟨t400, t401, t402⟩, A1020, H⟩ := H
                  replace H : ((impl_HasAddr.f t400 t401 t402).bind fun bt404 => ((spec_HasAddr.f t400 t401 t402).bind fun bt406 => (if (t394 != t398) = true then (some false) else (if (!(t392 == t396) || (!(t393 == t397))) = true then (some false) else (if (bt404.2 != bt406.2) = true then (some false) else (if (bt404.1 != bt406.1) = true then (some false) else ((impl_PrefixText.f kj54 t392 t393).bind fun bt408 => (if t394 = true then (if bt408.2 = true then (some (bt408.1.toList == t391.toList)) else (some false)) else (some true))))))))) = some r := H
                  have A102 := Aside0.mk A1020
                  clear A1020
                  replace H := Option.bind_eq_some_iff.mp H
                  obtain ⟨⟨t404, t405⟩, A1030, H⟩ := H
                  replace H : ((spec_HasAddr.f t400 t401 t402).bind fun bt406 => (if (t394 != t398) = true then (some false) else (if (!(t392 == t396) || (!(t393 == t397))) = true then (some false) else (if (t405 != bt406.2) = true then (some false) else (if (t404 != bt406.1) = true then (some false) else ((impl_PrefixText.f kj54 t392 t393).bind fun bt408 => (if t394 = true then (if bt408.2 = true then (some (bt408.1.toList == t391.toList)) else (some false)) else (some true)))))))) = some r := H
                  have A103 := Aside0.mk A1030
                  clear A1030
                  replace H := Option.bind_eq_some_iff.mp H
                  obtain ⟨⟨t406, t407⟩, A1040, H⟩ := H
                  replace H : (if (t394 != t398) = true then (some false) else (if (!(t392 == t396) || (!(t393 == t397))) = true then (some false) else (if (t405 != t407) = true then (some false) else (if (t404 != t406) = true then (some false) else ((impl_PrefixText.f kj54 t392 t393).bind fun bt408 => (if t394 = true then (if bt408.2 = true then (some (bt408.1.toList == t391.toList)) else (some false)) else (some true))))))) = some r := H
                  have A104 := Aside0.mk A1040
                  clear A1040
                  by_cases c105 : (t394 != t398) = true
                  · rw [if_pos c105] at H
                    have c105b0 : (t394 != t398) = true := c105
                    (try (have c105b1 : decide (t394 = t398) = false := by simpa using c105))
                    (try (have c105b2 : (t394 == t398) = false := by simpa using c105))
                    (try (have c105b3 : ¬ (t394 = t398) := by simpa using c105))
                    clear c105
                    obtain rfl := Option.some.inj H
                    cases hT
                  · rw [if_neg c105] at H
                    have c105b0 : (t394 != t398) = false := by simpa using c105
                    (try (have c105b1 : decide (t394 = t398) = true := by simpa using c105))
                    (try (have c105b2 : (t394 == t398) = true := by simpa using c105))
                    clear c105
                    by_cases c106 : (!(t392 == t396) || (!(t393 == t397))) = true
                    · rw [if_pos c106] at H
                      have c106b0 : (!(t392 == t396) || (!(t393 == t397))) = true := c106
                      clear c106
                      obtain rfl := Option.some.inj H
                      cases hT
                    · rw [if_neg c106] at H
                      have c106b0 : (!(t392 == t396) || (!(t393 == t397))) = false := by simpa using c106
                      clear c106
                      by_cases c107 : (t405 != t407) = true
                      · rw [if_pos c107] at H
                        have c107b0 : (t405 != t407) = true := c107
                        (try (have c107b1 : decide (t405 = t407) = false := by simpa using c107))
                        (try (have c107b2 : (t405 == t407) = false := by simpa using c107))
                        (try (have c107b3 : ¬ (t405 = t407) := by simpa using c107))
                        clear c107
                        obtain rfl := Option.some.inj H
                        cases hT
                      · rw [if_neg c107] at H
                        have c107b0 : (t405 != t407) = false := by simpa using c107
                        (try (have c107b1 : decide (t405 = t407) = true := by simpa using c107))
                        (try (have c107b2 : (t405 == t407) = true := by simpa using c107))
                        clear c107
                        by_cases c108 : (t404 != t406) = true
                        · rw [if_pos c108] at H
                          have c108b0 : (t404 != t406) = true := c108
                          (try (have c108b1 : decide (t404 = t406) = false := by simpa using c108))
                          (try (have c108b2 : (t404 == t406) = false := by simpa using c108))
                          (try (have c108b3 : ¬ (t404 = t406) := by simpa using c108))
                          clear c108
                          obtain rfl := Option.some.inj H
                          cases hT
                        · rw [if_neg c108] at H
                          have c108b0 : (t404 != t406) = false := by simpa using c108
                          (try (have c108b1 : decide (t404 = t406) = true := by simpa using c108))
                          (try (have c108b2 : (t404 == t406) = true := by simpa using c108))
                          clear c108
                          replace H := Option.bind_eq_some_iff.mp H
                          obtain ⟨⟨t408, t409⟩, A1090, H⟩ := H
                          replace H : (if t394 = true then (if t409 = true then (some (t408.toList == t391.toList)) else (some false)) else (some true)) = some r := H
                          have A109 := Aside0.mk A1090
                          clear A1090
                          by_cases c110 : t394 = true
                          · subst c110
                            have H1 : (if t409 = true then (some (t408.toList == t391.toList)) else (some false)) = some r := by rw [if_pos rfl] at H; exact H
                            clear H
                            have H := H1
                            clear H1
                            by_cases c111 : t409 = true
                            · subst c111
                              have H1 : (some (t408.toList == t391.toList)) = some r := by rw [if_pos rfl] at H; exact H
                              clear H
                              have H := H1
                              clear H1
                              obtain rfl := Option.some.inj H
                              go_wp2_with (first | ((with_reducible refine gate_callee (f := 14) rfl ?_); refine goesL_ (some 201) rfl rfl Tryz.func14 (by kernel_rfl) rfl #[.slice A1 l1.length c1] rfl (by (try simp only [List.map_toArray, List.map_cons, List.map_nil]); first | done | rfl | (simp only [List.length_drop, List.length_take]; rfl)) ?_; (with_reducible refine (spec_DrawReadPrefix.calls kj54 _ _ l1 t391 _ ?side1 ?side2 A99.out).mono ?_); (case side1 => repeat (first | exact (Kd.C_below HR1.out HB.out) | (with_reducible refine Kd.C_alloc ?_ _) | (with_reducible refine Kd.C_drewN ?_ _) | (with_reducible refine Kd.C_drew ?_))); (case side2 => exact HC1.out); rintro e w112 ⟨rfl, hb⟩; refine ⟨_, rfl, ?_⟩; have n0_ := Aside0.mk (blk_below (g := gb366) (o := .cells #[.int .i64 t362, .int .i64 t363] 24 (0, 0)) (by (with_reducible repeat (first | refine blk_drewN ?_ _ | refine blk_drew ?_ | refine blk_alloc ?_ _)); exact BK366.out) hb); have n1_ := Aside0.mk (blk_below (g := gb367) (o := .cells #[.int .i64 t364, .int .i64 t365] 24 (0, 0)) (by (with_reducible repeat (first | refine blk_drewN ?_ _ | refine blk_drew ?_ | refine blk_alloc ?_ _)); exact BK367.out) hb); have n2_ := Aside0.mk (below_step (by repeat (first | (with_reducible first | exact HB.out | apply below_alloc | apply pw_below_drewN | apply below_drew1 | refine below_set ?_ GE366.out | refine below_set ?_ GE367.out) | exact HB.out)) hb); clear BK366; clear BK367; clear HB; have BK366 := n0_; have BK367 := n1_; have HB := n2_; clear n0_ n1_ n2_; (try clear hb); (try clear hb2); (try clear hk); (try clear hi)) | ((with_reducible refine gate_callee (f := 12) rfl ?_); refine goesL_ (some 204) rfl rfl Tryz.func12 (by kernel_rfl) rfl #[.string t391] rfl (by (try simp only [List.map_toArray, List.map_cons, List.map_nil]); first | done | rfl | (simp only [List.length_drop, List.length_take]; rfl)) ?_; (with_reducible refine (impl_ReadPrefix.calls kj54 t391 t392 t393 true _ ?tab A100.out).mono ?_); (case tab => exact LaysR.All.below HTAB.out (by repeat (first | (with_reducible first | exact HB.out | apply below_alloc | apply pw_below_drewN | apply below_drew1 | refine below_set ?_ GE366.out | refine below_set ?_ GE367.out) | exact HB.out))); rintro e w113 ⟨rfl, hb⟩; refine ⟨_, rfl, ?_⟩; have n0_ := Aside0.mk (blk_below (g := gb366) (o := .cells #[.int .i64 t362, .int .i64 t363] 24 (0, 0)) (by (with_reducible repeat (first | refine blk_drewN ?_ _ | refine blk_drew ?_ | refine blk_alloc ?_ _)); exact BK366.out) hb); have n1_ := Aside0.mk (blk_below (g := gb367) (o := .cells #[.int .i64 t364, .int .i64 t365] 24 (0, 0)) (by (with_reducible repeat (first | refine blk_drewN ?_ _ | refine blk_drew ?_ | refine blk_alloc ?_ _)); exact BK367.out) hb); have n2_ := Aside0.mk (below_step (by repeat (first | (with_reducible first | exact HB.out | apply below_alloc | apply pw_below_drewN | apply below_drew1 | refine below_set ?_ GE366.out | refine below_set ?_ GE367.out) | exact HB.out)) hb); clear BK366; clear BK367; clear HB; have BK366 := n0_; have BK367 := n1_; have HB := n2_; clear n0_ n1_ n2_; (try clear hb); (try clear hb2); (try clear hk); (try clear hi)) | ((with_reducible refine gate_dst (N := 30) rfl ?_); refine box_event ?hg (N := 30) ?hd (cs := #[.int .i64 0, .int .i64 0]) (t := 24) ?hr ?_; (case hd => rfl); (case hg => rfl); (case hr => first | (go_simp; done) | (go_simp; rfl)); intro gb395 hg w114 hbox hb; have n0_ := Aside0.mk (blk_below (g := gb366) (o := .cells #[.int .i64 t362, .int .i64 t363] 24 (0, 0)) (by (with_reducible repeat (first | refine blk_drewN ?_ _ | refine blk_drew ?_ | refine blk_alloc ?_ _)); exact BK366.out) hb); have n1_ := Aside0.mk (blk_below (g := gb367) (o := .cells #[.int .i64 t364, .int .i64 t365] 24 (0, 0)) (by (with_reducible repeat (first | refine blk_drewN ?_ _ | refine blk_drew ?_ | refine blk_alloc ?_ _)); exact BK367.out) hb); have n2_ := Aside0.mk (below_step (by repeat (first | (with_reducible first | exact HB.out | apply below_alloc | apply pw_below_drewN | apply below_drew1 | refine below_set ?_ GE366.out | refine below_set ?_ GE367.out) | exact HB.out)) hb); have n3_ := Aside0.mk (hbox); have n4_ := Aside0.mk ((by rw [hg]; exact (below_size (by repeat (first | (with_reducible first | exact HB.out | apply below_alloc | apply pw_below_drewN | apply below_drew1 | refine below_set ?_ GE366.out | refine below_set ?_ GE367.out) | exact HB.out))) : w.heap.size ≤ gb395)); have n5_ := Aside0.mk ((by rw [hg]; exact (below_size (by repeat (first | (with_reducible first | exact HB.out | apply below_alloc | apply pw_below_drewN | apply below_drew1 | refine below_set ?_ GE366.out | refine below_set ?_ GE367.out) | exact HB.out))) : w.heap.size ≤ gb395)); have n6_ := Aside0.mk ((by rw [hg]; exact Nat.ne_of_lt (blk_lt (g := gb366) (o := .cells #[.int .i64 t362, .int .i64 t363] 24 (0, 0)) (by (with_reducible repeat (first | refine blk_drewN ?_ _ | refine blk_drew ?_ | refine blk_alloc ?_ _)); exact BK366.out)) : gb366 ≠ gb395)); have n7_ := Aside0.mk ((by rw [hg]; exact Nat.ne_of_gt (blk_lt (g := gb366) (o := .cells #[.int .i64 t362, .int .i64 t363] 24 (0, 0)) (by (with_reducible repeat (first | refine blk_drewN ?_ _ | refine blk_drew ?_ | refine blk_alloc ?_ _)); exact BK366.out)) : gb395 ≠ gb366)); have n8_ := Aside0.mk ((by rw [hg]; exact Nat.ne_of_lt (blk_lt (g := gb367) (o := .cells #[.int .i64 t364, .int .i64 t365] 24 (0, 0)) (by (with_reducible repeat (first | refine blk_drewN ?_ _ | refine blk_drew ?_ | refine blk_alloc ?_ _)); exact BK367.out)) : gb367 ≠ gb395)); have n9_ := Aside0.mk ((by rw [hg]; exact Nat.ne_of_gt (blk_lt (g := gb367) (o := .cells #[.int .i64 t364, .int .i64 t365] 24 (0, 0)) (by (with_reducible repeat (first | refine blk_drewN ?_ _ | refine blk_drew ?_ | refine blk_alloc ?_ _)); exact BK367.out)) : gb395 ≠ gb367)); clear BK366; clear BK367; clear HB; have BK366 := n0_; have BK367 := n1_; have HB := n2_; have BK395 := n3_; have GW395 := n4_; have GE395 := n5_; have NB366_395 := n6_; have NB395_366 := n7_; have NB367_395 := n8_; have NB395_367 := n9_; clear n0_ n1_ n2_ n3_ n4_ n5_ n6_ n7_ n8_ n9_; clear hb hbox hg; have hnb115 := NB395_366.out; have hnc115 := NB366_395.out; have hnb116 := NB395_367.out; have hnc116 := NB367_395.out; have hcz117_0 : w114.cell? ⟨gb395, 0, none⟩ = some (.int .i64 0) := (blk_cell BK395.out 0).trans rfl; have hcz117_1 : w114.cell? ⟨gb395, 1, none⟩ = some (.int .i64 0) := (blk_cell BK395.out 1).trans rfl; have hfz117_0 := blk_frozen BK395.out 0; have hfz117_1 := blk_frozen BK395.out 1) | ((with_reducible refine gate_callee (f := 15) rfl ?_); refine goesL_ (some 209) rfl rfl Tryz.func15 (by kernel_rfl) rfl #[.string t391] rfl (by (try simp only [List.map_toArray, List.map_cons, List.map_nil]); first | done | rfl | (simp only [List.length_drop, List.length_take]; rfl)) ?_; (with_reducible refine (spec_ReadPrefix.calls kj54 t391 t396 t397 t398 _ A101.out).mono ?_); rintro e w118 ⟨rfl, hb⟩; refine ⟨_, rfl, ?_⟩; have n0_ := Aside0.mk (blk_below (g := gb366) (o := .cells #[.int .i64 t362, .int .i64 t363] 24 (0, 0)) (by (with_reducible repeat (first | refine blk_drewN ?_ _ | refine blk_drew ?_ | refine blk_alloc ?_ _)); refine blk_far ?_ NB366_395.out _; (with_reducible repeat (first | refine blk_drewN ?_ _ | refine blk_drew ?_ | refine blk_alloc ?_ _)); refine blk_far ?_ NB366_395.out _; (with_reducible repeat (first | refine blk_drewN ?_ _ | refine blk_drew ?_ | refine blk_alloc ?_ _)); exact BK366.out) hb); have n1_ := Aside0.mk (blk_below (g := gb367) (o := .cells #[.int .i64 t364, .int .i64 t365] 24 (0, 0)) (by (with_reducible repeat (first | refine blk_drewN ?_ _ | refine blk_drew ?_ | refine blk_alloc ?_ _)); refine blk_far ?_ NB367_395.out _; (with_reducible repeat (first | refine blk_drewN ?_ _ | refine blk_drew ?_ | refine blk_alloc ?_ _)); refine blk_far ?_ NB367_395.out _; (with_reducible repeat (first | refine blk_drewN ?_ _ | refine blk_drew ?_ | refine blk_alloc ?_ _)); exact BK367.out) hb); have n2_ := Aside0.mk (blk_below (g := gb395) (o := .cells #[.int .i64 t392, .int .i64 t393] 24 (0, 0)) (by (with_reducible repeat (first | refine blk_drewN ?_ _ | refine blk_drew ?_ | refine blk_alloc ?_ _)); refine blk_put (cs := #[.int .i64 t392, .int .i64 0]) ?_ 1 _ rfl; (with_reducible repeat (first | refine blk_drewN ?_ _ | refine blk_drew ?_ | refine blk_alloc ?_ _)); refine blk_put (cs := #[.int .i64 0, .int .i64 0]) ?_ 0 _ rfl; (with_reducible repeat (first | refine blk_drewN ?_ _ | refine blk_drew ?_ | refine blk_alloc ?_ _)); exact BK395.out) hb); have n3_ := Aside0.mk (below_step (by repeat (first | (with_reducible first | exact HB.out | apply below_alloc | apply pw_below_drewN | apply below_drew1 | refine below_set ?_ GE366.out | refine below_set ?_ GE367.out | refine below_set ?_ GE395.out) | exact HB.out)) hb); clear BK366; clear BK367; clear BK395; clear HB; have BK366 := n0_; have BK367 := n1_; have BK395 := n2_; have HB := n3_; clear n0_ n1_ n2_ n3_; (try clear hb); (try clear hb2); (try clear hk); (try clear hi)) | ((with_reducible refine gate_dst (N := 32) rfl ?_); refine box_event ?hg (N := 32) ?hd (cs := #[.int .i64 0, .int .i64 0]) (t := 24) ?hr ?_; (case hd => rfl); (case hg => rfl); (case hr => first | (go_simp; done) | (go_simp; rfl)); intro gb399 hg w119 hbox hb; have n0_ := Aside0.mk (blk_below (g := gb366) (o := .cells #[.int .i64 t362, .int .i64 t363] 24 (0, 0)) (by (with_reducible repeat (first | refine blk_drewN ?_ _ | refine blk_drew ?_ | refine blk_alloc ?_ _)); exact BK366.out) hb); have n1_ := Aside0.mk (blk_below (g := gb367) (o := .cells #[.int .i64 t364, .int .i64 t365] 24 (0, 0)) (by (with_reducible repeat (first | refine blk_drewN ?_ _ | refine blk_drew ?_ | refine blk_alloc ?_ _)); exact BK367.out) hb); have n2_ := Aside0.mk (blk_below (g := gb395) (o := .cells #[.int .i64 t392, .int .i64 t393] 24 (0, 0)) (by (with_reducible repeat (first | refine blk_drewN ?_ _ | refine blk_drew ?_ | refine blk_alloc ?_ _)); exact BK395.out) hb); have n3_ := Aside0.mk (below_step (by repeat (first | (with_reducible first | exact HB.out | apply below_alloc | apply pw_below_drewN | apply below_drew1 | refine below_set ?_ GE366.out | refine below_set ?_ GE367.out | refine below_set ?_ GE395.out) | exact HB.out)) hb); have n4_ := Aside0.mk (hbox); have n5_ := Aside0.mk ((by rw [hg]; exact (below_size (by repeat (first | (with_reducible first | exact HB.out | apply below_alloc | apply pw_below_drewN | apply below_drew1 | refine below_set ?_ GE366.out | refine below_set ?_ GE367.out | refine below_set ?_ GE395.out) | exact HB.out))) : w.heap.size ≤ gb399)); have n6_ := Aside0.mk ((by rw [hg]; exact (below_size (by repeat (first | (with_reducible first | exact HB.out | apply below_alloc | apply pw_below_drewN | apply below_drew1 | refine below_set ?_ GE366.out | refine below_set ?_ GE367.out | refine below_set ?_ GE395.out) | exact HB.out))) : w.heap.size ≤ gb399)); have n7_ := Aside0.mk ((by rw [hg]; exact Nat.ne_of_lt (blk_lt (g := gb366) (o := .cells #[.int .i64 t362, .int .i64 t363] 24 (0, 0)) (by (with_reducible repeat (first | refine blk_drewN ?_ _ | refine blk_drew ?_ | refine blk_alloc ?_ _)); exact BK366.out)) : gb366 ≠ gb399)); have n8_ := Aside0.mk ((by rw [hg]; exact Nat.ne_of_gt (blk_lt (g := gb366) (o := .cells #[.int .i64 t362, .int .i64 t363] 24 (0, 0)) (by (with_reducible repeat (first | refine blk_drewN ?_ _ | refine blk_drew ?_ | refine blk_alloc ?_ _)); exact BK366.out)) : gb399 ≠ gb366)); have n9_ := Aside0.mk ((by rw [hg]; exact Nat.ne_of_lt (blk_lt (g := gb367) (o := .cells #[.int .i64 t364, .int .i64 t365] 24 (0, 0)) (by (with_reducible repeat (first | refine blk_drewN ?_ _ | refine blk_drew ?_ | refine blk_alloc ?_ _)); exact BK367.out)) : gb367 ≠ gb399)); have n10_ := Aside0.mk ((by rw [hg]; exact Nat.ne_of_gt (blk_lt (g := gb367) (o := .cells #[.int .i64 t364, .int .i64 t365] 24 (0, 0)) (by (with_reducible repeat (first | refine blk_drewN ?_ _ | refine blk_drew ?_ | refine blk_alloc ?_ _)); exact BK367.out)) : gb399 ≠ gb367)); have n11_ := Aside0.mk ((by rw [hg]; exact Nat.ne_of_lt (blk_lt (g := gb395) (o := .cells #[.int .i64 t392, .int .i64 t393] 24 (0, 0)) (by (with_reducible repeat (first | refine blk_drewN ?_ _ | refine blk_drew ?_ | refine blk_alloc ?_ _)); exact BK395.out)) : gb395 ≠ gb399)); have n12_ := Aside0.mk ((by rw [hg]; exact Nat.ne_of_gt (blk_lt (g := gb395) (o := .cells #[.int .i64 t392, .int .i64 t393] 24 (0, 0)) (by (with_reducible repeat (first | refine blk_drewN ?_ _ | refine blk_drew ?_ | refine blk_alloc ?_ _)); exact BK395.out)) : gb399 ≠ gb395)); clear BK366; clear BK367; clear BK395; clear HB; have BK366 := n0_; have BK367 := n1_; have BK395 := n2_; have HB := n3_; have BK399 := n4_; have GW399 := n5_; have GE399 := n6_; have NB366_399 := n7_; have NB399_366 := n8_; have NB367_399 := n9_; have NB399_367 := n10_; have NB395_399 := n11_; have NB399_395 := n12_; clear n0_ n1_ n2_ n3_ n4_ n5_ n6_ n7_ n8_ n9_ n10_ n11_ n12_; clear hb hbox hg; have hnb120 := NB399_366.out; have hnc120 := NB366_399.out; have hnb121 := NB399_367.out; have hnc121 := NB367_399.out; have hnb122 := NB399_395.out; have hnc122 := NB395_399.out; have hcz123_0 : w119.cell? ⟨gb399, 0, none⟩ = some (.int .i64 0) := (blk_cell BK399.out 0).trans rfl; have hcz123_1 : w119.cell? ⟨gb399, 1, none⟩ = some (.int .i64 0) := (blk_cell BK399.out 1).trans rfl; have hfz123_0 := blk_frozen BK399.out 0; have hfz123_1 := blk_frozen BK399.out 1) | ((with_reducible refine gate_callee (f := 16) rfl ?_); refine goesL_ (some 214) rfl rfl Tryz.func16 (by kernel_rfl) rfl #[.slice A1 l1.length c1] rfl (by (try simp only [List.map_toArray, List.map_cons, List.map_nil]); first | done | rfl | (simp only [List.length_drop, List.length_take]; rfl)) ?_; (with_reducible refine (spec_DrawHasAddr.calls _ _ l1 t400 t401 t402 _ ?side1 ?side2 A102.out).mono ?_); (case side1 => exact Kd.C_below HR1.out (by repeat (first | (with_reducible first | exact HB.out | apply below_alloc | apply pw_below_drewN | apply below_drew1 | refine below_set ?_ GE366.out | refine below_set ?_ GE367.out | refine below_set ?_ GE395.out | refine below_set ?_ GE399.out) | exact HB.out))); (case side2 => exact HC1.out); rintro e w124 ⟨rfl, hb⟩; refine ⟨_, rfl, ?_⟩; have n0_ := Aside0.mk (blk_below (g := gb366) (o := .cells #[.int .i64 t362, .int .i64 t363] 24 (0, 0)) (by (with_reducible repeat (first | refine blk_drewN ?_ _ | refine blk_drew ?_ | refine blk_alloc ?_ _)); refine blk_far ?_ NB366_399.out _; (with_reducible repeat (first | refine blk_drewN ?_ _ | refine blk_drew ?_ | refine blk_alloc ?_ _)); refine blk_far ?_ NB366_399.out _; (with_reducible repeat (first | refine blk_drewN ?_ _ | refine blk_drew ?_ | refine blk_alloc ?_ _)); exact BK366.out) hb); have n1_ := Aside0.mk (blk_below (g := gb367) (o := .cells #[.int .i64 t364, .int .i64 t365] 24 (0, 0)) (by (with_reducible repeat (first | refine blk_drewN ?_ _ | refine blk_drew ?_ | refine blk_alloc ?_ _)); refine blk_far ?_ NB367_399.out _; (with_reducible repeat (first | refine blk_drewN ?_ _ | refine blk_drew ?_ | refine blk_alloc ?_ _)); refine blk_far ?_ NB367_399.out _; (with_reducible repeat (first | refine blk_drewN ?_ _ | refine blk_drew ?_ | refine blk_alloc ?_ _)); exact BK367.out) hb); have n2_ := Aside0.mk (blk_below (g := gb395) (o := .cells #[.int .i64 t392, .int .i64 t393] 24 (0, 0)) (by (with_reducible repeat (first | refine blk_drewN ?_ _ | refine blk_drew ?_ | refine blk_alloc ?_ _)); refine blk_far ?_ NB395_399.out _; (with_reducible repeat (first | refine blk_drewN ?_ _ | refine blk_drew ?_ | refine blk_alloc ?_ _)); refine blk_far ?_ NB395_399.out _; (with_reducible repeat (first | refine blk_drewN ?_ _ | refine blk_drew ?_ | refine blk_alloc ?_ _)); exact BK395.out) hb); have n3_ := Aside0.mk (blk_below (g := gb399) (o := .cells #[.int .i64 t396, .int .i64 t397] 24 (0, 0)) (by (with_reducible repeat (first | refine blk_drewN ?_ _ | refine blk_drew ?_ | refine blk_alloc ?_ _)); refine blk_put (cs := #[.int .i64 t396, .int .i64 0]) ?_ 1 _ rfl; (with_reducible repeat (first | refine blk_drewN ?_ _ | refine blk_drew ?_ | refine blk_alloc ?_ _)); refine blk_put (cs := #[.int .i64 0, .int .i64 0]) ?_ 0 _ rfl; (with_reducible repeat (first | refine blk_drewN ?_ _ | refine blk_drew ?_ | refine blk_alloc ?_ _)); exact BK399.out) hb); have n4_ := Aside0.mk (below_step (by repeat (first | (with_reducible first | exact HB.out | apply below_alloc | apply pw_below_drewN | apply below_drew1 | refine below_set ?_ GE366.out | refine below_set ?_ GE367.out | refine below_set ?_ GE395.out | refine below_set ?_ GE399.out) | exact HB.out)) hb); clear BK366; clear BK367; clear BK395; clear BK399; clear HB; have BK366 := n0_; have BK367 := n1_; have BK395 := n2_; have BK399 := n3_; have HB := n4_; clear n0_ n1_ n2_ n3_ n4_; (try clear hb); (try clear hb2); (try clear hk); (try clear hi)) | ((with_reducible refine gate_dst (N := 34) rfl ?_); refine box_event ?hg (N := 34) ?hd (cs := #[.int .i64 0, .int .i64 0]) (t := 24) ?hr ?_; (case hd => rfl); (case hg => rfl); (case hr => first | (go_simp; done) | (go_simp; rfl)); intro gb403 hg w125 hbox hb; have n0_ := Aside0.mk (blk_below (g := gb366) (o := .cells #[.int .i64 t362, .int .i64 t363] 24 (0, 0)) (by (with_reducible repeat (first | refine blk_drewN ?_ _ | refine blk_drew ?_ | refine blk_alloc ?_ _)); exact BK366.out) hb); have n1_ := Aside0.mk (blk_below (g := gb367) (o := .cells #[.int .i64 t364, .int .i64 t365] 24 (0, 0)) (by (with_reducible repeat (first | refine blk_drewN ?_ _ | refine blk_drew ?_ | refine blk_alloc ?_ _)); exact BK367.out) hb); have n2_ := Aside0.mk (blk_below (g := gb395) (o := .cells #[.int .i64 t392, .int .i64 t393] 24 (0, 0)) (by (with_reducible repeat (first | refine blk_drewN ?_ _ | refine blk_drew ?_ | refine blk_alloc ?_ _)); exact BK395.out) hb); have n3_ := Aside0.mk (blk_below (g := gb399) (o := .cells #[.int .i64 t396, .int .i64 t397] 24 (0, 0)) (by (with_reducible repeat (first | refine blk_drewN ?_ _ | refine blk_drew ?_ | refine blk_alloc ?_ _)); exact BK399.out) hb); have n4_ := Aside0.mk (below_step (by repeat (first | (with_reducible first | exact HB.out | apply below_alloc | apply pw_below_drewN | apply below_drew1 | refine below_set ?_ GE366.out | refine below_set ?_ GE367.out | refine below_set ?_ GE395.out | refine below_set ?_ GE399.out) | exact HB.out)) hb); have n5_ := Aside0.mk (hbox); have n6_ := Aside0.mk ((by rw [hg]; exact (below_size (by repeat (first | (with_reducible first | exact HB.out | apply below_alloc | apply pw_below_drewN | apply below_drew1 | refine below_set ?_ GE366.out | refine below_set ?_ GE367.out | refine below_set ?_ GE395.out | refine below_set ?_ GE399.out) | exact HB.out))) : w.heap.size ≤ gb403)); have n7_ := Aside0.mk ((by rw [hg]; exact (below_size (by repeat (first | (with_reducible first | exact HB.out | apply below_alloc | apply pw_below_drewN | apply below_drew1 | refine below_set ?_ GE366.out | refine below_set ?_ GE367.out | refine below_set ?_ GE395.out | refine below_set ?_ GE399.out) | exact HB.out))) : w.heap.size ≤ gb403)); have n8_ := Aside0.mk ((by rw [hg]; exact Nat.ne_of_lt (blk_lt (g := gb366) (o := .cells #[.int .i64 t362, .int .i64 t363] 24 (0, 0)) (by (with_reducible repeat (first | refine blk_drewN ?_ _ | refine blk_drew ?_ | refine blk_alloc ?_ _)); exact BK366.out)) : gb366 ≠ gb403)); have n9_ := Aside0.mk ((by rw [hg]; exact Nat.ne_of_gt (blk_lt (g := gb366) (o := .cells #[.int .i64 t362, .int .i64 t363] 24 (0, 0)) (by (with_reducible repeat (first | refine blk_drewN ?_ _ | refine blk_drew ?_ | refine blk_alloc ?_ _)); exact BK366.out)) : gb403 ≠ gb366)); have n10_ := Aside0.mk ((by rw [hg]; exact Nat.ne_of_lt (blk_lt (g := gb367) (o := .cells #[.int .i64 t364, .int .i64 t365] 24 (0, 0)) (by (with_reducible repeat (first | refine blk_drewN ?_ _ | refine blk_drew ?_ | refine blk_alloc ?_ _)); exact BK367.out)) : gb367 ≠ gb403)); have n11_ := Aside0.mk ((by rw [hg]; exact Nat.ne_of_gt (blk_lt (g := gb367) (o := .cells #[.int .i64 t364, .int .i64 t365] 24 (0, 0)) (by (with_reducible repeat (first | refine blk_drewN ?_ _ | refine blk_drew ?_ | refine blk_alloc ?_ _)); exact BK367.out)) : gb403 ≠ gb367)); have n12_ := Aside0.mk ((by rw [hg]; exact Nat.ne_of_lt (blk_lt (g := gb395) (o := .cells #[.int .i64 t392, .int .i64 t393] 24 (0, 0)) (by (with_reducible repeat (first | refine blk_drewN ?_ _ | refine blk_drew ?_ | refine blk_alloc ?_ _)); exact BK395.out)) : gb395 ≠ gb403)); have n13_ := Aside0.mk ((by rw [hg]; exact Nat.ne_of_gt (blk_lt (g := gb395) (o := .cells #[.int .i64 t392, .int .i64 t393] 24 (0, 0)) (by (with_reducible repeat (first | refine blk_drewN ?_ _ | refine blk_drew ?_ | refine blk_alloc ?_ _)); exact BK395.out)) : gb403 ≠ gb395)); have n14_ := Aside0.mk ((by rw [hg]; exact Nat.ne_of_lt (blk_lt (g := gb399) (o := .cells #[.int .i64 t396, .int .i64 t397] 24 (0, 0)) (by (with_reducible repeat (first | refine blk_drewN ?_ _ | refine blk_drew ?_ | refine blk_alloc ?_ _)); exact BK399.out)) : gb399 ≠ gb403)); have n15_ := Aside0.mk ((by rw [hg]; exact Nat.ne_of_gt (blk_lt (g := gb399) (o := .cells #[.int .i64 t396, .int .i64 t397] 24 (0, 0)) (by (with_reducible repeat (first | refine blk_drewN ?_ _ | refine blk_drew ?_ | refine blk_alloc ?_ _)); exact BK399.out)) : gb403 ≠ gb399)); clear BK366; clear BK367; clear BK395; clear BK399; clear HB; have BK366 := n0_; have BK367 := n1_; have BK395 := n2_; have BK399 := n3_; have HB := n4_; have BK403 := n5_; have GW403 := n6_; have GE403 := n7_; have NB366_403 := n8_; have NB403_366 := n9_; have NB367_403 := n10_; have NB403_367 := n11_; have NB395_403 := n12_; have NB403_395 := n13_; have NB399_403 := n14_; have NB403_399 := n15_; clear n0_ n1_ n2_ n3_ n4_ n5_ n6_ n7_ n8_ n9_ n10_ n11_ n12_ n13_ n14_ n15_; clear hb hbox hg; have hnb126 := NB403_366.out; have hnc126 := NB366_403.out; have hnb127 := NB403_367.out; have hnc127 := NB367_403.out; have hnb128 := NB403_395.out; have hnc128 := NB395_403.out; have hnb129 := NB403_399.out; have hnc129 := NB399_403.out; have hcz130_0 : w125.cell? ⟨gb403, 0, none⟩ = some (.int .i64 0) := (blk_cell BK403.out 0).trans rfl; have hcz130_1 : w125.cell? ⟨gb403, 1, none⟩ = some (.int .i64 0) := (blk_cell BK403.out 1).trans rfl; have hfz130_0 := blk_frozen BK403.out 0; have hfz130_1 := blk_frozen BK403.out 1) | ((with_reducible refine gate_callee (f := 13) rfl ?_); refine goesL_ (some 220) rfl rfl Tryz.func13 (by kernel_rfl) rfl #[.agg #[.int .i64 t400, .int .i64 t401], .int .i64 t402] rfl (by (try simp only [List.map_toArray, List.map_cons, List.map_nil]); first | done | rfl | (simp only [List.length_drop, List.length_take]; rfl)) ?_; (with_reducible refine (impl_HasAddr.calls t400 t401 t402 t404 t405 _ A103.out).mono ?_); rintro e w131 ⟨rfl, hb⟩; refine ⟨_, rfl, ?_⟩; have n0_ := Aside0.mk (blk_below (g := gb366) (o := .cells #[.int .i64 t362, .int .i64 t363] 24 (0, 0)) (by (with_reducible repeat (first | refine blk_drewN ?_ _ | refine blk_drew ?_ | refine blk_alloc ?_ _)); refine blk_far ?_ NB366_403.out _; (with_reducible repeat (first | refine blk_drewN ?_ _ | refine blk_drew ?_ | refine blk_alloc ?_ _)); refine blk_far ?_ NB366_403.out _; (with_reducible repeat (first | refine blk_drewN ?_ _ | refine blk_drew ?_ | refine blk_alloc ?_ _)); exact BK366.out) hb); have n1_ := Aside0.mk (blk_below (g := gb367) (o := .cells #[.int .i64 t364, .int .i64 t365] 24 (0, 0)) (by (with_reducible repeat (first | refine blk_drewN ?_ _ | refine blk_drew ?_ | refine blk_alloc ?_ _)); refine blk_far ?_ NB367_403.out _; (with_reducible repeat (first | refine blk_drewN ?_ _ | refine blk_drew ?_ | refine blk_alloc ?_ _)); refine blk_far ?_ NB367_403.out _; (with_reducible repeat (first | refine blk_drewN ?_ _ | refine blk_drew ?_ | refine blk_alloc ?_ _)); exact BK367.out) hb); have n2_ := Aside0.mk (blk_below (g := gb395) (o := .cells #[.int .i64 t392, .int .i64 t393] 24 (0, 0)) (by (with_reducible repeat (first | refine blk_drewN ?_ _ | refine blk_drew ?_ | refine blk_alloc ?_ _)); refine blk_far ?_ NB395_403.out _; (with_reducible repeat (first | refine blk_drewN ?_ _ | refine blk_drew ?_ | refine blk_alloc ?_ _)); refine blk_far ?_ NB395_403.out _; (with_reducible repeat (first | refine blk_drewN ?_ _ | refine blk_drew ?_ | refine blk_alloc ?_ _)); exact BK395.out) hb); have n3_ := Aside0.mk (blk_below (g := gb399) (o := .cells #[.int .i64 t396, .int .i64 t397] 24 (0, 0)) (by (with_reducible repeat (first | refine blk_drewN ?_ _ | refine blk_drew ?_ | refine blk_alloc ?_ _)); refine blk_far ?_ NB399_403.out _; (with_reducible repeat (first | refine blk_drewN ?_ _ | refine blk_drew ?_ | refine blk_alloc ?_ _)); refine blk_far ?_ NB399_403.out _; (with_reducible repeat (first | refine blk_drewN ?_ _ | refine blk_drew ?_ | refine blk_alloc ?_ _)); exact BK399.out) hb); have n4_ := Aside0.mk (blk_below (g := gb403) (o := .cells #[.int .i64 t400, .int .i64 t401] 24 (0, 0)) (by (with_reducible repeat (first | refine blk_drewN ?_ _ | refine blk_drew ?_ | refine blk_alloc ?_ _)); refine blk_put (cs := #[.int .i64 t400, .int .i64 0]) ?_ 1 _ rfl; (with_reducible repeat (first | refine blk_drewN ?_ _ | refine blk_drew ?_ | refine blk_alloc ?_ _)); refine blk_put (cs := #[.int .i64 0, .int .i64 0]) ?_ 0 _ rfl; (with_reducible repeat (first | refine blk_drewN ?_ _ | refine blk_drew ?_ | refine blk_alloc ?_ _)); exact BK403.out) hb); have n5_ := Aside0.mk (below_step (by repeat (first | (with_reducible first | exact HB.out | apply below_alloc | apply pw_below_drewN | apply below_drew1 | refine below_set ?_ GE366.out | refine below_set ?_ GE367.out | refine below_set ?_ GE395.out | refine below_set ?_ GE399.out | refine below_set ?_ GE403.out) | exact HB.out)) hb); clear BK366; clear BK367; clear BK395; clear BK399; clear BK403; clear HB; have BK366 := n0_; have BK367 := n1_; have BK395 := n2_; have BK399 := n3_; have BK403 := n4_; have HB := n5_; clear n0_ n1_ n2_ n3_ n4_ n5_; (try clear hb); (try clear hb2); (try clear hk); (try clear hi); have hcz132_0 : w131.cell? ⟨gb403, 0, none⟩ = some (.int .i64 t400) := (blk_cell BK403.out 0).trans rfl; have hcz132_1 : w131.cell? ⟨gb403, 1, none⟩ = some (.int .i64 t401) := (blk_cell BK403.out 1).trans rfl; have hfz132_0 := blk_frozen BK403.out 0; have hfz132_1 := blk_frozen BK403.out 1) | ((with_reducible refine gate_callee (f := 17) rfl ?_); refine goesL_ (some 226) rfl rfl Tryz.func17 (by kernel_rfl) rfl #[.agg #[.int .i64 t400, .int .i64 t401], .int .i64 t402] rfl (by (try simp only [List.map_toArray, List.map_cons, List.map_nil]); first | done | rfl | (simp only [List.length_drop, List.length_take]; rfl)) ?_; (with_reducible refine (spec_HasAddr.calls t400 t401 t402 t406 t407 _ A104.out).mono ?_); rintro e w133 ⟨rfl, hb⟩; refine ⟨_, rfl, ?_⟩; have n0_ := Aside0.mk (blk_below (g := gb366) (o := .cells #[.int .i64 t362, .int .i64 t363] 24 (0, 0)) (by (with_reducible repeat (first | refine blk_drewN ?_ _ | refine blk_drew ?_ | refine blk_alloc ?_ _)); exact BK366.out) hb); have n1_ := Aside0.mk (blk_below (g := gb367) (o := .cells #[.int .i64 t364, .int .i64 t365] 24 (0, 0)) (by (with_reducible repeat (first | refine blk_drewN ?_ _ | refine blk_drew ?_ | refine blk_alloc ?_ _)); exact BK367.out) hb); have n2_ := Aside0.mk (blk_below (g := gb395) (o := .cells #[.int .i64 t392, .int .i64 t393] 24 (0, 0)) (by (with_reducible repeat (first | refine blk_drewN ?_ _ | refine blk_drew ?_ | refine blk_alloc ?_ _)); exact BK395.out) hb); have n3_ := Aside0.mk (blk_below (g := gb399) (o := .cells #[.int .i64 t396, .int .i64 t397] 24 (0, 0)) (by (with_reducible repeat (first | refine blk_drewN ?_ _ | refine blk_drew ?_ | refine blk_alloc ?_ _)); exact BK399.out) hb); have n4_ := Aside0.mk (blk_below (g := gb403) (o := .cells #[.int .i64 t400, .int .i64 t401] 24 (0, 0)) (by (with_reducible repeat (first | refine blk_drewN ?_ _ | refine blk_drew ?_ | refine blk_alloc ?_ _)); exact BK403.out) hb); have n5_ := Aside0.mk (below_step (by repeat (first | (with_reducible first | exact HB.out | apply below_alloc | apply pw_below_drewN | apply below_drew1 | refine below_set ?_ GE366.out | refine below_set ?_ GE367.out | refine below_set ?_ GE395.out | refine below_set ?_ GE399.out | refine below_set ?_ GE403.out) | exact HB.out)) hb); clear BK366; clear BK367; clear BK395; clear BK399; clear BK403; clear HB; have BK366 := n0_; have BK367 := n1_; have BK395 := n2_; have BK399 := n3_; have BK403 := n4_; have HB := n5_; clear n0_ n1_ n2_ n3_ n4_ n5_; (try clear hb); (try clear hb2); (try clear hk); (try clear hi); have hcz134_0 : w133.cell? ⟨gb395, 0, none⟩ = some (.int .i64 t392) := (blk_cell BK395.out 0).trans rfl; have hcz134_1 : w133.cell? ⟨gb395, 1, none⟩ = some (.int .i64 t393) := (blk_cell BK395.out 1).trans rfl; have hfz134_0 := blk_frozen BK395.out 0; have hfz134_1 := blk_frozen BK395.out 1; have hcz135_0 : w133.cell? ⟨gb399, 0, none⟩ = some (.int .i64 t396) := (blk_cell BK399.out 0).trans rfl; have hcz135_1 : w133.cell? ⟨gb399, 1, none⟩ = some (.int .i64 t397) := (blk_cell BK399.out 1).trans rfl; have hfz135_0 := blk_frozen BK399.out 0; have hfz135_1 := blk_frozen BK399.out 1) | ((with_reducible refine gate_callee (f := 9) rfl ?_); refine goesL_ (some 249) rfl rfl Tryz.func9 (by kernel_rfl) rfl #[.agg #[.int .i64 t392, .int .i64 t393]] rfl (by (try simp only [List.map_toArray, List.map_cons, List.map_nil]); first | done | rfl | (simp only [List.length_drop, List.length_take]; rfl)) ?_; (with_reducible refine (impl_PrefixText.calls kj54 t392 t393 t408 true _ ?tab A109.out).mono ?_); (case tab => exact LaysR.All.below HTAB.out (by repeat (first | (with_reducible first | exact HB.out | apply below_alloc | apply pw_below_drewN | apply below_drew1 | refine below_set ?_ GE366.out | refine below_set ?_ GE367.out | refine below_set ?_ GE395.out | refine below_set ?_ GE399.out | refine below_set ?_ GE403.out) | exact HB.out))); rintro e w136 ⟨rfl, hb⟩; refine ⟨_, rfl, ?_⟩; have n0_ := Aside0.mk (blk_below (g := gb366) (o := .cells #[.int .i64 t362, .int .i64 t363] 24 (0, 0)) (by (with_reducible repeat (first | refine blk_drewN ?_ _ | refine blk_drew ?_ | refine blk_alloc ?_ _)); exact BK366.out) hb); have n1_ := Aside0.mk (blk_below (g := gb367) (o := .cells #[.int .i64 t364, .int .i64 t365] 24 (0, 0)) (by (with_reducible repeat (first | refine blk_drewN ?_ _ | refine blk_drew ?_ | refine blk_alloc ?_ _)); exact BK367.out) hb); have n2_ := Aside0.mk (blk_below (g := gb395) (o := .cells #[.int .i64 t392, .int .i64 t393] 24 (0, 0)) (by (with_reducible repeat (first | refine blk_drewN ?_ _ | refine blk_drew ?_ | refine blk_alloc ?_ _)); exact BK395.out) hb); have n3_ := Aside0.mk (blk_below (g := gb399) (o := .cells #[.int .i64 t396, .int .i64 t397] 24 (0, 0)) (by (with_reducible repeat (first | refine blk_drewN ?_ _ | refine blk_drew ?_ | refine blk_alloc ?_ _)); exact BK399.out) hb); have n4_ := Aside0.mk (blk_below (g := gb403) (o := .cells #[.int .i64 t400, .int .i64 t401] 24 (0, 0)) (by (with_reducible repeat (first | refine blk_drewN ?_ _ | refine blk_drew ?_ | refine blk_alloc ?_ _)); exact BK403.out) hb); have n5_ := Aside0.mk (below_step (by repeat (first | (with_reducible first | exact HB.out | apply below_alloc | apply pw_below_drewN | apply below_drew1 | refine below_set ?_ GE366.out | refine below_set ?_ GE367.out | refine below_set ?_ GE395.out | refine below_set ?_ GE399.out | refine below_set ?_ GE403.out) | exact HB.out)) hb); clear BK366; clear BK367; clear BK395; clear BK399; clear BK403; clear HB; have BK366 := n0_; have BK367 := n1_; have BK395 := n2_; have BK399 := n3_; have BK403 := n4_; have HB := n5_; clear n0_ n1_ n2_ n3_ n4_ n5_; (try clear hb); (try clear hb2); (try clear hk); (try clear hi)))
                              go_ret
                              exact ⟨by first | rfl | (simp [errW_none, errW_some] <;> rfl) | (simp [*, errW_none, errW_some] <;> rfl), by repeat (first | (with_reducible first | exact HB.out | apply below_alloc | apply pw_below_drewN | apply below_drew1 | refine below_set ?_ GE366.out | refine below_set ?_ GE367.out | refine below_set ?_ GE395.out | refine below_set ?_ GE399.out | refine below_set ?_ GE403.out) | exact HB.out)⟩
                            · replace c111 := Bool.eq_false_iff.mpr c111
                              subst c111
                              have H1 : (some false) = some r := by rw [if_neg (show ¬ (false = true) by decide)] at H; exact H
                              clear H
                              have H := H1
                              clear H1
                              obtain rfl := Option.some.inj H
                              cases hT
                          · replace c110 := Bool.eq_false_iff.mpr c110
                            subst c110
                            have H1 : (some true) = some r := by rw [if_neg (show ¬ (false = true) by decide)] at H; exact H
                            clear H
                            have H := H1
                            clear H1
                            obtain rfl := Option.some.inj H
                            go_wp2_with (first | ((with_reducible refine gate_callee (f := 14) rfl ?_); refine goesL_ (some 201) rfl rfl Tryz.func14 (by kernel_rfl) rfl #[.slice A1 l1.length c1] rfl (by (try simp only [List.map_toArray, List.map_cons, List.map_nil]); first | done | rfl | (simp only [List.length_drop, List.length_take]; rfl)) ?_; (with_reducible refine (spec_DrawReadPrefix.calls kj54 _ _ l1 t391 _ ?side1 ?side2 A99.out).mono ?_); (case side1 => repeat (first | exact (Kd.C_below HR1.out HB.out) | (with_reducible refine Kd.C_alloc ?_ _) | (with_reducible refine Kd.C_drewN ?_ _) | (with_reducible refine Kd.C_drew ?_))); (case side2 => exact HC1.out); rintro e w137 ⟨rfl, hb⟩; refine ⟨_, rfl, ?_⟩; have n0_ := Aside0.mk (blk_below (g := gb366) (o := .cells #[.int .i64 t362, .int .i64 t363] 24 (0, 0)) (by (with_reducible repeat (first | refine blk_drewN ?_ _ | refine blk_drew ?_ | refine blk_alloc ?_ _)); exact BK366.out) hb); have n1_ := Aside0.mk (blk_below (g := gb367) (o := .cells #[.int .i64 t364, .int .i64 t365] 24 (0, 0)) (by (with_reducible repeat (first | refine blk_drewN ?_ _ | refine blk_drew ?_ | refine blk_alloc ?_ _)); exact BK367.out) hb); have n2_ := Aside0.mk (below_step (by repeat (first | (with_reducible first | exact HB.out | apply below_alloc | apply pw_below_drewN | apply below_drew1 | refine below_set ?_ GE366.out | refine below_set ?_ GE367.out) | exact HB.out)) hb); clear BK366; clear BK367; clear HB; have BK366 := n0_; have BK367 := n1_; have HB := n2_; clear n0_ n1_ n2_; (try clear hb); (try clear hb2); (try clear hk); (try clear hi)) | ((with_reducible refine gate_callee (f := 12) rfl ?_); refine goesL_ (some 204) rfl rfl Tryz.func12 (by kernel_rfl) rfl #[.string t391] rfl (by (try simp only [List.map_toArray, List.map_cons, List.map_nil]); first | done | rfl | (simp only [List.length_drop, List.length_take]; rfl)) ?_; (with_reducible refine (impl_ReadPrefix.calls kj54 t391 t392 t393 false _ ?tab A100.out).mono ?_); (case tab => exact LaysR.All.below HTAB.out (by repeat (first | (with_reducible first | exact HB.out | apply below_alloc | apply pw_below_drewN | apply below_drew1 | refine below_set ?_ GE366.out | refine below_set ?_ GE367.out) | exact HB.out))); rintro e w138 ⟨rfl, hb⟩; refine ⟨_, rfl, ?_⟩; have n0_ := Aside0.mk (blk_below (g := gb366) (o := .cells #[.int .i64 t362, .int .i64 t363] 24 (0, 0)) (by (with_reducible repeat (first | refine blk_drewN ?_ _ | refine blk_drew ?_ | refine blk_alloc ?_ _)); exact BK366.out) hb); have n1_ := Aside0.mk (blk_below (g := gb367) (o := .cells #[.int .i64 t364, .int .i64 t365] 24 (0, 0)) (by (with_reducible repeat (first | refine blk_drewN ?_ _ | refine blk_drew ?_ | refine blk_alloc ?_ _)); exact BK367.out) hb); have n2_ := Aside0.mk (below_step (by repeat (first | (with_reducible first | exact HB.out | apply below_alloc | apply pw_below_drewN | apply below_drew1 | refine below_set ?_ GE366.out | refine below_set ?_ GE367.out) | exact HB.out)) hb); clear BK366; clear BK367; clear HB; have BK366 := n0_; have BK367 := n1_; have HB := n2_; clear n0_ n1_ n2_; (try clear hb); (try clear hb2); (try clear hk); (try clear hi)) | ((with_reducible refine gate_dst (N := 30) rfl ?_); refine box_event ?hg (N := 30) ?hd (cs := #[.int .i64 0, .int .i64 0]) (t := 24) ?hr ?_; (case hd => rfl); (case hg => rfl); (case hr => first | (go_simp; done) | (go_simp; rfl)); intro gb395 hg w139 hbox hb; have n0_ := Aside0.mk (blk_below (g := gb366) (o := .cells #[.int .i64 t362, .int .i64 t363] 24 (0, 0)) (by (with_reducible repeat (first | refine blk_drewN ?_ _ | refine blk_drew ?_ | refine blk_alloc ?_ _)); exact BK366.out) hb); have n1_ := Aside0.mk (blk_below (g := gb367) (o := .cells #[.int .i64 t364, .int .i64 t365] 24 (0, 0)) (by (with_reducible repeat (first | refine blk_drewN ?_ _ | refine blk_drew ?_ | refine blk_alloc ?_ _)); exact BK367.out) hb); have n2_ := Aside0.mk (below_step (by repeat (first | (with_reducible first | exact HB.out | apply below_alloc | apply pw_below_drewN | apply below_drew1 | refine below_set ?_ GE366.out | refine below_set ?_ GE367.out) | exact HB.out)) hb); have n3_ := Aside0.mk (hbox); have n4_ := Aside0.mk ((by rw [hg]; exact (below_size (by repeat (first | (with_reducible first | exact HB.out | apply below_alloc | apply pw_below_drewN | apply below_drew1 | refine below_set ?_ GE366.out | refine below_set ?_ GE367.out) | exact HB.out))) : w.heap.size ≤ gb395)); have n5_ := Aside0.mk ((by rw [hg]; exact (below_size (by repeat (first | (with_reducible first | exact HB.out | apply below_alloc | apply pw_below_drewN | apply below_drew1 | refine below_set ?_ GE366.out | refine below_set ?_ GE367.out) | exact HB.out))) : w.heap.size ≤ gb395)); have n6_ := Aside0.mk ((by rw [hg]; exact Nat.ne_of_lt (blk_lt (g := gb366) (o := .cells #[.int .i64 t362, .int .i64 t363] 24 (0, 0)) (by (with_reducible repeat (first | refine blk_drewN ?_ _ | refine blk_drew ?_ | refine blk_alloc ?_ _)); exact BK366.out)) : gb366 ≠ gb395)); have n7_ := Aside0.mk ((by rw [hg]; exact Nat.ne_of_gt (blk_lt (g := gb366) (o := .cells #[.int .i64 t362, .int .i64 t363] 24 (0, 0)) (by (with_reducible repeat (first | refine blk_drewN ?_ _ | refine blk_drew ?_ | refine blk_alloc ?_ _)); exact BK366.out)) : gb395 ≠ gb366)); have n8_ := Aside0.mk ((by rw [hg]; exact Nat.ne_of_lt (blk_lt (g := gb367) (o := .cells #[.int .i64 t364, .int .i64 t365] 24 (0, 0)) (by (with_reducible repeat (first | refine blk_drewN ?_ _ | refine blk_drew ?_ | refine blk_alloc ?_ _)); exact BK367.out)) : gb367 ≠ gb395)); have n9_ := Aside0.mk ((by rw [hg]; exact Nat.ne_of_gt (blk_lt (g := gb367) (o := .cells #[.int .i64 t364, .int .i64 t365] 24 (0, 0)) (by (with_reducible repeat (first | refine blk_drewN ?_ _ | refine blk_drew ?_ | refine blk_alloc ?_ _)); exact BK367.out)) : gb395 ≠ gb367)); clear BK366; clear BK367; clear HB; have BK366 := n0_; have BK367 := n1_; have HB := n2_; have BK395 := n3_; have GW395 := n4_; have GE395 := n5_; have NB366_395 := n6_; have NB395_366 := n7_; have NB367_395 := n8_; have NB395_367 := n9_; clear n0_ n1_ n2_ n3_ n4_ n5_ n6_ n7_ n8_ n9_; clear hb hbox hg; have hnb140 := NB395_366.out; have hnc140 := NB366_395.out; have hnb141 := NB395_367.out; have hnc141 := NB367_395.out; have hcz142_0 : w139.cell? ⟨gb395, 0, none⟩ = some (.int .i64 0) := (blk_cell BK395.out 0).trans rfl; have hcz142_1 : w139.cell? ⟨gb395, 1, none⟩ = some (.int .i64 0) := (blk_cell BK395.out 1).trans rfl; have hfz142_0 := blk_frozen BK395.out 0; have hfz142_1 := blk_frozen BK395.out 1) | ((with_reducible refine gate_callee (f := 15) rfl ?_); refine goesL_ (some 209) rfl rfl Tryz.func15 (by kernel_rfl) rfl #[.string t391] rfl (by (try simp only [List.map_toArray, List.map_cons, List.map_nil]); first | done | rfl | (simp only [List.length_drop, List.length_take]; rfl)) ?_; (with_reducible refine (spec_ReadPrefix.calls kj54 t391 t396 t397 t398 _ A101.out).mono ?_); rintro e w143 ⟨rfl, hb⟩; refine ⟨_, rfl, ?_⟩; have n0_ := Aside0.mk (blk_below (g := gb366) (o := .cells #[.int .i64 t362, .int .i64 t363] 24 (0, 0)) (by (with_reducible repeat (first | refine blk_drewN ?_ _ | refine blk_drew ?_ | refine blk_alloc ?_ _)); refine blk_far ?_ NB366_395.out _; (with_reducible repeat (first | refine blk_drewN ?_ _ | refine blk_drew ?_ | refine blk_alloc ?_ _)); refine blk_far ?_ NB366_395.out _; (with_reducible repeat (first | refine blk_drewN ?_ _ | refine blk_drew ?_ | refine blk_alloc ?_ _)); exact BK366.out) hb); have n1_ := Aside0.mk (blk_below (g := gb367) (o := .cells #[.int .i64 t364, .int .i64 t365] 24 (0, 0)) (by (with_reducible repeat (first | refine blk_drewN ?_ _ | refine blk_drew ?_ | refine blk_alloc ?_ _)); refine blk_far ?_ NB367_395.out _; (with_reducible repeat (first | refine blk_drewN ?_ _ | refine blk_drew ?_ | refine blk_alloc ?_ _)); refine blk_far ?_ NB367_395.out _; (with_reducible repeat (first | refine blk_drewN ?_ _ | refine blk_drew ?_ | refine blk_alloc ?_ _)); exact BK367.out) hb); have n2_ := Aside0.mk (blk_below (g := gb395) (o := .cells #[.int .i64 t392, .int .i64 t393] 24 (0, 0)) (by (with_reducible repeat (first | refine blk_drewN ?_ _ | refine blk_drew ?_ | refine blk_alloc ?_ _)); refine blk_put (cs := #[.int .i64 t392, .int .i64 0]) ?_ 1 _ rfl; (with_reducible repeat (first | refine blk_drewN ?_ _ | refine blk_drew ?_ | refine blk_alloc ?_ _)); refine blk_put (cs := #[.int .i64 0, .int .i64 0]) ?_ 0 _ rfl; (with_reducible repeat (first | refine blk_drewN ?_ _ | refine blk_drew ?_ | refine blk_alloc ?_ _)); exact BK395.out) hb); have n3_ := Aside0.mk (below_step (by repeat (first | (with_reducible first | exact HB.out | apply below_alloc | apply pw_below_drewN | apply below_drew1 | refine below_set ?_ GE366.out | refine below_set ?_ GE367.out | refine below_set ?_ GE395.out) | exact HB.out)) hb); clear BK366; clear BK367; clear BK395; clear HB; have BK366 := n0_; have BK367 := n1_; have BK395 := n2_; have HB := n3_; clear n0_ n1_ n2_ n3_; (try clear hb); (try clear hb2); (try clear hk); (try clear hi)) | ((with_reducible refine gate_dst (N := 32) rfl ?_); refine box_event ?hg (N := 32) ?hd (cs := #[.int .i64 0, .int .i64 0]) (t := 24) ?hr ?_; (case hd => rfl); (case hg => rfl); (case hr => first | (go_simp; done) | (go_simp; rfl)); intro gb399 hg w144 hbox hb; have n0_ := Aside0.mk (blk_below (g := gb366) (o := .cells #[.int .i64 t362, .int .i64 t363] 24 (0, 0)) (by (with_reducible repeat (first | refine blk_drewN ?_ _ | refine blk_drew ?_ | refine blk_alloc ?_ _)); exact BK366.out) hb); have n1_ := Aside0.mk (blk_below (g := gb367) (o := .cells #[.int .i64 t364, .int .i64 t365] 24 (0, 0)) (by (with_reducible repeat (first | refine blk_drewN ?_ _ | refine blk_drew ?_ | refine blk_alloc ?_ _)); exact BK367.out) hb); have n2_ := Aside0.mk (blk_below (g := gb395) (o := .cells #[.int .i64 t392, .int .i64 t393] 24 (0, 0)) (by (with_reducible repeat (first | refine blk_drewN ?_ _ | refine blk_drew ?_ | refine blk_alloc ?_ _)); exact BK395.out) hb); have n3_ := Aside0.mk (below_step (by repeat (first | (with_reducible first | exact HB.out | apply below_alloc | apply pw_below_drewN | apply below_drew1 | refine below_set ?_ GE366.out | refine below_set ?_ GE367.out | refine below_set ?_ GE395.out) | exact HB.out)) hb); have n4_ := Aside0.mk (hbox); have n5_ := Aside0.mk ((by rw [hg]; exact (below_size (by repeat (first | (with_reducible first | exact HB.out | apply below_alloc | apply pw_below_drewN | apply below_drew1 | refine below_set ?_ GE366.out | refine below_set ?_ GE367.out | refine below_set ?_ GE395.out) | exact HB.out))) : w.heap.size ≤ gb399)); have n6_ := Aside0.mk ((by rw [hg]; exact (below_size (by repeat (first | (with_reducible first | exact HB.out | apply below_alloc | apply pw_below_drewN | apply below_drew1 | refine below_set ?_ GE366.out | refine below_set ?_ GE367.out | refine below_set ?_ GE395.out) | exact HB.out))) : w.heap.size ≤ gb399)); have n7_ := Aside0.mk ((by rw [hg]; exact Nat.ne_of_lt (blk_lt (g := gb366) (o := .cells #[.int .i64 t362, .int .i64 t363] 24 (0, 0)) (by (with_reducible repeat (first | refine blk_drewN ?_ _ | refine blk_drew ?_ | refine blk_alloc ?_ _)); exact BK366.out)) : gb366 ≠ gb399)); have n8_ := Aside0.mk ((by rw [hg]; exact Nat.ne_of_gt (blk_lt (g := gb366) (o := .cells #[.int .i64 t362, .int .i64 t363] 24 (0, 0)) (by (with_reducible repeat (first | refine blk_drewN ?_ _ | refine blk_drew ?_ | refine blk_alloc ?_ _)); exact BK366.out)) : gb399 ≠ gb366)); have n9_ := Aside0.mk ((by rw [hg]; exact Nat.ne_of_lt (blk_lt (g := gb367) (o := .cells #[.int .i64 t364, .int .i64 t365] 24 (0, 0)) (by (with_reducible repeat (first | refine blk_drewN ?_ _ | refine blk_drew ?_ | refine blk_alloc ?_ _)); exact BK367.out)) : gb367 ≠ gb399)); have n10_ := Aside0.mk ((by rw [hg]; exact Nat.ne_of_gt (blk_lt (g := gb367) (o := .cells #[.int .i64 t364, .int .i64 t365] 24 (0, 0)) (by (with_reducible repeat (first | refine blk_drewN ?_ _ | refine blk_drew ?_ | refine blk_alloc ?_ _)); exact BK367.out)) : gb399 ≠ gb367)); have n11_ := Aside0.mk ((by rw [hg]; exact Nat.ne_of_lt (blk_lt (g := gb395) (o := .cells #[.int .i64 t392, .int .i64 t393] 24 (0, 0)) (by (with_reducible repeat (first | refine blk_drewN ?_ _ | refine blk_drew ?_ | refine blk_alloc ?_ _)); exact BK395.out)) : gb395 ≠ gb399)); have n12_ := Aside0.mk ((by rw [hg]; exact Nat.ne_of_gt (blk_lt (g := gb395) (o := .cells #[.int .i64 t392, .int .i64 t393] 24 (0, 0)) (by (with_reducible repeat (first | refine blk_drewN ?_ _ | refine blk_drew ?_ | refine blk_alloc ?_ _)); exact BK395.out)) : gb399 ≠ gb395)); clear BK366; clear BK367; clear BK395; clear HB; have BK366 := n0_; have BK367 := n1_; have BK395 := n2_; have HB := n3_; have BK399 := n4_; have GW399 := n5_; have GE399 := n6_; have NB366_399 := n7_; have NB399_366 := n8_; have NB367_399 := n9_; have NB399_367 := n10_; have NB395_399 := n11_; have NB399_395 := n12_; clear n0_ n1_ n2_ n3_ n4_ n5_ n6_ n7_ n8_ n9_ n10_ n11_ n12_; clear hb hbox hg; have hnb145 := NB399_366.out; have hnc145 := NB366_399.out; have hnb146 := NB399_367.out; have hnc146 := NB367_399.out; have hnb147 := NB399_395.out; have hnc147 := NB395_399.out; have hcz148_0 : w144.cell? ⟨gb399, 0, none⟩ = some (.int .i64 0) := (blk_cell BK399.out 0).trans rfl; have hcz148_1 : w144.cell? ⟨gb399, 1, none⟩ = some (.int .i64 0) := (blk_cell BK399.out 1).trans rfl; have hfz148_0 := blk_frozen BK399.out 0; have hfz148_1 := blk_frozen BK399.out 1) | ((with_reducible refine gate_callee (f := 16) rfl ?_); refine goesL_ (some 214) rfl rfl Tryz.func16 (by kernel_rfl) rfl #[.slice A1 l1.length c1] rfl (by (try simp only [List.map_toArray, List.map_cons, List.map_nil]); first | done | rfl | (simp only [List.length_drop, List.length_take]; rfl)) ?_; (with_reducible refine (spec_DrawHasAddr.calls _ _ l1 t400 t401 t402 _ ?side1 ?side2 A102.out).mono ?_); (case side1 => exact Kd.C_below HR1.out (by repeat (first | (with_reducible first | exact HB.out | apply below_alloc | apply pw_below_drewN | apply below_drew1 | refine below_set ?_ GE366.out | refine below_set ?_ GE367.out | refine below_set ?_ GE395.out | refine below_set ?_ GE399.out) | exact HB.out))); (case side2 => exact HC1.out); rintro e w149 ⟨rfl, hb⟩; refine ⟨_, rfl, ?_⟩; have n0_ := Aside0.mk (blk_below (g := gb366) (o := .cells #[.int .i64 t362, .int .i64 t363] 24 (0, 0)) (by (with_reducible repeat (first | refine blk_drewN ?_ _ | refine blk_drew ?_ | refine blk_alloc ?_ _)); refine blk_far ?_ NB366_399.out _; (with_reducible repeat (first | refine blk_drewN ?_ _ | refine blk_drew ?_ | refine blk_alloc ?_ _)); refine blk_far ?_ NB366_399.out _; (with_reducible repeat (first | refine blk_drewN ?_ _ | refine blk_drew ?_ | refine blk_alloc ?_ _)); exact BK366.out) hb); have n1_ := Aside0.mk (blk_below (g := gb367) (o := .cells #[.int .i64 t364, .int .i64 t365] 24 (0, 0)) (by (with_reducible repeat (first | refine blk_drewN ?_ _ | refine blk_drew ?_ | refine blk_alloc ?_ _)); refine blk_far ?_ NB367_399.out _; (with_reducible repeat (first | refine blk_drewN ?_ _ | refine blk_drew ?_ | refine blk_alloc ?_ _)); refine blk_far ?_ NB367_399.out _; (with_reducible repeat (first | refine blk_drewN ?_ _ | refine blk_drew ?_ | refine blk_alloc ?_ _)); exact BK367.out) hb); have n2_ := Aside0.mk (blk_below (g := gb395) (o := .cells #[.int .i64 t392, .int .i64 t393] 24 (0, 0)) (by (with_reducible repeat (first | refine blk_drewN ?_ _ | refine blk_drew ?_ | refine blk_alloc ?_ _)); refine blk_far ?_ NB395_399.out _; (with_reducible repeat (first | refine blk_drewN ?_ _ | refine blk_drew ?_ | refine blk_alloc ?_ _)); refine blk_far ?_ NB395_399.out _; (with_reducible repeat (first | refine blk_drewN ?_ _ | refine blk_drew ?_ | refine blk_alloc ?_ _)); exact BK395.out) hb); have n3_ := Aside0.mk (blk_below (g := gb399) (o := .cells #[.int .i64 t396, .int .i64 t397] 24 (0, 0)) (by (with_reducible repeat (first | refine blk_drewN ?_ _ | refine blk_drew ?_ | refine blk_alloc ?_ _)); refine blk_put (cs := #[.int .i64 t396, .int .i64 0]) ?_ 1 _ rfl; (with_reducible repeat (first | refine blk_drewN ?_ _ | refine blk_drew ?_ | refine blk_alloc ?_ _)); refine blk_put (cs := #[.int .i64 0, .int .i64 0]) ?_ 0 _ rfl; (with_reducible repeat (first | refine blk_drewN ?_ _ | refine blk_drew ?_ | refine blk_alloc ?_ _)); exact BK399.out) hb); have n4_ := Aside0.mk (below_step (by repeat (first | (with_reducible first | exact HB.out | apply below_alloc | apply pw_below_drewN | apply below_drew1 | refine below_set ?_ GE366.out | refine below_set ?_ GE367.out | refine below_set ?_ GE395.out | refine below_set ?_ GE399.out) | exact HB.out)) hb); clear BK366; clear BK367; clear BK395; clear BK399; clear HB; have BK366 := n0_; have BK367 := n1_; have BK395 := n2_; have BK399 := n3_; have HB := n4_; clear n0_ n1_ n2_ n3_ n4_; (try clear hb); (try clear hb2); (try clear hk); (try clear hi)) | ((with_reducible refine gate_dst (N := 34) rfl ?_); refine box_event ?hg (N := 34) ?hd (cs := #[.int .i64 0, .int .i64 0]) (t := 24) ?hr ?_; (case hd => rfl); (case hg => rfl); (case hr => first | (go_simp; done) | (go_simp; rfl)); intro gb403 hg w150 hbox hb; have n0_ := Aside0.mk (blk_below (g := gb366) (o := .cells #[.int .i64 t362, .int .i64 t363] 24 (0, 0)) (by (with_reducible repeat (first | refine blk_drewN ?_ _ | refine blk_drew ?_ | refine blk_alloc ?_ _)); exact BK366.out) hb); have n1_ := Aside0.mk (blk_below (g := gb367) (o := .cells #[.int .i64 t364, .int .i64 t365] 24 (0, 0)) (by (with_reducible repeat (first | refine blk_drewN ?_ _ | refine blk_drew ?_ | refine blk_alloc ?_ _)); exact BK367.out) hb); have n2_ := Aside0.mk (blk_below (g := gb395) (o := .cells #[.int .i64 t392, .int .i64 t393] 24 (0, 0)) (by (with_reducible repeat (first | refine blk_drewN ?_ _ | refine blk_drew ?_ | refine blk_alloc ?_ _)); exact BK395.out) hb); have n3_ := Aside0.mk (blk_below (g := gb399) (o := .cells #[.int .i64 t396, .int .i64 t397] 24 (0, 0)) (by (with_reducible repeat (first | refine blk_drewN ?_ _ | refine blk_drew ?_ | refine blk_alloc ?_ _)); exact BK399.out) hb); have n4_ := Aside0.mk (below_step (by repeat (first | (with_reducible first | exact HB.out | apply below_alloc | apply pw_below_drewN | apply below_drew1 | refine below_set ?_ GE366.out | refine below_set ?_ GE367.out | refine below_set ?_ GE395.out | refine below_set ?_ GE399.out) | exact HB.out)) hb); have n5_ := Aside0.mk (hbox); have n6_ := Aside0.mk ((by rw [hg]; exact (below_size (by repeat (first | (with_reducible first | exact HB.out | apply below_alloc | apply pw_below_drewN | apply below_drew1 | refine below_set ?_ GE366.out | refine below_set ?_ GE367.out | refine below_set ?_ GE395.out | refine below_set ?_ GE399.out) | exact HB.out))) : w.heap.size ≤ gb403)); have n7_ := Aside0.mk ((by rw [hg]; exact (below_size (by repeat (first | (with_reducible first | exact HB.out | apply below_alloc | apply pw_below_drewN | apply below_drew1 | refine below_set ?_ GE366.out | refine below_set ?_ GE367.out | refine below_set ?_ GE395.out | refine below_set ?_ GE399.out) | exact HB.out))) : w.heap.size ≤ gb403)); have n8_ := Aside0.mk ((by rw [hg]; exact Nat.ne_of_lt (blk_lt (g := gb366) (o := .cells #[.int .i64 t362, .int .i64 t363] 24 (0, 0)) (by (with_reducible repeat (first | refine blk_drewN ?_ _ | refine blk_drew ?_ | refine blk_alloc ?_ _)); exact BK366.out)) : gb366 ≠ gb403)); have n9_ := Aside0.mk ((by rw [hg]; exact Nat.ne_of_gt (blk_lt (g := gb366) (o := .cells #[.int .i64 t362, .int .i64 t363] 24 (0, 0)) (by (with_reducible repeat (first | refine blk_drewN ?_ _ | refine blk_drew ?_ | refine blk_alloc ?_ _)); exact BK366.out)) : gb403 ≠ gb366)); have n10_ := Aside0.mk ((by rw [hg]; exact Nat.ne_of_lt (blk_lt (g := gb367) (o := .cells #[.int .i64 t364, .int .i64 t365] 24 (0, 0)) (by (with_reducible repeat (first | refine blk_drewN ?_ _ | refine blk_drew ?_ | refine blk_alloc ?_ _)); exact BK367.out)) : gb367 ≠ gb403)); have n11_ := Aside0.mk ((by rw [hg]; exact Nat.ne_of_gt (blk_lt (g := gb367) (o := .cells #[.int .i64 t364, .int .i64 t365] 24 (0, 0)) (by (with_reducible repeat (first | refine blk_drewN ?_ _ | refine blk_drew ?_ | refine blk_alloc ?_ _)); exact BK367.out)) : gb403 ≠ gb367)); have n12_ := Aside0.mk ((by rw [hg]; exact Nat.ne_of_lt (blk_lt (g := gb395) (o := .cells #[.int .i64 t392, .int .i64 t393] 24 (0, 0)) (by (with_reducible repeat (first | refine blk_drewN ?_ _ | refine blk_drew ?_ | refine blk_alloc ?_ _)); exact BK395.out)) : gb395 ≠ gb403)); have n13_ := Aside0.mk ((by rw [hg]; exact Nat.ne_of_gt (blk_lt (g := gb395) (o := .cells #[.int .i64 t392, .int .i64 t393] 24 (0, 0)) (by (with_reducible repeat (first | refine blk_drewN ?_ _ | refine blk_drew ?_ | refine blk_alloc ?_ _)); exact BK395.out)) : gb403 ≠ gb395)); have n14_ := Aside0.mk ((by rw [hg]; exact Nat.ne_of_lt (blk_lt (g := gb399) (o := .cells #[.int .i64 t396, .int .i64 t397] 24 (0, 0)) (by (with_reducible repeat (first | refine blk_drewN ?_ _ | refine blk_drew ?_ | refine blk_alloc ?_ _)); exact BK399.out)) : gb399 ≠ gb403)); have n15_ := Aside0.mk ((by rw [hg]; exact Nat.ne_of_gt (blk_lt (g := gb399) (o := .cells #[.int .i64 t396, .int .i64 t397] 24 (0, 0)) (by (with_reducible repeat (first | refine blk_drewN ?_ _ | refine blk_drew ?_ | refine blk_alloc ?_ _)); exact BK399.out)) : gb403 ≠ gb399)); clear BK366; clear BK367; clear BK395; clear BK399; clear HB; have BK366 := n0_; have BK367 := n1_; have BK395 := n2_; have BK399 := n3_; have HB := n4_; have BK403 := n5_; have GW403 := n6_; have GE403 := n7_; have NB366_403 := n8_; have NB403_366 := n9_; have NB367_403 := n10_; have NB403_367 := n11_; have NB395_403 := n12_; have NB403_395 := n13_; have NB399_403 := n14_; have NB403_399 := n15_; clear n0_ n1_ n2_ n3_ n4_ n5_ n6_ n7_ n8_ n9_ n10_ n11_ n12_ n13_ n14_ n15_; clear hb hbox hg; have hnb151 := NB403_366.out; have hnc151 := NB366_403.out; have hnb152 := NB403_367.out; have hnc152 := NB367_403.out; have hnb153 := NB403_395.out; have hnc153 := NB395_403.out; have hnb154 := NB403_399.out; have hnc154 := NB399_403.out; have hcz155_0 : w150.cell? ⟨gb403, 0, none⟩ = some (.int .i64 0) := (blk_cell BK403.out 0).trans rfl; have hcz155_1 : w150.cell? ⟨gb403, 1, none⟩ = some (.int .i64 0) := (blk_cell BK403.out 1).trans rfl; have hfz155_0 := blk_frozen BK403.out 0; have hfz155_1 := blk_frozen BK403.out 1) | ((with_reducible refine gate_callee (f := 13) rfl ?_); refine goesL_ (some 220) rfl rfl Tryz.func13 (by kernel_rfl) rfl #[.agg #[.int .i64 t400, .int .i64 t401], .int .i64 t402] rfl (by (try simp only [List.map_toArray, List.map_cons, List.map_nil]); first | done | rfl | (simp only [List.length_drop, List.length_take]; rfl)) ?_; (with_reducible refine (impl_HasAddr.calls t400 t401 t402 t404 t405 _ A103.out).mono ?_); rintro e w156 ⟨rfl, hb⟩; refine ⟨_, rfl, ?_⟩; have n0_ := Aside0.mk (blk_below (g := gb366) (o := .cells #[.int .i64 t362, .int .i64 t363] 24 (0, 0)) (by (with_reducible repeat (first | refine blk_drewN ?_ _ | refine blk_drew ?_ | refine blk_alloc ?_ _)); refine blk_far ?_ NB366_403.out _; (with_reducible repeat (first | refine blk_drewN ?_ _ | refine blk_drew ?_ | refine blk_alloc ?_ _)); refine blk_far ?_ NB366_403.out _; (with_reducible repeat (first | refine blk_drewN ?_ _ | refine blk_drew ?_ | refine blk_alloc ?_ _)); exact BK366.out) hb); have n1_ := Aside0.mk (blk_below (g := gb367) (o := .cells #[.int .i64 t364, .int .i64 t365] 24 (0, 0)) (by (with_reducible repeat (first | refine blk_drewN ?_ _ | refine blk_drew ?_ | refine blk_alloc ?_ _)); refine blk_far ?_ NB367_403.out _; (with_reducible repeat (first | refine blk_drewN ?_ _ | refine blk_drew ?_ | refine blk_alloc ?_ _)); refine blk_far ?_ NB367_403.out _; (with_reducible repeat (first | refine blk_drewN ?_ _ | refine blk_drew ?_ | refine blk_alloc ?_ _)); exact BK367.out) hb); have n2_ := Aside0.mk (blk_below (g := gb395) (o := .cells #[.int .i64 t392, .int .i64 t393] 24 (0, 0)) (by (with_reducible repeat (first | refine blk_drewN ?_ _ | refine blk_drew ?_ | refine blk_alloc ?_ _)); refine blk_far ?_ NB395_403.out _; (with_reducible repeat (first | refine blk_drewN ?_ _ | refine blk_drew ?_ | refine blk_alloc ?_ _)); refine blk_far ?_ NB395_403.out _; (with_reducible repeat (first | refine blk_drewN ?_ _ | refine blk_drew ?_ | refine blk_alloc ?_ _)); exact BK395.out) hb); have n3_ := Aside0.mk (blk_below (g := gb399) (o := .cells #[.int .i64 t396, .int .i64 t397] 24 (0, 0)) (by (with_reducible repeat (first | refine blk_drewN ?_ _ | refine blk_drew ?_ | refine blk_alloc ?_ _)); refine blk_far ?_ NB399_403.out _; (with_reducible repeat (first | refine blk_drewN ?_ _ | refine blk_drew ?_ | refine blk_alloc ?_ _)); refine blk_far ?_ NB399_403.out _; (with_reducible repeat (first | refine blk_drewN ?_ _ | refine blk_drew ?_ | refine blk_alloc ?_ _)); exact BK399.out) hb); have n4_ := Aside0.mk (blk_below (g := gb403) (o := .cells #[.int .i64 t400, .int .i64 t401] 24 (0, 0)) (by (with_reducible repeat (first | refine blk_drewN ?_ _ | refine blk_drew ?_ | refine blk_alloc ?_ _)); refine blk_put (cs := #[.int .i64 t400, .int .i64 0]) ?_ 1 _ rfl; (with_reducible repeat (first | refine blk_drewN ?_ _ | refine blk_drew ?_ | refine blk_alloc ?_ _)); refine blk_put (cs := #[.int .i64 0, .int .i64 0]) ?_ 0 _ rfl; (with_reducible repeat (first | refine blk_drewN ?_ _ | refine blk_drew ?_ | refine blk_alloc ?_ _)); exact BK403.out) hb); have n5_ := Aside0.mk (below_step (by repeat (first | (with_reducible first | exact HB.out | apply below_alloc | apply pw_below_drewN | apply below_drew1 | refine below_set ?_ GE366.out | refine below_set ?_ GE367.out | refine below_set ?_ GE395.out | refine below_set ?_ GE399.out | refine below_set ?_ GE403.out) | exact HB.out)) hb); clear BK366; clear BK367; clear BK395; clear BK399; clear BK403; clear HB; have BK366 := n0_; have BK367 := n1_; have BK395 := n2_; have BK399 := n3_; have BK403 := n4_; have HB := n5_; clear n0_ n1_ n2_ n3_ n4_ n5_; (try clear hb); (try clear hb2); (try clear hk); (try clear hi); have hcz157_0 : w156.cell? ⟨gb403, 0, none⟩ = some (.int .i64 t400) := (blk_cell BK403.out 0).trans rfl; have hcz157_1 : w156.cell? ⟨gb403, 1, none⟩ = some (.int .i64 t401) := (blk_cell BK403.out 1).trans rfl; have hfz157_0 := blk_frozen BK403.out 0; have hfz157_1 := blk_frozen BK403.out 1) | ((with_reducible refine gate_callee (f := 17) rfl ?_); refine goesL_ (some 226) rfl rfl Tryz.func17 (by kernel_rfl) rfl #[.agg #[.int .i64 t400, .int .i64 t401], .int .i64 t402] rfl (by (try simp only [List.map_toArray, List.map_cons, List.map_nil]); first | done | rfl | (simp only [List.length_drop, List.length_take]; rfl)) ?_; (with_reducible refine (spec_HasAddr.calls t400 t401 t402 t406 t407 _ A104.out).mono ?_); rintro e w158 ⟨rfl, hb⟩; refine ⟨_, rfl, ?_⟩; have n0_ := Aside0.mk (blk_below (g := gb366) (o := .cells #[.int .i64 t362, .int .i64 t363] 24 (0, 0)) (by (with_reducible repeat (first | refine blk_drewN ?_ _ | refine blk_drew ?_ | refine blk_alloc ?_ _)); exact BK366.out) hb); have n1_ := Aside0.mk (blk_below (g := gb367) (o := .cells #[.int .i64 t364, .int .i64 t365] 24 (0, 0)) (by (with_reducible repeat (first | refine blk_drewN ?_ _ | refine blk_drew ?_ | refine blk_alloc ?_ _)); exact BK367.out) hb); have n2_ := Aside0.mk (blk_below (g := gb395) (o := .cells #[.int .i64 t392, .int .i64 t393] 24 (0, 0)) (by (with_reducible repeat (first | refine blk_drewN ?_ _ | refine blk_drew ?_ | refine blk_alloc ?_ _)); exact BK395.out) hb); have n3_ := Aside0.mk (blk_below (g := gb399) (o := .cells #[.int .i64 t396, .int .i64 t397] 24 (0, 0)) (by (with_reducible repeat (first | refine blk_drewN ?_ _ | refine blk_drew ?_ | refine blk_alloc ?_ _)); exact BK399.out) hb); have n4_ := Aside0.mk (blk_below (g := gb403) (o := .cells #[.int .i64 t400, .int .i64 t401] 24 (0, 0)) (by (with_reducible repeat (first | refine blk_drewN ?_ _ | refine blk_drew ?_ | refine blk_alloc ?_ _)); exact BK403.out) hb); have n5_ := Aside0.mk (below_step (by repeat (first | (with_reducible first | exact HB.out | apply below_alloc | apply pw_below_drewN | apply below_drew1 | refine below_set ?_ GE366.out | refine below_set ?_ GE367.out | refine below_set ?_ GE395.out | refine below_set ?_ GE399.out | refine below_set ?_ GE403.out) | exact HB.out)) hb); clear BK366; clear BK367; clear BK395; clear BK399; clear BK403; clear HB; have BK366 := n0_; have BK367 := n1_; have BK395 := n2_; have BK399 := n3_; have BK403 := n4_; have HB := n5_; clear n0_ n1_ n2_ n3_ n4_ n5_; (try clear hb); (try clear hb2); (try clear hk); (try clear hi); have hcz159_0 : w158.cell? ⟨gb395, 0, none⟩ = some (.int .i64 t392) := (blk_cell BK395.out 0).trans rfl; have hcz159_1 : w158.cell? ⟨gb395, 1, none⟩ = some (.int .i64 t393) := (blk_cell BK395.out 1).trans rfl; have hfz159_0 := blk_frozen BK395.out 0; have hfz159_1 := blk_frozen BK395.out 1; have hcz160_0 : w158.cell? ⟨gb399, 0, none⟩ = some (.int .i64 t396) := (blk_cell BK399.out 0).trans rfl; have hcz160_1 : w158.cell? ⟨gb399, 1, none⟩ = some (.int .i64 t397) := (blk_cell BK399.out 1).trans rfl; have hfz160_0 := blk_frozen BK399.out 0; have hfz160_1 := blk_frozen BK399.out 1) | ((with_reducible refine gate_callee (f := 9) rfl ?_); refine goesL_ (some 249) rfl rfl Tryz.func9 (by kernel_rfl) rfl #[.agg #[.int .i64 t392, .int .i64 t393]] rfl (by (try simp only [List.map_toArray, List.map_cons, List.map_nil]); first | done | rfl | (simp only [List.length_drop, List.length_take]; rfl)) ?_; (with_reducible refine (impl_PrefixText.calls kj54 t392 t393 t408 t409 _ ?tab A109.out).mono ?_); (case tab => exact LaysR.All.below HTAB.out (by repeat (first | (with_reducible first | exact HB.out | apply below_alloc | apply pw_below_drewN | apply below_drew1 | refine below_set ?_ GE366.out | refine below_set ?_ GE367.out | refine below_set ?_ GE395.out | refine below_set ?_ GE399.out | refine below_set ?_ GE403.out) | exact HB.out))); rintro e w161 ⟨rfl, hb⟩; refine ⟨_, rfl, ?_⟩; have n0_ := Aside0.mk (blk_below (g := gb366) (o := .cells #[.int .i64 t362, .int .i64 t363] 24 (0, 0)) (by (with_reducible repeat (first | refine blk_drewN ?_ _ | refine blk_drew ?_ | refine blk_alloc ?_ _)); exact BK366.out) hb); have n1_ := Aside0.mk (blk_below (g := gb367) (o := .cells #[.int .i64 t364, .int .i64 t365] 24 (0, 0)) (by (with_reducible repeat (first | refine blk_drewN ?_ _ | refine blk_drew ?_ | refine blk_alloc ?_ _)); exact BK367.out) hb); have n2_ := Aside0.mk (blk_below (g := gb395) (o := .cells #[.int .i64 t392, .int .i64 t393] 24 (0, 0)) (by (with_reducible repeat (first | refine blk_drewN ?_ _ | refine blk_drew ?_ | refine blk_alloc ?_ _)); exact BK395.out) hb); have n3_ := Aside0.mk (blk_below (g := gb399) (o := .cells #[.int .i64 t396, .int .i64 t397] 24 (0, 0)) (by (with_reducible repeat (first | refine blk_drewN ?_ _ | refine blk_drew ?_ | refine blk_alloc ?_ _)); exact BK399.out) hb); have n4_ := Aside0.mk (blk_below (g := gb403) (o := .cells #[.int .i64 t400, .int .i64 t401] 24 (0, 0)) (by (with_reducible repeat (first | refine blk_drewN ?_ _ | refine blk_drew ?_ | refine blk_alloc ?_ _)); exact BK403.out) hb); have n5_ := Aside0.mk (below_step (by repeat (first | (with_reducible first | exact HB.out | apply below_alloc | apply pw_below_drewN | apply below_drew1 | refine below_set ?_ GE366.out | refine below_set ?_ GE367.out | refine below_set ?_ GE395.out | refine below_set ?_ GE399.out | refine below_set ?_ GE403.out) | exact HB.out)) hb); clear BK366; clear BK367; clear BK395; clear BK399; clear BK403; clear HB; have BK366 := n0_; have BK367 := n1_; have BK395 := n2_; have BK399 := n3_; have BK403 := n4_; have HB := n5_; clear n0_ n1_ n2_ n3_ n4_ n5_; (try clear hb); (try clear hb2); (try clear hk); (try clear hi)))
                            go_ret
                            exact ⟨by first | rfl | (simp [errW_none, errW_some] <;> rfl) | (simp [*, errW_none, errW_some] <;> rfl), by repeat (first | (with_reducible first | exact HB.out | apply below_alloc | apply pw_below_drewN | apply below_drew1 | refine below_set ?_ GE366.out | refine below_set ?_ GE367.out | refine below_set ?_ GE395.out | refine below_set ?_ GE399.out | refine below_set ?_ GE403.out) | exact HB.out)⟩

/-- THE ONE PURE STATEMENT of laws_FnPrefixes: yours. -/
def laws_FnPrefixes.Pure : Prop := ∀ (l0 : List Int) (l1 : List Int), l0.length ≤ maxLen → l0.length * 1 ≤ 140737488351232 → (∀ x ∈ l0, (Lit.int .u8 x).wf = true) → l1.length ≤ maxLen → l1.length * 1 ≤ 140737488351232 → (∀ x ∈ l1, (Lit.int .u8 x).wf = true) → ∃ k, laws_FnPrefixes.f k l0 l1 = some true
theorem laws_FnPrefixes.walk (P : laws_FnPrefixes.Pure) (a0 : Option Addr) (len0 cap0 : Nat) (z0 : List Int) (a1 : Option Addr) (len1 cap1 : Nat) (z1 : List Int) (w : World) (ht0 : LaysR.All w) (w0 : (a0 = none ∧ len0 = 0 ∧ cap0 = 0 ∧ z0 = []) ∨ ∃ x, a0 = some x ∧ len0 ≤ cap0 ∧ cap0 ≤ maxLen ∧ z0.length = cap0 ∧ (∀ i, i < z0.length → w.cell? (x.add i) = some (.int .u8 (z0.getD i 0))) ∧ ∀ n ∈ z0, (Lit.int .u8 n).wf = true) (y0 : len0 * 1 ≤ 140737488351232) (w1 : (a1 = none ∧ len1 = 0 ∧ cap1 = 0 ∧ z1 = []) ∨ ∃ x, a1 = some x ∧ len1 ≤ cap1 ∧ cap1 ≤ maxLen ∧ z1.length = cap1 ∧ (∀ i, i < z1.length → w.cell? (x.add i) = some (.int .u8 (z1.getD i 0))) ∧ ∀ n ∈ z1, (Lit.int .u8 n).wf = true) (y1 : len1 * 1 ≤ 140737488351232) :
    Calls Tryz.prog 3 #[.slice a0 len0 cap0, .slice a1 len1 cap1] w fun e w' => e = .returned (.bool true) ∧ Below w.heap.size w w' := by
  obtain ⟨l0, rfl, hr0, hm0, hw0, hc0⟩ := ReadsInt.ofRowC w0
  obtain ⟨l1, rfl, hr1, hm1, hw1, hc1⟩ := ReadsInt.ofRowC w1
  obtain ⟨k, h⟩ := P l0 l1 hm0 y0 hw0 hm1 y1 hw1
  refine (laws_FnPrefixes.calls k _ _ l0 _ _ l1 true w (Kd.C_of_reads (d := (0 : Int)) (h1 := fun _ => rfl) hr0) hc0 (Kd.C_of_reads (d := (0 : Int)) (h1 := fun _ => rfl) hr1) hc1 rfl ht0 h).mono ?_
  rintro e w' ⟨rfl, hd⟩
  exact ⟨rfl, hd⟩

end Go.Proofs.YtkollihfejkklaaGreatDoor.PFnPrefixes
