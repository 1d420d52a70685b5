/- Written by this session's own program over the kit's print: Lean functions that tell what Go functions answer, each with a proof that the call does so. No condition but what each statement says. -/
import Derived.Test.YtabejlfejlpkeaaYFnExactCutPrefixx0
import Derived.Test.YtabejlfejlpkeaaYFnExactCutPrefixx2
import Derived.Test.YtabejlfejlpkeaaYFnExactCutPrefixx6
import Derived.Test.YtabejlfejlpkeaaYFnExactCutPrefixx12
namespace Go.Proofs.Ytabejlfejlpkeaa.PFnExactCutPrefix
open Go.RowKit Go.Proofs.YtabejlfejlpkeaaW.PrintWords Go.Proofs.YtabejlfejlpkeaaW.PrintLast Go.Proofs.YtabejlfejlpkeaaW.PrintMore
open Go.Proofs.YtabejlfejlpkeaaW.PrintLast renaming i64_w → zB, i32_w → zC, goesL_ → zD, any_of → zF, pure_ → zJ
open Go.Proofs.YtabejlfejlpkeaaW.PrintWords renaming pw_below_drewN → zd, below_drew1 → ze, below_alloc → zf, below_set → zi, blk_drewN → zl, blk_alloc → zm, blk_drew → zn, below_step → zp, gate_callee → zr, blk_below → zu, blk_cell → zv, Aside0 → zy, below_size → zz
open Go.Proofs.YtabejlfejlpkeaaW.PrintWords.Kd renaming R_drewN → za, R_alloc → zb, R_drew → zc, R_reads' → zg, R_below → zh, C_drewN → zj, C_alloc → zk, C_drew → zo, R_slice → zq, R_mono → zs, R_elder' → zt, R_new' → zw, R_base → zx, R_lt → zA, R_lower → zE
open Go.Proofs.YtabejlfejlpkeaaW.PrintWords.LeO renaming none → zG, bind → zH, ite → zI
attribute [local go_sem] max2_int min2_int max_two min_two max_three min_three max_four min_four   -- for this text's walks alone
set_option linter.unusedVariables false
set_option linter.unusedSimpArgs false

/-! ### laws_FnExactCutPrefix: function 10 -/
mutual
def laws_FnExactCutPrefix.j0 : Nat → List (S43) → List (S45) → Bool → List (S45) → List (S45) → Bool → Bool → Int → Int → Option (Bool)
 | 0, _, _, _, _, _, _, _, _, _ => none
 | k + 1, x0, x6, x7, x8, x9, x10, x46, zT, zU => if x46 = true then (some false) else ((laws_toPrefixS.f k x0).bind fun t357 => ((laws_eqPrefixS.f k x8 t357).bind fun t360 => (if t360 = true then ((laws_markPrefixS.f k x8 1).bind fun bt361 => (if bt361.1 < 0 then (laws_FnExactCutPrefix.j1 k x0 x6 x7 x9 true zT zU) else ((laws_eqPrefixS.f k x9 x6).bind fun t363 => (if t363 = true then (laws_FnExactCutPrefix.j1 k x0 x6 x7 x9 (x10 != x7) zT zU) else (laws_FnExactCutPrefix.j1 k x0 x6 x7 x9 true zT zU))))) else (some false))))
def laws_FnExactCutPrefix.j1 : Nat → List (S43) → List (S45) → Bool → List (S45) → Bool → Int → Int → Option (Bool)
 | 0, _, _, _, _, _, _, _ => none
 | k + 1, x0, x6, x7, x9, x67, zT, zU => if x67 = true then (some false) else ((laws_markPrefixS.f k x9 1).bind fun bt364 => ((laws_heldPrefixS.f k bt364.2 1).bind fun t366 => (if t366 < 0 then (some false) else (if t366 = bt364.1 then ((laws_toPrefixS.f k x0).bind fun t367 => ((laws_toPrefix.f zT zU).bind fun bt370 => ((impl_CutPrefix.f k t367 bt370.1 bt370.2).bind fun bt372 => ((laws_eqPrefixS.f k bt372.1 x6).bind fun t376 => (if t376 = true then (laws_FnExactCutPrefix.j2 k bt364.2 bt364.1 (bt372.2 != x7)) else (laws_FnExactCutPrefix.j2 k bt364.2 bt364.1 true)))))) else (some false)))))
def laws_FnExactCutPrefix.j2 : Nat → List (S45) → Int → Bool → Option (Bool)
 | 0, _, _, _ => none
 | k + 1, x9, x12, x95 => if x95 = true then (some false) else ((laws_heldPrefixS.f k x9 1).bind fun t377 => (if t377 < 0 then (some false) else (if t377 = x12 then (some true) else (some false))))
end
def laws_FnExactCutPrefix.f (k : Nat) (l0 : List (S43)) (a1_0 : Int) (a1_1 : Int) : Option (Bool) := (laws_szPrefixS.f l0 1048576).bind fun t337 => (if t337 < 0 then (some true) else ((laws_toPrefixS.f k l0).bind fun t338 => ((laws_toPrefix.f a1_0 a1_1).bind fun bt341 => ((spec_CutPrefix.f k t338 bt341.1 bt341.2).bind fun bt343 => ((laws_toPrefixS.f k l0).bind fun t347 => ((laws_toPrefix.f a1_0 a1_1).bind fun bt350 => ((impl_CutPrefix.f k t347 bt350.1 bt350.2).bind fun bt352 => ((laws_eqPrefixS.f k bt352.1 bt343.1).bind fun t356 => (if t356 = true then (laws_FnExactCutPrefix.j0 k l0 bt343.1 bt343.2 t347 bt352.1 bt352.2 (bt352.2 != bt343.2) a1_0 a1_1) else (laws_FnExactCutPrefix.j0 k l0 bt343.1 bt343.2 t347 bt352.1 bt352.2 true a1_0 a1_1))))))))))
theorem laws_FnExactCutPrefix.mono_l : ∀ k, (∀ y0 y1 y2 y3 y4 y5 y6 y7 y8, LeO (laws_FnExactCutPrefix.j0 k y0 y1 y2 y3 y4 y5 y6 y7 y8) (laws_FnExactCutPrefix.j0 (k + 1) y0 y1 y2 y3 y4 y5 y6 y7 y8)) ∧ (∀ y0 y1 y2 y3 y4 y5 y6, LeO (laws_FnExactCutPrefix.j1 k y0 y1 y2 y3 y4 y5 y6) (laws_FnExactCutPrefix.j1 (k + 1) y0 y1 y2 y3 y4 y5 y6)) ∧ (∀ y0 y1 y2, LeO (laws_FnExactCutPrefix.j2 k y0 y1 y2) (laws_FnExactCutPrefix.j2 (k + 1) y0 y1 y2))
 | 0 => ⟨fun _ _ _ _ _ _ _ _ _ r h => by simp [laws_FnExactCutPrefix.j0] at h, fun _ _ _ _ _ _ _ r h => by simp [laws_FnExactCutPrefix.j1] at h, fun _ _ _ r h => by simp [laws_FnExactCutPrefix.j2] at h⟩
 | k + 1 => by
  obtain ⟨ih0, ih1, ih2⟩ := laws_FnExactCutPrefix.mono_l k
  refine ⟨?_, ?_, ?_⟩
  ·
   intro y0 y1 y2 y3 y4 y5 y6 y7 y8
   unfold laws_FnExactCutPrefix.j0
   repeat' first
   | (with_reducible exact ih0 _ _ _ _ _ _ _ _ _)
   | (with_reducible exact ih1 _ _ _ _ _ _ _)
   | (with_reducible exact ih2 _ _ _)
   | (with_reducible exact impl_CutPrefix.mono _ _ _ _)
   | (with_reducible exact laws_eqPrefixS.mono _ _ _)
   | (with_reducible exact laws_heldPrefixS.mono _ _ _)
   | (with_reducible exact laws_markPrefixS.mono _ _ _)
   | (with_reducible exact laws_toPrefixS.mono _ _)
   | (with_reducible exact spec_CutPrefix.mono _ _ _ _)
   | (with_reducible exact LeO.refl _)
   | (with_reducible exact zG _)
   | (with_reducible refine zI ?_ ?_)
   | (with_reducible refine zH ?_ (fun _ => ?_))
   | exact ih0 _ _ _ _ _ _ _ _ _
   | exact ih1 _ _ _ _ _ _ _
   | exact ih2 _ _ _
   | exact impl_CutPrefix.mono _ _ _ _
   | exact laws_eqPrefixS.mono _ _ _
   | exact laws_heldPrefixS.mono _ _ _
   | exact laws_markPrefixS.mono _ _ _
   | exact laws_toPrefixS.mono _ _
   | exact spec_CutPrefix.mono _ _ _ _
   | exact zG _
   | refine zI ?_ ?_
   | refine zH ?_ (fun _ => ?_)
  ·
   intro y0 y1 y2 y3 y4 y5 y6
   unfold laws_FnExactCutPrefix.j1
   repeat' first
   | (with_reducible exact ih0 _ _ _ _ _ _ _ _ _)
   | (with_reducible exact ih1 _ _ _ _ _ _ _)
   | (with_reducible exact ih2 _ _ _)
   | (with_reducible exact impl_CutPrefix.mono _ _ _ _)
   | (with_reducible exact laws_eqPrefixS.mono _ _ _)
   | (with_reducible exact laws_heldPrefixS.mono _ _ _)
   | (with_reducible exact laws_markPrefixS.mono _ _ _)
   | (with_reducible exact laws_toPrefixS.mono _ _)
   | (with_reducible exact spec_CutPrefix.mono _ _ _ _)
   | (with_reducible exact LeO.refl _)
   | (with_reducible exact zG _)
   | (with_reducible refine zI ?_ ?_)
   | (with_reducible refine zH ?_ (fun _ => ?_))
   | exact ih0 _ _ _ _ _ _ _ _ _
   | exact ih1 _ _ _ _ _ _ _
   | exact ih2 _ _ _
   | exact impl_CutPrefix.mono _ _ _ _
   | exact laws_eqPrefixS.mono _ _ _
   | exact laws_heldPrefixS.mono _ _ _
   | exact laws_markPrefixS.mono _ _ _
   | exact laws_toPrefixS.mono _ _
   | exact spec_CutPrefix.mono _ _ _ _
   | exact zG _
   | refine zI ?_ ?_
   | refine zH ?_ (fun _ => ?_)
  ·
   intro y0 y1 y2
   unfold laws_FnExactCutPrefix.j2
   repeat' first
   | (with_reducible exact ih0 _ _ _ _ _ _ _ _ _)
   | (with_reducible exact ih1 _ _ _ _ _ _ _)
   | (with_reducible exact ih2 _ _ _)
   | (with_reducible exact impl_CutPrefix.mono _ _ _ _)
   | (with_reducible exact laws_eqPrefixS.mono _ _ _)
   | (with_reducible exact laws_heldPrefixS.mono _ _ _)
   | (with_reducible exact laws_markPrefixS.mono _ _ _)
   | (with_reducible exact laws_toPrefixS.mono _ _)
   | (with_reducible exact spec_CutPrefix.mono _ _ _ _)
   | (with_reducible exact LeO.refl _)
   | (with_reducible exact zG _)
   | (with_reducible refine zI ?_ ?_)
   | (with_reducible refine zH ?_ (fun _ => ?_))
   | exact ih0 _ _ _ _ _ _ _ _ _
   | exact ih1 _ _ _ _ _ _ _
   | exact ih2 _ _ _
   | exact impl_CutPrefix.mono _ _ _ _
   | exact laws_eqPrefixS.mono _ _ _
   | exact laws_heldPrefixS.mono _ _ _
   | exact laws_markPrefixS.mono _ _ _
   | exact laws_toPrefixS.mono _ _
   | exact spec_CutPrefix.mono _ _ _ _
   | exact zG _
   | refine zI ?_ ?_
   | refine zH ?_ (fun _ => ?_)
theorem laws_FnExactCutPrefix.mono : ∀ a0 a1 a2 k, LeO (laws_FnExactCutPrefix.f k a0 a1 a2) (laws_FnExactCutPrefix.f (k + 1) a0 a1 a2) := by
 intro a0 a1 a2 k
 obtain ⟨ih0, ih1, ih2⟩ := laws_FnExactCutPrefix.mono_l k
 unfold laws_FnExactCutPrefix.f
 repeat' first
   | (with_reducible exact ih0 _ _ _ _ _ _ _ _ _)
   | (with_reducible exact ih1 _ _ _ _ _ _ _)
   | (with_reducible exact ih2 _ _ _)
   | (with_reducible exact impl_CutPrefix.mono _ _ _ _)
   | (with_reducible exact laws_eqPrefixS.mono _ _ _)
   | (with_reducible exact laws_heldPrefixS.mono _ _ _)
   | (with_reducible exact laws_markPrefixS.mono _ _ _)
   | (with_reducible exact laws_toPrefixS.mono _ _)
   | (with_reducible exact spec_CutPrefix.mono _ _ _ _)
   | (with_reducible exact LeO.refl _)
   | (with_reducible exact zG _)
   | (with_reducible refine zI ?_ ?_)
   | (with_reducible refine zH ?_ (fun _ => ?_))
   | exact ih0 _ _ _ _ _ _ _ _ _
   | exact ih1 _ _ _ _ _ _ _
   | exact ih2 _ _ _
   | exact impl_CutPrefix.mono _ _ _ _
   | exact laws_eqPrefixS.mono _ _ _
   | exact laws_heldPrefixS.mono _ _ _
   | exact laws_markPrefixS.mono _ _ _
   | exact laws_toPrefixS.mono _ _
   | exact spec_CutPrefix.mono _ _ _ _
   | exact zG _
   | refine zI ?_ ?_
   | refine zH ?_ (fun _ => ?_)
def laws_FnExactCutPrefix.T5 : Bool × List (List Nat × List Nat) := (true, [([], []), ([0], [0]), ([], []), ([2, 1], [2]), ([1, 3, 3], [1, 3]), ([4], [4]), ([5], [5]), ([5], [5]), ([6, 4, 0, 1, 2, 3, 4, 5, 6], [6]), ([7, 8, 0, 1, 2, 3, 4, 5, 6, 7, 8], [7])])
def laws_FnExactCutPrefix.B5 : List Nat := [0, 1, 0, 7, 15, 31, 63, 63, 127, 511]
theorem laws_FnExactCutPrefix.tab5 : rtab .any (opsOf Try.f10 5) = laws_FnExactCutPrefix.T5 := by kernel_rfl
theorem laws_FnExactCutPrefix.bits5 : waitsOk laws_FnExactCutPrefix.T5.2 laws_FnExactCutPrefix.B5 = true := by kernel_rfl
def laws_FnExactCutPrefix.T24 : Bool × List (List Nat × List Nat) := (true, [([], []), ([0], [0]), ([], []), ([2, 1], [2]), ([1, 3, 3], [1, 3]), ([4], [4]), ([5], [5]), ([5], [5]), ([6, 4, 0, 1, 2, 3, 4, 5, 6], [6]), ([7, 8, 0, 1, 2, 3, 4, 5, 6, 7, 8], [7])])
def laws_FnExactCutPrefix.B24 : List Nat := [0, 1, 0, 7, 15, 31, 63, 63, 127, 511]
theorem laws_FnExactCutPrefix.tab24 : rtab .any (opsOf Try.f10 24) = laws_FnExactCutPrefix.T24 := by kernel_rfl
theorem laws_FnExactCutPrefix.bits24 : waitsOk laws_FnExactCutPrefix.T24.2 laws_FnExactCutPrefix.B24 = true := by kernel_rfl
set_option maxHeartbeats 8000000 in
set_option maxRecDepth 100000 in
theorem laws_FnExactCutPrefix.calls (k : Nat) (A0 : Option Addr) (c0 : Nat) (l0 : List (S43)) (a1_0 : Int) (a1_1 : Int) (r : Bool) (w : World) (hr0 : Kd.C k43 w A0 l0.length l0) (hc0 : l0.length ≤ c0) (hT : r = true) (h : laws_FnExactCutPrefix.f k l0 a1_0 a1_1 = some r) :
  Calls Try.prog 10 #[.slice A0 l0.length c0, .agg #[.int .i64 a1_0, .int .i64 a1_1]] w fun e w' => e = .returned (.bool r) ∧ Below w.heap.size w w' := by
 have hu43 := Try.underlying43
 have HR0 := Aside0.mk hr0
 have HC0 := Aside0.mk hc0
 clear hr0 hc0
 have HB := Aside0.mk (Below.refl w.heap.size w)
 have H : ((laws_szPrefixS.f l0 1048576).bind fun t337 => (if t337 < 0 then (some true) else ((laws_toPrefixS.f k l0).bind fun t338 => ((laws_toPrefix.f a1_0 a1_1).bind fun bt341 => ((spec_CutPrefix.f k t338 bt341.1 bt341.2).bind fun bt343 => ((laws_toPrefixS.f k l0).bind fun t347 => ((laws_toPrefix.f a1_0 a1_1).bind fun bt350 => ((impl_CutPrefix.f k t347 bt350.1 bt350.2).bind fun bt352 => ((laws_eqPrefixS.f k bt352.1 bt343.1).bind fun t356 => (if t356 = true then (laws_FnExactCutPrefix.j0 k l0 bt343.1 bt343.2 t347 bt352.1 bt352.2 (bt352.2 != bt343.2) a1_0 a1_1) else (laws_FnExactCutPrefix.j0 k l0 bt343.1 bt343.2 t347 bt352.1 bt352.2 true a1_0 a1_1))))))))))) = some r := h
 clear h
 replace H := Option.bind_eq_some_iff.mp H
 obtain ⟨t337, A30, H⟩ := H
 replace H : (if t337 < 0 then (some true) else ((laws_toPrefixS.f k l0).bind fun t338 => ((laws_toPrefix.f a1_0 a1_1).bind fun bt341 => ((spec_CutPrefix.f k t338 bt341.1 bt341.2).bind fun bt343 => ((laws_toPrefixS.f k l0).bind fun t347 => ((laws_toPrefix.f a1_0 a1_1).bind fun bt350 => ((impl_CutPrefix.f k t347 bt350.1 bt350.2).bind fun bt352 => ((laws_eqPrefixS.f k bt352.1 bt343.1).bind fun t356 => (if t356 = true then (laws_FnExactCutPrefix.j0 k l0 bt343.1 bt343.2 t347 bt352.1 bt352.2 (bt352.2 != bt343.2) a1_0 a1_1) else (laws_FnExactCutPrefix.j0 k l0 bt343.1 bt343.2 t347 bt352.1 bt352.2 true a1_0 a1_1)))))))))) = some r := H
 have A3 := Aside0.mk A30
 clear A30
 by_cases c4 : t337 < 0
 ·
  rw [if_pos c4] at H
  have c4b0 : decide (t337 < 0) = true := decide_eq_true c4
  clear c4
  obtain rfl := Option.some.inj H
  go_enter Try.func10, Try.ntmps10
  go_wp2_with (first | ((with_reducible refine gate_dst (N := 3) rfl ?_); refine box_event ?hg (N := 3) ?hd (cs := #[.int .i64 a1_0, .int .i64 a1_1]) (t := 43) ?hr ?_; (case hd => rfl); (case hg => rfl); (case hr => first | (go_simp; done) | (go_simp; rfl)); intro gb336 hg w5 hbox hb; have n0_ := Aside0.mk (zp (by repeat (first | (with_reducible first | exact HB.1 | apply zf | apply zd | apply ze) | exact HB.1)) hb); have n1_ := Aside0.mk (hbox); have n2_ := Aside0.mk ((by rw [hg]; exact (zz (by repeat (first | (with_reducible first | exact HB.1 | apply zf | apply zd | apply ze) | exact HB.1))) : w.heap.size ≤ gb336)); have n3_ := Aside0.mk ((by rw [hg]; exact (zz (by repeat (first | (with_reducible first | exact HB.1 | apply zf | apply zd | apply ze) | exact HB.1))) : w.heap.size ≤ gb336)); clear HB; have HB := n0_; have zK := n1_; have GW336 := n2_; have zL := n3_; clear n0_ n1_ n2_ n3_; clear hb hbox hg) | ((with_reducible refine zr (f := 13) rfl ?_); refine zD (some 18) rfl rfl Try.func13 (by kernel_rfl) rfl #[.slice A0 l0.length c0, .int .i64 1048576] rfl (by (try simp only [List.map_toArray, List.map_cons, List.map_nil]); first | done | rfl | (simp only [List.length_drop, List.length_take]; rfl)) ?_; (with_reducible refine (laws_szPrefixS.calls _ _ l0 1048576 t337 _ ?side1 ?side2 A3.1).mono ?_); (case side1 => repeat (first | exact (Kd.C_below HR0.1 HB.1) | (with_reducible refine zk ?_ _) | (with_reducible refine zj ?_ _) | (with_reducible refine zo ?_))); (case side2 => exact HC0.1); rintro e w' ⟨rfl, ⟨nd, rfl⟩⟩; refine ⟨_, rfl, ?_⟩))
  go_ret
  exact ⟨by first | rfl | (simp [errW_none, errW_some] <;> rfl) | (simp [*, errW_none, errW_some] <;> rfl), by repeat (first | (with_reducible first | exact HB.1 | apply zf | apply zd | apply ze | refine zi ?_ zL.1) | exact HB.1)⟩
 ·
  rw [if_neg c4] at H
  have c4b0 : decide (t337 < 0) = false := decide_eq_false c4
  clear c4
  replace H := Option.bind_eq_some_iff.mp H
  obtain ⟨t338, A60, H⟩ := H
  replace H : ((laws_toPrefix.f a1_0 a1_1).bind fun bt341 => ((spec_CutPrefix.f k t338 bt341.1 bt341.2).bind fun bt343 => ((laws_toPrefixS.f k l0).bind fun t347 => ((laws_toPrefix.f a1_0 a1_1).bind fun bt350 => ((impl_CutPrefix.f k t347 bt350.1 bt350.2).bind fun bt352 => ((laws_eqPrefixS.f k bt352.1 bt343.1).bind fun t356 => (if t356 = true then (laws_FnExactCutPrefix.j0 k l0 bt343.1 bt343.2 t347 bt352.1 bt352.2 (bt352.2 != bt343.2) a1_0 a1_1) else (laws_FnExactCutPrefix.j0 k l0 bt343.1 bt343.2 t347 bt352.1 bt352.2 true a1_0 a1_1)))))))) = some r := H
  have A6 := Aside0.mk A60
  clear A60
  replace H := Option.bind_eq_some_iff.mp H
  obtain ⟨⟨t341, t342⟩, A70, H⟩ := H
  replace H : ((spec_CutPrefix.f k t338 t341 t342).bind fun bt343 => ((laws_toPrefixS.f k l0).bind fun t347 => ((laws_toPrefix.f a1_0 a1_1).bind fun bt350 => ((impl_CutPrefix.f k t347 bt350.1 bt350.2).bind fun bt352 => ((laws_eqPrefixS.f k bt352.1 bt343.1).bind fun t356 => (if t356 = true then (laws_FnExactCutPrefix.j0 k l0 bt343.1 bt343.2 t347 bt352.1 bt352.2 (bt352.2 != bt343.2) a1_0 a1_1) else (laws_FnExactCutPrefix.j0 k l0 bt343.1 bt343.2 t347 bt352.1 bt352.2 true a1_0 a1_1))))))) = some r := H
  have A7 := Aside0.mk A70
  clear A70
  replace H := Option.bind_eq_some_iff.mp H
  obtain ⟨⟨t343, t346⟩, A80, H⟩ := H
  replace H : ((laws_toPrefixS.f k l0).bind fun t347 => ((laws_toPrefix.f a1_0 a1_1).bind fun bt350 => ((impl_CutPrefix.f k t347 bt350.1 bt350.2).bind fun bt352 => ((laws_eqPrefixS.f k bt352.1 t343).bind fun t356 => (if t356 = true then (laws_FnExactCutPrefix.j0 k l0 t343 t346 t347 bt352.1 bt352.2 (bt352.2 != t346) a1_0 a1_1) else (laws_FnExactCutPrefix.j0 k l0 t343 t346 t347 bt352.1 bt352.2 true a1_0 a1_1)))))) = some r := H
  have A8 := Aside0.mk A80
  clear A80
  replace H := Option.bind_eq_some_iff.mp H
  obtain ⟨t347, A90, H⟩ := H
  replace H : ((laws_toPrefix.f a1_0 a1_1).bind fun bt350 => ((impl_CutPrefix.f k t347 bt350.1 bt350.2).bind fun bt352 => ((laws_eqPrefixS.f k bt352.1 t343).bind fun t356 => (if t356 = true then (laws_FnExactCutPrefix.j0 k l0 t343 t346 t347 bt352.1 bt352.2 (bt352.2 != t346) a1_0 a1_1) else (laws_FnExactCutPrefix.j0 k l0 t343 t346 t347 bt352.1 bt352.2 true a1_0 a1_1))))) = some r := H
  have A9 := Aside0.mk A90
  clear A90
  replace H := Option.bind_eq_some_iff.mp H
  obtain ⟨⟨t350, t351⟩, A100, H⟩ := H
  replace H : ((impl_CutPrefix.f k t347 t350 t351).bind fun bt352 => ((laws_eqPrefixS.f k bt352.1 t343).bind fun t356 => (if t356 = true then (laws_FnExactCutPrefix.j0 k l0 t343 t346 t347 bt352.1 bt352.2 (bt352.2 != t346) a1_0 a1_1) else (laws_FnExactCutPrefix.j0 k l0 t343 t346 t347 bt352.1 bt352.2 true a1_0 a1_1)))) = some r := H
  have A10 := Aside0.mk A100
  clear A100
  replace H := Option.bind_eq_some_iff.mp H
  obtain ⟨⟨t352, t355⟩, A110, H⟩ := H
  replace H : ((laws_eqPrefixS.f k t352 t343).bind fun t356 => (if t356 = true then (laws_FnExactCutPrefix.j0 k l0 t343 t346 t347 t352 t355 (t355 != t346) a1_0 a1_1) else (laws_FnExactCutPrefix.j0 k l0 t343 t346 t347 t352 t355 true a1_0 a1_1))) = some r := H
  have A11 := Aside0.mk A110
  clear A110
  have HC12 := Aside0.mk H
  clear H
  go_enter Try.func10, Try.ntmps10
  try go_wp2_with (first | ((with_reducible refine gate_dst (N := 3) rfl ?_); refine box_event ?hg (N := 3) ?hd (cs := #[.int .i64 a1_0, .int .i64 a1_1]) (t := 43) ?hr ?_; (case hd => rfl); (case hg => rfl); (case hr => first | (go_simp; done) | (go_simp; rfl)); intro gb336 hg w13 hbox hb; have n0_ := Aside0.mk (zp (by repeat (first | (with_reducible first | exact HB.1 | apply zf | apply zd | apply ze) | exact HB.1)) hb); have n1_ := Aside0.mk (hbox); have n2_ := Aside0.mk ((by rw [hg]; exact (zz (by repeat (first | (with_reducible first | exact HB.1 | apply zf | apply zd | apply ze) | exact HB.1))) : w.heap.size ≤ gb336)); have n3_ := Aside0.mk ((by rw [hg]; exact (zz (by repeat (first | (with_reducible first | exact HB.1 | apply zf | apply zd | apply ze) | exact HB.1))) : w.heap.size ≤ gb336)); clear HB; have HB := n0_; have zK := n1_; have GW336 := n2_; have zL := n3_; clear n0_ n1_ n2_ n3_; clear hb hbox hg) | ((with_reducible refine zr (f := 13) rfl ?_); refine zD (some 18) rfl rfl Try.func13 (by kernel_rfl) rfl #[.slice A0 l0.length c0, .int .i64 1048576] rfl (by (try simp only [List.map_toArray, List.map_cons, List.map_nil]); first | done | rfl | (simp only [List.length_drop, List.length_take]; rfl)) ?_; (with_reducible refine (laws_szPrefixS.calls _ _ l0 1048576 t337 _ ?side1 ?side2 A3.1).mono ?_); (case side1 => repeat (first | exact (Kd.C_below HR0.1 HB.1) | (with_reducible refine zk ?_ _) | (with_reducible refine zj ?_ _) | (with_reducible refine zo ?_))); (case side2 => exact HC0.1); rintro e w' ⟨rfl, ⟨nd, rfl⟩⟩; refine ⟨_, rfl, ?_⟩))
  (try (rw [drewN_self w13]; generalize hq_ : World.drewN w13 _ = w13; have n0_ : zy (w13.heap[gb336]? = some (.cells #[.int .i64 a1_0, .int .i64 a1_1] 43 (0, 0))) := ⟨by rw [← hq_]; exact (by (with_reducible repeat (first | refine zl ?_ _ | refine zn ?_ | refine zm ?_ _)); exact zK.1)⟩; have n1_ : zy (Below w.heap.size w w13) := ⟨by rw [← hq_]; exact (by repeat (first | (with_reducible first | exact HB.1 | apply zf | apply zd | apply ze | refine zi ?_ zL.1) | exact HB.1))⟩; clear zK HB hq_; have zK := n0_; have HB := n1_; clear n0_ n1_))
  have n0_ := Aside0.mk (zn zK.1)
  have n1_ := Aside0.mk (ze HB.1)
  clear zK
  clear HB
  have zK := n0_
  have HB := n1_
  clear n0_ n1_
  refine start_ (n := 10) (S := fun w' => w'.cell? ⟨gb336, 0, none⟩ = some (.int .i64 a1_0) ∧ w'.cell? ⟨gb336, 1, none⟩ = some (.int .i64 a1_1)) (ds := []) #[false, false, false, false, false, false, false, false, false, false] (by kernel_rfl) rfl rfl ⟨(zv zK.1 0).trans rfl, (zv zK.1 1).trans rfl⟩ (fun hHeld => ?_); refine with_tabW laws_FnExactCutPrefix.tab5 laws_FnExactCutPrefix.bits5 (fun HT_ HW_ => ?_)
  generalize w13.drew = w14 at zK HB hHeld ⊢
  refine zJ (i := 0) (N := some 22) (v := ?_) (a' := ?_) #[true, false, false, false, false, false, false, false, false, false] rfl rfl (zF HT_.1 (by kernel_rfl)) (fun _ _ _ h => h) (Or.inl ⟨by rfl, ?_⟩) ?_ ?_
  rotate_left
  ·
   intro w'
   go_simp
   with_reducible rfl
  rotate_left
  ·
   simp only [Act.put, List.setIfInBounds_toArray, List.set_cons_zero, List.set_cons_succ, zB, zC]
   rfl
  refine take_ (i := 2) (N := some 24) (v := ?_) (a' := ?_) #[true, false, true, false, false, false, false, false, false, false] rfl rfl (take_ofW HT_.1 HW_.1 (by kernel_rfl)) (fun _ _ _ h => h) (Or.inl ⟨by rfl, ?_⟩) hHeld ?_ ?_
  rotate_left
  ·
   rintro w' ⟨s0, s1⟩
   go_simp
   with_reducible rfl
  rotate_left
  ·
   simp only [Act.put, List.setIfInBounds_toArray, List.set_cons_zero, List.set_cons_succ, zB, zC]
   rfl
  refine one_ (i := 1) (N := some 23) #[true, true, true, false, false, false, false, false, false, false] rfl rfl (one_of HT_.1 (by kernel_rfl)) (by decide) (fun K hK => ?_)
  refine goes_ Try.func15 (by kernel_rfl) rfl #[.slice A0 l0.length c0] (by rfl) rfl rfl (by (try simp only [List.map_toArray, List.map_cons, List.map_nil]); first | done | rfl | (simp only [List.length_drop, List.length_take]; rfl)) ?_
  with_reducible refine (laws_toPrefixS.calls k _ _ l0 t338 _ ?side1 ?side2 A6.1).mono ?_
  (case side1 => repeat (first | exact (Kd.C_below HR0.1 HB.1) | (with_reducible refine zk ?_ _) | (with_reducible refine zj ?_ _) | (with_reducible refine zo ?_)))
  (case side2 => exact HC0.1)
  rintro e w15 ⟨v339, rfl, ho0, hb⟩
  refine ⟨_, rfl, ?_⟩
  have n0_ := Aside0.mk (zE ho0 (zz (by repeat (first | (with_reducible first | exact HB.1 | apply zf | apply zd | apply ze | refine zi ?_ zL.1) | exact HB.1))))
  have n1_ := Aside0.mk (zu (g := gb336) (o := .cells #[.int .i64 a1_0, .int .i64 a1_1] 43 (0, 0)) (by (with_reducible repeat (first | refine zl ?_ _ | refine zn ?_ | refine zm ?_ _)); exact zK.1) hb)
  have n2_ := Aside0.mk (zp (by repeat (first | (with_reducible first | exact HB.1 | apply zf | apply zd | apply ze | refine zi ?_ zL.1) | exact HB.1)) hb)
  clear zK
  clear HB
  have zM := n0_
  have zK := n1_
  have HB := n2_
  clear n0_ n1_ n2_
  (try clear hb)
  (try clear hb2)
  (try clear hk)
  (try clear hi)
  (try clear ho0)
  refine hK.out _ _ ⟨(zv zK.1 0).trans rfl, (zv zK.1 1).trans rfl⟩ (fun hHeld => ?_)
  clear hK K
  refine norm_ (a' := ?_) ?_ ?_
  rotate_left
  ·
   show Act.put _ (some 23) _ = _
   simp only [Act.put, List.setIfInBounds_toArray, List.set_cons_zero, List.set_cons_succ, zB, zC]
   rfl
  refine one_ (i := 3) (N := some 25) #[true, true, true, true, false, false, false, false, false, false] rfl rfl (one_of HT_.1 (by kernel_rfl)) (by decide) (fun K hK => ?_)
  refine goes_ Try.func33 (by kernel_rfl) rfl #[.agg #[.int .i64 a1_0, .int .i64 a1_1]] (by rfl) rfl rfl (by (try simp only [List.map_toArray, List.map_cons, List.map_nil]); first | done | rfl | (simp only [List.length_drop, List.length_take]; rfl)) ?_
  with_reducible refine (laws_toPrefix.calls a1_0 a1_1 t341 t342 _ A7.1).mono ?_
  rintro e w16 ⟨rfl, hb⟩
  refine ⟨_, rfl, ?_⟩
  have n0_ := Aside0.mk (zh (by (with_reducible repeat (first | apply zb | apply za | apply zc)); exact zM.1) hb)
  have n1_ := Aside0.mk (zu (g := gb336) (o := .cells #[.int .i64 a1_0, .int .i64 a1_1] 43 (0, 0)) (by (with_reducible repeat (first | refine zl ?_ _ | refine zn ?_ | refine zm ?_ _)); exact zK.1) hb)
  have n2_ := Aside0.mk (zp (by repeat (first | (with_reducible first | exact HB.1 | apply zf | apply zd | apply ze | refine zi ?_ zL.1) | exact HB.1)) hb)
  clear zM
  clear zK
  clear HB
  have zM := n0_
  have zK := n1_
  have HB := n2_
  clear n0_ n1_ n2_
  (try clear hb)
  (try clear hb2)
  (try clear hk)
  (try clear hi)
  obtain ⟨Ao17, co17, eo17⟩ := zq zM.1
  (first | subst eo17 | (injection eo17 with f1_ f2_ f3_; have f4_ := f1_.symm; have f5_ := f3_.symm; clear f1_ f2_ f3_; subst f4_; subst f5_))
  refine hK.out _ _ ⟨(zv zK.1 0).trans rfl, (zv zK.1 1).trans rfl⟩ (fun hHeld => ?_)
  clear hK K
  refine norm_ (a' := ?_) ?_ ?_
  rotate_left
  ·
   show Act.put _ (some 25) _ = _
   simp only [Act.put, List.setIfInBounds_toArray, List.set_cons_zero, List.set_cons_succ, zB, zC]
   rfl
  refine one_ (i := 4) (N := some 26) #[true, true, true, true, true, false, false, false, false, false] rfl rfl (one_of HT_.1 (by kernel_rfl)) (by decide) (fun K hK => ?_)
  refine goes_ Try.func32 (by kernel_rfl) rfl #[.slice Ao17 t338.length co17, .agg #[.int .i64 t341, .int .i64 t342]] (by rfl) rfl rfl (by (try simp only [List.map_toArray, List.map_cons, List.map_nil]); first | done | rfl | (simp only [List.length_drop, List.length_take]; rfl)) ?_
  with_reducible refine (spec_CutPrefix.calls k _ _ t338 t341 t342 t343 t346 _ ?side1 ?side2 A8.1).mono ?_
  (case side1 => repeat (first | exact (zg zM.1).2.2 | (with_reducible refine zk ?_ _) | (with_reducible refine zj ?_ _) | (with_reducible refine zo ?_)))
  (case side2 => exact (zg zM.1).2.1)
  rintro e w18 ⟨v344, rfl, ho0, hb⟩
  refine ⟨_, rfl, ?_⟩
  have n0_ := Aside0.mk (zt (by (with_reducible repeat (first | apply zb | apply za | apply zc)); exact zM.1) (zx ho0) hb)
  have n1_ := Aside0.mk (zE (zw ho0 (zA (by (with_reducible repeat (first | apply zb | apply za | apply zc)); exact zM.1))) (zz (by repeat (first | (with_reducible first | exact HB.1 | apply zf | apply zd | apply ze | refine zi ?_ zL.1) | exact HB.1))))
  have n2_ := Aside0.mk (zu (g := gb336) (o := .cells #[.int .i64 a1_0, .int .i64 a1_1] 43 (0, 0)) (by (with_reducible repeat (first | refine zl ?_ _ | refine zn ?_ | refine zm ?_ _)); exact zK.1) hb)
  have n3_ := Aside0.mk (zp (by repeat (first | (with_reducible first | exact HB.1 | apply zf | apply zd | apply ze | refine zi ?_ zL.1) | exact HB.1)) hb)
  clear zM
  clear zK
  clear HB
  have zM := n0_
  have zN := n1_
  have zK := n2_
  have HB := n3_
  clear n0_ n1_ n2_ n3_
  (try clear hb)
  (try clear hb2)
  (try clear hk)
  (try clear hi)
  (try clear ho0)
  refine hK.out _ _ ⟨(zv zK.1 0).trans rfl, (zv zK.1 1).trans rfl⟩ (fun hHeld => ?_)
  clear hK K
  refine norm_ (a' := ?_) ?_ ?_
  rotate_left
  ·
   show Act.put _ (some 26) _ = _
   simp only [Act.put, List.setIfInBounds_toArray, List.set_cons_zero, List.set_cons_succ, zB, zC]
   rfl
  refine zJ (i := 5) (N := some 21) (v := ?_) (a' := ?_) #[true, true, true, true, true, true, false, false, false, false] rfl rfl (zF HT_.1 (by kernel_rfl)) (fun _ _ _ h => h) (Or.inl ⟨by rfl, ?_⟩) ?_ ?_
  rotate_left
  ·
   intro w'
   go_simp
   with_reducible rfl
  rotate_left
  ·
   simp only [Act.put, List.setIfInBounds_toArray, List.set_cons_zero, List.set_cons_succ, zB, zC]
   rfl
  refine zJ (i := 6) (N := some 27) (v := ?_) (a' := ?_) #[true, true, true, true, true, true, true, false, false, false] rfl rfl (zF HT_.1 (by kernel_rfl)) (fun _ _ _ h => h) (Or.inl ⟨by rfl, ?_⟩) ?_ ?_
  rotate_left
  ·
   intro w'
   go_simp
   with_reducible rfl
  rotate_left
  ·
   simp only [Act.put, List.setIfInBounds_toArray, List.set_cons_zero, List.set_cons_succ, zB, zC]
   rfl
  refine zJ (i := 7) (N := some 28) (v := ?_) (a' := ?_) #[true, true, true, true, true, true, true, true, false, false] rfl rfl (zF HT_.1 (by kernel_rfl)) (fun _ _ _ h => h) (Or.inl ⟨by rfl, ?_⟩) ?_ ?_
  rotate_left
  ·
   intro w'
   go_simp
   with_reducible rfl
  rotate_left
  ·
   simp only [Act.put, List.setIfInBounds_toArray, List.set_cons_zero, List.set_cons_succ, zB, zC]
   rfl
  refine zJ (i := 8) (N := some 6) (v := ?_) (a' := ?_) #[true, true, true, true, true, true, true, true, true, false] rfl rfl (zF HT_.1 (by kernel_rfl)) (fun _ _ _ h => h) (Or.inl ⟨by rfl, ?_⟩) ?_ ?_
  rotate_left
  ·
   intro w'
   go_simp
   with_reducible rfl
  rotate_left
  ·
   simp only [Act.put, List.setIfInBounds_toArray, List.set_cons_zero, List.set_cons_succ, zB, zC]
   rfl
  refine zJ (i := 9) (N := some 7) (v := ?_) (a' := ?_) #[true, true, true, true, true, true, true, true, true, true] rfl rfl (zF HT_.1 (by kernel_rfl)) (fun _ _ _ h => h) (Or.inl ⟨by rfl, ?_⟩) ?_ ?_
  rotate_left
  ·
   intro w'
   go_simp
   with_reducible rfl
  rotate_left
  ·
   simp only [Act.put, List.setIfInBounds_toArray, List.set_cons_zero, List.set_cons_succ, zB, zC]
   rfl
  refine done_ (done_of HT_.1 (by kernel_rfl)) ?_
  go_upto_region 8 with (first | ((with_reducible refine zr (f := 15) rfl ?_); refine zD (some 30) rfl rfl Try.func15 (by kernel_rfl) rfl #[.slice A0 l0.length c0] rfl (by (try simp only [List.map_toArray, List.map_cons, List.map_nil]); first | done | rfl | (simp only [List.length_drop, List.length_take]; rfl)) ?_; (with_reducible refine (laws_toPrefixS.calls k _ _ l0 t347 _ ?side1 ?side2 A9.1).mono ?_); (case side1 => repeat (first | exact (Kd.C_below HR0.1 HB.1) | (with_reducible refine zk ?_ _) | (with_reducible refine zj ?_ _) | (with_reducible refine zo ?_))); (case side2 => exact HC0.1); rintro e w19 ⟨v348, rfl, ho0, hb⟩; refine ⟨_, rfl, ?_⟩; have n0_ := Aside0.mk (zt (by (with_reducible repeat (first | apply zb | apply za | apply zc)); exact zM.1) (zx ho0) hb); have n1_ := Aside0.mk (zt (by (with_reducible repeat (first | apply zb | apply za | apply zc)); exact zN.1) (zx ho0) hb); have n2_ := Aside0.mk (zE (zw (zw ho0 (zA (by (with_reducible repeat (first | apply zb | apply za | apply zc)); exact zM.1))) (zA (by (with_reducible repeat (first | apply zb | apply za | apply zc)); exact zN.1))) (zz (by repeat (first | (with_reducible first | exact HB.1 | apply zf | apply zd | apply ze | refine zi ?_ zL.1) | exact HB.1)))); have n3_ := Aside0.mk (zu (g := gb336) (o := .cells #[.int .i64 a1_0, .int .i64 a1_1] 43 (0, 0)) (by (with_reducible repeat (first | refine zl ?_ _ | refine zn ?_ | refine zm ?_ _)); exact zK.1) hb); have n4_ := Aside0.mk (zp (by repeat (first | (with_reducible first | exact HB.1 | apply zf | apply zd | apply ze | refine zi ?_ zL.1) | exact HB.1)) hb); clear zM; clear zN; clear zK; clear HB; have zM := n0_; have zN := n1_; have zO := n2_; have zK := n3_; have HB := n4_; clear n0_ n1_ n2_ n3_ n4_; (try clear hb); (try clear hb2); (try clear hk); (try clear hi); (try clear ho0); have hcz20_0 : w19.cell? ⟨gb336, 0, none⟩ = some (.int .i64 a1_0) := (zv zK.1 0).trans rfl; have hcz20_1 : w19.cell? ⟨gb336, 1, none⟩ = some (.int .i64 a1_1) := (zv zK.1 1).trans rfl; have hfz20_0 := blk_frozen zK.1 0; have hfz20_1 := blk_frozen zK.1 1) | ((with_reducible refine zr (f := 33) rfl ?_); refine zD (some 34) rfl rfl Try.func33 (by kernel_rfl) rfl #[.agg #[.int .i64 a1_0, .int .i64 a1_1]] rfl (by (try simp only [List.map_toArray, List.map_cons, List.map_nil]); first | done | rfl | (simp only [List.length_drop, List.length_take]; rfl)) ?_; (with_reducible refine (laws_toPrefix.calls a1_0 a1_1 t350 t351 _ A10.1).mono ?_); rintro e w21 ⟨rfl, hb⟩; refine ⟨_, rfl, ?_⟩; have n0_ := Aside0.mk (zh (by (with_reducible repeat (first | apply zb | apply za | apply zc)); exact zM.1) hb); have n1_ := Aside0.mk (zh (by (with_reducible repeat (first | apply zb | apply za | apply zc)); exact zN.1) hb); have n2_ := Aside0.mk (zh (by (with_reducible repeat (first | apply zb | apply za | apply zc)); exact zO.1) hb); have n3_ := Aside0.mk (zu (g := gb336) (o := .cells #[.int .i64 a1_0, .int .i64 a1_1] 43 (0, 0)) (by (with_reducible repeat (first | refine zl ?_ _ | refine zn ?_ | refine zm ?_ _)); exact zK.1) hb); have n4_ := Aside0.mk (zp (by repeat (first | (with_reducible first | exact HB.1 | apply zf | apply zd | apply ze | refine zi ?_ zL.1) | exact HB.1)) hb); clear zM; clear zN; clear zO; clear zK; clear HB; have zM := n0_; have zN := n1_; have zO := n2_; have zK := n3_; have HB := n4_; clear n0_ n1_ n2_ n3_ n4_; (try clear hb); (try clear hb2); (try clear hk); (try clear hi); obtain ⟨Ao22, co22, eo22⟩ := zq zO.1; subst eo22) | ((with_reducible refine zr (f := 34) rfl ?_); refine zD (some 35) rfl rfl Try.func34 (by kernel_rfl) rfl #[.slice Ao22 t347.length co22, .agg #[.int .i64 t350, .int .i64 t351]] rfl (by (try simp only [List.map_toArray, List.map_cons, List.map_nil]); first | done | rfl | (simp only [List.length_drop, List.length_take]; rfl)) ?_; (with_reducible refine (impl_CutPrefix.calls k _ _ t347 t350 t351 t352 t355 _ ?side1 ?side2 A11.1).mono ?_); (case side1 => repeat (first | exact (zg zO.1).2.2 | (with_reducible refine zk ?_ _) | (with_reducible refine zj ?_ _) | (with_reducible refine zo ?_))); (case side2 => exact (zg zO.1).2.1); rintro e w23 ⟨v353, rfl, ho0, hb⟩; refine ⟨_, rfl, ?_⟩; have n0_ := Aside0.mk (zt (by (with_reducible repeat (first | apply zb | apply za | apply zc)); exact zM.1) (zx ho0) hb); have n1_ := Aside0.mk (zt (by (with_reducible repeat (first | apply zb | apply za | apply zc)); exact zN.1) (zx ho0) hb); have n2_ := Aside0.mk (zt (by (with_reducible repeat (first | apply zb | apply za | apply zc)); exact zO.1) (zx ho0) hb); have n3_ := Aside0.mk (zE (zw (zw (zw ho0 (zA (by (with_reducible repeat (first | apply zb | apply za | apply zc)); exact zM.1))) (zA (by (with_reducible repeat (first | apply zb | apply za | apply zc)); exact zN.1))) (zA (by (with_reducible repeat (first | apply zb | apply za | apply zc)); exact zO.1))) (zz (by repeat (first | (with_reducible first | exact HB.1 | apply zf | apply zd | apply ze | refine zi ?_ zL.1) | exact HB.1)))); have n4_ := Aside0.mk (zu (g := gb336) (o := .cells #[.int .i64 a1_0, .int .i64 a1_1] 43 (0, 0)) (by (with_reducible repeat (first | refine zl ?_ _ | refine zn ?_ | refine zm ?_ _)); exact zK.1) hb); have n5_ := Aside0.mk (zp (by repeat (first | (with_reducible first | exact HB.1 | apply zf | apply zd | apply ze | refine zi ?_ zL.1) | exact HB.1)) hb); clear zM; clear zN; clear zO; clear zK; clear HB; have zM := n0_; have zN := n1_; have zO := n2_; have zR := n3_; have zK := n4_; have HB := n5_; clear n0_ n1_ n2_ n3_ n4_ n5_; (try clear hb); (try clear hb2); (try clear hk); (try clear hi); (try clear ho0)))
  (try simp only [Act.put, List.setIfInBounds_toArray, List.set_cons_zero, List.set_cons_succ])
  go_cut [46] (fun v46 wc => ∃ (kq : Nat) (x46_11 : Bool), v46 = .bool x46_11 ∧ zy (laws_FnExactCutPrefix.j0 kq l0 t343 t346 t347 t352 t355 x46_11 a1_0 a1_1 = some r) ∧ zy (kq ≤ k) ∧ zy (Kd.R k45 45 wc w.heap.size (fun k_ => some k_ ≠ ((.slice Ao22 t347.length co22) : Value).ownBlock ∧ some k_ ≠ (v353 : Value).ownBlock) v344 t343) ∧ zy (Kd.R k45 45 wc w.heap.size (fun k_ => some k_ ≠ (v344 : Value).ownBlock ∧ some k_ ≠ (v353 : Value).ownBlock) (.slice Ao22 t347.length co22) t347) ∧ zy (Kd.R k45 45 wc w.heap.size (fun k_ => some k_ ≠ (v344 : Value).ownBlock ∧ some k_ ≠ ((.slice Ao22 t347.length co22) : Value).ownBlock) v353 t352) ∧ zy (wc.heap[gb336]? = some (.cells #[.int .i64 a1_0, .int .i64 a1_1] 43 (0, 0))) ∧ zy (Below w.heap.size w wc))
  case first =>
   have H := HC12.1
   clear HC12
   replace H := Option.bind_eq_some_iff.mp H
   obtain ⟨t356, A240, H⟩ := H
   replace H : (if t356 = true then (laws_FnExactCutPrefix.j0 k l0 t343 t346 t347 t352 t355 (t355 != t346) a1_0 a1_1) else (laws_FnExactCutPrefix.j0 k l0 t343 t346 t347 t352 t355 true a1_0 a1_1)) = some r := H
   have A24 := Aside0.mk A240
   clear A240
   by_cases c25 : t356 = true
   ·
    subst c25
    have H1 : (laws_FnExactCutPrefix.j0 k l0 t343 t346 t347 t352 t355 (t355 != t346) a1_0 a1_1) = some r := by rw [if_pos rfl] at H; exact H
    clear H
    have H := H1
    clear H1
    have H' := Aside0.mk H
    clear H
    obtain ⟨Ao26, co26, eo26⟩ := zq zR.1
    subst eo26
    obtain ⟨Ao27, co27, eo27⟩ := zq zN.1
    subst eo27
    go_wp2_with (first | ((with_reducible refine zr (f := 17) rfl ?_); refine zD (some 40) rfl rfl Try.func17 (by kernel_rfl) rfl #[.slice Ao26 t352.length co26, .slice Ao27 t343.length co27] rfl (by (try simp only [List.map_toArray, List.map_cons, List.map_nil]); first | done | rfl | (simp only [List.length_drop, List.length_take]; rfl)) ?_; (with_reducible refine (laws_eqPrefixS.calls k _ _ t352 _ _ t343 true _ ?side1 ?side2 ?side3 ?side4 A24.1).mono ?_); (case side1 => repeat (first | exact (zg zR.1).2.2 | (with_reducible refine zk ?_ _) | (with_reducible refine zj ?_ _) | (with_reducible refine zo ?_))); (case side2 => exact (zg zR.1).2.1); (case side3 => repeat (first | exact (zg zN.1).2.2 | (with_reducible refine zk ?_ _) | (with_reducible refine zj ?_ _) | (with_reducible refine zo ?_))); (case side4 => exact (zg zN.1).2.1); rintro e w28 ⟨rfl, hb⟩; refine ⟨_, rfl, ?_⟩; have n0_ := Aside0.mk (zh (by (with_reducible repeat (first | apply zb | apply za | apply zc)); exact zM.1) hb); have n1_ := Aside0.mk (zh (by (with_reducible repeat (first | apply zb | apply za | apply zc)); exact zN.1) hb); have n2_ := Aside0.mk (zh (by (with_reducible repeat (first | apply zb | apply za | apply zc)); exact zO.1) hb); have n3_ := Aside0.mk (zh (by (with_reducible repeat (first | apply zb | apply za | apply zc)); exact zR.1) hb); have n4_ := Aside0.mk (zu (g := gb336) (o := .cells #[.int .i64 a1_0, .int .i64 a1_1] 43 (0, 0)) (by (with_reducible repeat (first | refine zl ?_ _ | refine zn ?_ | refine zm ?_ _)); exact zK.1) hb); have n5_ := Aside0.mk (zp (by repeat (first | (with_reducible first | exact HB.1 | apply zf | apply zd | apply ze | refine zi ?_ zL.1) | exact HB.1)) hb); clear zM; clear zN; clear zO; clear zR; clear zK; clear HB; have zM := n0_; have zN := n1_; have zO := n2_; have zR := n3_; have zK := n4_; have HB := n5_; clear n0_ n1_ n2_ n3_ n4_ n5_; (try clear hb); (try clear hb2); (try clear hk); (try clear hi)))
    go_meet
    case rel => exact ⟨_, ((t355 != t346)), (by first | rfl | (simp; done) | (simp [*]; done)), H', ⟨by first | omega | exact Nat.le_refl _⟩, ⟨by (with_reducible repeat (first | apply zb | apply za | apply zc)); exact zs zN.1 (fun _ hk => ⟨hk.1.2, hk.2⟩)⟩, ⟨by (with_reducible repeat (first | apply zb | apply za | apply zc)); exact zs zO.1 (fun _ hk => ⟨hk.1.2, hk.2⟩)⟩, ⟨by (with_reducible repeat (first | apply zb | apply za | apply zc)); exact zs zR.1 (fun _ hk => ⟨hk.1.2, hk.2⟩)⟩, ⟨by (with_reducible repeat (first | refine zl ?_ _ | refine zn ?_ | refine zm ?_ _)); exact zK.1⟩, ⟨by repeat (first | (with_reducible first | exact HB.1 | apply zf | apply zd | apply ze | refine zi ?_ zL.1) | exact HB.1)⟩⟩
   ·
    replace c25 := Bool.eq_false_iff.mpr c25
    subst c25
    have H1 : (laws_FnExactCutPrefix.j0 k l0 t343 t346 t347 t352 t355 true a1_0 a1_1) = some r := by rw [if_neg (show ¬ (false = true) by decide)] at H; exact H
    clear H
    have H := H1
    clear H1
    have H' := Aside0.mk H
    clear H
    obtain ⟨Ao29, co29, eo29⟩ := zq zR.1
    subst eo29
    obtain ⟨Ao30, co30, eo30⟩ := zq zN.1
    subst eo30
    go_wp2_with (first | ((with_reducible refine zr (f := 17) rfl ?_); refine zD (some 40) rfl rfl Try.func17 (by kernel_rfl) rfl #[.slice Ao29 t352.length co29, .slice Ao30 t343.length co30] rfl (by (try simp only [List.map_toArray, List.map_cons, List.map_nil]); first | done | rfl | (simp only [List.length_drop, List.length_take]; rfl)) ?_; (with_reducible refine (laws_eqPrefixS.calls k _ _ t352 _ _ t343 false _ ?side1 ?side2 ?side3 ?side4 A24.1).mono ?_); (case side1 => repeat (first | exact (zg zR.1).2.2 | (with_reducible refine zk ?_ _) | (with_reducible refine zj ?_ _) | (with_reducible refine zo ?_))); (case side2 => exact (zg zR.1).2.1); (case side3 => repeat (first | exact (zg zN.1).2.2 | (with_reducible refine zk ?_ _) | (with_reducible refine zj ?_ _) | (with_reducible refine zo ?_))); (case side4 => exact (zg zN.1).2.1); rintro e w31 ⟨rfl, hb⟩; refine ⟨_, rfl, ?_⟩; have n0_ := Aside0.mk (zh (by (with_reducible repeat (first | apply zb | apply za | apply zc)); exact zM.1) hb); have n1_ := Aside0.mk (zh (by (with_reducible repeat (first | apply zb | apply za | apply zc)); exact zN.1) hb); have n2_ := Aside0.mk (zh (by (with_reducible repeat (first | apply zb | apply za | apply zc)); exact zO.1) hb); have n3_ := Aside0.mk (zh (by (with_reducible repeat (first | apply zb | apply za | apply zc)); exact zR.1) hb); have n4_ := Aside0.mk (zu (g := gb336) (o := .cells #[.int .i64 a1_0, .int .i64 a1_1] 43 (0, 0)) (by (with_reducible repeat (first | refine zl ?_ _ | refine zn ?_ | refine zm ?_ _)); exact zK.1) hb); have n5_ := Aside0.mk (zp (by repeat (first | (with_reducible first | exact HB.1 | apply zf | apply zd | apply ze | refine zi ?_ zL.1) | exact HB.1)) hb); clear zM; clear zN; clear zO; clear zR; clear zK; clear HB; have zM := n0_; have zN := n1_; have zO := n2_; have zR := n3_; have zK := n4_; have HB := n5_; clear n0_ n1_ n2_ n3_ n4_ n5_; (try clear hb); (try clear hb2); (try clear hk); (try clear hi)))
    go_meet
    case rel => exact ⟨_, (true), (by first | rfl | (simp; done) | (simp [*]; done)), H', ⟨by first | omega | exact Nat.le_refl _⟩, ⟨by (with_reducible repeat (first | apply zb | apply za | apply zc)); exact zs zN.1 (fun _ hk => ⟨hk.1.2, hk.2⟩)⟩, ⟨by (with_reducible repeat (first | apply zb | apply za | apply zc)); exact zs zO.1 (fun _ hk => ⟨hk.1.2, hk.2⟩)⟩, ⟨by (with_reducible repeat (first | apply zb | apply za | apply zc)); exact zs zR.1 (fun _ hk => ⟨hk.1.2, hk.2⟩)⟩, ⟨by (with_reducible repeat (first | refine zl ?_ _ | refine zn ?_ | refine zm ?_ _)); exact zK.1⟩, ⟨by repeat (first | (with_reducible first | exact HB.1 | apply zf | apply zd | apply ze | refine zi ?_ zL.1) | exact HB.1)⟩⟩
  case rest =>
   clear HC12
   (try clear c1); (try clear c2); (try clear p2); (try clear c3); (try clear c4); (try clear c4b0); (try clear c10); (try clear c13); (try clear c15); (try clear c17); (try clear c25); (try clear hcz20_0); (try clear hcz20_1); (try clear hfz20_0); (try clear hfz20_1)
   obtain ⟨kq, x46_11, rfl, HA, HJ11, HO_6, HO_8, HO_9, zK, HB⟩ := hcut
   cases kq with
   | zero => exact absurd HA.1 (by simp [laws_FnExactCutPrefix.j0])
   | succ kj11 =>
    have H := HA.1
    clear HA
    simp only [laws_FnExactCutPrefix.j0] at H
    by_cases c32 : x46_11 = true
    ·
     subst c32
     have H1 : (some false) = some r := by rw [if_pos rfl] at H; exact H
     clear H
     have H := H1
     clear H1
     obtain rfl := Option.some.inj H
     cases hT
    ·
     replace c32 := Bool.eq_false_iff.mpr c32
     subst c32
     have H1 : ((laws_toPrefixS.f kj11 l0).bind fun t357 => ((laws_eqPrefixS.f kj11 t347 t357).bind fun t360 => (if t360 = true then ((laws_markPrefixS.f kj11 t347 1).bind fun bt361 => (if bt361.1 < 0 then (laws_FnExactCutPrefix.j1 kj11 l0 t343 t346 t352 true a1_0 a1_1) else ((laws_eqPrefixS.f kj11 t352 t343).bind fun t363 => (if t363 = true then (laws_FnExactCutPrefix.j1 kj11 l0 t343 t346 t352 (t355 != t346) a1_0 a1_1) else (laws_FnExactCutPrefix.j1 kj11 l0 t343 t346 t352 true a1_0 a1_1))))) else (some false)))) = some r := by rw [if_neg (show ¬ (false = true) by decide)] at H; exact H
     clear H
     have H := H1
     clear H1
     replace H := Option.bind_eq_some_iff.mp H
     obtain ⟨t357, A330, H⟩ := H
     replace H : ((laws_eqPrefixS.f kj11 t347 t357).bind fun t360 => (if t360 = true then ((laws_markPrefixS.f kj11 t347 1).bind fun bt361 => (if bt361.1 < 0 then (laws_FnExactCutPrefix.j1 kj11 l0 t343 t346 t352 true a1_0 a1_1) else ((laws_eqPrefixS.f kj11 t352 t343).bind fun t363 => (if t363 = true then (laws_FnExactCutPrefix.j1 kj11 l0 t343 t346 t352 (t355 != t346) a1_0 a1_1) else (laws_FnExactCutPrefix.j1 kj11 l0 t343 t346 t352 true a1_0 a1_1))))) else (some false))) = some r := H
     have A33 := Aside0.mk A330
     clear A330
     replace H := Option.bind_eq_some_iff.mp H
     obtain ⟨t360, A340, H⟩ := H
     replace H : (if t360 = true then ((laws_markPrefixS.f kj11 t347 1).bind fun bt361 => (if bt361.1 < 0 then (laws_FnExactCutPrefix.j1 kj11 l0 t343 t346 t352 true a1_0 a1_1) else ((laws_eqPrefixS.f kj11 t352 t343).bind fun t363 => (if t363 = true then (laws_FnExactCutPrefix.j1 kj11 l0 t343 t346 t352 (t355 != t346) a1_0 a1_1) else (laws_FnExactCutPrefix.j1 kj11 l0 t343 t346 t352 true a1_0 a1_1))))) else (some false)) = some r := H
     have A34 := Aside0.mk A340
     clear A340
     by_cases c35 : t360 = true
     ·
      subst c35
      have H1 : ((laws_markPrefixS.f kj11 t347 1).bind fun bt361 => (if bt361.1 < 0 then (laws_FnExactCutPrefix.j1 kj11 l0 t343 t346 t352 true a1_0 a1_1) else ((laws_eqPrefixS.f kj11 t352 t343).bind fun t363 => (if t363 = true then (laws_FnExactCutPrefix.j1 kj11 l0 t343 t346 t352 (t355 != t346) a1_0 a1_1) else (laws_FnExactCutPrefix.j1 kj11 l0 t343 t346 t352 true a1_0 a1_1))))) = some r := by rw [if_pos rfl] at H; exact H
      clear H
      have H := H1
      clear H1
      replace H := Option.bind_eq_some_iff.mp H
      obtain ⟨⟨t361, t362⟩, A360, H⟩ := H
      replace H : (if t361 < 0 then (laws_FnExactCutPrefix.j1 kj11 l0 t343 t346 t352 true a1_0 a1_1) else ((laws_eqPrefixS.f kj11 t352 t343).bind fun t363 => (if t363 = true then (laws_FnExactCutPrefix.j1 kj11 l0 t343 t346 t352 (t355 != t346) a1_0 a1_1) else (laws_FnExactCutPrefix.j1 kj11 l0 t343 t346 t352 true a1_0 a1_1)))) = some r := H
      have A36 := Aside0.mk A360
      clear A360
      have HC37 := Aside0.mk H
      clear H
      go_upto_region 14 with (first | ((with_reducible refine zr (f := 15) rfl ?_); refine zD (some 49) rfl rfl Try.func15 (by kernel_rfl) rfl #[.slice A0 l0.length c0] rfl (by (try simp only [List.map_toArray, List.map_cons, List.map_nil]); first | done | rfl | (simp only [List.length_drop, List.length_take]; rfl)) ?_; (with_reducible refine (laws_toPrefixS.calls kj11 _ _ l0 t357 _ ?side1 ?side2 A33.1).mono ?_); (case side1 => repeat (first | exact (Kd.C_below HR0.1 HB.1) | (with_reducible refine zk ?_ _) | (with_reducible refine zj ?_ _) | (with_reducible refine zo ?_))); (case side2 => exact HC0.1); rintro e w38 ⟨v358, rfl, ho0, hb⟩; refine ⟨_, rfl, ?_⟩; have n0_ := Aside0.mk (zt (by (with_reducible repeat (first | apply zb | apply za | apply zc)); exact HO_6.1) (zx ho0) hb); have n1_ := Aside0.mk (zt (by (with_reducible repeat (first | apply zb | apply za | apply zc)); exact HO_8.1) (zx ho0) hb); have n2_ := Aside0.mk (zt (by (with_reducible repeat (first | apply zb | apply za | apply zc)); exact HO_9.1) (zx ho0) hb); have n3_ := Aside0.mk (zE (zw (zw (zw ho0 (zA (by (with_reducible repeat (first | apply zb | apply za | apply zc)); exact HO_6.1))) (zA (by (with_reducible repeat (first | apply zb | apply za | apply zc)); exact HO_8.1))) (zA (by (with_reducible repeat (first | apply zb | apply za | apply zc)); exact HO_9.1))) (zz (by repeat (first | (with_reducible first | exact HB.1 | apply zf | apply zd | apply ze | refine zi ?_ zL.1) | exact HB.1)))); have n4_ := Aside0.mk (zu (g := gb336) (o := .cells #[.int .i64 a1_0, .int .i64 a1_1] 43 (0, 0)) (by (with_reducible repeat (first | refine zl ?_ _ | refine zn ?_ | refine zm ?_ _)); exact zK.1) hb); have n5_ := Aside0.mk (zp (by repeat (first | (with_reducible first | exact HB.1 | apply zf | apply zd | apply ze | refine zi ?_ zL.1) | exact HB.1)) hb); clear HO_6; clear HO_8; clear HO_9; clear zK; clear HB; have HO_6 := n0_; have HO_8 := n1_; have HO_9 := n2_; have zQ := n3_; have zK := n4_; have HB := n5_; clear n0_ n1_ n2_ n3_ n4_ n5_; (try clear hb); (try clear hb2); (try clear hk); (try clear hi); (try clear ho0); obtain ⟨Ao39, co39, eo39⟩ := zq zQ.1; subst eo39) | ((with_reducible refine zr (f := 17) rfl ?_); refine zD (some 50) rfl rfl Try.func17 (by kernel_rfl) rfl #[.slice Ao22 t347.length co22, .slice Ao39 t357.length co39] rfl (by (try simp only [List.map_toArray, List.map_cons, List.map_nil]); first | done | rfl | (simp only [List.length_drop, List.length_take]; rfl)) ?_; (with_reducible refine (laws_eqPrefixS.calls kj11 _ _ t347 _ _ t357 true _ ?side1 ?side2 ?side3 ?side4 A34.1).mono ?_); (case side1 => repeat (first | exact (zg HO_8.1).2.2 | (with_reducible refine zk ?_ _) | (with_reducible refine zj ?_ _) | (with_reducible refine zo ?_))); (case side2 => exact (zg HO_8.1).2.1); (case side3 => repeat (first | exact (zg zQ.1).2.2 | (with_reducible refine zk ?_ _) | (with_reducible refine zj ?_ _) | (with_reducible refine zo ?_))); (case side4 => exact (zg zQ.1).2.1); rintro e w40 ⟨rfl, hb⟩; refine ⟨_, rfl, ?_⟩; have n0_ := Aside0.mk (zh (by (with_reducible repeat (first | apply zb | apply za | apply zc)); exact HO_6.1) hb); have n1_ := Aside0.mk (zh (by (with_reducible repeat (first | apply zb | apply za | apply zc)); exact HO_8.1) hb); have n2_ := Aside0.mk (zh (by (with_reducible repeat (first | apply zb | apply za | apply zc)); exact HO_9.1) hb); have n3_ := Aside0.mk (zh (by (with_reducible repeat (first | apply zb | apply za | apply zc)); exact zQ.1) hb); have n4_ := Aside0.mk (zu (g := gb336) (o := .cells #[.int .i64 a1_0, .int .i64 a1_1] 43 (0, 0)) (by (with_reducible repeat (first | refine zl ?_ _ | refine zn ?_ | refine zm ?_ _)); exact zK.1) hb); have n5_ := Aside0.mk (zp (by repeat (first | (with_reducible first | exact HB.1 | apply zf | apply zd | apply ze | refine zi ?_ zL.1) | exact HB.1)) hb); clear HO_6; clear HO_8; clear HO_9; clear zQ; clear zK; clear HB; have HO_6 := n0_; have HO_8 := n1_; have HO_9 := n2_; have zQ := n3_; have zK := n4_; have HB := n5_; clear n0_ n1_ n2_ n3_ n4_ n5_; (try clear hb); (try clear hb2); (try clear hk); (try clear hi)) | ((with_reducible refine zr (f := 22) rfl ?_); refine zD (some 54) rfl rfl Try.func22 (by kernel_rfl) rfl #[.slice Ao22 t347.length co22, .int .i64 1] rfl (by (try simp only [List.map_toArray, List.map_cons, List.map_nil]); first | done | rfl | (simp only [List.length_drop, List.length_take]; rfl)) ?_; (with_reducible refine (laws_markPrefixS.calls kj11 (fun k_ => some k_ = (.slice Ao22 t347.length co22 : Value).ownBlock) (.slice Ao22 t347.length co22) t347 1 t361 t362 w _ ?side1 ?side2 A36.1).mono ?_); (case side1 => repeat (first | (with_reducible first | exact HB.1 | apply zf | apply zd | apply ze | refine zi ?_ zL.1) | exact HB.1)); (case side2 => exact Kd.R_tight rfl HO_8.1); rintro e w41 ⟨rfl, hy0, hb, hkp⟩; refine ⟨_, rfl, ?_⟩; have n0_ := Aside0.mk (zs (ok' := fun k_ => some k_ ≠ (.slice Ao22 t347.length co22 : Value).ownBlock ∧ some k_ ≠ (v353 : Value).ownBlock ∧ some k_ ≠ (.slice Ao39 t357.length co39 : Value).ownBlock) (Kd.R_keptB (HO_6.1) hkp (fun k_ hk_ hs_ => (hk_.1.1) hs_)) (fun k_ hk_ => ⟨hk_.1.1.1, hk_.1.1.2, hk_.1.2⟩)); have n1_ := Aside0.mk (Kd.R_reok rfl hy0 (fun k_ e_ => HO_8.1.1 k_ e_)); have n2_ := Aside0.mk (zs (ok' := fun k_ => some k_ ≠ (v344 : Value).ownBlock ∧ some k_ ≠ (.slice Ao22 t347.length co22 : Value).ownBlock ∧ some k_ ≠ (.slice Ao39 t357.length co39 : Value).ownBlock) (Kd.R_keptB (HO_9.1) hkp (fun k_ hk_ hs_ => (hk_.1.2) hs_)) (fun k_ hk_ => ⟨hk_.1.1.1, hk_.1.1.2, hk_.1.2⟩)); have n3_ := Aside0.mk (blk_kept (by (with_reducible repeat (first | refine zl ?_ _ | refine zn ?_ | refine zm ?_ _)); exact zK.1) hkp (fun hs_ => (fun e_ => (Kd.R_ne HO_8.1 zK.1 (by decide)) e_) hs_)); have n4_ := Aside0.mk (zs (ok' := fun k_ => some k_ ≠ (v344 : Value).ownBlock ∧ some k_ ≠ (.slice Ao22 t347.length co22 : Value).ownBlock ∧ some k_ ≠ (v353 : Value).ownBlock) (Kd.R_keptB (zQ.1) hkp (fun k_ hk_ hs_ => (hk_.1.2) hs_)) (fun k_ hk_ => ⟨hk_.1.1.1.2, hk_.1.1.2, hk_.1.2⟩)); have n5_ := Aside0.mk (hb); clear HO_6; clear HO_8; clear HO_9; clear zK; clear zQ; clear HB; have HO_6 := n0_; have HO_8 := n1_; have HO_9 := n2_; have zK := n3_; have zQ := n4_; have HB := n5_; clear n0_ n1_ n2_ n3_ n4_ n5_; (try clear hb); (try clear hkp); (try clear hy0)))
      (try simp only [Act.put, List.setIfInBounds_toArray, List.set_cons_zero, List.set_cons_succ])
      go_cut [67] (fun v67 wc => ∃ (kq : Nat) (x67_36 : Bool), v67 = .bool x67_36 ∧ zy (laws_FnExactCutPrefix.j1 kq l0 t343 t346 t352 x67_36 a1_0 a1_1 = some r) ∧ zy (kq ≤ kj11) ∧ zy (Kd.R k45 45 wc w.heap.size (fun k_ => some k_ ≠ (v353 : Value).ownBlock) v344 t343) ∧ zy (Kd.R k45 45 wc w.heap.size (fun k_ => some k_ ≠ (v344 : Value).ownBlock) v353 t352) ∧ zy (wc.heap[gb336]? = some (.cells #[.int .i64 a1_0, .int .i64 a1_1] 43 (0, 0))) ∧ zy (Below w.heap.size w wc))
      case first =>
       have H := HC37.1
       clear HC37
       by_cases c42 : t361 < 0
       ·
        rw [if_pos c42] at H
        have c42b0 : decide (t361 < 0) = true := decide_eq_true c42
        clear c42
        (first | rw [c42b0] | (simp only [zB, zC]; rw [c42b0]) | skip)
        have H' := Aside0.mk H
        clear H
        go_wp2
        go_meet
        case rel => exact ⟨_, (true), (by first | rfl | (simp; done) | (simp [*]; done)), H', ⟨by have := HJ11.1; first | omega | exact Nat.le_refl _⟩, ⟨by (with_reducible repeat (first | apply zb | apply za | apply zc)); exact zs HO_6.1 (fun _ hk => hk.2.1)⟩, ⟨by (with_reducible repeat (first | apply zb | apply za | apply zc)); exact zs HO_9.1 (fun _ hk => hk.1)⟩, ⟨by (with_reducible repeat (first | refine zl ?_ _ | refine zn ?_ | refine zm ?_ _)); exact zK.1⟩, ⟨by repeat (first | (with_reducible first | exact HB.1 | apply zf | apply zd | apply ze | refine zi ?_ zL.1) | exact HB.1)⟩⟩
       ·
        rw [if_neg c42] at H
        have c42b0 : decide (t361 < 0) = false := decide_eq_false c42
        clear c42
        (first | rw [c42b0] | (simp only [zB, zC]; rw [c42b0]) | skip)
        replace H := Option.bind_eq_some_iff.mp H
        obtain ⟨t363, A430, H⟩ := H
        replace H : (if t363 = true then (laws_FnExactCutPrefix.j1 kj11 l0 t343 t346 t352 (t355 != t346) a1_0 a1_1) else (laws_FnExactCutPrefix.j1 kj11 l0 t343 t346 t352 true a1_0 a1_1)) = some r := H
        have A43 := Aside0.mk A430
        clear A430
        by_cases c44 : t363 = true
        ·
         subst c44
         have H1 : (laws_FnExactCutPrefix.j1 kj11 l0 t343 t346 t352 (t355 != t346) a1_0 a1_1) = some r := by rw [if_pos rfl] at H; exact H
         clear H
         have H := H1
         clear H1
         have H' := Aside0.mk H
         clear H
         obtain ⟨Ao45, co45, eo45⟩ := zq HO_9.1
         subst eo45
         obtain ⟨Ao46, co46, eo46⟩ := zq HO_6.1
         subst eo46
         go_wp2_with (first | (go_at_call 17; (with_reducible refine (laws_eqPrefixS.calls kj11 _ _ t352 _ _ t343 true _ ?side1 ?side2 ?side3 ?side4 A43.1).mono ?_); (case side1 => repeat (first | exact (zg HO_9.1).2.2 | (with_reducible refine zk ?_ _) | (with_reducible refine zj ?_ _) | (with_reducible refine zo ?_))); (case side2 => exact (zg HO_9.1).2.1); (case side3 => repeat (first | exact (zg HO_6.1).2.2 | (with_reducible refine zk ?_ _) | (with_reducible refine zj ?_ _) | (with_reducible refine zo ?_))); (case side4 => exact (zg HO_6.1).2.1); rintro e w47 ⟨rfl, hb⟩; have n0_ := Aside0.mk (zh (by (with_reducible repeat (first | apply zb | apply za | apply zc)); exact HO_6.1) hb); have n1_ := Aside0.mk (zh (by (with_reducible repeat (first | apply zb | apply za | apply zc)); exact HO_8.1) hb); have n2_ := Aside0.mk (zh (by (with_reducible repeat (first | apply zb | apply za | apply zc)); exact HO_9.1) hb); have n3_ := Aside0.mk (zh (by (with_reducible repeat (first | apply zb | apply za | apply zc)); exact zQ.1) hb); have n4_ := Aside0.mk (zu (g := gb336) (o := .cells #[.int .i64 a1_0, .int .i64 a1_1] 43 (0, 0)) (by (with_reducible repeat (first | refine zl ?_ _ | refine zn ?_ | refine zm ?_ _)); exact zK.1) hb); have n5_ := Aside0.mk (zp (by repeat (first | (with_reducible first | exact HB.1 | apply zf | apply zd | apply ze | refine zi ?_ zL.1) | exact HB.1)) hb); clear HO_6; clear HO_8; clear HO_9; clear zQ; clear zK; clear HB; have HO_6 := n0_; have HO_8 := n1_; have HO_9 := n2_; have zQ := n3_; have zK := n4_; have HB := n5_; clear n0_ n1_ n2_ n3_ n4_ n5_; (try clear hb); (try clear hb2); (try clear hk); (try clear hi)))
         go_meet
         case rel => exact ⟨_, ((t355 != t346)), (by first | rfl | (simp; done) | (simp [*]; done)), H', ⟨by have := HJ11.1; first | omega | exact Nat.le_refl _⟩, ⟨by (with_reducible repeat (first | apply zb | apply za | apply zc)); exact zs HO_6.1 (fun _ hk => hk.2.1)⟩, ⟨by (with_reducible repeat (first | apply zb | apply za | apply zc)); exact zs HO_9.1 (fun _ hk => hk.1)⟩, ⟨by (with_reducible repeat (first | refine zl ?_ _ | refine zn ?_ | refine zm ?_ _)); exact zK.1⟩, ⟨by repeat (first | (with_reducible first | exact HB.1 | apply zf | apply zd | apply ze | refine zi ?_ zL.1) | exact HB.1)⟩⟩
        ·
         replace c44 := Bool.eq_false_iff.mpr c44
         subst c44
         have H1 : (laws_FnExactCutPrefix.j1 kj11 l0 t343 t346 t352 true a1_0 a1_1) = some r := by rw [if_neg (show ¬ (false = true) by decide)] at H; exact H
         clear H
         have H := H1
         clear H1
         have H' := Aside0.mk H
         clear H
         obtain ⟨Ao48, co48, eo48⟩ := zq HO_9.1
         subst eo48
         obtain ⟨Ao49, co49, eo49⟩ := zq HO_6.1
         subst eo49
         go_wp2_with (first | (go_at_call 17; (with_reducible refine (laws_eqPrefixS.calls kj11 _ _ t352 _ _ t343 false _ ?side1 ?side2 ?side3 ?side4 A43.1).mono ?_); (case side1 => repeat (first | exact (zg HO_9.1).2.2 | (with_reducible refine zk ?_ _) | (with_reducible refine zj ?_ _) | (with_reducible refine zo ?_))); (case side2 => exact (zg HO_9.1).2.1); (case side3 => repeat (first | exact (zg HO_6.1).2.2 | (with_reducible refine zk ?_ _) | (with_reducible refine zj ?_ _) | (with_reducible refine zo ?_))); (case side4 => exact (zg HO_6.1).2.1); rintro e w50 ⟨rfl, hb⟩; have n0_ := Aside0.mk (zh (by (with_reducible repeat (first | apply zb | apply za | apply zc)); exact HO_6.1) hb); have n1_ := Aside0.mk (zh (by (with_reducible repeat (first | apply zb | apply za | apply zc)); exact HO_8.1) hb); have n2_ := Aside0.mk (zh (by (with_reducible repeat (first | apply zb | apply za | apply zc)); exact HO_9.1) hb); have n3_ := Aside0.mk (zh (by (with_reducible repeat (first | apply zb | apply za | apply zc)); exact zQ.1) hb); have n4_ := Aside0.mk (zu (g := gb336) (o := .cells #[.int .i64 a1_0, .int .i64 a1_1] 43 (0, 0)) (by (with_reducible repeat (first | refine zl ?_ _ | refine zn ?_ | refine zm ?_ _)); exact zK.1) hb); have n5_ := Aside0.mk (zp (by repeat (first | (with_reducible first | exact HB.1 | apply zf | apply zd | apply ze | refine zi ?_ zL.1) | exact HB.1)) hb); clear HO_6; clear HO_8; clear HO_9; clear zQ; clear zK; clear HB; have HO_6 := n0_; have HO_8 := n1_; have HO_9 := n2_; have zQ := n3_; have zK := n4_; have HB := n5_; clear n0_ n1_ n2_ n3_ n4_ n5_; (try clear hb); (try clear hb2); (try clear hk); (try clear hi)))
         go_meet
         case rel => exact ⟨_, (true), (by first | rfl | (simp; done) | (simp [*]; done)), H', ⟨by have := HJ11.1; first | omega | exact Nat.le_refl _⟩, ⟨by (with_reducible repeat (first | apply zb | apply za | apply zc)); exact zs HO_6.1 (fun _ hk => hk.2.1)⟩, ⟨by (with_reducible repeat (first | apply zb | apply za | apply zc)); exact zs HO_9.1 (fun _ hk => hk.1)⟩, ⟨by (with_reducible repeat (first | refine zl ?_ _ | refine zn ?_ | refine zm ?_ _)); exact zK.1⟩, ⟨by repeat (first | (with_reducible first | exact HB.1 | apply zf | apply zd | apply ze | refine zi ?_ zL.1) | exact HB.1)⟩⟩
      case rest =>
       clear HC37
       (try clear c1); (try clear c2); (try clear p2); (try clear c3); (try clear c4); (try clear c4b0); (try clear c10); (try clear c13); (try clear c15); (try clear c17); (try clear c22); (try clear c25); (try clear c32); (try clear c33); (try clear c34); (try clear c35); (try clear c42); (try clear c42b0); (try clear c44); (try clear hcz20_0); (try clear hcz20_1); (try clear hfz20_0); (try clear hfz20_1); (try clear p2)
       obtain ⟨kq, x67_36, rfl, HA, HJ36, HO_6, HO_9, zK, HB⟩ := hcut
       cases kq with
       | zero => exact absurd HA.1 (by simp [laws_FnExactCutPrefix.j1])
       | succ kj36 =>
        have H := HA.1
        clear HA
        simp only [laws_FnExactCutPrefix.j1] at H
        by_cases c51 : x67_36 = true
        ·
         subst c51
         have H1 : (some false) = some r := by rw [if_pos rfl] at H; exact H
         clear H
         have H := H1
         clear H1
         obtain rfl := Option.some.inj H
         cases hT
        ·
         replace c51 := Bool.eq_false_iff.mpr c51
         subst c51
         have H1 : ((laws_markPrefixS.f kj36 t352 1).bind fun bt364 => ((laws_heldPrefixS.f kj36 bt364.2 1).bind fun t366 => (if t366 < 0 then (some false) else (if t366 = bt364.1 then ((laws_toPrefixS.f kj36 l0).bind fun t367 => ((laws_toPrefix.f a1_0 a1_1).bind fun bt370 => ((impl_CutPrefix.f kj36 t367 bt370.1 bt370.2).bind fun bt372 => ((laws_eqPrefixS.f kj36 bt372.1 t343).bind fun t376 => (if t376 = true then (laws_FnExactCutPrefix.j2 kj36 bt364.2 bt364.1 (bt372.2 != t346)) else (laws_FnExactCutPrefix.j2 kj36 bt364.2 bt364.1 true)))))) else (some false))))) = some r := by rw [if_neg (show ¬ (false = true) by decide)] at H; exact H
         clear H
         have H := H1
         clear H1
         replace H := Option.bind_eq_some_iff.mp H
         obtain ⟨⟨t364, t365⟩, A520, H⟩ := H
         replace H : ((laws_heldPrefixS.f kj36 t365 1).bind fun t366 => (if t366 < 0 then (some false) else (if t366 = t364 then ((laws_toPrefixS.f kj36 l0).bind fun t367 => ((laws_toPrefix.f a1_0 a1_1).bind fun bt370 => ((impl_CutPrefix.f kj36 t367 bt370.1 bt370.2).bind fun bt372 => ((laws_eqPrefixS.f kj36 bt372.1 t343).bind fun t376 => (if t376 = true then (laws_FnExactCutPrefix.j2 kj36 t365 t364 (bt372.2 != t346)) else (laws_FnExactCutPrefix.j2 kj36 t365 t364 true)))))) else (some false)))) = some r := H
         have A52 := Aside0.mk A520
         clear A520
         replace H := Option.bind_eq_some_iff.mp H
         obtain ⟨t366, A530, H⟩ := H
         replace H : (if t366 < 0 then (some false) else (if t366 = t364 then ((laws_toPrefixS.f kj36 l0).bind fun t367 => ((laws_toPrefix.f a1_0 a1_1).bind fun bt370 => ((impl_CutPrefix.f kj36 t367 bt370.1 bt370.2).bind fun bt372 => ((laws_eqPrefixS.f kj36 bt372.1 t343).bind fun t376 => (if t376 = true then (laws_FnExactCutPrefix.j2 kj36 t365 t364 (bt372.2 != t346)) else (laws_FnExactCutPrefix.j2 kj36 t365 t364 true)))))) else (some false))) = some r := H
         have A53 := Aside0.mk A530
         clear A530
         by_cases c54 : t366 < 0
         ·
          rw [if_pos c54] at H
          have c54b0 : decide (t366 < 0) = true := decide_eq_true c54
          clear c54
          obtain rfl := Option.some.inj H
          cases hT
         ·
          rw [if_neg c54] at H
          have c54b0 : decide (t366 < 0) = false := decide_eq_false c54
          clear c54
          by_cases c55 : t366 = t364
          ·
           rw [if_pos c55] at H
           have c55b0 : (t366 == t364) = true := beq_iff_eq.mpr c55
           have c55b1 : (t366 != t364) = false := bne_eq_false_iff_eq.mpr c55
           clear c55
           replace H := Option.bind_eq_some_iff.mp H
           obtain ⟨t367, A560, H⟩ := H
           replace H : ((laws_toPrefix.f a1_0 a1_1).bind fun bt370 => ((impl_CutPrefix.f kj36 t367 bt370.1 bt370.2).bind fun bt372 => ((laws_eqPrefixS.f kj36 bt372.1 t343).bind fun t376 => (if t376 = true then (laws_FnExactCutPrefix.j2 kj36 t365 t364 (bt372.2 != t346)) else (laws_FnExactCutPrefix.j2 kj36 t365 t364 true))))) = some r := H
           have A56 := Aside0.mk A560
           clear A560
           replace H := Option.bind_eq_some_iff.mp H
           obtain ⟨⟨t370, t371⟩, A570, H⟩ := H
           replace H : ((impl_CutPrefix.f kj36 t367 t370 t371).bind fun bt372 => ((laws_eqPrefixS.f kj36 bt372.1 t343).bind fun t376 => (if t376 = true then (laws_FnExactCutPrefix.j2 kj36 t365 t364 (bt372.2 != t346)) else (laws_FnExactCutPrefix.j2 kj36 t365 t364 true)))) = some r := H
           have A57 := Aside0.mk A570
           clear A570
           replace H := Option.bind_eq_some_iff.mp H
           obtain ⟨⟨t372, t375⟩, A580, H⟩ := H
           replace H : ((laws_eqPrefixS.f kj36 t372 t343).bind fun t376 => (if t376 = true then (laws_FnExactCutPrefix.j2 kj36 t365 t364 (t375 != t346)) else (laws_FnExactCutPrefix.j2 kj36 t365 t364 true))) = some r := H
           have A58 := Aside0.mk A580
           clear A580
           have HC59 := Aside0.mk H
           clear H
           obtain ⟨Ao60, co60, eo60⟩ := zq HO_9.1
           subst eo60
           try go_wp2_with (first | ((with_reducible refine zr (f := 22) rfl ?_); refine zD (some 70) rfl rfl Try.func22 (by kernel_rfl) rfl #[.slice Ao60 t352.length co60, .int .i64 1] rfl (by (try simp only [List.map_toArray, List.map_cons, List.map_nil]); first | done | rfl | (simp only [List.length_drop, List.length_take]; rfl)) ?_; (with_reducible refine (laws_markPrefixS.calls kj36 (fun k_ => some k_ = (.slice Ao60 t352.length co60 : Value).ownBlock) (.slice Ao60 t352.length co60) t352 1 t364 t365 w _ ?side1 ?side2 A52.1).mono ?_); (case side1 => repeat (first | (with_reducible first | exact HB.1 | apply zf | apply zd | apply ze | refine zi ?_ zL.1) | exact HB.1)); (case side2 => exact Kd.R_tight rfl HO_9.1); rintro e w61 ⟨rfl, hy0, hb, hkp⟩; refine ⟨_, rfl, ?_⟩; have n0_ := Aside0.mk (zs (ok' := fun k_ => some k_ ≠ (.slice Ao60 t352.length co60 : Value).ownBlock) (Kd.R_keptB (HO_6.1) hkp (fun k_ hk_ hs_ => (hk_) hs_)) (fun k_ hk_ => hk_.1)); have n1_ := Aside0.mk (Kd.R_reok rfl hy0 (fun k_ e_ => HO_9.1.1 k_ e_)); have n2_ := Aside0.mk (blk_kept (by (with_reducible repeat (first | refine zl ?_ _ | refine zn ?_ | refine zm ?_ _)); exact zK.1) hkp (fun hs_ => (fun e_ => (Kd.R_ne HO_9.1 zK.1 (by decide)) e_) hs_)); have n3_ := Aside0.mk (hb); clear HO_6; clear HO_9; clear zK; clear HB; have HO_6 := n0_; have HO_9 := n1_; have zK := n2_; have HB := n3_; clear n0_ n1_ n2_ n3_; (try clear hb); (try clear hkp); (try clear hy0)) | ((with_reducible refine zr (f := 23) rfl ?_); refine zD (some 73) rfl rfl Try.func23 (by kernel_rfl) rfl #[.slice Ao60 t365.length co60, .int .i64 1] rfl (by (try simp only [List.map_toArray, List.map_cons, List.map_nil]); first | done | (rw [show t365.length = t352.length from (zg HO_9.1).1.symm] <;> rfl) | rfl | (simp only [List.length_drop, List.length_take]; rfl)) ?_; (with_reducible refine (laws_heldPrefixS.calls kj36 _ _ t365 1 t366 _ ?side1 ?side2 A53.1).mono ?_); (case side1 => repeat (first | exact (zg HO_9.1).2.2 | (with_reducible refine zk ?_ _) | (with_reducible refine zj ?_ _) | (with_reducible refine zo ?_))); (case side2 => rw [show t365.length = t352.length from (zg HO_9.1).1.symm]; exact (zg HO_9.1).2.1); rintro e w' ⟨rfl, ⟨nd, rfl⟩⟩; refine ⟨_, rfl, ?_⟩))
           (try (rw [drewN_self w61]; generalize hq_ : World.drewN w61 _ = w61; have n0_ : zy (Kd.R k45 45 w61 w.heap.size (fun k_ => some k_ ≠ (.slice Ao60 t352.length co60 : Value).ownBlock) v344 t343) := ⟨by rw [← hq_]; exact (by (with_reducible repeat (first | apply zb | apply za | apply zc)); exact HO_6.1)⟩; have n1_ : zy (Kd.R k45 45 w61 w.heap.size (fun k_ => some k_ ≠ (v344 : Value).ownBlock) (.slice Ao60 t352.length co60) t365) := ⟨by rw [← hq_]; exact (by (with_reducible repeat (first | apply zb | apply za | apply zc)); exact HO_9.1)⟩; have n2_ : zy (w61.heap[gb336]? = some (.cells #[.int .i64 a1_0, .int .i64 a1_1] 43 (0, 0))) := ⟨by rw [← hq_]; exact (by (with_reducible repeat (first | refine zl ?_ _ | refine zn ?_ | refine zm ?_ _)); exact zK.1)⟩; have n3_ : zy (Below w.heap.size w w61) := ⟨by rw [← hq_]; exact (by repeat (first | (with_reducible first | exact HB.1 | apply zf | apply zd | apply ze | refine zi ?_ zL.1) | exact HB.1))⟩; clear HO_6 HO_9 zK HB hq_; have HO_6 := n0_; have HO_9 := n1_; have zK := n2_; have HB := n3_; clear n0_ n1_ n2_ n3_))
           have n0_ := Aside0.mk (zc HO_6.1)
           have n1_ := Aside0.mk (zc HO_9.1)
           have n2_ := Aside0.mk (zn zK.1)
           have n3_ := Aside0.mk (ze HB.1)
           clear HO_6
           clear HO_9
           clear zK
           clear HB
           have HO_6 := n0_
           have HO_9 := n1_
           have zK := n2_
           have HB := n3_
           clear n0_ n1_ n2_ n3_
           refine start_ (n := 10) (S := fun w' => w'.cell? ⟨gb336, 0, none⟩ = some (.int .i64 a1_0) ∧ w'.cell? ⟨gb336, 1, none⟩ = some (.int .i64 a1_1)) (ds := []) #[false, false, false, false, false, false, false, false, false, false] (by kernel_rfl) rfl rfl ⟨(zv zK.1 0).trans rfl, (zv zK.1 1).trans rfl⟩ (fun hHeld => ?_); refine with_tabW laws_FnExactCutPrefix.tab24 laws_FnExactCutPrefix.bits24 (fun HT_ HW_ => ?_)
           generalize w61.drew = w62 at HO_6 HO_9 zK HB hHeld ⊢
           refine zJ (i := 0) (N := some 80) (v := ?_) (a' := ?_) #[true, false, false, false, false, false, false, false, false, false] rfl rfl (zF HT_.1 (by kernel_rfl)) (fun _ _ _ h => h) (Or.inl ⟨by rfl, ?_⟩) ?_ ?_
           rotate_left
           ·
            intro w'
            go_simp
            with_reducible rfl
           rotate_left
           ·
            simp only [Act.put, List.setIfInBounds_toArray, List.set_cons_zero, List.set_cons_succ, zB, zC]
            rfl
           refine take_ (i := 2) (N := some 82) (v := ?_) (a' := ?_) #[true, false, true, false, false, false, false, false, false, false] rfl rfl (take_ofW HT_.1 HW_.1 (by kernel_rfl)) (fun _ _ _ h => h) (Or.inl ⟨by rfl, ?_⟩) hHeld ?_ ?_
           rotate_left
           ·
            rintro w' ⟨s0, s1⟩
            go_simp
            with_reducible rfl
           rotate_left
           ·
            simp only [Act.put, List.setIfInBounds_toArray, List.set_cons_zero, List.set_cons_succ, zB, zC]
            rfl
           refine one_ (i := 1) (N := some 81) #[true, true, true, false, false, false, false, false, false, false] rfl rfl (one_of HT_.1 (by kernel_rfl)) (by decide) (fun K hK => ?_)
           refine goes_ Try.func15 (by kernel_rfl) rfl #[.slice A0 l0.length c0] (by rfl) rfl rfl (by (try simp only [List.map_toArray, List.map_cons, List.map_nil]); first | done | rfl | (simp only [List.length_drop, List.length_take]; rfl)) ?_
           with_reducible refine (laws_toPrefixS.calls kj36 _ _ l0 t367 _ ?side1 ?side2 A56.1).mono ?_
           (case side1 => repeat (first | exact (Kd.C_below HR0.1 HB.1) | (with_reducible refine zk ?_ _) | (with_reducible refine zj ?_ _) | (with_reducible refine zo ?_)))
           (case side2 => exact HC0.1)
           rintro e w63 ⟨v368, rfl, ho0, hb⟩
           refine ⟨_, rfl, ?_⟩
           have n0_ := Aside0.mk (zt (by (with_reducible repeat (first | apply zb | apply za | apply zc)); exact HO_6.1) (zx ho0) hb)
           have n1_ := Aside0.mk (zt (by (with_reducible repeat (first | apply zb | apply za | apply zc)); exact HO_9.1) (zx ho0) hb)
           have n2_ := Aside0.mk (zE (zw (zw ho0 (zA (by (with_reducible repeat (first | apply zb | apply za | apply zc)); exact HO_6.1))) (zA (by (with_reducible repeat (first | apply zb | apply za | apply zc)); exact HO_9.1))) (zz (by repeat (first | (with_reducible first | exact HB.1 | apply zf | apply zd | apply ze | refine zi ?_ zL.1) | exact HB.1))))
           have n3_ := Aside0.mk (zu (g := gb336) (o := .cells #[.int .i64 a1_0, .int .i64 a1_1] 43 (0, 0)) (by (with_reducible repeat (first | refine zl ?_ _ | refine zn ?_ | refine zm ?_ _)); exact zK.1) hb)
           have n4_ := Aside0.mk (zp (by repeat (first | (with_reducible first | exact HB.1 | apply zf | apply zd | apply ze | refine zi ?_ zL.1) | exact HB.1)) hb)
           clear HO_6
           clear HO_9
           clear zK
           clear HB
           have HO_6 := n0_
           have HO_9 := n1_
           have zP := n2_
           have zK := n3_
           have HB := n4_
           clear n0_ n1_ n2_ n3_ n4_
           (try clear hb)
           (try clear hb2)
           (try clear hk)
           (try clear hi)
           (try clear ho0)
           refine hK.out _ _ ⟨(zv zK.1 0).trans rfl, (zv zK.1 1).trans rfl⟩ (fun hHeld => ?_)
           clear hK K
           refine norm_ (a' := ?_) ?_ ?_
           rotate_left
           ·
            show Act.put _ (some 81) _ = _
            simp only [Act.put, List.setIfInBounds_toArray, List.set_cons_zero, List.set_cons_succ, zB, zC]
            rfl
           refine one_ (i := 3) (N := some 83) #[true, true, true, true, false, false, false, false, false, false] rfl rfl (one_of HT_.1 (by kernel_rfl)) (by decide) (fun K hK => ?_)
           refine goes_ Try.func33 (by kernel_rfl) rfl #[.agg #[.int .i64 a1_0, .int .i64 a1_1]] (by rfl) rfl rfl (by (try simp only [List.map_toArray, List.map_cons, List.map_nil]); first | done | rfl | (simp only [List.length_drop, List.length_take]; rfl)) ?_
           with_reducible refine (laws_toPrefix.calls a1_0 a1_1 t370 t371 _ A57.1).mono ?_
           rintro e w64 ⟨rfl, hb⟩
           refine ⟨_, rfl, ?_⟩
           have n0_ := Aside0.mk (zh (by (with_reducible repeat (first | apply zb | apply za | apply zc)); exact HO_6.1) hb)
           have n1_ := Aside0.mk (zh (by (with_reducible repeat (first | apply zb | apply za | apply zc)); exact HO_9.1) hb)
           have n2_ := Aside0.mk (zh (by (with_reducible repeat (first | apply zb | apply za | apply zc)); exact zP.1) hb)
           have n3_ := Aside0.mk (zu (g := gb336) (o := .cells #[.int .i64 a1_0, .int .i64 a1_1] 43 (0, 0)) (by (with_reducible repeat (first | refine zl ?_ _ | refine zn ?_ | refine zm ?_ _)); exact zK.1) hb)
           have n4_ := Aside0.mk (zp (by repeat (first | (with_reducible first | exact HB.1 | apply zf | apply zd | apply ze | refine zi ?_ zL.1) | exact HB.1)) hb)
           clear HO_6
           clear HO_9
           clear zP
           clear zK
           clear HB
           have HO_6 := n0_
           have HO_9 := n1_
           have zP := n2_
           have zK := n3_
           have HB := n4_
           clear n0_ n1_ n2_ n3_ n4_
           (try clear hb)
           (try clear hb2)
           (try clear hk)
           (try clear hi)
           obtain ⟨Ao65, co65, eo65⟩ := zq zP.1
           (first | subst eo65 | (injection eo65 with f1_ f2_ f3_; have f4_ := f1_.symm; have f5_ := f3_.symm; clear f1_ f2_ f3_; subst f4_; subst f5_))
           refine hK.out _ _ ⟨(zv zK.1 0).trans rfl, (zv zK.1 1).trans rfl⟩ (fun hHeld => ?_)
           clear hK K
           refine norm_ (a' := ?_) ?_ ?_
           rotate_left
           ·
            show Act.put _ (some 83) _ = _
            simp only [Act.put, List.setIfInBounds_toArray, List.set_cons_zero, List.set_cons_succ, zB, zC]
            rfl
           refine one_ (i := 4) (N := some 84) #[true, true, true, true, true, false, false, false, false, false] rfl rfl (one_of HT_.1 (by kernel_rfl)) (by decide) (fun K hK => ?_)
           refine goes_ Try.func34 (by kernel_rfl) rfl #[.slice Ao65 t367.length co65, .agg #[.int .i64 t370, .int .i64 t371]] (by rfl) rfl rfl (by (try simp only [List.map_toArray, List.map_cons, List.map_nil]); first | done | rfl | (simp only [List.length_drop, List.length_take]; rfl)) ?_
           with_reducible refine (impl_CutPrefix.calls kj36 _ _ t367 t370 t371 t372 t375 _ ?side1 ?side2 A58.1).mono ?_
           (case side1 => repeat (first | exact (zg zP.1).2.2 | (with_reducible refine zk ?_ _) | (with_reducible refine zj ?_ _) | (with_reducible refine zo ?_)))
           (case side2 => exact (zg zP.1).2.1)
           rintro e w66 ⟨v373, rfl, ho0, hb⟩
           refine ⟨_, rfl, ?_⟩
           have n0_ := Aside0.mk (zt (by (with_reducible repeat (first | apply zb | apply za | apply zc)); exact HO_6.1) (zx ho0) hb)
           have n1_ := Aside0.mk (zt (by (with_reducible repeat (first | apply zb | apply za | apply zc)); exact HO_9.1) (zx ho0) hb)
           have n2_ := Aside0.mk (zt (by (with_reducible repeat (first | apply zb | apply za | apply zc)); exact zP.1) (zx ho0) hb)
           have n3_ := Aside0.mk (zE (zw (zw (zw ho0 (zA (by (with_reducible repeat (first | apply zb | apply za | apply zc)); exact HO_6.1))) (zA (by (with_reducible repeat (first | apply zb | apply za | apply zc)); exact HO_9.1))) (zA (by (with_reducible repeat (first | apply zb | apply za | apply zc)); exact zP.1))) (zz (by repeat (first | (with_reducible first | exact HB.1 | apply zf | apply zd | apply ze | refine zi ?_ zL.1) | exact HB.1))))
           have n4_ := Aside0.mk (zu (g := gb336) (o := .cells #[.int .i64 a1_0, .int .i64 a1_1] 43 (0, 0)) (by (with_reducible repeat (first | refine zl ?_ _ | refine zn ?_ | refine zm ?_ _)); exact zK.1) hb)
           have n5_ := Aside0.mk (zp (by repeat (first | (with_reducible first | exact HB.1 | apply zf | apply zd | apply ze | refine zi ?_ zL.1) | exact HB.1)) hb)
           clear HO_6
           clear HO_9
           clear zP
           clear zK
           clear HB
           have HO_6 := n0_
           have HO_9 := n1_
           have zP := n2_
           have zS := n3_
           have zK := n4_
           have HB := n5_
           clear n0_ n1_ n2_ n3_ n4_ n5_
           (try clear hb)
           (try clear hb2)
           (try clear hk)
           (try clear hi)
           (try clear ho0)
           refine hK.out _ _ ⟨(zv zK.1 0).trans rfl, (zv zK.1 1).trans rfl⟩ (fun hHeld => ?_)
           clear hK K
           refine norm_ (a' := ?_) ?_ ?_
           rotate_left
           ·
            show Act.put _ (some 84) _ = _
            simp only [Act.put, List.setIfInBounds_toArray, List.set_cons_zero, List.set_cons_succ, zB, zC]
            rfl
           refine zJ (i := 5) (N := some 79) (v := ?_) (a' := ?_) #[true, true, true, true, true, true, false, false, false, false] rfl rfl (zF HT_.1 (by kernel_rfl)) (fun _ _ _ h => h) (Or.inl ⟨by rfl, ?_⟩) ?_ ?_
           rotate_left
           ·
            intro w'
            go_simp
            with_reducible rfl
           rotate_left
           ·
            simp only [Act.put, List.setIfInBounds_toArray, List.set_cons_zero, List.set_cons_succ, zB, zC]
            rfl
           refine zJ (i := 6) (N := some 85) (v := ?_) (a' := ?_) #[true, true, true, true, true, true, true, false, false, false] rfl rfl (zF HT_.1 (by kernel_rfl)) (fun _ _ _ h => h) (Or.inl ⟨by rfl, ?_⟩) ?_ ?_
           rotate_left
           ·
            intro w'
            go_simp
            with_reducible rfl
           rotate_left
           ·
            simp only [Act.put, List.setIfInBounds_toArray, List.set_cons_zero, List.set_cons_succ, zB, zC]
            rfl
           refine zJ (i := 7) (N := some 86) (v := ?_) (a' := ?_) #[true, true, true, true, true, true, true, true, false, false] rfl rfl (zF HT_.1 (by kernel_rfl)) (fun _ _ _ h => h) (Or.inl ⟨by rfl, ?_⟩) ?_ ?_
           rotate_left
           ·
            intro w'
            go_simp
            with_reducible rfl
           rotate_left
           ·
            simp only [Act.put, List.setIfInBounds_toArray, List.set_cons_zero, List.set_cons_succ, zB, zC]
            rfl
           refine zJ (i := 8) (N := some 14) (v := ?_) (a' := ?_) #[true, true, true, true, true, true, true, true, true, false] rfl rfl (zF HT_.1 (by kernel_rfl)) (fun _ _ _ h => h) (Or.inl ⟨by rfl, ?_⟩) ?_ ?_
           rotate_left
           ·
            intro w'
            go_simp
            with_reducible rfl
           rotate_left
           ·
            simp only [Act.put, List.setIfInBounds_toArray, List.set_cons_zero, List.set_cons_succ, zB, zC]
            rfl
           refine zJ (i := 9) (N := some 15) (v := ?_) (a' := ?_) #[true, true, true, true, true, true, true, true, true, true] rfl rfl (zF HT_.1 (by kernel_rfl)) (fun _ _ _ h => h) (Or.inl ⟨by rfl, ?_⟩) ?_ ?_
           rotate_left
           ·
            intro w'
            go_simp
            with_reducible rfl
           rotate_left
           ·
            simp only [Act.put, List.setIfInBounds_toArray, List.set_cons_zero, List.set_cons_succ, zB, zC]
            rfl
           refine done_ (done_of HT_.1 (by kernel_rfl)) ?_
           go_upto_region 25 with (fail)
           go_cut [95] (fun v95 wc => ∃ (kq : Nat) (x95_58 : Bool), v95 = .bool x95_58 ∧ zy (laws_FnExactCutPrefix.j2 kq t365 t364 x95_58 = some r) ∧ zy (kq ≤ kj36) ∧ zy (Kd.R k45 45 wc w.heap.size (fun _ => True) (.slice Ao60 t352.length co60) t365) ∧ zy (wc.heap[gb336]? = some (.cells #[.int .i64 a1_0, .int .i64 a1_1] 43 (0, 0))) ∧ zy (Below w.heap.size w wc))
           case first =>
            have H := HC59.1
            clear HC59
            replace H := Option.bind_eq_some_iff.mp H
            obtain ⟨t376, A670, H⟩ := H
            replace H : (if t376 = true then (laws_FnExactCutPrefix.j2 kj36 t365 t364 (t375 != t346)) else (laws_FnExactCutPrefix.j2 kj36 t365 t364 true)) = some r := H
            have A67 := Aside0.mk A670
            clear A670
            by_cases c68 : t376 = true
            ·
             subst c68
             have H1 : (laws_FnExactCutPrefix.j2 kj36 t365 t364 (t375 != t346)) = some r := by rw [if_pos rfl] at H; exact H
             clear H
             have H := H1
             clear H1
             have H' := Aside0.mk H
             clear H
             obtain ⟨Ao69, co69, eo69⟩ := zq zS.1
             subst eo69
             obtain ⟨Ao70, co70, eo70⟩ := zq HO_6.1
             subst eo70
             go_wp2_with (first | ((with_reducible refine zr (f := 17) rfl ?_); refine zD (some 89) rfl rfl Try.func17 (by kernel_rfl) rfl #[.slice Ao69 t372.length co69, .slice Ao70 t343.length co70] rfl (by (try simp only [List.map_toArray, List.map_cons, List.map_nil]); first | done | rfl | (simp only [List.length_drop, List.length_take]; rfl)) ?_; (with_reducible refine (laws_eqPrefixS.calls kj36 _ _ t372 _ _ t343 true _ ?side1 ?side2 ?side3 ?side4 A67.1).mono ?_); (case side1 => repeat (first | exact (zg zS.1).2.2 | (with_reducible refine zk ?_ _) | (with_reducible refine zj ?_ _) | (with_reducible refine zo ?_))); (case side2 => exact (zg zS.1).2.1); (case side3 => repeat (first | exact (zg HO_6.1).2.2 | (with_reducible refine zk ?_ _) | (with_reducible refine zj ?_ _) | (with_reducible refine zo ?_))); (case side4 => exact (zg HO_6.1).2.1); rintro e w71 ⟨rfl, hb⟩; refine ⟨_, rfl, ?_⟩; have n0_ := Aside0.mk (zh (by (with_reducible repeat (first | apply zb | apply za | apply zc)); exact HO_6.1) hb); have n1_ := Aside0.mk (zh (by (with_reducible repeat (first | apply zb | apply za | apply zc)); exact HO_9.1) hb); have n2_ := Aside0.mk (zh (by (with_reducible repeat (first | apply zb | apply za | apply zc)); exact zP.1) hb); have n3_ := Aside0.mk (zh (by (with_reducible repeat (first | apply zb | apply za | apply zc)); exact zS.1) hb); have n4_ := Aside0.mk (zu (g := gb336) (o := .cells #[.int .i64 a1_0, .int .i64 a1_1] 43 (0, 0)) (by (with_reducible repeat (first | refine zl ?_ _ | refine zn ?_ | refine zm ?_ _)); exact zK.1) hb); have n5_ := Aside0.mk (zp (by repeat (first | (with_reducible first | exact HB.1 | apply zf | apply zd | apply ze | refine zi ?_ zL.1) | exact HB.1)) hb); clear HO_6; clear HO_9; clear zP; clear zS; clear zK; clear HB; have HO_6 := n0_; have HO_9 := n1_; have zP := n2_; have zS := n3_; have zK := n4_; have HB := n5_; clear n0_ n1_ n2_ n3_ n4_ n5_; (try clear hb); (try clear hb2); (try clear hk); (try clear hi)))
             go_meet
             case rel => exact ⟨_, ((t375 != t346)), (by first | rfl | (simp; done) | (simp [*]; done)), H', ⟨by have := HJ11.1; have := HJ36.1; first | omega | exact Nat.le_refl _⟩, ⟨by (with_reducible repeat (first | apply zb | apply za | apply zc)); exact zs HO_9.1 (fun _ hk => trivial)⟩, ⟨by (with_reducible repeat (first | refine zl ?_ _ | refine zn ?_ | refine zm ?_ _)); exact zK.1⟩, ⟨by repeat (first | (with_reducible first | exact HB.1 | apply zf | apply zd | apply ze | refine zi ?_ zL.1) | exact HB.1)⟩⟩
            ·
             replace c68 := Bool.eq_false_iff.mpr c68
             subst c68
             have H1 : (laws_FnExactCutPrefix.j2 kj36 t365 t364 true) = some r := by rw [if_neg (show ¬ (false = true) by decide)] at H; exact H
             clear H
             have H := H1
             clear H1
             have H' := Aside0.mk H
             clear H
             obtain ⟨Ao72, co72, eo72⟩ := zq zS.1
             subst eo72
             obtain ⟨Ao73, co73, eo73⟩ := zq HO_6.1
             subst eo73
             go_wp2_with (first | ((with_reducible refine zr (f := 17) rfl ?_); refine zD (some 89) rfl rfl Try.func17 (by kernel_rfl) rfl #[.slice Ao72 t372.length co72, .slice Ao73 t343.length co73] rfl (by (try simp only [List.map_toArray, List.map_cons, List.map_nil]); first | done | rfl | (simp only [List.length_drop, List.length_take]; rfl)) ?_; (with_reducible refine (laws_eqPrefixS.calls kj36 _ _ t372 _ _ t343 false _ ?side1 ?side2 ?side3 ?side4 A67.1).mono ?_); (case side1 => repeat (first | exact (zg zS.1).2.2 | (with_reducible refine zk ?_ _) | (with_reducible refine zj ?_ _) | (with_reducible refine zo ?_))); (case side2 => exact (zg zS.1).2.1); (case side3 => repeat (first | exact (zg HO_6.1).2.2 | (with_reducible refine zk ?_ _) | (with_reducible refine zj ?_ _) | (with_reducible refine zo ?_))); (case side4 => exact (zg HO_6.1).2.1); rintro e w74 ⟨rfl, hb⟩; refine ⟨_, rfl, ?_⟩; have n0_ := Aside0.mk (zh (by (with_reducible repeat (first | apply zb | apply za | apply zc)); exact HO_6.1) hb); have n1_ := Aside0.mk (zh (by (with_reducible repeat (first | apply zb | apply za | apply zc)); exact HO_9.1) hb); have n2_ := Aside0.mk (zh (by (with_reducible repeat (first | apply zb | apply za | apply zc)); exact zP.1) hb); have n3_ := Aside0.mk (zh (by (with_reducible repeat (first | apply zb | apply za | apply zc)); exact zS.1) hb); have n4_ := Aside0.mk (zu (g := gb336) (o := .cells #[.int .i64 a1_0, .int .i64 a1_1] 43 (0, 0)) (by (with_reducible repeat (first | refine zl ?_ _ | refine zn ?_ | refine zm ?_ _)); exact zK.1) hb); have n5_ := Aside0.mk (zp (by repeat (first | (with_reducible first | exact HB.1 | apply zf | apply zd | apply ze | refine zi ?_ zL.1) | exact HB.1)) hb); clear HO_6; clear HO_9; clear zP; clear zS; clear zK; clear HB; have HO_6 := n0_; have HO_9 := n1_; have zP := n2_; have zS := n3_; have zK := n4_; have HB := n5_; clear n0_ n1_ n2_ n3_ n4_ n5_; (try clear hb); (try clear hb2); (try clear hk); (try clear hi)))
             go_meet
             case rel => exact ⟨_, (true), (by first | rfl | (simp; done) | (simp [*]; done)), H', ⟨by have := HJ11.1; have := HJ36.1; first | omega | exact Nat.le_refl _⟩, ⟨by (with_reducible repeat (first | apply zb | apply za | apply zc)); exact zs HO_9.1 (fun _ hk => trivial)⟩, ⟨by (with_reducible repeat (first | refine zl ?_ _ | refine zn ?_ | refine zm ?_ _)); exact zK.1⟩, ⟨by repeat (first | (with_reducible first | exact HB.1 | apply zf | apply zd | apply ze | refine zi ?_ zL.1) | exact HB.1)⟩⟩
           case rest =>
            clear HC59
            (try clear c1); (try clear c2); (try clear p2); (try clear c3); (try clear c4); (try clear c4b0); (try clear c5); (try clear c6); (try clear c10); (try clear c13); (try clear c15); (try clear c17); (try clear c22); (try clear c23); (try clear c25); (try clear c32); (try clear c33); (try clear c34); (try clear c35); (try clear c42); (try clear c42b0); (try clear c44); (try clear c51); (try clear c54); (try clear c54b0); (try clear c55); (try clear c55b0); (try clear c55b1); (try clear c68); (try clear hcz20_0); (try clear hcz20_1); (try clear hfz20_0); (try clear hfz20_1); (try clear p2)
            obtain ⟨kq, x95_58, rfl, HA, HJ58, HO_9, zK, HB⟩ := hcut
            have hl9_58 := (zg HO_9.1).1
            rw [hl9_58] at HO_9
            (try simp only [hl9_58])
            (try simp only [hl9_58] at zK)
            cases kq with
            | zero => exact absurd HA.1 (by simp [laws_FnExactCutPrefix.j2])
            | succ kj58 =>
             have H := HA.1
             clear HA
             simp only [laws_FnExactCutPrefix.j2] at H
             by_cases c75 : x95_58 = true
             ·
              subst c75
              have H1 : (some false) = some r := by rw [if_pos rfl] at H; exact H
              clear H
              have H := H1
              clear H1
              obtain rfl := Option.some.inj H
              cases hT
             ·
              replace c75 := Bool.eq_false_iff.mpr c75
              subst c75
              have H1 : ((laws_heldPrefixS.f kj58 t365 1).bind fun t377 => (if t377 < 0 then (some false) else (if t377 = t364 then (some true) else (some false)))) = some r := by rw [if_neg (show ¬ (false = true) by decide)] at H; exact H
              clear H
              have H := H1
              clear H1
              replace H := Option.bind_eq_some_iff.mp H
              obtain ⟨t377, A760, H⟩ := H
              replace H : (if t377 < 0 then (some false) else (if t377 = t364 then (some true) else (some false))) = some r := H
              have A76 := Aside0.mk A760
              clear A760
              by_cases c77 : t377 < 0
              ·
               rw [if_pos c77] at H
               have c77b0 : decide (t377 < 0) = true := decide_eq_true c77
               clear c77
               obtain rfl := Option.some.inj H
               cases hT
              ·
               rw [if_neg c77] at H
               have c77b0 : decide (t377 < 0) = false := decide_eq_false c77
               clear c77
               by_cases c78 : t377 = t364
               ·
                rw [if_pos c78] at H
                have c78b0 : (t377 == t364) = true := beq_iff_eq.mpr c78
                have c78b1 : (t377 != t364) = false := bne_eq_false_iff_eq.mpr c78
                clear c78
                obtain rfl := Option.some.inj H
                go_wp2_with (first | ((with_reducible refine zr (f := 23) rfl ?_); refine zD (some 98) rfl rfl Try.func23 (by kernel_rfl) rfl #[.slice Ao60 t365.length co60, .int .i64 1] rfl (by (try simp only [List.map_toArray, List.map_cons, List.map_nil]); first | done | rfl | (simp only [List.length_drop, List.length_take]; rfl)) ?_; (with_reducible refine (laws_heldPrefixS.calls kj58 _ _ t365 1 t377 _ ?side1 ?side2 A76.1).mono ?_); (case side1 => repeat (first | exact (zg HO_9.1).2.2 | (with_reducible refine zk ?_ _) | (with_reducible refine zj ?_ _) | (with_reducible refine zo ?_))); (case side2 => exact (zg HO_9.1).2.1); rintro e w' ⟨rfl, ⟨nd, rfl⟩⟩; refine ⟨_, rfl, ?_⟩))
                go_ret
                exact ⟨by first | rfl | (simp [errW_none, errW_some] <;> rfl) | (simp [*, errW_none, errW_some] <;> rfl), by repeat (first | (with_reducible first | exact HB.1 | apply zf | apply zd | apply ze | refine zi ?_ zL.1) | exact HB.1)⟩
               ·
                rw [if_neg c78] at H
                have c78b0 : (t377 == t364) = false := beq_eq_false_iff_ne.mpr c78
                have c78b1 : (t377 != t364) = true := bne_iff_ne.mpr c78
                obtain rfl := Option.some.inj H
                cases hT
          ·
           rw [if_neg c55] at H
           have c55b0 : (t366 == t364) = false := beq_eq_false_iff_ne.mpr c55
           have c55b1 : (t366 != t364) = true := bne_iff_ne.mpr c55
           obtain rfl := Option.some.inj H
           cases hT
     ·
      replace c35 := Bool.eq_false_iff.mpr c35
      subst c35
      have H1 : (some false) = some r := by rw [if_neg (show ¬ (false = true) by decide)] at H; exact H
      clear H
      have H := H1
      clear H1
      obtain rfl := Option.some.inj H
      cases hT

end Go.Proofs.Ytabejlfejlpkeaa.PFnExactCutPrefix
