/- Written by this session's own program over the kit's print: Lean functions that tell what Go functions answer, each with a proof that the call does so. No condition but what each statement says. -/
import Derived.Test.YtlnfcobloolnnaaYFnExactUpdateBytesx0
import Derived.Test.YtlnfcobloolnnaaYFnExactUpdateBytesx2
import Derived.Test.YtlnfcobloolnnaaYFnExactUpdateBytesx3
import Derived.Test.YtlnfcobloolnnaaYFnExactUpdateBytesx8
import Derived.Test.YtlnfcobloolnnaaYFnExactUpdateBytesx14
namespace Go.Proofs.Ytlnfcobloolnnaa.PFnExactUpdateBytes
open Go.RowKit Go.Proofs.YtlnfcobloolnnaaW.PrintWords Go.Proofs.YtlnfcobloolnnaaW.PrintLast Go.Proofs.YtlnfcobloolnnaaW.PrintMore
open Go.Proofs.YtlnfcobloolnnaaW.PrintLast renaming i64_w → zI, i32_w → zJ
open Go.Proofs.YtlnfcobloolnnaaW.PrintMore.Kd renaming R_told → zv, R_old → zE
open Go.Proofs.YtlnfcobloolnnaaW.PrintWords renaming blk_cell → zb, pw_below_drewN → zf, blk_frozen → zg, below_drew1 → zh, below_alloc → zi, below_set → zk, blk_drewN → zn, blk_alloc → zo, blk_drew → zr, below_size → zu, below_step → zB, blk_below → zC, blk_put → zF, blk_far → zG, Aside0 → zH
open Go.Proofs.YtlnfcobloolnnaaW.PrintWords.Kd renaming R_far → za, R_drewN → zc, R_alloc → zd, R_drew → ze, R_reads' → zj, C_drewN → zl, C_alloc → zm, R_below → zp, C_drew → zq, R_mono → zs, C_below → zt, R_new' → zw, R_base → zx, R_types → zy, R_slice → zz, R_lower → zA, R_lt → zD
attribute [local go_sem] max2_int min2_int max_two min_two max_three min_three max_four min_four   -- for this text's walks alone
set_option linter.unusedVariables false
set_option linter.unusedSimpArgs false

/-! ### laws_FnExactUpdateBytes: function 8 -/
def laws_FnExactUpdateBytes.j0 : Nat → Bool → List (S32) → Int → List Int → Int → Int → Int → List Int → List (S32) → List (S35) → Int → List Int → Int → Int → Int → List Int → List (S35) → Option (Bool)
 | 0, _, _, _, _, _, _, _, _, _, _, _, _, _, _, _, _, _ => none
 | k + 1, x34, x309000, x309001, x309002, x309003, x309004, x309005, x309006, x309007, x345000, x345001, x345002, x345003, x345004, x345005, x345006, x345007 => if x34 = true then (some false) else ((laws_toUpdate.f k x309000 x309001 x309002 x309003 x309004 x309005 x309006 x309007).bind fun bt347 => ((laws_eqUpdate.f k x345000 x345001 x345002 x345003 x345004 x345005 x345006 x345007 bt347.1 bt347.2.1 bt347.2.2.1 bt347.2.2.2.1 bt347.2.2.2.2.1 bt347.2.2.2.2.2.1 bt347.2.2.2.2.2.2.1 bt347.2.2.2.2.2.2.2).bind fun t363 => (if t363 = true then (some true) else (some false))))
def laws_FnExactUpdateBytes.f (k : Nat) (l0_0 : List (S32)) (a0_1 : Int) (l0_2 : List Int) (a0_3 : Int) (a0_4 : Int) (a0_5 : Int) (l0_6 : List Int) (l0_7 : List (S32)) : Option (Bool) := (laws_szUpdate.f l0_0 a0_1 l0_2 a0_3 a0_4 a0_5 l0_6 l0_7 1048576).bind fun t309 => (if t309 < 0 then (some true) else ((laws_toUpdate.f k l0_0 a0_1 l0_2 a0_3 a0_4 a0_5 l0_6 l0_7).bind fun bt310 => ((spec_UpdateBytes.f k bt310.1 bt310.2.1 bt310.2.2.1 bt310.2.2.2.1 bt310.2.2.2.2.1 bt310.2.2.2.2.2.1 bt310.2.2.2.2.2.2.1 bt310.2.2.2.2.2.2.2).bind fun bt326 => ((laws_toUpdate.f k l0_0 a0_1 l0_2 a0_3 a0_4 a0_5 l0_6 l0_7).bind fun bt328 => ((impl_UpdateBytes.f k bt328.1 bt328.2.1 bt328.2.2.1 bt328.2.2.2.1 bt328.2.2.2.2.1 bt328.2.2.2.2.2.1 bt328.2.2.2.2.2.2.1 bt328.2.2.2.2.2.2.2).bind fun bt345 => (if bt345.1.toList = bt326.1.toList then (laws_FnExactUpdateBytes.j0 k (bt345.2 != bt326.2) l0_0 a0_1 l0_2 a0_3 a0_4 a0_5 l0_6 l0_7 bt328.1 bt328.2.1 bt328.2.2.1 bt328.2.2.2.1 bt328.2.2.2.2.1 bt328.2.2.2.2.2.1 bt328.2.2.2.2.2.2.1 bt328.2.2.2.2.2.2.2) else (laws_FnExactUpdateBytes.j0 k true l0_0 a0_1 l0_2 a0_3 a0_4 a0_5 l0_6 l0_7 bt328.1 bt328.2.1 bt328.2.2.1 bt328.2.2.2.1 bt328.2.2.2.2.1 bt328.2.2.2.2.2.1 bt328.2.2.2.2.2.2.1 bt328.2.2.2.2.2.2.2)))))))
theorem laws_FnExactUpdateBytes.mono_l : ∀ k, (∀ y0 y1 y2 y3 y4 y5 y6 y7 y8 y9 y10 y11 y12 y13 y14 y15 y16, LeO (laws_FnExactUpdateBytes.j0 k y0 y1 y2 y3 y4 y5 y6 y7 y8 y9 y10 y11 y12 y13 y14 y15 y16) (laws_FnExactUpdateBytes.j0 (k + 1) y0 y1 y2 y3 y4 y5 y6 y7 y8 y9 y10 y11 y12 y13 y14 y15 y16))
 | 0 => fun _ _ _ _ _ _ _ _ _ _ _ _ _ _ _ _ _ r h => by simp [laws_FnExactUpdateBytes.j0] at h
 | k + 1 => by
  have ih0 := laws_FnExactUpdateBytes.mono_l k
  ·
   intro y0 y1 y2 y3 y4 y5 y6 y7 y8 y9 y10 y11 y12 y13 y14 y15 y16
   unfold laws_FnExactUpdateBytes.j0
   repeat' first
   | (with_reducible exact ih0 _ _ _ _ _ _ _ _ _ _ _ _ _ _ _ _ _)
   | (with_reducible exact impl_UpdateBytes.mono _ _ _ _ _ _ _ _ _)
   | (with_reducible exact laws_eqUpdate.mono _ _ _ _ _ _ _ _ _ _ _ _ _ _ _ _ _)
   | (with_reducible exact laws_toUpdate.mono _ _ _ _ _ _ _ _ _)
   | (with_reducible exact spec_UpdateBytes.mono _ _ _ _ _ _ _ _ _)
   | (with_reducible exact LeO.refl _)
   | (with_reducible exact LeO.none _)
   | (with_reducible refine LeO.ite ?_ ?_)
   | (with_reducible refine LeO.bind ?_ (fun _ => ?_))
   | exact ih0 _ _ _ _ _ _ _ _ _ _ _ _ _ _ _ _ _
   | exact impl_UpdateBytes.mono _ _ _ _ _ _ _ _ _
   | exact laws_eqUpdate.mono _ _ _ _ _ _ _ _ _ _ _ _ _ _ _ _ _
   | exact laws_toUpdate.mono _ _ _ _ _ _ _ _ _
   | exact spec_UpdateBytes.mono _ _ _ _ _ _ _ _ _
   | exact LeO.none _
   | refine LeO.ite ?_ ?_
   | refine LeO.bind ?_ (fun _ => ?_)
theorem laws_FnExactUpdateBytes.mono : ∀ a0 a1 a2 a3 a4 a5 a6 a7 k, LeO (laws_FnExactUpdateBytes.f k a0 a1 a2 a3 a4 a5 a6 a7) (laws_FnExactUpdateBytes.f (k + 1) a0 a1 a2 a3 a4 a5 a6 a7) := by
 intro a0 a1 a2 a3 a4 a5 a6 a7 k
 have ih0 := laws_FnExactUpdateBytes.mono_l k
 unfold laws_FnExactUpdateBytes.f
 repeat' first
   | (with_reducible exact ih0 _ _ _ _ _ _ _ _ _ _ _ _ _ _ _ _ _)
   | (with_reducible exact impl_UpdateBytes.mono _ _ _ _ _ _ _ _ _)
   | (with_reducible exact laws_eqUpdate.mono _ _ _ _ _ _ _ _ _ _ _ _ _ _ _ _ _)
   | (with_reducible exact laws_toUpdate.mono _ _ _ _ _ _ _ _ _)
   | (with_reducible exact spec_UpdateBytes.mono _ _ _ _ _ _ _ _ _)
   | (with_reducible exact LeO.refl _)
   | (with_reducible exact LeO.none _)
   | (with_reducible refine LeO.ite ?_ ?_)
   | (with_reducible refine LeO.bind ?_ (fun _ => ?_))
   | exact ih0 _ _ _ _ _ _ _ _ _ _ _ _ _ _ _ _ _
   | exact impl_UpdateBytes.mono _ _ _ _ _ _ _ _ _
   | exact laws_eqUpdate.mono _ _ _ _ _ _ _ _ _ _ _ _ _ _ _ _ _
   | exact laws_toUpdate.mono _ _ _ _ _ _ _ _ _
   | exact spec_UpdateBytes.mono _ _ _ _ _ _ _ _ _
   | exact LeO.none _
   | refine LeO.ite ?_ ?_
   | refine LeO.bind ?_ (fun _ => ?_)
set_option maxHeartbeats 8000000 in
set_option maxRecDepth 100000 in
theorem laws_FnExactUpdateBytes.calls (k : Nat) (A0_0 : Option Addr) (c0_0 : Nat) (l0_0 : List (S32)) (a0_1 : Int) (A0_2 : Option Addr) (c0_2 : Nat) (l0_2 : List Int) (a0_3 : Int) (a0_4 : Int) (a0_5 : Int) (A0_6 : Option Addr) (c0_6 : Nat) (l0_6 : List Int) (A0_7 : Option Addr) (c0_7 : Nat) (l0_7 : List (S32)) (r : Bool) (w : World) (hr0_0 : Kd.C k32 w A0_0 l0_0.length l0_0) (hc0_0 : l0_0.length ≤ c0_0) (hr0_2 : Kd.C (Kd.int .i64) w A0_2 l0_2.length l0_2) (hc0_2 : l0_2.length ≤ c0_2) (hr0_6 : Kd.C (Kd.int .i64) w A0_6 l0_6.length l0_6) (hc0_6 : l0_6.length ≤ c0_6) (hr0_7 : Kd.C k32 w A0_7 l0_7.length l0_7) (hc0_7 : l0_7.length ≤ c0_7) (hT : r = true) (h : laws_FnExactUpdateBytes.f k l0_0 a0_1 l0_2 a0_3 a0_4 a0_5 l0_6 l0_7 = some r) :
  Calls Try.prog 8 #[.agg #[.slice A0_0 l0_0.length c0_0, .int .i64 a0_1, .slice A0_2 l0_2.length c0_2, .int .i64 a0_3, .int .i64 a0_4, .int .i64 a0_5, .slice A0_6 l0_6.length c0_6, .slice A0_7 l0_7.length c0_7]] w fun e w' => e = .returned (.bool r) ∧ Below w.heap.size w w' := by
 have hu48 := Try.underlying48
 have hu53 := Try.underlying53
 have qf := Aside0.mk hr0_0
 have HC0_0 := Aside0.mk hc0_0
 clear hr0_0 hc0_0
 have qg := Aside0.mk hr0_2
 have HC0_2 := Aside0.mk hc0_2
 clear hr0_2 hc0_2
 have qh := Aside0.mk hr0_6
 have HC0_6 := Aside0.mk hc0_6
 clear hr0_6 hc0_6
 have qi := Aside0.mk hr0_7
 have HC0_7 := Aside0.mk hc0_7
 clear hr0_7 hc0_7
 have HB := Aside0.mk (Below.refl w.heap.size w)
 have H : ((laws_szUpdate.f l0_0 a0_1 l0_2 a0_3 a0_4 a0_5 l0_6 l0_7 1048576).bind fun t309 => (if t309 < 0 then (some true) else ((laws_toUpdate.f k l0_0 a0_1 l0_2 a0_3 a0_4 a0_5 l0_6 l0_7).bind fun bt310 => ((spec_UpdateBytes.f k bt310.1 bt310.2.1 bt310.2.2.1 bt310.2.2.2.1 bt310.2.2.2.2.1 bt310.2.2.2.2.2.1 bt310.2.2.2.2.2.2.1 bt310.2.2.2.2.2.2.2).bind fun bt326 => ((laws_toUpdate.f k l0_0 a0_1 l0_2 a0_3 a0_4 a0_5 l0_6 l0_7).bind fun bt328 => ((impl_UpdateBytes.f k bt328.1 bt328.2.1 bt328.2.2.1 bt328.2.2.2.1 bt328.2.2.2.2.1 bt328.2.2.2.2.2.1 bt328.2.2.2.2.2.2.1 bt328.2.2.2.2.2.2.2).bind fun bt345 => (if bt345.1.toList = bt326.1.toList then (laws_FnExactUpdateBytes.j0 k (bt345.2 != bt326.2) l0_0 a0_1 l0_2 a0_3 a0_4 a0_5 l0_6 l0_7 bt328.1 bt328.2.1 bt328.2.2.1 bt328.2.2.2.1 bt328.2.2.2.2.1 bt328.2.2.2.2.2.1 bt328.2.2.2.2.2.2.1 bt328.2.2.2.2.2.2.2) else (laws_FnExactUpdateBytes.j0 k true l0_0 a0_1 l0_2 a0_3 a0_4 a0_5 l0_6 l0_7 bt328.1 bt328.2.1 bt328.2.2.1 bt328.2.2.2.1 bt328.2.2.2.2.1 bt328.2.2.2.2.2.1 bt328.2.2.2.2.2.2.1 bt328.2.2.2.2.2.2.2)))))))) = some r := h
 clear h
 replace H := Option.bind_eq_some_iff.mp H
 obtain ⟨t309, A20, H⟩ := H
 replace H : (if t309 < 0 then (some true) else ((laws_toUpdate.f k l0_0 a0_1 l0_2 a0_3 a0_4 a0_5 l0_6 l0_7).bind fun bt310 => ((spec_UpdateBytes.f k bt310.1 bt310.2.1 bt310.2.2.1 bt310.2.2.2.1 bt310.2.2.2.2.1 bt310.2.2.2.2.2.1 bt310.2.2.2.2.2.2.1 bt310.2.2.2.2.2.2.2).bind fun bt326 => ((laws_toUpdate.f k l0_0 a0_1 l0_2 a0_3 a0_4 a0_5 l0_6 l0_7).bind fun bt328 => ((impl_UpdateBytes.f k bt328.1 bt328.2.1 bt328.2.2.1 bt328.2.2.2.1 bt328.2.2.2.2.1 bt328.2.2.2.2.2.1 bt328.2.2.2.2.2.2.1 bt328.2.2.2.2.2.2.2).bind fun bt345 => (if bt345.1.toList = bt326.1.toList then (laws_FnExactUpdateBytes.j0 k (bt345.2 != bt326.2) l0_0 a0_1 l0_2 a0_3 a0_4 a0_5 l0_6 l0_7 bt328.1 bt328.2.1 bt328.2.2.1 bt328.2.2.2.1 bt328.2.2.2.2.1 bt328.2.2.2.2.2.1 bt328.2.2.2.2.2.2.1 bt328.2.2.2.2.2.2.2) else (laws_FnExactUpdateBytes.j0 k true l0_0 a0_1 l0_2 a0_3 a0_4 a0_5 l0_6 l0_7 bt328.1 bt328.2.1 bt328.2.2.1 bt328.2.2.2.1 bt328.2.2.2.2.1 bt328.2.2.2.2.2.1 bt328.2.2.2.2.2.2.1 bt328.2.2.2.2.2.2.2))))))) = some r := H
 have A2 := Aside0.mk A20
 clear A20
 by_cases c3 : t309 < 0
 ·
  rw [if_pos c3] at H
  have c3b0 : decide (t309 < 0) = true := decide_eq_true c3
  clear c3
  obtain rfl := Option.some.inj H
  go_enter Try.func8, Try.ntmps8
  go_wp2_with (first | ((with_reducible refine gate_dst (N := 1) rfl ?_); refine box_event ?hg (N := 1) ?hd (cs := #[.slice A0_0 l0_0.length c0_0, .int .i64 a0_1, .slice A0_2 l0_2.length c0_2, .int .i64 a0_3, .int .i64 a0_4, .int .i64 a0_5, .slice A0_6 l0_6.length c0_6, .slice A0_7 l0_7.length c0_7]) (t := 48) ?hr ?_; (case hd => rfl); (case hg => rfl); (case hr => first | (go_simp; done) | (go_simp; rfl)); intro gb308 hg w4 hbox hb; have n0_ := Aside0.mk (zB (by repeat (first | (with_reducible first | exact HB.1 | apply zi | apply zf | apply zh) | exact HB.1)) hb); have n1_ := Aside0.mk (hbox); have n2_ := Aside0.mk ((by rw [hg]; exact (zu (by repeat (first | (with_reducible first | exact HB.1 | apply zi | apply zf | apply zh) | exact HB.1))) : w.heap.size ≤ gb308)); have n3_ := Aside0.mk ((by rw [hg]; exact (zu (by repeat (first | (with_reducible first | exact HB.1 | apply zi | apply zf | apply zh) | exact HB.1))) : w.heap.size ≤ gb308)); clear HB; have HB := n0_; have zK := n1_; have GW308 := n2_; have zQ := n3_; clear n0_ n1_ n2_ n3_; clear hb hbox hg; have hcz5_0 : w4.cell? ⟨gb308, 0, none⟩ = some (.slice A0_0 l0_0.length c0_0) := (zb zK.1 0).trans rfl; have hcz5_1 : w4.cell? ⟨gb308, 1, none⟩ = some (.int .i64 a0_1) := (zb zK.1 1).trans rfl; have hcz5_2 : w4.cell? ⟨gb308, 2, none⟩ = some (.slice A0_2 l0_2.length c0_2) := (zb zK.1 2).trans rfl; have hcz5_3 : w4.cell? ⟨gb308, 3, none⟩ = some (.int .i64 a0_3) := (zb zK.1 3).trans rfl; have hcz5_4 : w4.cell? ⟨gb308, 4, none⟩ = some (.int .i64 a0_4) := (zb zK.1 4).trans rfl; have hcz5_5 : w4.cell? ⟨gb308, 5, none⟩ = some (.int .i64 a0_5) := (zb zK.1 5).trans rfl; have hcz5_6 : w4.cell? ⟨gb308, 6, none⟩ = some (.slice A0_6 l0_6.length c0_6) := (zb zK.1 6).trans rfl; have hcz5_7 : w4.cell? ⟨gb308, 7, none⟩ = some (.slice A0_7 l0_7.length c0_7) := (zb zK.1 7).trans rfl; have hfz5_0 := zg zK.1 0; have hfz5_1 := zg zK.1 1; have hfz5_2 := zg zK.1 2; have hfz5_3 := zg zK.1 3; have hfz5_4 := zg zK.1 4; have hfz5_5 := zg zK.1 5; have hfz5_6 := zg zK.1 6; have hfz5_7 := zg zK.1 7) | ((with_reducible refine gate_callee (f := 27) rfl ?_); refine goesL_ (some 11) rfl rfl Try.func27 (by kernel_rfl) rfl #[.agg #[.slice A0_0 l0_0.length c0_0, .int .i64 a0_1, .slice A0_2 l0_2.length c0_2, .int .i64 a0_3, .int .i64 a0_4, .int .i64 a0_5, .slice A0_6 l0_6.length c0_6, .slice A0_7 l0_7.length c0_7], .int .i64 1048576] rfl (by (try simp only [List.map_toArray, List.map_cons, List.map_nil]); first | done | rfl | (simp only [List.length_drop, List.length_take]; rfl)) ?_; (with_reducible refine (laws_szUpdate.calls _ _ l0_0 a0_1 _ _ l0_2 a0_3 a0_4 a0_5 _ _ l0_6 _ _ l0_7 1048576 t309 _ ?side1 ?side2 ?side3 ?side4 ?side5 ?side6 ?side7 ?side8 A2.1).mono ?_); (case side1 => repeat (first | exact (zt qf.1 HB.1) | (with_reducible refine zm ?_ _) | (with_reducible refine zl ?_ _) | (with_reducible refine zq ?_))); (case side2 => exact HC0_0.1); (case side3 => repeat (first | exact (zt qg.1 HB.1) | (with_reducible refine zm ?_ _) | (with_reducible refine zl ?_ _) | (with_reducible refine zq ?_))); (case side4 => exact HC0_2.1); (case side5 => repeat (first | exact (zt qh.1 HB.1) | (with_reducible refine zm ?_ _) | (with_reducible refine zl ?_ _) | (with_reducible refine zq ?_))); (case side6 => exact HC0_6.1); (case side7 => repeat (first | exact (zt qi.1 HB.1) | (with_reducible refine zm ?_ _) | (with_reducible refine zl ?_ _) | (with_reducible refine zq ?_))); (case side8 => exact HC0_7.1); rintro e w6 ⟨rfl, hb⟩; refine ⟨_, rfl, ?_⟩; have n0_ := Aside0.mk (zC (g := gb308) (o := .cells #[.slice A0_0 l0_0.length c0_0, .int .i64 a0_1, .slice A0_2 l0_2.length c0_2, .int .i64 a0_3, .int .i64 a0_4, .int .i64 a0_5, .slice A0_6 l0_6.length c0_6, .slice A0_7 l0_7.length c0_7] 48 (0, 0)) (by (with_reducible repeat (first | refine zn ?_ _ | refine zr ?_ | refine zo ?_ _)); exact zK.1) hb); have n1_ := Aside0.mk (zB (by repeat (first | (with_reducible first | exact HB.1 | apply zi | apply zf | apply zh | refine zk ?_ zQ.1) | exact HB.1)) hb); clear zK; clear HB; have zK := n0_; have HB := n1_; clear n0_ n1_; (try clear hb); (try clear hb2); (try clear hk); (try clear hi)))
  go_ret
  exact ⟨by first | rfl | (simp [errW_none, errW_some] <;> rfl) | (simp [*, errW_none, errW_some] <;> rfl), by repeat (first | (with_reducible first | exact HB.1 | apply zi | apply zf | apply zh | refine zk ?_ zQ.1) | exact HB.1)⟩
 ·
  rw [if_neg c3] at H
  have c3b0 : decide (t309 < 0) = false := decide_eq_false c3
  clear c3
  replace H := Option.bind_eq_some_iff.mp H
  obtain ⟨⟨t310, t313, t314, t317, t318, t319, t320, t323⟩, A70, H⟩ := H
  replace H : ((spec_UpdateBytes.f k t310 t313 t314 t317 t318 t319 t320 t323).bind fun bt326 => ((laws_toUpdate.f k l0_0 a0_1 l0_2 a0_3 a0_4 a0_5 l0_6 l0_7).bind fun bt328 => ((impl_UpdateBytes.f k bt328.1 bt328.2.1 bt328.2.2.1 bt328.2.2.2.1 bt328.2.2.2.2.1 bt328.2.2.2.2.2.1 bt328.2.2.2.2.2.2.1 bt328.2.2.2.2.2.2.2).bind fun bt345 => (if bt345.1.toList = bt326.1.toList then (laws_FnExactUpdateBytes.j0 k (bt345.2 != bt326.2) l0_0 a0_1 l0_2 a0_3 a0_4 a0_5 l0_6 l0_7 bt328.1 bt328.2.1 bt328.2.2.1 bt328.2.2.2.1 bt328.2.2.2.2.1 bt328.2.2.2.2.2.1 bt328.2.2.2.2.2.2.1 bt328.2.2.2.2.2.2.2) else (laws_FnExactUpdateBytes.j0 k true l0_0 a0_1 l0_2 a0_3 a0_4 a0_5 l0_6 l0_7 bt328.1 bt328.2.1 bt328.2.2.1 bt328.2.2.2.1 bt328.2.2.2.2.1 bt328.2.2.2.2.2.1 bt328.2.2.2.2.2.2.1 bt328.2.2.2.2.2.2.2))))) = some r := H
  have A7 := Aside0.mk A70
  clear A70
  replace H := Option.bind_eq_some_iff.mp H
  obtain ⟨⟨t326, t327⟩, A80, H⟩ := H
  replace H : ((laws_toUpdate.f k l0_0 a0_1 l0_2 a0_3 a0_4 a0_5 l0_6 l0_7).bind fun bt328 => ((impl_UpdateBytes.f k bt328.1 bt328.2.1 bt328.2.2.1 bt328.2.2.2.1 bt328.2.2.2.2.1 bt328.2.2.2.2.2.1 bt328.2.2.2.2.2.2.1 bt328.2.2.2.2.2.2.2).bind fun bt345 => (if bt345.1.toList = t326.toList then (laws_FnExactUpdateBytes.j0 k (bt345.2 != t327) l0_0 a0_1 l0_2 a0_3 a0_4 a0_5 l0_6 l0_7 bt328.1 bt328.2.1 bt328.2.2.1 bt328.2.2.2.1 bt328.2.2.2.2.1 bt328.2.2.2.2.2.1 bt328.2.2.2.2.2.2.1 bt328.2.2.2.2.2.2.2) else (laws_FnExactUpdateBytes.j0 k true l0_0 a0_1 l0_2 a0_3 a0_4 a0_5 l0_6 l0_7 bt328.1 bt328.2.1 bt328.2.2.1 bt328.2.2.2.1 bt328.2.2.2.2.1 bt328.2.2.2.2.2.1 bt328.2.2.2.2.2.2.1 bt328.2.2.2.2.2.2.2)))) = some r := H
  have A8 := Aside0.mk A80
  clear A80
  replace H := Option.bind_eq_some_iff.mp H
  obtain ⟨⟨t328, t331, t332, t335, t336, t337, t338, t341⟩, A90, H⟩ := H
  replace H : ((impl_UpdateBytes.f k t328 t331 t332 t335 t336 t337 t338 t341).bind fun bt345 => (if bt345.1.toList = t326.toList then (laws_FnExactUpdateBytes.j0 k (bt345.2 != t327) l0_0 a0_1 l0_2 a0_3 a0_4 a0_5 l0_6 l0_7 t328 t331 t332 t335 t336 t337 t338 t341) else (laws_FnExactUpdateBytes.j0 k true l0_0 a0_1 l0_2 a0_3 a0_4 a0_5 l0_6 l0_7 t328 t331 t332 t335 t336 t337 t338 t341))) = some r := H
  have A9 := Aside0.mk A90
  clear A90
  replace H := Option.bind_eq_some_iff.mp H
  obtain ⟨⟨t345, t346⟩, A100, H⟩ := H
  replace H : (if t345.toList = t326.toList then (laws_FnExactUpdateBytes.j0 k (t346 != t327) l0_0 a0_1 l0_2 a0_3 a0_4 a0_5 l0_6 l0_7 t328 t331 t332 t335 t336 t337 t338 t341) else (laws_FnExactUpdateBytes.j0 k true l0_0 a0_1 l0_2 a0_3 a0_4 a0_5 l0_6 l0_7 t328 t331 t332 t335 t336 t337 t338 t341)) = some r := H
  have A10 := Aside0.mk A100
  clear A100
  have HC11 := Aside0.mk H
  clear H
  go_enter Try.func8, Try.ntmps8
  go_upto_region 8 with (first | ((with_reducible refine gate_dst (N := 1) rfl ?_); refine box_event ?hg (N := 1) ?hd (cs := #[.slice A0_0 l0_0.length c0_0, .int .i64 a0_1, .slice A0_2 l0_2.length c0_2, .int .i64 a0_3, .int .i64 a0_4, .int .i64 a0_5, .slice A0_6 l0_6.length c0_6, .slice A0_7 l0_7.length c0_7]) (t := 48) ?hr ?_; (case hd => rfl); (case hg => rfl); (case hr => first | (go_simp; done) | (go_simp; rfl)); intro gb308 hg w12 hbox hb; have n0_ := Aside0.mk (zB (by repeat (first | (with_reducible first | exact HB.1 | apply zi | apply zf | apply zh) | exact HB.1)) hb); have n1_ := Aside0.mk (hbox); have n2_ := Aside0.mk ((by rw [hg]; exact (zu (by repeat (first | (with_reducible first | exact HB.1 | apply zi | apply zf | apply zh) | exact HB.1))) : w.heap.size ≤ gb308)); have n3_ := Aside0.mk ((by rw [hg]; exact (zu (by repeat (first | (with_reducible first | exact HB.1 | apply zi | apply zf | apply zh) | exact HB.1))) : w.heap.size ≤ gb308)); clear HB; have HB := n0_; have zK := n1_; have GW308 := n2_; have zQ := n3_; clear n0_ n1_ n2_ n3_; clear hb hbox hg; have hcz13_0 : w12.cell? ⟨gb308, 0, none⟩ = some (.slice A0_0 l0_0.length c0_0) := (zb zK.1 0).trans rfl; have hcz13_1 : w12.cell? ⟨gb308, 1, none⟩ = some (.int .i64 a0_1) := (zb zK.1 1).trans rfl; have hcz13_2 : w12.cell? ⟨gb308, 2, none⟩ = some (.slice A0_2 l0_2.length c0_2) := (zb zK.1 2).trans rfl; have hcz13_3 : w12.cell? ⟨gb308, 3, none⟩ = some (.int .i64 a0_3) := (zb zK.1 3).trans rfl; have hcz13_4 : w12.cell? ⟨gb308, 4, none⟩ = some (.int .i64 a0_4) := (zb zK.1 4).trans rfl; have hcz13_5 : w12.cell? ⟨gb308, 5, none⟩ = some (.int .i64 a0_5) := (zb zK.1 5).trans rfl; have hcz13_6 : w12.cell? ⟨gb308, 6, none⟩ = some (.slice A0_6 l0_6.length c0_6) := (zb zK.1 6).trans rfl; have hcz13_7 : w12.cell? ⟨gb308, 7, none⟩ = some (.slice A0_7 l0_7.length c0_7) := (zb zK.1 7).trans rfl; have hfz13_0 := zg zK.1 0; have hfz13_1 := zg zK.1 1; have hfz13_2 := zg zK.1 2; have hfz13_3 := zg zK.1 3; have hfz13_4 := zg zK.1 4; have hfz13_5 := zg zK.1 5; have hfz13_6 := zg zK.1 6; have hfz13_7 := zg zK.1 7) | ((with_reducible refine gate_callee (f := 27) rfl ?_); refine goesL_ (some 11) rfl rfl Try.func27 (by kernel_rfl) rfl #[.agg #[.slice A0_0 l0_0.length c0_0, .int .i64 a0_1, .slice A0_2 l0_2.length c0_2, .int .i64 a0_3, .int .i64 a0_4, .int .i64 a0_5, .slice A0_6 l0_6.length c0_6, .slice A0_7 l0_7.length c0_7], .int .i64 1048576] rfl (by (try simp only [List.map_toArray, List.map_cons, List.map_nil]); first | done | rfl | (simp only [List.length_drop, List.length_take]; rfl)) ?_; (with_reducible refine (laws_szUpdate.calls _ _ l0_0 a0_1 _ _ l0_2 a0_3 a0_4 a0_5 _ _ l0_6 _ _ l0_7 1048576 t309 _ ?side1 ?side2 ?side3 ?side4 ?side5 ?side6 ?side7 ?side8 A2.1).mono ?_); (case side1 => repeat (first | exact (zt qf.1 HB.1) | (with_reducible refine zm ?_ _) | (with_reducible refine zl ?_ _) | (with_reducible refine zq ?_))); (case side2 => exact HC0_0.1); (case side3 => repeat (first | exact (zt qg.1 HB.1) | (with_reducible refine zm ?_ _) | (with_reducible refine zl ?_ _) | (with_reducible refine zq ?_))); (case side4 => exact HC0_2.1); (case side5 => repeat (first | exact (zt qh.1 HB.1) | (with_reducible refine zm ?_ _) | (with_reducible refine zl ?_ _) | (with_reducible refine zq ?_))); (case side6 => exact HC0_6.1); (case side7 => repeat (first | exact (zt qi.1 HB.1) | (with_reducible refine zm ?_ _) | (with_reducible refine zl ?_ _) | (with_reducible refine zq ?_))); (case side8 => exact HC0_7.1); rintro e w14 ⟨rfl, hb⟩; refine ⟨_, rfl, ?_⟩; have n0_ := Aside0.mk (zC (g := gb308) (o := .cells #[.slice A0_0 l0_0.length c0_0, .int .i64 a0_1, .slice A0_2 l0_2.length c0_2, .int .i64 a0_3, .int .i64 a0_4, .int .i64 a0_5, .slice A0_6 l0_6.length c0_6, .slice A0_7 l0_7.length c0_7] 48 (0, 0)) (by (with_reducible repeat (first | refine zn ?_ _ | refine zr ?_ | refine zo ?_ _)); exact zK.1) hb); have n1_ := Aside0.mk (zB (by repeat (first | (with_reducible first | exact HB.1 | apply zi | apply zf | apply zh | refine zk ?_ zQ.1) | exact HB.1)) hb); clear zK; clear HB; have zK := n0_; have HB := n1_; clear n0_ n1_; (try clear hb); (try clear hb2); (try clear hk); (try clear hi); have hcz15_0 : w14.cell? ⟨gb308, 0, none⟩ = some (.slice A0_0 l0_0.length c0_0) := (zb zK.1 0).trans rfl; have hcz15_1 : w14.cell? ⟨gb308, 1, none⟩ = some (.int .i64 a0_1) := (zb zK.1 1).trans rfl; have hcz15_2 : w14.cell? ⟨gb308, 2, none⟩ = some (.slice A0_2 l0_2.length c0_2) := (zb zK.1 2).trans rfl; have hcz15_3 : w14.cell? ⟨gb308, 3, none⟩ = some (.int .i64 a0_3) := (zb zK.1 3).trans rfl; have hcz15_4 : w14.cell? ⟨gb308, 4, none⟩ = some (.int .i64 a0_4) := (zb zK.1 4).trans rfl; have hcz15_5 : w14.cell? ⟨gb308, 5, none⟩ = some (.int .i64 a0_5) := (zb zK.1 5).trans rfl; have hcz15_6 : w14.cell? ⟨gb308, 6, none⟩ = some (.slice A0_6 l0_6.length c0_6) := (zb zK.1 6).trans rfl; have hcz15_7 : w14.cell? ⟨gb308, 7, none⟩ = some (.slice A0_7 l0_7.length c0_7) := (zb zK.1 7).trans rfl; have hfz15_0 := zg zK.1 0; have hfz15_1 := zg zK.1 1; have hfz15_2 := zg zK.1 2; have hfz15_3 := zg zK.1 3; have hfz15_4 := zg zK.1 4; have hfz15_5 := zg zK.1 5; have hfz15_6 := zg zK.1 6; have hfz15_7 := zg zK.1 7) | ((with_reducible refine gate_callee (f := 29) rfl ?_); refine goesL_ (some 16) rfl rfl Try.func29 (by kernel_rfl) rfl #[.agg #[.slice A0_0 l0_0.length c0_0, .int .i64 a0_1, .slice A0_2 l0_2.length c0_2, .int .i64 a0_3, .int .i64 a0_4, .int .i64 a0_5, .slice A0_6 l0_6.length c0_6, .slice A0_7 l0_7.length c0_7]] rfl (by (try simp only [List.map_toArray, List.map_cons, List.map_nil]); first | done | rfl | (simp only [List.length_drop, List.length_take]; rfl)) ?_; (with_reducible refine (laws_toUpdate.calls k _ _ l0_0 a0_1 _ _ l0_2 a0_3 a0_4 a0_5 _ _ l0_6 _ _ l0_7 t310 t313 t314 t317 t318 t319 t320 t323 _ ?side1 ?side2 ?side3 ?side4 ?side5 ?side6 ?side7 ?side8 A7.1).mono ?_); (case side1 => repeat (first | exact (zt qf.1 HB.1) | (with_reducible refine zm ?_ _) | (with_reducible refine zl ?_ _) | (with_reducible refine zq ?_))); (case side2 => exact HC0_0.1); (case side3 => repeat (first | exact (zt qg.1 HB.1) | (with_reducible refine zm ?_ _) | (with_reducible refine zl ?_ _) | (with_reducible refine zq ?_))); (case side4 => exact HC0_2.1); (case side5 => repeat (first | exact (zt qh.1 HB.1) | (with_reducible refine zm ?_ _) | (with_reducible refine zl ?_ _) | (with_reducible refine zq ?_))); (case side6 => exact HC0_6.1); (case side7 => repeat (first | exact (zt qi.1 HB.1) | (with_reducible refine zm ?_ _) | (with_reducible refine zl ?_ _) | (with_reducible refine zq ?_))); (case side8 => exact HC0_7.1); rintro e w16 ⟨v311, v315, v321, v324, rfl, ho0, ho1, ho2, ho3, hb⟩; refine ⟨_, rfl, ?_⟩; have n0_ := Aside0.mk (zA ho0 (zu (by repeat (first | (with_reducible first | exact HB.1 | apply zi | apply zf | apply zh | refine zk ?_ zQ.1) | exact HB.1)))); have n1_ := Aside0.mk (zA ho1 (zu (by repeat (first | (with_reducible first | exact HB.1 | apply zi | apply zf | apply zh | refine zk ?_ zQ.1) | exact HB.1)))); have n2_ := Aside0.mk (zA ho2 (zu (by repeat (first | (with_reducible first | exact HB.1 | apply zi | apply zf | apply zh | refine zk ?_ zQ.1) | exact HB.1)))); have n3_ := Aside0.mk (zA ho3 (zu (by repeat (first | (with_reducible first | exact HB.1 | apply zi | apply zf | apply zh | refine zk ?_ zQ.1) | exact HB.1)))); have n4_ := Aside0.mk (zC (g := gb308) (o := .cells #[.slice A0_0 l0_0.length c0_0, .int .i64 a0_1, .slice A0_2 l0_2.length c0_2, .int .i64 a0_3, .int .i64 a0_4, .int .i64 a0_5, .slice A0_6 l0_6.length c0_6, .slice A0_7 l0_7.length c0_7] 48 (0, 0)) (by (with_reducible repeat (first | refine zn ?_ _ | refine zr ?_ | refine zo ?_ _)); exact zK.1) hb); have n5_ := Aside0.mk (zB (by repeat (first | (with_reducible first | exact HB.1 | apply zi | apply zf | apply zh | refine zk ?_ zQ.1) | exact HB.1)) hb); clear zK; clear HB; have zS := n0_; have zT := n1_; have zU := n2_; have zV := n3_; have zK := n4_; have HB := n5_; clear n0_ n1_ n2_ n3_ n4_ n5_; (try clear hb); (try clear hb2); (try clear hk); (try clear hi); (try clear ho0); (try clear ho1); (try clear ho2); (try clear ho3); obtain ⟨Ao17, co17, eo17⟩ := zz zS.1; subst eo17; obtain ⟨Ao18, co18, eo18⟩ := zz zT.1; subst eo18; obtain ⟨Ao19, co19, eo19⟩ := zz zU.1; subst eo19; obtain ⟨Ao20, co20, eo20⟩ := zz zV.1; subst eo20) | ((with_reducible refine gate_callee (f := 32) rfl ?_); refine goesL_ (some 17) rfl rfl Try.func32 (by kernel_rfl) rfl #[.agg #[.slice Ao17 t310.length co17, .int .i64 t313, .slice Ao18 t314.length co18, .int .i64 t317, .int .i64 t318, .int .i64 t319, .slice Ao19 t320.length co19, .slice Ao20 t323.length co20]] rfl (by (try simp only [List.map_toArray, List.map_cons, List.map_nil]); first | done | rfl | (simp only [List.length_drop, List.length_take]; rfl)) ?_; (with_reducible refine (spec_UpdateBytes.calls k _ _ t310 t313 _ _ t314 t317 t318 t319 _ _ t320 _ _ t323 t326 t327 _ ?side1 ?side2 ?side3 ?side4 ?side5 ?side6 ?side7 ?side8 A8.1).mono ?_); (case side1 => repeat (first | exact (zj zS.1).2.2 | (with_reducible refine zm ?_ _) | (with_reducible refine zl ?_ _) | (with_reducible refine zq ?_))); (case side2 => exact (zj zS.1).2.1); (case side3 => repeat (first | exact (zj zT.1).2.2 | (with_reducible refine zm ?_ _) | (with_reducible refine zl ?_ _) | (with_reducible refine zq ?_))); (case side4 => exact (zj zT.1).2.1); (case side5 => repeat (first | exact (zj zU.1).2.2 | (with_reducible refine zm ?_ _) | (with_reducible refine zl ?_ _) | (with_reducible refine zq ?_))); (case side6 => exact (zj zU.1).2.1); (case side7 => repeat (first | exact (zj zV.1).2.2 | (with_reducible refine zm ?_ _) | (with_reducible refine zl ?_ _) | (with_reducible refine zq ?_))); (case side8 => exact (zj zV.1).2.1); rintro e w21 ⟨rfl, hb⟩; refine ⟨_, rfl, ?_⟩; have n0_ := Aside0.mk (zp (by (with_reducible repeat (first | apply zd | apply zc | apply ze)); exact zS.1) hb); have n1_ := Aside0.mk (zp (by (with_reducible repeat (first | apply zd | apply zc | apply ze)); exact zT.1) hb); have n2_ := Aside0.mk (zp (by (with_reducible repeat (first | apply zd | apply zc | apply ze)); exact zU.1) hb); have n3_ := Aside0.mk (zp (by (with_reducible repeat (first | apply zd | apply zc | apply ze)); exact zV.1) hb); have n4_ := Aside0.mk (zC (g := gb308) (o := .cells #[.slice A0_0 l0_0.length c0_0, .int .i64 a0_1, .slice A0_2 l0_2.length c0_2, .int .i64 a0_3, .int .i64 a0_4, .int .i64 a0_5, .slice A0_6 l0_6.length c0_6, .slice A0_7 l0_7.length c0_7] 48 (0, 0)) (by (with_reducible repeat (first | refine zn ?_ _ | refine zr ?_ | refine zo ?_ _)); exact zK.1) hb); have n5_ := Aside0.mk (zB (by repeat (first | (with_reducible first | exact HB.1 | apply zi | apply zf | apply zh | refine zk ?_ zQ.1) | exact HB.1)) hb); clear zS; clear zT; clear zU; clear zV; clear zK; clear HB; have zS := n0_; have zT := n1_; have zU := n2_; have zV := n3_; have zK := n4_; have HB := n5_; clear n0_ n1_ n2_ n3_ n4_ n5_; (try clear hb); (try clear hb2); (try clear hk); (try clear hi); have hcz22_0 : w21.cell? ⟨gb308, 0, none⟩ = some (.slice A0_0 l0_0.length c0_0) := (zb zK.1 0).trans rfl; have hcz22_1 : w21.cell? ⟨gb308, 1, none⟩ = some (.int .i64 a0_1) := (zb zK.1 1).trans rfl; have hcz22_2 : w21.cell? ⟨gb308, 2, none⟩ = some (.slice A0_2 l0_2.length c0_2) := (zb zK.1 2).trans rfl; have hcz22_3 : w21.cell? ⟨gb308, 3, none⟩ = some (.int .i64 a0_3) := (zb zK.1 3).trans rfl; have hcz22_4 : w21.cell? ⟨gb308, 4, none⟩ = some (.int .i64 a0_4) := (zb zK.1 4).trans rfl; have hcz22_5 : w21.cell? ⟨gb308, 5, none⟩ = some (.int .i64 a0_5) := (zb zK.1 5).trans rfl; have hcz22_6 : w21.cell? ⟨gb308, 6, none⟩ = some (.slice A0_6 l0_6.length c0_6) := (zb zK.1 6).trans rfl; have hcz22_7 : w21.cell? ⟨gb308, 7, none⟩ = some (.slice A0_7 l0_7.length c0_7) := (zb zK.1 7).trans rfl; have hfz22_0 := zg zK.1 0; have hfz22_1 := zg zK.1 1; have hfz22_2 := zg zK.1 2; have hfz22_3 := zg zK.1 3; have hfz22_4 := zg zK.1 4; have hfz22_5 := zg zK.1 5; have hfz22_6 := zg zK.1 6; have hfz22_7 := zg zK.1 7) | ((with_reducible refine gate_callee (f := 29) rfl ?_); refine goesL_ (some 21) rfl rfl Try.func29 (by kernel_rfl) rfl #[.agg #[.slice A0_0 l0_0.length c0_0, .int .i64 a0_1, .slice A0_2 l0_2.length c0_2, .int .i64 a0_3, .int .i64 a0_4, .int .i64 a0_5, .slice A0_6 l0_6.length c0_6, .slice A0_7 l0_7.length c0_7]] rfl (by (try simp only [List.map_toArray, List.map_cons, List.map_nil]); first | done | rfl | (simp only [List.length_drop, List.length_take]; rfl)) ?_; (with_reducible refine (laws_toUpdate.calls k _ _ l0_0 a0_1 _ _ l0_2 a0_3 a0_4 a0_5 _ _ l0_6 _ _ l0_7 t328 t331 t332 t335 t336 t337 t338 t341 _ ?side1 ?side2 ?side3 ?side4 ?side5 ?side6 ?side7 ?side8 A9.1).mono ?_); (case side1 => repeat (first | exact (zt qf.1 HB.1) | (with_reducible refine zm ?_ _) | (with_reducible refine zl ?_ _) | (with_reducible refine zq ?_))); (case side2 => exact HC0_0.1); (case side3 => repeat (first | exact (zt qg.1 HB.1) | (with_reducible refine zm ?_ _) | (with_reducible refine zl ?_ _) | (with_reducible refine zq ?_))); (case side4 => exact HC0_2.1); (case side5 => repeat (first | exact (zt qh.1 HB.1) | (with_reducible refine zm ?_ _) | (with_reducible refine zl ?_ _) | (with_reducible refine zq ?_))); (case side6 => exact HC0_6.1); (case side7 => repeat (first | exact (zt qi.1 HB.1) | (with_reducible refine zm ?_ _) | (with_reducible refine zl ?_ _) | (with_reducible refine zq ?_))); (case side8 => exact HC0_7.1); rintro e w23 ⟨v329, v333, v339, v342, rfl, ho0, ho1, ho2, ho3, hb⟩; refine ⟨_, rfl, ?_⟩; have n0_ := Aside0.mk (zs (zv (zv (zE (by (with_reducible repeat (first | apply zd | apply zc | apply ze)); exact zS.1) hb) (zx ho0)) (zx ho3)) (fun _ h_ => h_.1)); have n1_ := Aside0.mk (zs (zv (zv (zE (by (with_reducible repeat (first | apply zd | apply zc | apply ze)); exact zT.1) hb) (zx ho1)) (zx ho2)) (fun _ h_ => h_.1)); have n2_ := Aside0.mk (zs (zv (zv (zE (by (with_reducible repeat (first | apply zd | apply zc | apply ze)); exact zU.1) hb) (zx ho1)) (zx ho2)) (fun _ h_ => h_.1)); have n3_ := Aside0.mk (zs (zv (zv (zE (by (with_reducible repeat (first | apply zd | apply zc | apply ze)); exact zV.1) hb) (zx ho0)) (zx ho3)) (fun _ h_ => h_.1)); have n4_ := Aside0.mk (zA (zw (zw ho0 (zD (by (with_reducible repeat (first | apply zd | apply zc | apply ze)); exact zS.1))) (zD (by (with_reducible repeat (first | apply zd | apply zc | apply ze)); exact zV.1))) (zu (by repeat (first | (with_reducible first | exact HB.1 | apply zi | apply zf | apply zh | refine zk ?_ zQ.1) | exact HB.1)))); have n5_ := Aside0.mk (zA (zw (zw ho1 (zD (by (with_reducible repeat (first | apply zd | apply zc | apply ze)); exact zT.1))) (zD (by (with_reducible repeat (first | apply zd | apply zc | apply ze)); exact zU.1))) (zu (by repeat (first | (with_reducible first | exact HB.1 | apply zi | apply zf | apply zh | refine zk ?_ zQ.1) | exact HB.1)))); have n6_ := Aside0.mk (zA (zw (zw ho2 (zD (by (with_reducible repeat (first | apply zd | apply zc | apply ze)); exact zT.1))) (zD (by (with_reducible repeat (first | apply zd | apply zc | apply ze)); exact zU.1))) (zu (by repeat (first | (with_reducible first | exact HB.1 | apply zi | apply zf | apply zh | refine zk ?_ zQ.1) | exact HB.1)))); have n7_ := Aside0.mk (zA (zw (zw ho3 (zD (by (with_reducible repeat (first | apply zd | apply zc | apply ze)); exact zS.1))) (zD (by (with_reducible repeat (first | apply zd | apply zc | apply ze)); exact zV.1))) (zu (by repeat (first | (with_reducible first | exact HB.1 | apply zi | apply zf | apply zh | refine zk ?_ zQ.1) | exact HB.1)))); have n8_ := Aside0.mk (zC (g := gb308) (o := .cells #[.slice A0_0 l0_0.length c0_0, .int .i64 a0_1, .slice A0_2 l0_2.length c0_2, .int .i64 a0_3, .int .i64 a0_4, .int .i64 a0_5, .slice A0_6 l0_6.length c0_6, .slice A0_7 l0_7.length c0_7] 48 (0, 0)) (by (with_reducible repeat (first | refine zn ?_ _ | refine zr ?_ | refine zo ?_ _)); exact zK.1) hb); have n9_ := Aside0.mk (zB (by repeat (first | (with_reducible first | exact HB.1 | apply zi | apply zf | apply zh | refine zk ?_ zQ.1) | exact HB.1)) hb); clear zS; clear zT; clear zU; clear zV; clear zK; clear HB; have zS := n0_; have zT := n1_; have zU := n2_; have zV := n3_; have zW := n4_; have zX := n5_; have zY := n6_; have zZ := n7_; have zK := n8_; have HB := n9_; clear n0_ n1_ n2_ n3_ n4_ n5_ n6_ n7_ n8_ n9_; (try clear hb); (try clear hb2); (try clear hk); (try clear hi); (try clear ho0); (try clear ho1); (try clear ho2); (try clear ho3)) | ((with_reducible refine gate_dst (N := 6) rfl ?_); refine box_event ?hg (N := 6) ?hd (cs := #[.slice none 0 0, .int .i64 0, .slice none 0 0, .int .i64 0, .int .i64 0, .int .i64 0, .slice none 0 0, .slice none 0 0]) (t := 53) ?hr ?_; (case hd => rfl); (case hg => rfl); (case hr => first | (go_simp; done) | (go_simp; rfl)); intro gb344 hg w24 hbox hb; have n0_ := Aside0.mk (zp (by (with_reducible repeat (first | apply zd | apply zc | apply ze)); exact zS.1) hb); have n1_ := Aside0.mk (zp (by (with_reducible repeat (first | apply zd | apply zc | apply ze)); exact zT.1) hb); have n2_ := Aside0.mk (zp (by (with_reducible repeat (first | apply zd | apply zc | apply ze)); exact zU.1) hb); have n3_ := Aside0.mk (zp (by (with_reducible repeat (first | apply zd | apply zc | apply ze)); exact zV.1) hb); have n4_ := Aside0.mk (zp (by (with_reducible repeat (first | apply zd | apply zc | apply ze)); exact zW.1) hb); have n5_ := Aside0.mk (zp (by (with_reducible repeat (first | apply zd | apply zc | apply ze)); exact zX.1) hb); have n6_ := Aside0.mk (zp (by (with_reducible repeat (first | apply zd | apply zc | apply ze)); exact zY.1) hb); have n7_ := Aside0.mk (zp (by (with_reducible repeat (first | apply zd | apply zc | apply ze)); exact zZ.1) hb); have n8_ := Aside0.mk (zC (g := gb308) (o := .cells #[.slice A0_0 l0_0.length c0_0, .int .i64 a0_1, .slice A0_2 l0_2.length c0_2, .int .i64 a0_3, .int .i64 a0_4, .int .i64 a0_5, .slice A0_6 l0_6.length c0_6, .slice A0_7 l0_7.length c0_7] 48 (0, 0)) (by (with_reducible repeat (first | refine zn ?_ _ | refine zr ?_ | refine zo ?_ _)); exact zK.1) hb); have n9_ := Aside0.mk (zB (by repeat (first | (with_reducible first | exact HB.1 | apply zi | apply zf | apply zh | refine zk ?_ zQ.1) | exact HB.1)) hb); have n10_ := Aside0.mk (hbox); have n11_ := Aside0.mk ((by rw [hg]; exact (zu (by repeat (first | (with_reducible first | exact HB.1 | apply zi | apply zf | apply zh | refine zk ?_ zQ.1) | exact HB.1))) : w.heap.size ≤ gb344)); have n12_ := Aside0.mk ((by rw [hg]; exact (zu (by repeat (first | (with_reducible first | exact HB.1 | apply zi | apply zf | apply zh | refine zk ?_ zQ.1) | exact HB.1))) : w.heap.size ≤ gb344)); have n13_ := Aside0.mk ((by rw [hg]; exact Nat.ne_of_lt (blk_lt (g := gb308) (o := .cells #[.slice A0_0 l0_0.length c0_0, .int .i64 a0_1, .slice A0_2 l0_2.length c0_2, .int .i64 a0_3, .int .i64 a0_4, .int .i64 a0_5, .slice A0_6 l0_6.length c0_6, .slice A0_7 l0_7.length c0_7] 48 (0, 0)) (by (with_reducible repeat (first | refine zn ?_ _ | refine zr ?_ | refine zo ?_ _)); exact zK.1)) : gb308 ≠ gb344)); have n14_ := Aside0.mk ((by rw [hg]; exact Nat.ne_of_gt (blk_lt (g := gb308) (o := .cells #[.slice A0_0 l0_0.length c0_0, .int .i64 a0_1, .slice A0_2 l0_2.length c0_2, .int .i64 a0_3, .int .i64 a0_4, .int .i64 a0_5, .slice A0_6 l0_6.length c0_6, .slice A0_7 l0_7.length c0_7] 48 (0, 0)) (by (with_reducible repeat (first | refine zn ?_ _ | refine zr ?_ | refine zo ?_ _)); exact zK.1)) : gb344 ≠ gb308)); clear zS; clear zT; clear zU; clear zV; clear zW; clear zX; clear zY; clear zZ; clear zK; clear HB; have zS := n0_; have zT := n1_; have zU := n2_; have zV := n3_; have zW := n4_; have zX := n5_; have zY := n6_; have zZ := n7_; have zK := n8_; have HB := n9_; have zL := n10_; have GW344 := n11_; have qa := n12_; have zR := n13_; have NB344_308 := n14_; clear n0_ n1_ n2_ n3_ n4_ n5_ n6_ n7_ n8_ n9_ n10_ n11_ n12_ n13_ n14_; clear hb hbox hg; obtain ⟨Ao25, co25, eo25⟩ := zz zW.1; subst eo25; have hnb26 := NB344_308.1; have hnc26 := zR.1; have hcz27_0 : w24.cell? ⟨gb344, 0, none⟩ = some (.slice none 0 0) := (zb zL.1 0).trans rfl; have hcz27_1 : w24.cell? ⟨gb344, 1, none⟩ = some (.int .i64 0) := (zb zL.1 1).trans rfl; have hcz27_2 : w24.cell? ⟨gb344, 2, none⟩ = some (.slice none 0 0) := (zb zL.1 2).trans rfl; have hcz27_3 : w24.cell? ⟨gb344, 3, none⟩ = some (.int .i64 0) := (zb zL.1 3).trans rfl; have hcz27_4 : w24.cell? ⟨gb344, 4, none⟩ = some (.int .i64 0) := (zb zL.1 4).trans rfl; have hcz27_5 : w24.cell? ⟨gb344, 5, none⟩ = some (.int .i64 0) := (zb zL.1 5).trans rfl; have hcz27_6 : w24.cell? ⟨gb344, 6, none⟩ = some (.slice none 0 0) := (zb zL.1 6).trans rfl; have hcz27_7 : w24.cell? ⟨gb344, 7, none⟩ = some (.slice none 0 0) := (zb zL.1 7).trans rfl; have hfz27_0 := zg zL.1 0; have hfz27_1 := zg zL.1 1; have hfz27_2 := zg zL.1 2; have hfz27_3 := zg zL.1 3; have hfz27_4 := zg zL.1 4; have hfz27_5 := zg zL.1 5; have hfz27_6 := zg zL.1 6; have hfz27_7 := zg zL.1 7; obtain ⟨Ao28, co28, eo28⟩ := zz zX.1; subst eo28; obtain ⟨Ao29, co29, eo29⟩ := zz zY.1; subst eo29; obtain ⟨Ao30, co30, eo30⟩ := zz zZ.1; subst eo30) | ((with_reducible refine gate_callee (f := 33) rfl ?_); refine goesL_ (some 24) rfl rfl Try.func33 (by kernel_rfl) rfl #[.agg #[.slice Ao25 t328.length co25, .int .i64 t331, .slice Ao28 t332.length co28, .int .i64 t335, .int .i64 t336, .int .i64 t337, .slice Ao29 t338.length co29, .slice Ao30 t341.length co30]] rfl (by (try simp only [List.map_toArray, List.map_cons, List.map_nil]); first | done | rfl | (simp only [List.length_drop, List.length_take]; rfl)) ?_; (with_reducible refine (impl_UpdateBytes.calls k _ _ t328 t331 _ _ t332 t335 t336 t337 _ _ t338 _ _ t341 t345 t346 _ ?side1 ?side2 ?side3 ?side4 ?side5 ?side6 ?side7 ?side8 A10.1).mono ?_); (case side1 => refine (zj (e := 35) (base := w.heap.size) (ok := fun k_ => ((some k_ ≠ (.slice Ao30 t341.length co30 : Value).ownBlock ∧ some k_ ≠ (.slice Ao17 t310.length co17 : Value).ownBlock) ∧ some k_ ≠ (.slice Ao20 t323.length co20 : Value).ownBlock)) (n := t328.length) (c := co25) ?_).2.2; exact (by (with_reducible repeat (first | apply zd | apply zc | apply ze)); exact (zs (za (p := ⟨gb344, 7, none⟩) (za (p := ⟨gb344, 6, none⟩) (za (p := ⟨gb344, 5, none⟩) (za (p := ⟨gb344, 4, none⟩) (za (p := ⟨gb344, 3, none⟩) (za (p := ⟨gb344, 2, none⟩) (za (p := ⟨gb344, 1, none⟩) (za (p := ⟨gb344, 0, none⟩) (zy zW.1 zL.1 (by decide)) (fun _ hk => hk.2) (.slice Ao25 t328.length co25)) (fun _ hk => hk.2) (.int .i64 t331)) (fun _ hk => hk.2) (.slice Ao28 t332.length co28)) (fun _ hk => hk.2) (.int .i64 t335)) (fun _ hk => hk.2) (.int .i64 t336)) (fun _ hk => hk.2) (.int .i64 t337)) (fun _ hk => hk.2) (.slice Ao29 t338.length co29)) (fun _ hk => hk.2) (.slice Ao30 t341.length co30)) (fun _ h_ => h_.1)))); (case side2 => exact (zj zW.1).2.1); (case side3 => refine (zj (e := 3) (base := w.heap.size) (ok := fun k_ => ((some k_ ≠ (.slice Ao29 t338.length co29 : Value).ownBlock ∧ some k_ ≠ (.slice Ao18 t314.length co18 : Value).ownBlock) ∧ some k_ ≠ (.slice Ao19 t320.length co19 : Value).ownBlock)) (n := t332.length) (c := co28) ?_).2.2; exact (by (with_reducible repeat (first | apply zd | apply zc | apply ze)); exact (zs (za (p := ⟨gb344, 7, none⟩) (za (p := ⟨gb344, 6, none⟩) (za (p := ⟨gb344, 5, none⟩) (za (p := ⟨gb344, 4, none⟩) (za (p := ⟨gb344, 3, none⟩) (za (p := ⟨gb344, 2, none⟩) (za (p := ⟨gb344, 1, none⟩) (za (p := ⟨gb344, 0, none⟩) (zy zX.1 zL.1 (by decide)) (fun _ hk => hk.2) (.slice Ao25 t328.length co25)) (fun _ hk => hk.2) (.int .i64 t331)) (fun _ hk => hk.2) (.slice Ao28 t332.length co28)) (fun _ hk => hk.2) (.int .i64 t335)) (fun _ hk => hk.2) (.int .i64 t336)) (fun _ hk => hk.2) (.int .i64 t337)) (fun _ hk => hk.2) (.slice Ao29 t338.length co29)) (fun _ hk => hk.2) (.slice Ao30 t341.length co30)) (fun _ h_ => h_.1)))); (case side4 => exact (zj zX.1).2.1); (case side5 => refine (zj (e := 3) (base := w.heap.size) (ok := fun k_ => ((some k_ ≠ (.slice Ao28 t332.length co28 : Value).ownBlock ∧ some k_ ≠ (.slice Ao18 t314.length co18 : Value).ownBlock) ∧ some k_ ≠ (.slice Ao19 t320.length co19 : Value).ownBlock)) (n := t338.length) (c := co29) ?_).2.2; exact (by (with_reducible repeat (first | apply zd | apply zc | apply ze)); exact (zs (za (p := ⟨gb344, 7, none⟩) (za (p := ⟨gb344, 6, none⟩) (za (p := ⟨gb344, 5, none⟩) (za (p := ⟨gb344, 4, none⟩) (za (p := ⟨gb344, 3, none⟩) (za (p := ⟨gb344, 2, none⟩) (za (p := ⟨gb344, 1, none⟩) (za (p := ⟨gb344, 0, none⟩) (zy zY.1 zL.1 (by decide)) (fun _ hk => hk.2) (.slice Ao25 t328.length co25)) (fun _ hk => hk.2) (.int .i64 t331)) (fun _ hk => hk.2) (.slice Ao28 t332.length co28)) (fun _ hk => hk.2) (.int .i64 t335)) (fun _ hk => hk.2) (.int .i64 t336)) (fun _ hk => hk.2) (.int .i64 t337)) (fun _ hk => hk.2) (.slice Ao29 t338.length co29)) (fun _ hk => hk.2) (.slice Ao30 t341.length co30)) (fun _ h_ => h_.1)))); (case side6 => exact (zj zY.1).2.1); (case side7 => refine (zj (e := 35) (base := w.heap.size) (ok := fun k_ => ((some k_ ≠ (.slice Ao25 t328.length co25 : Value).ownBlock ∧ some k_ ≠ (.slice Ao17 t310.length co17 : Value).ownBlock) ∧ some k_ ≠ (.slice Ao20 t323.length co20 : Value).ownBlock)) (n := t341.length) (c := co30) ?_).2.2; exact (by (with_reducible repeat (first | apply zd | apply zc | apply ze)); exact (zs (za (p := ⟨gb344, 7, none⟩) (za (p := ⟨gb344, 6, none⟩) (za (p := ⟨gb344, 5, none⟩) (za (p := ⟨gb344, 4, none⟩) (za (p := ⟨gb344, 3, none⟩) (za (p := ⟨gb344, 2, none⟩) (za (p := ⟨gb344, 1, none⟩) (za (p := ⟨gb344, 0, none⟩) (zy zZ.1 zL.1 (by decide)) (fun _ hk => hk.2) (.slice Ao25 t328.length co25)) (fun _ hk => hk.2) (.int .i64 t331)) (fun _ hk => hk.2) (.slice Ao28 t332.length co28)) (fun _ hk => hk.2) (.int .i64 t335)) (fun _ hk => hk.2) (.int .i64 t336)) (fun _ hk => hk.2) (.int .i64 t337)) (fun _ hk => hk.2) (.slice Ao29 t338.length co29)) (fun _ hk => hk.2) (.slice Ao30 t341.length co30)) (fun _ h_ => h_.1)))); (case side8 => exact (zj zZ.1).2.1); rintro e w31 ⟨rfl, hb⟩; refine ⟨_, rfl, ?_⟩; have n0_ := Aside0.mk (zp (by (with_reducible repeat (first | apply zd | apply zc | apply ze)); exact (zs (za (p := ⟨gb344, 7, none⟩) (za (p := ⟨gb344, 6, none⟩) (za (p := ⟨gb344, 5, none⟩) (za (p := ⟨gb344, 4, none⟩) (za (p := ⟨gb344, 3, none⟩) (za (p := ⟨gb344, 2, none⟩) (za (p := ⟨gb344, 1, none⟩) (za (p := ⟨gb344, 0, none⟩) (zy zS.1 zL.1 (by decide)) (fun _ hk => hk.2) (.slice Ao25 t328.length co25)) (fun _ hk => hk.2) (.int .i64 t331)) (fun _ hk => hk.2) (.slice Ao28 t332.length co28)) (fun _ hk => hk.2) (.int .i64 t335)) (fun _ hk => hk.2) (.int .i64 t336)) (fun _ hk => hk.2) (.int .i64 t337)) (fun _ hk => hk.2) (.slice Ao29 t338.length co29)) (fun _ hk => hk.2) (.slice Ao30 t341.length co30)) (fun _ h_ => h_.1))) hb); have n1_ := Aside0.mk (zp (by (with_reducible repeat (first | apply zd | apply zc | apply ze)); exact (zs (za (p := ⟨gb344, 7, none⟩) (za (p := ⟨gb344, 6, none⟩) (za (p := ⟨gb344, 5, none⟩) (za (p := ⟨gb344, 4, none⟩) (za (p := ⟨gb344, 3, none⟩) (za (p := ⟨gb344, 2, none⟩) (za (p := ⟨gb344, 1, none⟩) (za (p := ⟨gb344, 0, none⟩) (zy zT.1 zL.1 (by decide)) (fun _ hk => hk.2) (.slice Ao25 t328.length co25)) (fun _ hk => hk.2) (.int .i64 t331)) (fun _ hk => hk.2) (.slice Ao28 t332.length co28)) (fun _ hk => hk.2) (.int .i64 t335)) (fun _ hk => hk.2) (.int .i64 t336)) (fun _ hk => hk.2) (.int .i64 t337)) (fun _ hk => hk.2) (.slice Ao29 t338.length co29)) (fun _ hk => hk.2) (.slice Ao30 t341.length co30)) (fun _ h_ => h_.1))) hb); have n2_ := Aside0.mk (zp (by (with_reducible repeat (first | apply zd | apply zc | apply ze)); exact (zs (za (p := ⟨gb344, 7, none⟩) (za (p := ⟨gb344, 6, none⟩) (za (p := ⟨gb344, 5, none⟩) (za (p := ⟨gb344, 4, none⟩) (za (p := ⟨gb344, 3, none⟩) (za (p := ⟨gb344, 2, none⟩) (za (p := ⟨gb344, 1, none⟩) (za (p := ⟨gb344, 0, none⟩) (zy zU.1 zL.1 (by decide)) (fun _ hk => hk.2) (.slice Ao25 t328.length co25)) (fun _ hk => hk.2) (.int .i64 t331)) (fun _ hk => hk.2) (.slice Ao28 t332.length co28)) (fun _ hk => hk.2) (.int .i64 t335)) (fun _ hk => hk.2) (.int .i64 t336)) (fun _ hk => hk.2) (.int .i64 t337)) (fun _ hk => hk.2) (.slice Ao29 t338.length co29)) (fun _ hk => hk.2) (.slice Ao30 t341.length co30)) (fun _ h_ => h_.1))) hb); have n3_ := Aside0.mk (zp (by (with_reducible repeat (first | apply zd | apply zc | apply ze)); exact (zs (za (p := ⟨gb344, 7, none⟩) (za (p := ⟨gb344, 6, none⟩) (za (p := ⟨gb344, 5, none⟩) (za (p := ⟨gb344, 4, none⟩) (za (p := ⟨gb344, 3, none⟩) (za (p := ⟨gb344, 2, none⟩) (za (p := ⟨gb344, 1, none⟩) (za (p := ⟨gb344, 0, none⟩) (zy zV.1 zL.1 (by decide)) (fun _ hk => hk.2) (.slice Ao25 t328.length co25)) (fun _ hk => hk.2) (.int .i64 t331)) (fun _ hk => hk.2) (.slice Ao28 t332.length co28)) (fun _ hk => hk.2) (.int .i64 t335)) (fun _ hk => hk.2) (.int .i64 t336)) (fun _ hk => hk.2) (.int .i64 t337)) (fun _ hk => hk.2) (.slice Ao29 t338.length co29)) (fun _ hk => hk.2) (.slice Ao30 t341.length co30)) (fun _ h_ => h_.1))) hb); have n4_ := Aside0.mk (zp (by (with_reducible repeat (first | apply zd | apply zc | apply ze)); exact (zs (za (p := ⟨gb344, 7, none⟩) (za (p := ⟨gb344, 6, none⟩) (za (p := ⟨gb344, 5, none⟩) (za (p := ⟨gb344, 4, none⟩) (za (p := ⟨gb344, 3, none⟩) (za (p := ⟨gb344, 2, none⟩) (za (p := ⟨gb344, 1, none⟩) (za (p := ⟨gb344, 0, none⟩) (zy zW.1 zL.1 (by decide)) (fun _ hk => hk.2) (.slice Ao25 t328.length co25)) (fun _ hk => hk.2) (.int .i64 t331)) (fun _ hk => hk.2) (.slice Ao28 t332.length co28)) (fun _ hk => hk.2) (.int .i64 t335)) (fun _ hk => hk.2) (.int .i64 t336)) (fun _ hk => hk.2) (.int .i64 t337)) (fun _ hk => hk.2) (.slice Ao29 t338.length co29)) (fun _ hk => hk.2) (.slice Ao30 t341.length co30)) (fun _ h_ => h_.1))) hb); have n5_ := Aside0.mk (zp (by (with_reducible repeat (first | apply zd | apply zc | apply ze)); exact (zs (za (p := ⟨gb344, 7, none⟩) (za (p := ⟨gb344, 6, none⟩) (za (p := ⟨gb344, 5, none⟩) (za (p := ⟨gb344, 4, none⟩) (za (p := ⟨gb344, 3, none⟩) (za (p := ⟨gb344, 2, none⟩) (za (p := ⟨gb344, 1, none⟩) (za (p := ⟨gb344, 0, none⟩) (zy zX.1 zL.1 (by decide)) (fun _ hk => hk.2) (.slice Ao25 t328.length co25)) (fun _ hk => hk.2) (.int .i64 t331)) (fun _ hk => hk.2) (.slice Ao28 t332.length co28)) (fun _ hk => hk.2) (.int .i64 t335)) (fun _ hk => hk.2) (.int .i64 t336)) (fun _ hk => hk.2) (.int .i64 t337)) (fun _ hk => hk.2) (.slice Ao29 t338.length co29)) (fun _ hk => hk.2) (.slice Ao30 t341.length co30)) (fun _ h_ => h_.1))) hb); have n6_ := Aside0.mk (zp (by (with_reducible repeat (first | apply zd | apply zc | apply ze)); exact (zs (za (p := ⟨gb344, 7, none⟩) (za (p := ⟨gb344, 6, none⟩) (za (p := ⟨gb344, 5, none⟩) (za (p := ⟨gb344, 4, none⟩) (za (p := ⟨gb344, 3, none⟩) (za (p := ⟨gb344, 2, none⟩) (za (p := ⟨gb344, 1, none⟩) (za (p := ⟨gb344, 0, none⟩) (zy zY.1 zL.1 (by decide)) (fun _ hk => hk.2) (.slice Ao25 t328.length co25)) (fun _ hk => hk.2) (.int .i64 t331)) (fun _ hk => hk.2) (.slice Ao28 t332.length co28)) (fun _ hk => hk.2) (.int .i64 t335)) (fun _ hk => hk.2) (.int .i64 t336)) (fun _ hk => hk.2) (.int .i64 t337)) (fun _ hk => hk.2) (.slice Ao29 t338.length co29)) (fun _ hk => hk.2) (.slice Ao30 t341.length co30)) (fun _ h_ => h_.1))) hb); have n7_ := Aside0.mk (zp (by (with_reducible repeat (first | apply zd | apply zc | apply ze)); exact (zs (za (p := ⟨gb344, 7, none⟩) (za (p := ⟨gb344, 6, none⟩) (za (p := ⟨gb344, 5, none⟩) (za (p := ⟨gb344, 4, none⟩) (za (p := ⟨gb344, 3, none⟩) (za (p := ⟨gb344, 2, none⟩) (za (p := ⟨gb344, 1, none⟩) (za (p := ⟨gb344, 0, none⟩) (zy zZ.1 zL.1 (by decide)) (fun _ hk => hk.2) (.slice Ao25 t328.length co25)) (fun _ hk => hk.2) (.int .i64 t331)) (fun _ hk => hk.2) (.slice Ao28 t332.length co28)) (fun _ hk => hk.2) (.int .i64 t335)) (fun _ hk => hk.2) (.int .i64 t336)) (fun _ hk => hk.2) (.int .i64 t337)) (fun _ hk => hk.2) (.slice Ao29 t338.length co29)) (fun _ hk => hk.2) (.slice Ao30 t341.length co30)) (fun _ h_ => h_.1))) hb); have n8_ := Aside0.mk (zC (g := gb308) (o := .cells #[.slice A0_0 l0_0.length c0_0, .int .i64 a0_1, .slice A0_2 l0_2.length c0_2, .int .i64 a0_3, .int .i64 a0_4, .int .i64 a0_5, .slice A0_6 l0_6.length c0_6, .slice A0_7 l0_7.length c0_7] 48 (0, 0)) (by (with_reducible repeat (first | refine zn ?_ _ | refine zr ?_ | refine zo ?_ _)); refine zG ?_ zR.1 _; (with_reducible repeat (first | refine zn ?_ _ | refine zr ?_ | refine zo ?_ _)); refine zG ?_ zR.1 _; (with_reducible repeat (first | refine zn ?_ _ | refine zr ?_ | refine zo ?_ _)); refine zG ?_ zR.1 _; (with_reducible repeat (first | refine zn ?_ _ | refine zr ?_ | refine zo ?_ _)); refine zG ?_ zR.1 _; (with_reducible repeat (first | refine zn ?_ _ | refine zr ?_ | refine zo ?_ _)); refine zG ?_ zR.1 _; (with_reducible repeat (first | refine zn ?_ _ | refine zr ?_ | refine zo ?_ _)); refine zG ?_ zR.1 _; (with_reducible repeat (first | refine zn ?_ _ | refine zr ?_ | refine zo ?_ _)); refine zG ?_ zR.1 _; (with_reducible repeat (first | refine zn ?_ _ | refine zr ?_ | refine zo ?_ _)); refine zG ?_ zR.1 _; (with_reducible repeat (first | refine zn ?_ _ | refine zr ?_ | refine zo ?_ _)); exact zK.1) hb); have n9_ := Aside0.mk (zC (g := gb344) (o := .cells #[.slice Ao25 t328.length co25, .int .i64 t331, .slice Ao28 t332.length co28, .int .i64 t335, .int .i64 t336, .int .i64 t337, .slice Ao29 t338.length co29, .slice Ao30 t341.length co30] 53 (0, 0)) (by (with_reducible repeat (first | refine zn ?_ _ | refine zr ?_ | refine zo ?_ _)); refine zF (cs := #[.slice Ao25 t328.length co25, .int .i64 t331, .slice Ao28 t332.length co28, .int .i64 t335, .int .i64 t336, .int .i64 t337, .slice Ao29 t338.length co29, .slice none 0 0]) ?_ 7 _ rfl; (with_reducible repeat (first | refine zn ?_ _ | refine zr ?_ | refine zo ?_ _)); refine zF (cs := #[.slice Ao25 t328.length co25, .int .i64 t331, .slice Ao28 t332.length co28, .int .i64 t335, .int .i64 t336, .int .i64 t337, .slice none 0 0, .slice none 0 0]) ?_ 6 _ rfl; (with_reducible repeat (first | refine zn ?_ _ | refine zr ?_ | refine zo ?_ _)); refine zF (cs := #[.slice Ao25 t328.length co25, .int .i64 t331, .slice Ao28 t332.length co28, .int .i64 t335, .int .i64 t336, .int .i64 0, .slice none 0 0, .slice none 0 0]) ?_ 5 _ rfl; (with_reducible repeat (first | refine zn ?_ _ | refine zr ?_ | refine zo ?_ _)); refine zF (cs := #[.slice Ao25 t328.length co25, .int .i64 t331, .slice Ao28 t332.length co28, .int .i64 t335, .int .i64 0, .int .i64 0, .slice none 0 0, .slice none 0 0]) ?_ 4 _ rfl; (with_reducible repeat (first | refine zn ?_ _ | refine zr ?_ | refine zo ?_ _)); refine zF (cs := #[.slice Ao25 t328.length co25, .int .i64 t331, .slice Ao28 t332.length co28, .int .i64 0, .int .i64 0, .int .i64 0, .slice none 0 0, .slice none 0 0]) ?_ 3 _ rfl; (with_reducible repeat (first | refine zn ?_ _ | refine zr ?_ | refine zo ?_ _)); refine zF (cs := #[.slice Ao25 t328.length co25, .int .i64 t331, .slice none 0 0, .int .i64 0, .int .i64 0, .int .i64 0, .slice none 0 0, .slice none 0 0]) ?_ 2 _ rfl; (with_reducible repeat (first | refine zn ?_ _ | refine zr ?_ | refine zo ?_ _)); refine zF (cs := #[.slice Ao25 t328.length co25, .int .i64 0, .slice none 0 0, .int .i64 0, .int .i64 0, .int .i64 0, .slice none 0 0, .slice none 0 0]) ?_ 1 _ rfl; (with_reducible repeat (first | refine zn ?_ _ | refine zr ?_ | refine zo ?_ _)); refine zF (cs := #[.slice none 0 0, .int .i64 0, .slice none 0 0, .int .i64 0, .int .i64 0, .int .i64 0, .slice none 0 0, .slice none 0 0]) ?_ 0 _ rfl; (with_reducible repeat (first | refine zn ?_ _ | refine zr ?_ | refine zo ?_ _)); exact zL.1) hb); have n10_ := Aside0.mk (zB (by repeat (first | (with_reducible first | exact HB.1 | apply zi | apply zf | apply zh | refine zk ?_ zQ.1 | refine zk ?_ qa.1) | exact HB.1)) hb); clear zS; clear zT; clear zU; clear zV; clear zW; clear zX; clear zY; clear zZ; clear zK; clear zL; clear HB; have zS := n0_; have zT := n1_; have zU := n2_; have zV := n3_; have zW := n4_; have zX := n5_; have zY := n6_; have zZ := n7_; have zK := n8_; have zL := n9_; have HB := n10_; clear n0_ n1_ n2_ n3_ n4_ n5_ n6_ n7_ n8_ n9_ n10_; (try clear hb); (try clear hb2); (try clear hk); (try clear hi)))
  (try simp only [Act.put, List.setIfInBounds_toArray, List.set_cons_zero, List.set_cons_succ])
  go_cut [34] (fun v34 wc => ∃ (kq : Nat) (x34_10 : Bool), v34 = .bool x34_10 ∧ zH (laws_FnExactUpdateBytes.j0 kq x34_10 l0_0 a0_1 l0_2 a0_3 a0_4 a0_5 l0_6 l0_7 t328 t331 t332 t335 t336 t337 t338 t341 = some r) ∧ zH (kq ≤ k) ∧ zH (Kd.R k35 35 wc w.heap.size (fun k_ => some k_ ≠ ((.slice Ao30 t341.length co30) : Value).ownBlock) (.slice Ao25 t328.length co25) t328) ∧ zH (Kd.R (Kd.int .i64) 3 wc w.heap.size (fun k_ => some k_ ≠ ((.slice Ao29 t338.length co29) : Value).ownBlock) (.slice Ao28 t332.length co28) t332) ∧ zH (Kd.R (Kd.int .i64) 3 wc w.heap.size (fun k_ => some k_ ≠ ((.slice Ao28 t332.length co28) : Value).ownBlock) (.slice Ao29 t338.length co29) t338) ∧ zH (Kd.R k35 35 wc w.heap.size (fun k_ => some k_ ≠ ((.slice Ao25 t328.length co25) : Value).ownBlock) (.slice Ao30 t341.length co30) t341) ∧ zH (wc.heap[gb308]? = some (.cells #[(.slice A0_0 l0_0.length c0_0), .int .i64 a0_1, (.slice A0_2 l0_2.length c0_2), .int .i64 a0_3, .int .i64 a0_4, .int .i64 a0_5, (.slice A0_6 l0_6.length c0_6), (.slice A0_7 l0_7.length c0_7)] 48 (0, 0))) ∧ zH (wc.heap[gb344]? = some (.cells #[(.slice Ao25 t328.length co25), .int .i64 t331, (.slice Ao28 t332.length co28), .int .i64 t335, .int .i64 t336, .int .i64 t337, (.slice Ao29 t338.length co29), (.slice Ao30 t341.length co30)] 53 (0, 0))) ∧ zH (Below w.heap.size w wc))
  case first =>
   have H := HC11.1
   clear HC11
   by_cases c32 : t345.toList = t326.toList
   ·
    rw [if_pos c32] at H
    have c32b0 : (t345.toList == t326.toList) = true := beq_iff_eq.mpr c32
    have c32b1 : (t345.toList != t326.toList) = false := bne_eq_false_iff_eq.mpr c32
    clear c32
    (first | rw [c32b0] | (simp only [zI, zJ]; rw [c32b0]) | skip)
    have H' := Aside0.mk H
    clear H
    go_wp2
    go_meet
    case rel => exact ⟨_, ((t346 != t327)), (by first | rfl | (simp; done) | (simp [*]; done)), H', ⟨by first | omega | exact Nat.le_refl _⟩, ⟨by (with_reducible repeat (first | apply zd | apply zc | apply ze)); exact zs zW.1 (fun _ hk => hk.1.1)⟩, ⟨by (with_reducible repeat (first | apply zd | apply zc | apply ze)); exact zs zX.1 (fun _ hk => hk.1.1)⟩, ⟨by (with_reducible repeat (first | apply zd | apply zc | apply ze)); exact zs zY.1 (fun _ hk => hk.1.1)⟩, ⟨by (with_reducible repeat (first | apply zd | apply zc | apply ze)); exact zs zZ.1 (fun _ hk => hk.1.1)⟩, ⟨by (with_reducible repeat (first | refine zn ?_ _ | refine zr ?_ | refine zo ?_ _)); exact zK.1⟩, ⟨by (with_reducible repeat (first | refine zn ?_ _ | refine zr ?_ | refine zo ?_ _)); exact zL.1⟩, ⟨by repeat (first | (with_reducible first | exact HB.1 | apply zi | apply zf | apply zh | refine zk ?_ zQ.1 | refine zk ?_ qa.1) | exact HB.1)⟩⟩
   ·
    rw [if_neg c32] at H
    have c32b0 : (t345.toList == t326.toList) = false := beq_eq_false_iff_ne.mpr c32
    have c32b1 : (t345.toList != t326.toList) = true := bne_iff_ne.mpr c32
    (first | rw [c32b0] | (simp only [zI, zJ]; rw [c32b0]) | skip)
    have H' := Aside0.mk H
    clear H
    go_wp2
    go_meet
    case rel => exact ⟨_, (true), (by first | rfl | (simp; done) | (simp [*]; done)), H', ⟨by first | omega | exact Nat.le_refl _⟩, ⟨by (with_reducible repeat (first | apply zd | apply zc | apply ze)); exact zs zW.1 (fun _ hk => hk.1.1)⟩, ⟨by (with_reducible repeat (first | apply zd | apply zc | apply ze)); exact zs zX.1 (fun _ hk => hk.1.1)⟩, ⟨by (with_reducible repeat (first | apply zd | apply zc | apply ze)); exact zs zY.1 (fun _ hk => hk.1.1)⟩, ⟨by (with_reducible repeat (first | apply zd | apply zc | apply ze)); exact zs zZ.1 (fun _ hk => hk.1.1)⟩, ⟨by (with_reducible repeat (first | refine zn ?_ _ | refine zr ?_ | refine zo ?_ _)); exact zK.1⟩, ⟨by (with_reducible repeat (first | refine zn ?_ _ | refine zr ?_ | refine zo ?_ _)); exact zL.1⟩, ⟨by repeat (first | (with_reducible first | exact HB.1 | apply zi | apply zf | apply zh | refine zk ?_ zQ.1 | refine zk ?_ qa.1) | exact HB.1)⟩⟩
  case rest =>
   clear HC11
   (try clear c2); (try clear p2); (try clear c3); (try clear c3b0); (try clear c8); (try clear c26); (try clear c27); (try clear c29); (try clear c32); (try clear c32b0); (try clear c32b1); (try clear hcz13_0); (try clear hcz13_1); (try clear hcz13_2); (try clear hcz13_3); (try clear hcz13_4); (try clear hcz13_5); (try clear hcz13_6); (try clear hcz13_7); (try clear hcz15_0); (try clear hcz15_1); (try clear hcz15_2); (try clear hcz15_3); (try clear hcz15_4); (try clear hcz15_5); (try clear hcz15_6); (try clear hcz15_7); (try clear hcz22_0); (try clear hcz22_1); (try clear hcz22_2); (try clear hcz22_3); (try clear hcz22_4); (try clear hcz22_5); (try clear hcz22_6); (try clear hcz22_7); (try clear hcz27_0); (try clear hcz27_1); (try clear hcz27_2); (try clear hcz27_3); (try clear hcz27_4); (try clear hcz27_5); (try clear hcz27_6); (try clear hcz27_7); (try clear hcz5_0); (try clear hcz5_1); (try clear hcz5_2); (try clear hcz5_3); (try clear hcz5_4); (try clear hcz5_5); (try clear hcz5_6); (try clear hcz5_7); (try clear hfz13_0); (try clear hfz13_1); (try clear hfz13_2); (try clear hfz13_3); (try clear hfz13_4); (try clear hfz13_5); (try clear hfz13_6); (try clear hfz13_7); (try clear hfz15_0); (try clear hfz15_1); (try clear hfz15_2); (try clear hfz15_3); (try clear hfz15_4); (try clear hfz15_5); (try clear hfz15_6); (try clear hfz15_7); (try clear hfz22_0); (try clear hfz22_1); (try clear hfz22_2); (try clear hfz22_3); (try clear hfz22_4); (try clear hfz22_5); (try clear hfz22_6); (try clear hfz22_7); (try clear hfz27_0); (try clear hfz27_1); (try clear hfz27_2); (try clear hfz27_3); (try clear hfz27_4); (try clear hfz27_5); (try clear hfz27_6); (try clear hfz27_7); (try clear hfz5_0); (try clear hfz5_1); (try clear hfz5_2); (try clear hfz5_3); (try clear hfz5_4); (try clear hfz5_5); (try clear hfz5_6); (try clear hfz5_7)
   obtain ⟨kq, x34_10, rfl, HA, HJ10, zM, zN, zO, zP, zK, zL, HB⟩ := hcut
   cases kq with
   | zero => exact absurd HA.1 (by simp [laws_FnExactUpdateBytes.j0])
   | succ kj10 =>
    have H := HA.1
    clear HA
    simp only [laws_FnExactUpdateBytes.j0] at H
    by_cases c33 : x34_10 = true
    ·
     subst c33
     have H1 : (some false) = some r := by rw [if_pos rfl] at H; exact H
     clear H
     have H := H1
     clear H1
     obtain rfl := Option.some.inj H
     cases hT
    ·
     replace c33 := Bool.eq_false_iff.mpr c33
     subst c33
     have H1 : ((laws_toUpdate.f kj10 l0_0 a0_1 l0_2 a0_3 a0_4 a0_5 l0_6 l0_7).bind fun bt347 => ((laws_eqUpdate.f kj10 t328 t331 t332 t335 t336 t337 t338 t341 bt347.1 bt347.2.1 bt347.2.2.1 bt347.2.2.2.1 bt347.2.2.2.2.1 bt347.2.2.2.2.2.1 bt347.2.2.2.2.2.2.1 bt347.2.2.2.2.2.2.2).bind fun t363 => (if t363 = true then (some true) else (some false)))) = some r := by rw [if_neg (show ¬ (false = true) by decide)] at H; exact H
     clear H
     have H := H1
     clear H1
     replace H := Option.bind_eq_some_iff.mp H
     obtain ⟨⟨t347, t350, t351, t354, t355, t356, t357, t360⟩, A340, H⟩ := H
     replace H : ((laws_eqUpdate.f kj10 t328 t331 t332 t335 t336 t337 t338 t341 t347 t350 t351 t354 t355 t356 t357 t360).bind fun t363 => (if t363 = true then (some true) else (some false))) = some r := H
     have A34 := Aside0.mk A340
     clear A340
     replace H := Option.bind_eq_some_iff.mp H
     obtain ⟨t363, A350, H⟩ := H
     replace H : (if t363 = true then (some true) else (some false)) = some r := H
     have A35 := Aside0.mk A350
     clear A350
     by_cases c36 : t363 = true
     ·
      subst c36
      have H1 : (some true) = some r := by rw [if_pos rfl] at H; exact H
      clear H
      have H := H1
      clear H1
      obtain rfl := Option.some.inj H
      try go_wp2
      have n0_ := Aside0.mk (ze zM.1)
      have n1_ := Aside0.mk (ze zN.1)
      have n2_ := Aside0.mk (ze zO.1)
      have n3_ := Aside0.mk (ze zP.1)
      have n4_ := Aside0.mk (zr zK.1)
      have n5_ := Aside0.mk (zr zL.1)
      have n6_ := Aside0.mk (zh HB.1)
      clear zM
      clear zN
      clear zO
      clear zP
      clear zK
      clear zL
      clear HB
      have zM := n0_
      have zN := n1_
      have zO := n2_
      have zP := n3_
      have zK := n4_
      have zL := n5_
      have HB := n6_
      clear n0_ n1_ n2_ n3_ n4_ n5_ n6_
      refine start_ (n := 5) (S := fun w' => w'.cell? ⟨gb344, 0, none⟩ = some (.slice Ao25 t328.length co25) ∧ w'.cell? ⟨gb344, 1, none⟩ = some (.int .i64 t331) ∧ w'.cell? ⟨gb344, 2, none⟩ = some (.slice Ao28 t332.length co28) ∧ w'.cell? ⟨gb344, 3, none⟩ = some (.int .i64 t335) ∧ w'.cell? ⟨gb344, 4, none⟩ = some (.int .i64 t336) ∧ w'.cell? ⟨gb344, 5, none⟩ = some (.int .i64 t337) ∧ w'.cell? ⟨gb344, 6, none⟩ = some (.slice Ao29 t338.length co29) ∧ w'.cell? ⟨gb344, 7, none⟩ = some (.slice Ao30 t341.length co30) ∧ w'.cell? ⟨gb308, 0, none⟩ = some (.slice A0_0 l0_0.length c0_0) ∧ w'.cell? ⟨gb308, 1, none⟩ = some (.int .i64 a0_1) ∧ w'.cell? ⟨gb308, 2, none⟩ = some (.slice A0_2 l0_2.length c0_2) ∧ w'.cell? ⟨gb308, 3, none⟩ = some (.int .i64 a0_3) ∧ w'.cell? ⟨gb308, 4, none⟩ = some (.int .i64 a0_4) ∧ w'.cell? ⟨gb308, 5, none⟩ = some (.int .i64 a0_5) ∧ w'.cell? ⟨gb308, 6, none⟩ = some (.slice A0_6 l0_6.length c0_6) ∧ w'.cell? ⟨gb308, 7, none⟩ = some (.slice A0_7 l0_7.length c0_7)) (ds := []) #[false, false, false, false, false] (by kernel_rfl) rfl rfl ⟨(zb zL.1 0).trans rfl, (zb zL.1 1).trans rfl, (zb zL.1 2).trans rfl, (zb zL.1 3).trans rfl, (zb zL.1 4).trans rfl, (zb zL.1 5).trans rfl, (zb zL.1 6).trans rfl, (zb zL.1 7).trans rfl, (zb zK.1 0).trans rfl, (zb zK.1 1).trans rfl, (zb zK.1 2).trans rfl, (zb zK.1 3).trans rfl, (zb zK.1 4).trans rfl, (zb zK.1 5).trans rfl, (zb zK.1 6).trans rfl, (zb zK.1 7).trans rfl⟩ (fun hHeld => ?_)
      generalize wc.drew = w37 at zM zN zO zP zK zL HB hHeld ⊢
      refine take_ (i := 0) (N := some 35) (v := ?_) (a' := ?_) #[true, false, false, false, false] rfl rfl (by kernel_rfl) (fun _ _ _ h => h) (Or.inl ⟨by rfl, ?_⟩) hHeld ?_ ?_
      rotate_left
      ·
       rintro w' ⟨s0, s1, s2, s3, s4, s5, s6, s7, s8, s9, s10, s11, s12, s13, s14, s15⟩
       go_simp
       with_reducible rfl
      rotate_left
      ·
       simp only [Act.put, List.setIfInBounds_toArray, List.set_cons_zero, List.set_cons_succ, zI, zJ]
       rfl
      refine take_ (i := 1) (N := some 36) (v := ?_) (a' := ?_) #[true, true, false, false, false] rfl rfl (by kernel_rfl) (fun _ _ _ h => h) (Or.inl ⟨by rfl, ?_⟩) hHeld ?_ ?_
      rotate_left
      ·
       rintro w' ⟨s0, s1, s2, s3, s4, s5, s6, s7, s8, s9, s10, s11, s12, s13, s14, s15⟩
       go_simp
       with_reducible rfl
      rotate_left
      ·
       simp only [Act.put, List.setIfInBounds_toArray, List.set_cons_zero, List.set_cons_succ, zI, zJ]
       rfl
      refine one_ (i := 2) (N := some 37) #[true, true, true, false, false] rfl rfl (by kernel_rfl) (by decide) (fun K hK => ?_)
      refine goes_ Try.func29 (by kernel_rfl) rfl #[.agg #[.slice A0_0 l0_0.length c0_0, .int .i64 a0_1, .slice A0_2 l0_2.length c0_2, .int .i64 a0_3, .int .i64 a0_4, .int .i64 a0_5, .slice A0_6 l0_6.length c0_6, .slice A0_7 l0_7.length c0_7]] (by rfl) rfl rfl (by (try simp only [List.map_toArray, List.map_cons, List.map_nil]); first | done | rfl | (simp only [List.length_drop, List.length_take]; rfl)) ?_
      with_reducible refine (laws_toUpdate.calls kj10 _ _ l0_0 a0_1 _ _ l0_2 a0_3 a0_4 a0_5 _ _ l0_6 _ _ l0_7 t347 t350 t351 t354 t355 t356 t357 t360 _ ?side1 ?side2 ?side3 ?side4 ?side5 ?side6 ?side7 ?side8 A34.1).mono ?_
      (case side1 => repeat (first | exact (zt qf.1 HB.1) | (with_reducible refine zm ?_ _) | (with_reducible refine zl ?_ _) | (with_reducible refine zq ?_)))
      (case side2 => exact HC0_0.1)
      (case side3 => repeat (first | exact (zt qg.1 HB.1) | (with_reducible refine zm ?_ _) | (with_reducible refine zl ?_ _) | (with_reducible refine zq ?_)))
      (case side4 => exact HC0_2.1)
      (case side5 => repeat (first | exact (zt qh.1 HB.1) | (with_reducible refine zm ?_ _) | (with_reducible refine zl ?_ _) | (with_reducible refine zq ?_)))
      (case side6 => exact HC0_6.1)
      (case side7 => repeat (first | exact (zt qi.1 HB.1) | (with_reducible refine zm ?_ _) | (with_reducible refine zl ?_ _) | (with_reducible refine zq ?_)))
      (case side8 => exact HC0_7.1)
      rintro e w38 ⟨v348, v352, v358, v361, rfl, ho0, ho1, ho2, ho3, hb⟩
      refine ⟨_, rfl, ?_⟩
      have n0_ := Aside0.mk (zs (zv (zv (zE (by (with_reducible repeat (first | apply zd | apply zc | apply ze)); exact zM.1) hb) (zx ho0)) (zx ho3)) (fun _ h_ => h_.1))
      have n1_ := Aside0.mk (zs (zv (zv (zE (by (with_reducible repeat (first | apply zd | apply zc | apply ze)); exact zN.1) hb) (zx ho1)) (zx ho2)) (fun _ h_ => h_.1))
      have n2_ := Aside0.mk (zs (zv (zv (zE (by (with_reducible repeat (first | apply zd | apply zc | apply ze)); exact zO.1) hb) (zx ho1)) (zx ho2)) (fun _ h_ => h_.1))
      have n3_ := Aside0.mk (zs (zv (zv (zE (by (with_reducible repeat (first | apply zd | apply zc | apply ze)); exact zP.1) hb) (zx ho0)) (zx ho3)) (fun _ h_ => h_.1))
      have n4_ := Aside0.mk (zA (zw (zw ho0 (zD (by (with_reducible repeat (first | apply zd | apply zc | apply ze)); exact zM.1))) (zD (by (with_reducible repeat (first | apply zd | apply zc | apply ze)); exact zP.1))) (zu (by repeat (first | (with_reducible first | exact HB.1 | apply zi | apply zf | apply zh | refine zk ?_ zQ.1 | refine zk ?_ qa.1) | exact HB.1))))
      have n5_ := Aside0.mk (zA (zw (zw ho1 (zD (by (with_reducible repeat (first | apply zd | apply zc | apply ze)); exact zN.1))) (zD (by (with_reducible repeat (first | apply zd | apply zc | apply ze)); exact zO.1))) (zu (by repeat (first | (with_reducible first | exact HB.1 | apply zi | apply zf | apply zh | refine zk ?_ zQ.1 | refine zk ?_ qa.1) | exact HB.1))))
      have n6_ := Aside0.mk (zA (zw (zw ho2 (zD (by (with_reducible repeat (first | apply zd | apply zc | apply ze)); exact zN.1))) (zD (by (with_reducible repeat (first | apply zd | apply zc | apply ze)); exact zO.1))) (zu (by repeat (first | (with_reducible first | exact HB.1 | apply zi | apply zf | apply zh | refine zk ?_ zQ.1 | refine zk ?_ qa.1) | exact HB.1))))
      have n7_ := Aside0.mk (zA (zw (zw ho3 (zD (by (with_reducible repeat (first | apply zd | apply zc | apply ze)); exact zM.1))) (zD (by (with_reducible repeat (first | apply zd | apply zc | apply ze)); exact zP.1))) (zu (by repeat (first | (with_reducible first | exact HB.1 | apply zi | apply zf | apply zh | refine zk ?_ zQ.1 | refine zk ?_ qa.1) | exact HB.1))))
      have n8_ := Aside0.mk (zC (g := gb308) (o := .cells #[.slice A0_0 l0_0.length c0_0, .int .i64 a0_1, .slice A0_2 l0_2.length c0_2, .int .i64 a0_3, .int .i64 a0_4, .int .i64 a0_5, .slice A0_6 l0_6.length c0_6, .slice A0_7 l0_7.length c0_7] 48 (0, 0)) (by (with_reducible repeat (first | refine zn ?_ _ | refine zr ?_ | refine zo ?_ _)); exact zK.1) hb)
      have n9_ := Aside0.mk (zC (g := gb344) (o := .cells #[.slice Ao25 t328.length co25, .int .i64 t331, .slice Ao28 t332.length co28, .int .i64 t335, .int .i64 t336, .int .i64 t337, .slice Ao29 t338.length co29, .slice Ao30 t341.length co30] 53 (0, 0)) (by (with_reducible repeat (first | refine zn ?_ _ | refine zr ?_ | refine zo ?_ _)); exact zL.1) hb)
      have n10_ := Aside0.mk (zB (by repeat (first | (with_reducible first | exact HB.1 | apply zi | apply zf | apply zh | refine zk ?_ zQ.1 | refine zk ?_ qa.1) | exact HB.1)) hb)
      clear zM
      clear zN
      clear zO
      clear zP
      clear zK
      clear zL
      clear HB
      have zM := n0_
      have zN := n1_
      have zO := n2_
      have zP := n3_
      have qb := n4_
      have qc := n5_
      have qd := n6_
      have qe := n7_
      have zK := n8_
      have zL := n9_
      have HB := n10_
      clear n0_ n1_ n2_ n3_ n4_ n5_ n6_ n7_ n8_ n9_ n10_
      (try clear hb)
      (try clear hb2)
      (try clear hk)
      (try clear hi)
      (try clear ho0)
      (try clear ho1)
      (try clear ho2)
      (try clear ho3)
      obtain ⟨Ao39, co39, eo39⟩ := zz qb.1
      (first | subst eo39 | (injection eo39 with f1_ f2_ f3_; have f4_ := f1_.symm; have f5_ := f3_.symm; clear f1_ f2_ f3_; subst f4_; subst f5_))
      obtain ⟨Ao40, co40, eo40⟩ := zz qc.1
      (first | subst eo40 | (injection eo40 with f1_ f2_ f3_; have f4_ := f1_.symm; have f5_ := f3_.symm; clear f1_ f2_ f3_; subst f4_; subst f5_))
      obtain ⟨Ao41, co41, eo41⟩ := zz qd.1
      (first | subst eo41 | (injection eo41 with f1_ f2_ f3_; have f4_ := f1_.symm; have f5_ := f3_.symm; clear f1_ f2_ f3_; subst f4_; subst f5_))
      obtain ⟨Ao42, co42, eo42⟩ := zz qe.1
      (first | subst eo42 | (injection eo42 with f1_ f2_ f3_; have f4_ := f1_.symm; have f5_ := f3_.symm; clear f1_ f2_ f3_; subst f4_; subst f5_))
      refine hK.out _ _ ⟨(zb zL.1 0).trans rfl, (zb zL.1 1).trans rfl, (zb zL.1 2).trans rfl, (zb zL.1 3).trans rfl, (zb zL.1 4).trans rfl, (zb zL.1 5).trans rfl, (zb zL.1 6).trans rfl, (zb zL.1 7).trans rfl, (zb zK.1 0).trans rfl, (zb zK.1 1).trans rfl, (zb zK.1 2).trans rfl, (zb zK.1 3).trans rfl, (zb zK.1 4).trans rfl, (zb zK.1 5).trans rfl, (zb zK.1 6).trans rfl, (zb zK.1 7).trans rfl⟩ (fun hHeld => ?_)
      clear hK K
      refine norm_ (a' := ?_) ?_ ?_
      rotate_left
      ·
       show Act.put _ (some 37) _ = _
       simp only [Act.put, List.setIfInBounds_toArray, List.set_cons_zero, List.set_cons_succ, zI, zJ]
       rfl
      refine one_ (i := 3) (N := some 38) #[true, true, true, true, false] rfl rfl (by kernel_rfl) (by decide) (fun K hK => ?_)
      refine goes_ Try.func31 (by kernel_rfl) rfl #[.agg #[.slice Ao25 t328.length co25, .int .i64 t331, .slice Ao28 t332.length co28, .int .i64 t335, .int .i64 t336, .int .i64 t337, .slice Ao29 t338.length co29, .slice Ao30 t341.length co30], .agg #[.slice Ao39 t347.length co39, .int .i64 t350, .slice Ao40 t351.length co40, .int .i64 t354, .int .i64 t355, .int .i64 t356, .slice Ao41 t357.length co41, .slice Ao42 t360.length co42]] (by rfl) rfl rfl (by (try simp only [List.map_toArray, List.map_cons, List.map_nil]); first | done | rfl | (simp only [List.length_drop, List.length_take]; rfl)) ?_
      with_reducible refine (laws_eqUpdate.calls kj10 _ _ t328 t331 _ _ t332 t335 t336 t337 _ _ t338 _ _ t341 _ _ t347 t350 _ _ t351 t354 t355 t356 _ _ t357 _ _ t360 true _ ?side1 ?side2 ?side3 ?side4 ?side5 ?side6 ?side7 ?side8 ?side9 ?side10 ?side11 ?side12 ?side13 ?side14 ?side15 ?side16 A35.1).mono ?_
      (case side1 => repeat (first | exact (zj zM.1).2.2 | (with_reducible refine zm ?_ _) | (with_reducible refine zl ?_ _) | (with_reducible refine zq ?_)))
      (case side2 => exact (zj zM.1).2.1)
      (case side3 => repeat (first | exact (zj zN.1).2.2 | (with_reducible refine zm ?_ _) | (with_reducible refine zl ?_ _) | (with_reducible refine zq ?_)))
      (case side4 => exact (zj zN.1).2.1)
      (case side5 => repeat (first | exact (zj zO.1).2.2 | (with_reducible refine zm ?_ _) | (with_reducible refine zl ?_ _) | (with_reducible refine zq ?_)))
      (case side6 => exact (zj zO.1).2.1)
      (case side7 => repeat (first | exact (zj zP.1).2.2 | (with_reducible refine zm ?_ _) | (with_reducible refine zl ?_ _) | (with_reducible refine zq ?_)))
      (case side8 => exact (zj zP.1).2.1)
      (case side9 => repeat (first | exact (zj qb.1).2.2 | (with_reducible refine zm ?_ _) | (with_reducible refine zl ?_ _) | (with_reducible refine zq ?_)))
      (case side10 => exact (zj qb.1).2.1)
      (case side11 => repeat (first | exact (zj qc.1).2.2 | (with_reducible refine zm ?_ _) | (with_reducible refine zl ?_ _) | (with_reducible refine zq ?_)))
      (case side12 => exact (zj qc.1).2.1)
      (case side13 => repeat (first | exact (zj qd.1).2.2 | (with_reducible refine zm ?_ _) | (with_reducible refine zl ?_ _) | (with_reducible refine zq ?_)))
      (case side14 => exact (zj qd.1).2.1)
      (case side15 => repeat (first | exact (zj qe.1).2.2 | (with_reducible refine zm ?_ _) | (with_reducible refine zl ?_ _) | (with_reducible refine zq ?_)))
      (case side16 => exact (zj qe.1).2.1)
      rintro e w43 ⟨rfl, hb⟩
      refine ⟨_, rfl, ?_⟩
      have n0_ := Aside0.mk (zp (by (with_reducible repeat (first | apply zd | apply zc | apply ze)); exact zM.1) hb)
      have n1_ := Aside0.mk (zp (by (with_reducible repeat (first | apply zd | apply zc | apply ze)); exact zN.1) hb)
      have n2_ := Aside0.mk (zp (by (with_reducible repeat (first | apply zd | apply zc | apply ze)); exact zO.1) hb)
      have n3_ := Aside0.mk (zp (by (with_reducible repeat (first | apply zd | apply zc | apply ze)); exact zP.1) hb)
      have n4_ := Aside0.mk (zp (by (with_reducible repeat (first | apply zd | apply zc | apply ze)); exact qb.1) hb)
      have n5_ := Aside0.mk (zp (by (with_reducible repeat (first | apply zd | apply zc | apply ze)); exact qc.1) hb)
      have n6_ := Aside0.mk (zp (by (with_reducible repeat (first | apply zd | apply zc | apply ze)); exact qd.1) hb)
      have n7_ := Aside0.mk (zp (by (with_reducible repeat (first | apply zd | apply zc | apply ze)); exact qe.1) hb)
      have n8_ := Aside0.mk (zC (g := gb308) (o := .cells #[.slice A0_0 l0_0.length c0_0, .int .i64 a0_1, .slice A0_2 l0_2.length c0_2, .int .i64 a0_3, .int .i64 a0_4, .int .i64 a0_5, .slice A0_6 l0_6.length c0_6, .slice A0_7 l0_7.length c0_7] 48 (0, 0)) (by (with_reducible repeat (first | refine zn ?_ _ | refine zr ?_ | refine zo ?_ _)); exact zK.1) hb)
      have n9_ := Aside0.mk (zC (g := gb344) (o := .cells #[.slice Ao25 t328.length co25, .int .i64 t331, .slice Ao28 t332.length co28, .int .i64 t335, .int .i64 t336, .int .i64 t337, .slice Ao29 t338.length co29, .slice Ao30 t341.length co30] 53 (0, 0)) (by (with_reducible repeat (first | refine zn ?_ _ | refine zr ?_ | refine zo ?_ _)); exact zL.1) hb)
      have n10_ := Aside0.mk (zB (by repeat (first | (with_reducible first | exact HB.1 | apply zi | apply zf | apply zh | refine zk ?_ zQ.1 | refine zk ?_ qa.1) | exact HB.1)) hb)
      clear zM
      clear zN
      clear zO
      clear zP
      clear qb
      clear qc
      clear qd
      clear qe
      clear zK
      clear zL
      clear HB
      have zM := n0_
      have zN := n1_
      have zO := n2_
      have zP := n3_
      have qb := n4_
      have qc := n5_
      have qd := n6_
      have qe := n7_
      have zK := n8_
      have zL := n9_
      have HB := n10_
      clear n0_ n1_ n2_ n3_ n4_ n5_ n6_ n7_ n8_ n9_ n10_
      (try clear hb)
      (try clear hb2)
      (try clear hk)
      (try clear hi)
      refine hK.out _ _ ⟨(zb zL.1 0).trans rfl, (zb zL.1 1).trans rfl, (zb zL.1 2).trans rfl, (zb zL.1 3).trans rfl, (zb zL.1 4).trans rfl, (zb zL.1 5).trans rfl, (zb zL.1 6).trans rfl, (zb zL.1 7).trans rfl, (zb zK.1 0).trans rfl, (zb zK.1 1).trans rfl, (zb zK.1 2).trans rfl, (zb zK.1 3).trans rfl, (zb zK.1 4).trans rfl, (zb zK.1 5).trans rfl, (zb zK.1 6).trans rfl, (zb zK.1 7).trans rfl⟩ (fun hHeld => ?_)
      clear hK K
      refine norm_ (a' := ?_) ?_ ?_
      rotate_left
      ·
       show Act.put _ (some 38) _ = _
       simp only [Act.put, List.setIfInBounds_toArray, List.set_cons_zero, List.set_cons_succ, zI, zJ]
       rfl
      refine pure_ (i := 4) (N := some 39) (v := ?_) (a' := ?_) #[true, true, true, true, true] rfl rfl (by kernel_rfl) (fun _ _ _ h => h) (Or.inl ⟨by rfl, ?_⟩) ?_ ?_
      rotate_left
      ·
       intro w'
       go_simp
       with_reducible rfl
      rotate_left
      ·
       simp only [Act.put, List.setIfInBounds_toArray, List.set_cons_zero, List.set_cons_succ, zI, zJ]
       rfl
      refine done_ (by kernel_rfl) ?_
      try go_wp2
      go_ret
      exact ⟨by first | rfl | (simp [errW_none, errW_some] <;> rfl) | (simp [*, errW_none, errW_some] <;> rfl), by repeat (first | (with_reducible first | exact HB.1 | apply zi | apply zf | apply zh | refine zk ?_ zQ.1 | refine zk ?_ qa.1) | exact HB.1)⟩
     ·
      replace c36 := Bool.eq_false_iff.mpr c36
      subst c36
      have H1 : (some false) = some r := by rw [if_neg (show ¬ (false = true) by decide)] at H; exact H
      clear H
      have H := H1
      clear H1
      obtain rfl := Option.some.inj H
      cases hT

end Go.Proofs.Ytlnfcobloolnnaa.PFnExactUpdateBytes
