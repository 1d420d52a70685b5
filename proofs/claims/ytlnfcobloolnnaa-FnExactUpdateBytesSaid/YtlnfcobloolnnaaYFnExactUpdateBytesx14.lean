/- Written by this session's own program over the kit's print: Lean functions that tell what Go functions answer, each with a proof that the call does so. No condition but what each statement says. -/
import Derived.Test.YtlnfcobloolnnaaYFnExactUpdateBytesx0
import Derived.Test.YtlnfcobloolnnaaYFnExactUpdateBytesx12
import Derived.Test.YtlnfcobloolnnaaYFnExactUpdateBytesx13
namespace Go.Proofs.Ytlnfcobloolnnaa.PFnExactUpdateBytes
open Go.RowKit Go.Proofs.YtlnfcobloolnnaaW.PrintWords Go.Proofs.YtlnfcobloolnnaaW.PrintLast Go.Proofs.YtlnfcobloolnnaaW.PrintMore
open Go.Proofs.YtlnfcobloolnnaaW.PrintLast renaming i64_w → zp, i32_w → zq, any_of → zs, pure_ → zt, take_ofW → zu, one_of → zv, take_ → zw, norm_ → zx, goes_ → zy
open Go.Proofs.YtlnfcobloolnnaaW.PrintWords renaming blk_cell → za, blk_frozen → zb, pw_below_drewN → zc, below_drew1 → zd, below_alloc → ze, blk_drewN → zf, blk_alloc → zg, blk_drew → zh, below_set → zi, blk_below → zj, below_step → zk, below_size → zr
open Go.Proofs.YtlnfcobloolnnaaW.PrintWords.Kd renaming C_drewN → zl, C_below → zm, C_alloc → zn, C_drew → zo
attribute [local go_sem] max2_int min2_int max_two min_two max_three min_three max_four min_four   -- for this text's walks alone
set_option linter.unusedVariables false
set_option linter.unusedSimpArgs false

/-! ### impl_updateBytes: function 80 -/
def impl_updateBytes.f (k : Nat) (l0_0 : List (S35)) (a0_1 : Int) (l0_2 : List Int) (a0_3 : Int) (a0_4 : Int) (a0_5 : Int) (l0_6 : List Int) (l0_7 : List (S35)) : Option (ByteArray) := (impl_prefixesBytes.f k l0_0).bind fun t296 => (if (l0_7.length : Int) = 0 then (some t296) else ((impl_bytesOf.f k a0_1 1).bind fun t298 => (if t296.size + t298.size ≤ 9223372036854775807 then ((impl_numbersBytes.f k l0_2 2).bind fun t299 => (if (t296 ++ t298).size + t299.size ≤ 9223372036854775807 then ((impl_bytesOf.f k a0_3 4).bind fun t300 => (if ((t296 ++ t298) ++ t299).size + t300.size ≤ 9223372036854775807 then ((impl_bytesOf.f k a0_4 3).bind fun t301 => (if (((t296 ++ t298) ++ t299) ++ t300).size + t301.size ≤ 9223372036854775807 then ((impl_bytesOf.f k a0_5 3).bind fun t302 => (if ((((t296 ++ t298) ++ t299) ++ t300) ++ t301).size + t302.size ≤ 9223372036854775807 then ((impl_numbersBytes.f k l0_6 3).bind fun t303 => (if (((((t296 ++ t298) ++ t299) ++ t300) ++ t301) ++ t302).size + t303.size ≤ 9223372036854775807 then ((impl_prefixesBytes.f k l0_7).bind fun t304 => (if ((((((t296 ++ t298) ++ t299) ++ t300) ++ t301) ++ t302) ++ t303).size + t304.size ≤ 9223372036854775807 then (some (((((((t296 ++ t298) ++ t299) ++ t300) ++ t301) ++ t302) ++ t303) ++ t304)) else (none))) else (none))) else (none))) else (none))) else (none))) else (none))) else (none))))
theorem impl_updateBytes.mono : ∀ a0 a1 a2 a3 a4 a5 a6 a7 k, LeO (impl_updateBytes.f k a0 a1 a2 a3 a4 a5 a6 a7) (impl_updateBytes.f (k + 1) a0 a1 a2 a3 a4 a5 a6 a7) := by
 intro a0 a1 a2 a3 a4 a5 a6 a7 k
 unfold impl_updateBytes.f
 repeat' first
   | (with_reducible exact impl_bytesOf.mono _ _ _)
   | (with_reducible exact impl_numbersBytes.mono _ _ _)
   | (with_reducible exact impl_prefixesBytes.mono _ _)
   | (with_reducible exact LeO.refl _)
   | (with_reducible exact LeO.none _)
   | (with_reducible refine LeO.ite ?_ ?_)
   | (with_reducible refine LeO.bind ?_ (fun _ => ?_))
   | exact impl_bytesOf.mono _ _ _
   | exact impl_numbersBytes.mono _ _ _
   | exact impl_prefixesBytes.mono _ _
   | exact LeO.none _
   | refine LeO.ite ?_ ?_
   | refine LeO.bind ?_ (fun _ => ?_)
def impl_updateBytes.T5 : Bool × List (List Nat × List Nat) := (true, [([], []), ([], []), ([1], [1]), ([2], [2]), ([0, 3], [0, 3]), ([], []), ([5], [5]), ([6, 3], [6]), ([4, 7], [4, 7]), ([], []), ([9], [9]), ([10, 7], [10]), ([8, 11], [8, 11]), ([], []), ([13], [13]), ([14, 11], [14]), ([12, 15], [12, 15]), ([], []), ([17], [17]), ([18, 15], [18]), ([16, 19], [16, 19]), ([], []), ([21], [21]), ([22, 19], [22]), ([20, 23], [20, 23]), ([], []), ([25], [25]), ([26, 23], [26]), ([24, 27], [24, 27]), ([28, 27, 0, 1, 2, 3, 4, 5, 6, 7, 8, 9, 10, 11, 12, 13, 14, 15, 16, 17, 18, 19, 20, 21, 22, 23, 24, 25, 26, 27, 28], [28])])
def impl_updateBytes.B5 : List Nat := [0, 0, 2, 6, 15, 0, 32, 110, 255, 0, 512, 1774, 4095, 0, 8192, 28398, 65535, 0, 131072, 454382, 1048575, 0, 2097152, 7270126, 16777215, 0, 33554432, 116322030, 268435455, 536870911]
theorem impl_updateBytes.tab5 : rtab .any (opsOf Try.f80 5) = impl_updateBytes.T5 := by kernel_rfl
theorem impl_updateBytes.bits5 : waitsOk impl_updateBytes.T5.2 impl_updateBytes.B5 = true := by kernel_rfl
set_option maxHeartbeats 8000000 in
set_option maxRecDepth 100000 in
theorem impl_updateBytes.calls (k : Nat) (A0_0 : Option Addr) (c0_0 : Nat) (l0_0 : List (S35)) (a0_1 : Int) (A0_2 : Option Addr) (c0_2 : Nat) (l0_2 : List Int) (a0_3 : Int) (a0_4 : Int) (a0_5 : Int) (A0_6 : Option Addr) (c0_6 : Nat) (l0_6 : List Int) (A0_7 : Option Addr) (c0_7 : Nat) (l0_7 : List (S35)) (r : ByteArray) (w : World) (hr0_0 : Kd.C k35 w A0_0 l0_0.length l0_0) (hc0_0 : l0_0.length ≤ c0_0) (hr0_2 : Kd.C (Kd.int .i64) w A0_2 l0_2.length l0_2) (hc0_2 : l0_2.length ≤ c0_2) (hr0_6 : Kd.C (Kd.int .i64) w A0_6 l0_6.length l0_6) (hc0_6 : l0_6.length ≤ c0_6) (hr0_7 : Kd.C k35 w A0_7 l0_7.length l0_7) (hc0_7 : l0_7.length ≤ c0_7) (h : impl_updateBytes.f k l0_0 a0_1 l0_2 a0_3 a0_4 a0_5 l0_6 l0_7 = some r) :
  Calls Try.prog 80 #[.agg #[.slice A0_0 l0_0.length c0_0, .int .i64 a0_1, .slice A0_2 l0_2.length c0_2, .int .i64 a0_3, .int .i64 a0_4, .int .i64 a0_5, .slice A0_6 l0_6.length c0_6, .slice A0_7 l0_7.length c0_7]] w fun e w' => e = .returned (.string r) ∧ Below w.heap.size w w' := by
 have hu53 := Try.underlying53
 have hu27 := Try.underlying27
 have zF := Aside0.mk hr0_0
 have HC0_0 := Aside0.mk hc0_0
 clear hr0_0 hc0_0
 have zH := Aside0.mk hr0_2
 have HC0_2 := Aside0.mk hc0_2
 clear hr0_2 hc0_2
 have zI := Aside0.mk hr0_6
 have HC0_6 := Aside0.mk hc0_6
 clear hr0_6 hc0_6
 have zJ := Aside0.mk hr0_7
 have HC0_7 := Aside0.mk hc0_7
 clear hr0_7 hc0_7
 have HB := Aside0.mk (Below.refl w.heap.size w)
 have H : ((impl_prefixesBytes.f k l0_0).bind fun t296 => (if (l0_7.length : Int) = 0 then (some t296) else ((impl_bytesOf.f k a0_1 1).bind fun t298 => (if t296.size + t298.size ≤ 9223372036854775807 then ((impl_numbersBytes.f k l0_2 2).bind fun t299 => (if (t296 ++ t298).size + t299.size ≤ 9223372036854775807 then ((impl_bytesOf.f k a0_3 4).bind fun t300 => (if ((t296 ++ t298) ++ t299).size + t300.size ≤ 9223372036854775807 then ((impl_bytesOf.f k a0_4 3).bind fun t301 => (if (((t296 ++ t298) ++ t299) ++ t300).size + t301.size ≤ 9223372036854775807 then ((impl_bytesOf.f k a0_5 3).bind fun t302 => (if ((((t296 ++ t298) ++ t299) ++ t300) ++ t301).size + t302.size ≤ 9223372036854775807 then ((impl_numbersBytes.f k l0_6 3).bind fun t303 => (if (((((t296 ++ t298) ++ t299) ++ t300) ++ t301) ++ t302).size + t303.size ≤ 9223372036854775807 then ((impl_prefixesBytes.f k l0_7).bind fun t304 => (if ((((((t296 ++ t298) ++ t299) ++ t300) ++ t301) ++ t302) ++ t303).size + t304.size ≤ 9223372036854775807 then (some (((((((t296 ++ t298) ++ t299) ++ t300) ++ t301) ++ t302) ++ t303) ++ t304)) else (none))) else (none))) else (none))) else (none))) else (none))) else (none))) else (none))))) = some r := h
 clear h
 replace H := Option.bind_eq_some_iff.mp H
 obtain ⟨t296, A20, H⟩ := H
 replace H : (if (l0_7.length : Int) = 0 then (some t296) else ((impl_bytesOf.f k a0_1 1).bind fun t298 => (if t296.size + t298.size ≤ 9223372036854775807 then ((impl_numbersBytes.f k l0_2 2).bind fun t299 => (if (t296 ++ t298).size + t299.size ≤ 9223372036854775807 then ((impl_bytesOf.f k a0_3 4).bind fun t300 => (if ((t296 ++ t298) ++ t299).size + t300.size ≤ 9223372036854775807 then ((impl_bytesOf.f k a0_4 3).bind fun t301 => (if (((t296 ++ t298) ++ t299) ++ t300).size + t301.size ≤ 9223372036854775807 then ((impl_bytesOf.f k a0_5 3).bind fun t302 => (if ((((t296 ++ t298) ++ t299) ++ t300) ++ t301).size + t302.size ≤ 9223372036854775807 then ((impl_numbersBytes.f k l0_6 3).bind fun t303 => (if (((((t296 ++ t298) ++ t299) ++ t300) ++ t301) ++ t302).size + t303.size ≤ 9223372036854775807 then ((impl_prefixesBytes.f k l0_7).bind fun t304 => (if ((((((t296 ++ t298) ++ t299) ++ t300) ++ t301) ++ t302) ++ t303).size + t304.size ≤ 9223372036854775807 then (some (((((((t296 ++ t298) ++ t299) ++ t300) ++ t301) ++ t302) ++ t303) ++ t304)) else (none))) else (none))) else (none))) else (none))) else (none))) else (none))) else (none)))) = some r := H
 have A2 := Aside0.mk A20
 clear A20
 by_cases c3 : (l0_7.length : Int) = 0
 ·
  rw [if_pos c3] at H
  have c3b0 : ((l0_7.length : Int) == 0) = true := beq_iff_eq.mpr c3
  have c3b1 : ((l0_7.length : Int) != 0) = false := bne_eq_false_iff_eq.mpr c3
  clear c3
  obtain rfl := Option.some.inj H
  go_enter Try.func80, Try.ntmps80
  go_wp2_with (first | ((with_reducible refine gate_dst (N := 1) rfl ?_); refine box_event ?hg (N := 1) ?hd (cs := #[.slice A0_0 l0_0.length c0_0, .int .i64 a0_1, .slice A0_2 l0_2.length c0_2, .int .i64 a0_3, .int .i64 a0_4, .int .i64 a0_5, .slice A0_6 l0_6.length c0_6, .slice A0_7 l0_7.length c0_7]) (t := 53) ?hr ?_; (case hd => rfl); (case hg => rfl); (case hr => first | (go_simp; done) | (go_simp; rfl)); intro gb295 hg w4 hbox hb; have n0_ := Aside0.mk (zk (by repeat (first | (with_reducible first | exact HB.1 | apply ze | apply zc | apply zd) | exact HB.1)) hb); have n1_ := Aside0.mk (hbox); have n2_ := Aside0.mk ((by rw [hg]; exact (zr (by repeat (first | (with_reducible first | exact HB.1 | apply ze | apply zc | apply zd) | exact HB.1))) : w.heap.size ≤ gb295)); have n3_ := Aside0.mk ((by rw [hg]; exact (zr (by repeat (first | (with_reducible first | exact HB.1 | apply ze | apply zc | apply zd) | exact HB.1))) : w.heap.size ≤ gb295)); clear HB; have HB := n0_; have zz := n1_; have GW295 := n2_; have zD := n3_; clear n0_ n1_ n2_ n3_; clear hb hbox hg; have hcz5_0 : w4.cell? ⟨gb295, 0, none⟩ = some (.slice A0_0 l0_0.length c0_0) := (za zz.1 0).trans rfl; have hcz5_1 : w4.cell? ⟨gb295, 1, none⟩ = some (.int .i64 a0_1) := (za zz.1 1).trans rfl; have hcz5_2 : w4.cell? ⟨gb295, 2, none⟩ = some (.slice A0_2 l0_2.length c0_2) := (za zz.1 2).trans rfl; have hcz5_3 : w4.cell? ⟨gb295, 3, none⟩ = some (.int .i64 a0_3) := (za zz.1 3).trans rfl; have hcz5_4 : w4.cell? ⟨gb295, 4, none⟩ = some (.int .i64 a0_4) := (za zz.1 4).trans rfl; have hcz5_5 : w4.cell? ⟨gb295, 5, none⟩ = some (.int .i64 a0_5) := (za zz.1 5).trans rfl; have hcz5_6 : w4.cell? ⟨gb295, 6, none⟩ = some (.slice A0_6 l0_6.length c0_6) := (za zz.1 6).trans rfl; have hcz5_7 : w4.cell? ⟨gb295, 7, none⟩ = some (.slice A0_7 l0_7.length c0_7) := (za zz.1 7).trans rfl; have hfz5_0 := zb zz.1 0; have hfz5_1 := zb zz.1 1; have hfz5_2 := zb zz.1 2; have hfz5_3 := zb zz.1 3; have hfz5_4 := zb zz.1 4; have hfz5_5 := zb zz.1 5; have hfz5_6 := zb zz.1 6; have hfz5_7 := zb zz.1 7) | ((with_reducible refine gate_callee (f := 114) rfl ?_); refine goesL_ (some 7) rfl rfl Try.func114 (by kernel_rfl) rfl #[.slice A0_0 l0_0.length c0_0] rfl (by (try simp only [List.map_toArray, List.map_cons, List.map_nil]); first | done | rfl | (simp only [List.length_drop, List.length_take]; rfl)) ?_; (with_reducible refine (impl_prefixesBytes.calls k _ _ l0_0 t296 _ ?side1 ?side2 A2.1).mono ?_); (case side1 => repeat (first | exact (zm zF.1 HB.1) | (with_reducible refine zn ?_ _) | (with_reducible refine zl ?_ _) | (with_reducible refine zo ?_))); (case side2 => exact HC0_0.1); rintro e w6 ⟨rfl, hb⟩; refine ⟨_, rfl, ?_⟩; have n0_ := Aside0.mk (zj (g := gb295) (o := .cells #[.slice A0_0 l0_0.length c0_0, .int .i64 a0_1, .slice A0_2 l0_2.length c0_2, .int .i64 a0_3, .int .i64 a0_4, .int .i64 a0_5, .slice A0_6 l0_6.length c0_6, .slice A0_7 l0_7.length c0_7] 53 (0, 0)) (by (with_reducible repeat (first | refine zf ?_ _ | refine zh ?_ | refine zg ?_ _)); exact zz.1) hb); have n1_ := Aside0.mk (zk (by repeat (first | (with_reducible first | exact HB.1 | apply ze | apply zc | apply zd | refine zi ?_ zD.1) | exact HB.1)) hb); clear zz; clear HB; have zz := n0_; have HB := n1_; clear n0_ n1_; (try clear hb); (try clear hb2); (try clear hk); (try clear hi); have hcz7_0 : w6.cell? ⟨gb295, 0, none⟩ = some (.slice A0_0 l0_0.length c0_0) := (za zz.1 0).trans rfl; have hcz7_1 : w6.cell? ⟨gb295, 1, none⟩ = some (.int .i64 a0_1) := (za zz.1 1).trans rfl; have hcz7_2 : w6.cell? ⟨gb295, 2, none⟩ = some (.slice A0_2 l0_2.length c0_2) := (za zz.1 2).trans rfl; have hcz7_3 : w6.cell? ⟨gb295, 3, none⟩ = some (.int .i64 a0_3) := (za zz.1 3).trans rfl; have hcz7_4 : w6.cell? ⟨gb295, 4, none⟩ = some (.int .i64 a0_4) := (za zz.1 4).trans rfl; have hcz7_5 : w6.cell? ⟨gb295, 5, none⟩ = some (.int .i64 a0_5) := (za zz.1 5).trans rfl; have hcz7_6 : w6.cell? ⟨gb295, 6, none⟩ = some (.slice A0_6 l0_6.length c0_6) := (za zz.1 6).trans rfl; have hcz7_7 : w6.cell? ⟨gb295, 7, none⟩ = some (.slice A0_7 l0_7.length c0_7) := (za zz.1 7).trans rfl; have hfz7_0 := zb zz.1 0; have hfz7_1 := zb zz.1 1; have hfz7_2 := zb zz.1 2; have hfz7_3 := zb zz.1 3; have hfz7_4 := zb zz.1 4; have hfz7_5 := zb zz.1 5; have hfz7_6 := zb zz.1 6; have hfz7_7 := zb zz.1 7))
  go_ret
  exact ⟨by first | rfl | (simp [errW_none, errW_some] <;> rfl) | (simp [*, errW_none, errW_some] <;> rfl), by repeat (first | (with_reducible first | exact HB.1 | apply ze | apply zc | apply zd | refine zi ?_ zD.1) | exact HB.1)⟩
 ·
  rw [if_neg c3] at H
  have c3b0 : ((l0_7.length : Int) == 0) = false := beq_eq_false_iff_ne.mpr c3
  have c3b1 : ((l0_7.length : Int) != 0) = true := bne_iff_ne.mpr c3
  have c3b2 : ¬ (l0_7 = []) := fun h_ => c3 (by rw [h_]; rfl)
  replace H := Option.bind_eq_some_iff.mp H
  obtain ⟨t298, A80, H⟩ := H
  replace H : (if t296.size + t298.size ≤ 9223372036854775807 then ((impl_numbersBytes.f k l0_2 2).bind fun t299 => (if (t296 ++ t298).size + t299.size ≤ 9223372036854775807 then ((impl_bytesOf.f k a0_3 4).bind fun t300 => (if ((t296 ++ t298) ++ t299).size + t300.size ≤ 9223372036854775807 then ((impl_bytesOf.f k a0_4 3).bind fun t301 => (if (((t296 ++ t298) ++ t299) ++ t300).size + t301.size ≤ 9223372036854775807 then ((impl_bytesOf.f k a0_5 3).bind fun t302 => (if ((((t296 ++ t298) ++ t299) ++ t300) ++ t301).size + t302.size ≤ 9223372036854775807 then ((impl_numbersBytes.f k l0_6 3).bind fun t303 => (if (((((t296 ++ t298) ++ t299) ++ t300) ++ t301) ++ t302).size + t303.size ≤ 9223372036854775807 then ((impl_prefixesBytes.f k l0_7).bind fun t304 => (if ((((((t296 ++ t298) ++ t299) ++ t300) ++ t301) ++ t302) ++ t303).size + t304.size ≤ 9223372036854775807 then (some (((((((t296 ++ t298) ++ t299) ++ t300) ++ t301) ++ t302) ++ t303) ++ t304)) else (none))) else (none))) else (none))) else (none))) else (none))) else (none))) else (none)) = some r := H
  have A8 := Aside0.mk A80
  clear A80
  by_cases c9 : t296.size + t298.size ≤ 9223372036854775807
  ·
   rw [if_pos c9] at H
   have c9b0 := eq_true c9
   have c9b1 : decide (t296.size + t298.size ≤ 9223372036854775807) = true := decide_eq_true c9
   try have c9b2 : (9223372036854775807 < t296.size + t298.size) = False := eq_false (Nat.not_lt.2 c9)
   replace H := Option.bind_eq_some_iff.mp H
   obtain ⟨t299, A100, H⟩ := H
   replace H : (if (t296 ++ t298).size + t299.size ≤ 9223372036854775807 then ((impl_bytesOf.f k a0_3 4).bind fun t300 => (if ((t296 ++ t298) ++ t299).size + t300.size ≤ 9223372036854775807 then ((impl_bytesOf.f k a0_4 3).bind fun t301 => (if (((t296 ++ t298) ++ t299) ++ t300).size + t301.size ≤ 9223372036854775807 then ((impl_bytesOf.f k a0_5 3).bind fun t302 => (if ((((t296 ++ t298) ++ t299) ++ t300) ++ t301).size + t302.size ≤ 9223372036854775807 then ((impl_numbersBytes.f k l0_6 3).bind fun t303 => (if (((((t296 ++ t298) ++ t299) ++ t300) ++ t301) ++ t302).size + t303.size ≤ 9223372036854775807 then ((impl_prefixesBytes.f k l0_7).bind fun t304 => (if ((((((t296 ++ t298) ++ t299) ++ t300) ++ t301) ++ t302) ++ t303).size + t304.size ≤ 9223372036854775807 then (some (((((((t296 ++ t298) ++ t299) ++ t300) ++ t301) ++ t302) ++ t303) ++ t304)) else (none))) else (none))) else (none))) else (none))) else (none))) else (none)) = some r := H
   have A10 := Aside0.mk A100
   clear A100
   by_cases c11 : (t296 ++ t298).size + t299.size ≤ 9223372036854775807
   ·
    rw [if_pos c11] at H
    have c11b0 := eq_true c11
    have c11b1 : decide ((t296 ++ t298).size + t299.size ≤ 9223372036854775807) = true := decide_eq_true c11
    try have c11b2 : (9223372036854775807 < (t296 ++ t298).size + t299.size) = False := eq_false (Nat.not_lt.2 c11)
    try have c11b4 : (9223372036854775807 < t296.size + t298.size + t299.size) = False := eq_false (by have := c11; simp only [ByteArray.size_append] at this; omega)
    replace H := Option.bind_eq_some_iff.mp H
    obtain ⟨t300, A120, H⟩ := H
    replace H : (if ((t296 ++ t298) ++ t299).size + t300.size ≤ 9223372036854775807 then ((impl_bytesOf.f k a0_4 3).bind fun t301 => (if (((t296 ++ t298) ++ t299) ++ t300).size + t301.size ≤ 9223372036854775807 then ((impl_bytesOf.f k a0_5 3).bind fun t302 => (if ((((t296 ++ t298) ++ t299) ++ t300) ++ t301).size + t302.size ≤ 9223372036854775807 then ((impl_numbersBytes.f k l0_6 3).bind fun t303 => (if (((((t296 ++ t298) ++ t299) ++ t300) ++ t301) ++ t302).size + t303.size ≤ 9223372036854775807 then ((impl_prefixesBytes.f k l0_7).bind fun t304 => (if ((((((t296 ++ t298) ++ t299) ++ t300) ++ t301) ++ t302) ++ t303).size + t304.size ≤ 9223372036854775807 then (some (((((((t296 ++ t298) ++ t299) ++ t300) ++ t301) ++ t302) ++ t303) ++ t304)) else (none))) else (none))) else (none))) else (none))) else (none)) = some r := H
    have A12 := Aside0.mk A120
    clear A120
    by_cases c13 : ((t296 ++ t298) ++ t299).size + t300.size ≤ 9223372036854775807
    ·
     rw [if_pos c13] at H
     have c13b0 := eq_true c13
     have c13b1 : decide (((t296 ++ t298) ++ t299).size + t300.size ≤ 9223372036854775807) = true := decide_eq_true c13
     try have c13b2 : (9223372036854775807 < ((t296 ++ t298) ++ t299).size + t300.size) = False := eq_false (Nat.not_lt.2 c13)
     try have c13b4 : (9223372036854775807 < t296.size + t298.size + t299.size + t300.size) = False := eq_false (by have := c13; simp only [ByteArray.size_append] at this; omega)
     replace H := Option.bind_eq_some_iff.mp H
     obtain ⟨t301, A140, H⟩ := H
     replace H : (if (((t296 ++ t298) ++ t299) ++ t300).size + t301.size ≤ 9223372036854775807 then ((impl_bytesOf.f k a0_5 3).bind fun t302 => (if ((((t296 ++ t298) ++ t299) ++ t300) ++ t301).size + t302.size ≤ 9223372036854775807 then ((impl_numbersBytes.f k l0_6 3).bind fun t303 => (if (((((t296 ++ t298) ++ t299) ++ t300) ++ t301) ++ t302).size + t303.size ≤ 9223372036854775807 then ((impl_prefixesBytes.f k l0_7).bind fun t304 => (if ((((((t296 ++ t298) ++ t299) ++ t300) ++ t301) ++ t302) ++ t303).size + t304.size ≤ 9223372036854775807 then (some (((((((t296 ++ t298) ++ t299) ++ t300) ++ t301) ++ t302) ++ t303) ++ t304)) else (none))) else (none))) else (none))) else (none)) = some r := H
     have A14 := Aside0.mk A140
     clear A140
     by_cases c15 : (((t296 ++ t298) ++ t299) ++ t300).size + t301.size ≤ 9223372036854775807
     ·
      rw [if_pos c15] at H
      have c15b0 := eq_true c15
      have c15b1 : decide ((((t296 ++ t298) ++ t299) ++ t300).size + t301.size ≤ 9223372036854775807) = true := decide_eq_true c15
      try have c15b2 : (9223372036854775807 < (((t296 ++ t298) ++ t299) ++ t300).size + t301.size) = False := eq_false (Nat.not_lt.2 c15)
      try have c15b4 : (9223372036854775807 < t296.size + t298.size + t299.size + t300.size + t301.size) = False := eq_false (by have := c15; simp only [ByteArray.size_append] at this; omega)
      replace H := Option.bind_eq_some_iff.mp H
      obtain ⟨t302, A160, H⟩ := H
      replace H : (if ((((t296 ++ t298) ++ t299) ++ t300) ++ t301).size + t302.size ≤ 9223372036854775807 then ((impl_numbersBytes.f k l0_6 3).bind fun t303 => (if (((((t296 ++ t298) ++ t299) ++ t300) ++ t301) ++ t302).size + t303.size ≤ 9223372036854775807 then ((impl_prefixesBytes.f k l0_7).bind fun t304 => (if ((((((t296 ++ t298) ++ t299) ++ t300) ++ t301) ++ t302) ++ t303).size + t304.size ≤ 9223372036854775807 then (some (((((((t296 ++ t298) ++ t299) ++ t300) ++ t301) ++ t302) ++ t303) ++ t304)) else (none))) else (none))) else (none)) = some r := H
      have A16 := Aside0.mk A160
      clear A160
      by_cases c17 : ((((t296 ++ t298) ++ t299) ++ t300) ++ t301).size + t302.size ≤ 9223372036854775807
      ·
       rw [if_pos c17] at H
       have c17b0 := eq_true c17
       have c17b1 : decide (((((t296 ++ t298) ++ t299) ++ t300) ++ t301).size + t302.size ≤ 9223372036854775807) = true := decide_eq_true c17
       try have c17b2 : (9223372036854775807 < ((((t296 ++ t298) ++ t299) ++ t300) ++ t301).size + t302.size) = False := eq_false (Nat.not_lt.2 c17)
       try have c17b4 : (9223372036854775807 < t296.size + t298.size + t299.size + t300.size + t301.size + t302.size) = False := eq_false (by have := c17; simp only [ByteArray.size_append] at this; omega)
       replace H := Option.bind_eq_some_iff.mp H
       obtain ⟨t303, A180, H⟩ := H
       replace H : (if (((((t296 ++ t298) ++ t299) ++ t300) ++ t301) ++ t302).size + t303.size ≤ 9223372036854775807 then ((impl_prefixesBytes.f k l0_7).bind fun t304 => (if ((((((t296 ++ t298) ++ t299) ++ t300) ++ t301) ++ t302) ++ t303).size + t304.size ≤ 9223372036854775807 then (some (((((((t296 ++ t298) ++ t299) ++ t300) ++ t301) ++ t302) ++ t303) ++ t304)) else (none))) else (none)) = some r := H
       have A18 := Aside0.mk A180
       clear A180
       by_cases c19 : (((((t296 ++ t298) ++ t299) ++ t300) ++ t301) ++ t302).size + t303.size ≤ 9223372036854775807
       ·
        rw [if_pos c19] at H
        have c19b0 := eq_true c19
        have c19b1 : decide ((((((t296 ++ t298) ++ t299) ++ t300) ++ t301) ++ t302).size + t303.size ≤ 9223372036854775807) = true := decide_eq_true c19
        try have c19b2 : (9223372036854775807 < (((((t296 ++ t298) ++ t299) ++ t300) ++ t301) ++ t302).size + t303.size) = False := eq_false (Nat.not_lt.2 c19)
        try have c19b4 : (9223372036854775807 < t296.size + t298.size + t299.size + t300.size + t301.size + t302.size + t303.size) = False := eq_false (by have := c19; simp only [ByteArray.size_append] at this; omega)
        replace H := Option.bind_eq_some_iff.mp H
        obtain ⟨t304, A200, H⟩ := H
        replace H : (if ((((((t296 ++ t298) ++ t299) ++ t300) ++ t301) ++ t302) ++ t303).size + t304.size ≤ 9223372036854775807 then (some (((((((t296 ++ t298) ++ t299) ++ t300) ++ t301) ++ t302) ++ t303) ++ t304)) else (none)) = some r := H
        have A20 := Aside0.mk A200
        clear A200
        by_cases c21 : ((((((t296 ++ t298) ++ t299) ++ t300) ++ t301) ++ t302) ++ t303).size + t304.size ≤ 9223372036854775807
        ·
         rw [if_pos c21] at H
         have c21b0 := eq_true c21
         have c21b1 : decide (((((((t296 ++ t298) ++ t299) ++ t300) ++ t301) ++ t302) ++ t303).size + t304.size ≤ 9223372036854775807) = true := decide_eq_true c21
         try have c21b2 : (9223372036854775807 < ((((((t296 ++ t298) ++ t299) ++ t300) ++ t301) ++ t302) ++ t303).size + t304.size) = False := eq_false (Nat.not_lt.2 c21)
         try have c21b4 : (9223372036854775807 < t296.size + t298.size + t299.size + t300.size + t301.size + t302.size + t303.size + t304.size) = False := eq_false (by have := c21; simp only [ByteArray.size_append] at this; omega)
         obtain rfl := Option.some.inj H
         go_enter Try.func80, Try.ntmps80
         try go_wp2_with (first | ((with_reducible refine gate_dst (N := 1) rfl ?_); refine box_event ?hg (N := 1) ?hd (cs := #[.slice A0_0 l0_0.length c0_0, .int .i64 a0_1, .slice A0_2 l0_2.length c0_2, .int .i64 a0_3, .int .i64 a0_4, .int .i64 a0_5, .slice A0_6 l0_6.length c0_6, .slice A0_7 l0_7.length c0_7]) (t := 53) ?hr ?_; (case hd => rfl); (case hg => rfl); (case hr => first | (go_simp; done) | (go_simp; rfl)); intro gb295 hg w22 hbox hb; have n0_ := Aside0.mk (zk (by repeat (first | (with_reducible first | exact HB.1 | apply ze | apply zc | apply zd) | exact HB.1)) hb); have n1_ := Aside0.mk (hbox); have n2_ := Aside0.mk ((by rw [hg]; exact (zr (by repeat (first | (with_reducible first | exact HB.1 | apply ze | apply zc | apply zd) | exact HB.1))) : w.heap.size ≤ gb295)); have n3_ := Aside0.mk ((by rw [hg]; exact (zr (by repeat (first | (with_reducible first | exact HB.1 | apply ze | apply zc | apply zd) | exact HB.1))) : w.heap.size ≤ gb295)); clear HB; have HB := n0_; have zz := n1_; have GW295 := n2_; have zD := n3_; clear n0_ n1_ n2_ n3_; clear hb hbox hg; have hcz23_0 : w22.cell? ⟨gb295, 0, none⟩ = some (.slice A0_0 l0_0.length c0_0) := (za zz.1 0).trans rfl; have hcz23_1 : w22.cell? ⟨gb295, 1, none⟩ = some (.int .i64 a0_1) := (za zz.1 1).trans rfl; have hcz23_2 : w22.cell? ⟨gb295, 2, none⟩ = some (.slice A0_2 l0_2.length c0_2) := (za zz.1 2).trans rfl; have hcz23_3 : w22.cell? ⟨gb295, 3, none⟩ = some (.int .i64 a0_3) := (za zz.1 3).trans rfl; have hcz23_4 : w22.cell? ⟨gb295, 4, none⟩ = some (.int .i64 a0_4) := (za zz.1 4).trans rfl; have hcz23_5 : w22.cell? ⟨gb295, 5, none⟩ = some (.int .i64 a0_5) := (za zz.1 5).trans rfl; have hcz23_6 : w22.cell? ⟨gb295, 6, none⟩ = some (.slice A0_6 l0_6.length c0_6) := (za zz.1 6).trans rfl; have hcz23_7 : w22.cell? ⟨gb295, 7, none⟩ = some (.slice A0_7 l0_7.length c0_7) := (za zz.1 7).trans rfl; have hfz23_0 := zb zz.1 0; have hfz23_1 := zb zz.1 1; have hfz23_2 := zb zz.1 2; have hfz23_3 := zb zz.1 3; have hfz23_4 := zb zz.1 4; have hfz23_5 := zb zz.1 5; have hfz23_6 := zb zz.1 6; have hfz23_7 := zb zz.1 7) | ((with_reducible refine gate_callee (f := 114) rfl ?_); refine goesL_ (some 7) rfl rfl Try.func114 (by kernel_rfl) rfl #[.slice A0_0 l0_0.length c0_0] rfl (by (try simp only [List.map_toArray, List.map_cons, List.map_nil]); first | done | rfl | (simp only [List.length_drop, List.length_take]; rfl)) ?_; (with_reducible refine (impl_prefixesBytes.calls k _ _ l0_0 t296 _ ?side1 ?side2 A2.1).mono ?_); (case side1 => repeat (first | exact (zm zF.1 HB.1) | (with_reducible refine zn ?_ _) | (with_reducible refine zl ?_ _) | (with_reducible refine zo ?_))); (case side2 => exact HC0_0.1); rintro e w24 ⟨rfl, hb⟩; refine ⟨_, rfl, ?_⟩; have n0_ := Aside0.mk (zj (g := gb295) (o := .cells #[.slice A0_0 l0_0.length c0_0, .int .i64 a0_1, .slice A0_2 l0_2.length c0_2, .int .i64 a0_3, .int .i64 a0_4, .int .i64 a0_5, .slice A0_6 l0_6.length c0_6, .slice A0_7 l0_7.length c0_7] 53 (0, 0)) (by (with_reducible repeat (first | refine zf ?_ _ | refine zh ?_ | refine zg ?_ _)); exact zz.1) hb); have n1_ := Aside0.mk (zk (by repeat (first | (with_reducible first | exact HB.1 | apply ze | apply zc | apply zd | refine zi ?_ zD.1) | exact HB.1)) hb); clear zz; clear HB; have zz := n0_; have HB := n1_; clear n0_ n1_; (try clear hb); (try clear hb2); (try clear hk); (try clear hi); have hcz25_0 : w24.cell? ⟨gb295, 0, none⟩ = some (.slice A0_0 l0_0.length c0_0) := (za zz.1 0).trans rfl; have hcz25_1 : w24.cell? ⟨gb295, 1, none⟩ = some (.int .i64 a0_1) := (za zz.1 1).trans rfl; have hcz25_2 : w24.cell? ⟨gb295, 2, none⟩ = some (.slice A0_2 l0_2.length c0_2) := (za zz.1 2).trans rfl; have hcz25_3 : w24.cell? ⟨gb295, 3, none⟩ = some (.int .i64 a0_3) := (za zz.1 3).trans rfl; have hcz25_4 : w24.cell? ⟨gb295, 4, none⟩ = some (.int .i64 a0_4) := (za zz.1 4).trans rfl; have hcz25_5 : w24.cell? ⟨gb295, 5, none⟩ = some (.int .i64 a0_5) := (za zz.1 5).trans rfl; have hcz25_6 : w24.cell? ⟨gb295, 6, none⟩ = some (.slice A0_6 l0_6.length c0_6) := (za zz.1 6).trans rfl; have hcz25_7 : w24.cell? ⟨gb295, 7, none⟩ = some (.slice A0_7 l0_7.length c0_7) := (za zz.1 7).trans rfl; have hfz25_0 := zb zz.1 0; have hfz25_1 := zb zz.1 1; have hfz25_2 := zb zz.1 2; have hfz25_3 := zb zz.1 3; have hfz25_4 := zb zz.1 4; have hfz25_5 := zb zz.1 5; have hfz25_6 := zb zz.1 6; have hfz25_7 := zb zz.1 7) | ((with_reducible refine gate_dst (N := 4) rfl ?_); refine box_event ?hg (N := 4) ?hd (cs := #[.int .i64 0, .slice none 0 0, .int .i64 0, .int .i64 0, .int .i64 0, .slice none 0 0]) (t := 27) ?hr ?_; (case hd => rfl); (case hg => rfl); (case hr => first | (go_simp; done) | (go_simp; rfl)); intro gb297 hg w26 hbox hb; have n0_ := Aside0.mk (zj (g := gb295) (o := .cells #[.slice A0_0 l0_0.length c0_0, .int .i64 a0_1, .slice A0_2 l0_2.length c0_2, .int .i64 a0_3, .int .i64 a0_4, .int .i64 a0_5, .slice A0_6 l0_6.length c0_6, .slice A0_7 l0_7.length c0_7] 53 (0, 0)) (by (with_reducible repeat (first | refine zf ?_ _ | refine zh ?_ | refine zg ?_ _)); exact zz.1) hb); have n1_ := Aside0.mk (zk (by repeat (first | (with_reducible first | exact HB.1 | apply ze | apply zc | apply zd | refine zi ?_ zD.1) | exact HB.1)) hb); have n2_ := Aside0.mk (hbox); have n3_ := Aside0.mk ((by rw [hg]; exact (zr (by repeat (first | (with_reducible first | exact HB.1 | apply ze | apply zc | apply zd | refine zi ?_ zD.1) | exact HB.1))) : w.heap.size ≤ gb297)); have n4_ := Aside0.mk ((by rw [hg]; exact (zr (by repeat (first | (with_reducible first | exact HB.1 | apply ze | apply zc | apply zd | refine zi ?_ zD.1) | exact HB.1))) : w.heap.size ≤ gb297)); have n5_ := Aside0.mk ((by rw [hg]; exact Nat.ne_of_lt (blk_lt (g := gb295) (o := .cells #[.slice A0_0 l0_0.length c0_0, .int .i64 a0_1, .slice A0_2 l0_2.length c0_2, .int .i64 a0_3, .int .i64 a0_4, .int .i64 a0_5, .slice A0_6 l0_6.length c0_6, .slice A0_7 l0_7.length c0_7] 53 (0, 0)) (by (with_reducible repeat (first | refine zf ?_ _ | refine zh ?_ | refine zg ?_ _)); exact zz.1)) : gb295 ≠ gb297)); have n6_ := Aside0.mk ((by rw [hg]; exact Nat.ne_of_gt (blk_lt (g := gb295) (o := .cells #[.slice A0_0 l0_0.length c0_0, .int .i64 a0_1, .slice A0_2 l0_2.length c0_2, .int .i64 a0_3, .int .i64 a0_4, .int .i64 a0_5, .slice A0_6 l0_6.length c0_6, .slice A0_7 l0_7.length c0_7] 53 (0, 0)) (by (with_reducible repeat (first | refine zf ?_ _ | refine zh ?_ | refine zg ?_ _)); exact zz.1)) : gb297 ≠ gb295)); clear zz; clear HB; have zz := n0_; have HB := n1_; have zA := n2_; have GW297 := n3_; have zE := n4_; have zC := n5_; have NB297_295 := n6_; clear n0_ n1_ n2_ n3_ n4_ n5_ n6_; clear hb hbox hg; have hnb27 := NB297_295.1; have hnc27 := zC.1; have hcz28_0 : w26.cell? ⟨gb297, 0, none⟩ = some (.int .i64 0) := (za zA.1 0).trans rfl; have hcz28_1 : w26.cell? ⟨gb297, 1, none⟩ = some (.slice none 0 0) := (za zA.1 1).trans rfl; have hcz28_2 : w26.cell? ⟨gb297, 2, none⟩ = some (.int .i64 0) := (za zA.1 2).trans rfl; have hcz28_3 : w26.cell? ⟨gb297, 3, none⟩ = some (.int .i64 0) := (za zA.1 3).trans rfl; have hcz28_4 : w26.cell? ⟨gb297, 4, none⟩ = some (.int .i64 0) := (za zA.1 4).trans rfl; have hcz28_5 : w26.cell? ⟨gb297, 5, none⟩ = some (.slice none 0 0) := (za zA.1 5).trans rfl; have hfz28_0 := zb zA.1 0; have hfz28_1 := zb zA.1 1; have hfz28_2 := zb zA.1 2; have hfz28_3 := zb zA.1 3; have hfz28_4 := zb zA.1 4; have hfz28_5 := zb zA.1 5))
         have n0_ : Aside0 (((((((w26.setCell ⟨gb297, 0, none⟩ (.int .i64 a0_1)).setCell ⟨gb297, 1, none⟩ (.slice A0_2 l0_2.length c0_2)).setCell ⟨gb297, 2, none⟩ (.int .i64 a0_3)).setCell ⟨gb297, 3, none⟩ (.int .i64 a0_4)).setCell ⟨gb297, 4, none⟩ (.int .i64 a0_5)).setCell ⟨gb297, 5, none⟩ (.slice A0_6 l0_6.length c0_6)).heap[gb295]? = some (.cells #[.slice A0_0 l0_0.length c0_0, .int .i64 a0_1, .slice A0_2 l0_2.length c0_2, .int .i64 a0_3, .int .i64 a0_4, .int .i64 a0_5, .slice A0_6 l0_6.length c0_6, .slice A0_7 l0_7.length c0_7] 53 (0, 0))) := ⟨by (with_reducible repeat (first | refine zf ?_ _ | refine zh ?_ | refine zg ?_ _)); refine blk_far ?_ zC.1 _; (with_reducible repeat (first | refine zf ?_ _ | refine zh ?_ | refine zg ?_ _)); refine blk_far ?_ zC.1 _; (with_reducible repeat (first | refine zf ?_ _ | refine zh ?_ | refine zg ?_ _)); refine blk_far ?_ zC.1 _; (with_reducible repeat (first | refine zf ?_ _ | refine zh ?_ | refine zg ?_ _)); refine blk_far ?_ zC.1 _; (with_reducible repeat (first | refine zf ?_ _ | refine zh ?_ | refine zg ?_ _)); refine blk_far ?_ zC.1 _; (with_reducible repeat (first | refine zf ?_ _ | refine zh ?_ | refine zg ?_ _)); refine blk_far ?_ zC.1 _; (with_reducible repeat (first | refine zf ?_ _ | refine zh ?_ | refine zg ?_ _)); exact zz.1⟩
         have n1_ : Aside0 (((((((w26.setCell ⟨gb297, 0, none⟩ (.int .i64 a0_1)).setCell ⟨gb297, 1, none⟩ (.slice A0_2 l0_2.length c0_2)).setCell ⟨gb297, 2, none⟩ (.int .i64 a0_3)).setCell ⟨gb297, 3, none⟩ (.int .i64 a0_4)).setCell ⟨gb297, 4, none⟩ (.int .i64 a0_5)).setCell ⟨gb297, 5, none⟩ (.slice A0_6 l0_6.length c0_6)).heap[gb297]? = some (.cells #[.int .i64 a0_1, .slice A0_2 l0_2.length c0_2, .int .i64 a0_3, .int .i64 a0_4, .int .i64 a0_5, .slice A0_6 l0_6.length c0_6] 27 (0, 0))) := ⟨by (with_reducible repeat (first | refine zf ?_ _ | refine zh ?_ | refine zg ?_ _)); refine blk_put (cs := #[.int .i64 a0_1, .slice A0_2 l0_2.length c0_2, .int .i64 a0_3, .int .i64 a0_4, .int .i64 a0_5, .slice none 0 0]) ?_ 5 _ rfl; (with_reducible repeat (first | refine zf ?_ _ | refine zh ?_ | refine zg ?_ _)); refine blk_put (cs := #[.int .i64 a0_1, .slice A0_2 l0_2.length c0_2, .int .i64 a0_3, .int .i64 a0_4, .int .i64 0, .slice none 0 0]) ?_ 4 _ rfl; (with_reducible repeat (first | refine zf ?_ _ | refine zh ?_ | refine zg ?_ _)); refine blk_put (cs := #[.int .i64 a0_1, .slice A0_2 l0_2.length c0_2, .int .i64 a0_3, .int .i64 0, .int .i64 0, .slice none 0 0]) ?_ 3 _ rfl; (with_reducible repeat (first | refine zf ?_ _ | refine zh ?_ | refine zg ?_ _)); refine blk_put (cs := #[.int .i64 a0_1, .slice A0_2 l0_2.length c0_2, .int .i64 0, .int .i64 0, .int .i64 0, .slice none 0 0]) ?_ 2 _ rfl; (with_reducible repeat (first | refine zf ?_ _ | refine zh ?_ | refine zg ?_ _)); refine blk_put (cs := #[.int .i64 a0_1, .slice none 0 0, .int .i64 0, .int .i64 0, .int .i64 0, .slice none 0 0]) ?_ 1 _ rfl; (with_reducible repeat (first | refine zf ?_ _ | refine zh ?_ | refine zg ?_ _)); refine blk_put (cs := #[.int .i64 0, .slice none 0 0, .int .i64 0, .int .i64 0, .int .i64 0, .slice none 0 0]) ?_ 0 _ rfl; (with_reducible repeat (first | refine zf ?_ _ | refine zh ?_ | refine zg ?_ _)); exact zA.1⟩
         have n2_ : Aside0 (Below w.heap.size w ((((((w26.setCell ⟨gb297, 0, none⟩ (.int .i64 a0_1)).setCell ⟨gb297, 1, none⟩ (.slice A0_2 l0_2.length c0_2)).setCell ⟨gb297, 2, none⟩ (.int .i64 a0_3)).setCell ⟨gb297, 3, none⟩ (.int .i64 a0_4)).setCell ⟨gb297, 4, none⟩ (.int .i64 a0_5)).setCell ⟨gb297, 5, none⟩ (.slice A0_6 l0_6.length c0_6))) := ⟨by repeat (first | (with_reducible first | exact HB.1 | apply ze | apply zc | apply zd | refine zi ?_ zD.1 | refine zi ?_ zE.1) | exact HB.1)⟩
         (try clear zz)
         (try clear zA)
         (try clear HB)
         generalize ((((((w26.setCell ⟨gb297, 0, none⟩ (.int .i64 a0_1)).setCell ⟨gb297, 1, none⟩ (.slice A0_2 l0_2.length c0_2)).setCell ⟨gb297, 2, none⟩ (.int .i64 a0_3)).setCell ⟨gb297, 3, none⟩ (.int .i64 a0_4)).setCell ⟨gb297, 4, none⟩ (.int .i64 a0_5)).setCell ⟨gb297, 5, none⟩ (.slice A0_6 l0_6.length c0_6)) = w29 at n0_ n1_ n2_ ⊢
         have zz := n0_
         have zA := n1_
         have HB := n2_
         clear n0_ n1_ n2_
         have n0_ := Aside0.mk (zh zz.1)
         have n1_ := Aside0.mk (zh zA.1)
         have n2_ := Aside0.mk (zd HB.1)
         clear zz
         clear zA
         clear HB
         have zz := n0_
         have zA := n1_
         have HB := n2_
         clear n0_ n1_ n2_
         refine start_ (n := 30) (S := fun w' => w'.cell? ⟨gb297, 0, none⟩ = some (.int .i64 a0_1) ∧ w'.cell? ⟨gb297, 1, none⟩ = some (.slice A0_2 l0_2.length c0_2) ∧ w'.cell? ⟨gb297, 2, none⟩ = some (.int .i64 a0_3) ∧ w'.cell? ⟨gb297, 3, none⟩ = some (.int .i64 a0_4) ∧ w'.cell? ⟨gb297, 4, none⟩ = some (.int .i64 a0_5) ∧ w'.cell? ⟨gb297, 5, none⟩ = some (.slice A0_6 l0_6.length c0_6) ∧ w'.cell? ⟨gb295, 0, none⟩ = some (.slice A0_0 l0_0.length c0_0) ∧ w'.cell? ⟨gb295, 1, none⟩ = some (.int .i64 a0_1) ∧ w'.cell? ⟨gb295, 2, none⟩ = some (.slice A0_2 l0_2.length c0_2) ∧ w'.cell? ⟨gb295, 3, none⟩ = some (.int .i64 a0_3) ∧ w'.cell? ⟨gb295, 4, none⟩ = some (.int .i64 a0_4) ∧ w'.cell? ⟨gb295, 5, none⟩ = some (.int .i64 a0_5) ∧ w'.cell? ⟨gb295, 6, none⟩ = some (.slice A0_6 l0_6.length c0_6) ∧ w'.cell? ⟨gb295, 7, none⟩ = some (.slice A0_7 l0_7.length c0_7)) (ds := []) #[false, false, false, false, false, false, false, false, false, false, false, false, false, false, false, false, false, false, false, false, false, false, false, false, false, false, false, false, false, false] (by kernel_rfl) rfl rfl ⟨(za zA.1 0).trans rfl, (za zA.1 1).trans rfl, (za zA.1 2).trans rfl, (za zA.1 3).trans rfl, (za zA.1 4).trans rfl, (za zA.1 5).trans rfl, (za zz.1 0).trans rfl, (za zz.1 1).trans rfl, (za zz.1 2).trans rfl, (za zz.1 3).trans rfl, (za zz.1 4).trans rfl, (za zz.1 5).trans rfl, (za zz.1 6).trans rfl, (za zz.1 7).trans rfl⟩ (fun hHeld => ?_); refine with_tabW impl_updateBytes.tab5 impl_updateBytes.bits5 (fun HT_ HW_ => ?_)
         generalize w29.drew = w30 at zz zA HB hHeld ⊢
         refine zt (i := 0) (N := some 15) (v := ?_) (a' := ?_) #[true, false, false, false, false, false, false, false, false, false, false, false, false, false, false, false, false, false, false, false, false, false, false, false, false, false, false, false, false, false] rfl rfl (zs HT_.1 (by kernel_rfl)) (fun _ _ _ h => h) (Or.inl ⟨by rfl, ?_⟩) ?_ ?_
         rotate_left
         ·
          intro w'
          go_simp
          with_reducible rfl
         rotate_left
         ·
          simp only [Act.put, List.setIfInBounds_toArray, List.set_cons_zero, List.set_cons_succ, zp, zq]
          rfl
         refine zt (i := 1) (N := some 16) (v := ?_) (a' := ?_) #[true, true, false, false, false, false, false, false, false, false, false, false, false, false, false, false, false, false, false, false, false, false, false, false, false, false, false, false, false, false] rfl rfl (zs HT_.1 (by kernel_rfl)) (fun _ _ _ h => h) (Or.inl ⟨by rfl, ?_⟩) ?_ ?_
         rotate_left
         ·
          intro w'
          go_simp
          with_reducible rfl
         rotate_left
         ·
          simp only [Act.put, List.setIfInBounds_toArray, List.set_cons_zero, List.set_cons_succ, zp, zq]
          rfl
         refine zt (i := 5) (N := some 20) (v := ?_) (a' := ?_) #[true, true, false, false, false, true, false, false, false, false, false, false, false, false, false, false, false, false, false, false, false, false, false, false, false, false, false, false, false, false] rfl rfl (zs HT_.1 (by kernel_rfl)) (fun _ _ _ h => h) (Or.inl ⟨by rfl, ?_⟩) ?_ ?_
         rotate_left
         ·
          intro w'
          go_simp
          with_reducible rfl
         rotate_left
         ·
          simp only [Act.put, List.setIfInBounds_toArray, List.set_cons_zero, List.set_cons_succ, zp, zq]
          rfl
         refine zt (i := 9) (N := some 24) (v := ?_) (a' := ?_) #[true, true, false, false, false, true, false, false, false, true, false, false, false, false, false, false, false, false, false, false, false, false, false, false, false, false, false, false, false, false] rfl rfl (zs HT_.1 (by kernel_rfl)) (fun _ _ _ h => h) (Or.inl ⟨by rfl, ?_⟩) ?_ ?_
         rotate_left
         ·
          intro w'
          go_simp
          with_reducible rfl
         rotate_left
         ·
          simp only [Act.put, List.setIfInBounds_toArray, List.set_cons_zero, List.set_cons_succ, zp, zq]
          rfl
         refine zt (i := 13) (N := some 28) (v := ?_) (a' := ?_) #[true, true, false, false, false, true, false, false, false, true, false, false, false, true, false, false, false, false, false, false, false, false, false, false, false, false, false, false, false, false] rfl rfl (zs HT_.1 (by kernel_rfl)) (fun _ _ _ h => h) (Or.inl ⟨by rfl, ?_⟩) ?_ ?_
         rotate_left
         ·
          intro w'
          go_simp
          with_reducible rfl
         rotate_left
         ·
          simp only [Act.put, List.setIfInBounds_toArray, List.set_cons_zero, List.set_cons_succ, zp, zq]
          rfl
         refine zt (i := 17) (N := some 32) (v := ?_) (a' := ?_) #[true, true, false, false, false, true, false, false, false, true, false, false, false, true, false, false, false, true, false, false, false, false, false, false, false, false, false, false, false, false] rfl rfl (zs HT_.1 (by kernel_rfl)) (fun _ _ _ h => h) (Or.inl ⟨by rfl, ?_⟩) ?_ ?_
         rotate_left
         ·
          intro w'
          go_simp
          with_reducible rfl
         rotate_left
         ·
          simp only [Act.put, List.setIfInBounds_toArray, List.set_cons_zero, List.set_cons_succ, zp, zq]
          rfl
         refine zt (i := 21) (N := some 36) (v := ?_) (a' := ?_) #[true, true, false, false, false, true, false, false, false, true, false, false, false, true, false, false, false, true, false, false, false, true, false, false, false, false, false, false, false, false] rfl rfl (zs HT_.1 (by kernel_rfl)) (fun _ _ _ h => h) (Or.inl ⟨by rfl, ?_⟩) ?_ ?_
         rotate_left
         ·
          intro w'
          go_simp
          with_reducible rfl
         rotate_left
         ·
          simp only [Act.put, List.setIfInBounds_toArray, List.set_cons_zero, List.set_cons_succ, zp, zq]
          rfl
         refine zt (i := 25) (N := some 40) (v := ?_) (a' := ?_) #[true, true, false, false, false, true, false, false, false, true, false, false, false, true, false, false, false, true, false, false, false, true, false, false, false, true, false, false, false, false] rfl rfl (zs HT_.1 (by kernel_rfl)) (fun _ _ _ h => h) (Or.inl ⟨by rfl, ?_⟩) ?_ ?_
         rotate_left
         ·
          intro w'
          go_simp
          with_reducible rfl
         rotate_left
         ·
          simp only [Act.put, List.setIfInBounds_toArray, List.set_cons_zero, List.set_cons_succ, zp, zq]
          rfl
         refine zw (i := 2) (N := some 17) (v := ?_) (a' := ?_) #[true, true, true, false, false, true, false, false, false, true, false, false, false, true, false, false, false, true, false, false, false, true, false, false, false, true, false, false, false, false] rfl rfl (zu HT_.1 HW_.1 (by kernel_rfl)) (fun _ _ _ h => h) (Or.inl ⟨by rfl, ?_⟩) hHeld ?_ ?_
         rotate_left
         ·
          rintro w' ⟨s0, s1, s2, s3, s4, s5, s6, s7, s8, s9, s10, s11, s12, s13⟩
          go_simp
          with_reducible rfl
         rotate_left
         ·
          simp only [Act.put, List.setIfInBounds_toArray, List.set_cons_zero, List.set_cons_succ, zp, zq]
          rfl
         refine zw (i := 6) (N := some 21) (v := ?_) (a' := ?_) #[true, true, true, false, false, true, true, false, false, true, false, false, false, true, false, false, false, true, false, false, false, true, false, false, false, true, false, false, false, false] rfl rfl (zu HT_.1 HW_.1 (by kernel_rfl)) (fun _ _ _ h => h) (Or.inl ⟨by rfl, ?_⟩) hHeld ?_ ?_
         rotate_left
         ·
          rintro w' ⟨s0, s1, s2, s3, s4, s5, s6, s7, s8, s9, s10, s11, s12, s13⟩
          go_simp
          with_reducible rfl
         rotate_left
         ·
          simp only [Act.put, List.setIfInBounds_toArray, List.set_cons_zero, List.set_cons_succ, zp, zq]
          rfl
         refine zw (i := 10) (N := some 25) (v := ?_) (a' := ?_) #[true, true, true, false, false, true, true, false, false, true, true, false, false, true, false, false, false, true, false, false, false, true, false, false, false, true, false, false, false, false] rfl rfl (zu HT_.1 HW_.1 (by kernel_rfl)) (fun _ _ _ h => h) (Or.inl ⟨by rfl, ?_⟩) hHeld ?_ ?_
         rotate_left
         ·
          rintro w' ⟨s0, s1, s2, s3, s4, s5, s6, s7, s8, s9, s10, s11, s12, s13⟩
          go_simp
          with_reducible rfl
         rotate_left
         ·
          simp only [Act.put, List.setIfInBounds_toArray, List.set_cons_zero, List.set_cons_succ, zp, zq]
          rfl
         refine zw (i := 14) (N := some 29) (v := ?_) (a' := ?_) #[true, true, true, false, false, true, true, false, false, true, true, false, false, true, true, false, false, true, false, false, false, true, false, false, false, true, false, false, false, false] rfl rfl (zu HT_.1 HW_.1 (by kernel_rfl)) (fun _ _ _ h => h) (Or.inl ⟨by rfl, ?_⟩) hHeld ?_ ?_
         rotate_left
         ·
          rintro w' ⟨s0, s1, s2, s3, s4, s5, s6, s7, s8, s9, s10, s11, s12, s13⟩
          go_simp
          with_reducible rfl
         rotate_left
         ·
          simp only [Act.put, List.setIfInBounds_toArray, List.set_cons_zero, List.set_cons_succ, zp, zq]
          rfl
         refine zw (i := 18) (N := some 33) (v := ?_) (a' := ?_) #[true, true, true, false, false, true, true, false, false, true, true, false, false, true, true, false, false, true, true, false, false, true, false, false, false, true, false, false, false, false] rfl rfl (zu HT_.1 HW_.1 (by kernel_rfl)) (fun _ _ _ h => h) (Or.inl ⟨by rfl, ?_⟩) hHeld ?_ ?_
         rotate_left
         ·
          rintro w' ⟨s0, s1, s2, s3, s4, s5, s6, s7, s8, s9, s10, s11, s12, s13⟩
          go_simp
          with_reducible rfl
         rotate_left
         ·
          simp only [Act.put, List.setIfInBounds_toArray, List.set_cons_zero, List.set_cons_succ, zp, zq]
          rfl
         refine zw (i := 22) (N := some 37) (v := ?_) (a' := ?_) #[true, true, true, false, false, true, true, false, false, true, true, false, false, true, true, false, false, true, true, false, false, true, true, false, false, true, false, false, false, false] rfl rfl (zu HT_.1 HW_.1 (by kernel_rfl)) (fun _ _ _ h => h) (Or.inl ⟨by rfl, ?_⟩) hHeld ?_ ?_
         rotate_left
         ·
          rintro w' ⟨s0, s1, s2, s3, s4, s5, s6, s7, s8, s9, s10, s11, s12, s13⟩
          go_simp
          with_reducible rfl
         rotate_left
         ·
          simp only [Act.put, List.setIfInBounds_toArray, List.set_cons_zero, List.set_cons_succ, zp, zq]
          rfl
         refine zw (i := 26) (N := some 41) (v := ?_) (a' := ?_) #[true, true, true, false, false, true, true, false, false, true, true, false, false, true, true, false, false, true, true, false, false, true, true, false, false, true, true, false, false, false] rfl rfl (zu HT_.1 HW_.1 (by kernel_rfl)) (fun _ _ _ h => h) (Or.inl ⟨by rfl, ?_⟩) hHeld ?_ ?_
         rotate_left
         ·
          rintro w' ⟨s0, s1, s2, s3, s4, s5, s6, s7, s8, s9, s10, s11, s12, s13⟩
          go_simp
          with_reducible rfl
         rotate_left
         ·
          simp only [Act.put, List.setIfInBounds_toArray, List.set_cons_zero, List.set_cons_succ, zp, zq]
          rfl
         refine one_ (i := 3) (N := some 18) #[true, true, true, true, false, true, true, false, false, true, true, false, false, true, true, false, false, true, true, false, false, true, true, false, false, true, true, false, false, false] rfl rfl (zv HT_.1 (by kernel_rfl)) (by decide) (fun K hK => ?_)
         refine zy Try.func104 (by kernel_rfl) rfl #[.int .i64 a0_1, .int .i64 1] (by rfl) rfl rfl (by (try simp only [List.map_toArray, List.map_cons, List.map_nil]); first | done | rfl | (simp only [List.length_drop, List.length_take]; rfl)) ?_
         with_reducible refine (impl_bytesOf.calls k a0_1 1 t298 _ A8.1).mono ?_
         rintro e w31 ⟨rfl, hb⟩
         refine ⟨_, rfl, ?_⟩
         have n0_ := Aside0.mk (zj (g := gb295) (o := .cells #[.slice A0_0 l0_0.length c0_0, .int .i64 a0_1, .slice A0_2 l0_2.length c0_2, .int .i64 a0_3, .int .i64 a0_4, .int .i64 a0_5, .slice A0_6 l0_6.length c0_6, .slice A0_7 l0_7.length c0_7] 53 (0, 0)) (by (with_reducible repeat (first | refine zf ?_ _ | refine zh ?_ | refine zg ?_ _)); exact zz.1) hb)
         have n1_ := Aside0.mk (zj (g := gb297) (o := .cells #[.int .i64 a0_1, .slice A0_2 l0_2.length c0_2, .int .i64 a0_3, .int .i64 a0_4, .int .i64 a0_5, .slice A0_6 l0_6.length c0_6] 27 (0, 0)) (by (with_reducible repeat (first | refine zf ?_ _ | refine zh ?_ | refine zg ?_ _)); exact zA.1) hb)
         have n2_ := Aside0.mk (zk (by repeat (first | (with_reducible first | exact HB.1 | apply ze | apply zc | apply zd | refine zi ?_ zD.1 | refine zi ?_ zE.1) | exact HB.1)) hb)
         clear zz
         clear zA
         clear HB
         have zz := n0_
         have zA := n1_
         have HB := n2_
         clear n0_ n1_ n2_
         (try clear hb)
         (try clear hb2)
         (try clear hk)
         (try clear hi)
         refine hK.out _ _ ⟨(za zA.1 0).trans rfl, (za zA.1 1).trans rfl, (za zA.1 2).trans rfl, (za zA.1 3).trans rfl, (za zA.1 4).trans rfl, (za zA.1 5).trans rfl, (za zz.1 0).trans rfl, (za zz.1 1).trans rfl, (za zz.1 2).trans rfl, (za zz.1 3).trans rfl, (za zz.1 4).trans rfl, (za zz.1 5).trans rfl, (za zz.1 6).trans rfl, (za zz.1 7).trans rfl⟩ (fun hHeld => ?_)
         clear hK K
         refine zx (a' := ?_) ?_ ?_
         rotate_left
         ·
          show Act.put _ (some 18) _ = _
          simp only [Act.put, List.setIfInBounds_toArray, List.set_cons_zero, List.set_cons_succ, zp, zq]
          rfl
         refine zt (i := 4) (N := some 19) (v := ?_) (a' := ?_) #[true, true, true, true, true, true, true, false, false, true, true, false, false, true, true, false, false, true, true, false, false, true, true, false, false, true, true, false, false, false] rfl rfl (zs HT_.1 (by kernel_rfl)) (fun _ _ _ h => h) (Or.inl ⟨by rfl, ?_⟩) ?_ ?_
         rotate_left
         ·
          intro w'
          go_simp
          with_reducible rfl
         rotate_left
         ·
          simp only [Act.put, List.setIfInBounds_toArray, List.set_cons_zero, List.set_cons_succ, zp, zq]
          rfl
         refine one_ (i := 7) (N := some 22) #[true, true, true, true, true, true, true, true, false, true, true, false, false, true, true, false, false, true, true, false, false, true, true, false, false, true, true, false, false, false] rfl rfl (zv HT_.1 (by kernel_rfl)) (by decide) (fun K hK => ?_)
         refine zy Try.func115 (by kernel_rfl) rfl #[.slice A0_2 l0_2.length c0_2, .int .i64 2] (by rfl) rfl rfl (by (try simp only [List.map_toArray, List.map_cons, List.map_nil]); first | done | rfl | (simp only [List.length_drop, List.length_take]; rfl)) ?_
         with_reducible refine (impl_numbersBytes.calls k _ _ l0_2 2 t299 _ ?side1 ?side2 A10.1).mono ?_
         (case side1 => repeat (first | exact (zm zH.1 HB.1) | (with_reducible refine zn ?_ _) | (with_reducible refine zl ?_ _) | (with_reducible refine zo ?_)))
         (case side2 => exact HC0_2.1)
         rintro e w32 ⟨rfl, hb⟩
         refine ⟨_, rfl, ?_⟩
         have n0_ := Aside0.mk (zj (g := gb295) (o := .cells #[.slice A0_0 l0_0.length c0_0, .int .i64 a0_1, .slice A0_2 l0_2.length c0_2, .int .i64 a0_3, .int .i64 a0_4, .int .i64 a0_5, .slice A0_6 l0_6.length c0_6, .slice A0_7 l0_7.length c0_7] 53 (0, 0)) (by (with_reducible repeat (first | refine zf ?_ _ | refine zh ?_ | refine zg ?_ _)); exact zz.1) hb)
         have n1_ := Aside0.mk (zj (g := gb297) (o := .cells #[.int .i64 a0_1, .slice A0_2 l0_2.length c0_2, .int .i64 a0_3, .int .i64 a0_4, .int .i64 a0_5, .slice A0_6 l0_6.length c0_6] 27 (0, 0)) (by (with_reducible repeat (first | refine zf ?_ _ | refine zh ?_ | refine zg ?_ _)); exact zA.1) hb)
         have n2_ := Aside0.mk (zk (by repeat (first | (with_reducible first | exact HB.1 | apply ze | apply zc | apply zd | refine zi ?_ zD.1 | refine zi ?_ zE.1) | exact HB.1)) hb)
         clear zz
         clear zA
         clear HB
         have zz := n0_
         have zA := n1_
         have HB := n2_
         clear n0_ n1_ n2_
         (try clear hb)
         (try clear hb2)
         (try clear hk)
         (try clear hi)
         refine hK.out _ _ ⟨(za zA.1 0).trans rfl, (za zA.1 1).trans rfl, (za zA.1 2).trans rfl, (za zA.1 3).trans rfl, (za zA.1 4).trans rfl, (za zA.1 5).trans rfl, (za zz.1 0).trans rfl, (za zz.1 1).trans rfl, (za zz.1 2).trans rfl, (za zz.1 3).trans rfl, (za zz.1 4).trans rfl, (za zz.1 5).trans rfl, (za zz.1 6).trans rfl, (za zz.1 7).trans rfl⟩ (fun hHeld => ?_)
         clear hK K
         refine zx (a' := ?_) ?_ ?_
         rotate_left
         ·
          show Act.put _ (some 22) _ = _
          simp only [Act.put, List.setIfInBounds_toArray, List.set_cons_zero, List.set_cons_succ, zp, zq]
          rfl
         refine zt (i := 8) (N := some 23) (v := ?_) (a' := ?_) #[true, true, true, true, true, true, true, true, true, true, true, false, false, true, true, false, false, true, true, false, false, true, true, false, false, true, true, false, false, false] rfl rfl (zs HT_.1 (by kernel_rfl)) (fun _ _ _ h => h) (Or.inl ⟨by rfl, ?_⟩) ?_ ?_
         rotate_left
         ·
          intro w'
          go_simp
          with_reducible rfl
         rotate_left
         ·
          simp only [Act.put, List.setIfInBounds_toArray, List.set_cons_zero, List.set_cons_succ, zp, zq]
          rfl
         refine one_ (i := 11) (N := some 26) #[true, true, true, true, true, true, true, true, true, true, true, true, false, true, true, false, false, true, true, false, false, true, true, false, false, true, true, false, false, false] rfl rfl (zv HT_.1 (by kernel_rfl)) (by decide) (fun K hK => ?_)
         refine zy Try.func104 (by kernel_rfl) rfl #[.int .i64 a0_3, .int .i64 4] (by rfl) rfl rfl (by (try simp only [List.map_toArray, List.map_cons, List.map_nil]); first | done | rfl | (simp only [List.length_drop, List.length_take]; rfl)) ?_
         with_reducible refine (impl_bytesOf.calls k a0_3 4 t300 _ A12.1).mono ?_
         rintro e w33 ⟨rfl, hb⟩
         refine ⟨_, rfl, ?_⟩
         have n0_ := Aside0.mk (zj (g := gb295) (o := .cells #[.slice A0_0 l0_0.length c0_0, .int .i64 a0_1, .slice A0_2 l0_2.length c0_2, .int .i64 a0_3, .int .i64 a0_4, .int .i64 a0_5, .slice A0_6 l0_6.length c0_6, .slice A0_7 l0_7.length c0_7] 53 (0, 0)) (by (with_reducible repeat (first | refine zf ?_ _ | refine zh ?_ | refine zg ?_ _)); exact zz.1) hb)
         have n1_ := Aside0.mk (zj (g := gb297) (o := .cells #[.int .i64 a0_1, .slice A0_2 l0_2.length c0_2, .int .i64 a0_3, .int .i64 a0_4, .int .i64 a0_5, .slice A0_6 l0_6.length c0_6] 27 (0, 0)) (by (with_reducible repeat (first | refine zf ?_ _ | refine zh ?_ | refine zg ?_ _)); exact zA.1) hb)
         have n2_ := Aside0.mk (zk (by repeat (first | (with_reducible first | exact HB.1 | apply ze | apply zc | apply zd | refine zi ?_ zD.1 | refine zi ?_ zE.1) | exact HB.1)) hb)
         clear zz
         clear zA
         clear HB
         have zz := n0_
         have zA := n1_
         have HB := n2_
         clear n0_ n1_ n2_
         (try clear hb)
         (try clear hb2)
         (try clear hk)
         (try clear hi)
         refine hK.out _ _ ⟨(za zA.1 0).trans rfl, (za zA.1 1).trans rfl, (za zA.1 2).trans rfl, (za zA.1 3).trans rfl, (za zA.1 4).trans rfl, (za zA.1 5).trans rfl, (za zz.1 0).trans rfl, (za zz.1 1).trans rfl, (za zz.1 2).trans rfl, (za zz.1 3).trans rfl, (za zz.1 4).trans rfl, (za zz.1 5).trans rfl, (za zz.1 6).trans rfl, (za zz.1 7).trans rfl⟩ (fun hHeld => ?_)
         clear hK K
         refine zx (a' := ?_) ?_ ?_
         rotate_left
         ·
          show Act.put _ (some 26) _ = _
          simp only [Act.put, List.setIfInBounds_toArray, List.set_cons_zero, List.set_cons_succ, zp, zq]
          rfl
         refine zt (i := 12) (N := some 27) (v := ?_) (a' := ?_) #[true, true, true, true, true, true, true, true, true, true, true, true, true, true, true, false, false, true, true, false, false, true, true, false, false, true, true, false, false, false] rfl rfl (zs HT_.1 (by kernel_rfl)) (fun _ _ _ h => h) (Or.inl ⟨by rfl, ?_⟩) ?_ ?_
         rotate_left
         ·
          intro w'
          go_simp
          with_reducible rfl
         rotate_left
         ·
          simp only [Act.put, List.setIfInBounds_toArray, List.set_cons_zero, List.set_cons_succ, zp, zq]
          rfl
         refine one_ (i := 15) (N := some 30) #[true, true, true, true, true, true, true, true, true, true, true, true, true, true, true, true, false, true, true, false, false, true, true, false, false, true, true, false, false, false] rfl rfl (zv HT_.1 (by kernel_rfl)) (by decide) (fun K hK => ?_)
         refine zy Try.func104 (by kernel_rfl) rfl #[.int .i64 a0_4, .int .i64 3] (by rfl) rfl rfl (by (try simp only [List.map_toArray, List.map_cons, List.map_nil]); first | done | rfl | (simp only [List.length_drop, List.length_take]; rfl)) ?_
         with_reducible refine (impl_bytesOf.calls k a0_4 3 t301 _ A14.1).mono ?_
         rintro e w34 ⟨rfl, hb⟩
         refine ⟨_, rfl, ?_⟩
         have n0_ := Aside0.mk (zj (g := gb295) (o := .cells #[.slice A0_0 l0_0.length c0_0, .int .i64 a0_1, .slice A0_2 l0_2.length c0_2, .int .i64 a0_3, .int .i64 a0_4, .int .i64 a0_5, .slice A0_6 l0_6.length c0_6, .slice A0_7 l0_7.length c0_7] 53 (0, 0)) (by (with_reducible repeat (first | refine zf ?_ _ | refine zh ?_ | refine zg ?_ _)); exact zz.1) hb)
         have n1_ := Aside0.mk (zj (g := gb297) (o := .cells #[.int .i64 a0_1, .slice A0_2 l0_2.length c0_2, .int .i64 a0_3, .int .i64 a0_4, .int .i64 a0_5, .slice A0_6 l0_6.length c0_6] 27 (0, 0)) (by (with_reducible repeat (first | refine zf ?_ _ | refine zh ?_ | refine zg ?_ _)); exact zA.1) hb)
         have n2_ := Aside0.mk (zk (by repeat (first | (with_reducible first | exact HB.1 | apply ze | apply zc | apply zd | refine zi ?_ zD.1 | refine zi ?_ zE.1) | exact HB.1)) hb)
         clear zz
         clear zA
         clear HB
         have zz := n0_
         have zA := n1_
         have HB := n2_
         clear n0_ n1_ n2_
         (try clear hb)
         (try clear hb2)
         (try clear hk)
         (try clear hi)
         refine hK.out _ _ ⟨(za zA.1 0).trans rfl, (za zA.1 1).trans rfl, (za zA.1 2).trans rfl, (za zA.1 3).trans rfl, (za zA.1 4).trans rfl, (za zA.1 5).trans rfl, (za zz.1 0).trans rfl, (za zz.1 1).trans rfl, (za zz.1 2).trans rfl, (za zz.1 3).trans rfl, (za zz.1 4).trans rfl, (za zz.1 5).trans rfl, (za zz.1 6).trans rfl, (za zz.1 7).trans rfl⟩ (fun hHeld => ?_)
         clear hK K
         refine zx (a' := ?_) ?_ ?_
         rotate_left
         ·
          show Act.put _ (some 30) _ = _
          simp only [Act.put, List.setIfInBounds_toArray, List.set_cons_zero, List.set_cons_succ, zp, zq]
          rfl
         refine zt (i := 16) (N := some 31) (v := ?_) (a' := ?_) #[true, true, true, true, true, true, true, true, true, true, true, true, true, true, true, true, true, true, true, false, false, true, true, false, false, true, true, false, false, false] rfl rfl (zs HT_.1 (by kernel_rfl)) (fun _ _ _ h => h) (Or.inl ⟨by rfl, ?_⟩) ?_ ?_
         rotate_left
         ·
          intro w'
          go_simp
          with_reducible rfl
         rotate_left
         ·
          simp only [Act.put, List.setIfInBounds_toArray, List.set_cons_zero, List.set_cons_succ, zp, zq]
          rfl
         refine one_ (i := 19) (N := some 34) #[true, true, true, true, true, true, true, true, true, true, true, true, true, true, true, true, true, true, true, true, false, true, true, false, false, true, true, false, false, false] rfl rfl (zv HT_.1 (by kernel_rfl)) (by decide) (fun K hK => ?_)
         refine zy Try.func104 (by kernel_rfl) rfl #[.int .i64 a0_5, .int .i64 3] (by rfl) rfl rfl (by (try simp only [List.map_toArray, List.map_cons, List.map_nil]); first | done | rfl | (simp only [List.length_drop, List.length_take]; rfl)) ?_
         with_reducible refine (impl_bytesOf.calls k a0_5 3 t302 _ A16.1).mono ?_
         rintro e w35 ⟨rfl, hb⟩
         refine ⟨_, rfl, ?_⟩
         have n0_ := Aside0.mk (zj (g := gb295) (o := .cells #[.slice A0_0 l0_0.length c0_0, .int .i64 a0_1, .slice A0_2 l0_2.length c0_2, .int .i64 a0_3, .int .i64 a0_4, .int .i64 a0_5, .slice A0_6 l0_6.length c0_6, .slice A0_7 l0_7.length c0_7] 53 (0, 0)) (by (with_reducible repeat (first | refine zf ?_ _ | refine zh ?_ | refine zg ?_ _)); exact zz.1) hb)
         have n1_ := Aside0.mk (zj (g := gb297) (o := .cells #[.int .i64 a0_1, .slice A0_2 l0_2.length c0_2, .int .i64 a0_3, .int .i64 a0_4, .int .i64 a0_5, .slice A0_6 l0_6.length c0_6] 27 (0, 0)) (by (with_reducible repeat (first | refine zf ?_ _ | refine zh ?_ | refine zg ?_ _)); exact zA.1) hb)
         have n2_ := Aside0.mk (zk (by repeat (first | (with_reducible first | exact HB.1 | apply ze | apply zc | apply zd | refine zi ?_ zD.1 | refine zi ?_ zE.1) | exact HB.1)) hb)
         clear zz
         clear zA
         clear HB
         have zz := n0_
         have zA := n1_
         have HB := n2_
         clear n0_ n1_ n2_
         (try clear hb)
         (try clear hb2)
         (try clear hk)
         (try clear hi)
         refine hK.out _ _ ⟨(za zA.1 0).trans rfl, (za zA.1 1).trans rfl, (za zA.1 2).trans rfl, (za zA.1 3).trans rfl, (za zA.1 4).trans rfl, (za zA.1 5).trans rfl, (za zz.1 0).trans rfl, (za zz.1 1).trans rfl, (za zz.1 2).trans rfl, (za zz.1 3).trans rfl, (za zz.1 4).trans rfl, (za zz.1 5).trans rfl, (za zz.1 6).trans rfl, (za zz.1 7).trans rfl⟩ (fun hHeld => ?_)
         clear hK K
         refine zx (a' := ?_) ?_ ?_
         rotate_left
         ·
          show Act.put _ (some 34) _ = _
          simp only [Act.put, List.setIfInBounds_toArray, List.set_cons_zero, List.set_cons_succ, zp, zq]
          rfl
         refine zt (i := 20) (N := some 35) (v := ?_) (a' := ?_) #[true, true, true, true, true, true, true, true, true, true, true, true, true, true, true, true, true, true, true, true, true, true, true, false, false, true, true, false, false, false] rfl rfl (zs HT_.1 (by kernel_rfl)) (fun _ _ _ h => h) (Or.inl ⟨by rfl, ?_⟩) ?_ ?_
         rotate_left
         ·
          intro w'
          go_simp
          with_reducible rfl
         rotate_left
         ·
          simp only [Act.put, List.setIfInBounds_toArray, List.set_cons_zero, List.set_cons_succ, zp, zq]
          rfl
         refine one_ (i := 23) (N := some 38) #[true, true, true, true, true, true, true, true, true, true, true, true, true, true, true, true, true, true, true, true, true, true, true, true, false, true, true, false, false, false] rfl rfl (zv HT_.1 (by kernel_rfl)) (by decide) (fun K hK => ?_)
         refine zy Try.func115 (by kernel_rfl) rfl #[.slice A0_6 l0_6.length c0_6, .int .i64 3] (by rfl) rfl rfl (by (try simp only [List.map_toArray, List.map_cons, List.map_nil]); first | done | rfl | (simp only [List.length_drop, List.length_take]; rfl)) ?_
         with_reducible refine (impl_numbersBytes.calls k _ _ l0_6 3 t303 _ ?side1 ?side2 A18.1).mono ?_
         (case side1 => repeat (first | exact (zm zI.1 HB.1) | (with_reducible refine zn ?_ _) | (with_reducible refine zl ?_ _) | (with_reducible refine zo ?_)))
         (case side2 => exact HC0_6.1)
         rintro e w36 ⟨rfl, hb⟩
         refine ⟨_, rfl, ?_⟩
         have n0_ := Aside0.mk (zj (g := gb295) (o := .cells #[.slice A0_0 l0_0.length c0_0, .int .i64 a0_1, .slice A0_2 l0_2.length c0_2, .int .i64 a0_3, .int .i64 a0_4, .int .i64 a0_5, .slice A0_6 l0_6.length c0_6, .slice A0_7 l0_7.length c0_7] 53 (0, 0)) (by (with_reducible repeat (first | refine zf ?_ _ | refine zh ?_ | refine zg ?_ _)); exact zz.1) hb)
         have n1_ := Aside0.mk (zj (g := gb297) (o := .cells #[.int .i64 a0_1, .slice A0_2 l0_2.length c0_2, .int .i64 a0_3, .int .i64 a0_4, .int .i64 a0_5, .slice A0_6 l0_6.length c0_6] 27 (0, 0)) (by (with_reducible repeat (first | refine zf ?_ _ | refine zh ?_ | refine zg ?_ _)); exact zA.1) hb)
         have n2_ := Aside0.mk (zk (by repeat (first | (with_reducible first | exact HB.1 | apply ze | apply zc | apply zd | refine zi ?_ zD.1 | refine zi ?_ zE.1) | exact HB.1)) hb)
         clear zz
         clear zA
         clear HB
         have zz := n0_
         have zA := n1_
         have HB := n2_
         clear n0_ n1_ n2_
         (try clear hb)
         (try clear hb2)
         (try clear hk)
         (try clear hi)
         refine hK.out _ _ ⟨(za zA.1 0).trans rfl, (za zA.1 1).trans rfl, (za zA.1 2).trans rfl, (za zA.1 3).trans rfl, (za zA.1 4).trans rfl, (za zA.1 5).trans rfl, (za zz.1 0).trans rfl, (za zz.1 1).trans rfl, (za zz.1 2).trans rfl, (za zz.1 3).trans rfl, (za zz.1 4).trans rfl, (za zz.1 5).trans rfl, (za zz.1 6).trans rfl, (za zz.1 7).trans rfl⟩ (fun hHeld => ?_)
         clear hK K
         refine zx (a' := ?_) ?_ ?_
         rotate_left
         ·
          show Act.put _ (some 38) _ = _
          simp only [Act.put, List.setIfInBounds_toArray, List.set_cons_zero, List.set_cons_succ, zp, zq]
          rfl
         refine zt (i := 24) (N := some 39) (v := ?_) (a' := ?_) #[true, true, true, true, true, true, true, true, true, true, true, true, true, true, true, true, true, true, true, true, true, true, true, true, true, true, true, false, false, false] rfl rfl (zs HT_.1 (by kernel_rfl)) (fun _ _ _ h => h) (Or.inl ⟨by rfl, ?_⟩) ?_ ?_
         rotate_left
         ·
          intro w'
          go_simp
          with_reducible rfl
         rotate_left
         ·
          simp only [Act.put, List.setIfInBounds_toArray, List.set_cons_zero, List.set_cons_succ, zp, zq]
          rfl
         refine one_ (i := 27) (N := some 42) #[true, true, true, true, true, true, true, true, true, true, true, true, true, true, true, true, true, true, true, true, true, true, true, true, true, true, true, true, false, false] rfl rfl (zv HT_.1 (by kernel_rfl)) (by decide) (fun K hK => ?_)
         refine zy Try.func114 (by kernel_rfl) rfl #[.slice A0_7 l0_7.length c0_7] (by rfl) rfl rfl (by (try simp only [List.map_toArray, List.map_cons, List.map_nil]); first | done | rfl | (simp only [List.length_drop, List.length_take]; rfl)) ?_
         with_reducible refine (impl_prefixesBytes.calls k _ _ l0_7 t304 _ ?side1 ?side2 A20.1).mono ?_
         (case side1 => repeat (first | exact (zm zJ.1 HB.1) | (with_reducible refine zn ?_ _) | (with_reducible refine zl ?_ _) | (with_reducible refine zo ?_)))
         (case side2 => exact HC0_7.1)
         rintro e w37 ⟨rfl, hb⟩
         refine ⟨_, rfl, ?_⟩
         have n0_ := Aside0.mk (zj (g := gb295) (o := .cells #[.slice A0_0 l0_0.length c0_0, .int .i64 a0_1, .slice A0_2 l0_2.length c0_2, .int .i64 a0_3, .int .i64 a0_4, .int .i64 a0_5, .slice A0_6 l0_6.length c0_6, .slice A0_7 l0_7.length c0_7] 53 (0, 0)) (by (with_reducible repeat (first | refine zf ?_ _ | refine zh ?_ | refine zg ?_ _)); exact zz.1) hb)
         have n1_ := Aside0.mk (zj (g := gb297) (o := .cells #[.int .i64 a0_1, .slice A0_2 l0_2.length c0_2, .int .i64 a0_3, .int .i64 a0_4, .int .i64 a0_5, .slice A0_6 l0_6.length c0_6] 27 (0, 0)) (by (with_reducible repeat (first | refine zf ?_ _ | refine zh ?_ | refine zg ?_ _)); exact zA.1) hb)
         have n2_ := Aside0.mk (zk (by repeat (first | (with_reducible first | exact HB.1 | apply ze | apply zc | apply zd | refine zi ?_ zD.1 | refine zi ?_ zE.1) | exact HB.1)) hb)
         clear zz
         clear zA
         clear HB
         have zz := n0_
         have zA := n1_
         have HB := n2_
         clear n0_ n1_ n2_
         (try clear hb)
         (try clear hb2)
         (try clear hk)
         (try clear hi)
         refine hK.out _ _ ⟨(za zA.1 0).trans rfl, (za zA.1 1).trans rfl, (za zA.1 2).trans rfl, (za zA.1 3).trans rfl, (za zA.1 4).trans rfl, (za zA.1 5).trans rfl, (za zz.1 0).trans rfl, (za zz.1 1).trans rfl, (za zz.1 2).trans rfl, (za zz.1 3).trans rfl, (za zz.1 4).trans rfl, (za zz.1 5).trans rfl, (za zz.1 6).trans rfl, (za zz.1 7).trans rfl⟩ (fun hHeld => ?_)
         clear hK K
         refine zx (a' := ?_) ?_ ?_
         rotate_left
         ·
          show Act.put _ (some 42) _ = _
          simp only [Act.put, List.setIfInBounds_toArray, List.set_cons_zero, List.set_cons_succ, zp, zq]
          rfl
         refine zt (i := 28) (N := some 43) (v := ?_) (a' := ?_) #[true, true, true, true, true, true, true, true, true, true, true, true, true, true, true, true, true, true, true, true, true, true, true, true, true, true, true, true, true, false] rfl rfl (zs HT_.1 (by kernel_rfl)) (fun _ _ _ h => h) (Or.inl ⟨by rfl, ?_⟩) ?_ ?_
         rotate_left
         ·
          intro w'
          go_simp
          with_reducible rfl
         rotate_left
         ·
          simp only [Act.put, List.setIfInBounds_toArray, List.set_cons_zero, List.set_cons_succ, zp, zq]
          rfl
         refine zt (i := 29) (N := some 2) (v := ?_) (a' := ?_) #[true, true, true, true, true, true, true, true, true, true, true, true, true, true, true, true, true, true, true, true, true, true, true, true, true, true, true, true, true, true] rfl rfl (zs HT_.1 (by kernel_rfl)) (fun _ _ _ h => h) (Or.inl ⟨by rfl, ?_⟩) ?_ ?_
         rotate_left
         ·
          intro w'
          go_simp
          with_reducible rfl
         rotate_left
         ·
          simp only [Act.put, List.setIfInBounds_toArray, List.set_cons_zero, List.set_cons_succ, zp, zq]
          rfl
         refine done_ (done_of HT_.1 (by kernel_rfl)) ?_
         try go_wp2
         go_ret
         exact ⟨by first | rfl | (simp [errW_none, errW_some] <;> rfl) | (simp [*, errW_none, errW_some] <;> rfl), by repeat (first | (with_reducible first | exact HB.1 | apply ze | apply zc | apply zd | refine zi ?_ zD.1 | refine zi ?_ zE.1) | exact HB.1)⟩
        ·
         rw [if_neg c21] at H
         exact absurd H (by simp)
       ·
        rw [if_neg c19] at H
        exact absurd H (by simp)
      ·
       rw [if_neg c17] at H
       exact absurd H (by simp)
     ·
      rw [if_neg c15] at H
      exact absurd H (by simp)
    ·
     rw [if_neg c13] at H
     exact absurd H (by simp)
   ·
    rw [if_neg c11] at H
    exact absurd H (by simp)
  ·
   rw [if_neg c9] at H
   exact absurd H (by simp)

/-! ### impl_UpdateBytes: function 33 -/
def impl_UpdateBytes.f (k : Nat) (l0_0 : List (S35)) (a0_1 : Int) (l0_2 : List Int) (a0_3 : Int) (a0_4 : Int) (a0_5 : Int) (l0_6 : List Int) (l0_7 : List (S35)) : Option (ByteArray × Bool) := (impl_GoodUpdate.f k l0_0 a0_1 l0_2 a0_3 a0_4 a0_5 l0_6 l0_7).bind fun t306 => (if t306 = true then ((impl_updateBytes.f k l0_0 a0_1 l0_2 a0_3 a0_4 a0_5 l0_6 l0_7).bind fun t307 => (some (t307, true))) else (some ((⟨#[]⟩ : ByteArray), false)))
theorem impl_UpdateBytes.mono : ∀ a0 a1 a2 a3 a4 a5 a6 a7 k, LeO (impl_UpdateBytes.f k a0 a1 a2 a3 a4 a5 a6 a7) (impl_UpdateBytes.f (k + 1) a0 a1 a2 a3 a4 a5 a6 a7) := by
 intro a0 a1 a2 a3 a4 a5 a6 a7 k
 unfold impl_UpdateBytes.f
 repeat' first
   | (with_reducible exact impl_GoodUpdate.mono _ _ _ _ _ _ _ _ _)
   | (with_reducible exact impl_updateBytes.mono _ _ _ _ _ _ _ _ _)
   | (with_reducible exact LeO.refl _)
   | (with_reducible exact LeO.none _)
   | (with_reducible refine LeO.ite ?_ ?_)
   | (with_reducible refine LeO.bind ?_ (fun _ => ?_))
   | exact impl_GoodUpdate.mono _ _ _ _ _ _ _ _ _
   | exact impl_updateBytes.mono _ _ _ _ _ _ _ _ _
   | exact LeO.none _
   | refine LeO.ite ?_ ?_
   | refine LeO.bind ?_ (fun _ => ?_)
set_option maxHeartbeats 8000000 in
set_option maxRecDepth 100000 in
theorem impl_UpdateBytes.calls (k : Nat) (A0_0 : Option Addr) (c0_0 : Nat) (l0_0 : List (S35)) (a0_1 : Int) (A0_2 : Option Addr) (c0_2 : Nat) (l0_2 : List Int) (a0_3 : Int) (a0_4 : Int) (a0_5 : Int) (A0_6 : Option Addr) (c0_6 : Nat) (l0_6 : List Int) (A0_7 : Option Addr) (c0_7 : Nat) (l0_7 : List (S35)) (r1 : ByteArray) (r2 : Bool) (w : World) (hr0_0 : Kd.C k35 w A0_0 l0_0.length l0_0) (hc0_0 : l0_0.length ≤ c0_0) (hr0_2 : Kd.C (Kd.int .i64) w A0_2 l0_2.length l0_2) (hc0_2 : l0_2.length ≤ c0_2) (hr0_6 : Kd.C (Kd.int .i64) w A0_6 l0_6.length l0_6) (hc0_6 : l0_6.length ≤ c0_6) (hr0_7 : Kd.C k35 w A0_7 l0_7.length l0_7) (hc0_7 : l0_7.length ≤ c0_7) (h : impl_UpdateBytes.f k l0_0 a0_1 l0_2 a0_3 a0_4 a0_5 l0_6 l0_7 = some (r1, r2)) :
  Calls Try.prog 33 #[.agg #[.slice A0_0 l0_0.length c0_0, .int .i64 a0_1, .slice A0_2 l0_2.length c0_2, .int .i64 a0_3, .int .i64 a0_4, .int .i64 a0_5, .slice A0_6 l0_6.length c0_6, .slice A0_7 l0_7.length c0_7]] w fun e w' => e = .returned (.tuple #[.string r1, .bool r2]) ∧ Below w.heap.size w w' := by
 have hu53 := Try.underlying53
 have zF := Aside0.mk hr0_0
 have HC0_0 := Aside0.mk hc0_0
 clear hr0_0 hc0_0
 have zH := Aside0.mk hr0_2
 have HC0_2 := Aside0.mk hc0_2
 clear hr0_2 hc0_2
 have zI := Aside0.mk hr0_6
 have HC0_6 := Aside0.mk hc0_6
 clear hr0_6 hc0_6
 have zJ := Aside0.mk hr0_7
 have HC0_7 := Aside0.mk hc0_7
 clear hr0_7 hc0_7
 have HB := Aside0.mk (Below.refl w.heap.size w)
 have H : ((impl_GoodUpdate.f k l0_0 a0_1 l0_2 a0_3 a0_4 a0_5 l0_6 l0_7).bind fun t306 => (if t306 = true then ((impl_updateBytes.f k l0_0 a0_1 l0_2 a0_3 a0_4 a0_5 l0_6 l0_7).bind fun t307 => (some (t307, true))) else (some ((⟨#[]⟩ : ByteArray), false)))) = some (r1, r2) := h
 clear h
 replace H := Option.bind_eq_some_iff.mp H
 obtain ⟨t306, A20, H⟩ := H
 replace H : (if t306 = true then ((impl_updateBytes.f k l0_0 a0_1 l0_2 a0_3 a0_4 a0_5 l0_6 l0_7).bind fun t307 => (some (t307, true))) else (some ((⟨#[]⟩ : ByteArray), false))) = some (r1, r2) := H
 have A2 := Aside0.mk A20
 clear A20
 by_cases c3 : t306 = true
 ·
  subst c3
  have H1 : ((impl_updateBytes.f k l0_0 a0_1 l0_2 a0_3 a0_4 a0_5 l0_6 l0_7).bind fun t307 => (some (t307, true))) = some (r1, r2) := by rw [if_pos rfl] at H; exact H
  clear H
  have H := H1
  clear H1
  replace H := Option.bind_eq_some_iff.mp H
  obtain ⟨t307, A40, H⟩ := H
  replace H : (some (t307, true)) = some (r1, r2) := H
  have A4 := Aside0.mk A40
  clear A40
  simp only [Option.some.injEq, Prod.mk.injEq] at H
  obtain ⟨rfl, rfl⟩ := H
  go_enter Try.func33, Try.ntmps33
  go_wp2_with (first | ((with_reducible refine gate_dst (N := 1) rfl ?_); refine box_event ?hg (N := 1) ?hd (cs := #[.slice A0_0 l0_0.length c0_0, .int .i64 a0_1, .slice A0_2 l0_2.length c0_2, .int .i64 a0_3, .int .i64 a0_4, .int .i64 a0_5, .slice A0_6 l0_6.length c0_6, .slice A0_7 l0_7.length c0_7]) (t := 53) ?hr ?_; (case hd => rfl); (case hg => rfl); (case hr => first | (go_simp; done) | (go_simp; rfl)); intro gb305 hg w5 hbox hb; have n0_ := Aside0.mk (zk (by repeat (first | (with_reducible first | exact HB.1 | apply ze | apply zc | apply zd) | exact HB.1)) hb); have n1_ := Aside0.mk (hbox); have n2_ := Aside0.mk ((by rw [hg]; exact (zr (by repeat (first | (with_reducible first | exact HB.1 | apply ze | apply zc | apply zd) | exact HB.1))) : w.heap.size ≤ gb305)); have n3_ := Aside0.mk ((by rw [hg]; exact (zr (by repeat (first | (with_reducible first | exact HB.1 | apply ze | apply zc | apply zd) | exact HB.1))) : w.heap.size ≤ gb305)); clear HB; have HB := n0_; have zB := n1_; have GW305 := n2_; have zG := n3_; clear n0_ n1_ n2_ n3_; clear hb hbox hg; have hcz6_0 : w5.cell? ⟨gb305, 0, none⟩ = some (.slice A0_0 l0_0.length c0_0) := (za zB.1 0).trans rfl; have hcz6_1 : w5.cell? ⟨gb305, 1, none⟩ = some (.int .i64 a0_1) := (za zB.1 1).trans rfl; have hcz6_2 : w5.cell? ⟨gb305, 2, none⟩ = some (.slice A0_2 l0_2.length c0_2) := (za zB.1 2).trans rfl; have hcz6_3 : w5.cell? ⟨gb305, 3, none⟩ = some (.int .i64 a0_3) := (za zB.1 3).trans rfl; have hcz6_4 : w5.cell? ⟨gb305, 4, none⟩ = some (.int .i64 a0_4) := (za zB.1 4).trans rfl; have hcz6_5 : w5.cell? ⟨gb305, 5, none⟩ = some (.int .i64 a0_5) := (za zB.1 5).trans rfl; have hcz6_6 : w5.cell? ⟨gb305, 6, none⟩ = some (.slice A0_6 l0_6.length c0_6) := (za zB.1 6).trans rfl; have hcz6_7 : w5.cell? ⟨gb305, 7, none⟩ = some (.slice A0_7 l0_7.length c0_7) := (za zB.1 7).trans rfl; have hfz6_0 := zb zB.1 0; have hfz6_1 := zb zB.1 1; have hfz6_2 := zb zB.1 2; have hfz6_3 := zb zB.1 3; have hfz6_4 := zb zB.1 4; have hfz6_5 := zb zB.1 5; have hfz6_6 := zb zB.1 6; have hfz6_7 := zb zB.1 7) | ((with_reducible refine gate_callee (f := 30) rfl ?_); refine goesL_ (some 5) rfl rfl Try.func30 (by kernel_rfl) rfl #[.agg #[.slice A0_0 l0_0.length c0_0, .int .i64 a0_1, .slice A0_2 l0_2.length c0_2, .int .i64 a0_3, .int .i64 a0_4, .int .i64 a0_5, .slice A0_6 l0_6.length c0_6, .slice A0_7 l0_7.length c0_7]] rfl (by (try simp only [List.map_toArray, List.map_cons, List.map_nil]); first | done | rfl | (simp only [List.length_drop, List.length_take]; rfl)) ?_; (with_reducible refine (impl_GoodUpdate.calls k _ _ l0_0 a0_1 _ _ l0_2 a0_3 a0_4 a0_5 _ _ l0_6 _ _ l0_7 true _ ?side1 ?side2 ?side3 ?side4 ?side5 ?side6 ?side7 ?side8 A2.1).mono ?_); (case side1 => repeat (first | exact (zm zF.1 HB.1) | (with_reducible refine zn ?_ _) | (with_reducible refine zl ?_ _) | (with_reducible refine zo ?_))); (case side2 => exact HC0_0.1); (case side3 => repeat (first | exact (zm zH.1 HB.1) | (with_reducible refine zn ?_ _) | (with_reducible refine zl ?_ _) | (with_reducible refine zo ?_))); (case side4 => exact HC0_2.1); (case side5 => repeat (first | exact (zm zI.1 HB.1) | (with_reducible refine zn ?_ _) | (with_reducible refine zl ?_ _) | (with_reducible refine zo ?_))); (case side6 => exact HC0_6.1); (case side7 => repeat (first | exact (zm zJ.1 HB.1) | (with_reducible refine zn ?_ _) | (with_reducible refine zl ?_ _) | (with_reducible refine zo ?_))); (case side8 => exact HC0_7.1); rintro e w7 ⟨rfl, hb⟩; refine ⟨_, rfl, ?_⟩; have n0_ := Aside0.mk (zj (g := gb305) (o := .cells #[.slice A0_0 l0_0.length c0_0, .int .i64 a0_1, .slice A0_2 l0_2.length c0_2, .int .i64 a0_3, .int .i64 a0_4, .int .i64 a0_5, .slice A0_6 l0_6.length c0_6, .slice A0_7 l0_7.length c0_7] 53 (0, 0)) (by (with_reducible repeat (first | refine zf ?_ _ | refine zh ?_ | refine zg ?_ _)); exact zB.1) hb); have n1_ := Aside0.mk (zk (by repeat (first | (with_reducible first | exact HB.1 | apply ze | apply zc | apply zd | refine zi ?_ zG.1) | exact HB.1)) hb); clear zB; clear HB; have zB := n0_; have HB := n1_; clear n0_ n1_; (try clear hb); (try clear hb2); (try clear hk); (try clear hi); have hcz8_0 : w7.cell? ⟨gb305, 0, none⟩ = some (.slice A0_0 l0_0.length c0_0) := (za zB.1 0).trans rfl; have hcz8_1 : w7.cell? ⟨gb305, 1, none⟩ = some (.int .i64 a0_1) := (za zB.1 1).trans rfl; have hcz8_2 : w7.cell? ⟨gb305, 2, none⟩ = some (.slice A0_2 l0_2.length c0_2) := (za zB.1 2).trans rfl; have hcz8_3 : w7.cell? ⟨gb305, 3, none⟩ = some (.int .i64 a0_3) := (za zB.1 3).trans rfl; have hcz8_4 : w7.cell? ⟨gb305, 4, none⟩ = some (.int .i64 a0_4) := (za zB.1 4).trans rfl; have hcz8_5 : w7.cell? ⟨gb305, 5, none⟩ = some (.int .i64 a0_5) := (za zB.1 5).trans rfl; have hcz8_6 : w7.cell? ⟨gb305, 6, none⟩ = some (.slice A0_6 l0_6.length c0_6) := (za zB.1 6).trans rfl; have hcz8_7 : w7.cell? ⟨gb305, 7, none⟩ = some (.slice A0_7 l0_7.length c0_7) := (za zB.1 7).trans rfl; have hfz8_0 := zb zB.1 0; have hfz8_1 := zb zB.1 1; have hfz8_2 := zb zB.1 2; have hfz8_3 := zb zB.1 3; have hfz8_4 := zb zB.1 4; have hfz8_5 := zb zB.1 5; have hfz8_6 := zb zB.1 6; have hfz8_7 := zb zB.1 7) | ((with_reducible refine gate_callee (f := 80) rfl ?_); refine goesL_ (some 8) rfl rfl Try.func80 (by kernel_rfl) rfl #[.agg #[.slice A0_0 l0_0.length c0_0, .int .i64 a0_1, .slice A0_2 l0_2.length c0_2, .int .i64 a0_3, .int .i64 a0_4, .int .i64 a0_5, .slice A0_6 l0_6.length c0_6, .slice A0_7 l0_7.length c0_7]] rfl (by (try simp only [List.map_toArray, List.map_cons, List.map_nil]); first | done | rfl | (simp only [List.length_drop, List.length_take]; rfl)) ?_; (with_reducible refine (impl_updateBytes.calls k _ _ l0_0 a0_1 _ _ l0_2 a0_3 a0_4 a0_5 _ _ l0_6 _ _ l0_7 t307 _ ?side1 ?side2 ?side3 ?side4 ?side5 ?side6 ?side7 ?side8 A4.1).mono ?_); (case side1 => repeat (first | exact (zm zF.1 HB.1) | (with_reducible refine zn ?_ _) | (with_reducible refine zl ?_ _) | (with_reducible refine zo ?_))); (case side2 => exact HC0_0.1); (case side3 => repeat (first | exact (zm zH.1 HB.1) | (with_reducible refine zn ?_ _) | (with_reducible refine zl ?_ _) | (with_reducible refine zo ?_))); (case side4 => exact HC0_2.1); (case side5 => repeat (first | exact (zm zI.1 HB.1) | (with_reducible refine zn ?_ _) | (with_reducible refine zl ?_ _) | (with_reducible refine zo ?_))); (case side6 => exact HC0_6.1); (case side7 => repeat (first | exact (zm zJ.1 HB.1) | (with_reducible refine zn ?_ _) | (with_reducible refine zl ?_ _) | (with_reducible refine zo ?_))); (case side8 => exact HC0_7.1); rintro e w9 ⟨rfl, hb⟩; refine ⟨_, rfl, ?_⟩; have n0_ := Aside0.mk (zj (g := gb305) (o := .cells #[.slice A0_0 l0_0.length c0_0, .int .i64 a0_1, .slice A0_2 l0_2.length c0_2, .int .i64 a0_3, .int .i64 a0_4, .int .i64 a0_5, .slice A0_6 l0_6.length c0_6, .slice A0_7 l0_7.length c0_7] 53 (0, 0)) (by (with_reducible repeat (first | refine zf ?_ _ | refine zh ?_ | refine zg ?_ _)); exact zB.1) hb); have n1_ := Aside0.mk (zk (by repeat (first | (with_reducible first | exact HB.1 | apply ze | apply zc | apply zd | refine zi ?_ zG.1) | exact HB.1)) hb); clear zB; clear HB; have zB := n0_; have HB := n1_; clear n0_ n1_; (try clear hb); (try clear hb2); (try clear hk); (try clear hi)))
  go_ret2
  exact ⟨by first | rfl | (simp [errW_none, errW_some] <;> rfl) | (simp [*, errW_none, errW_some] <;> rfl), by repeat (first | (with_reducible first | exact HB.1 | apply ze | apply zc | apply zd | refine zi ?_ zG.1) | exact HB.1)⟩
 ·
  replace c3 := Bool.eq_false_iff.mpr c3
  subst c3
  have H1 : (some ((⟨#[]⟩ : ByteArray), false)) = some (r1, r2) := by rw [if_neg (show ¬ (false = true) by decide)] at H; exact H
  clear H
  have H := H1
  clear H1
  simp only [Option.some.injEq, Prod.mk.injEq] at H
  obtain ⟨rfl, rfl⟩ := H
  go_enter Try.func33, Try.ntmps33
  go_wp2_with (first | ((with_reducible refine gate_dst (N := 1) rfl ?_); refine box_event ?hg (N := 1) ?hd (cs := #[.slice A0_0 l0_0.length c0_0, .int .i64 a0_1, .slice A0_2 l0_2.length c0_2, .int .i64 a0_3, .int .i64 a0_4, .int .i64 a0_5, .slice A0_6 l0_6.length c0_6, .slice A0_7 l0_7.length c0_7]) (t := 53) ?hr ?_; (case hd => rfl); (case hg => rfl); (case hr => first | (go_simp; done) | (go_simp; rfl)); intro gb305 hg w10 hbox hb; have n0_ := Aside0.mk (zk (by repeat (first | (with_reducible first | exact HB.1 | apply ze | apply zc | apply zd) | exact HB.1)) hb); have n1_ := Aside0.mk (hbox); have n2_ := Aside0.mk ((by rw [hg]; exact (zr (by repeat (first | (with_reducible first | exact HB.1 | apply ze | apply zc | apply zd) | exact HB.1))) : w.heap.size ≤ gb305)); have n3_ := Aside0.mk ((by rw [hg]; exact (zr (by repeat (first | (with_reducible first | exact HB.1 | apply ze | apply zc | apply zd) | exact HB.1))) : w.heap.size ≤ gb305)); clear HB; have HB := n0_; have zB := n1_; have GW305 := n2_; have zG := n3_; clear n0_ n1_ n2_ n3_; clear hb hbox hg; have hcz11_0 : w10.cell? ⟨gb305, 0, none⟩ = some (.slice A0_0 l0_0.length c0_0) := (za zB.1 0).trans rfl; have hcz11_1 : w10.cell? ⟨gb305, 1, none⟩ = some (.int .i64 a0_1) := (za zB.1 1).trans rfl; have hcz11_2 : w10.cell? ⟨gb305, 2, none⟩ = some (.slice A0_2 l0_2.length c0_2) := (za zB.1 2).trans rfl; have hcz11_3 : w10.cell? ⟨gb305, 3, none⟩ = some (.int .i64 a0_3) := (za zB.1 3).trans rfl; have hcz11_4 : w10.cell? ⟨gb305, 4, none⟩ = some (.int .i64 a0_4) := (za zB.1 4).trans rfl; have hcz11_5 : w10.cell? ⟨gb305, 5, none⟩ = some (.int .i64 a0_5) := (za zB.1 5).trans rfl; have hcz11_6 : w10.cell? ⟨gb305, 6, none⟩ = some (.slice A0_6 l0_6.length c0_6) := (za zB.1 6).trans rfl; have hcz11_7 : w10.cell? ⟨gb305, 7, none⟩ = some (.slice A0_7 l0_7.length c0_7) := (za zB.1 7).trans rfl; have hfz11_0 := zb zB.1 0; have hfz11_1 := zb zB.1 1; have hfz11_2 := zb zB.1 2; have hfz11_3 := zb zB.1 3; have hfz11_4 := zb zB.1 4; have hfz11_5 := zb zB.1 5; have hfz11_6 := zb zB.1 6; have hfz11_7 := zb zB.1 7) | ((with_reducible refine gate_callee (f := 30) rfl ?_); refine goesL_ (some 5) rfl rfl Try.func30 (by kernel_rfl) rfl #[.agg #[.slice A0_0 l0_0.length c0_0, .int .i64 a0_1, .slice A0_2 l0_2.length c0_2, .int .i64 a0_3, .int .i64 a0_4, .int .i64 a0_5, .slice A0_6 l0_6.length c0_6, .slice A0_7 l0_7.length c0_7]] rfl (by (try simp only [List.map_toArray, List.map_cons, List.map_nil]); first | done | rfl | (simp only [List.length_drop, List.length_take]; rfl)) ?_; (with_reducible refine (impl_GoodUpdate.calls k _ _ l0_0 a0_1 _ _ l0_2 a0_3 a0_4 a0_5 _ _ l0_6 _ _ l0_7 false _ ?side1 ?side2 ?side3 ?side4 ?side5 ?side6 ?side7 ?side8 A2.1).mono ?_); (case side1 => repeat (first | exact (zm zF.1 HB.1) | (with_reducible refine zn ?_ _) | (with_reducible refine zl ?_ _) | (with_reducible refine zo ?_))); (case side2 => exact HC0_0.1); (case side3 => repeat (first | exact (zm zH.1 HB.1) | (with_reducible refine zn ?_ _) | (with_reducible refine zl ?_ _) | (with_reducible refine zo ?_))); (case side4 => exact HC0_2.1); (case side5 => repeat (first | exact (zm zI.1 HB.1) | (with_reducible refine zn ?_ _) | (with_reducible refine zl ?_ _) | (with_reducible refine zo ?_))); (case side6 => exact HC0_6.1); (case side7 => repeat (first | exact (zm zJ.1 HB.1) | (with_reducible refine zn ?_ _) | (with_reducible refine zl ?_ _) | (with_reducible refine zo ?_))); (case side8 => exact HC0_7.1); rintro e w12 ⟨rfl, hb⟩; refine ⟨_, rfl, ?_⟩; have n0_ := Aside0.mk (zj (g := gb305) (o := .cells #[.slice A0_0 l0_0.length c0_0, .int .i64 a0_1, .slice A0_2 l0_2.length c0_2, .int .i64 a0_3, .int .i64 a0_4, .int .i64 a0_5, .slice A0_6 l0_6.length c0_6, .slice A0_7 l0_7.length c0_7] 53 (0, 0)) (by (with_reducible repeat (first | refine zf ?_ _ | refine zh ?_ | refine zg ?_ _)); exact zB.1) hb); have n1_ := Aside0.mk (zk (by repeat (first | (with_reducible first | exact HB.1 | apply ze | apply zc | apply zd | refine zi ?_ zG.1) | exact HB.1)) hb); clear zB; clear HB; have zB := n0_; have HB := n1_; clear n0_ n1_; (try clear hb); (try clear hb2); (try clear hk); (try clear hi)))
  go_ret2
  exact ⟨by first | rfl | (simp [errW_none, errW_some] <;> rfl) | (simp [*, errW_none, errW_some] <;> rfl), by repeat (first | (with_reducible first | exact HB.1 | apply ze | apply zc | apply zd | refine zi ?_ zG.1) | exact HB.1)⟩

end Go.Proofs.Ytlnfcobloolnnaa.PFnExactUpdateBytes
