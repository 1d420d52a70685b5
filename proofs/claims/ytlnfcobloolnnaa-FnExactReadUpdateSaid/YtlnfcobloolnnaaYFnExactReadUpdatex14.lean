/- Written by this session's own program over the kit's print: Lean functions that tell what Go functions answer, each with a proof that the call does so. No condition but what each statement says. -/
import Derived.Test.YtlnfcobloolnnaaYFnExactReadUpdatex13
namespace Go.Proofs.Ytlnfcobloolnnaa.PFnExactReadUpdate
open Go.RowKit Go.Proofs.YtlnfcobloolnnaaW.PrintWords Go.Proofs.YtlnfcobloolnnaaW.PrintLast Go.Proofs.YtlnfcobloolnnaaW.PrintMore
open Go.Proofs.YtlnfcobloolnnaaW.PrintLast renaming i64_w → zl, i32_w → zm, any_of → zn, pure_ → zo, take_ofW → zp, one_of → zq, take_ → zr, norm_ → zs, goes_ → zt
open Go.Proofs.YtlnfcobloolnnaaW.PrintWords renaming blk_cell → za, blk_frozen → zb, pw_below_drewN → zc, blk_drewN → zd, blk_alloc → ze, blk_drew → zf, below_drew1 → zg, below_alloc → zh, below_set → zi, blk_below → zj, below_step → zk
attribute [local go_sem] max2_int min2_int max_two min_two max_three min_three max_four min_four   -- for this text's walks alone
set_option linter.unusedVariables false
set_option linter.unusedSimpArgs false

/-! ### impl_updateBytes: function 80 -/
def impl_updateBytes.f (k : Nat) (l0_0 : List (S35)) (a0_1 : Int) (l0_2 : List Int) (a0_3 : Int) (a0_4 : Int) (a0_5 : Int) (l0_6 : List Int) (l0_7 : List (S35)) : Option (ByteArray) := (impl_prefixesBytes.f k l0_0).bind fun t300 => (if (l0_7.length : Int) = 0 then (some t300) else ((impl_bytesOf.f k a0_1 1).bind fun t302 => (if t300.size + t302.size ≤ 9223372036854775807 then ((impl_numbersBytes.f k l0_2 2).bind fun t303 => (if (t300 ++ t302).size + t303.size ≤ 9223372036854775807 then ((impl_bytesOf.f k a0_3 4).bind fun t304 => (if ((t300 ++ t302) ++ t303).size + t304.size ≤ 9223372036854775807 then ((impl_bytesOf.f k a0_4 3).bind fun t305 => (if (((t300 ++ t302) ++ t303) ++ t304).size + t305.size ≤ 9223372036854775807 then ((impl_bytesOf.f k a0_5 3).bind fun t306 => (if ((((t300 ++ t302) ++ t303) ++ t304) ++ t305).size + t306.size ≤ 9223372036854775807 then ((impl_numbersBytes.f k l0_6 3).bind fun t307 => (if (((((t300 ++ t302) ++ t303) ++ t304) ++ t305) ++ t306).size + t307.size ≤ 9223372036854775807 then ((impl_prefixesBytes.f k l0_7).bind fun t308 => (if ((((((t300 ++ t302) ++ t303) ++ t304) ++ t305) ++ t306) ++ t307).size + t308.size ≤ 9223372036854775807 then (some (((((((t300 ++ t302) ++ t303) ++ t304) ++ t305) ++ t306) ++ t307) ++ t308)) else (none))) else (none))) else (none))) else (none))) else (none))) else (none))) else (none))))
theorem impl_updateBytes.mono : ∀ a0 a1 a2 a3 a4 a5 a6 a7 k, LeO (impl_updateBytes.f k a0 a1 a2 a3 a4 a5 a6 a7) (impl_updateBytes.f (k + 1) a0 a1 a2 a3 a4 a5 a6 a7) := by
 intro a0 a1 a2 a3 a4 a5 a6 a7 k
 unfold impl_updateBytes.f
 repeat' first
   | (with_reducible exact impl_bytesOf.mono _ _ _)
   | (with_reducible exact impl_numbersBytes.mono _ _ _)
   | (with_reducible exact impl_prefixesBytes.mono _ _)
   | (with_reducible exact LeO.refl _)
   | (with_reducible refine LeO.ite ?_ ?_)
   | (with_reducible refine LeO.bind ?_ (fun _ => ?_))
def impl_updateBytes.T5 : Bool × List (List Nat × List Nat) := (true, [([], []), ([], []), ([1], [1]), ([2], [2]), ([0, 3], [0, 3]), ([], []), ([5], [5]), ([6, 3], [6]), ([4, 7], [4, 7]), ([], []), ([9], [9]), ([10, 7], [10]), ([8, 11], [8, 11]), ([], []), ([13], [13]), ([14, 11], [14]), ([12, 15], [12, 15]), ([], []), ([17], [17]), ([18, 15], [18]), ([16, 19], [16, 19]), ([], []), ([21], [21]), ([22, 19], [22]), ([20, 23], [20, 23]), ([], []), ([25], [25]), ([26, 23], [26]), ([24, 27], [24, 27]), ([28, 27, 0, 1, 2, 3, 4, 5, 6, 7, 8, 9, 10, 11, 12, 13, 14, 15, 16, 17, 18, 19, 20, 21, 22, 23, 24, 25, 26, 27, 28], [28])])
def impl_updateBytes.B5 : List Nat := [0, 0, 2, 6, 15, 0, 32, 110, 255, 0, 512, 1774, 4095, 0, 8192, 28398, 65535, 0, 131072, 454382, 1048575, 0, 2097152, 7270126, 16777215, 0, 33554432, 116322030, 268435455, 536870911]
theorem impl_updateBytes.tab5 : rtab .any (opsOf Try.f80 5) = impl_updateBytes.T5 := by kernel_rfl
theorem impl_updateBytes.bits5 : waitsOk impl_updateBytes.T5.2 impl_updateBytes.B5 = true := by kernel_rfl
set_option maxHeartbeats 8000000 in
set_option maxRecDepth 100000 in
theorem impl_updateBytes.calls (k : Nat) (A0_0 : Option Addr) (c0_0 : Nat) (l0_0 : List (S35)) (a0_1 : Int) (A0_2 : Option Addr) (c0_2 : Nat) (l0_2 : List Int) (a0_3 : Int) (a0_4 : Int) (a0_5 : Int) (A0_6 : Option Addr) (c0_6 : Nat) (l0_6 : List Int) (A0_7 : Option Addr) (c0_7 : Nat) (l0_7 : List (S35)) (r : ByteArray) (w : World) (hr0_0 : Kd.C k35 w A0_0 l0_0.length l0_0) (hc0_0 : l0_0.length ≤ c0_0) (hr0_2 : Kd.C (Kd.int .i64) w A0_2 l0_2.length l0_2) (hc0_2 : l0_2.length ≤ c0_2) (hr0_6 : Kd.C (Kd.int .i64) w A0_6 l0_6.length l0_6) (hc0_6 : l0_6.length ≤ c0_6) (hr0_7 : Kd.C k35 w A0_7 l0_7.length l0_7) (hc0_7 : l0_7.length ≤ c0_7) (h : impl_updateBytes.f k l0_0 a0_1 l0_2 a0_3 a0_4 a0_5 l0_6 l0_7 = some r) :
  Calls Try.prog 80 #[.agg #[.slice A0_0 l0_0.length c0_0, .int .i64 a0_1, .slice A0_2 l0_2.length c0_2, .int .i64 a0_3, .int .i64 a0_4, .int .i64 a0_5, .slice A0_6 l0_6.length c0_6, .slice A0_7 l0_7.length c0_7]] w fun e w' => e = .returned (.string r) ∧ Below w.heap.size w w' := by
 have hu53 := Try.underlying53
 have hu27 := Try.underlying27
 have HR0_0 := Aside0.mk hr0_0
 have HC0_0 := Aside0.mk hc0_0
 clear hr0_0 hc0_0
 have HR0_2 := Aside0.mk hr0_2
 have HC0_2 := Aside0.mk hc0_2
 clear hr0_2 hc0_2
 have HR0_6 := Aside0.mk hr0_6
 have HC0_6 := Aside0.mk hc0_6
 clear hr0_6 hc0_6
 have HR0_7 := Aside0.mk hr0_7
 have HC0_7 := Aside0.mk hc0_7
 clear hr0_7 hc0_7
 have HB := Aside0.mk (Below.refl w.heap.size w)
 have H : ((impl_prefixesBytes.f k l0_0).bind fun t300 => (if (l0_7.length : Int) = 0 then (some t300) else ((impl_bytesOf.f k a0_1 1).bind fun t302 => (if t300.size + t302.size ≤ 9223372036854775807 then ((impl_numbersBytes.f k l0_2 2).bind fun t303 => (if (t300 ++ t302).size + t303.size ≤ 9223372036854775807 then ((impl_bytesOf.f k a0_3 4).bind fun t304 => (if ((t300 ++ t302) ++ t303).size + t304.size ≤ 9223372036854775807 then ((impl_bytesOf.f k a0_4 3).bind fun t305 => (if (((t300 ++ t302) ++ t303) ++ t304).size + t305.size ≤ 9223372036854775807 then ((impl_bytesOf.f k a0_5 3).bind fun t306 => (if ((((t300 ++ t302) ++ t303) ++ t304) ++ t305).size + t306.size ≤ 9223372036854775807 then ((impl_numbersBytes.f k l0_6 3).bind fun t307 => (if (((((t300 ++ t302) ++ t303) ++ t304) ++ t305) ++ t306).size + t307.size ≤ 9223372036854775807 then ((impl_prefixesBytes.f k l0_7).bind fun t308 => (if ((((((t300 ++ t302) ++ t303) ++ t304) ++ t305) ++ t306) ++ t307).size + t308.size ≤ 9223372036854775807 then (some (((((((t300 ++ t302) ++ t303) ++ t304) ++ t305) ++ t306) ++ t307) ++ t308)) else (none))) else (none))) else (none))) else (none))) else (none))) else (none))) else (none))))) = some r := h
 clear h
 replace H := Option.bind_eq_some_iff.mp H
 obtain ⟨t300, A20, H⟩ := H
 replace H : (if (l0_7.length : Int) = 0 then (some t300) else ((impl_bytesOf.f k a0_1 1).bind fun t302 => (if t300.size + t302.size ≤ 9223372036854775807 then ((impl_numbersBytes.f k l0_2 2).bind fun t303 => (if (t300 ++ t302).size + t303.size ≤ 9223372036854775807 then ((impl_bytesOf.f k a0_3 4).bind fun t304 => (if ((t300 ++ t302) ++ t303).size + t304.size ≤ 9223372036854775807 then ((impl_bytesOf.f k a0_4 3).bind fun t305 => (if (((t300 ++ t302) ++ t303) ++ t304).size + t305.size ≤ 9223372036854775807 then ((impl_bytesOf.f k a0_5 3).bind fun t306 => (if ((((t300 ++ t302) ++ t303) ++ t304) ++ t305).size + t306.size ≤ 9223372036854775807 then ((impl_numbersBytes.f k l0_6 3).bind fun t307 => (if (((((t300 ++ t302) ++ t303) ++ t304) ++ t305) ++ t306).size + t307.size ≤ 9223372036854775807 then ((impl_prefixesBytes.f k l0_7).bind fun t308 => (if ((((((t300 ++ t302) ++ t303) ++ t304) ++ t305) ++ t306) ++ t307).size + t308.size ≤ 9223372036854775807 then (some (((((((t300 ++ t302) ++ t303) ++ t304) ++ t305) ++ t306) ++ t307) ++ t308)) else (none))) else (none))) else (none))) else (none))) else (none))) else (none))) else (none)))) = some r := H
 have A2 := Aside0.mk A20
 clear A20
 by_cases c3 : (l0_7.length : Int) = 0
 ·
  rw [if_pos c3] at H
  have c3b0 : ((l0_7.length : Int) == 0) = true := beq_iff_eq.mpr c3
  have c3b1 : ((l0_7.length : Int) != 0) = false := bne_eq_false_iff_eq.mpr c3
  clear c3
  obtain rfl := Option.some.inj H
  go_enter Try.func80, Try.ntmps80
  go_wp2_with (first | ((with_reducible refine gate_dst (N := 1) rfl ?_); refine box_event ?hg (N := 1) ?hd (cs := #[.slice A0_0 l0_0.length c0_0, .int .i64 a0_1, .slice A0_2 l0_2.length c0_2, .int .i64 a0_3, .int .i64 a0_4, .int .i64 a0_5, .slice A0_6 l0_6.length c0_6, .slice A0_7 l0_7.length c0_7]) (t := 53) ?hr ?_; (case hd => rfl); (case hg => rfl); (case hr => (go_simp; done)); intro gb299 hg w4 hbox hb; replace HB := Aside0.mk (zk HB.1 hb); have zu := Aside0.mk hbox; clear hb hbox hg; have hcz5_0 : w4.cell? ⟨gb299, 0, none⟩ = some (.slice A0_0 l0_0.length c0_0) := (za zu.1 0).trans rfl; have hcz5_1 : w4.cell? ⟨gb299, 1, none⟩ = some (.int .i64 a0_1) := (za zu.1 1).trans rfl; have hcz5_2 : w4.cell? ⟨gb299, 2, none⟩ = some (.slice A0_2 l0_2.length c0_2) := (za zu.1 2).trans rfl; have hcz5_3 : w4.cell? ⟨gb299, 3, none⟩ = some (.int .i64 a0_3) := (za zu.1 3).trans rfl; have hcz5_4 : w4.cell? ⟨gb299, 4, none⟩ = some (.int .i64 a0_4) := (za zu.1 4).trans rfl; have hcz5_5 : w4.cell? ⟨gb299, 5, none⟩ = some (.int .i64 a0_5) := (za zu.1 5).trans rfl; have hcz5_6 : w4.cell? ⟨gb299, 6, none⟩ = some (.slice A0_6 l0_6.length c0_6) := (za zu.1 6).trans rfl; have hcz5_7 : w4.cell? ⟨gb299, 7, none⟩ = some (.slice A0_7 l0_7.length c0_7) := (za zu.1 7).trans rfl; have hfz5_0 := zb zu.1 0; have hfz5_1 := zb zu.1 1; have hfz5_2 := zb zu.1 2; have hfz5_3 := zb zu.1 3; have hfz5_4 := zb zu.1 4; have hfz5_5 := zb zu.1 5; have hfz5_6 := zb zu.1 6; have hfz5_7 := zb zu.1 7) | ((with_reducible refine gate_callee (f := 114) rfl ?_); refine goesL_ (some 7) rfl rfl Try.func114 (by kernel_rfl) rfl #[.slice A0_0 l0_0.length c0_0] rfl (by (try simp only [List.map_toArray, List.map_cons, List.map_nil]); rfl) ?_; (with_reducible refine (impl_prefixesBytes.calls k _ _ l0_0 t300 _ ?side1 ?side2 A2.1).mono ?_); (case side1 => repeat (exact (Kd.C_below HR0_0.1 HB.1))); (case side2 => exact HC0_0.1); rintro e w6 ⟨rfl, hb⟩; refine ⟨_, rfl, ?_⟩; replace zu := Aside0.mk (zj (g := gb299) (o := .cells #[.slice A0_0 l0_0.length c0_0, .int .i64 a0_1, .slice A0_2 l0_2.length c0_2, .int .i64 a0_3, .int .i64 a0_4, .int .i64 a0_5, .slice A0_6 l0_6.length c0_6, .slice A0_7 l0_7.length c0_7] 53 (0, 0)) (by exact zu.1) hb); replace HB := Aside0.mk (zk HB.1 hb); (try clear hb); (try clear hb2); (try clear hk); (try clear hi); have hcz7_0 : w6.cell? ⟨gb299, 0, none⟩ = some (.slice A0_0 l0_0.length c0_0) := (za zu.1 0).trans rfl; have hcz7_1 : w6.cell? ⟨gb299, 1, none⟩ = some (.int .i64 a0_1) := (za zu.1 1).trans rfl; have hcz7_2 : w6.cell? ⟨gb299, 2, none⟩ = some (.slice A0_2 l0_2.length c0_2) := (za zu.1 2).trans rfl; have hcz7_3 : w6.cell? ⟨gb299, 3, none⟩ = some (.int .i64 a0_3) := (za zu.1 3).trans rfl; have hcz7_4 : w6.cell? ⟨gb299, 4, none⟩ = some (.int .i64 a0_4) := (za zu.1 4).trans rfl; have hcz7_5 : w6.cell? ⟨gb299, 5, none⟩ = some (.int .i64 a0_5) := (za zu.1 5).trans rfl; have hcz7_6 : w6.cell? ⟨gb299, 6, none⟩ = some (.slice A0_6 l0_6.length c0_6) := (za zu.1 6).trans rfl; have hcz7_7 : w6.cell? ⟨gb299, 7, none⟩ = some (.slice A0_7 l0_7.length c0_7) := (za zu.1 7).trans rfl; have hfz7_0 := zb zu.1 0; have hfz7_1 := zb zu.1 1; have hfz7_2 := zb zu.1 2; have hfz7_3 := zb zu.1 3; have hfz7_4 := zb zu.1 4; have hfz7_5 := zb zu.1 5; have hfz7_6 := zb zu.1 6; have hfz7_7 := zb zu.1 7))
  go_ret
  exact ⟨by rfl, by exact HB.1⟩
 ·
  rw [if_neg c3] at H
  have c3b0 : ((l0_7.length : Int) == 0) = false := beq_eq_false_iff_ne.mpr c3
  have c3b1 : ((l0_7.length : Int) != 0) = true := bne_iff_ne.mpr c3
  have c3b2 : ¬ (l0_7 = []) := fun h_ => c3 (by rw [h_]; rfl)
  replace H := Option.bind_eq_some_iff.mp H
  obtain ⟨t302, A80, H⟩ := H
  replace H : (if t300.size + t302.size ≤ 9223372036854775807 then ((impl_numbersBytes.f k l0_2 2).bind fun t303 => (if (t300 ++ t302).size + t303.size ≤ 9223372036854775807 then ((impl_bytesOf.f k a0_3 4).bind fun t304 => (if ((t300 ++ t302) ++ t303).size + t304.size ≤ 9223372036854775807 then ((impl_bytesOf.f k a0_4 3).bind fun t305 => (if (((t300 ++ t302) ++ t303) ++ t304).size + t305.size ≤ 9223372036854775807 then ((impl_bytesOf.f k a0_5 3).bind fun t306 => (if ((((t300 ++ t302) ++ t303) ++ t304) ++ t305).size + t306.size ≤ 9223372036854775807 then ((impl_numbersBytes.f k l0_6 3).bind fun t307 => (if (((((t300 ++ t302) ++ t303) ++ t304) ++ t305) ++ t306).size + t307.size ≤ 9223372036854775807 then ((impl_prefixesBytes.f k l0_7).bind fun t308 => (if ((((((t300 ++ t302) ++ t303) ++ t304) ++ t305) ++ t306) ++ t307).size + t308.size ≤ 9223372036854775807 then (some (((((((t300 ++ t302) ++ t303) ++ t304) ++ t305) ++ t306) ++ t307) ++ t308)) else (none))) else (none))) else (none))) else (none))) else (none))) else (none))) else (none)) = some r := H
  have A8 := Aside0.mk A80
  clear A80
  by_cases c9 : t300.size + t302.size ≤ 9223372036854775807
  ·
   rw [if_pos c9] at H
   have c9b0 := eq_true c9
   have c9b1 : decide (t300.size + t302.size ≤ 9223372036854775807) = true := decide_eq_true c9
   try have c9b2 : (9223372036854775807 < t300.size + t302.size) = False := eq_false (Nat.not_lt.2 c9)
   replace H := Option.bind_eq_some_iff.mp H
   obtain ⟨t303, A100, H⟩ := H
   replace H : (if (t300 ++ t302).size + t303.size ≤ 9223372036854775807 then ((impl_bytesOf.f k a0_3 4).bind fun t304 => (if ((t300 ++ t302) ++ t303).size + t304.size ≤ 9223372036854775807 then ((impl_bytesOf.f k a0_4 3).bind fun t305 => (if (((t300 ++ t302) ++ t303) ++ t304).size + t305.size ≤ 9223372036854775807 then ((impl_bytesOf.f k a0_5 3).bind fun t306 => (if ((((t300 ++ t302) ++ t303) ++ t304) ++ t305).size + t306.size ≤ 9223372036854775807 then ((impl_numbersBytes.f k l0_6 3).bind fun t307 => (if (((((t300 ++ t302) ++ t303) ++ t304) ++ t305) ++ t306).size + t307.size ≤ 9223372036854775807 then ((impl_prefixesBytes.f k l0_7).bind fun t308 => (if ((((((t300 ++ t302) ++ t303) ++ t304) ++ t305) ++ t306) ++ t307).size + t308.size ≤ 9223372036854775807 then (some (((((((t300 ++ t302) ++ t303) ++ t304) ++ t305) ++ t306) ++ t307) ++ t308)) else (none))) else (none))) else (none))) else (none))) else (none))) else (none)) = some r := H
   have A10 := Aside0.mk A100
   clear A100
   by_cases c11 : (t300 ++ t302).size + t303.size ≤ 9223372036854775807
   ·
    rw [if_pos c11] at H
    have c11b0 := eq_true c11
    have c11b1 : decide ((t300 ++ t302).size + t303.size ≤ 9223372036854775807) = true := decide_eq_true c11
    try have c11b2 : (9223372036854775807 < (t300 ++ t302).size + t303.size) = False := eq_false (Nat.not_lt.2 c11)
    try have c11b4 : (9223372036854775807 < t300.size + t302.size + t303.size) = False := eq_false (by have := c11; simp only [ByteArray.size_append] at this; omega)
    replace H := Option.bind_eq_some_iff.mp H
    obtain ⟨t304, A120, H⟩ := H
    replace H : (if ((t300 ++ t302) ++ t303).size + t304.size ≤ 9223372036854775807 then ((impl_bytesOf.f k a0_4 3).bind fun t305 => (if (((t300 ++ t302) ++ t303) ++ t304).size + t305.size ≤ 9223372036854775807 then ((impl_bytesOf.f k a0_5 3).bind fun t306 => (if ((((t300 ++ t302) ++ t303) ++ t304) ++ t305).size + t306.size ≤ 9223372036854775807 then ((impl_numbersBytes.f k l0_6 3).bind fun t307 => (if (((((t300 ++ t302) ++ t303) ++ t304) ++ t305) ++ t306).size + t307.size ≤ 9223372036854775807 then ((impl_prefixesBytes.f k l0_7).bind fun t308 => (if ((((((t300 ++ t302) ++ t303) ++ t304) ++ t305) ++ t306) ++ t307).size + t308.size ≤ 9223372036854775807 then (some (((((((t300 ++ t302) ++ t303) ++ t304) ++ t305) ++ t306) ++ t307) ++ t308)) else (none))) else (none))) else (none))) else (none))) else (none)) = some r := H
    have A12 := Aside0.mk A120
    clear A120
    by_cases c13 : ((t300 ++ t302) ++ t303).size + t304.size ≤ 9223372036854775807
    ·
     rw [if_pos c13] at H
     have c13b0 := eq_true c13
     have c13b1 : decide (((t300 ++ t302) ++ t303).size + t304.size ≤ 9223372036854775807) = true := decide_eq_true c13
     try have c13b2 : (9223372036854775807 < ((t300 ++ t302) ++ t303).size + t304.size) = False := eq_false (Nat.not_lt.2 c13)
     try have c13b4 : (9223372036854775807 < t300.size + t302.size + t303.size + t304.size) = False := eq_false (by have := c13; simp only [ByteArray.size_append] at this; omega)
     replace H := Option.bind_eq_some_iff.mp H
     obtain ⟨t305, A140, H⟩ := H
     replace H : (if (((t300 ++ t302) ++ t303) ++ t304).size + t305.size ≤ 9223372036854775807 then ((impl_bytesOf.f k a0_5 3).bind fun t306 => (if ((((t300 ++ t302) ++ t303) ++ t304) ++ t305).size + t306.size ≤ 9223372036854775807 then ((impl_numbersBytes.f k l0_6 3).bind fun t307 => (if (((((t300 ++ t302) ++ t303) ++ t304) ++ t305) ++ t306).size + t307.size ≤ 9223372036854775807 then ((impl_prefixesBytes.f k l0_7).bind fun t308 => (if ((((((t300 ++ t302) ++ t303) ++ t304) ++ t305) ++ t306) ++ t307).size + t308.size ≤ 9223372036854775807 then (some (((((((t300 ++ t302) ++ t303) ++ t304) ++ t305) ++ t306) ++ t307) ++ t308)) else (none))) else (none))) else (none))) else (none)) = some r := H
     have A14 := Aside0.mk A140
     clear A140
     by_cases c15 : (((t300 ++ t302) ++ t303) ++ t304).size + t305.size ≤ 9223372036854775807
     ·
      rw [if_pos c15] at H
      have c15b0 := eq_true c15
      have c15b1 : decide ((((t300 ++ t302) ++ t303) ++ t304).size + t305.size ≤ 9223372036854775807) = true := decide_eq_true c15
      try have c15b2 : (9223372036854775807 < (((t300 ++ t302) ++ t303) ++ t304).size + t305.size) = False := eq_false (Nat.not_lt.2 c15)
      try have c15b4 : (9223372036854775807 < t300.size + t302.size + t303.size + t304.size + t305.size) = False := eq_false (by have := c15; simp only [ByteArray.size_append] at this; omega)
      replace H := Option.bind_eq_some_iff.mp H
      obtain ⟨t306, A160, H⟩ := H
      replace H : (if ((((t300 ++ t302) ++ t303) ++ t304) ++ t305).size + t306.size ≤ 9223372036854775807 then ((impl_numbersBytes.f k l0_6 3).bind fun t307 => (if (((((t300 ++ t302) ++ t303) ++ t304) ++ t305) ++ t306).size + t307.size ≤ 9223372036854775807 then ((impl_prefixesBytes.f k l0_7).bind fun t308 => (if ((((((t300 ++ t302) ++ t303) ++ t304) ++ t305) ++ t306) ++ t307).size + t308.size ≤ 9223372036854775807 then (some (((((((t300 ++ t302) ++ t303) ++ t304) ++ t305) ++ t306) ++ t307) ++ t308)) else (none))) else (none))) else (none)) = some r := H
      have A16 := Aside0.mk A160
      clear A160
      by_cases c17 : ((((t300 ++ t302) ++ t303) ++ t304) ++ t305).size + t306.size ≤ 9223372036854775807
      ·
       rw [if_pos c17] at H
       have c17b0 := eq_true c17
       have c17b1 : decide (((((t300 ++ t302) ++ t303) ++ t304) ++ t305).size + t306.size ≤ 9223372036854775807) = true := decide_eq_true c17
       try have c17b2 : (9223372036854775807 < ((((t300 ++ t302) ++ t303) ++ t304) ++ t305).size + t306.size) = False := eq_false (Nat.not_lt.2 c17)
       try have c17b4 : (9223372036854775807 < t300.size + t302.size + t303.size + t304.size + t305.size + t306.size) = False := eq_false (by have := c17; simp only [ByteArray.size_append] at this; omega)
       replace H := Option.bind_eq_some_iff.mp H
       obtain ⟨t307, A180, H⟩ := H
       replace H : (if (((((t300 ++ t302) ++ t303) ++ t304) ++ t305) ++ t306).size + t307.size ≤ 9223372036854775807 then ((impl_prefixesBytes.f k l0_7).bind fun t308 => (if ((((((t300 ++ t302) ++ t303) ++ t304) ++ t305) ++ t306) ++ t307).size + t308.size ≤ 9223372036854775807 then (some (((((((t300 ++ t302) ++ t303) ++ t304) ++ t305) ++ t306) ++ t307) ++ t308)) else (none))) else (none)) = some r := H
       have A18 := Aside0.mk A180
       clear A180
       by_cases c19 : (((((t300 ++ t302) ++ t303) ++ t304) ++ t305) ++ t306).size + t307.size ≤ 9223372036854775807
       ·
        rw [if_pos c19] at H
        have c19b0 := eq_true c19
        have c19b1 : decide ((((((t300 ++ t302) ++ t303) ++ t304) ++ t305) ++ t306).size + t307.size ≤ 9223372036854775807) = true := decide_eq_true c19
        try have c19b2 : (9223372036854775807 < (((((t300 ++ t302) ++ t303) ++ t304) ++ t305) ++ t306).size + t307.size) = False := eq_false (Nat.not_lt.2 c19)
        try have c19b4 : (9223372036854775807 < t300.size + t302.size + t303.size + t304.size + t305.size + t306.size + t307.size) = False := eq_false (by have := c19; simp only [ByteArray.size_append] at this; omega)
        replace H := Option.bind_eq_some_iff.mp H
        obtain ⟨t308, A200, H⟩ := H
        replace H : (if ((((((t300 ++ t302) ++ t303) ++ t304) ++ t305) ++ t306) ++ t307).size + t308.size ≤ 9223372036854775807 then (some (((((((t300 ++ t302) ++ t303) ++ t304) ++ t305) ++ t306) ++ t307) ++ t308)) else (none)) = some r := H
        have A20 := Aside0.mk A200
        clear A200
        by_cases c21 : ((((((t300 ++ t302) ++ t303) ++ t304) ++ t305) ++ t306) ++ t307).size + t308.size ≤ 9223372036854775807
        ·
         rw [if_pos c21] at H
         have c21b0 := eq_true c21
         have c21b1 : decide (((((((t300 ++ t302) ++ t303) ++ t304) ++ t305) ++ t306) ++ t307).size + t308.size ≤ 9223372036854775807) = true := decide_eq_true c21
         try have c21b2 : (9223372036854775807 < ((((((t300 ++ t302) ++ t303) ++ t304) ++ t305) ++ t306) ++ t307).size + t308.size) = False := eq_false (Nat.not_lt.2 c21)
         try have c21b4 : (9223372036854775807 < t300.size + t302.size + t303.size + t304.size + t305.size + t306.size + t307.size + t308.size) = False := eq_false (by have := c21; simp only [ByteArray.size_append] at this; omega)
         obtain rfl := Option.some.inj H
         go_enter Try.func80, Try.ntmps80
         try go_wp2_with (first | ((with_reducible refine gate_dst (N := 1) rfl ?_); refine box_event ?hg (N := 1) ?hd (cs := #[.slice A0_0 l0_0.length c0_0, .int .i64 a0_1, .slice A0_2 l0_2.length c0_2, .int .i64 a0_3, .int .i64 a0_4, .int .i64 a0_5, .slice A0_6 l0_6.length c0_6, .slice A0_7 l0_7.length c0_7]) (t := 53) ?hr ?_; (case hd => rfl); (case hg => rfl); (case hr => (go_simp; done)); intro gb299 hg w22 hbox hb; replace HB := Aside0.mk (zk HB.1 hb); have zu := Aside0.mk hbox; clear hb hbox hg; have hcz23_0 : w22.cell? ⟨gb299, 0, none⟩ = some (.slice A0_0 l0_0.length c0_0) := (za zu.1 0).trans rfl; have hcz23_1 : w22.cell? ⟨gb299, 1, none⟩ = some (.int .i64 a0_1) := (za zu.1 1).trans rfl; have hcz23_2 : w22.cell? ⟨gb299, 2, none⟩ = some (.slice A0_2 l0_2.length c0_2) := (za zu.1 2).trans rfl; have hcz23_3 : w22.cell? ⟨gb299, 3, none⟩ = some (.int .i64 a0_3) := (za zu.1 3).trans rfl; have hcz23_4 : w22.cell? ⟨gb299, 4, none⟩ = some (.int .i64 a0_4) := (za zu.1 4).trans rfl; have hcz23_5 : w22.cell? ⟨gb299, 5, none⟩ = some (.int .i64 a0_5) := (za zu.1 5).trans rfl; have hcz23_6 : w22.cell? ⟨gb299, 6, none⟩ = some (.slice A0_6 l0_6.length c0_6) := (za zu.1 6).trans rfl; have hcz23_7 : w22.cell? ⟨gb299, 7, none⟩ = some (.slice A0_7 l0_7.length c0_7) := (za zu.1 7).trans rfl; have hfz23_0 := zb zu.1 0; have hfz23_1 := zb zu.1 1; have hfz23_2 := zb zu.1 2; have hfz23_3 := zb zu.1 3; have hfz23_4 := zb zu.1 4; have hfz23_5 := zb zu.1 5; have hfz23_6 := zb zu.1 6; have hfz23_7 := zb zu.1 7) | ((with_reducible refine gate_callee (f := 114) rfl ?_); refine goesL_ (some 7) rfl rfl Try.func114 (by kernel_rfl) rfl #[.slice A0_0 l0_0.length c0_0] rfl (by (try simp only [List.map_toArray, List.map_cons, List.map_nil]); rfl) ?_; (with_reducible refine (impl_prefixesBytes.calls k _ _ l0_0 t300 _ ?side1 ?side2 A2.1).mono ?_); (case side1 => repeat (exact (Kd.C_below HR0_0.1 HB.1))); (case side2 => exact HC0_0.1); rintro e w24 ⟨rfl, hb⟩; refine ⟨_, rfl, ?_⟩; replace zu := Aside0.mk (zj (g := gb299) (o := .cells #[.slice A0_0 l0_0.length c0_0, .int .i64 a0_1, .slice A0_2 l0_2.length c0_2, .int .i64 a0_3, .int .i64 a0_4, .int .i64 a0_5, .slice A0_6 l0_6.length c0_6, .slice A0_7 l0_7.length c0_7] 53 (0, 0)) (by exact zu.1) hb); replace HB := Aside0.mk (zk HB.1 hb); (try clear hb); (try clear hb2); (try clear hk); (try clear hi); have hcz25_0 : w24.cell? ⟨gb299, 0, none⟩ = some (.slice A0_0 l0_0.length c0_0) := (za zu.1 0).trans rfl; have hcz25_1 : w24.cell? ⟨gb299, 1, none⟩ = some (.int .i64 a0_1) := (za zu.1 1).trans rfl; have hcz25_2 : w24.cell? ⟨gb299, 2, none⟩ = some (.slice A0_2 l0_2.length c0_2) := (za zu.1 2).trans rfl; have hcz25_3 : w24.cell? ⟨gb299, 3, none⟩ = some (.int .i64 a0_3) := (za zu.1 3).trans rfl; have hcz25_4 : w24.cell? ⟨gb299, 4, none⟩ = some (.int .i64 a0_4) := (za zu.1 4).trans rfl; have hcz25_5 : w24.cell? ⟨gb299, 5, none⟩ = some (.int .i64 a0_5) := (za zu.1 5).trans rfl; have hcz25_6 : w24.cell? ⟨gb299, 6, none⟩ = some (.slice A0_6 l0_6.length c0_6) := (za zu.1 6).trans rfl; have hcz25_7 : w24.cell? ⟨gb299, 7, none⟩ = some (.slice A0_7 l0_7.length c0_7) := (za zu.1 7).trans rfl; have hfz25_0 := zb zu.1 0; have hfz25_1 := zb zu.1 1; have hfz25_2 := zb zu.1 2; have hfz25_3 := zb zu.1 3; have hfz25_4 := zb zu.1 4; have hfz25_5 := zb zu.1 5; have hfz25_6 := zb zu.1 6; have hfz25_7 := zb zu.1 7) | ((with_reducible refine gate_dst (N := 4) rfl ?_); refine box_event ?hg (N := 4) ?hd (cs := #[.int .i64 0, .slice none 0 0, .int .i64 0, .int .i64 0, .int .i64 0, .slice none 0 0]) (t := 27) ?hr ?_; (case hd => rfl); (case hg => rfl); (case hr => (go_simp; done)); intro gb301 hg w26 hbox hb; have zv := Aside0.mk hbox; have zy := Aside0.mk ((by rw [hg]; exact (below_size HB.1) : w.heap.size ≤ gb301)); replace HB := Aside0.mk (zk HB.1 hb); have zw := Aside0.mk ((by rw [hg]; exact Nat.ne_of_lt (blk_lt (g := gb299) (o := .cells #[.slice A0_0 l0_0.length c0_0, .int .i64 a0_1, .slice A0_2 l0_2.length c0_2, .int .i64 a0_3, .int .i64 a0_4, .int .i64 a0_5, .slice A0_6 l0_6.length c0_6, .slice A0_7 l0_7.length c0_7] 53 (0, 0)) (by exact zu.1)) : gb299 ≠ gb301)); have NB301_299 := Aside0.mk ((by rw [hg]; exact Nat.ne_of_gt (blk_lt (g := gb299) (o := .cells #[.slice A0_0 l0_0.length c0_0, .int .i64 a0_1, .slice A0_2 l0_2.length c0_2, .int .i64 a0_3, .int .i64 a0_4, .int .i64 a0_5, .slice A0_6 l0_6.length c0_6, .slice A0_7 l0_7.length c0_7] 53 (0, 0)) (by exact zu.1)) : gb301 ≠ gb299)); replace zu := Aside0.mk (zj (g := gb299) (o := .cells #[.slice A0_0 l0_0.length c0_0, .int .i64 a0_1, .slice A0_2 l0_2.length c0_2, .int .i64 a0_3, .int .i64 a0_4, .int .i64 a0_5, .slice A0_6 l0_6.length c0_6, .slice A0_7 l0_7.length c0_7] 53 (0, 0)) (by exact zu.1) hb); clear hb hbox hg; have hnb27 := NB301_299.1; have hnc27 := zw.1; have hcz28_0 : w26.cell? ⟨gb301, 0, none⟩ = some (.int .i64 0) := (za zv.1 0).trans rfl; have hcz28_1 : w26.cell? ⟨gb301, 1, none⟩ = some (.slice none 0 0) := (za zv.1 1).trans rfl; have hcz28_2 : w26.cell? ⟨gb301, 2, none⟩ = some (.int .i64 0) := (za zv.1 2).trans rfl; have hcz28_3 : w26.cell? ⟨gb301, 3, none⟩ = some (.int .i64 0) := (za zv.1 3).trans rfl; have hcz28_4 : w26.cell? ⟨gb301, 4, none⟩ = some (.int .i64 0) := (za zv.1 4).trans rfl; have hcz28_5 : w26.cell? ⟨gb301, 5, none⟩ = some (.slice none 0 0) := (za zv.1 5).trans rfl; have hfz28_0 := zb zv.1 0; have hfz28_1 := zb zv.1 1; have hfz28_2 := zb zv.1 2; have hfz28_3 := zb zv.1 3; have hfz28_4 := zb zv.1 4; have hfz28_5 := zb zv.1 5))
         have n0_ : Aside0 (((((((w26.setCell ⟨gb301, 0, none⟩ (.int .i64 a0_1)).setCell ⟨gb301, 1, none⟩ (.slice A0_2 l0_2.length c0_2)).setCell ⟨gb301, 2, none⟩ (.int .i64 a0_3)).setCell ⟨gb301, 3, none⟩ (.int .i64 a0_4)).setCell ⟨gb301, 4, none⟩ (.int .i64 a0_5)).setCell ⟨gb301, 5, none⟩ (.slice A0_6 l0_6.length c0_6)).heap[gb299]? = some (.cells #[.slice A0_0 l0_0.length c0_0, .int .i64 a0_1, .slice A0_2 l0_2.length c0_2, .int .i64 a0_3, .int .i64 a0_4, .int .i64 a0_5, .slice A0_6 l0_6.length c0_6, .slice A0_7 l0_7.length c0_7] 53 (0, 0))) := ⟨by refine blk_far ?_ zw.1 _; refine blk_far ?_ zw.1 _; refine blk_far ?_ zw.1 _; refine blk_far ?_ zw.1 _; refine blk_far ?_ zw.1 _; refine blk_far ?_ zw.1 _; exact zu.1⟩
         have n1_ : Aside0 (((((((w26.setCell ⟨gb301, 0, none⟩ (.int .i64 a0_1)).setCell ⟨gb301, 1, none⟩ (.slice A0_2 l0_2.length c0_2)).setCell ⟨gb301, 2, none⟩ (.int .i64 a0_3)).setCell ⟨gb301, 3, none⟩ (.int .i64 a0_4)).setCell ⟨gb301, 4, none⟩ (.int .i64 a0_5)).setCell ⟨gb301, 5, none⟩ (.slice A0_6 l0_6.length c0_6)).heap[gb301]? = some (.cells #[.int .i64 a0_1, .slice A0_2 l0_2.length c0_2, .int .i64 a0_3, .int .i64 a0_4, .int .i64 a0_5, .slice A0_6 l0_6.length c0_6] 27 (0, 0))) := ⟨by refine blk_put (cs := #[.int .i64 a0_1, .slice A0_2 l0_2.length c0_2, .int .i64 a0_3, .int .i64 a0_4, .int .i64 a0_5, .slice none 0 0]) ?_ 5 _ rfl; refine blk_put (cs := #[.int .i64 a0_1, .slice A0_2 l0_2.length c0_2, .int .i64 a0_3, .int .i64 a0_4, .int .i64 0, .slice none 0 0]) ?_ 4 _ rfl; refine blk_put (cs := #[.int .i64 a0_1, .slice A0_2 l0_2.length c0_2, .int .i64 a0_3, .int .i64 0, .int .i64 0, .slice none 0 0]) ?_ 3 _ rfl; refine blk_put (cs := #[.int .i64 a0_1, .slice A0_2 l0_2.length c0_2, .int .i64 0, .int .i64 0, .int .i64 0, .slice none 0 0]) ?_ 2 _ rfl; refine blk_put (cs := #[.int .i64 a0_1, .slice none 0 0, .int .i64 0, .int .i64 0, .int .i64 0, .slice none 0 0]) ?_ 1 _ rfl; refine blk_put (cs := #[.int .i64 0, .slice none 0 0, .int .i64 0, .int .i64 0, .int .i64 0, .slice none 0 0]) ?_ 0 _ rfl; exact zv.1⟩
         have n2_ : Aside0 (Below w.heap.size w ((((((w26.setCell ⟨gb301, 0, none⟩ (.int .i64 a0_1)).setCell ⟨gb301, 1, none⟩ (.slice A0_2 l0_2.length c0_2)).setCell ⟨gb301, 2, none⟩ (.int .i64 a0_3)).setCell ⟨gb301, 3, none⟩ (.int .i64 a0_4)).setCell ⟨gb301, 4, none⟩ (.int .i64 a0_5)).setCell ⟨gb301, 5, none⟩ (.slice A0_6 l0_6.length c0_6))) := ⟨by repeat ((with_reducible first | exact HB.1 | refine zi ?_ zy.1))⟩
         (try clear zu)
         (try clear zv)
         (try clear HB)
         generalize ((((((w26.setCell ⟨gb301, 0, none⟩ (.int .i64 a0_1)).setCell ⟨gb301, 1, none⟩ (.slice A0_2 l0_2.length c0_2)).setCell ⟨gb301, 2, none⟩ (.int .i64 a0_3)).setCell ⟨gb301, 3, none⟩ (.int .i64 a0_4)).setCell ⟨gb301, 4, none⟩ (.int .i64 a0_5)).setCell ⟨gb301, 5, none⟩ (.slice A0_6 l0_6.length c0_6)) = w29 at n0_ n1_ n2_ ⊢
         have zu := n0_
         have zv := n1_
         have HB := n2_
         clear n0_ n1_ n2_
         replace zu := Aside0.mk (zf zu.1)
         replace zv := Aside0.mk (zf zv.1)
         replace HB := Aside0.mk (zg HB.1)
         refine start_ (n := 30) (S := fun w' => w'.cell? ⟨gb301, 0, none⟩ = some (.int .i64 a0_1) ∧ w'.cell? ⟨gb301, 1, none⟩ = some (.slice A0_2 l0_2.length c0_2) ∧ w'.cell? ⟨gb301, 2, none⟩ = some (.int .i64 a0_3) ∧ w'.cell? ⟨gb301, 3, none⟩ = some (.int .i64 a0_4) ∧ w'.cell? ⟨gb301, 4, none⟩ = some (.int .i64 a0_5) ∧ w'.cell? ⟨gb301, 5, none⟩ = some (.slice A0_6 l0_6.length c0_6) ∧ w'.cell? ⟨gb299, 0, none⟩ = some (.slice A0_0 l0_0.length c0_0) ∧ w'.cell? ⟨gb299, 1, none⟩ = some (.int .i64 a0_1) ∧ w'.cell? ⟨gb299, 2, none⟩ = some (.slice A0_2 l0_2.length c0_2) ∧ w'.cell? ⟨gb299, 3, none⟩ = some (.int .i64 a0_3) ∧ w'.cell? ⟨gb299, 4, none⟩ = some (.int .i64 a0_4) ∧ w'.cell? ⟨gb299, 5, none⟩ = some (.int .i64 a0_5) ∧ w'.cell? ⟨gb299, 6, none⟩ = some (.slice A0_6 l0_6.length c0_6) ∧ w'.cell? ⟨gb299, 7, none⟩ = some (.slice A0_7 l0_7.length c0_7)) (ds := []) #[false, false, false, false, false, false, false, false, false, false, false, false, false, false, false, false, false, false, false, false, false, false, false, false, false, false, false, false, false, false] (by kernel_rfl) rfl rfl ⟨(za zv.1 0).trans rfl, (za zv.1 1).trans rfl, (za zv.1 2).trans rfl, (za zv.1 3).trans rfl, (za zv.1 4).trans rfl, (za zv.1 5).trans rfl, (za zu.1 0).trans rfl, (za zu.1 1).trans rfl, (za zu.1 2).trans rfl, (za zu.1 3).trans rfl, (za zu.1 4).trans rfl, (za zu.1 5).trans rfl, (za zu.1 6).trans rfl, (za zu.1 7).trans rfl⟩ (fun hHeld => ?_); refine with_tabW impl_updateBytes.tab5 impl_updateBytes.bits5 (fun HT_ HW_ => ?_)
         generalize w29.drew = w30 at zu zv HB hHeld ⊢
         refine zo (i := 0) (N := some 15) (v := ?_) (a' := ?_) #[true, false, false, false, false, false, false, false, false, false, false, false, false, false, false, false, false, false, false, false, false, false, false, false, false, false, false, false, false, false] rfl rfl (zn HT_.1 (by kernel_rfl)) (fun _ _ _ h => h) (Or.inl ⟨by rfl, ?_⟩) ?_ ?_
         rotate_left
         ·
          intro w'
          go_simp
          with_reducible rfl
         rotate_left
         ·
          simp only [Act.put, List.setIfInBounds_toArray, List.set_cons_zero, List.set_cons_succ, zl, zm]
          rfl
         refine zo (i := 1) (N := some 16) (v := ?_) (a' := ?_) #[true, true, false, false, false, false, false, false, false, false, false, false, false, false, false, false, false, false, false, false, false, false, false, false, false, false, false, false, false, false] rfl rfl (zn HT_.1 (by kernel_rfl)) (fun _ _ _ h => h) (Or.inl ⟨by rfl, ?_⟩) ?_ ?_
         rotate_left
         ·
          intro w'
          go_simp
          with_reducible rfl
         rotate_left
         ·
          simp only [Act.put, List.setIfInBounds_toArray, List.set_cons_zero, List.set_cons_succ, zl, zm]
          rfl
         refine zo (i := 5) (N := some 20) (v := ?_) (a' := ?_) #[true, true, false, false, false, true, false, false, false, false, false, false, false, false, false, false, false, false, false, false, false, false, false, false, false, false, false, false, false, false] rfl rfl (zn HT_.1 (by kernel_rfl)) (fun _ _ _ h => h) (Or.inl ⟨by rfl, ?_⟩) ?_ ?_
         rotate_left
         ·
          intro w'
          go_simp
          with_reducible rfl
         rotate_left
         ·
          simp only [Act.put, List.setIfInBounds_toArray, List.set_cons_zero, List.set_cons_succ, zl, zm]
          rfl
         refine zo (i := 9) (N := some 24) (v := ?_) (a' := ?_) #[true, true, false, false, false, true, false, false, false, true, false, false, false, false, false, false, false, false, false, false, false, false, false, false, false, false, false, false, false, false] rfl rfl (zn HT_.1 (by kernel_rfl)) (fun _ _ _ h => h) (Or.inl ⟨by rfl, ?_⟩) ?_ ?_
         rotate_left
         ·
          intro w'
          go_simp
          with_reducible rfl
         rotate_left
         ·
          simp only [Act.put, List.setIfInBounds_toArray, List.set_cons_zero, List.set_cons_succ, zl, zm]
          rfl
         refine zo (i := 13) (N := some 28) (v := ?_) (a' := ?_) #[true, true, false, false, false, true, false, false, false, true, false, false, false, true, false, false, false, false, false, false, false, false, false, false, false, false, false, false, false, false] rfl rfl (zn HT_.1 (by kernel_rfl)) (fun _ _ _ h => h) (Or.inl ⟨by rfl, ?_⟩) ?_ ?_
         rotate_left
         ·
          intro w'
          go_simp
          with_reducible rfl
         rotate_left
         ·
          simp only [Act.put, List.setIfInBounds_toArray, List.set_cons_zero, List.set_cons_succ, zl, zm]
          rfl
         refine zo (i := 17) (N := some 32) (v := ?_) (a' := ?_) #[true, true, false, false, false, true, false, false, false, true, false, false, false, true, false, false, false, true, false, false, false, false, false, false, false, false, false, false, false, false] rfl rfl (zn HT_.1 (by kernel_rfl)) (fun _ _ _ h => h) (Or.inl ⟨by rfl, ?_⟩) ?_ ?_
         rotate_left
         ·
          intro w'
          go_simp
          with_reducible rfl
         rotate_left
         ·
          simp only [Act.put, List.setIfInBounds_toArray, List.set_cons_zero, List.set_cons_succ, zl, zm]
          rfl
         refine zo (i := 21) (N := some 36) (v := ?_) (a' := ?_) #[true, true, false, false, false, true, false, false, false, true, false, false, false, true, false, false, false, true, false, false, false, true, false, false, false, false, false, false, false, false] rfl rfl (zn HT_.1 (by kernel_rfl)) (fun _ _ _ h => h) (Or.inl ⟨by rfl, ?_⟩) ?_ ?_
         rotate_left
         ·
          intro w'
          go_simp
          with_reducible rfl
         rotate_left
         ·
          simp only [Act.put, List.setIfInBounds_toArray, List.set_cons_zero, List.set_cons_succ, zl, zm]
          rfl
         refine zo (i := 25) (N := some 40) (v := ?_) (a' := ?_) #[true, true, false, false, false, true, false, false, false, true, false, false, false, true, false, false, false, true, false, false, false, true, false, false, false, true, false, false, false, false] rfl rfl (zn HT_.1 (by kernel_rfl)) (fun _ _ _ h => h) (Or.inl ⟨by rfl, ?_⟩) ?_ ?_
         rotate_left
         ·
          intro w'
          go_simp
          with_reducible rfl
         rotate_left
         ·
          simp only [Act.put, List.setIfInBounds_toArray, List.set_cons_zero, List.set_cons_succ, zl, zm]
          rfl
         refine zr (i := 2) (N := some 17) (v := ?_) (a' := ?_) #[true, true, true, false, false, true, false, false, false, true, false, false, false, true, false, false, false, true, false, false, false, true, false, false, false, true, false, false, false, false] rfl rfl (zp HT_.1 HW_.1 (by kernel_rfl)) (fun _ _ _ h => h) (Or.inl ⟨by rfl, ?_⟩) hHeld ?_ ?_
         rotate_left
         ·
          rintro w' ⟨s0, s1, s2, s3, s4, s5, s6, s7, s8, s9, s10, s11, s12, s13⟩
          go_simp
          with_reducible rfl
         rotate_left
         ·
          simp only [Act.put, List.setIfInBounds_toArray, List.set_cons_zero, List.set_cons_succ, zl, zm]
          rfl
         refine zr (i := 6) (N := some 21) (v := ?_) (a' := ?_) #[true, true, true, false, false, true, true, false, false, true, false, false, false, true, false, false, false, true, false, false, false, true, false, false, false, true, false, false, false, false] rfl rfl (zp HT_.1 HW_.1 (by kernel_rfl)) (fun _ _ _ h => h) (Or.inl ⟨by rfl, ?_⟩) hHeld ?_ ?_
         rotate_left
         ·
          rintro w' ⟨s0, s1, s2, s3, s4, s5, s6, s7, s8, s9, s10, s11, s12, s13⟩
          go_simp
          with_reducible rfl
         rotate_left
         ·
          simp only [Act.put, List.setIfInBounds_toArray, List.set_cons_zero, List.set_cons_succ, zl, zm]
          rfl
         refine zr (i := 10) (N := some 25) (v := ?_) (a' := ?_) #[true, true, true, false, false, true, true, false, false, true, true, false, false, true, false, false, false, true, false, false, false, true, false, false, false, true, false, false, false, false] rfl rfl (zp HT_.1 HW_.1 (by kernel_rfl)) (fun _ _ _ h => h) (Or.inl ⟨by rfl, ?_⟩) hHeld ?_ ?_
         rotate_left
         ·
          rintro w' ⟨s0, s1, s2, s3, s4, s5, s6, s7, s8, s9, s10, s11, s12, s13⟩
          go_simp
          with_reducible rfl
         rotate_left
         ·
          simp only [Act.put, List.setIfInBounds_toArray, List.set_cons_zero, List.set_cons_succ, zl, zm]
          rfl
         refine zr (i := 14) (N := some 29) (v := ?_) (a' := ?_) #[true, true, true, false, false, true, true, false, false, true, true, false, false, true, true, false, false, true, false, false, false, true, false, false, false, true, false, false, false, false] rfl rfl (zp HT_.1 HW_.1 (by kernel_rfl)) (fun _ _ _ h => h) (Or.inl ⟨by rfl, ?_⟩) hHeld ?_ ?_
         rotate_left
         ·
          rintro w' ⟨s0, s1, s2, s3, s4, s5, s6, s7, s8, s9, s10, s11, s12, s13⟩
          go_simp
          with_reducible rfl
         rotate_left
         ·
          simp only [Act.put, List.setIfInBounds_toArray, List.set_cons_zero, List.set_cons_succ, zl, zm]
          rfl
         refine zr (i := 18) (N := some 33) (v := ?_) (a' := ?_) #[true, true, true, false, false, true, true, false, false, true, true, false, false, true, true, false, false, true, true, false, false, true, false, false, false, true, false, false, false, false] rfl rfl (zp HT_.1 HW_.1 (by kernel_rfl)) (fun _ _ _ h => h) (Or.inl ⟨by rfl, ?_⟩) hHeld ?_ ?_
         rotate_left
         ·
          rintro w' ⟨s0, s1, s2, s3, s4, s5, s6, s7, s8, s9, s10, s11, s12, s13⟩
          go_simp
          with_reducible rfl
         rotate_left
         ·
          simp only [Act.put, List.setIfInBounds_toArray, List.set_cons_zero, List.set_cons_succ, zl, zm]
          rfl
         refine zr (i := 22) (N := some 37) (v := ?_) (a' := ?_) #[true, true, true, false, false, true, true, false, false, true, true, false, false, true, true, false, false, true, true, false, false, true, true, false, false, true, false, false, false, false] rfl rfl (zp HT_.1 HW_.1 (by kernel_rfl)) (fun _ _ _ h => h) (Or.inl ⟨by rfl, ?_⟩) hHeld ?_ ?_
         rotate_left
         ·
          rintro w' ⟨s0, s1, s2, s3, s4, s5, s6, s7, s8, s9, s10, s11, s12, s13⟩
          go_simp
          with_reducible rfl
         rotate_left
         ·
          simp only [Act.put, List.setIfInBounds_toArray, List.set_cons_zero, List.set_cons_succ, zl, zm]
          rfl
         refine zr (i := 26) (N := some 41) (v := ?_) (a' := ?_) #[true, true, true, false, false, true, true, false, false, true, true, false, false, true, true, false, false, true, true, false, false, true, true, false, false, true, true, false, false, false] rfl rfl (zp HT_.1 HW_.1 (by kernel_rfl)) (fun _ _ _ h => h) (Or.inl ⟨by rfl, ?_⟩) hHeld ?_ ?_
         rotate_left
         ·
          rintro w' ⟨s0, s1, s2, s3, s4, s5, s6, s7, s8, s9, s10, s11, s12, s13⟩
          go_simp
          with_reducible rfl
         rotate_left
         ·
          simp only [Act.put, List.setIfInBounds_toArray, List.set_cons_zero, List.set_cons_succ, zl, zm]
          rfl
         refine one_ (i := 3) (N := some 18) #[true, true, true, true, false, true, true, false, false, true, true, false, false, true, true, false, false, true, true, false, false, true, true, false, false, true, true, false, false, false] rfl rfl (zq HT_.1 (by kernel_rfl)) (by decide) (fun K hK => ?_)
         refine zt Try.func104 (by kernel_rfl) rfl #[.int .i64 a0_1, .int .i64 1] (by rfl) rfl rfl (by (try simp only [List.map_toArray, List.map_cons, List.map_nil]); rfl) ?_
         with_reducible refine (impl_bytesOf.calls k a0_1 1 t302 _ A8.1).mono ?_
         rintro e w31 ⟨rfl, hb⟩
         refine ⟨_, rfl, ?_⟩
         replace zu := Aside0.mk (zj (g := gb299) (o := .cells #[.slice A0_0 l0_0.length c0_0, .int .i64 a0_1, .slice A0_2 l0_2.length c0_2, .int .i64 a0_3, .int .i64 a0_4, .int .i64 a0_5, .slice A0_6 l0_6.length c0_6, .slice A0_7 l0_7.length c0_7] 53 (0, 0)) (by exact zu.1) hb)
         replace zv := Aside0.mk (zj (g := gb301) (o := .cells #[.int .i64 a0_1, .slice A0_2 l0_2.length c0_2, .int .i64 a0_3, .int .i64 a0_4, .int .i64 a0_5, .slice A0_6 l0_6.length c0_6] 27 (0, 0)) (by exact zv.1) hb)
         replace HB := Aside0.mk (zk HB.1 hb)
         (try clear hb)
         (try clear hb2)
         (try clear hk)
         (try clear hi)
         refine hK.out _ _ ⟨(za zv.1 0).trans rfl, (za zv.1 1).trans rfl, (za zv.1 2).trans rfl, (za zv.1 3).trans rfl, (za zv.1 4).trans rfl, (za zv.1 5).trans rfl, (za zu.1 0).trans rfl, (za zu.1 1).trans rfl, (za zu.1 2).trans rfl, (za zu.1 3).trans rfl, (za zu.1 4).trans rfl, (za zu.1 5).trans rfl, (za zu.1 6).trans rfl, (za zu.1 7).trans rfl⟩ (fun hHeld => ?_)
         clear hK K
         refine zs (a' := ?_) ?_ ?_
         rotate_left
         ·
          show Act.put _ (some 18) _ = _
          simp only [Act.put, List.setIfInBounds_toArray, List.set_cons_zero, List.set_cons_succ, zl, zm]
          rfl
         refine zo (i := 4) (N := some 19) (v := ?_) (a' := ?_) #[true, true, true, true, true, true, true, false, false, true, true, false, false, true, true, false, false, true, true, false, false, true, true, false, false, true, true, false, false, false] rfl rfl (zn HT_.1 (by kernel_rfl)) (fun _ _ _ h => h) (Or.inl ⟨by rfl, ?_⟩) ?_ ?_
         rotate_left
         ·
          intro w'
          go_simp
          with_reducible rfl
         rotate_left
         ·
          simp only [Act.put, List.setIfInBounds_toArray, List.set_cons_zero, List.set_cons_succ, zl, zm]
          rfl
         refine one_ (i := 7) (N := some 22) #[true, true, true, true, true, true, true, true, false, true, true, false, false, true, true, false, false, true, true, false, false, true, true, false, false, true, true, false, false, false] rfl rfl (zq HT_.1 (by kernel_rfl)) (by decide) (fun K hK => ?_)
         refine zt Try.func115 (by kernel_rfl) rfl #[.slice A0_2 l0_2.length c0_2, .int .i64 2] (by rfl) rfl rfl (by (try simp only [List.map_toArray, List.map_cons, List.map_nil]); rfl) ?_
         with_reducible refine (impl_numbersBytes.calls k _ _ l0_2 2 t303 _ ?side1 ?side2 A10.1).mono ?_
         (case side1 => repeat (exact (Kd.C_below HR0_2.1 HB.1)))
         (case side2 => exact HC0_2.1)
         rintro e w32 ⟨rfl, hb⟩
         refine ⟨_, rfl, ?_⟩
         replace zu := Aside0.mk (zj (g := gb299) (o := .cells #[.slice A0_0 l0_0.length c0_0, .int .i64 a0_1, .slice A0_2 l0_2.length c0_2, .int .i64 a0_3, .int .i64 a0_4, .int .i64 a0_5, .slice A0_6 l0_6.length c0_6, .slice A0_7 l0_7.length c0_7] 53 (0, 0)) (by exact zu.1) hb)
         replace zv := Aside0.mk (zj (g := gb301) (o := .cells #[.int .i64 a0_1, .slice A0_2 l0_2.length c0_2, .int .i64 a0_3, .int .i64 a0_4, .int .i64 a0_5, .slice A0_6 l0_6.length c0_6] 27 (0, 0)) (by exact zv.1) hb)
         replace HB := Aside0.mk (zk HB.1 hb)
         (try clear hb)
         (try clear hb2)
         (try clear hk)
         (try clear hi)
         refine hK.out _ _ ⟨(za zv.1 0).trans rfl, (za zv.1 1).trans rfl, (za zv.1 2).trans rfl, (za zv.1 3).trans rfl, (za zv.1 4).trans rfl, (za zv.1 5).trans rfl, (za zu.1 0).trans rfl, (za zu.1 1).trans rfl, (za zu.1 2).trans rfl, (za zu.1 3).trans rfl, (za zu.1 4).trans rfl, (za zu.1 5).trans rfl, (za zu.1 6).trans rfl, (za zu.1 7).trans rfl⟩ (fun hHeld => ?_)
         clear hK K
         refine zs (a' := ?_) ?_ ?_
         rotate_left
         ·
          show Act.put _ (some 22) _ = _
          simp only [Act.put, List.setIfInBounds_toArray, List.set_cons_zero, List.set_cons_succ, zl, zm]
          rfl
         refine zo (i := 8) (N := some 23) (v := ?_) (a' := ?_) #[true, true, true, true, true, true, true, true, true, true, true, false, false, true, true, false, false, true, true, false, false, true, true, false, false, true, true, false, false, false] rfl rfl (zn HT_.1 (by kernel_rfl)) (fun _ _ _ h => h) (Or.inl ⟨by rfl, ?_⟩) ?_ ?_
         rotate_left
         ·
          intro w'
          go_simp
          with_reducible rfl
         rotate_left
         ·
          simp only [Act.put, List.setIfInBounds_toArray, List.set_cons_zero, List.set_cons_succ, zl, zm]
          rfl
         refine one_ (i := 11) (N := some 26) #[true, true, true, true, true, true, true, true, true, true, true, true, false, true, true, false, false, true, true, false, false, true, true, false, false, true, true, false, false, false] rfl rfl (zq HT_.1 (by kernel_rfl)) (by decide) (fun K hK => ?_)
         refine zt Try.func104 (by kernel_rfl) rfl #[.int .i64 a0_3, .int .i64 4] (by rfl) rfl rfl (by (try simp only [List.map_toArray, List.map_cons, List.map_nil]); rfl) ?_
         with_reducible refine (impl_bytesOf.calls k a0_3 4 t304 _ A12.1).mono ?_
         rintro e w33 ⟨rfl, hb⟩
         refine ⟨_, rfl, ?_⟩
         replace zu := Aside0.mk (zj (g := gb299) (o := .cells #[.slice A0_0 l0_0.length c0_0, .int .i64 a0_1, .slice A0_2 l0_2.length c0_2, .int .i64 a0_3, .int .i64 a0_4, .int .i64 a0_5, .slice A0_6 l0_6.length c0_6, .slice A0_7 l0_7.length c0_7] 53 (0, 0)) (by exact zu.1) hb)
         replace zv := Aside0.mk (zj (g := gb301) (o := .cells #[.int .i64 a0_1, .slice A0_2 l0_2.length c0_2, .int .i64 a0_3, .int .i64 a0_4, .int .i64 a0_5, .slice A0_6 l0_6.length c0_6] 27 (0, 0)) (by exact zv.1) hb)
         replace HB := Aside0.mk (zk HB.1 hb)
         (try clear hb)
         (try clear hb2)
         (try clear hk)
         (try clear hi)
         refine hK.out _ _ ⟨(za zv.1 0).trans rfl, (za zv.1 1).trans rfl, (za zv.1 2).trans rfl, (za zv.1 3).trans rfl, (za zv.1 4).trans rfl, (za zv.1 5).trans rfl, (za zu.1 0).trans rfl, (za zu.1 1).trans rfl, (za zu.1 2).trans rfl, (za zu.1 3).trans rfl, (za zu.1 4).trans rfl, (za zu.1 5).trans rfl, (za zu.1 6).trans rfl, (za zu.1 7).trans rfl⟩ (fun hHeld => ?_)
         clear hK K
         refine zs (a' := ?_) ?_ ?_
         rotate_left
         ·
          show Act.put _ (some 26) _ = _
          simp only [Act.put, List.setIfInBounds_toArray, List.set_cons_zero, List.set_cons_succ, zl, zm]
          rfl
         refine zo (i := 12) (N := some 27) (v := ?_) (a' := ?_) #[true, true, true, true, true, true, true, true, true, true, true, true, true, true, true, false, false, true, true, false, false, true, true, false, false, true, true, false, false, false] rfl rfl (zn HT_.1 (by kernel_rfl)) (fun _ _ _ h => h) (Or.inl ⟨by rfl, ?_⟩) ?_ ?_
         rotate_left
         ·
          intro w'
          go_simp
          with_reducible rfl
         rotate_left
         ·
          simp only [Act.put, List.setIfInBounds_toArray, List.set_cons_zero, List.set_cons_succ, zl, zm]
          rfl
         refine one_ (i := 15) (N := some 30) #[true, true, true, true, true, true, true, true, true, true, true, true, true, true, true, true, false, true, true, false, false, true, true, false, false, true, true, false, false, false] rfl rfl (zq HT_.1 (by kernel_rfl)) (by decide) (fun K hK => ?_)
         refine zt Try.func104 (by kernel_rfl) rfl #[.int .i64 a0_4, .int .i64 3] (by rfl) rfl rfl (by (try simp only [List.map_toArray, List.map_cons, List.map_nil]); rfl) ?_
         with_reducible refine (impl_bytesOf.calls k a0_4 3 t305 _ A14.1).mono ?_
         rintro e w34 ⟨rfl, hb⟩
         refine ⟨_, rfl, ?_⟩
         replace zu := Aside0.mk (zj (g := gb299) (o := .cells #[.slice A0_0 l0_0.length c0_0, .int .i64 a0_1, .slice A0_2 l0_2.length c0_2, .int .i64 a0_3, .int .i64 a0_4, .int .i64 a0_5, .slice A0_6 l0_6.length c0_6, .slice A0_7 l0_7.length c0_7] 53 (0, 0)) (by exact zu.1) hb)
         replace zv := Aside0.mk (zj (g := gb301) (o := .cells #[.int .i64 a0_1, .slice A0_2 l0_2.length c0_2, .int .i64 a0_3, .int .i64 a0_4, .int .i64 a0_5, .slice A0_6 l0_6.length c0_6] 27 (0, 0)) (by exact zv.1) hb)
         replace HB := Aside0.mk (zk HB.1 hb)
         (try clear hb)
         (try clear hb2)
         (try clear hk)
         (try clear hi)
         refine hK.out _ _ ⟨(za zv.1 0).trans rfl, (za zv.1 1).trans rfl, (za zv.1 2).trans rfl, (za zv.1 3).trans rfl, (za zv.1 4).trans rfl, (za zv.1 5).trans rfl, (za zu.1 0).trans rfl, (za zu.1 1).trans rfl, (za zu.1 2).trans rfl, (za zu.1 3).trans rfl, (za zu.1 4).trans rfl, (za zu.1 5).trans rfl, (za zu.1 6).trans rfl, (za zu.1 7).trans rfl⟩ (fun hHeld => ?_)
         clear hK K
         refine zs (a' := ?_) ?_ ?_
         rotate_left
         ·
          show Act.put _ (some 30) _ = _
          simp only [Act.put, List.setIfInBounds_toArray, List.set_cons_zero, List.set_cons_succ, zl, zm]
          rfl
         refine zo (i := 16) (N := some 31) (v := ?_) (a' := ?_) #[true, true, true, true, true, true, true, true, true, true, true, true, true, true, true, true, true, true, true, false, false, true, true, false, false, true, true, false, false, false] rfl rfl (zn HT_.1 (by kernel_rfl)) (fun _ _ _ h => h) (Or.inl ⟨by rfl, ?_⟩) ?_ ?_
         rotate_left
         ·
          intro w'
          go_simp
          with_reducible rfl
         rotate_left
         ·
          simp only [Act.put, List.setIfInBounds_toArray, List.set_cons_zero, List.set_cons_succ, zl, zm]
          rfl
         refine one_ (i := 19) (N := some 34) #[true, true, true, true, true, true, true, true, true, true, true, true, true, true, true, true, true, true, true, true, false, true, true, false, false, true, true, false, false, false] rfl rfl (zq HT_.1 (by kernel_rfl)) (by decide) (fun K hK => ?_)
         refine zt Try.func104 (by kernel_rfl) rfl #[.int .i64 a0_5, .int .i64 3] (by rfl) rfl rfl (by (try simp only [List.map_toArray, List.map_cons, List.map_nil]); rfl) ?_
         with_reducible refine (impl_bytesOf.calls k a0_5 3 t306 _ A16.1).mono ?_
         rintro e w35 ⟨rfl, hb⟩
         refine ⟨_, rfl, ?_⟩
         replace zu := Aside0.mk (zj (g := gb299) (o := .cells #[.slice A0_0 l0_0.length c0_0, .int .i64 a0_1, .slice A0_2 l0_2.length c0_2, .int .i64 a0_3, .int .i64 a0_4, .int .i64 a0_5, .slice A0_6 l0_6.length c0_6, .slice A0_7 l0_7.length c0_7] 53 (0, 0)) (by exact zu.1) hb)
         replace zv := Aside0.mk (zj (g := gb301) (o := .cells #[.int .i64 a0_1, .slice A0_2 l0_2.length c0_2, .int .i64 a0_3, .int .i64 a0_4, .int .i64 a0_5, .slice A0_6 l0_6.length c0_6] 27 (0, 0)) (by exact zv.1) hb)
         replace HB := Aside0.mk (zk HB.1 hb)
         (try clear hb)
         (try clear hb2)
         (try clear hk)
         (try clear hi)
         refine hK.out _ _ ⟨(za zv.1 0).trans rfl, (za zv.1 1).trans rfl, (za zv.1 2).trans rfl, (za zv.1 3).trans rfl, (za zv.1 4).trans rfl, (za zv.1 5).trans rfl, (za zu.1 0).trans rfl, (za zu.1 1).trans rfl, (za zu.1 2).trans rfl, (za zu.1 3).trans rfl, (za zu.1 4).trans rfl, (za zu.1 5).trans rfl, (za zu.1 6).trans rfl, (za zu.1 7).trans rfl⟩ (fun hHeld => ?_)
         clear hK K
         refine zs (a' := ?_) ?_ ?_
         rotate_left
         ·
          show Act.put _ (some 34) _ = _
          simp only [Act.put, List.setIfInBounds_toArray, List.set_cons_zero, List.set_cons_succ, zl, zm]
          rfl
         refine zo (i := 20) (N := some 35) (v := ?_) (a' := ?_) #[true, true, true, true, true, true, true, true, true, true, true, true, true, true, true, true, true, true, true, true, true, true, true, false, false, true, true, false, false, false] rfl rfl (zn HT_.1 (by kernel_rfl)) (fun _ _ _ h => h) (Or.inl ⟨by rfl, ?_⟩) ?_ ?_
         rotate_left
         ·
          intro w'
          go_simp
          with_reducible rfl
         rotate_left
         ·
          simp only [Act.put, List.setIfInBounds_toArray, List.set_cons_zero, List.set_cons_succ, zl, zm]
          rfl
         refine one_ (i := 23) (N := some 38) #[true, true, true, true, true, true, true, true, true, true, true, true, true, true, true, true, true, true, true, true, true, true, true, true, false, true, true, false, false, false] rfl rfl (zq HT_.1 (by kernel_rfl)) (by decide) (fun K hK => ?_)
         refine zt Try.func115 (by kernel_rfl) rfl #[.slice A0_6 l0_6.length c0_6, .int .i64 3] (by rfl) rfl rfl (by (try simp only [List.map_toArray, List.map_cons, List.map_nil]); rfl) ?_
         with_reducible refine (impl_numbersBytes.calls k _ _ l0_6 3 t307 _ ?side1 ?side2 A18.1).mono ?_
         (case side1 => repeat (exact (Kd.C_below HR0_6.1 HB.1)))
         (case side2 => exact HC0_6.1)
         rintro e w36 ⟨rfl, hb⟩
         refine ⟨_, rfl, ?_⟩
         replace zu := Aside0.mk (zj (g := gb299) (o := .cells #[.slice A0_0 l0_0.length c0_0, .int .i64 a0_1, .slice A0_2 l0_2.length c0_2, .int .i64 a0_3, .int .i64 a0_4, .int .i64 a0_5, .slice A0_6 l0_6.length c0_6, .slice A0_7 l0_7.length c0_7] 53 (0, 0)) (by exact zu.1) hb)
         replace zv := Aside0.mk (zj (g := gb301) (o := .cells #[.int .i64 a0_1, .slice A0_2 l0_2.length c0_2, .int .i64 a0_3, .int .i64 a0_4, .int .i64 a0_5, .slice A0_6 l0_6.length c0_6] 27 (0, 0)) (by exact zv.1) hb)
         replace HB := Aside0.mk (zk HB.1 hb)
         (try clear hb)
         (try clear hb2)
         (try clear hk)
         (try clear hi)
         refine hK.out _ _ ⟨(za zv.1 0).trans rfl, (za zv.1 1).trans rfl, (za zv.1 2).trans rfl, (za zv.1 3).trans rfl, (za zv.1 4).trans rfl, (za zv.1 5).trans rfl, (za zu.1 0).trans rfl, (za zu.1 1).trans rfl, (za zu.1 2).trans rfl, (za zu.1 3).trans rfl, (za zu.1 4).trans rfl, (za zu.1 5).trans rfl, (za zu.1 6).trans rfl, (za zu.1 7).trans rfl⟩ (fun hHeld => ?_)
         clear hK K
         refine zs (a' := ?_) ?_ ?_
         rotate_left
         ·
          show Act.put _ (some 38) _ = _
          simp only [Act.put, List.setIfInBounds_toArray, List.set_cons_zero, List.set_cons_succ, zl, zm]
          rfl
         refine zo (i := 24) (N := some 39) (v := ?_) (a' := ?_) #[true, true, true, true, true, true, true, true, true, true, true, true, true, true, true, true, true, true, true, true, true, true, true, true, true, true, true, false, false, false] rfl rfl (zn HT_.1 (by kernel_rfl)) (fun _ _ _ h => h) (Or.inl ⟨by rfl, ?_⟩) ?_ ?_
         rotate_left
         ·
          intro w'
          go_simp
          with_reducible rfl
         rotate_left
         ·
          simp only [Act.put, List.setIfInBounds_toArray, List.set_cons_zero, List.set_cons_succ, zl, zm]
          rfl
         refine one_ (i := 27) (N := some 42) #[true, true, true, true, true, true, true, true, true, true, true, true, true, true, true, true, true, true, true, true, true, true, true, true, true, true, true, true, false, false] rfl rfl (zq HT_.1 (by kernel_rfl)) (by decide) (fun K hK => ?_)
         refine zt Try.func114 (by kernel_rfl) rfl #[.slice A0_7 l0_7.length c0_7] (by rfl) rfl rfl (by (try simp only [List.map_toArray, List.map_cons, List.map_nil]); rfl) ?_
         with_reducible refine (impl_prefixesBytes.calls k _ _ l0_7 t308 _ ?side1 ?side2 A20.1).mono ?_
         (case side1 => repeat (exact (Kd.C_below HR0_7.1 HB.1)))
         (case side2 => exact HC0_7.1)
         rintro e w37 ⟨rfl, hb⟩
         refine ⟨_, rfl, ?_⟩
         replace zu := Aside0.mk (zj (g := gb299) (o := .cells #[.slice A0_0 l0_0.length c0_0, .int .i64 a0_1, .slice A0_2 l0_2.length c0_2, .int .i64 a0_3, .int .i64 a0_4, .int .i64 a0_5, .slice A0_6 l0_6.length c0_6, .slice A0_7 l0_7.length c0_7] 53 (0, 0)) (by exact zu.1) hb)
         replace zv := Aside0.mk (zj (g := gb301) (o := .cells #[.int .i64 a0_1, .slice A0_2 l0_2.length c0_2, .int .i64 a0_3, .int .i64 a0_4, .int .i64 a0_5, .slice A0_6 l0_6.length c0_6] 27 (0, 0)) (by exact zv.1) hb)
         replace HB := Aside0.mk (zk HB.1 hb)
         (try clear hb)
         (try clear hb2)
         (try clear hk)
         (try clear hi)
         refine hK.out _ _ ⟨(za zv.1 0).trans rfl, (za zv.1 1).trans rfl, (za zv.1 2).trans rfl, (za zv.1 3).trans rfl, (za zv.1 4).trans rfl, (za zv.1 5).trans rfl, (za zu.1 0).trans rfl, (za zu.1 1).trans rfl, (za zu.1 2).trans rfl, (za zu.1 3).trans rfl, (za zu.1 4).trans rfl, (za zu.1 5).trans rfl, (za zu.1 6).trans rfl, (za zu.1 7).trans rfl⟩ (fun hHeld => ?_)
         clear hK K
         refine zs (a' := ?_) ?_ ?_
         rotate_left
         ·
          show Act.put _ (some 42) _ = _
          simp only [Act.put, List.setIfInBounds_toArray, List.set_cons_zero, List.set_cons_succ, zl, zm]
          rfl
         refine zo (i := 28) (N := some 43) (v := ?_) (a' := ?_) #[true, true, true, true, true, true, true, true, true, true, true, true, true, true, true, true, true, true, true, true, true, true, true, true, true, true, true, true, true, false] rfl rfl (zn HT_.1 (by kernel_rfl)) (fun _ _ _ h => h) (Or.inl ⟨by rfl, ?_⟩) ?_ ?_
         rotate_left
         ·
          intro w'
          go_simp
          with_reducible rfl
         rotate_left
         ·
          simp only [Act.put, List.setIfInBounds_toArray, List.set_cons_zero, List.set_cons_succ, zl, zm]
          rfl
         refine zo (i := 29) (N := some 2) (v := ?_) (a' := ?_) #[true, true, true, true, true, true, true, true, true, true, true, true, true, true, true, true, true, true, true, true, true, true, true, true, true, true, true, true, true, true] rfl rfl (zn HT_.1 (by kernel_rfl)) (fun _ _ _ h => h) (Or.inl ⟨by rfl, ?_⟩) ?_ ?_
         rotate_left
         ·
          intro w'
          go_simp
          with_reducible rfl
         rotate_left
         ·
          simp only [Act.put, List.setIfInBounds_toArray, List.set_cons_zero, List.set_cons_succ, zl, zm]
          rfl
         refine done_ (done_of HT_.1 (by kernel_rfl)) ?_
         try go_wp2
         go_ret
         exact ⟨by rfl, by exact HB.1⟩
        ·
         rw [if_neg c21] at H
         exact absurd H (by simp)
       ·
        rw [if_neg c19] at H
        exact absurd H (by simp)
      ·
       rw [if_neg c17] at H
       exact absurd H (by simp)
     ·
      rw [if_neg c15] at H
      exact absurd H (by simp)
    ·
     rw [if_neg c13] at H
     exact absurd H (by simp)
   ·
    rw [if_neg c11] at H
    exact absurd H (by simp)
  ·
   rw [if_neg c9] at H
   exact absurd H (by simp)

end Go.Proofs.Ytlnfcobloolnnaa.PFnExactReadUpdate
