/- Written by this session's own program over the kit's print: Lean functions that tell what Go functions answer, each with a proof that the call does so. No condition but what each statement says. -/
import Derived.Test.YtlnfcobloolnnaaYFnExactUpdateBytesx0
import Derived.Test.YtlnfcobloolnnaaYFnExactUpdateBytesx2
namespace Go.Proofs.Ytlnfcobloolnnaa.PFnExactUpdateBytes
open Go.RowKit Go.Proofs.YtlnfcobloolnnaaW.PrintWords Go.Proofs.YtlnfcobloolnnaaW.PrintLast Go.Proofs.YtlnfcobloolnnaaW.PrintMore
open Go.Proofs.YtlnfcobloolnnaaW.PrintLast renaming i64_w → zt, i32_w → zu, any_of → zw, pure_ → zx, goesL_ → zy
open Go.Proofs.YtlnfcobloolnnaaW.PrintWords renaming blk_frozen → za, blk_cell → zb, pw_below_drewN → zc, below_drew1 → zd, below_alloc → ze, below_set → zf, blk_drewN → zg, blk_alloc → zh, blk_drew → zi, below_size → zj, below_step → zk, blk_below → zo, box_event → zq, gate_callee → zr, gate_dst → zs, blk_lt → zv
open Go.Proofs.YtlnfcobloolnnaaW.PrintWords.Kd renaming C_drewN → zl, C_below → zm, C_alloc → zn, C_drew → zp
attribute [local go_sem] max2_int min2_int max_two min_two max_three min_three max_four min_four   -- for this text's walks alone
set_option linter.unusedVariables false
set_option linter.unusedSimpArgs false

/-! ### laws_eqPrefix: function 22 -/
def laws_eqPrefix.f (a0_0 : Int) (a0_1 : Int) (a1_0 : Int) (a1_1 : Int) : Option (Bool) := if a0_0 = a1_0 then (if a0_1 = a1_1 then (some true) else (some false)) else (some false)
set_option maxHeartbeats 8000000 in
set_option maxRecDepth 100000 in
theorem laws_eqPrefix.calls (a0_0 : Int) (a0_1 : Int) (a1_0 : Int) (a1_1 : Int) (r : Bool) (w : World) (h : laws_eqPrefix.f a0_0 a0_1 a1_0 a1_1 = some r) :
  Calls Try.prog 22 #[.agg #[.int .i64 a0_0, .int .i64 a0_1], .agg #[.int .i64 a1_0, .int .i64 a1_1]] w fun e w' => e = .returned (.bool r) ∧ Below w.heap.size w w' := by
 have hu35 := Try.underlying35
 have HB := Aside0.mk (Below.refl w.heap.size w)
 have H : (if a0_0 = a1_0 then (if a0_1 = a1_1 then (some true) else (some false)) else (some false)) = some r := h
 clear h
 by_cases c3 : a0_0 = a1_0
 ·
  rw [if_pos c3] at H
  have c3b0 : (a0_0 == a1_0) = true := beq_iff_eq.mpr c3
  have c3b1 : (a0_0 != a1_0) = false := bne_eq_false_iff_eq.mpr c3
  clear c3
  by_cases c4 : a0_1 = a1_1
  ·
   rw [if_pos c4] at H
   have c4b0 : (a0_1 == a1_1) = true := beq_iff_eq.mpr c4
   have c4b1 : (a0_1 != a1_1) = false := bne_eq_false_iff_eq.mpr c4
   clear c4
   obtain rfl := Option.some.inj H
   go_enter Try.func22, Try.ntmps22
   go_wp2_with (first | ((with_reducible refine zs (N := 2) rfl ?_); refine zq ?hg (N := 2) ?hd (cs := #[.int .i64 a0_0, .int .i64 a0_1]) (t := 35) ?hr ?_; (case hd => rfl); (case hg => rfl); (case hr => first | (go_simp; done) | (go_simp; rfl)); intro gb157 hg w5 hbox hb; have n0_ := Aside0.mk (zk (by repeat (first | (with_reducible first | exact HB.1 | apply ze | apply zc | apply zd) | exact HB.1)) hb); have n1_ := Aside0.mk (hbox); have n2_ := Aside0.mk ((by rw [hg]; exact (zj (by repeat (first | (with_reducible first | exact HB.1 | apply ze | apply zc | apply zd) | exact HB.1))) : w.heap.size ≤ gb157)); have n3_ := Aside0.mk ((by rw [hg]; exact (zj (by repeat (first | (with_reducible first | exact HB.1 | apply ze | apply zc | apply zd) | exact HB.1))) : w.heap.size ≤ gb157)); clear HB; have HB := n0_; have zB := n1_; have GW157 := n2_; have zG := n3_; clear n0_ n1_ n2_ n3_; clear hb hbox hg) | ((with_reducible refine zs (N := 3) rfl ?_); refine zq ?hg (N := 3) ?hd (cs := #[.int .i64 a1_0, .int .i64 a1_1]) (t := 35) ?hr ?_; (case hd => rfl); (case hg => rfl); (case hr => first | (go_simp; done) | (go_simp; rfl)); intro gb158 hg w6 hbox hb; have n0_ := Aside0.mk (zo (g := gb157) (o := .cells #[.int .i64 a0_0, .int .i64 a0_1] 35 (0, 0)) (by (with_reducible repeat (first | refine zg ?_ _ | refine zi ?_ | refine zh ?_ _)); exact zB.1) hb); have n1_ := Aside0.mk (zk (by repeat (first | (with_reducible first | exact HB.1 | apply ze | apply zc | apply zd | refine zf ?_ zG.1) | exact HB.1)) hb); have n2_ := Aside0.mk (hbox); have n3_ := Aside0.mk ((by rw [hg]; exact (zj (by repeat (first | (with_reducible first | exact HB.1 | apply ze | apply zc | apply zd | refine zf ?_ zG.1) | exact HB.1))) : w.heap.size ≤ gb158)); have n4_ := Aside0.mk ((by rw [hg]; exact (zj (by repeat (first | (with_reducible first | exact HB.1 | apply ze | apply zc | apply zd | refine zf ?_ zG.1) | exact HB.1))) : w.heap.size ≤ gb158)); have n5_ := Aside0.mk ((by rw [hg]; exact Nat.ne_of_lt (zv (g := gb157) (o := .cells #[.int .i64 a0_0, .int .i64 a0_1] 35 (0, 0)) (by (with_reducible repeat (first | refine zg ?_ _ | refine zi ?_ | refine zh ?_ _)); exact zB.1)) : gb157 ≠ gb158)); have n6_ := Aside0.mk ((by rw [hg]; exact Nat.ne_of_gt (zv (g := gb157) (o := .cells #[.int .i64 a0_0, .int .i64 a0_1] 35 (0, 0)) (by (with_reducible repeat (first | refine zg ?_ _ | refine zi ?_ | refine zh ?_ _)); exact zB.1)) : gb158 ≠ gb157)); clear zB; clear HB; have zB := n0_; have HB := n1_; have zH := n2_; have GW158 := n3_; have zK := n4_; have zI := n5_; have zJ := n6_; clear n0_ n1_ n2_ n3_ n4_ n5_ n6_; clear hb hbox hg; have hnb7 := zI.1; have hnc7 := zJ.1; have hcz8_0 : w6.cell? ⟨gb157, 0, none⟩ = some (.int .i64 a0_0) := (zb zB.1 0).trans rfl; have hcz8_1 : w6.cell? ⟨gb157, 1, none⟩ = some (.int .i64 a0_1) := (zb zB.1 1).trans rfl; have hfz8_0 := za zB.1 0; have hfz8_1 := za zB.1 1; have hcz9_0 : w6.cell? ⟨gb158, 0, none⟩ = some (.int .i64 a1_0) := (zb zH.1 0).trans rfl; have hcz9_1 : w6.cell? ⟨gb158, 1, none⟩ = some (.int .i64 a1_1) := (zb zH.1 1).trans rfl; have hfz9_0 := za zH.1 0; have hfz9_1 := za zH.1 1))
   go_ret
   exact ⟨by first | rfl | (simp [errW_none, errW_some] <;> rfl) | (simp [*, errW_none, errW_some] <;> rfl), by repeat (first | (with_reducible first | exact HB.1 | apply ze | apply zc | apply zd | refine zf ?_ zG.1 | refine zf ?_ zK.1) | exact HB.1)⟩
  ·
   rw [if_neg c4] at H
   have c4b0 : (a0_1 == a1_1) = false := beq_eq_false_iff_ne.mpr c4
   have c4b1 : (a0_1 != a1_1) = true := bne_iff_ne.mpr c4
   obtain rfl := Option.some.inj H
   go_enter Try.func22, Try.ntmps22
   go_wp2_with (first | ((with_reducible refine zs (N := 2) rfl ?_); refine zq ?hg (N := 2) ?hd (cs := #[.int .i64 a0_0, .int .i64 a0_1]) (t := 35) ?hr ?_; (case hd => rfl); (case hg => rfl); (case hr => first | (go_simp; done) | (go_simp; rfl)); intro gb157 hg w10 hbox hb; have n0_ := Aside0.mk (zk (by repeat (first | (with_reducible first | exact HB.1 | apply ze | apply zc | apply zd) | exact HB.1)) hb); have n1_ := Aside0.mk (hbox); have n2_ := Aside0.mk ((by rw [hg]; exact (zj (by repeat (first | (with_reducible first | exact HB.1 | apply ze | apply zc | apply zd) | exact HB.1))) : w.heap.size ≤ gb157)); have n3_ := Aside0.mk ((by rw [hg]; exact (zj (by repeat (first | (with_reducible first | exact HB.1 | apply ze | apply zc | apply zd) | exact HB.1))) : w.heap.size ≤ gb157)); clear HB; have HB := n0_; have zB := n1_; have GW157 := n2_; have zG := n3_; clear n0_ n1_ n2_ n3_; clear hb hbox hg) | ((with_reducible refine zs (N := 3) rfl ?_); refine zq ?hg (N := 3) ?hd (cs := #[.int .i64 a1_0, .int .i64 a1_1]) (t := 35) ?hr ?_; (case hd => rfl); (case hg => rfl); (case hr => first | (go_simp; done) | (go_simp; rfl)); intro gb158 hg w11 hbox hb; have n0_ := Aside0.mk (zo (g := gb157) (o := .cells #[.int .i64 a0_0, .int .i64 a0_1] 35 (0, 0)) (by (with_reducible repeat (first | refine zg ?_ _ | refine zi ?_ | refine zh ?_ _)); exact zB.1) hb); have n1_ := Aside0.mk (zk (by repeat (first | (with_reducible first | exact HB.1 | apply ze | apply zc | apply zd | refine zf ?_ zG.1) | exact HB.1)) hb); have n2_ := Aside0.mk (hbox); have n3_ := Aside0.mk ((by rw [hg]; exact (zj (by repeat (first | (with_reducible first | exact HB.1 | apply ze | apply zc | apply zd | refine zf ?_ zG.1) | exact HB.1))) : w.heap.size ≤ gb158)); have n4_ := Aside0.mk ((by rw [hg]; exact (zj (by repeat (first | (with_reducible first | exact HB.1 | apply ze | apply zc | apply zd | refine zf ?_ zG.1) | exact HB.1))) : w.heap.size ≤ gb158)); have n5_ := Aside0.mk ((by rw [hg]; exact Nat.ne_of_lt (zv (g := gb157) (o := .cells #[.int .i64 a0_0, .int .i64 a0_1] 35 (0, 0)) (by (with_reducible repeat (first | refine zg ?_ _ | refine zi ?_ | refine zh ?_ _)); exact zB.1)) : gb157 ≠ gb158)); have n6_ := Aside0.mk ((by rw [hg]; exact Nat.ne_of_gt (zv (g := gb157) (o := .cells #[.int .i64 a0_0, .int .i64 a0_1] 35 (0, 0)) (by (with_reducible repeat (first | refine zg ?_ _ | refine zi ?_ | refine zh ?_ _)); exact zB.1)) : gb158 ≠ gb157)); clear zB; clear HB; have zB := n0_; have HB := n1_; have zH := n2_; have GW158 := n3_; have zK := n4_; have zI := n5_; have zJ := n6_; clear n0_ n1_ n2_ n3_ n4_ n5_ n6_; clear hb hbox hg; have hnb12 := zI.1; have hnc12 := zJ.1; have hcz13_0 : w11.cell? ⟨gb157, 0, none⟩ = some (.int .i64 a0_0) := (zb zB.1 0).trans rfl; have hcz13_1 : w11.cell? ⟨gb157, 1, none⟩ = some (.int .i64 a0_1) := (zb zB.1 1).trans rfl; have hfz13_0 := za zB.1 0; have hfz13_1 := za zB.1 1; have hcz14_0 : w11.cell? ⟨gb158, 0, none⟩ = some (.int .i64 a1_0) := (zb zH.1 0).trans rfl; have hcz14_1 : w11.cell? ⟨gb158, 1, none⟩ = some (.int .i64 a1_1) := (zb zH.1 1).trans rfl; have hfz14_0 := za zH.1 0; have hfz14_1 := za zH.1 1))
   go_ret
   exact ⟨by first | rfl | (simp [errW_none, errW_some] <;> rfl) | (simp [*, errW_none, errW_some] <;> rfl), by repeat (first | (with_reducible first | exact HB.1 | apply ze | apply zc | apply zd | refine zf ?_ zG.1 | refine zf ?_ zK.1) | exact HB.1)⟩
 ·
  rw [if_neg c3] at H
  have c3b0 : (a0_0 == a1_0) = false := beq_eq_false_iff_ne.mpr c3
  have c3b1 : (a0_0 != a1_0) = true := bne_iff_ne.mpr c3
  obtain rfl := Option.some.inj H
  go_enter Try.func22, Try.ntmps22
  go_wp2_with (first | ((with_reducible refine zs (N := 2) rfl ?_); refine zq ?hg (N := 2) ?hd (cs := #[.int .i64 a0_0, .int .i64 a0_1]) (t := 35) ?hr ?_; (case hd => rfl); (case hg => rfl); (case hr => first | (go_simp; done) | (go_simp; rfl)); intro gb157 hg w15 hbox hb; have n0_ := Aside0.mk (zk (by repeat (first | (with_reducible first | exact HB.1 | apply ze | apply zc | apply zd) | exact HB.1)) hb); have n1_ := Aside0.mk (hbox); have n2_ := Aside0.mk ((by rw [hg]; exact (zj (by repeat (first | (with_reducible first | exact HB.1 | apply ze | apply zc | apply zd) | exact HB.1))) : w.heap.size ≤ gb157)); have n3_ := Aside0.mk ((by rw [hg]; exact (zj (by repeat (first | (with_reducible first | exact HB.1 | apply ze | apply zc | apply zd) | exact HB.1))) : w.heap.size ≤ gb157)); clear HB; have HB := n0_; have zB := n1_; have GW157 := n2_; have zG := n3_; clear n0_ n1_ n2_ n3_; clear hb hbox hg) | ((with_reducible refine zs (N := 3) rfl ?_); refine zq ?hg (N := 3) ?hd (cs := #[.int .i64 a1_0, .int .i64 a1_1]) (t := 35) ?hr ?_; (case hd => rfl); (case hg => rfl); (case hr => first | (go_simp; done) | (go_simp; rfl)); intro gb158 hg w16 hbox hb; have n0_ := Aside0.mk (zo (g := gb157) (o := .cells #[.int .i64 a0_0, .int .i64 a0_1] 35 (0, 0)) (by (with_reducible repeat (first | refine zg ?_ _ | refine zi ?_ | refine zh ?_ _)); exact zB.1) hb); have n1_ := Aside0.mk (zk (by repeat (first | (with_reducible first | exact HB.1 | apply ze | apply zc | apply zd | refine zf ?_ zG.1) | exact HB.1)) hb); have n2_ := Aside0.mk (hbox); have n3_ := Aside0.mk ((by rw [hg]; exact (zj (by repeat (first | (with_reducible first | exact HB.1 | apply ze | apply zc | apply zd | refine zf ?_ zG.1) | exact HB.1))) : w.heap.size ≤ gb158)); have n4_ := Aside0.mk ((by rw [hg]; exact (zj (by repeat (first | (with_reducible first | exact HB.1 | apply ze | apply zc | apply zd | refine zf ?_ zG.1) | exact HB.1))) : w.heap.size ≤ gb158)); have n5_ := Aside0.mk ((by rw [hg]; exact Nat.ne_of_lt (zv (g := gb157) (o := .cells #[.int .i64 a0_0, .int .i64 a0_1] 35 (0, 0)) (by (with_reducible repeat (first | refine zg ?_ _ | refine zi ?_ | refine zh ?_ _)); exact zB.1)) : gb157 ≠ gb158)); have n6_ := Aside0.mk ((by rw [hg]; exact Nat.ne_of_gt (zv (g := gb157) (o := .cells #[.int .i64 a0_0, .int .i64 a0_1] 35 (0, 0)) (by (with_reducible repeat (first | refine zg ?_ _ | refine zi ?_ | refine zh ?_ _)); exact zB.1)) : gb158 ≠ gb157)); clear zB; clear HB; have zB := n0_; have HB := n1_; have zH := n2_; have GW158 := n3_; have zK := n4_; have zI := n5_; have zJ := n6_; clear n0_ n1_ n2_ n3_ n4_ n5_ n6_; clear hb hbox hg; have hnb17 := zI.1; have hnc17 := zJ.1; have hcz18_0 : w16.cell? ⟨gb157, 0, none⟩ = some (.int .i64 a0_0) := (zb zB.1 0).trans rfl; have hcz18_1 : w16.cell? ⟨gb157, 1, none⟩ = some (.int .i64 a0_1) := (zb zB.1 1).trans rfl; have hfz18_0 := za zB.1 0; have hfz18_1 := za zB.1 1; have hcz19_0 : w16.cell? ⟨gb158, 0, none⟩ = some (.int .i64 a1_0) := (zb zH.1 0).trans rfl; have hcz19_1 : w16.cell? ⟨gb158, 1, none⟩ = some (.int .i64 a1_1) := (zb zH.1 1).trans rfl; have hfz19_0 := za zH.1 0; have hfz19_1 := za zH.1 1))
  go_ret
  exact ⟨by first | rfl | (simp [errW_none, errW_some] <;> rfl) | (simp [*, errW_none, errW_some] <;> rfl), by repeat (first | (with_reducible first | exact HB.1 | apply ze | apply zc | apply zd | refine zf ?_ zG.1 | refine zf ?_ zK.1) | exact HB.1)⟩

/-! ### laws_eqPrefixS: function 78 -/
def laws_eqPrefixS.l0 : Nat → List (S35) → List (S35) → Int → Option (Bool)
 | 0, _, _, _ => none
 | k + 1, x0, x1, x5 => if x5 < (x0.length : Int) then (if 0 ≤ x5 then (if x5 < (x1.length : Int) then ((laws_eqPrefix.f ((rd_T35 x0 x5).f0) ((rd_T35 x0 x5).f1) ((rd_T35 x1 x5).f0) ((rd_T35 x1 x5).f1)).bind fun t161 => (if t161 = true then (laws_eqPrefixS.l0 k x0 x1 (wrap64 (x5 + 1))) else (some false))) else (none)) else (none)) else (some true)
def laws_eqPrefixS.f (k : Nat) (l0 : List (S35)) (l1 : List (S35)) : Option (Bool) := if (l0.length : Int) = (l1.length : Int) then (laws_eqPrefixS.l0 k l0 l1 0) else (some false)
theorem laws_eqPrefixS.mono_l : ∀ k, (∀ y0 y1 y2, LeO (laws_eqPrefixS.l0 k y0 y1 y2) (laws_eqPrefixS.l0 (k + 1) y0 y1 y2))
 | 0 => fun _ _ _ r h => by simp [laws_eqPrefixS.l0] at h
 | k + 1 => by
  have ih0 := laws_eqPrefixS.mono_l k
  ·
   intro y0 y1 y2
   unfold laws_eqPrefixS.l0
   repeat' first
   | (with_reducible exact ih0 _ _ _)
   | (with_reducible exact LeO.refl _)
   | (with_reducible exact LeO.none _)
   | (with_reducible refine LeO.ite ?_ ?_)
   | (with_reducible refine LeO.bind ?_ (fun _ => ?_))
   | exact ih0 _ _ _
   | exact LeO.none _
   | refine LeO.ite ?_ ?_
   | refine LeO.bind ?_ (fun _ => ?_)
theorem laws_eqPrefixS.mono : ∀ a0 a1 k, LeO (laws_eqPrefixS.f k a0 a1) (laws_eqPrefixS.f (k + 1) a0 a1) := by
 intro a0 a1 k
 have ih0 := laws_eqPrefixS.mono_l k
 unfold laws_eqPrefixS.f
 repeat' first
   | (with_reducible exact ih0 _ _ _)
   | (with_reducible exact LeO.refl _)
   | (with_reducible exact LeO.none _)
   | (with_reducible refine LeO.ite ?_ ?_)
   | (with_reducible refine LeO.bind ?_ (fun _ => ?_))
   | exact ih0 _ _ _
   | exact LeO.none _
   | refine LeO.ite ?_ ?_
   | refine LeO.bind ?_ (fun _ => ?_)
def laws_eqPrefixS.T6 : Bool × List (List Nat × List Nat) := (true, [([], []), ([], []), ([0, 1], [0, 1]), ([2], [2]), ([], []), ([], []), ([4, 5], [4, 5]), ([6], [6]), ([3, 7], [3, 7]), ([8], [8])])
def laws_eqPrefixS.B6 : List Nat := [0, 0, 3, 7, 0, 0, 48, 112, 255, 511]
theorem laws_eqPrefixS.tab6 : rtab .any (opsOf Try.f78 6) = laws_eqPrefixS.T6 := by kernel_rfl
theorem laws_eqPrefixS.bits6 : waitsOk laws_eqPrefixS.T6.2 laws_eqPrefixS.B6 = true := by kernel_rfl
set_option maxHeartbeats 8000000 in
set_option maxRecDepth 100000 in
theorem laws_eqPrefixS.calls (k : Nat) (A0 : Option Addr) (c0 : Nat) (l0 : List (S35)) (A1 : Option Addr) (c1 : Nat) (l1 : List (S35)) (r : Bool) (w : World) (hr0 : Kd.C k35 w A0 l0.length l0) (hc0 : l0.length ≤ c0) (hr1 : Kd.C k35 w A1 l1.length l1) (hc1 : l1.length ≤ c1) (h : laws_eqPrefixS.f k l0 l1 = some r) :
  Calls Try.prog 78 #[.slice A0 l0.length c0, .slice A1 l1.length c1] w fun e w' => e = .returned (.bool r) ∧ Below w.heap.size w w' := by
 have hu35 := Try.underlying35
 have HR0 := Aside0.mk hr0
 have HC0 := Aside0.mk hc0
 clear hr0 hc0
 have HR1 := Aside0.mk hr1
 have HC1 := Aside0.mk hc1
 clear hr1 hc1
 have HB := Aside0.mk (Below.refl w.heap.size w)
 have H : (if (l0.length : Int) = (l1.length : Int) then (laws_eqPrefixS.l0 k l0 l1 0) else (some false)) = some r := h
 clear h
 by_cases c3 : (l0.length : Int) = (l1.length : Int)
 ·
  rw [if_pos c3] at H
  have c3b0 : ((l0.length : Int) == (l1.length : Int)) = true := beq_iff_eq.mpr c3
  have c3b1 : ((l0.length : Int) != (l1.length : Int)) = false := bne_eq_false_iff_eq.mpr c3
  have c3b2 : (l0.length == l1.length) = true := by first | simpa using c3 | (simp at c3 ⊢; omega)
  clear c3
  have H' := Aside0.mk H
  clear H
  go_enter Try.func78, Try.ntmps78
  go_wp2
  go_loopg [5] k (fun kq v5 w' => ∃ (x5_1 : Int), v5 = .int .i64 x5_1 ∧ Aside0 (laws_eqPrefixS.l0 kq l0 l1 x5_1 = some r) ∧ Aside0 (kq ≤ k) ∧ Aside0 (Below w.heap.size w w'))
  case atStart => exact ⟨(0), (by first | rfl | (simp; done) | (simp [*]; done)), H', ⟨Nat.le_refl _⟩, ⟨by repeat (first | (with_reducible first | exact HB.1 | apply ze | apply zc | apply zd) | exact HB.1)⟩⟩
  case round =>
   clear H'
   (try clear c1); (try clear p2); (try clear c3); (try clear c3b0); (try clear c3b1); (try clear c3b2)
   obtain ⟨x5_1, rfl, HA, HK1, HB⟩ := hrel
   cases gk with
   | zero => exact absurd HA.1 (by simp [laws_eqPrefixS.l0])
   | succ k1 =>
    have H := HA.1
    clear HA
    simp only [laws_eqPrefixS.l0] at H
    by_cases c4 : x5_1 < (l0.length : Int)
    ·
     rw [if_pos c4] at H
     have c4b0 : decide (x5_1 < (l0.length : Int)) = true := decide_eq_true c4
     clear c4
     by_cases c5 : 0 ≤ x5_1
     ·
      rw [if_pos c5] at H
      have c5b0 : decide (0 ≤ x5_1) = true := decide_eq_true c5
      clear c5
      by_cases c6 : x5_1 < (l1.length : Int)
      ·
       rw [if_pos c6] at H
       have c6b0 : decide (x5_1 < (l1.length : Int)) = true := decide_eq_true c6
       clear c6
       replace H := Option.bind_eq_some_iff.mp H
       obtain ⟨t161, A70, H⟩ := H
       replace H : (if t161 = true then (laws_eqPrefixS.l0 k1 l0 l1 (wrap64 (x5_1 + 1))) else (some false)) = some r := H
       have A7 := Aside0.mk A70
       clear A70
       by_cases c8 : t161 = true
       ·
        subst c8
        have H1 : (laws_eqPrefixS.l0 k1 l0 l1 (wrap64 (x5_1 + 1))) = some r := by rw [if_pos rfl] at H; exact H
        clear H
        have H := H1
        clear H1
        have H' := Aside0.mk H
        clear H
        try go_wp2
        have n0_ := Aside0.mk (zd HB.1)
        clear HB
        have HB := n0_
        clear n0_
        have p159 : 0 ≤ (x5_1 : Int) := of_decide_eq_true (by first | (with_reducible assumption) | assumption)
        have q159 : x5_1 < (l0.length : Int) := of_decide_eq_true (by first | (with_reducible assumption) | assumption)
        obtain ⟨ad159, e159, hx159_0, hx159_1⟩ := at_T35 HR0.1 x5_1 p159 q159
        have hw159_1 := hx159_1
        have hw159_0 := hx159_0
        cases e159
        replace hx159_0 := (HB.1.cell (World.block_lt_of_cell? w _ hx159_0)).trans hx159_0
        replace hx159_1 := (HB.1.cell (World.block_lt_of_cell? w _ hx159_1)).trans hx159_1
        replace p159 := eq_true p159
        replace q159 := eq_true q159
        have p160 : 0 ≤ (x5_1 : Int) := of_decide_eq_true (by first | (with_reducible assumption) | assumption)
        have q160 : x5_1 < (l1.length : Int) := of_decide_eq_true (by first | (with_reducible assumption) | assumption)
        obtain ⟨ad160, e160, hx160_0, hx160_1⟩ := at_T35 HR1.1 x5_1 p160 q160
        have hw160_1 := hx160_1
        have hw160_0 := hx160_0
        cases e160
        replace hx160_0 := (HB.1.cell (World.block_lt_of_cell? w _ hx160_0)).trans hx160_0
        replace hx160_1 := (HB.1.cell (World.block_lt_of_cell? w _ hx160_1)).trans hx160_1
        replace p160 := eq_true p160
        replace q160 := eq_true q160
        refine start_ (n := 10) (S := fun w' => w'.cell? (ad159.add ((x5_1).toNat * 2)) = some (.int .i64 ((rd_T35 l0 x5_1).f0)) ∧ w'.cell? ⟨(ad159.add ((x5_1).toNat * 2)).block, (ad159.add ((x5_1).toNat * 2)).off + 1, none⟩ = some (.int .i64 ((rd_T35 l0 x5_1).f1)) ∧ w'.cell? (ad160.add ((x5_1).toNat * 2)) = some (.int .i64 ((rd_T35 l1 x5_1).f0)) ∧ w'.cell? ⟨(ad160.add ((x5_1).toNat * 2)).block, (ad160.add ((x5_1).toNat * 2)).off + 1, none⟩ = some (.int .i64 ((rd_T35 l1 x5_1).f1))) (ds := []) #[false, false, false, false, false, false, false, false, false, false] (by kernel_rfl) rfl rfl ⟨((HB.1.cell (World.block_lt_of_cell? w _ hw159_0)).trans hw159_0), ((HB.1.cell (World.block_lt_of_cell? w _ hw159_1)).trans hw159_1), ((HB.1.cell (World.block_lt_of_cell? w _ hw160_0)).trans hw160_0), ((HB.1.cell (World.block_lt_of_cell? w _ hw160_1)).trans hw160_1)⟩ (fun hHeld => ?_); refine with_tabW laws_eqPrefixS.tab6 laws_eqPrefixS.bits6 (fun HT_ HW_ => ?_)
        generalize wr.drew = w9 at HB hx159_0 hx159_1 hx160_0 hx160_1 hHeld ⊢
        refine zx (i := 0) (N := some 17) (v := ?_) (a' := ?_) #[true, false, false, false, false, false, false, false, false, false] rfl rfl (zw HT_.1 (by kernel_rfl)) (fun _ _ _ h => h) (Or.inl ⟨by rfl, ?_⟩) ?_ ?_
        rotate_left
        ·
         intro w'
         go_simp
         with_reducible rfl
        rotate_left
        ·
         simp only [Act.put, List.setIfInBounds_toArray, List.set_cons_zero, List.set_cons_succ, zt, zu]
         rfl
        refine zx (i := 1) (N := some 18) (v := ?_) (a' := ?_) #[true, true, false, false, false, false, false, false, false, false] rfl rfl (zw HT_.1 (by kernel_rfl)) (fun _ _ _ h => h) (Or.inl ⟨by rfl, ?_⟩) ?_ ?_
        rotate_left
        ·
         intro w'
         go_simp
         with_reducible rfl
        rotate_left
        ·
         simp only [Act.put, List.setIfInBounds_toArray, List.set_cons_zero, List.set_cons_succ, zt, zu]
         rfl
        refine zx (i := 2) (N := some 19) (v := ?_) (a' := ?_) #[true, true, true, false, false, false, false, false, false, false] rfl rfl (zw HT_.1 (by kernel_rfl)) (fun _ _ _ h => h) (Or.inl ⟨by rfl, ?_⟩) ?_ ?_
        rotate_left
        ·
         intro w'
         go_simp
         with_reducible rfl
        rotate_left
        ·
         simp only [Act.put, List.setIfInBounds_toArray, List.set_cons_zero, List.set_cons_succ, zt, zu]
         rfl
        refine zx (i := 4) (N := some 21) (v := ?_) (a' := ?_) #[true, true, true, false, true, false, false, false, false, false] rfl rfl (zw HT_.1 (by kernel_rfl)) (fun _ _ _ h => h) (Or.inl ⟨by rfl, ?_⟩) ?_ ?_
        rotate_left
        ·
         intro w'
         go_simp
         with_reducible rfl
        rotate_left
        ·
         simp only [Act.put, List.setIfInBounds_toArray, List.set_cons_zero, List.set_cons_succ, zt, zu]
         rfl
        refine zx (i := 5) (N := some 22) (v := ?_) (a' := ?_) #[true, true, true, false, true, true, false, false, false, false] rfl rfl (zw HT_.1 (by kernel_rfl)) (fun _ _ _ h => h) (Or.inl ⟨by rfl, ?_⟩) ?_ ?_
        rotate_left
        ·
         intro w'
         go_simp
         with_reducible rfl
        rotate_left
        ·
         simp only [Act.put, List.setIfInBounds_toArray, List.set_cons_zero, List.set_cons_succ, zt, zu]
         rfl
        refine zx (i := 6) (N := some 23) (v := ?_) (a' := ?_) #[true, true, true, false, true, true, true, false, false, false] rfl rfl (zw HT_.1 (by kernel_rfl)) (fun _ _ _ h => h) (Or.inl ⟨by rfl, ?_⟩) ?_ ?_
        rotate_left
        ·
         intro w'
         go_simp
         with_reducible rfl
        rotate_left
        ·
         simp only [Act.put, List.setIfInBounds_toArray, List.set_cons_zero, List.set_cons_succ, zt, zu]
         rfl
        refine take_ (i := 3) (N := some 20) (v := ?_) (a' := ?_) #[true, true, true, true, true, true, true, false, false, false] rfl rfl (take_ofW HT_.1 HW_.1 (by kernel_rfl)) (fun _ _ _ h => h) (Or.inl ⟨by rfl, ?_⟩) hHeld ?_ ?_
        rotate_left
        ·
         rintro w' ⟨s0, s1, s2, s3⟩
         go_simp
         with_reducible rfl
        rotate_left
        ·
         simp only [Act.put, List.setIfInBounds_toArray, List.set_cons_zero, List.set_cons_succ, zt, zu]
         rfl
        refine take_ (i := 7) (N := some 24) (v := ?_) (a' := ?_) #[true, true, true, true, true, true, true, true, false, false] rfl rfl (take_ofW HT_.1 HW_.1 (by kernel_rfl)) (fun _ _ _ h => h) (Or.inl ⟨by rfl, ?_⟩) hHeld ?_ ?_
        rotate_left
        ·
         rintro w' ⟨s0, s1, s2, s3⟩
         go_simp
         with_reducible rfl
        rotate_left
        ·
         simp only [Act.put, List.setIfInBounds_toArray, List.set_cons_zero, List.set_cons_succ, zt, zu]
         rfl
        refine one_ (i := 8) (N := some 25) #[true, true, true, true, true, true, true, true, true, false] rfl rfl (one_of HT_.1 (by kernel_rfl)) (by decide) (fun K hK => ?_)
        refine goes_ Try.func22 (by kernel_rfl) rfl #[.agg #[.int .i64 ((rd_T35 l0 x5_1).f0), .int .i64 ((rd_T35 l0 x5_1).f1)], .agg #[.int .i64 ((rd_T35 l1 x5_1).f0), .int .i64 ((rd_T35 l1 x5_1).f1)]] (by rfl) rfl rfl (by (try simp only [List.map_toArray, List.map_cons, List.map_nil]); first | done | rfl | (simp only [List.length_drop, List.length_take]; rfl)) ?_
        with_reducible refine (laws_eqPrefix.calls ((rd_T35 l0 x5_1).f0) ((rd_T35 l0 x5_1).f1) ((rd_T35 l1 x5_1).f0) ((rd_T35 l1 x5_1).f1) true _ A7.1).mono ?_
        rintro e w10 ⟨rfl, hb⟩
        refine ⟨_, rfl, ?_⟩
        have n0_ := Aside0.mk (zk (by repeat (first | (with_reducible first | exact HB.1 | apply ze | apply zc | apply zd) | exact HB.1)) hb)
        clear HB
        have HB := n0_
        clear n0_
        (try clear hb)
        (try clear hb2)
        (try clear hk)
        (try clear hi)
        refine hK.out _ _ ⟨((HB.1.cell (World.block_lt_of_cell? w _ hw159_0)).trans hw159_0), ((HB.1.cell (World.block_lt_of_cell? w _ hw159_1)).trans hw159_1), ((HB.1.cell (World.block_lt_of_cell? w _ hw160_0)).trans hw160_0), ((HB.1.cell (World.block_lt_of_cell? w _ hw160_1)).trans hw160_1)⟩ (fun hHeld => ?_)
        clear hK K
        refine norm_ (a' := ?_) ?_ ?_
        rotate_left
        ·
         show Act.put _ (some 25) _ = _
         simp only [Act.put, List.setIfInBounds_toArray, List.set_cons_zero, List.set_cons_succ, zt, zu]
         rfl
        refine zx (i := 9) (N := some 26) (v := ?_) (a' := ?_) #[true, true, true, true, true, true, true, true, true, true] rfl rfl (zw HT_.1 (by kernel_rfl)) (fun _ _ _ h => h) (Or.inl ⟨by rfl, ?_⟩) ?_ ?_
        rotate_left
        ·
         intro w'
         go_simp
         with_reducible rfl
        rotate_left
        ·
         simp only [Act.put, List.setIfInBounds_toArray, List.set_cons_zero, List.set_cons_succ, zt, zu]
         rfl
        refine done_ (done_of HT_.1 (by kernel_rfl)) ?_
        try go_wp2
        go_roundg k1
        case measure => have := HK1.1; omega
        case rel => exact ⟨(wrap64 (x5_1 + 1)), (by first | rfl | (simp; done) | (simp [*]; done)), H', ⟨by have := HK1.1; omega⟩, ⟨by repeat (first | (with_reducible first | exact HB.1 | apply ze | apply zc | apply zd) | exact HB.1)⟩⟩
       ·
        replace c8 := Bool.eq_false_iff.mpr c8
        subst c8
        have H1 : (some false) = some r := by rw [if_neg (show ¬ (false = true) by decide)] at H; exact H
        clear H
        have H := H1
        clear H1
        obtain rfl := Option.some.inj H
        try go_wp2
        have n0_ := Aside0.mk (zd HB.1)
        clear HB
        have HB := n0_
        clear n0_
        have p159 : 0 ≤ (x5_1 : Int) := of_decide_eq_true (by first | (with_reducible assumption) | assumption)
        have q159 : x5_1 < (l0.length : Int) := of_decide_eq_true (by first | (with_reducible assumption) | assumption)
        obtain ⟨ad159, e159, hx159_0, hx159_1⟩ := at_T35 HR0.1 x5_1 p159 q159
        have hw159_1 := hx159_1
        have hw159_0 := hx159_0
        cases e159
        replace hx159_0 := (HB.1.cell (World.block_lt_of_cell? w _ hx159_0)).trans hx159_0
        replace hx159_1 := (HB.1.cell (World.block_lt_of_cell? w _ hx159_1)).trans hx159_1
        replace p159 := eq_true p159
        replace q159 := eq_true q159
        have p160 : 0 ≤ (x5_1 : Int) := of_decide_eq_true (by first | (with_reducible assumption) | assumption)
        have q160 : x5_1 < (l1.length : Int) := of_decide_eq_true (by first | (with_reducible assumption) | assumption)
        obtain ⟨ad160, e160, hx160_0, hx160_1⟩ := at_T35 HR1.1 x5_1 p160 q160
        have hw160_1 := hx160_1
        have hw160_0 := hx160_0
        cases e160
        replace hx160_0 := (HB.1.cell (World.block_lt_of_cell? w _ hx160_0)).trans hx160_0
        replace hx160_1 := (HB.1.cell (World.block_lt_of_cell? w _ hx160_1)).trans hx160_1
        replace p160 := eq_true p160
        replace q160 := eq_true q160
        refine start_ (n := 10) (S := fun w' => w'.cell? (ad159.add ((x5_1).toNat * 2)) = some (.int .i64 ((rd_T35 l0 x5_1).f0)) ∧ w'.cell? ⟨(ad159.add ((x5_1).toNat * 2)).block, (ad159.add ((x5_1).toNat * 2)).off + 1, none⟩ = some (.int .i64 ((rd_T35 l0 x5_1).f1)) ∧ w'.cell? (ad160.add ((x5_1).toNat * 2)) = some (.int .i64 ((rd_T35 l1 x5_1).f0)) ∧ w'.cell? ⟨(ad160.add ((x5_1).toNat * 2)).block, (ad160.add ((x5_1).toNat * 2)).off + 1, none⟩ = some (.int .i64 ((rd_T35 l1 x5_1).f1))) (ds := []) #[false, false, false, false, false, false, false, false, false, false] (by kernel_rfl) rfl rfl ⟨((HB.1.cell (World.block_lt_of_cell? w _ hw159_0)).trans hw159_0), ((HB.1.cell (World.block_lt_of_cell? w _ hw159_1)).trans hw159_1), ((HB.1.cell (World.block_lt_of_cell? w _ hw160_0)).trans hw160_0), ((HB.1.cell (World.block_lt_of_cell? w _ hw160_1)).trans hw160_1)⟩ (fun hHeld => ?_); refine with_tabW laws_eqPrefixS.tab6 laws_eqPrefixS.bits6 (fun HT_ HW_ => ?_)
        generalize wr.drew = w11 at HB hx159_0 hx159_1 hx160_0 hx160_1 hHeld ⊢
        refine zx (i := 0) (N := some 17) (v := ?_) (a' := ?_) #[true, false, false, false, false, false, false, false, false, false] rfl rfl (zw HT_.1 (by kernel_rfl)) (fun _ _ _ h => h) (Or.inl ⟨by rfl, ?_⟩) ?_ ?_
        rotate_left
        ·
         intro w'
         go_simp
         with_reducible rfl
        rotate_left
        ·
         simp only [Act.put, List.setIfInBounds_toArray, List.set_cons_zero, List.set_cons_succ, zt, zu]
         rfl
        refine zx (i := 1) (N := some 18) (v := ?_) (a' := ?_) #[true, true, false, false, false, false, false, false, false, false] rfl rfl (zw HT_.1 (by kernel_rfl)) (fun _ _ _ h => h) (Or.inl ⟨by rfl, ?_⟩) ?_ ?_
        rotate_left
        ·
         intro w'
         go_simp
         with_reducible rfl
        rotate_left
        ·
         simp only [Act.put, List.setIfInBounds_toArray, List.set_cons_zero, List.set_cons_succ, zt, zu]
         rfl
        refine zx (i := 2) (N := some 19) (v := ?_) (a' := ?_) #[true, true, true, false, false, false, false, false, false, false] rfl rfl (zw HT_.1 (by kernel_rfl)) (fun _ _ _ h => h) (Or.inl ⟨by rfl, ?_⟩) ?_ ?_
        rotate_left
        ·
         intro w'
         go_simp
         with_reducible rfl
        rotate_left
        ·
         simp only [Act.put, List.setIfInBounds_toArray, List.set_cons_zero, List.set_cons_succ, zt, zu]
         rfl
        refine zx (i := 4) (N := some 21) (v := ?_) (a' := ?_) #[true, true, true, false, true, false, false, false, false, false] rfl rfl (zw HT_.1 (by kernel_rfl)) (fun _ _ _ h => h) (Or.inl ⟨by rfl, ?_⟩) ?_ ?_
        rotate_left
        ·
         intro w'
         go_simp
         with_reducible rfl
        rotate_left
        ·
         simp only [Act.put, List.setIfInBounds_toArray, List.set_cons_zero, List.set_cons_succ, zt, zu]
         rfl
        refine zx (i := 5) (N := some 22) (v := ?_) (a' := ?_) #[true, true, true, false, true, true, false, false, false, false] rfl rfl (zw HT_.1 (by kernel_rfl)) (fun _ _ _ h => h) (Or.inl ⟨by rfl, ?_⟩) ?_ ?_
        rotate_left
        ·
         intro w'
         go_simp
         with_reducible rfl
        rotate_left
        ·
         simp only [Act.put, List.setIfInBounds_toArray, List.set_cons_zero, List.set_cons_succ, zt, zu]
         rfl
        refine zx (i := 6) (N := some 23) (v := ?_) (a' := ?_) #[true, true, true, false, true, true, true, false, false, false] rfl rfl (zw HT_.1 (by kernel_rfl)) (fun _ _ _ h => h) (Or.inl ⟨by rfl, ?_⟩) ?_ ?_
        rotate_left
        ·
         intro w'
         go_simp
         with_reducible rfl
        rotate_left
        ·
         simp only [Act.put, List.setIfInBounds_toArray, List.set_cons_zero, List.set_cons_succ, zt, zu]
         rfl
        refine take_ (i := 3) (N := some 20) (v := ?_) (a' := ?_) #[true, true, true, true, true, true, true, false, false, false] rfl rfl (take_ofW HT_.1 HW_.1 (by kernel_rfl)) (fun _ _ _ h => h) (Or.inl ⟨by rfl, ?_⟩) hHeld ?_ ?_
        rotate_left
        ·
         rintro w' ⟨s0, s1, s2, s3⟩
         go_simp
         with_reducible rfl
        rotate_left
        ·
         simp only [Act.put, List.setIfInBounds_toArray, List.set_cons_zero, List.set_cons_succ, zt, zu]
         rfl
        refine take_ (i := 7) (N := some 24) (v := ?_) (a' := ?_) #[true, true, true, true, true, true, true, true, false, false] rfl rfl (take_ofW HT_.1 HW_.1 (by kernel_rfl)) (fun _ _ _ h => h) (Or.inl ⟨by rfl, ?_⟩) hHeld ?_ ?_
        rotate_left
        ·
         rintro w' ⟨s0, s1, s2, s3⟩
         go_simp
         with_reducible rfl
        rotate_left
        ·
         simp only [Act.put, List.setIfInBounds_toArray, List.set_cons_zero, List.set_cons_succ, zt, zu]
         rfl
        refine one_ (i := 8) (N := some 25) #[true, true, true, true, true, true, true, true, true, false] rfl rfl (one_of HT_.1 (by kernel_rfl)) (by decide) (fun K hK => ?_)
        refine goes_ Try.func22 (by kernel_rfl) rfl #[.agg #[.int .i64 ((rd_T35 l0 x5_1).f0), .int .i64 ((rd_T35 l0 x5_1).f1)], .agg #[.int .i64 ((rd_T35 l1 x5_1).f0), .int .i64 ((rd_T35 l1 x5_1).f1)]] (by rfl) rfl rfl (by (try simp only [List.map_toArray, List.map_cons, List.map_nil]); first | done | rfl | (simp only [List.length_drop, List.length_take]; rfl)) ?_
        with_reducible refine (laws_eqPrefix.calls ((rd_T35 l0 x5_1).f0) ((rd_T35 l0 x5_1).f1) ((rd_T35 l1 x5_1).f0) ((rd_T35 l1 x5_1).f1) false _ A7.1).mono ?_
        rintro e w12 ⟨rfl, hb⟩
        refine ⟨_, rfl, ?_⟩
        have n0_ := Aside0.mk (zk (by repeat (first | (with_reducible first | exact HB.1 | apply ze | apply zc | apply zd) | exact HB.1)) hb)
        clear HB
        have HB := n0_
        clear n0_
        (try clear hb)
        (try clear hb2)
        (try clear hk)
        (try clear hi)
        refine hK.out _ _ ⟨((HB.1.cell (World.block_lt_of_cell? w _ hw159_0)).trans hw159_0), ((HB.1.cell (World.block_lt_of_cell? w _ hw159_1)).trans hw159_1), ((HB.1.cell (World.block_lt_of_cell? w _ hw160_0)).trans hw160_0), ((HB.1.cell (World.block_lt_of_cell? w _ hw160_1)).trans hw160_1)⟩ (fun hHeld => ?_)
        clear hK K
        refine norm_ (a' := ?_) ?_ ?_
        rotate_left
        ·
         show Act.put _ (some 25) _ = _
         simp only [Act.put, List.setIfInBounds_toArray, List.set_cons_zero, List.set_cons_succ, zt, zu]
         rfl
        refine zx (i := 9) (N := some 26) (v := ?_) (a' := ?_) #[true, true, true, true, true, true, true, true, true, true] rfl rfl (zw HT_.1 (by kernel_rfl)) (fun _ _ _ h => h) (Or.inl ⟨by rfl, ?_⟩) ?_ ?_
        rotate_left
        ·
         intro w'
         go_simp
         with_reducible rfl
        rotate_left
        ·
         simp only [Act.put, List.setIfInBounds_toArray, List.set_cons_zero, List.set_cons_succ, zt, zu]
         rfl
        refine done_ (done_of HT_.1 (by kernel_rfl)) ?_
        try go_wp2
        go_ret
        exact ⟨by first | rfl | (simp [errW_none, errW_some] <;> rfl) | (simp [*, errW_none, errW_some] <;> rfl), by repeat (first | (with_reducible first | exact HB.1 | apply ze | apply zc | apply zd) | exact HB.1)⟩
      ·
       rw [if_neg c6] at H
       exact absurd H (by simp)
     ·
      rw [if_neg c5] at H
      exact absurd H (by simp)
    ·
     rw [if_neg c4] at H
     have c4b0 : decide (x5_1 < (l0.length : Int)) = false := decide_eq_false c4
     clear c4
     obtain rfl := Option.some.inj H
     go_wp2
     go_ret
     exact ⟨by first | rfl | (simp [errW_none, errW_some] <;> rfl) | (simp [*, errW_none, errW_some] <;> rfl), by repeat (first | (with_reducible first | exact HB.1 | apply ze | apply zc | apply zd) | exact HB.1)⟩
 ·
  rw [if_neg c3] at H
  have c3b0 : ((l0.length : Int) == (l1.length : Int)) = false := beq_eq_false_iff_ne.mpr c3
  have c3b1 : ((l0.length : Int) != (l1.length : Int)) = true := bne_iff_ne.mpr c3
  have c3b2 : (l0.length == l1.length) = false := by first | simpa using c3 | (simp at c3 ⊢; omega)
  obtain rfl := Option.some.inj H
  go_enter Try.func78, Try.ntmps78
  go_wp2
  go_ret
  exact ⟨by first | rfl | (simp [errW_none, errW_some] <;> rfl) | (simp [*, errW_none, errW_some] <;> rfl), by repeat (first | (with_reducible first | exact HB.1 | apply ze | apply zc | apply zd) | exact HB.1)⟩

/-! ### laws_eqUpdate: function 31 -/
def laws_eqUpdate.f (k : Nat) (l0_0 : List (S35)) (a0_1 : Int) (l0_2 : List Int) (a0_3 : Int) (a0_4 : Int) (a0_5 : Int) (l0_6 : List Int) (l0_7 : List (S35)) (l1_0 : List (S35)) (a1_1 : Int) (l1_2 : List Int) (a1_3 : Int) (a1_4 : Int) (a1_5 : Int) (l1_6 : List Int) (l1_7 : List (S35)) : Option (Bool) := (laws_eqPrefixS.f k l0_0 l1_0).bind fun t164 => (if t164 = true then ((laws_eqAttrs.f k a0_1 l0_2 a0_3 a0_4 a0_5 l0_6 a1_1 l1_2 a1_3 a1_4 a1_5 l1_6).bind fun t165 => (if t165 = true then ((laws_eqPrefixS.f k l0_7 l1_7).bind fun t166 => (if t166 = true then (some true) else (some false))) else (some false))) else (some false))
theorem laws_eqUpdate.mono : ∀ a0 a1 a2 a3 a4 a5 a6 a7 a8 a9 a10 a11 a12 a13 a14 a15 k, LeO (laws_eqUpdate.f k a0 a1 a2 a3 a4 a5 a6 a7 a8 a9 a10 a11 a12 a13 a14 a15) (laws_eqUpdate.f (k + 1) a0 a1 a2 a3 a4 a5 a6 a7 a8 a9 a10 a11 a12 a13 a14 a15) := by
 intro a0 a1 a2 a3 a4 a5 a6 a7 a8 a9 a10 a11 a12 a13 a14 a15 k
 unfold laws_eqUpdate.f
 repeat' first
   | (with_reducible exact laws_eqAttrs.mono _ _ _ _ _ _ _ _ _ _ _ _ _)
   | (with_reducible exact laws_eqPrefixS.mono _ _ _)
   | (with_reducible exact LeO.refl _)
   | (with_reducible exact LeO.none _)
   | (with_reducible refine LeO.ite ?_ ?_)
   | (with_reducible refine LeO.bind ?_ (fun _ => ?_))
   | exact laws_eqAttrs.mono _ _ _ _ _ _ _ _ _ _ _ _ _
   | exact laws_eqPrefixS.mono _ _ _
   | exact LeO.none _
   | refine LeO.ite ?_ ?_
   | refine LeO.bind ?_ (fun _ => ?_)
set_option maxHeartbeats 8000000 in
set_option maxRecDepth 100000 in
theorem laws_eqUpdate.calls (k : Nat) (A0_0 : Option Addr) (c0_0 : Nat) (l0_0 : List (S35)) (a0_1 : Int) (A0_2 : Option Addr) (c0_2 : Nat) (l0_2 : List Int) (a0_3 : Int) (a0_4 : Int) (a0_5 : Int) (A0_6 : Option Addr) (c0_6 : Nat) (l0_6 : List Int) (A0_7 : Option Addr) (c0_7 : Nat) (l0_7 : List (S35)) (A1_0 : Option Addr) (c1_0 : Nat) (l1_0 : List (S35)) (a1_1 : Int) (A1_2 : Option Addr) (c1_2 : Nat) (l1_2 : List Int) (a1_3 : Int) (a1_4 : Int) (a1_5 : Int) (A1_6 : Option Addr) (c1_6 : Nat) (l1_6 : List Int) (A1_7 : Option Addr) (c1_7 : Nat) (l1_7 : List (S35)) (r : Bool) (w : World) (hr0_0 : Kd.C k35 w A0_0 l0_0.length l0_0) (hc0_0 : l0_0.length ≤ c0_0) (hr0_2 : Kd.C (Kd.int .i64) w A0_2 l0_2.length l0_2) (hc0_2 : l0_2.length ≤ c0_2) (hr0_6 : Kd.C (Kd.int .i64) w A0_6 l0_6.length l0_6) (hc0_6 : l0_6.length ≤ c0_6) (hr0_7 : Kd.C k35 w A0_7 l0_7.length l0_7) (hc0_7 : l0_7.length ≤ c0_7) (hr1_0 : Kd.C k35 w A1_0 l1_0.length l1_0) (hc1_0 : l1_0.length ≤ c1_0) (hr1_2 : Kd.C (Kd.int .i64) w A1_2 l1_2.length l1_2) (hc1_2 : l1_2.length ≤ c1_2) (hr1_6 : Kd.C (Kd.int .i64) w A1_6 l1_6.length l1_6) (hc1_6 : l1_6.length ≤ c1_6) (hr1_7 : Kd.C k35 w A1_7 l1_7.length l1_7) (hc1_7 : l1_7.length ≤ c1_7) (h : laws_eqUpdate.f k l0_0 a0_1 l0_2 a0_3 a0_4 a0_5 l0_6 l0_7 l1_0 a1_1 l1_2 a1_3 a1_4 a1_5 l1_6 l1_7 = some r) :
  Calls Try.prog 31 #[.agg #[.slice A0_0 l0_0.length c0_0, .int .i64 a0_1, .slice A0_2 l0_2.length c0_2, .int .i64 a0_3, .int .i64 a0_4, .int .i64 a0_5, .slice A0_6 l0_6.length c0_6, .slice A0_7 l0_7.length c0_7], .agg #[.slice A1_0 l1_0.length c1_0, .int .i64 a1_1, .slice A1_2 l1_2.length c1_2, .int .i64 a1_3, .int .i64 a1_4, .int .i64 a1_5, .slice A1_6 l1_6.length c1_6, .slice A1_7 l1_7.length c1_7]] w fun e w' => e = .returned (.bool r) ∧ Below w.heap.size w w' := by
 have hu53 := Try.underlying53
 have hu27 := Try.underlying27
 have HR0_0 := Aside0.mk hr0_0
 have HC0_0 := Aside0.mk hc0_0
 clear hr0_0 hc0_0
 have HR0_2 := Aside0.mk hr0_2
 have HC0_2 := Aside0.mk hc0_2
 clear hr0_2 hc0_2
 have HR0_6 := Aside0.mk hr0_6
 have HC0_6 := Aside0.mk hc0_6
 clear hr0_6 hc0_6
 have HR0_7 := Aside0.mk hr0_7
 have HC0_7 := Aside0.mk hc0_7
 clear hr0_7 hc0_7
 have HR1_0 := Aside0.mk hr1_0
 have HC1_0 := Aside0.mk hc1_0
 clear hr1_0 hc1_0
 have HR1_2 := Aside0.mk hr1_2
 have HC1_2 := Aside0.mk hc1_2
 clear hr1_2 hc1_2
 have HR1_6 := Aside0.mk hr1_6
 have HC1_6 := Aside0.mk hc1_6
 clear hr1_6 hc1_6
 have HR1_7 := Aside0.mk hr1_7
 have HC1_7 := Aside0.mk hc1_7
 clear hr1_7 hc1_7
 have HB := Aside0.mk (Below.refl w.heap.size w)
 have H : ((laws_eqPrefixS.f k l0_0 l1_0).bind fun t164 => (if t164 = true then ((laws_eqAttrs.f k a0_1 l0_2 a0_3 a0_4 a0_5 l0_6 a1_1 l1_2 a1_3 a1_4 a1_5 l1_6).bind fun t165 => (if t165 = true then ((laws_eqPrefixS.f k l0_7 l1_7).bind fun t166 => (if t166 = true then (some true) else (some false))) else (some false))) else (some false))) = some r := h
 clear h
 replace H := Option.bind_eq_some_iff.mp H
 obtain ⟨t164, A30, H⟩ := H
 replace H : (if t164 = true then ((laws_eqAttrs.f k a0_1 l0_2 a0_3 a0_4 a0_5 l0_6 a1_1 l1_2 a1_3 a1_4 a1_5 l1_6).bind fun t165 => (if t165 = true then ((laws_eqPrefixS.f k l0_7 l1_7).bind fun t166 => (if t166 = true then (some true) else (some false))) else (some false))) else (some false)) = some r := H
 have A3 := Aside0.mk A30
 clear A30
 by_cases c4 : t164 = true
 ·
  subst c4
  have H1 : ((laws_eqAttrs.f k a0_1 l0_2 a0_3 a0_4 a0_5 l0_6 a1_1 l1_2 a1_3 a1_4 a1_5 l1_6).bind fun t165 => (if t165 = true then ((laws_eqPrefixS.f k l0_7 l1_7).bind fun t166 => (if t166 = true then (some true) else (some false))) else (some false))) = some r := by rw [if_pos rfl] at H; exact H
  clear H
  have H := H1
  clear H1
  replace H := Option.bind_eq_some_iff.mp H
  obtain ⟨t165, A50, H⟩ := H
  replace H : (if t165 = true then ((laws_eqPrefixS.f k l0_7 l1_7).bind fun t166 => (if t166 = true then (some true) else (some false))) else (some false)) = some r := H
  have A5 := Aside0.mk A50
  clear A50
  by_cases c6 : t165 = true
  ·
   subst c6
   have H1 : ((laws_eqPrefixS.f k l0_7 l1_7).bind fun t166 => (if t166 = true then (some true) else (some false))) = some r := by rw [if_pos rfl] at H; exact H
   clear H
   have H := H1
   clear H1
   replace H := Option.bind_eq_some_iff.mp H
   obtain ⟨t166, A70, H⟩ := H
   replace H : (if t166 = true then (some true) else (some false)) = some r := H
   have A7 := Aside0.mk A70
   clear A70
   by_cases c8 : t166 = true
   ·
    subst c8
    have H1 : (some true) = some r := by rw [if_pos rfl] at H; exact H
    clear H
    have H := H1
    clear H1
    obtain rfl := Option.some.inj H
    go_enter Try.func31, Try.ntmps31
    go_wp2_with (first | ((with_reducible refine zs (N := 2) rfl ?_); refine zq ?hg (N := 2) ?hd (cs := #[.slice A0_0 l0_0.length c0_0, .int .i64 a0_1, .slice A0_2 l0_2.length c0_2, .int .i64 a0_3, .int .i64 a0_4, .int .i64 a0_5, .slice A0_6 l0_6.length c0_6, .slice A0_7 l0_7.length c0_7]) (t := 53) ?hr ?_; (case hd => rfl); (case hg => rfl); (case hr => first | (go_simp; done) | (go_simp; rfl)); intro gb162 hg w9 hbox hb; have n0_ := Aside0.mk (zk (by repeat (first | (with_reducible first | exact HB.1 | apply ze | apply zc | apply zd) | exact HB.1)) hb); have n1_ := Aside0.mk (hbox); have n2_ := Aside0.mk ((by rw [hg]; exact (zj (by repeat (first | (with_reducible first | exact HB.1 | apply ze | apply zc | apply zd) | exact HB.1))) : w.heap.size ≤ gb162)); have n3_ := Aside0.mk ((by rw [hg]; exact (zj (by repeat (first | (with_reducible first | exact HB.1 | apply ze | apply zc | apply zd) | exact HB.1))) : w.heap.size ≤ gb162)); clear HB; have HB := n0_; have zz := n1_; have GW162 := n2_; have zC := n3_; clear n0_ n1_ n2_ n3_; clear hb hbox hg) | ((with_reducible refine zs (N := 3) rfl ?_); refine zq ?hg (N := 3) ?hd (cs := #[.slice A1_0 l1_0.length c1_0, .int .i64 a1_1, .slice A1_2 l1_2.length c1_2, .int .i64 a1_3, .int .i64 a1_4, .int .i64 a1_5, .slice A1_6 l1_6.length c1_6, .slice A1_7 l1_7.length c1_7]) (t := 53) ?hr ?_; (case hd => rfl); (case hg => rfl); (case hr => first | (go_simp; done) | (go_simp; rfl)); intro gb163 hg w10 hbox hb; have n0_ := Aside0.mk (zo (g := gb162) (o := .cells #[.slice A0_0 l0_0.length c0_0, .int .i64 a0_1, .slice A0_2 l0_2.length c0_2, .int .i64 a0_3, .int .i64 a0_4, .int .i64 a0_5, .slice A0_6 l0_6.length c0_6, .slice A0_7 l0_7.length c0_7] 53 (0, 0)) (by (with_reducible repeat (first | refine zg ?_ _ | refine zi ?_ | refine zh ?_ _)); exact zz.1) hb); have n1_ := Aside0.mk (zk (by repeat (first | (with_reducible first | exact HB.1 | apply ze | apply zc | apply zd | refine zf ?_ zC.1) | exact HB.1)) hb); have n2_ := Aside0.mk (hbox); have n3_ := Aside0.mk ((by rw [hg]; exact (zj (by repeat (first | (with_reducible first | exact HB.1 | apply ze | apply zc | apply zd | refine zf ?_ zC.1) | exact HB.1))) : w.heap.size ≤ gb163)); have n4_ := Aside0.mk ((by rw [hg]; exact (zj (by repeat (first | (with_reducible first | exact HB.1 | apply ze | apply zc | apply zd | refine zf ?_ zC.1) | exact HB.1))) : w.heap.size ≤ gb163)); have n5_ := Aside0.mk ((by rw [hg]; exact Nat.ne_of_lt (zv (g := gb162) (o := .cells #[.slice A0_0 l0_0.length c0_0, .int .i64 a0_1, .slice A0_2 l0_2.length c0_2, .int .i64 a0_3, .int .i64 a0_4, .int .i64 a0_5, .slice A0_6 l0_6.length c0_6, .slice A0_7 l0_7.length c0_7] 53 (0, 0)) (by (with_reducible repeat (first | refine zg ?_ _ | refine zi ?_ | refine zh ?_ _)); exact zz.1)) : gb162 ≠ gb163)); have n6_ := Aside0.mk ((by rw [hg]; exact Nat.ne_of_gt (zv (g := gb162) (o := .cells #[.slice A0_0 l0_0.length c0_0, .int .i64 a0_1, .slice A0_2 l0_2.length c0_2, .int .i64 a0_3, .int .i64 a0_4, .int .i64 a0_5, .slice A0_6 l0_6.length c0_6, .slice A0_7 l0_7.length c0_7] 53 (0, 0)) (by (with_reducible repeat (first | refine zg ?_ _ | refine zi ?_ | refine zh ?_ _)); exact zz.1)) : gb163 ≠ gb162)); clear zz; clear HB; have zz := n0_; have HB := n1_; have zA := n2_; have GW163 := n3_; have zF := n4_; have zD := n5_; have zE := n6_; clear n0_ n1_ n2_ n3_ n4_ n5_ n6_; clear hb hbox hg; have hnb11 := zD.1; have hnc11 := zE.1; have hcz12_0 : w10.cell? ⟨gb162, 0, none⟩ = some (.slice A0_0 l0_0.length c0_0) := (zb zz.1 0).trans rfl; have hcz12_1 : w10.cell? ⟨gb162, 1, none⟩ = some (.int .i64 a0_1) := (zb zz.1 1).trans rfl; have hcz12_2 : w10.cell? ⟨gb162, 2, none⟩ = some (.slice A0_2 l0_2.length c0_2) := (zb zz.1 2).trans rfl; have hcz12_3 : w10.cell? ⟨gb162, 3, none⟩ = some (.int .i64 a0_3) := (zb zz.1 3).trans rfl; have hcz12_4 : w10.cell? ⟨gb162, 4, none⟩ = some (.int .i64 a0_4) := (zb zz.1 4).trans rfl; have hcz12_5 : w10.cell? ⟨gb162, 5, none⟩ = some (.int .i64 a0_5) := (zb zz.1 5).trans rfl; have hcz12_6 : w10.cell? ⟨gb162, 6, none⟩ = some (.slice A0_6 l0_6.length c0_6) := (zb zz.1 6).trans rfl; have hcz12_7 : w10.cell? ⟨gb162, 7, none⟩ = some (.slice A0_7 l0_7.length c0_7) := (zb zz.1 7).trans rfl; have hfz12_0 := za zz.1 0; have hfz12_1 := za zz.1 1; have hfz12_2 := za zz.1 2; have hfz12_3 := za zz.1 3; have hfz12_4 := za zz.1 4; have hfz12_5 := za zz.1 5; have hfz12_6 := za zz.1 6; have hfz12_7 := za zz.1 7; have hcz13_0 : w10.cell? ⟨gb163, 0, none⟩ = some (.slice A1_0 l1_0.length c1_0) := (zb zA.1 0).trans rfl; have hcz13_1 : w10.cell? ⟨gb163, 1, none⟩ = some (.int .i64 a1_1) := (zb zA.1 1).trans rfl; have hcz13_2 : w10.cell? ⟨gb163, 2, none⟩ = some (.slice A1_2 l1_2.length c1_2) := (zb zA.1 2).trans rfl; have hcz13_3 : w10.cell? ⟨gb163, 3, none⟩ = some (.int .i64 a1_3) := (zb zA.1 3).trans rfl; have hcz13_4 : w10.cell? ⟨gb163, 4, none⟩ = some (.int .i64 a1_4) := (zb zA.1 4).trans rfl; have hcz13_5 : w10.cell? ⟨gb163, 5, none⟩ = some (.int .i64 a1_5) := (zb zA.1 5).trans rfl; have hcz13_6 : w10.cell? ⟨gb163, 6, none⟩ = some (.slice A1_6 l1_6.length c1_6) := (zb zA.1 6).trans rfl; have hcz13_7 : w10.cell? ⟨gb163, 7, none⟩ = some (.slice A1_7 l1_7.length c1_7) := (zb zA.1 7).trans rfl; have hfz13_0 := za zA.1 0; have hfz13_1 := za zA.1 1; have hfz13_2 := za zA.1 2; have hfz13_3 := za zA.1 3; have hfz13_4 := za zA.1 4; have hfz13_5 := za zA.1 5; have hfz13_6 := za zA.1 6; have hfz13_7 := za zA.1 7) | ((with_reducible refine zr (f := 78) rfl ?_); refine zy (some 9) rfl rfl Try.func78 (by kernel_rfl) rfl #[.slice A0_0 l0_0.length c0_0, .slice A1_0 l1_0.length c1_0] rfl (by (try simp only [List.map_toArray, List.map_cons, List.map_nil]); first | done | rfl | (simp only [List.length_drop, List.length_take]; rfl)) ?_; (with_reducible refine (laws_eqPrefixS.calls k _ _ l0_0 _ _ l1_0 true _ ?side1 ?side2 ?side3 ?side4 A3.1).mono ?_); (case side1 => repeat (first | exact (zm HR0_0.1 HB.1) | (with_reducible refine zn ?_ _) | (with_reducible refine zl ?_ _) | (with_reducible refine zp ?_))); (case side2 => exact HC0_0.1); (case side3 => repeat (first | exact (zm HR1_0.1 HB.1) | (with_reducible refine zn ?_ _) | (with_reducible refine zl ?_ _) | (with_reducible refine zp ?_))); (case side4 => exact HC1_0.1); rintro e w14 ⟨rfl, hb⟩; refine ⟨_, rfl, ?_⟩; have n0_ := Aside0.mk (zo (g := gb162) (o := .cells #[.slice A0_0 l0_0.length c0_0, .int .i64 a0_1, .slice A0_2 l0_2.length c0_2, .int .i64 a0_3, .int .i64 a0_4, .int .i64 a0_5, .slice A0_6 l0_6.length c0_6, .slice A0_7 l0_7.length c0_7] 53 (0, 0)) (by (with_reducible repeat (first | refine zg ?_ _ | refine zi ?_ | refine zh ?_ _)); exact zz.1) hb); have n1_ := Aside0.mk (zo (g := gb163) (o := .cells #[.slice A1_0 l1_0.length c1_0, .int .i64 a1_1, .slice A1_2 l1_2.length c1_2, .int .i64 a1_3, .int .i64 a1_4, .int .i64 a1_5, .slice A1_6 l1_6.length c1_6, .slice A1_7 l1_7.length c1_7] 53 (0, 0)) (by (with_reducible repeat (first | refine zg ?_ _ | refine zi ?_ | refine zh ?_ _)); exact zA.1) hb); have n2_ := Aside0.mk (zk (by repeat (first | (with_reducible first | exact HB.1 | apply ze | apply zc | apply zd | refine zf ?_ zC.1 | refine zf ?_ zF.1) | exact HB.1)) hb); clear zz; clear zA; clear HB; have zz := n0_; have zA := n1_; have HB := n2_; clear n0_ n1_ n2_; (try clear hb); (try clear hb2); (try clear hk); (try clear hi); have hcz15_0 : w14.cell? ⟨gb162, 0, none⟩ = some (.slice A0_0 l0_0.length c0_0) := (zb zz.1 0).trans rfl; have hcz15_1 : w14.cell? ⟨gb162, 1, none⟩ = some (.int .i64 a0_1) := (zb zz.1 1).trans rfl; have hcz15_2 : w14.cell? ⟨gb162, 2, none⟩ = some (.slice A0_2 l0_2.length c0_2) := (zb zz.1 2).trans rfl; have hcz15_3 : w14.cell? ⟨gb162, 3, none⟩ = some (.int .i64 a0_3) := (zb zz.1 3).trans rfl; have hcz15_4 : w14.cell? ⟨gb162, 4, none⟩ = some (.int .i64 a0_4) := (zb zz.1 4).trans rfl; have hcz15_5 : w14.cell? ⟨gb162, 5, none⟩ = some (.int .i64 a0_5) := (zb zz.1 5).trans rfl; have hcz15_6 : w14.cell? ⟨gb162, 6, none⟩ = some (.slice A0_6 l0_6.length c0_6) := (zb zz.1 6).trans rfl; have hcz15_7 : w14.cell? ⟨gb162, 7, none⟩ = some (.slice A0_7 l0_7.length c0_7) := (zb zz.1 7).trans rfl; have hfz15_0 := za zz.1 0; have hfz15_1 := za zz.1 1; have hfz15_2 := za zz.1 2; have hfz15_3 := za zz.1 3; have hfz15_4 := za zz.1 4; have hfz15_5 := za zz.1 5; have hfz15_6 := za zz.1 6; have hfz15_7 := za zz.1 7; have hcz16_0 : w14.cell? ⟨gb163, 0, none⟩ = some (.slice A1_0 l1_0.length c1_0) := (zb zA.1 0).trans rfl; have hcz16_1 : w14.cell? ⟨gb163, 1, none⟩ = some (.int .i64 a1_1) := (zb zA.1 1).trans rfl; have hcz16_2 : w14.cell? ⟨gb163, 2, none⟩ = some (.slice A1_2 l1_2.length c1_2) := (zb zA.1 2).trans rfl; have hcz16_3 : w14.cell? ⟨gb163, 3, none⟩ = some (.int .i64 a1_3) := (zb zA.1 3).trans rfl; have hcz16_4 : w14.cell? ⟨gb163, 4, none⟩ = some (.int .i64 a1_4) := (zb zA.1 4).trans rfl; have hcz16_5 : w14.cell? ⟨gb163, 5, none⟩ = some (.int .i64 a1_5) := (zb zA.1 5).trans rfl; have hcz16_6 : w14.cell? ⟨gb163, 6, none⟩ = some (.slice A1_6 l1_6.length c1_6) := (zb zA.1 6).trans rfl; have hcz16_7 : w14.cell? ⟨gb163, 7, none⟩ = some (.slice A1_7 l1_7.length c1_7) := (zb zA.1 7).trans rfl; have hfz16_0 := za zA.1 0; have hfz16_1 := za zA.1 1; have hfz16_2 := za zA.1 2; have hfz16_3 := za zA.1 3; have hfz16_4 := za zA.1 4; have hfz16_5 := za zA.1 5; have hfz16_6 := za zA.1 6; have hfz16_7 := za zA.1 7) | ((with_reducible refine zr (f := 16) rfl ?_); refine zy (some 15) rfl rfl Try.func16 (by kernel_rfl) rfl #[.agg #[.int .i64 a0_1, .slice A0_2 l0_2.length c0_2, .int .i64 a0_3, .int .i64 a0_4, .int .i64 a0_5, .slice A0_6 l0_6.length c0_6], .agg #[.int .i64 a1_1, .slice A1_2 l1_2.length c1_2, .int .i64 a1_3, .int .i64 a1_4, .int .i64 a1_5, .slice A1_6 l1_6.length c1_6]] rfl (by (try simp only [List.map_toArray, List.map_cons, List.map_nil]); first | done | rfl | (simp only [List.length_drop, List.length_take]; rfl)) ?_; (with_reducible refine (laws_eqAttrs.calls k a0_1 _ _ l0_2 a0_3 a0_4 a0_5 _ _ l0_6 a1_1 _ _ l1_2 a1_3 a1_4 a1_5 _ _ l1_6 true _ ?side1 ?side2 ?side3 ?side4 ?side5 ?side6 ?side7 ?side8 A5.1).mono ?_); (case side1 => repeat (first | exact (zm HR0_2.1 HB.1) | (with_reducible refine zn ?_ _) | (with_reducible refine zl ?_ _) | (with_reducible refine zp ?_))); (case side2 => exact HC0_2.1); (case side3 => repeat (first | exact (zm HR0_6.1 HB.1) | (with_reducible refine zn ?_ _) | (with_reducible refine zl ?_ _) | (with_reducible refine zp ?_))); (case side4 => exact HC0_6.1); (case side5 => repeat (first | exact (zm HR1_2.1 HB.1) | (with_reducible refine zn ?_ _) | (with_reducible refine zl ?_ _) | (with_reducible refine zp ?_))); (case side6 => exact HC1_2.1); (case side7 => repeat (first | exact (zm HR1_6.1 HB.1) | (with_reducible refine zn ?_ _) | (with_reducible refine zl ?_ _) | (with_reducible refine zp ?_))); (case side8 => exact HC1_6.1); rintro e w17 ⟨rfl, hb⟩; refine ⟨_, rfl, ?_⟩; have n0_ := Aside0.mk (zo (g := gb162) (o := .cells #[.slice A0_0 l0_0.length c0_0, .int .i64 a0_1, .slice A0_2 l0_2.length c0_2, .int .i64 a0_3, .int .i64 a0_4, .int .i64 a0_5, .slice A0_6 l0_6.length c0_6, .slice A0_7 l0_7.length c0_7] 53 (0, 0)) (by (with_reducible repeat (first | refine zg ?_ _ | refine zi ?_ | refine zh ?_ _)); exact zz.1) hb); have n1_ := Aside0.mk (zo (g := gb163) (o := .cells #[.slice A1_0 l1_0.length c1_0, .int .i64 a1_1, .slice A1_2 l1_2.length c1_2, .int .i64 a1_3, .int .i64 a1_4, .int .i64 a1_5, .slice A1_6 l1_6.length c1_6, .slice A1_7 l1_7.length c1_7] 53 (0, 0)) (by (with_reducible repeat (first | refine zg ?_ _ | refine zi ?_ | refine zh ?_ _)); exact zA.1) hb); have n2_ := Aside0.mk (zk (by repeat (first | (with_reducible first | exact HB.1 | apply ze | apply zc | apply zd | refine zf ?_ zC.1 | refine zf ?_ zF.1) | exact HB.1)) hb); clear zz; clear zA; clear HB; have zz := n0_; have zA := n1_; have HB := n2_; clear n0_ n1_ n2_; (try clear hb); (try clear hb2); (try clear hk); (try clear hi); have hcz18_0 : w17.cell? ⟨gb162, 0, none⟩ = some (.slice A0_0 l0_0.length c0_0) := (zb zz.1 0).trans rfl; have hcz18_1 : w17.cell? ⟨gb162, 1, none⟩ = some (.int .i64 a0_1) := (zb zz.1 1).trans rfl; have hcz18_2 : w17.cell? ⟨gb162, 2, none⟩ = some (.slice A0_2 l0_2.length c0_2) := (zb zz.1 2).trans rfl; have hcz18_3 : w17.cell? ⟨gb162, 3, none⟩ = some (.int .i64 a0_3) := (zb zz.1 3).trans rfl; have hcz18_4 : w17.cell? ⟨gb162, 4, none⟩ = some (.int .i64 a0_4) := (zb zz.1 4).trans rfl; have hcz18_5 : w17.cell? ⟨gb162, 5, none⟩ = some (.int .i64 a0_5) := (zb zz.1 5).trans rfl; have hcz18_6 : w17.cell? ⟨gb162, 6, none⟩ = some (.slice A0_6 l0_6.length c0_6) := (zb zz.1 6).trans rfl; have hcz18_7 : w17.cell? ⟨gb162, 7, none⟩ = some (.slice A0_7 l0_7.length c0_7) := (zb zz.1 7).trans rfl; have hfz18_0 := za zz.1 0; have hfz18_1 := za zz.1 1; have hfz18_2 := za zz.1 2; have hfz18_3 := za zz.1 3; have hfz18_4 := za zz.1 4; have hfz18_5 := za zz.1 5; have hfz18_6 := za zz.1 6; have hfz18_7 := za zz.1 7; have hcz19_0 : w17.cell? ⟨gb163, 0, none⟩ = some (.slice A1_0 l1_0.length c1_0) := (zb zA.1 0).trans rfl; have hcz19_1 : w17.cell? ⟨gb163, 1, none⟩ = some (.int .i64 a1_1) := (zb zA.1 1).trans rfl; have hcz19_2 : w17.cell? ⟨gb163, 2, none⟩ = some (.slice A1_2 l1_2.length c1_2) := (zb zA.1 2).trans rfl; have hcz19_3 : w17.cell? ⟨gb163, 3, none⟩ = some (.int .i64 a1_3) := (zb zA.1 3).trans rfl; have hcz19_4 : w17.cell? ⟨gb163, 4, none⟩ = some (.int .i64 a1_4) := (zb zA.1 4).trans rfl; have hcz19_5 : w17.cell? ⟨gb163, 5, none⟩ = some (.int .i64 a1_5) := (zb zA.1 5).trans rfl; have hcz19_6 : w17.cell? ⟨gb163, 6, none⟩ = some (.slice A1_6 l1_6.length c1_6) := (zb zA.1 6).trans rfl; have hcz19_7 : w17.cell? ⟨gb163, 7, none⟩ = some (.slice A1_7 l1_7.length c1_7) := (zb zA.1 7).trans rfl; have hfz19_0 := za zA.1 0; have hfz19_1 := za zA.1 1; have hfz19_2 := za zA.1 2; have hfz19_3 := za zA.1 3; have hfz19_4 := za zA.1 4; have hfz19_5 := za zA.1 5; have hfz19_6 := za zA.1 6; have hfz19_7 := za zA.1 7) | ((with_reducible refine zr (f := 78) rfl ?_); refine zy (some 21) rfl rfl Try.func78 (by kernel_rfl) rfl #[.slice A0_7 l0_7.length c0_7, .slice A1_7 l1_7.length c1_7] rfl (by (try simp only [List.map_toArray, List.map_cons, List.map_nil]); first | done | rfl | (simp only [List.length_drop, List.length_take]; rfl)) ?_; (with_reducible refine (laws_eqPrefixS.calls k _ _ l0_7 _ _ l1_7 true _ ?side1 ?side2 ?side3 ?side4 A7.1).mono ?_); (case side1 => repeat (first | exact (zm HR0_7.1 HB.1) | (with_reducible refine zn ?_ _) | (with_reducible refine zl ?_ _) | (with_reducible refine zp ?_))); (case side2 => exact HC0_7.1); (case side3 => repeat (first | exact (zm HR1_7.1 HB.1) | (with_reducible refine zn ?_ _) | (with_reducible refine zl ?_ _) | (with_reducible refine zp ?_))); (case side4 => exact HC1_7.1); rintro e w20 ⟨rfl, hb⟩; refine ⟨_, rfl, ?_⟩; have n0_ := Aside0.mk (zo (g := gb162) (o := .cells #[.slice A0_0 l0_0.length c0_0, .int .i64 a0_1, .slice A0_2 l0_2.length c0_2, .int .i64 a0_3, .int .i64 a0_4, .int .i64 a0_5, .slice A0_6 l0_6.length c0_6, .slice A0_7 l0_7.length c0_7] 53 (0, 0)) (by (with_reducible repeat (first | refine zg ?_ _ | refine zi ?_ | refine zh ?_ _)); exact zz.1) hb); have n1_ := Aside0.mk (zo (g := gb163) (o := .cells #[.slice A1_0 l1_0.length c1_0, .int .i64 a1_1, .slice A1_2 l1_2.length c1_2, .int .i64 a1_3, .int .i64 a1_4, .int .i64 a1_5, .slice A1_6 l1_6.length c1_6, .slice A1_7 l1_7.length c1_7] 53 (0, 0)) (by (with_reducible repeat (first | refine zg ?_ _ | refine zi ?_ | refine zh ?_ _)); exact zA.1) hb); have n2_ := Aside0.mk (zk (by repeat (first | (with_reducible first | exact HB.1 | apply ze | apply zc | apply zd | refine zf ?_ zC.1 | refine zf ?_ zF.1) | exact HB.1)) hb); clear zz; clear zA; clear HB; have zz := n0_; have zA := n1_; have HB := n2_; clear n0_ n1_ n2_; (try clear hb); (try clear hb2); (try clear hk); (try clear hi)))
    go_ret
    exact ⟨by first | rfl | (simp [errW_none, errW_some] <;> rfl) | (simp [*, errW_none, errW_some] <;> rfl), by repeat (first | (with_reducible first | exact HB.1 | apply ze | apply zc | apply zd | refine zf ?_ zC.1 | refine zf ?_ zF.1) | exact HB.1)⟩
   ·
    replace c8 := Bool.eq_false_iff.mpr c8
    subst c8
    have H1 : (some false) = some r := by rw [if_neg (show ¬ (false = true) by decide)] at H; exact H
    clear H
    have H := H1
    clear H1
    obtain rfl := Option.some.inj H
    go_enter Try.func31, Try.ntmps31
    go_wp2_with (first | ((with_reducible refine zs (N := 2) rfl ?_); refine zq ?hg (N := 2) ?hd (cs := #[.slice A0_0 l0_0.length c0_0, .int .i64 a0_1, .slice A0_2 l0_2.length c0_2, .int .i64 a0_3, .int .i64 a0_4, .int .i64 a0_5, .slice A0_6 l0_6.length c0_6, .slice A0_7 l0_7.length c0_7]) (t := 53) ?hr ?_; (case hd => rfl); (case hg => rfl); (case hr => first | (go_simp; done) | (go_simp; rfl)); intro gb162 hg w21 hbox hb; have n0_ := Aside0.mk (zk (by repeat (first | (with_reducible first | exact HB.1 | apply ze | apply zc | apply zd) | exact HB.1)) hb); have n1_ := Aside0.mk (hbox); have n2_ := Aside0.mk ((by rw [hg]; exact (zj (by repeat (first | (with_reducible first | exact HB.1 | apply ze | apply zc | apply zd) | exact HB.1))) : w.heap.size ≤ gb162)); have n3_ := Aside0.mk ((by rw [hg]; exact (zj (by repeat (first | (with_reducible first | exact HB.1 | apply ze | apply zc | apply zd) | exact HB.1))) : w.heap.size ≤ gb162)); clear HB; have HB := n0_; have zz := n1_; have GW162 := n2_; have zC := n3_; clear n0_ n1_ n2_ n3_; clear hb hbox hg) | ((with_reducible refine zs (N := 3) rfl ?_); refine zq ?hg (N := 3) ?hd (cs := #[.slice A1_0 l1_0.length c1_0, .int .i64 a1_1, .slice A1_2 l1_2.length c1_2, .int .i64 a1_3, .int .i64 a1_4, .int .i64 a1_5, .slice A1_6 l1_6.length c1_6, .slice A1_7 l1_7.length c1_7]) (t := 53) ?hr ?_; (case hd => rfl); (case hg => rfl); (case hr => first | (go_simp; done) | (go_simp; rfl)); intro gb163 hg w22 hbox hb; have n0_ := Aside0.mk (zo (g := gb162) (o := .cells #[.slice A0_0 l0_0.length c0_0, .int .i64 a0_1, .slice A0_2 l0_2.length c0_2, .int .i64 a0_3, .int .i64 a0_4, .int .i64 a0_5, .slice A0_6 l0_6.length c0_6, .slice A0_7 l0_7.length c0_7] 53 (0, 0)) (by (with_reducible repeat (first | refine zg ?_ _ | refine zi ?_ | refine zh ?_ _)); exact zz.1) hb); have n1_ := Aside0.mk (zk (by repeat (first | (with_reducible first | exact HB.1 | apply ze | apply zc | apply zd | refine zf ?_ zC.1) | exact HB.1)) hb); have n2_ := Aside0.mk (hbox); have n3_ := Aside0.mk ((by rw [hg]; exact (zj (by repeat (first | (with_reducible first | exact HB.1 | apply ze | apply zc | apply zd | refine zf ?_ zC.1) | exact HB.1))) : w.heap.size ≤ gb163)); have n4_ := Aside0.mk ((by rw [hg]; exact (zj (by repeat (first | (with_reducible first | exact HB.1 | apply ze | apply zc | apply zd | refine zf ?_ zC.1) | exact HB.1))) : w.heap.size ≤ gb163)); have n5_ := Aside0.mk ((by rw [hg]; exact Nat.ne_of_lt (zv (g := gb162) (o := .cells #[.slice A0_0 l0_0.length c0_0, .int .i64 a0_1, .slice A0_2 l0_2.length c0_2, .int .i64 a0_3, .int .i64 a0_4, .int .i64 a0_5, .slice A0_6 l0_6.length c0_6, .slice A0_7 l0_7.length c0_7] 53 (0, 0)) (by (with_reducible repeat (first | refine zg ?_ _ | refine zi ?_ | refine zh ?_ _)); exact zz.1)) : gb162 ≠ gb163)); have n6_ := Aside0.mk ((by rw [hg]; exact Nat.ne_of_gt (zv (g := gb162) (o := .cells #[.slice A0_0 l0_0.length c0_0, .int .i64 a0_1, .slice A0_2 l0_2.length c0_2, .int .i64 a0_3, .int .i64 a0_4, .int .i64 a0_5, .slice A0_6 l0_6.length c0_6, .slice A0_7 l0_7.length c0_7] 53 (0, 0)) (by (with_reducible repeat (first | refine zg ?_ _ | refine zi ?_ | refine zh ?_ _)); exact zz.1)) : gb163 ≠ gb162)); clear zz; clear HB; have zz := n0_; have HB := n1_; have zA := n2_; have GW163 := n3_; have zF := n4_; have zD := n5_; have zE := n6_; clear n0_ n1_ n2_ n3_ n4_ n5_ n6_; clear hb hbox hg; have hnb23 := zD.1; have hnc23 := zE.1; have hcz24_0 : w22.cell? ⟨gb162, 0, none⟩ = some (.slice A0_0 l0_0.length c0_0) := (zb zz.1 0).trans rfl; have hcz24_1 : w22.cell? ⟨gb162, 1, none⟩ = some (.int .i64 a0_1) := (zb zz.1 1).trans rfl; have hcz24_2 : w22.cell? ⟨gb162, 2, none⟩ = some (.slice A0_2 l0_2.length c0_2) := (zb zz.1 2).trans rfl; have hcz24_3 : w22.cell? ⟨gb162, 3, none⟩ = some (.int .i64 a0_3) := (zb zz.1 3).trans rfl; have hcz24_4 : w22.cell? ⟨gb162, 4, none⟩ = some (.int .i64 a0_4) := (zb zz.1 4).trans rfl; have hcz24_5 : w22.cell? ⟨gb162, 5, none⟩ = some (.int .i64 a0_5) := (zb zz.1 5).trans rfl; have hcz24_6 : w22.cell? ⟨gb162, 6, none⟩ = some (.slice A0_6 l0_6.length c0_6) := (zb zz.1 6).trans rfl; have hcz24_7 : w22.cell? ⟨gb162, 7, none⟩ = some (.slice A0_7 l0_7.length c0_7) := (zb zz.1 7).trans rfl; have hfz24_0 := za zz.1 0; have hfz24_1 := za zz.1 1; have hfz24_2 := za zz.1 2; have hfz24_3 := za zz.1 3; have hfz24_4 := za zz.1 4; have hfz24_5 := za zz.1 5; have hfz24_6 := za zz.1 6; have hfz24_7 := za zz.1 7; have hcz25_0 : w22.cell? ⟨gb163, 0, none⟩ = some (.slice A1_0 l1_0.length c1_0) := (zb zA.1 0).trans rfl; have hcz25_1 : w22.cell? ⟨gb163, 1, none⟩ = some (.int .i64 a1_1) := (zb zA.1 1).trans rfl; have hcz25_2 : w22.cell? ⟨gb163, 2, none⟩ = some (.slice A1_2 l1_2.length c1_2) := (zb zA.1 2).trans rfl; have hcz25_3 : w22.cell? ⟨gb163, 3, none⟩ = some (.int .i64 a1_3) := (zb zA.1 3).trans rfl; have hcz25_4 : w22.cell? ⟨gb163, 4, none⟩ = some (.int .i64 a1_4) := (zb zA.1 4).trans rfl; have hcz25_5 : w22.cell? ⟨gb163, 5, none⟩ = some (.int .i64 a1_5) := (zb zA.1 5).trans rfl; have hcz25_6 : w22.cell? ⟨gb163, 6, none⟩ = some (.slice A1_6 l1_6.length c1_6) := (zb zA.1 6).trans rfl; have hcz25_7 : w22.cell? ⟨gb163, 7, none⟩ = some (.slice A1_7 l1_7.length c1_7) := (zb zA.1 7).trans rfl; have hfz25_0 := za zA.1 0; have hfz25_1 := za zA.1 1; have hfz25_2 := za zA.1 2; have hfz25_3 := za zA.1 3; have hfz25_4 := za zA.1 4; have hfz25_5 := za zA.1 5; have hfz25_6 := za zA.1 6; have hfz25_7 := za zA.1 7) | ((with_reducible refine zr (f := 78) rfl ?_); refine zy (some 9) rfl rfl Try.func78 (by kernel_rfl) rfl #[.slice A0_0 l0_0.length c0_0, .slice A1_0 l1_0.length c1_0] rfl (by (try simp only [List.map_toArray, List.map_cons, List.map_nil]); first | done | rfl | (simp only [List.length_drop, List.length_take]; rfl)) ?_; (with_reducible refine (laws_eqPrefixS.calls k _ _ l0_0 _ _ l1_0 true _ ?side1 ?side2 ?side3 ?side4 A3.1).mono ?_); (case side1 => repeat (first | exact (zm HR0_0.1 HB.1) | (with_reducible refine zn ?_ _) | (with_reducible refine zl ?_ _) | (with_reducible refine zp ?_))); (case side2 => exact HC0_0.1); (case side3 => repeat (first | exact (zm HR1_0.1 HB.1) | (with_reducible refine zn ?_ _) | (with_reducible refine zl ?_ _) | (with_reducible refine zp ?_))); (case side4 => exact HC1_0.1); rintro e w26 ⟨rfl, hb⟩; refine ⟨_, rfl, ?_⟩; have n0_ := Aside0.mk (zo (g := gb162) (o := .cells #[.slice A0_0 l0_0.length c0_0, .int .i64 a0_1, .slice A0_2 l0_2.length c0_2, .int .i64 a0_3, .int .i64 a0_4, .int .i64 a0_5, .slice A0_6 l0_6.length c0_6, .slice A0_7 l0_7.length c0_7] 53 (0, 0)) (by (with_reducible repeat (first | refine zg ?_ _ | refine zi ?_ | refine zh ?_ _)); exact zz.1) hb); have n1_ := Aside0.mk (zo (g := gb163) (o := .cells #[.slice A1_0 l1_0.length c1_0, .int .i64 a1_1, .slice A1_2 l1_2.length c1_2, .int .i64 a1_3, .int .i64 a1_4, .int .i64 a1_5, .slice A1_6 l1_6.length c1_6, .slice A1_7 l1_7.length c1_7] 53 (0, 0)) (by (with_reducible repeat (first | refine zg ?_ _ | refine zi ?_ | refine zh ?_ _)); exact zA.1) hb); have n2_ := Aside0.mk (zk (by repeat (first | (with_reducible first | exact HB.1 | apply ze | apply zc | apply zd | refine zf ?_ zC.1 | refine zf ?_ zF.1) | exact HB.1)) hb); clear zz; clear zA; clear HB; have zz := n0_; have zA := n1_; have HB := n2_; clear n0_ n1_ n2_; (try clear hb); (try clear hb2); (try clear hk); (try clear hi); have hcz27_0 : w26.cell? ⟨gb162, 0, none⟩ = some (.slice A0_0 l0_0.length c0_0) := (zb zz.1 0).trans rfl; have hcz27_1 : w26.cell? ⟨gb162, 1, none⟩ = some (.int .i64 a0_1) := (zb zz.1 1).trans rfl; have hcz27_2 : w26.cell? ⟨gb162, 2, none⟩ = some (.slice A0_2 l0_2.length c0_2) := (zb zz.1 2).trans rfl; have hcz27_3 : w26.cell? ⟨gb162, 3, none⟩ = some (.int .i64 a0_3) := (zb zz.1 3).trans rfl; have hcz27_4 : w26.cell? ⟨gb162, 4, none⟩ = some (.int .i64 a0_4) := (zb zz.1 4).trans rfl; have hcz27_5 : w26.cell? ⟨gb162, 5, none⟩ = some (.int .i64 a0_5) := (zb zz.1 5).trans rfl; have hcz27_6 : w26.cell? ⟨gb162, 6, none⟩ = some (.slice A0_6 l0_6.length c0_6) := (zb zz.1 6).trans rfl; have hcz27_7 : w26.cell? ⟨gb162, 7, none⟩ = some (.slice A0_7 l0_7.length c0_7) := (zb zz.1 7).trans rfl; have hfz27_0 := za zz.1 0; have hfz27_1 := za zz.1 1; have hfz27_2 := za zz.1 2; have hfz27_3 := za zz.1 3; have hfz27_4 := za zz.1 4; have hfz27_5 := za zz.1 5; have hfz27_6 := za zz.1 6; have hfz27_7 := za zz.1 7; have hcz28_0 : w26.cell? ⟨gb163, 0, none⟩ = some (.slice A1_0 l1_0.length c1_0) := (zb zA.1 0).trans rfl; have hcz28_1 : w26.cell? ⟨gb163, 1, none⟩ = some (.int .i64 a1_1) := (zb zA.1 1).trans rfl; have hcz28_2 : w26.cell? ⟨gb163, 2, none⟩ = some (.slice A1_2 l1_2.length c1_2) := (zb zA.1 2).trans rfl; have hcz28_3 : w26.cell? ⟨gb163, 3, none⟩ = some (.int .i64 a1_3) := (zb zA.1 3).trans rfl; have hcz28_4 : w26.cell? ⟨gb163, 4, none⟩ = some (.int .i64 a1_4) := (zb zA.1 4).trans rfl; have hcz28_5 : w26.cell? ⟨gb163, 5, none⟩ = some (.int .i64 a1_5) := (zb zA.1 5).trans rfl; have hcz28_6 : w26.cell? ⟨gb163, 6, none⟩ = some (.slice A1_6 l1_6.length c1_6) := (zb zA.1 6).trans rfl; have hcz28_7 : w26.cell? ⟨gb163, 7, none⟩ = some (.slice A1_7 l1_7.length c1_7) := (zb zA.1 7).trans rfl; have hfz28_0 := za zA.1 0; have hfz28_1 := za zA.1 1; have hfz28_2 := za zA.1 2; have hfz28_3 := za zA.1 3; have hfz28_4 := za zA.1 4; have hfz28_5 := za zA.1 5; have hfz28_6 := za zA.1 6; have hfz28_7 := za zA.1 7) | ((with_reducible refine zr (f := 16) rfl ?_); refine zy (some 15) rfl rfl Try.func16 (by kernel_rfl) rfl #[.agg #[.int .i64 a0_1, .slice A0_2 l0_2.length c0_2, .int .i64 a0_3, .int .i64 a0_4, .int .i64 a0_5, .slice A0_6 l0_6.length c0_6], .agg #[.int .i64 a1_1, .slice A1_2 l1_2.length c1_2, .int .i64 a1_3, .int .i64 a1_4, .int .i64 a1_5, .slice A1_6 l1_6.length c1_6]] rfl (by (try simp only [List.map_toArray, List.map_cons, List.map_nil]); first | done | rfl | (simp only [List.length_drop, List.length_take]; rfl)) ?_; (with_reducible refine (laws_eqAttrs.calls k a0_1 _ _ l0_2 a0_3 a0_4 a0_5 _ _ l0_6 a1_1 _ _ l1_2 a1_3 a1_4 a1_5 _ _ l1_6 true _ ?side1 ?side2 ?side3 ?side4 ?side5 ?side6 ?side7 ?side8 A5.1).mono ?_); (case side1 => repeat (first | exact (zm HR0_2.1 HB.1) | (with_reducible refine zn ?_ _) | (with_reducible refine zl ?_ _) | (with_reducible refine zp ?_))); (case side2 => exact HC0_2.1); (case side3 => repeat (first | exact (zm HR0_6.1 HB.1) | (with_reducible refine zn ?_ _) | (with_reducible refine zl ?_ _) | (with_reducible refine zp ?_))); (case side4 => exact HC0_6.1); (case side5 => repeat (first | exact (zm HR1_2.1 HB.1) | (with_reducible refine zn ?_ _) | (with_reducible refine zl ?_ _) | (with_reducible refine zp ?_))); (case side6 => exact HC1_2.1); (case side7 => repeat (first | exact (zm HR1_6.1 HB.1) | (with_reducible refine zn ?_ _) | (with_reducible refine zl ?_ _) | (with_reducible refine zp ?_))); (case side8 => exact HC1_6.1); rintro e w29 ⟨rfl, hb⟩; refine ⟨_, rfl, ?_⟩; have n0_ := Aside0.mk (zo (g := gb162) (o := .cells #[.slice A0_0 l0_0.length c0_0, .int .i64 a0_1, .slice A0_2 l0_2.length c0_2, .int .i64 a0_3, .int .i64 a0_4, .int .i64 a0_5, .slice A0_6 l0_6.length c0_6, .slice A0_7 l0_7.length c0_7] 53 (0, 0)) (by (with_reducible repeat (first | refine zg ?_ _ | refine zi ?_ | refine zh ?_ _)); exact zz.1) hb); have n1_ := Aside0.mk (zo (g := gb163) (o := .cells #[.slice A1_0 l1_0.length c1_0, .int .i64 a1_1, .slice A1_2 l1_2.length c1_2, .int .i64 a1_3, .int .i64 a1_4, .int .i64 a1_5, .slice A1_6 l1_6.length c1_6, .slice A1_7 l1_7.length c1_7] 53 (0, 0)) (by (with_reducible repeat (first | refine zg ?_ _ | refine zi ?_ | refine zh ?_ _)); exact zA.1) hb); have n2_ := Aside0.mk (zk (by repeat (first | (with_reducible first | exact HB.1 | apply ze | apply zc | apply zd | refine zf ?_ zC.1 | refine zf ?_ zF.1) | exact HB.1)) hb); clear zz; clear zA; clear HB; have zz := n0_; have zA := n1_; have HB := n2_; clear n0_ n1_ n2_; (try clear hb); (try clear hb2); (try clear hk); (try clear hi); have hcz30_0 : w29.cell? ⟨gb162, 0, none⟩ = some (.slice A0_0 l0_0.length c0_0) := (zb zz.1 0).trans rfl; have hcz30_1 : w29.cell? ⟨gb162, 1, none⟩ = some (.int .i64 a0_1) := (zb zz.1 1).trans rfl; have hcz30_2 : w29.cell? ⟨gb162, 2, none⟩ = some (.slice A0_2 l0_2.length c0_2) := (zb zz.1 2).trans rfl; have hcz30_3 : w29.cell? ⟨gb162, 3, none⟩ = some (.int .i64 a0_3) := (zb zz.1 3).trans rfl; have hcz30_4 : w29.cell? ⟨gb162, 4, none⟩ = some (.int .i64 a0_4) := (zb zz.1 4).trans rfl; have hcz30_5 : w29.cell? ⟨gb162, 5, none⟩ = some (.int .i64 a0_5) := (zb zz.1 5).trans rfl; have hcz30_6 : w29.cell? ⟨gb162, 6, none⟩ = some (.slice A0_6 l0_6.length c0_6) := (zb zz.1 6).trans rfl; have hcz30_7 : w29.cell? ⟨gb162, 7, none⟩ = some (.slice A0_7 l0_7.length c0_7) := (zb zz.1 7).trans rfl; have hfz30_0 := za zz.1 0; have hfz30_1 := za zz.1 1; have hfz30_2 := za zz.1 2; have hfz30_3 := za zz.1 3; have hfz30_4 := za zz.1 4; have hfz30_5 := za zz.1 5; have hfz30_6 := za zz.1 6; have hfz30_7 := za zz.1 7; have hcz31_0 : w29.cell? ⟨gb163, 0, none⟩ = some (.slice A1_0 l1_0.length c1_0) := (zb zA.1 0).trans rfl; have hcz31_1 : w29.cell? ⟨gb163, 1, none⟩ = some (.int .i64 a1_1) := (zb zA.1 1).trans rfl; have hcz31_2 : w29.cell? ⟨gb163, 2, none⟩ = some (.slice A1_2 l1_2.length c1_2) := (zb zA.1 2).trans rfl; have hcz31_3 : w29.cell? ⟨gb163, 3, none⟩ = some (.int .i64 a1_3) := (zb zA.1 3).trans rfl; have hcz31_4 : w29.cell? ⟨gb163, 4, none⟩ = some (.int .i64 a1_4) := (zb zA.1 4).trans rfl; have hcz31_5 : w29.cell? ⟨gb163, 5, none⟩ = some (.int .i64 a1_5) := (zb zA.1 5).trans rfl; have hcz31_6 : w29.cell? ⟨gb163, 6, none⟩ = some (.slice A1_6 l1_6.length c1_6) := (zb zA.1 6).trans rfl; have hcz31_7 : w29.cell? ⟨gb163, 7, none⟩ = some (.slice A1_7 l1_7.length c1_7) := (zb zA.1 7).trans rfl; have hfz31_0 := za zA.1 0; have hfz31_1 := za zA.1 1; have hfz31_2 := za zA.1 2; have hfz31_3 := za zA.1 3; have hfz31_4 := za zA.1 4; have hfz31_5 := za zA.1 5; have hfz31_6 := za zA.1 6; have hfz31_7 := za zA.1 7) | ((with_reducible refine zr (f := 78) rfl ?_); refine zy (some 21) rfl rfl Try.func78 (by kernel_rfl) rfl #[.slice A0_7 l0_7.length c0_7, .slice A1_7 l1_7.length c1_7] rfl (by (try simp only [List.map_toArray, List.map_cons, List.map_nil]); first | done | rfl | (simp only [List.length_drop, List.length_take]; rfl)) ?_; (with_reducible refine (laws_eqPrefixS.calls k _ _ l0_7 _ _ l1_7 false _ ?side1 ?side2 ?side3 ?side4 A7.1).mono ?_); (case side1 => repeat (first | exact (zm HR0_7.1 HB.1) | (with_reducible refine zn ?_ _) | (with_reducible refine zl ?_ _) | (with_reducible refine zp ?_))); (case side2 => exact HC0_7.1); (case side3 => repeat (first | exact (zm HR1_7.1 HB.1) | (with_reducible refine zn ?_ _) | (with_reducible refine zl ?_ _) | (with_reducible refine zp ?_))); (case side4 => exact HC1_7.1); rintro e w32 ⟨rfl, hb⟩; refine ⟨_, rfl, ?_⟩; have n0_ := Aside0.mk (zo (g := gb162) (o := .cells #[.slice A0_0 l0_0.length c0_0, .int .i64 a0_1, .slice A0_2 l0_2.length c0_2, .int .i64 a0_3, .int .i64 a0_4, .int .i64 a0_5, .slice A0_6 l0_6.length c0_6, .slice A0_7 l0_7.length c0_7] 53 (0, 0)) (by (with_reducible repeat (first | refine zg ?_ _ | refine zi ?_ | refine zh ?_ _)); exact zz.1) hb); have n1_ := Aside0.mk (zo (g := gb163) (o := .cells #[.slice A1_0 l1_0.length c1_0, .int .i64 a1_1, .slice A1_2 l1_2.length c1_2, .int .i64 a1_3, .int .i64 a1_4, .int .i64 a1_5, .slice A1_6 l1_6.length c1_6, .slice A1_7 l1_7.length c1_7] 53 (0, 0)) (by (with_reducible repeat (first | refine zg ?_ _ | refine zi ?_ | refine zh ?_ _)); exact zA.1) hb); have n2_ := Aside0.mk (zk (by repeat (first | (with_reducible first | exact HB.1 | apply ze | apply zc | apply zd | refine zf ?_ zC.1 | refine zf ?_ zF.1) | exact HB.1)) hb); clear zz; clear zA; clear HB; have zz := n0_; have zA := n1_; have HB := n2_; clear n0_ n1_ n2_; (try clear hb); (try clear hb2); (try clear hk); (try clear hi)))
    go_ret
    exact ⟨by first | rfl | (simp [errW_none, errW_some] <;> rfl) | (simp [*, errW_none, errW_some] <;> rfl), by repeat (first | (with_reducible first | exact HB.1 | apply ze | apply zc | apply zd | refine zf ?_ zC.1 | refine zf ?_ zF.1) | exact HB.1)⟩
  ·
   replace c6 := Bool.eq_false_iff.mpr c6
   subst c6
   have H1 : (some false) = some r := by rw [if_neg (show ¬ (false = true) by decide)] at H; exact H
   clear H
   have H := H1
   clear H1
   obtain rfl := Option.some.inj H
   go_enter Try.func31, Try.ntmps31
   go_wp2_with (first | ((with_reducible refine zs (N := 2) rfl ?_); refine zq ?hg (N := 2) ?hd (cs := #[.slice A0_0 l0_0.length c0_0, .int .i64 a0_1, .slice A0_2 l0_2.length c0_2, .int .i64 a0_3, .int .i64 a0_4, .int .i64 a0_5, .slice A0_6 l0_6.length c0_6, .slice A0_7 l0_7.length c0_7]) (t := 53) ?hr ?_; (case hd => rfl); (case hg => rfl); (case hr => first | (go_simp; done) | (go_simp; rfl)); intro gb162 hg w33 hbox hb; have n0_ := Aside0.mk (zk (by repeat (first | (with_reducible first | exact HB.1 | apply ze | apply zc | apply zd) | exact HB.1)) hb); have n1_ := Aside0.mk (hbox); have n2_ := Aside0.mk ((by rw [hg]; exact (zj (by repeat (first | (with_reducible first | exact HB.1 | apply ze | apply zc | apply zd) | exact HB.1))) : w.heap.size ≤ gb162)); have n3_ := Aside0.mk ((by rw [hg]; exact (zj (by repeat (first | (with_reducible first | exact HB.1 | apply ze | apply zc | apply zd) | exact HB.1))) : w.heap.size ≤ gb162)); clear HB; have HB := n0_; have zz := n1_; have GW162 := n2_; have zC := n3_; clear n0_ n1_ n2_ n3_; clear hb hbox hg) | ((with_reducible refine zs (N := 3) rfl ?_); refine zq ?hg (N := 3) ?hd (cs := #[.slice A1_0 l1_0.length c1_0, .int .i64 a1_1, .slice A1_2 l1_2.length c1_2, .int .i64 a1_3, .int .i64 a1_4, .int .i64 a1_5, .slice A1_6 l1_6.length c1_6, .slice A1_7 l1_7.length c1_7]) (t := 53) ?hr ?_; (case hd => rfl); (case hg => rfl); (case hr => first | (go_simp; done) | (go_simp; rfl)); intro gb163 hg w34 hbox hb; have n0_ := Aside0.mk (zo (g := gb162) (o := .cells #[.slice A0_0 l0_0.length c0_0, .int .i64 a0_1, .slice A0_2 l0_2.length c0_2, .int .i64 a0_3, .int .i64 a0_4, .int .i64 a0_5, .slice A0_6 l0_6.length c0_6, .slice A0_7 l0_7.length c0_7] 53 (0, 0)) (by (with_reducible repeat (first | refine zg ?_ _ | refine zi ?_ | refine zh ?_ _)); exact zz.1) hb); have n1_ := Aside0.mk (zk (by repeat (first | (with_reducible first | exact HB.1 | apply ze | apply zc | apply zd | refine zf ?_ zC.1) | exact HB.1)) hb); have n2_ := Aside0.mk (hbox); have n3_ := Aside0.mk ((by rw [hg]; exact (zj (by repeat (first | (with_reducible first | exact HB.1 | apply ze | apply zc | apply zd | refine zf ?_ zC.1) | exact HB.1))) : w.heap.size ≤ gb163)); have n4_ := Aside0.mk ((by rw [hg]; exact (zj (by repeat (first | (with_reducible first | exact HB.1 | apply ze | apply zc | apply zd | refine zf ?_ zC.1) | exact HB.1))) : w.heap.size ≤ gb163)); have n5_ := Aside0.mk ((by rw [hg]; exact Nat.ne_of_lt (zv (g := gb162) (o := .cells #[.slice A0_0 l0_0.length c0_0, .int .i64 a0_1, .slice A0_2 l0_2.length c0_2, .int .i64 a0_3, .int .i64 a0_4, .int .i64 a0_5, .slice A0_6 l0_6.length c0_6, .slice A0_7 l0_7.length c0_7] 53 (0, 0)) (by (with_reducible repeat (first | refine zg ?_ _ | refine zi ?_ | refine zh ?_ _)); exact zz.1)) : gb162 ≠ gb163)); have n6_ := Aside0.mk ((by rw [hg]; exact Nat.ne_of_gt (zv (g := gb162) (o := .cells #[.slice A0_0 l0_0.length c0_0, .int .i64 a0_1, .slice A0_2 l0_2.length c0_2, .int .i64 a0_3, .int .i64 a0_4, .int .i64 a0_5, .slice A0_6 l0_6.length c0_6, .slice A0_7 l0_7.length c0_7] 53 (0, 0)) (by (with_reducible repeat (first | refine zg ?_ _ | refine zi ?_ | refine zh ?_ _)); exact zz.1)) : gb163 ≠ gb162)); clear zz; clear HB; have zz := n0_; have HB := n1_; have zA := n2_; have GW163 := n3_; have zF := n4_; have zD := n5_; have zE := n6_; clear n0_ n1_ n2_ n3_ n4_ n5_ n6_; clear hb hbox hg; have hnb35 := zD.1; have hnc35 := zE.1; have hcz36_0 : w34.cell? ⟨gb162, 0, none⟩ = some (.slice A0_0 l0_0.length c0_0) := (zb zz.1 0).trans rfl; have hcz36_1 : w34.cell? ⟨gb162, 1, none⟩ = some (.int .i64 a0_1) := (zb zz.1 1).trans rfl; have hcz36_2 : w34.cell? ⟨gb162, 2, none⟩ = some (.slice A0_2 l0_2.length c0_2) := (zb zz.1 2).trans rfl; have hcz36_3 : w34.cell? ⟨gb162, 3, none⟩ = some (.int .i64 a0_3) := (zb zz.1 3).trans rfl; have hcz36_4 : w34.cell? ⟨gb162, 4, none⟩ = some (.int .i64 a0_4) := (zb zz.1 4).trans rfl; have hcz36_5 : w34.cell? ⟨gb162, 5, none⟩ = some (.int .i64 a0_5) := (zb zz.1 5).trans rfl; have hcz36_6 : w34.cell? ⟨gb162, 6, none⟩ = some (.slice A0_6 l0_6.length c0_6) := (zb zz.1 6).trans rfl; have hcz36_7 : w34.cell? ⟨gb162, 7, none⟩ = some (.slice A0_7 l0_7.length c0_7) := (zb zz.1 7).trans rfl; have hfz36_0 := za zz.1 0; have hfz36_1 := za zz.1 1; have hfz36_2 := za zz.1 2; have hfz36_3 := za zz.1 3; have hfz36_4 := za zz.1 4; have hfz36_5 := za zz.1 5; have hfz36_6 := za zz.1 6; have hfz36_7 := za zz.1 7; have hcz37_0 : w34.cell? ⟨gb163, 0, none⟩ = some (.slice A1_0 l1_0.length c1_0) := (zb zA.1 0).trans rfl; have hcz37_1 : w34.cell? ⟨gb163, 1, none⟩ = some (.int .i64 a1_1) := (zb zA.1 1).trans rfl; have hcz37_2 : w34.cell? ⟨gb163, 2, none⟩ = some (.slice A1_2 l1_2.length c1_2) := (zb zA.1 2).trans rfl; have hcz37_3 : w34.cell? ⟨gb163, 3, none⟩ = some (.int .i64 a1_3) := (zb zA.1 3).trans rfl; have hcz37_4 : w34.cell? ⟨gb163, 4, none⟩ = some (.int .i64 a1_4) := (zb zA.1 4).trans rfl; have hcz37_5 : w34.cell? ⟨gb163, 5, none⟩ = some (.int .i64 a1_5) := (zb zA.1 5).trans rfl; have hcz37_6 : w34.cell? ⟨gb163, 6, none⟩ = some (.slice A1_6 l1_6.length c1_6) := (zb zA.1 6).trans rfl; have hcz37_7 : w34.cell? ⟨gb163, 7, none⟩ = some (.slice A1_7 l1_7.length c1_7) := (zb zA.1 7).trans rfl; have hfz37_0 := za zA.1 0; have hfz37_1 := za zA.1 1; have hfz37_2 := za zA.1 2; have hfz37_3 := za zA.1 3; have hfz37_4 := za zA.1 4; have hfz37_5 := za zA.1 5; have hfz37_6 := za zA.1 6; have hfz37_7 := za zA.1 7) | ((with_reducible refine zr (f := 78) rfl ?_); refine zy (some 9) rfl rfl Try.func78 (by kernel_rfl) rfl #[.slice A0_0 l0_0.length c0_0, .slice A1_0 l1_0.length c1_0] rfl (by (try simp only [List.map_toArray, List.map_cons, List.map_nil]); first | done | rfl | (simp only [List.length_drop, List.length_take]; rfl)) ?_; (with_reducible refine (laws_eqPrefixS.calls k _ _ l0_0 _ _ l1_0 true _ ?side1 ?side2 ?side3 ?side4 A3.1).mono ?_); (case side1 => repeat (first | exact (zm HR0_0.1 HB.1) | (with_reducible refine zn ?_ _) | (with_reducible refine zl ?_ _) | (with_reducible refine zp ?_))); (case side2 => exact HC0_0.1); (case side3 => repeat (first | exact (zm HR1_0.1 HB.1) | (with_reducible refine zn ?_ _) | (with_reducible refine zl ?_ _) | (with_reducible refine zp ?_))); (case side4 => exact HC1_0.1); rintro e w38 ⟨rfl, hb⟩; refine ⟨_, rfl, ?_⟩; have n0_ := Aside0.mk (zo (g := gb162) (o := .cells #[.slice A0_0 l0_0.length c0_0, .int .i64 a0_1, .slice A0_2 l0_2.length c0_2, .int .i64 a0_3, .int .i64 a0_4, .int .i64 a0_5, .slice A0_6 l0_6.length c0_6, .slice A0_7 l0_7.length c0_7] 53 (0, 0)) (by (with_reducible repeat (first | refine zg ?_ _ | refine zi ?_ | refine zh ?_ _)); exact zz.1) hb); have n1_ := Aside0.mk (zo (g := gb163) (o := .cells #[.slice A1_0 l1_0.length c1_0, .int .i64 a1_1, .slice A1_2 l1_2.length c1_2, .int .i64 a1_3, .int .i64 a1_4, .int .i64 a1_5, .slice A1_6 l1_6.length c1_6, .slice A1_7 l1_7.length c1_7] 53 (0, 0)) (by (with_reducible repeat (first | refine zg ?_ _ | refine zi ?_ | refine zh ?_ _)); exact zA.1) hb); have n2_ := Aside0.mk (zk (by repeat (first | (with_reducible first | exact HB.1 | apply ze | apply zc | apply zd | refine zf ?_ zC.1 | refine zf ?_ zF.1) | exact HB.1)) hb); clear zz; clear zA; clear HB; have zz := n0_; have zA := n1_; have HB := n2_; clear n0_ n1_ n2_; (try clear hb); (try clear hb2); (try clear hk); (try clear hi); have hcz39_0 : w38.cell? ⟨gb162, 0, none⟩ = some (.slice A0_0 l0_0.length c0_0) := (zb zz.1 0).trans rfl; have hcz39_1 : w38.cell? ⟨gb162, 1, none⟩ = some (.int .i64 a0_1) := (zb zz.1 1).trans rfl; have hcz39_2 : w38.cell? ⟨gb162, 2, none⟩ = some (.slice A0_2 l0_2.length c0_2) := (zb zz.1 2).trans rfl; have hcz39_3 : w38.cell? ⟨gb162, 3, none⟩ = some (.int .i64 a0_3) := (zb zz.1 3).trans rfl; have hcz39_4 : w38.cell? ⟨gb162, 4, none⟩ = some (.int .i64 a0_4) := (zb zz.1 4).trans rfl; have hcz39_5 : w38.cell? ⟨gb162, 5, none⟩ = some (.int .i64 a0_5) := (zb zz.1 5).trans rfl; have hcz39_6 : w38.cell? ⟨gb162, 6, none⟩ = some (.slice A0_6 l0_6.length c0_6) := (zb zz.1 6).trans rfl; have hcz39_7 : w38.cell? ⟨gb162, 7, none⟩ = some (.slice A0_7 l0_7.length c0_7) := (zb zz.1 7).trans rfl; have hfz39_0 := za zz.1 0; have hfz39_1 := za zz.1 1; have hfz39_2 := za zz.1 2; have hfz39_3 := za zz.1 3; have hfz39_4 := za zz.1 4; have hfz39_5 := za zz.1 5; have hfz39_6 := za zz.1 6; have hfz39_7 := za zz.1 7; have hcz40_0 : w38.cell? ⟨gb163, 0, none⟩ = some (.slice A1_0 l1_0.length c1_0) := (zb zA.1 0).trans rfl; have hcz40_1 : w38.cell? ⟨gb163, 1, none⟩ = some (.int .i64 a1_1) := (zb zA.1 1).trans rfl; have hcz40_2 : w38.cell? ⟨gb163, 2, none⟩ = some (.slice A1_2 l1_2.length c1_2) := (zb zA.1 2).trans rfl; have hcz40_3 : w38.cell? ⟨gb163, 3, none⟩ = some (.int .i64 a1_3) := (zb zA.1 3).trans rfl; have hcz40_4 : w38.cell? ⟨gb163, 4, none⟩ = some (.int .i64 a1_4) := (zb zA.1 4).trans rfl; have hcz40_5 : w38.cell? ⟨gb163, 5, none⟩ = some (.int .i64 a1_5) := (zb zA.1 5).trans rfl; have hcz40_6 : w38.cell? ⟨gb163, 6, none⟩ = some (.slice A1_6 l1_6.length c1_6) := (zb zA.1 6).trans rfl; have hcz40_7 : w38.cell? ⟨gb163, 7, none⟩ = some (.slice A1_7 l1_7.length c1_7) := (zb zA.1 7).trans rfl; have hfz40_0 := za zA.1 0; have hfz40_1 := za zA.1 1; have hfz40_2 := za zA.1 2; have hfz40_3 := za zA.1 3; have hfz40_4 := za zA.1 4; have hfz40_5 := za zA.1 5; have hfz40_6 := za zA.1 6; have hfz40_7 := za zA.1 7) | ((with_reducible refine zr (f := 16) rfl ?_); refine zy (some 15) rfl rfl Try.func16 (by kernel_rfl) rfl #[.agg #[.int .i64 a0_1, .slice A0_2 l0_2.length c0_2, .int .i64 a0_3, .int .i64 a0_4, .int .i64 a0_5, .slice A0_6 l0_6.length c0_6], .agg #[.int .i64 a1_1, .slice A1_2 l1_2.length c1_2, .int .i64 a1_3, .int .i64 a1_4, .int .i64 a1_5, .slice A1_6 l1_6.length c1_6]] rfl (by (try simp only [List.map_toArray, List.map_cons, List.map_nil]); first | done | rfl | (simp only [List.length_drop, List.length_take]; rfl)) ?_; (with_reducible refine (laws_eqAttrs.calls k a0_1 _ _ l0_2 a0_3 a0_4 a0_5 _ _ l0_6 a1_1 _ _ l1_2 a1_3 a1_4 a1_5 _ _ l1_6 false _ ?side1 ?side2 ?side3 ?side4 ?side5 ?side6 ?side7 ?side8 A5.1).mono ?_); (case side1 => repeat (first | exact (zm HR0_2.1 HB.1) | (with_reducible refine zn ?_ _) | (with_reducible refine zl ?_ _) | (with_reducible refine zp ?_))); (case side2 => exact HC0_2.1); (case side3 => repeat (first | exact (zm HR0_6.1 HB.1) | (with_reducible refine zn ?_ _) | (with_reducible refine zl ?_ _) | (with_reducible refine zp ?_))); (case side4 => exact HC0_6.1); (case side5 => repeat (first | exact (zm HR1_2.1 HB.1) | (with_reducible refine zn ?_ _) | (with_reducible refine zl ?_ _) | (with_reducible refine zp ?_))); (case side6 => exact HC1_2.1); (case side7 => repeat (first | exact (zm HR1_6.1 HB.1) | (with_reducible refine zn ?_ _) | (with_reducible refine zl ?_ _) | (with_reducible refine zp ?_))); (case side8 => exact HC1_6.1); rintro e w41 ⟨rfl, hb⟩; refine ⟨_, rfl, ?_⟩; have n0_ := Aside0.mk (zo (g := gb162) (o := .cells #[.slice A0_0 l0_0.length c0_0, .int .i64 a0_1, .slice A0_2 l0_2.length c0_2, .int .i64 a0_3, .int .i64 a0_4, .int .i64 a0_5, .slice A0_6 l0_6.length c0_6, .slice A0_7 l0_7.length c0_7] 53 (0, 0)) (by (with_reducible repeat (first | refine zg ?_ _ | refine zi ?_ | refine zh ?_ _)); exact zz.1) hb); have n1_ := Aside0.mk (zo (g := gb163) (o := .cells #[.slice A1_0 l1_0.length c1_0, .int .i64 a1_1, .slice A1_2 l1_2.length c1_2, .int .i64 a1_3, .int .i64 a1_4, .int .i64 a1_5, .slice A1_6 l1_6.length c1_6, .slice A1_7 l1_7.length c1_7] 53 (0, 0)) (by (with_reducible repeat (first | refine zg ?_ _ | refine zi ?_ | refine zh ?_ _)); exact zA.1) hb); have n2_ := Aside0.mk (zk (by repeat (first | (with_reducible first | exact HB.1 | apply ze | apply zc | apply zd | refine zf ?_ zC.1 | refine zf ?_ zF.1) | exact HB.1)) hb); clear zz; clear zA; clear HB; have zz := n0_; have zA := n1_; have HB := n2_; clear n0_ n1_ n2_; (try clear hb); (try clear hb2); (try clear hk); (try clear hi)))
   go_ret
   exact ⟨by first | rfl | (simp [errW_none, errW_some] <;> rfl) | (simp [*, errW_none, errW_some] <;> rfl), by repeat (first | (with_reducible first | exact HB.1 | apply ze | apply zc | apply zd | refine zf ?_ zC.1 | refine zf ?_ zF.1) | exact HB.1)⟩
 ·
  replace c4 := Bool.eq_false_iff.mpr c4
  subst c4
  have H1 : (some false) = some r := by rw [if_neg (show ¬ (false = true) by decide)] at H; exact H
  clear H
  have H := H1
  clear H1
  obtain rfl := Option.some.inj H
  go_enter Try.func31, Try.ntmps31
  go_wp2_with (first | ((with_reducible refine zs (N := 2) rfl ?_); refine zq ?hg (N := 2) ?hd (cs := #[.slice A0_0 l0_0.length c0_0, .int .i64 a0_1, .slice A0_2 l0_2.length c0_2, .int .i64 a0_3, .int .i64 a0_4, .int .i64 a0_5, .slice A0_6 l0_6.length c0_6, .slice A0_7 l0_7.length c0_7]) (t := 53) ?hr ?_; (case hd => rfl); (case hg => rfl); (case hr => first | (go_simp; done) | (go_simp; rfl)); intro gb162 hg w42 hbox hb; have n0_ := Aside0.mk (zk (by repeat (first | (with_reducible first | exact HB.1 | apply ze | apply zc | apply zd) | exact HB.1)) hb); have n1_ := Aside0.mk (hbox); have n2_ := Aside0.mk ((by rw [hg]; exact (zj (by repeat (first | (with_reducible first | exact HB.1 | apply ze | apply zc | apply zd) | exact HB.1))) : w.heap.size ≤ gb162)); have n3_ := Aside0.mk ((by rw [hg]; exact (zj (by repeat (first | (with_reducible first | exact HB.1 | apply ze | apply zc | apply zd) | exact HB.1))) : w.heap.size ≤ gb162)); clear HB; have HB := n0_; have zz := n1_; have GW162 := n2_; have zC := n3_; clear n0_ n1_ n2_ n3_; clear hb hbox hg) | ((with_reducible refine zs (N := 3) rfl ?_); refine zq ?hg (N := 3) ?hd (cs := #[.slice A1_0 l1_0.length c1_0, .int .i64 a1_1, .slice A1_2 l1_2.length c1_2, .int .i64 a1_3, .int .i64 a1_4, .int .i64 a1_5, .slice A1_6 l1_6.length c1_6, .slice A1_7 l1_7.length c1_7]) (t := 53) ?hr ?_; (case hd => rfl); (case hg => rfl); (case hr => first | (go_simp; done) | (go_simp; rfl)); intro gb163 hg w43 hbox hb; have n0_ := Aside0.mk (zo (g := gb162) (o := .cells #[.slice A0_0 l0_0.length c0_0, .int .i64 a0_1, .slice A0_2 l0_2.length c0_2, .int .i64 a0_3, .int .i64 a0_4, .int .i64 a0_5, .slice A0_6 l0_6.length c0_6, .slice A0_7 l0_7.length c0_7] 53 (0, 0)) (by (with_reducible repeat (first | refine zg ?_ _ | refine zi ?_ | refine zh ?_ _)); exact zz.1) hb); have n1_ := Aside0.mk (zk (by repeat (first | (with_reducible first | exact HB.1 | apply ze | apply zc | apply zd | refine zf ?_ zC.1) | exact HB.1)) hb); have n2_ := Aside0.mk (hbox); have n3_ := Aside0.mk ((by rw [hg]; exact (zj (by repeat (first | (with_reducible first | exact HB.1 | apply ze | apply zc | apply zd | refine zf ?_ zC.1) | exact HB.1))) : w.heap.size ≤ gb163)); have n4_ := Aside0.mk ((by rw [hg]; exact (zj (by repeat (first | (with_reducible first | exact HB.1 | apply ze | apply zc | apply zd | refine zf ?_ zC.1) | exact HB.1))) : w.heap.size ≤ gb163)); have n5_ := Aside0.mk ((by rw [hg]; exact Nat.ne_of_lt (zv (g := gb162) (o := .cells #[.slice A0_0 l0_0.length c0_0, .int .i64 a0_1, .slice A0_2 l0_2.length c0_2, .int .i64 a0_3, .int .i64 a0_4, .int .i64 a0_5, .slice A0_6 l0_6.length c0_6, .slice A0_7 l0_7.length c0_7] 53 (0, 0)) (by (with_reducible repeat (first | refine zg ?_ _ | refine zi ?_ | refine zh ?_ _)); exact zz.1)) : gb162 ≠ gb163)); have n6_ := Aside0.mk ((by rw [hg]; exact Nat.ne_of_gt (zv (g := gb162) (o := .cells #[.slice A0_0 l0_0.length c0_0, .int .i64 a0_1, .slice A0_2 l0_2.length c0_2, .int .i64 a0_3, .int .i64 a0_4, .int .i64 a0_5, .slice A0_6 l0_6.length c0_6, .slice A0_7 l0_7.length c0_7] 53 (0, 0)) (by (with_reducible repeat (first | refine zg ?_ _ | refine zi ?_ | refine zh ?_ _)); exact zz.1)) : gb163 ≠ gb162)); clear zz; clear HB; have zz := n0_; have HB := n1_; have zA := n2_; have GW163 := n3_; have zF := n4_; have zD := n5_; have zE := n6_; clear n0_ n1_ n2_ n3_ n4_ n5_ n6_; clear hb hbox hg; have hnb44 := zD.1; have hnc44 := zE.1; have hcz45_0 : w43.cell? ⟨gb162, 0, none⟩ = some (.slice A0_0 l0_0.length c0_0) := (zb zz.1 0).trans rfl; have hcz45_1 : w43.cell? ⟨gb162, 1, none⟩ = some (.int .i64 a0_1) := (zb zz.1 1).trans rfl; have hcz45_2 : w43.cell? ⟨gb162, 2, none⟩ = some (.slice A0_2 l0_2.length c0_2) := (zb zz.1 2).trans rfl; have hcz45_3 : w43.cell? ⟨gb162, 3, none⟩ = some (.int .i64 a0_3) := (zb zz.1 3).trans rfl; have hcz45_4 : w43.cell? ⟨gb162, 4, none⟩ = some (.int .i64 a0_4) := (zb zz.1 4).trans rfl; have hcz45_5 : w43.cell? ⟨gb162, 5, none⟩ = some (.int .i64 a0_5) := (zb zz.1 5).trans rfl; have hcz45_6 : w43.cell? ⟨gb162, 6, none⟩ = some (.slice A0_6 l0_6.length c0_6) := (zb zz.1 6).trans rfl; have hcz45_7 : w43.cell? ⟨gb162, 7, none⟩ = some (.slice A0_7 l0_7.length c0_7) := (zb zz.1 7).trans rfl; have hfz45_0 := za zz.1 0; have hfz45_1 := za zz.1 1; have hfz45_2 := za zz.1 2; have hfz45_3 := za zz.1 3; have hfz45_4 := za zz.1 4; have hfz45_5 := za zz.1 5; have hfz45_6 := za zz.1 6; have hfz45_7 := za zz.1 7; have hcz46_0 : w43.cell? ⟨gb163, 0, none⟩ = some (.slice A1_0 l1_0.length c1_0) := (zb zA.1 0).trans rfl; have hcz46_1 : w43.cell? ⟨gb163, 1, none⟩ = some (.int .i64 a1_1) := (zb zA.1 1).trans rfl; have hcz46_2 : w43.cell? ⟨gb163, 2, none⟩ = some (.slice A1_2 l1_2.length c1_2) := (zb zA.1 2).trans rfl; have hcz46_3 : w43.cell? ⟨gb163, 3, none⟩ = some (.int .i64 a1_3) := (zb zA.1 3).trans rfl; have hcz46_4 : w43.cell? ⟨gb163, 4, none⟩ = some (.int .i64 a1_4) := (zb zA.1 4).trans rfl; have hcz46_5 : w43.cell? ⟨gb163, 5, none⟩ = some (.int .i64 a1_5) := (zb zA.1 5).trans rfl; have hcz46_6 : w43.cell? ⟨gb163, 6, none⟩ = some (.slice A1_6 l1_6.length c1_6) := (zb zA.1 6).trans rfl; have hcz46_7 : w43.cell? ⟨gb163, 7, none⟩ = some (.slice A1_7 l1_7.length c1_7) := (zb zA.1 7).trans rfl; have hfz46_0 := za zA.1 0; have hfz46_1 := za zA.1 1; have hfz46_2 := za zA.1 2; have hfz46_3 := za zA.1 3; have hfz46_4 := za zA.1 4; have hfz46_5 := za zA.1 5; have hfz46_6 := za zA.1 6; have hfz46_7 := za zA.1 7) | ((with_reducible refine zr (f := 78) rfl ?_); refine zy (some 9) rfl rfl Try.func78 (by kernel_rfl) rfl #[.slice A0_0 l0_0.length c0_0, .slice A1_0 l1_0.length c1_0] rfl (by (try simp only [List.map_toArray, List.map_cons, List.map_nil]); first | done | rfl | (simp only [List.length_drop, List.length_take]; rfl)) ?_; (with_reducible refine (laws_eqPrefixS.calls k _ _ l0_0 _ _ l1_0 false _ ?side1 ?side2 ?side3 ?side4 A3.1).mono ?_); (case side1 => repeat (first | exact (zm HR0_0.1 HB.1) | (with_reducible refine zn ?_ _) | (with_reducible refine zl ?_ _) | (with_reducible refine zp ?_))); (case side2 => exact HC0_0.1); (case side3 => repeat (first | exact (zm HR1_0.1 HB.1) | (with_reducible refine zn ?_ _) | (with_reducible refine zl ?_ _) | (with_reducible refine zp ?_))); (case side4 => exact HC1_0.1); rintro e w47 ⟨rfl, hb⟩; refine ⟨_, rfl, ?_⟩; have n0_ := Aside0.mk (zo (g := gb162) (o := .cells #[.slice A0_0 l0_0.length c0_0, .int .i64 a0_1, .slice A0_2 l0_2.length c0_2, .int .i64 a0_3, .int .i64 a0_4, .int .i64 a0_5, .slice A0_6 l0_6.length c0_6, .slice A0_7 l0_7.length c0_7] 53 (0, 0)) (by (with_reducible repeat (first | refine zg ?_ _ | refine zi ?_ | refine zh ?_ _)); exact zz.1) hb); have n1_ := Aside0.mk (zo (g := gb163) (o := .cells #[.slice A1_0 l1_0.length c1_0, .int .i64 a1_1, .slice A1_2 l1_2.length c1_2, .int .i64 a1_3, .int .i64 a1_4, .int .i64 a1_5, .slice A1_6 l1_6.length c1_6, .slice A1_7 l1_7.length c1_7] 53 (0, 0)) (by (with_reducible repeat (first | refine zg ?_ _ | refine zi ?_ | refine zh ?_ _)); exact zA.1) hb); have n2_ := Aside0.mk (zk (by repeat (first | (with_reducible first | exact HB.1 | apply ze | apply zc | apply zd | refine zf ?_ zC.1 | refine zf ?_ zF.1) | exact HB.1)) hb); clear zz; clear zA; clear HB; have zz := n0_; have zA := n1_; have HB := n2_; clear n0_ n1_ n2_; (try clear hb); (try clear hb2); (try clear hk); (try clear hi)))
  go_ret
  exact ⟨by first | rfl | (simp [errW_none, errW_some] <;> rfl) | (simp [*, errW_none, errW_some] <;> rfl), by repeat (first | (with_reducible first | exact HB.1 | apply ze | apply zc | apply zd | refine zf ?_ zC.1 | refine zf ?_ zF.1) | exact HB.1)⟩

/-! ### spec_l1In: function 47 -/
def spec_l1In.f (a0 : Int) (a1 : Int) (a2 : Int) : Option (Bool) := if a0 ≥ a1 then (some (decide (a0 ≤ a2))) else (some false)
set_option maxHeartbeats 8000000 in
set_option maxRecDepth 100000 in
theorem spec_l1In.calls (a0 : Int) (a1 : Int) (a2 : Int) (r : Bool) (w : World) (h : spec_l1In.f a0 a1 a2 = some r) :
  Calls Try.prog 47 #[.int .i64 a0, .int .i64 a1, .int .i64 a2] w fun e w' => e = .returned (.bool r) ∧ Drawn0 w w' := by
 have H : (if a0 ≥ a1 then (some (decide (a0 ≤ a2))) else (some false)) = some r := h
 clear h
 by_cases c4 : a0 ≥ a1
 ·
  rw [if_pos c4] at H
  have c4b0 : decide (a1 ≤ a0) = true := decide_eq_true c4
  clear c4
  obtain rfl := Option.some.inj H
  go_enter Try.func47, Try.ntmps47
  go_wp2
  go_ret
  exact ⟨by first | rfl | (simp; done) | (simp [*]; done), by repeat (first | exact Drawn0.refl _ | apply Drawn0.step)⟩
 ·
  rw [if_neg c4] at H
  have c4b0 : decide (a1 ≤ a0) = false := decide_eq_false c4
  clear c4
  obtain rfl := Option.some.inj H
  go_enter Try.func47, Try.ntmps47
  go_wp2
  go_ret
  exact ⟨by first | rfl | (simp; done) | (simp [*]; done), by repeat (first | exact Drawn0.refl _ | apply Drawn0.step)⟩

/-! ### spec_l1Addr: function 48 -/
def spec_l1Addr.f (a0 : Int) : Option (Bool) := (spec_l1In.f a0 0 4294967295).bind fun t167 => (some t167)
set_option maxHeartbeats 8000000 in
set_option maxRecDepth 100000 in
theorem spec_l1Addr.calls (a0 : Int) (r : Bool) (w : World) (h : spec_l1Addr.f a0 = some r) :
  Calls Try.prog 48 #[.int .i64 a0] w fun e w' => e = .returned (.bool r) ∧ Drawn0 w w' := by
 have H : ((spec_l1In.f a0 0 4294967295).bind fun t167 => (some t167)) = some r := h
 clear h
 replace H := Option.bind_eq_some_iff.mp H
 obtain ⟨t167, A20, H⟩ := H
 replace H : (some t167) = some r := H
 have A2 := Aside0.mk A20
 clear A20
 obtain rfl := Option.some.inj H
 go_enter Try.func48, Try.ntmps48
 go_wp2_with (first | ((with_reducible refine zr (f := 47) rfl ?_); refine zy (some 4) rfl rfl Try.func47 (by kernel_rfl) rfl #[.int .i64 a0, .int .i64 0, .int .i64 4294967295] rfl (by (try simp only [List.map_toArray, List.map_cons, List.map_nil]); first | done | rfl | (simp only [List.length_drop, List.length_take]; rfl)) ?_; (with_reducible refine (spec_l1In.calls a0 0 4294967295 t167 _ A2.1).mono ?_); rintro e w' ⟨rfl, ⟨nd, rfl⟩⟩; refine ⟨_, rfl, ?_⟩))
 go_ret
 exact ⟨by first | rfl | (simp; done) | (simp [*]; done), by repeat (first | exact Drawn0.refl _ | apply Drawn0.step)⟩

end Go.Proofs.Ytlnfcobloolnnaa.PFnExactUpdateBytes
