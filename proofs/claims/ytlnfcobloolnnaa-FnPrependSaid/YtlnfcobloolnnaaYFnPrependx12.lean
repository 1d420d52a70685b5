/- Written by this session's own program over the kit's print: Lean functions that tell what Go functions answer, each with a proof that the call does so. No condition but what each statement says. -/
import Derived.Test.YtlnfcobloolnnaaYFnPrependx3
import Derived.Test.YtlnfcobloolnnaaYFnPrependx10
namespace Go.Proofs.Ytlnfcobloolnnaa.PFnPrepend
open Go.RowKit Go.Proofs.YtlnfcobloolnnaaW.PrintWords Go.Proofs.YtlnfcobloolnnaaW.PrintLast Go.Proofs.YtlnfcobloolnnaaW.PrintMore
open Go.Proofs.YtlnfcobloolnnaaW.PrintLast renaming goesL_ → zR
open Go.Proofs.YtlnfcobloolnnaaW.PrintWords renaming pw_below_drewN → za, below_set → zb, below_drew1 → zc, below_alloc → zd, keep_drewN → zf, keep_alloc → zg, blk_frozen → zh, blk_drewN → zi, blk_alloc → zj, keep_drew → zk, blk_drew → zm, blk_cell → zn, keep_far → zo, below_step → zr, keep_size → zx, gate_dst → zy, below_size → zz, blk_below → zA, box_event → zD, gate_callee → zE, blk_put → zF, blk_lt → zN, blk_far → zS, own_string → zT, gate_guard → zU, far_slice → qb, Aside0 → qc, bt_at → qd
open Go.Proofs.YtlnfcobloolnnaaW.PrintWords.Kd renaming int → zs, R_drewN → zt, R_alloc → zu, R_drew → zv, R_mono → zw, R_keep → zB, R_lower → zG, R_reads' → zH, C_drewN → zJ, C_alloc → zK, R_far → zL, C_drew → zM, R_types → zO, R_lit → zP, own_of_R → zQ, R_below → zX, R_slice → zZ, C_below → qa
open Go.Proofs.YtlnfcobloolnnaaW.PrintWords.KeepBut renaming set_ → ze, trans → zl, of_below → zp, blk → zC
open Go.Proofs.YtlnfcobloolnnaaW.PrintWords.LeO renaming none → zV, bind → zW, ite → zY
open Go.Proofs.YtlnfcobloolnnaaW.PrintWords.Reps renaming one → zq, none → zI
attribute [local go_sem] max2_int min2_int max_two min_two max_three min_three max_four min_four   -- for this text's walks alone
set_option linter.unusedVariables false
set_option linter.unusedSimpArgs false

/-! ### laws_sameInts: function 40 -/
def laws_sameInts.l0 : Nat → List Int → List Int → Int → Int → Option (Bool)
 | 0, _, _, _, _ => none
 | k + 1, x0, x1, x12, x13 => if x13 < x12 then (if 0 ≤ x13 then (if x13 < (x0.length : Int) then (if x13 < (x1.length : Int) then (if (rd x0 x13) = (rd x1 x13) then (laws_sameInts.l0 k x0 x1 x12 (wrap64 (x13 + 1))) else (some false)) else (none)) else (none)) else (none)) else (some true)
def laws_sameInts.f (k : Nat) (l0 : List Int) (l1 : List Int) : Option (Bool) := if (l0.length : Int) = (l1.length : Int) then (laws_sameInts.l0 k l0 l1 (l0.length : Int) 0) else (some false)
theorem laws_sameInts.mono_l : ∀ k, (∀ y0 y1 y2 y3, LeO (laws_sameInts.l0 k y0 y1 y2 y3) (laws_sameInts.l0 (k + 1) y0 y1 y2 y3))
 | 0 => fun _ _ _ _ r h => by simp [laws_sameInts.l0] at h
 | k + 1 => by
  have ih0 := laws_sameInts.mono_l k
  ·
   intro y0 y1 y2 y3
   unfold laws_sameInts.l0
   repeat' first
   | (with_reducible exact ih0 _ _ _ _)
   | (with_reducible exact LeO.refl _)
   | (with_reducible refine zY ?_ ?_)
theorem laws_sameInts.mono : ∀ a0 a1 k, LeO (laws_sameInts.f k a0 a1) (laws_sameInts.f (k + 1) a0 a1) := by
 intro a0 a1 k
 have ih0 := laws_sameInts.mono_l k
 unfold laws_sameInts.f
 repeat' first
   | (with_reducible exact ih0 _ _ _ _)
   | (with_reducible exact LeO.refl _)
   | (with_reducible refine zY ?_ ?_)
set_option maxHeartbeats 8000000 in
set_option maxRecDepth 100000 in
theorem laws_sameInts.calls (k : Nat) (A0 : Option Addr) (c0 : Nat) (l0 : List Int) (A1 : Option Addr) (c1 : Nat) (l1 : List Int) (r : Bool) (w : World) (hr0 : Kd.C (zs .i64) w A0 l0.length l0) (hc0 : l0.length ≤ c0) (hr1 : Kd.C (zs .i64) w A1 l1.length l1) (hc1 : l1.length ≤ c1) (h : laws_sameInts.f k l0 l1 = some r) :
  Calls Try.prog 40 #[.slice A0 l0.length c0, .slice A1 l1.length c1] w fun e w' => e = .returned (.bool r) ∧ Drawn0 w w' := by
 have HR0 := Aside0.mk hr0
 have HC0 := Aside0.mk hc0
 clear hr0 hc0
 have HR1 := Aside0.mk hr1
 have HC1 := Aside0.mk hc1
 clear hr1 hc1
 have H : (if (l0.length : Int) = (l1.length : Int) then (laws_sameInts.l0 k l0 l1 (l0.length : Int) 0) else (some false)) = some r := h
 clear h
 by_cases c3 : (l0.length : Int) = (l1.length : Int)
 ·
  rw [if_pos c3] at H
  have c3b0 : ((l0.length : Int) == (l1.length : Int)) = true := beq_iff_eq.mpr c3
  have c3b1 : ((l0.length : Int) != (l1.length : Int)) = false := bne_eq_false_iff_eq.mpr c3
  have c3b2 : (l0.length == l1.length) = true := by (simp at c3 ⊢; omega)
  clear c3
  have H' := Aside0.mk H
  clear H
  go_enter Try.func40, Try.ntmps40
  go_wp2
  repeat (go_quiet (fail); try go_wp2)
  go_loopg [13] k (fun kq v13 w' => ∃ (qp : Int), v13 = .int .i64 qp ∧ qc (laws_sameInts.l0 kq l0 l1 (l0.length : Int) qp = some r) ∧ qc (kq ≤ k) ∧ Drawn0 w w')
  case atStart => exact ⟨(0), (by rfl), H', ⟨Nat.le_refl _⟩, by repeat (exact Drawn0.refl _)⟩
  case round =>
   clear H'
   (try clear c1); (try clear p2); (try clear c3); (try clear c3b0); (try clear c3b1); (try clear c3b2)
   obtain ⟨qp, rfl, HA, HK1, ⟨m1, rfl⟩⟩ := hrel
   cases gk with
   | zero => exact absurd HA.1 (by simp [laws_sameInts.l0])
   | succ k1 =>
    have H := HA.1
    clear HA
    simp only [laws_sameInts.l0] at H
    by_cases c4 : qp < (l0.length : Int)
    ·
     rw [if_pos c4] at H
     have c4b0 : decide (qp < (l0.length : Int)) = true := decide_eq_true c4
     clear c4
     by_cases c5 : 0 ≤ qp
     ·
      rw [if_pos c5] at H
      have c5b0 : decide (0 ≤ qp) = true := decide_eq_true c5
      clear c5
      by_cases c6 : qp < (l0.length : Int)
      ·
       rw [if_pos c6] at H
       have c6b0 : decide (qp < (l0.length : Int)) = true := decide_eq_true c6
       clear c6
       by_cases c7 : qp < (l1.length : Int)
       ·
        rw [if_pos c7] at H
        have c7b0 : decide (qp < (l1.length : Int)) = true := decide_eq_true c7
        clear c7
        by_cases c8 : (rd l0 qp) = (rd l1 qp)
        ·
         rw [if_pos c8] at H
         have c8b0 : ((rd l0 qp) == (rd l1 qp)) = true := beq_iff_eq.mpr c8
         have c8b1 : ((rd l0 qp) != (rd l1 qp)) = false := bne_eq_false_iff_eq.mpr c8
         clear c8
         have H' := Aside0.mk H
         clear H
         have p369 : 0 ≤ (qp : Int) := of_decide_eq_true (by (with_reducible assumption))
         have q369 : qp < (l0.length : Int) := of_decide_eq_true (by (with_reducible assumption))
         obtain ⟨ad369, e369, hx369_0⟩ := Kd.at_int HR0.1 qp p369 q369
         cases e369
         replace p369 := eq_true p369
         replace q369 := eq_true q369
         have p370 : 0 ≤ (qp : Int) := of_decide_eq_true (by (with_reducible assumption))
         have q370 : qp < (l1.length : Int) := of_decide_eq_true (by (with_reducible assumption))
         obtain ⟨ad370, e370, hx370_0⟩ := Kd.at_int HR1.1 qp p370 q370
         cases e370
         replace p370 := eq_true p370
         replace q370 := eq_true q370
         go_wp2
         repeat (go_quiet (fail); try go_wp2)
         go_roundg k1
         case measure => have := HK1.1; omega
         case rel => exact ⟨(wrap64 (qp + 1)), (by rfl), H', ⟨by have := HK1.1; omega⟩, by repeat (first | exact Drawn0.refl _ | apply Drawn0.step)⟩
        ·
         rw [if_neg c8] at H
         have c8b0 : ((rd l0 qp) == (rd l1 qp)) = false := beq_eq_false_iff_ne.mpr c8
         have c8b1 : ((rd l0 qp) != (rd l1 qp)) = true := bne_iff_ne.mpr c8
         obtain rfl := Option.some.inj H
         have p369 : 0 ≤ (qp : Int) := of_decide_eq_true (by (with_reducible assumption))
         have q369 : qp < (l0.length : Int) := of_decide_eq_true (by (with_reducible assumption))
         obtain ⟨ad369, e369, hx369_0⟩ := Kd.at_int HR0.1 qp p369 q369
         cases e369
         replace p369 := eq_true p369
         replace q369 := eq_true q369
         have p370 : 0 ≤ (qp : Int) := of_decide_eq_true (by (with_reducible assumption))
         have q370 : qp < (l1.length : Int) := of_decide_eq_true (by (with_reducible assumption))
         obtain ⟨ad370, e370, hx370_0⟩ := Kd.at_int HR1.1 qp p370 q370
         cases e370
         replace p370 := eq_true p370
         replace q370 := eq_true q370
         go_wp2
         repeat (go_quiet (fail); try go_wp2)
         go_ret
         exact ⟨by rfl, by repeat (first | exact Drawn0.refl _ | apply Drawn0.step)⟩
       ·
        rw [if_neg c7] at H
        exact absurd H (by simp)
      ·
       rw [if_neg c6] at H
       exact absurd H (by simp)
     ·
      rw [if_neg c5] at H
      exact absurd H (by simp)
    ·
     rw [if_neg c4] at H
     have c4b0 : decide (qp < (l0.length : Int)) = false := decide_eq_false c4
     clear c4
     obtain rfl := Option.some.inj H
     go_wp2
     repeat (go_quiet (fail); try go_wp2)
     go_ret
     exact ⟨by rfl, by repeat (first | exact Drawn0.refl _ | apply Drawn0.step)⟩
 ·
  rw [if_neg c3] at H
  have c3b0 : ((l0.length : Int) == (l1.length : Int)) = false := beq_eq_false_iff_ne.mpr c3
  have c3b1 : ((l0.length : Int) != (l1.length : Int)) = true := bne_iff_ne.mpr c3
  have c3b2 : (l0.length == l1.length) = false := by (simp at c3 ⊢; omega)
  obtain rfl := Option.some.inj H
  go_enter Try.func40, Try.ntmps40
  go_wp2
  repeat (go_quiet (fail); try go_wp2)
  go_ret
  exact ⟨by rfl, by repeat (exact Drawn0.refl _)⟩

/-! ### laws_sameAttrs: function 39 -/
def laws_sameAttrs.f (k : Nat) (a0_0 : Int) (l0_1 : List Int) (a0_2 : Int) (a0_3 : Int) (a0_4 : Int) (l0_5 : List Int) (a1_0 : Int) (l1_1 : List Int) (a1_2 : Int) (a1_3 : Int) (a1_4 : Int) (l1_5 : List Int) : Option (Bool) := if a0_0 = a1_0 then (if a0_2 = a1_2 then (if a0_3 = a1_3 then (if a0_4 = a1_4 then ((laws_sameInts.f k l0_1 l1_1).bind fun t373 => (if t373 = true then ((laws_sameInts.f k l0_5 l1_5).bind fun t374 => (some t374)) else (some false))) else (some false)) else (some false)) else (some false)) else (some false)
theorem laws_sameAttrs.mono : ∀ a0 a1 a2 a3 a4 a5 a6 a7 a8 a9 a10 a11 k, LeO (laws_sameAttrs.f k a0 a1 a2 a3 a4 a5 a6 a7 a8 a9 a10 a11) (laws_sameAttrs.f (k + 1) a0 a1 a2 a3 a4 a5 a6 a7 a8 a9 a10 a11) := by
 intro a0 a1 a2 a3 a4 a5 a6 a7 a8 a9 a10 a11 k
 unfold laws_sameAttrs.f
 repeat' first
   | (with_reducible exact laws_sameInts.mono _ _ _)
   | (with_reducible exact LeO.refl _)
   | (with_reducible refine zY ?_ ?_)
   | (with_reducible refine zW ?_ (fun _ => ?_))
set_option maxHeartbeats 8000000 in
set_option maxRecDepth 100000 in
theorem laws_sameAttrs.calls (k : Nat) (a0_0 : Int) (A0_1 : Option Addr) (c0_1 : Nat) (l0_1 : List Int) (a0_2 : Int) (a0_3 : Int) (a0_4 : Int) (A0_5 : Option Addr) (c0_5 : Nat) (l0_5 : List Int) (a1_0 : Int) (A1_1 : Option Addr) (c1_1 : Nat) (l1_1 : List Int) (a1_2 : Int) (a1_3 : Int) (a1_4 : Int) (A1_5 : Option Addr) (c1_5 : Nat) (l1_5 : List Int) (r : Bool) (w : World) (hr0_1 : Kd.C (zs .i64) w A0_1 l0_1.length l0_1) (hc0_1 : l0_1.length ≤ c0_1) (hr0_5 : Kd.C (zs .i64) w A0_5 l0_5.length l0_5) (hc0_5 : l0_5.length ≤ c0_5) (hr1_1 : Kd.C (zs .i64) w A1_1 l1_1.length l1_1) (hc1_1 : l1_1.length ≤ c1_1) (hr1_5 : Kd.C (zs .i64) w A1_5 l1_5.length l1_5) (hc1_5 : l1_5.length ≤ c1_5) (h : laws_sameAttrs.f k a0_0 l0_1 a0_2 a0_3 a0_4 l0_5 a1_0 l1_1 a1_2 a1_3 a1_4 l1_5 = some r) :
  Calls Try.prog 39 #[.agg #[.int .i64 a0_0, .slice A0_1 l0_1.length c0_1, .int .i64 a0_2, .int .i64 a0_3, .int .i64 a0_4, .slice A0_5 l0_5.length c0_5], .agg #[.int .i64 a1_0, .slice A1_1 l1_1.length c1_1, .int .i64 a1_2, .int .i64 a1_3, .int .i64 a1_4, .slice A1_5 l1_5.length c1_5]] w fun e w' => e = .returned (.bool r) ∧ Below w.heap.size w w' := by
 have hu27 := Try.underlying27
 have HR0_1 := Aside0.mk hr0_1
 have HC0_1 := Aside0.mk hc0_1
 clear hr0_1 hc0_1
 have HR0_5 := Aside0.mk hr0_5
 have HC0_5 := Aside0.mk hc0_5
 clear hr0_5 hc0_5
 have HR1_1 := Aside0.mk hr1_1
 have HC1_1 := Aside0.mk hc1_1
 clear hr1_1 hc1_1
 have HR1_5 := Aside0.mk hr1_5
 have HC1_5 := Aside0.mk hc1_5
 clear hr1_5 hc1_5
 have HB := Aside0.mk (Below.refl w.heap.size w)
 have H : (if a0_0 = a1_0 then (if a0_2 = a1_2 then (if a0_3 = a1_3 then (if a0_4 = a1_4 then ((laws_sameInts.f k l0_1 l1_1).bind fun t373 => (if t373 = true then ((laws_sameInts.f k l0_5 l1_5).bind fun t374 => (some t374)) else (some false))) else (some false)) else (some false)) else (some false)) else (some false)) = some r := h
 clear h
 by_cases c3 : a0_0 = a1_0
 ·
  rw [if_pos c3] at H
  have c3b0 : (a0_0 == a1_0) = true := beq_iff_eq.mpr c3
  have c3b1 : (a0_0 != a1_0) = false := bne_eq_false_iff_eq.mpr c3
  clear c3
  by_cases c4 : a0_2 = a1_2
  ·
   rw [if_pos c4] at H
   have c4b0 : (a0_2 == a1_2) = true := beq_iff_eq.mpr c4
   have c4b1 : (a0_2 != a1_2) = false := bne_eq_false_iff_eq.mpr c4
   clear c4
   by_cases c5 : a0_3 = a1_3
   ·
    rw [if_pos c5] at H
    have c5b0 : (a0_3 == a1_3) = true := beq_iff_eq.mpr c5
    have c5b1 : (a0_3 != a1_3) = false := bne_eq_false_iff_eq.mpr c5
    clear c5
    by_cases c6 : a0_4 = a1_4
    ·
     rw [if_pos c6] at H
     have c6b0 : (a0_4 == a1_4) = true := beq_iff_eq.mpr c6
     have c6b1 : (a0_4 != a1_4) = false := bne_eq_false_iff_eq.mpr c6
     clear c6
     replace H := Option.bind_eq_some_iff.mp H
     obtain ⟨t373, A70, H⟩ := H
     replace H : (if t373 = true then ((laws_sameInts.f k l0_5 l1_5).bind fun t374 => (some t374)) else (some false)) = some r := H
     have A7 := Aside0.mk A70
     clear A70
     by_cases c8 : t373 = true
     ·
      subst c8
      have H1 : ((laws_sameInts.f k l0_5 l1_5).bind fun t374 => (some t374)) = some r := by rw [if_pos rfl] at H; exact H
      clear H
      have H := H1
      clear H1
      replace H := Option.bind_eq_some_iff.mp H
      obtain ⟨t374, A90, H⟩ := H
      replace H : (some t374) = some r := H
      have A9 := Aside0.mk A90
      clear A90
      obtain rfl := Option.some.inj H
      go_enter Try.func39, Try.ntmps39
      go_wp2_with (first | ((with_reducible refine zy (N := 2) rfl ?_); refine zD ?hg (N := 2) ?hd (cs := #[.int .i64 a0_0, .slice A0_1 l0_1.length c0_1, .int .i64 a0_2, .int .i64 a0_3, .int .i64 a0_4, .slice A0_5 l0_5.length c0_5]) (t := 27) ?hr ?_; (case hd => rfl); (case hg => rfl); (case hr => (go_simp; done)); intro gb371 hg w10 hbox hb; replace HB := Aside0.mk (zr HB.1 hb); have qe := Aside0.mk hbox; clear hb hbox hg) | ((with_reducible refine zy (N := 3) rfl ?_); refine zD ?hg (N := 3) ?hd (cs := #[.int .i64 a1_0, .slice A1_1 l1_1.length c1_1, .int .i64 a1_2, .int .i64 a1_3, .int .i64 a1_4, .slice A1_5 l1_5.length c1_5]) (t := 27) ?hr ?_; (case hd => rfl); (case hg => rfl); (case hr => (go_simp; done)); intro gb372 hg w11 hbox hb; replace HB := Aside0.mk (zr HB.1 hb); have qj := Aside0.mk hbox; have qv := Aside0.mk ((by rw [hg]; exact Nat.ne_of_lt (zN (g := gb371) (o := .cells #[.int .i64 a0_0, .slice A0_1 l0_1.length c0_1, .int .i64 a0_2, .int .i64 a0_3, .int .i64 a0_4, .slice A0_5 l0_5.length c0_5] 27 (0, 0)) (by exact qe.1)) : gb371 ≠ gb372)); have qw := Aside0.mk ((by rw [hg]; exact Nat.ne_of_gt (zN (g := gb371) (o := .cells #[.int .i64 a0_0, .slice A0_1 l0_1.length c0_1, .int .i64 a0_2, .int .i64 a0_3, .int .i64 a0_4, .slice A0_5 l0_5.length c0_5] 27 (0, 0)) (by exact qe.1)) : gb372 ≠ gb371)); replace qe := Aside0.mk (zA (g := gb371) (o := .cells #[.int .i64 a0_0, .slice A0_1 l0_1.length c0_1, .int .i64 a0_2, .int .i64 a0_3, .int .i64 a0_4, .slice A0_5 l0_5.length c0_5] 27 (0, 0)) (by exact qe.1) hb); clear hb hbox hg; have hnb12 := qv.1; have hnc12 := qw.1; have hcz13_0 : w11.cell? ⟨gb371, 0, none⟩ = some (.int .i64 a0_0) := (zn qe.1 0).trans rfl; have hcz13_1 : w11.cell? ⟨gb371, 1, none⟩ = some (.slice A0_1 l0_1.length c0_1) := (zn qe.1 1).trans rfl; have hcz13_2 : w11.cell? ⟨gb371, 2, none⟩ = some (.int .i64 a0_2) := (zn qe.1 2).trans rfl; have hcz13_3 : w11.cell? ⟨gb371, 3, none⟩ = some (.int .i64 a0_3) := (zn qe.1 3).trans rfl; have hcz13_4 : w11.cell? ⟨gb371, 4, none⟩ = some (.int .i64 a0_4) := (zn qe.1 4).trans rfl; have hcz13_5 : w11.cell? ⟨gb371, 5, none⟩ = some (.slice A0_5 l0_5.length c0_5) := (zn qe.1 5).trans rfl; have hfz13_0 := zh qe.1 0; have hfz13_1 := zh qe.1 1; have hfz13_2 := zh qe.1 2; have hfz13_3 := zh qe.1 3; have hfz13_4 := zh qe.1 4; have hfz13_5 := zh qe.1 5; have hcz14_0 : w11.cell? ⟨gb372, 0, none⟩ = some (.int .i64 a1_0) := (zn qj.1 0).trans rfl; have hcz14_1 : w11.cell? ⟨gb372, 1, none⟩ = some (.slice A1_1 l1_1.length c1_1) := (zn qj.1 1).trans rfl; have hcz14_2 : w11.cell? ⟨gb372, 2, none⟩ = some (.int .i64 a1_2) := (zn qj.1 2).trans rfl; have hcz14_3 : w11.cell? ⟨gb372, 3, none⟩ = some (.int .i64 a1_3) := (zn qj.1 3).trans rfl; have hcz14_4 : w11.cell? ⟨gb372, 4, none⟩ = some (.int .i64 a1_4) := (zn qj.1 4).trans rfl; have hcz14_5 : w11.cell? ⟨gb372, 5, none⟩ = some (.slice A1_5 l1_5.length c1_5) := (zn qj.1 5).trans rfl; have hfz14_0 := zh qj.1 0; have hfz14_1 := zh qj.1 1; have hfz14_2 := zh qj.1 2; have hfz14_3 := zh qj.1 3; have hfz14_4 := zh qj.1 4; have hfz14_5 := zh qj.1 5) | (go_at_call 40; (with_reducible refine (laws_sameInts.calls k _ _ l0_1 _ _ l1_1 true _ ?side1 ?side2 ?side3 ?side4 A7.1).mono ?_); (case side1 => repeat (exact (qa HR0_1.1 HB.1))); (case side2 => exact HC0_1.1); (case side3 => repeat (exact (qa HR1_1.1 HB.1))); (case side4 => exact HC1_1.1); rintro e w' ⟨rfl, ⟨nd, rfl⟩⟩) | (go_at_call 40; (with_reducible refine (laws_sameInts.calls k _ _ l0_5 _ _ l1_5 t374 _ ?side1 ?side2 ?side3 ?side4 A9.1).mono ?_); (case side1 => repeat (exact (qa HR0_5.1 (by repeat ((with_reducible first | exact HB.1 | apply za)))))); (case side2 => exact HC0_5.1); (case side3 => repeat (exact (qa HR1_5.1 (by repeat ((with_reducible first | exact HB.1 | apply za)))))); (case side4 => exact HC1_5.1); rintro e w' ⟨rfl, ⟨nd, rfl⟩⟩))
      go_ret
      exact ⟨by rfl, by repeat ((with_reducible first | exact HB.1 | apply za))⟩
     ·
      replace c8 := Bool.eq_false_iff.mpr c8
      subst c8
      have H1 : (some false) = some r := by rw [if_neg (show ¬ (false = true) by decide)] at H; exact H
      clear H
      have H := H1
      clear H1
      obtain rfl := Option.some.inj H
      go_enter Try.func39, Try.ntmps39
      go_wp2_with (first | ((with_reducible refine zy (N := 2) rfl ?_); refine zD ?hg (N := 2) ?hd (cs := #[.int .i64 a0_0, .slice A0_1 l0_1.length c0_1, .int .i64 a0_2, .int .i64 a0_3, .int .i64 a0_4, .slice A0_5 l0_5.length c0_5]) (t := 27) ?hr ?_; (case hd => rfl); (case hg => rfl); (case hr => (go_simp; done)); intro gb371 hg w15 hbox hb; replace HB := Aside0.mk (zr HB.1 hb); have qe := Aside0.mk hbox; clear hb hbox hg) | ((with_reducible refine zy (N := 3) rfl ?_); refine zD ?hg (N := 3) ?hd (cs := #[.int .i64 a1_0, .slice A1_1 l1_1.length c1_1, .int .i64 a1_2, .int .i64 a1_3, .int .i64 a1_4, .slice A1_5 l1_5.length c1_5]) (t := 27) ?hr ?_; (case hd => rfl); (case hg => rfl); (case hr => (go_simp; done)); intro gb372 hg w16 hbox hb; replace HB := Aside0.mk (zr HB.1 hb); have qj := Aside0.mk hbox; have qv := Aside0.mk ((by rw [hg]; exact Nat.ne_of_lt (zN (g := gb371) (o := .cells #[.int .i64 a0_0, .slice A0_1 l0_1.length c0_1, .int .i64 a0_2, .int .i64 a0_3, .int .i64 a0_4, .slice A0_5 l0_5.length c0_5] 27 (0, 0)) (by exact qe.1)) : gb371 ≠ gb372)); have qw := Aside0.mk ((by rw [hg]; exact Nat.ne_of_gt (zN (g := gb371) (o := .cells #[.int .i64 a0_0, .slice A0_1 l0_1.length c0_1, .int .i64 a0_2, .int .i64 a0_3, .int .i64 a0_4, .slice A0_5 l0_5.length c0_5] 27 (0, 0)) (by exact qe.1)) : gb372 ≠ gb371)); replace qe := Aside0.mk (zA (g := gb371) (o := .cells #[.int .i64 a0_0, .slice A0_1 l0_1.length c0_1, .int .i64 a0_2, .int .i64 a0_3, .int .i64 a0_4, .slice A0_5 l0_5.length c0_5] 27 (0, 0)) (by exact qe.1) hb); clear hb hbox hg; have hnb17 := qv.1; have hnc17 := qw.1; have hcz18_0 : w16.cell? ⟨gb371, 0, none⟩ = some (.int .i64 a0_0) := (zn qe.1 0).trans rfl; have hcz18_1 : w16.cell? ⟨gb371, 1, none⟩ = some (.slice A0_1 l0_1.length c0_1) := (zn qe.1 1).trans rfl; have hcz18_2 : w16.cell? ⟨gb371, 2, none⟩ = some (.int .i64 a0_2) := (zn qe.1 2).trans rfl; have hcz18_3 : w16.cell? ⟨gb371, 3, none⟩ = some (.int .i64 a0_3) := (zn qe.1 3).trans rfl; have hcz18_4 : w16.cell? ⟨gb371, 4, none⟩ = some (.int .i64 a0_4) := (zn qe.1 4).trans rfl; have hcz18_5 : w16.cell? ⟨gb371, 5, none⟩ = some (.slice A0_5 l0_5.length c0_5) := (zn qe.1 5).trans rfl; have hfz18_0 := zh qe.1 0; have hfz18_1 := zh qe.1 1; have hfz18_2 := zh qe.1 2; have hfz18_3 := zh qe.1 3; have hfz18_4 := zh qe.1 4; have hfz18_5 := zh qe.1 5; have hcz19_0 : w16.cell? ⟨gb372, 0, none⟩ = some (.int .i64 a1_0) := (zn qj.1 0).trans rfl; have hcz19_1 : w16.cell? ⟨gb372, 1, none⟩ = some (.slice A1_1 l1_1.length c1_1) := (zn qj.1 1).trans rfl; have hcz19_2 : w16.cell? ⟨gb372, 2, none⟩ = some (.int .i64 a1_2) := (zn qj.1 2).trans rfl; have hcz19_3 : w16.cell? ⟨gb372, 3, none⟩ = some (.int .i64 a1_3) := (zn qj.1 3).trans rfl; have hcz19_4 : w16.cell? ⟨gb372, 4, none⟩ = some (.int .i64 a1_4) := (zn qj.1 4).trans rfl; have hcz19_5 : w16.cell? ⟨gb372, 5, none⟩ = some (.slice A1_5 l1_5.length c1_5) := (zn qj.1 5).trans rfl; have hfz19_0 := zh qj.1 0; have hfz19_1 := zh qj.1 1; have hfz19_2 := zh qj.1 2; have hfz19_3 := zh qj.1 3; have hfz19_4 := zh qj.1 4; have hfz19_5 := zh qj.1 5) | (go_at_call 40; (with_reducible refine (laws_sameInts.calls k _ _ l0_1 _ _ l1_1 false _ ?side1 ?side2 ?side3 ?side4 A7.1).mono ?_); (case side1 => repeat (exact (qa HR0_1.1 HB.1))); (case side2 => exact HC0_1.1); (case side3 => repeat (exact (qa HR1_1.1 HB.1))); (case side4 => exact HC1_1.1); rintro e w' ⟨rfl, ⟨nd, rfl⟩⟩))
      go_ret
      exact ⟨by rfl, by repeat ((with_reducible first | exact HB.1 | apply za))⟩
    ·
     rw [if_neg c6] at H
     have c6b0 : (a0_4 == a1_4) = false := beq_eq_false_iff_ne.mpr c6
     have c6b1 : (a0_4 != a1_4) = true := bne_iff_ne.mpr c6
     obtain rfl := Option.some.inj H
     go_enter Try.func39, Try.ntmps39
     go_wp2_with (first | ((with_reducible refine zy (N := 2) rfl ?_); refine zD ?hg (N := 2) ?hd (cs := #[.int .i64 a0_0, .slice A0_1 l0_1.length c0_1, .int .i64 a0_2, .int .i64 a0_3, .int .i64 a0_4, .slice A0_5 l0_5.length c0_5]) (t := 27) ?hr ?_; (case hd => rfl); (case hg => rfl); (case hr => (go_simp; done)); intro gb371 hg w20 hbox hb; replace HB := Aside0.mk (zr HB.1 hb); have qe := Aside0.mk hbox; clear hb hbox hg) | ((with_reducible refine zy (N := 3) rfl ?_); refine zD ?hg (N := 3) ?hd (cs := #[.int .i64 a1_0, .slice A1_1 l1_1.length c1_1, .int .i64 a1_2, .int .i64 a1_3, .int .i64 a1_4, .slice A1_5 l1_5.length c1_5]) (t := 27) ?hr ?_; (case hd => rfl); (case hg => rfl); (case hr => (go_simp; done)); intro gb372 hg w21 hbox hb; replace HB := Aside0.mk (zr HB.1 hb); have qj := Aside0.mk hbox; have qv := Aside0.mk ((by rw [hg]; exact Nat.ne_of_lt (zN (g := gb371) (o := .cells #[.int .i64 a0_0, .slice A0_1 l0_1.length c0_1, .int .i64 a0_2, .int .i64 a0_3, .int .i64 a0_4, .slice A0_5 l0_5.length c0_5] 27 (0, 0)) (by exact qe.1)) : gb371 ≠ gb372)); have qw := Aside0.mk ((by rw [hg]; exact Nat.ne_of_gt (zN (g := gb371) (o := .cells #[.int .i64 a0_0, .slice A0_1 l0_1.length c0_1, .int .i64 a0_2, .int .i64 a0_3, .int .i64 a0_4, .slice A0_5 l0_5.length c0_5] 27 (0, 0)) (by exact qe.1)) : gb372 ≠ gb371)); replace qe := Aside0.mk (zA (g := gb371) (o := .cells #[.int .i64 a0_0, .slice A0_1 l0_1.length c0_1, .int .i64 a0_2, .int .i64 a0_3, .int .i64 a0_4, .slice A0_5 l0_5.length c0_5] 27 (0, 0)) (by exact qe.1) hb); clear hb hbox hg; have hnb22 := qv.1; have hnc22 := qw.1; have hcz23_0 : w21.cell? ⟨gb371, 0, none⟩ = some (.int .i64 a0_0) := (zn qe.1 0).trans rfl; have hcz23_1 : w21.cell? ⟨gb371, 1, none⟩ = some (.slice A0_1 l0_1.length c0_1) := (zn qe.1 1).trans rfl; have hcz23_2 : w21.cell? ⟨gb371, 2, none⟩ = some (.int .i64 a0_2) := (zn qe.1 2).trans rfl; have hcz23_3 : w21.cell? ⟨gb371, 3, none⟩ = some (.int .i64 a0_3) := (zn qe.1 3).trans rfl; have hcz23_4 : w21.cell? ⟨gb371, 4, none⟩ = some (.int .i64 a0_4) := (zn qe.1 4).trans rfl; have hcz23_5 : w21.cell? ⟨gb371, 5, none⟩ = some (.slice A0_5 l0_5.length c0_5) := (zn qe.1 5).trans rfl; have hfz23_0 := zh qe.1 0; have hfz23_1 := zh qe.1 1; have hfz23_2 := zh qe.1 2; have hfz23_3 := zh qe.1 3; have hfz23_4 := zh qe.1 4; have hfz23_5 := zh qe.1 5; have hcz24_0 : w21.cell? ⟨gb372, 0, none⟩ = some (.int .i64 a1_0) := (zn qj.1 0).trans rfl; have hcz24_1 : w21.cell? ⟨gb372, 1, none⟩ = some (.slice A1_1 l1_1.length c1_1) := (zn qj.1 1).trans rfl; have hcz24_2 : w21.cell? ⟨gb372, 2, none⟩ = some (.int .i64 a1_2) := (zn qj.1 2).trans rfl; have hcz24_3 : w21.cell? ⟨gb372, 3, none⟩ = some (.int .i64 a1_3) := (zn qj.1 3).trans rfl; have hcz24_4 : w21.cell? ⟨gb372, 4, none⟩ = some (.int .i64 a1_4) := (zn qj.1 4).trans rfl; have hcz24_5 : w21.cell? ⟨gb372, 5, none⟩ = some (.slice A1_5 l1_5.length c1_5) := (zn qj.1 5).trans rfl; have hfz24_0 := zh qj.1 0; have hfz24_1 := zh qj.1 1; have hfz24_2 := zh qj.1 2; have hfz24_3 := zh qj.1 3; have hfz24_4 := zh qj.1 4; have hfz24_5 := zh qj.1 5))
     go_ret
     exact ⟨by rfl, by exact HB.1⟩
   ·
    rw [if_neg c5] at H
    have c5b0 : (a0_3 == a1_3) = false := beq_eq_false_iff_ne.mpr c5
    have c5b1 : (a0_3 != a1_3) = true := bne_iff_ne.mpr c5
    obtain rfl := Option.some.inj H
    go_enter Try.func39, Try.ntmps39
    go_wp2_with (first | ((with_reducible refine zy (N := 2) rfl ?_); refine zD ?hg (N := 2) ?hd (cs := #[.int .i64 a0_0, .slice A0_1 l0_1.length c0_1, .int .i64 a0_2, .int .i64 a0_3, .int .i64 a0_4, .slice A0_5 l0_5.length c0_5]) (t := 27) ?hr ?_; (case hd => rfl); (case hg => rfl); (case hr => (go_simp; done)); intro gb371 hg w25 hbox hb; replace HB := Aside0.mk (zr HB.1 hb); have qe := Aside0.mk hbox; clear hb hbox hg) | ((with_reducible refine zy (N := 3) rfl ?_); refine zD ?hg (N := 3) ?hd (cs := #[.int .i64 a1_0, .slice A1_1 l1_1.length c1_1, .int .i64 a1_2, .int .i64 a1_3, .int .i64 a1_4, .slice A1_5 l1_5.length c1_5]) (t := 27) ?hr ?_; (case hd => rfl); (case hg => rfl); (case hr => (go_simp; done)); intro gb372 hg w26 hbox hb; replace HB := Aside0.mk (zr HB.1 hb); have qj := Aside0.mk hbox; have qv := Aside0.mk ((by rw [hg]; exact Nat.ne_of_lt (zN (g := gb371) (o := .cells #[.int .i64 a0_0, .slice A0_1 l0_1.length c0_1, .int .i64 a0_2, .int .i64 a0_3, .int .i64 a0_4, .slice A0_5 l0_5.length c0_5] 27 (0, 0)) (by exact qe.1)) : gb371 ≠ gb372)); have qw := Aside0.mk ((by rw [hg]; exact Nat.ne_of_gt (zN (g := gb371) (o := .cells #[.int .i64 a0_0, .slice A0_1 l0_1.length c0_1, .int .i64 a0_2, .int .i64 a0_3, .int .i64 a0_4, .slice A0_5 l0_5.length c0_5] 27 (0, 0)) (by exact qe.1)) : gb372 ≠ gb371)); replace qe := Aside0.mk (zA (g := gb371) (o := .cells #[.int .i64 a0_0, .slice A0_1 l0_1.length c0_1, .int .i64 a0_2, .int .i64 a0_3, .int .i64 a0_4, .slice A0_5 l0_5.length c0_5] 27 (0, 0)) (by exact qe.1) hb); clear hb hbox hg; have hnb27 := qv.1; have hnc27 := qw.1; have hcz28_0 : w26.cell? ⟨gb371, 0, none⟩ = some (.int .i64 a0_0) := (zn qe.1 0).trans rfl; have hcz28_1 : w26.cell? ⟨gb371, 1, none⟩ = some (.slice A0_1 l0_1.length c0_1) := (zn qe.1 1).trans rfl; have hcz28_2 : w26.cell? ⟨gb371, 2, none⟩ = some (.int .i64 a0_2) := (zn qe.1 2).trans rfl; have hcz28_3 : w26.cell? ⟨gb371, 3, none⟩ = some (.int .i64 a0_3) := (zn qe.1 3).trans rfl; have hcz28_4 : w26.cell? ⟨gb371, 4, none⟩ = some (.int .i64 a0_4) := (zn qe.1 4).trans rfl; have hcz28_5 : w26.cell? ⟨gb371, 5, none⟩ = some (.slice A0_5 l0_5.length c0_5) := (zn qe.1 5).trans rfl; have hfz28_0 := zh qe.1 0; have hfz28_1 := zh qe.1 1; have hfz28_2 := zh qe.1 2; have hfz28_3 := zh qe.1 3; have hfz28_4 := zh qe.1 4; have hfz28_5 := zh qe.1 5; have hcz29_0 : w26.cell? ⟨gb372, 0, none⟩ = some (.int .i64 a1_0) := (zn qj.1 0).trans rfl; have hcz29_1 : w26.cell? ⟨gb372, 1, none⟩ = some (.slice A1_1 l1_1.length c1_1) := (zn qj.1 1).trans rfl; have hcz29_2 : w26.cell? ⟨gb372, 2, none⟩ = some (.int .i64 a1_2) := (zn qj.1 2).trans rfl; have hcz29_3 : w26.cell? ⟨gb372, 3, none⟩ = some (.int .i64 a1_3) := (zn qj.1 3).trans rfl; have hcz29_4 : w26.cell? ⟨gb372, 4, none⟩ = some (.int .i64 a1_4) := (zn qj.1 4).trans rfl; have hcz29_5 : w26.cell? ⟨gb372, 5, none⟩ = some (.slice A1_5 l1_5.length c1_5) := (zn qj.1 5).trans rfl; have hfz29_0 := zh qj.1 0; have hfz29_1 := zh qj.1 1; have hfz29_2 := zh qj.1 2; have hfz29_3 := zh qj.1 3; have hfz29_4 := zh qj.1 4; have hfz29_5 := zh qj.1 5))
    go_ret
    exact ⟨by rfl, by exact HB.1⟩
  ·
   rw [if_neg c4] at H
   have c4b0 : (a0_2 == a1_2) = false := beq_eq_false_iff_ne.mpr c4
   have c4b1 : (a0_2 != a1_2) = true := bne_iff_ne.mpr c4
   obtain rfl := Option.some.inj H
   go_enter Try.func39, Try.ntmps39
   go_wp2_with (first | ((with_reducible refine zy (N := 2) rfl ?_); refine zD ?hg (N := 2) ?hd (cs := #[.int .i64 a0_0, .slice A0_1 l0_1.length c0_1, .int .i64 a0_2, .int .i64 a0_3, .int .i64 a0_4, .slice A0_5 l0_5.length c0_5]) (t := 27) ?hr ?_; (case hd => rfl); (case hg => rfl); (case hr => (go_simp; done)); intro gb371 hg w30 hbox hb; replace HB := Aside0.mk (zr HB.1 hb); have qe := Aside0.mk hbox; clear hb hbox hg) | ((with_reducible refine zy (N := 3) rfl ?_); refine zD ?hg (N := 3) ?hd (cs := #[.int .i64 a1_0, .slice A1_1 l1_1.length c1_1, .int .i64 a1_2, .int .i64 a1_3, .int .i64 a1_4, .slice A1_5 l1_5.length c1_5]) (t := 27) ?hr ?_; (case hd => rfl); (case hg => rfl); (case hr => (go_simp; done)); intro gb372 hg w31 hbox hb; replace HB := Aside0.mk (zr HB.1 hb); have qj := Aside0.mk hbox; have qv := Aside0.mk ((by rw [hg]; exact Nat.ne_of_lt (zN (g := gb371) (o := .cells #[.int .i64 a0_0, .slice A0_1 l0_1.length c0_1, .int .i64 a0_2, .int .i64 a0_3, .int .i64 a0_4, .slice A0_5 l0_5.length c0_5] 27 (0, 0)) (by exact qe.1)) : gb371 ≠ gb372)); have qw := Aside0.mk ((by rw [hg]; exact Nat.ne_of_gt (zN (g := gb371) (o := .cells #[.int .i64 a0_0, .slice A0_1 l0_1.length c0_1, .int .i64 a0_2, .int .i64 a0_3, .int .i64 a0_4, .slice A0_5 l0_5.length c0_5] 27 (0, 0)) (by exact qe.1)) : gb372 ≠ gb371)); replace qe := Aside0.mk (zA (g := gb371) (o := .cells #[.int .i64 a0_0, .slice A0_1 l0_1.length c0_1, .int .i64 a0_2, .int .i64 a0_3, .int .i64 a0_4, .slice A0_5 l0_5.length c0_5] 27 (0, 0)) (by exact qe.1) hb); clear hb hbox hg; have hnb32 := qv.1; have hnc32 := qw.1; have hcz33_0 : w31.cell? ⟨gb371, 0, none⟩ = some (.int .i64 a0_0) := (zn qe.1 0).trans rfl; have hcz33_1 : w31.cell? ⟨gb371, 1, none⟩ = some (.slice A0_1 l0_1.length c0_1) := (zn qe.1 1).trans rfl; have hcz33_2 : w31.cell? ⟨gb371, 2, none⟩ = some (.int .i64 a0_2) := (zn qe.1 2).trans rfl; have hcz33_3 : w31.cell? ⟨gb371, 3, none⟩ = some (.int .i64 a0_3) := (zn qe.1 3).trans rfl; have hcz33_4 : w31.cell? ⟨gb371, 4, none⟩ = some (.int .i64 a0_4) := (zn qe.1 4).trans rfl; have hcz33_5 : w31.cell? ⟨gb371, 5, none⟩ = some (.slice A0_5 l0_5.length c0_5) := (zn qe.1 5).trans rfl; have hfz33_0 := zh qe.1 0; have hfz33_1 := zh qe.1 1; have hfz33_2 := zh qe.1 2; have hfz33_3 := zh qe.1 3; have hfz33_4 := zh qe.1 4; have hfz33_5 := zh qe.1 5; have hcz34_0 : w31.cell? ⟨gb372, 0, none⟩ = some (.int .i64 a1_0) := (zn qj.1 0).trans rfl; have hcz34_1 : w31.cell? ⟨gb372, 1, none⟩ = some (.slice A1_1 l1_1.length c1_1) := (zn qj.1 1).trans rfl; have hcz34_2 : w31.cell? ⟨gb372, 2, none⟩ = some (.int .i64 a1_2) := (zn qj.1 2).trans rfl; have hcz34_3 : w31.cell? ⟨gb372, 3, none⟩ = some (.int .i64 a1_3) := (zn qj.1 3).trans rfl; have hcz34_4 : w31.cell? ⟨gb372, 4, none⟩ = some (.int .i64 a1_4) := (zn qj.1 4).trans rfl; have hcz34_5 : w31.cell? ⟨gb372, 5, none⟩ = some (.slice A1_5 l1_5.length c1_5) := (zn qj.1 5).trans rfl; have hfz34_0 := zh qj.1 0; have hfz34_1 := zh qj.1 1; have hfz34_2 := zh qj.1 2; have hfz34_3 := zh qj.1 3; have hfz34_4 := zh qj.1 4; have hfz34_5 := zh qj.1 5))
   go_ret
   exact ⟨by rfl, by exact HB.1⟩
 ·
  rw [if_neg c3] at H
  have c3b0 : (a0_0 == a1_0) = false := beq_eq_false_iff_ne.mpr c3
  have c3b1 : (a0_0 != a1_0) = true := bne_iff_ne.mpr c3
  obtain rfl := Option.some.inj H
  go_enter Try.func39, Try.ntmps39
  go_wp2_with (first | ((with_reducible refine zy (N := 2) rfl ?_); refine zD ?hg (N := 2) ?hd (cs := #[.int .i64 a0_0, .slice A0_1 l0_1.length c0_1, .int .i64 a0_2, .int .i64 a0_3, .int .i64 a0_4, .slice A0_5 l0_5.length c0_5]) (t := 27) ?hr ?_; (case hd => rfl); (case hg => rfl); (case hr => (go_simp; done)); intro gb371 hg w35 hbox hb; replace HB := Aside0.mk (zr HB.1 hb); have qe := Aside0.mk hbox; clear hb hbox hg) | ((with_reducible refine zy (N := 3) rfl ?_); refine zD ?hg (N := 3) ?hd (cs := #[.int .i64 a1_0, .slice A1_1 l1_1.length c1_1, .int .i64 a1_2, .int .i64 a1_3, .int .i64 a1_4, .slice A1_5 l1_5.length c1_5]) (t := 27) ?hr ?_; (case hd => rfl); (case hg => rfl); (case hr => (go_simp; done)); intro gb372 hg w36 hbox hb; replace HB := Aside0.mk (zr HB.1 hb); have qj := Aside0.mk hbox; have qv := Aside0.mk ((by rw [hg]; exact Nat.ne_of_lt (zN (g := gb371) (o := .cells #[.int .i64 a0_0, .slice A0_1 l0_1.length c0_1, .int .i64 a0_2, .int .i64 a0_3, .int .i64 a0_4, .slice A0_5 l0_5.length c0_5] 27 (0, 0)) (by exact qe.1)) : gb371 ≠ gb372)); have qw := Aside0.mk ((by rw [hg]; exact Nat.ne_of_gt (zN (g := gb371) (o := .cells #[.int .i64 a0_0, .slice A0_1 l0_1.length c0_1, .int .i64 a0_2, .int .i64 a0_3, .int .i64 a0_4, .slice A0_5 l0_5.length c0_5] 27 (0, 0)) (by exact qe.1)) : gb372 ≠ gb371)); replace qe := Aside0.mk (zA (g := gb371) (o := .cells #[.int .i64 a0_0, .slice A0_1 l0_1.length c0_1, .int .i64 a0_2, .int .i64 a0_3, .int .i64 a0_4, .slice A0_5 l0_5.length c0_5] 27 (0, 0)) (by exact qe.1) hb); clear hb hbox hg; have hnb37 := qv.1; have hnc37 := qw.1; have hcz38_0 : w36.cell? ⟨gb371, 0, none⟩ = some (.int .i64 a0_0) := (zn qe.1 0).trans rfl; have hcz38_1 : w36.cell? ⟨gb371, 1, none⟩ = some (.slice A0_1 l0_1.length c0_1) := (zn qe.1 1).trans rfl; have hcz38_2 : w36.cell? ⟨gb371, 2, none⟩ = some (.int .i64 a0_2) := (zn qe.1 2).trans rfl; have hcz38_3 : w36.cell? ⟨gb371, 3, none⟩ = some (.int .i64 a0_3) := (zn qe.1 3).trans rfl; have hcz38_4 : w36.cell? ⟨gb371, 4, none⟩ = some (.int .i64 a0_4) := (zn qe.1 4).trans rfl; have hcz38_5 : w36.cell? ⟨gb371, 5, none⟩ = some (.slice A0_5 l0_5.length c0_5) := (zn qe.1 5).trans rfl; have hfz38_0 := zh qe.1 0; have hfz38_1 := zh qe.1 1; have hfz38_2 := zh qe.1 2; have hfz38_3 := zh qe.1 3; have hfz38_4 := zh qe.1 4; have hfz38_5 := zh qe.1 5; have hcz39_0 : w36.cell? ⟨gb372, 0, none⟩ = some (.int .i64 a1_0) := (zn qj.1 0).trans rfl; have hcz39_1 : w36.cell? ⟨gb372, 1, none⟩ = some (.slice A1_1 l1_1.length c1_1) := (zn qj.1 1).trans rfl; have hcz39_2 : w36.cell? ⟨gb372, 2, none⟩ = some (.int .i64 a1_2) := (zn qj.1 2).trans rfl; have hcz39_3 : w36.cell? ⟨gb372, 3, none⟩ = some (.int .i64 a1_3) := (zn qj.1 3).trans rfl; have hcz39_4 : w36.cell? ⟨gb372, 4, none⟩ = some (.int .i64 a1_4) := (zn qj.1 4).trans rfl; have hcz39_5 : w36.cell? ⟨gb372, 5, none⟩ = some (.slice A1_5 l1_5.length c1_5) := (zn qj.1 5).trans rfl; have hfz39_0 := zh qj.1 0; have hfz39_1 := zh qj.1 1; have hfz39_2 := zh qj.1 2; have hfz39_3 := zh qj.1 3; have hfz39_4 := zh qj.1 4; have hfz39_5 := zh qj.1 5))
  go_ret
  exact ⟨by rfl, by exact HB.1⟩

/-! ### spec_l1Cur_prefix: function 116 -/
def spec_l1Cur_prefix.f (s0_0 : List Int) (s0_1 : Int) (s0_2 : Int) : Option (Int × Int × Int × Int) := (spec_l1Cur_among.f s0_0 s0_1 s0_2 (([0, 1, 2, 3, 4, 8, 8, 16, 24, 31, 32] : List Int))).bind fun bt379 => ((spec_l1Cur_among.f s0_0 bt379.2.1 bt379.2.2 (([0, 167772160, 167837696, 3232235520, 2147483648, 4294967295, 3758096384, 167772165] : List Int))).bind fun bt386 => ((spec_l1Size.f 0 bt379.1).bind fun t389 => (if t389 = 0 then (none) else ((spec_l1Cur_pick.f s0_0 bt386.2.1 bt386.2.2 30).bind fun bt390 => (if bt390.1 = 0 then (some (wrap64 ((wrap64 (bt386.1 - (Int.tmod bt386.1 t389))) + 1), bt379.1, bt390.2.1, bt390.2.2)) else (if bt390.1 = 1 then ((spec_l1Cur_among.f s0_0 bt390.2.1 bt390.2.2 (([(-1), 33] : List Int))).bind fun bt396 => (some (wrap64 (bt386.1 - (Int.tmod bt386.1 t389)), bt396.1, bt396.2.1, bt396.2.2))) else (some (wrap64 (bt386.1 - (Int.tmod bt386.1 t389)), bt379.1, bt390.2.1, bt390.2.2))))))))
set_option maxHeartbeats 8000000 in
set_option maxRecDepth 100000 in
theorem spec_l1Cur_prefix.calls (g : Nat) (s0_0 : List Int) (s0_1 : Int) (s0_2 : Int) (r1 : Int) (r2 : Int) (r3 : Int) (r4 : Int) (w0 w : World) (hI : IsS102 w0 w g s0_0 s0_1 s0_2) (hB : Below w0.heap.size w0 w) (h : spec_l1Cur_prefix.f s0_0 s0_1 s0_2 = some (r1, r2, r3, r4)) :
  Calls Try.prog 116 #[.pointer (some ⟨g, 0, none⟩)] w fun e w' => e = .returned (.agg #[.int .i64 r1, .int .i64 r2]) ∧ IsS102 w0 w' g s0_0 r3 r4 ∧ Below w0.heap.size w0 w' ∧ KeepBut w w' g none := by
 have hu35 := Try.underlying35
 have HI0 := Aside0.mk hI
 have HK := Aside0.mk (KeepBut.refl w g none)
 have HL := Aside0.mk hB.size
 clear hI
 have HW0 := Aside0.mk hB.size
 have HB := Aside0.mk hB
 clear hB
 have H : ((spec_l1Cur_among.f s0_0 s0_1 s0_2 (([0, 1, 2, 3, 4, 8, 8, 16, 24, 31, 32] : List Int))).bind fun bt379 => ((spec_l1Cur_among.f s0_0 bt379.2.1 bt379.2.2 (([0, 167772160, 167837696, 3232235520, 2147483648, 4294967295, 3758096384, 167772165] : List Int))).bind fun bt386 => ((spec_l1Size.f 0 bt379.1).bind fun t389 => (if t389 = 0 then (none) else ((spec_l1Cur_pick.f s0_0 bt386.2.1 bt386.2.2 30).bind fun bt390 => (if bt390.1 = 0 then (some (wrap64 ((wrap64 (bt386.1 - (Int.tmod bt386.1 t389))) + 1), bt379.1, bt390.2.1, bt390.2.2)) else (if bt390.1 = 1 then ((spec_l1Cur_among.f s0_0 bt390.2.1 bt390.2.2 (([(-1), 33] : List Int))).bind fun bt396 => (some (wrap64 (bt386.1 - (Int.tmod bt386.1 t389)), bt396.1, bt396.2.1, bt396.2.2))) else (some (wrap64 (bt386.1 - (Int.tmod bt386.1 t389)), bt379.1, bt390.2.1, bt390.2.2))))))))) = some (r1, r2, r3, r4) := h
 clear h
 obtain ⟨y376, hy376⟩ : ∃ y_ : List Int, y_ = (([0, 1, 2, 3, 4, 8, 8, 16, 24, 31, 32] : List Int)) := ⟨_, rfl⟩
 replace H : ((spec_l1Cur_among.f s0_0 s0_1 s0_2 y376).bind fun bt379 => ((spec_l1Cur_among.f s0_0 bt379.2.1 bt379.2.2 (([0, 167772160, 167837696, 3232235520, 2147483648, 4294967295, 3758096384, 167772165] : List Int))).bind fun bt386 => ((spec_l1Size.f 0 bt379.1).bind fun t389 => (if t389 = 0 then (none) else ((spec_l1Cur_pick.f s0_0 bt386.2.1 bt386.2.2 30).bind fun bt390 => (if bt390.1 = 0 then (some (wrap64 ((wrap64 (bt386.1 - (Int.tmod bt386.1 t389))) + 1), bt379.1, bt390.2.1, bt390.2.2)) else (if bt390.1 = 1 then ((spec_l1Cur_among.f s0_0 bt390.2.1 bt390.2.2 (([(-1), 33] : List Int))).bind fun bt396 => (some (wrap64 (bt386.1 - (Int.tmod bt386.1 t389)), bt396.1, bt396.2.1, bt396.2.2))) else (some (wrap64 (bt386.1 - (Int.tmod bt386.1 t389)), bt379.1, bt390.2.1, bt390.2.2))))))))) = some (r1, r2, r3, r4) := by (rw [hy376]; with_reducible exact H)
 have Ny376 := Aside0.mk hy376
 clear hy376
 replace H := Option.bind_eq_some_iff.mp H
 obtain ⟨⟨t379, t380, t381⟩, A20, H⟩ := H
 replace H : ((spec_l1Cur_among.f s0_0 t380 t381 (([0, 167772160, 167837696, 3232235520, 2147483648, 4294967295, 3758096384, 167772165] : List Int))).bind fun bt386 => ((spec_l1Size.f 0 t379).bind fun t389 => (if t389 = 0 then (none) else ((spec_l1Cur_pick.f s0_0 bt386.2.1 bt386.2.2 30).bind fun bt390 => (if bt390.1 = 0 then (some (wrap64 ((wrap64 (bt386.1 - (Int.tmod bt386.1 t389))) + 1), t379, bt390.2.1, bt390.2.2)) else (if bt390.1 = 1 then ((spec_l1Cur_among.f s0_0 bt390.2.1 bt390.2.2 (([(-1), 33] : List Int))).bind fun bt396 => (some (wrap64 (bt386.1 - (Int.tmod bt386.1 t389)), bt396.1, bt396.2.1, bt396.2.2))) else (some (wrap64 (bt386.1 - (Int.tmod bt386.1 t389)), t379, bt390.2.1, bt390.2.2)))))))) = some (r1, r2, r3, r4) := H
 have A2 := Aside0.mk A20
 clear A20
 obtain ⟨y383, hy383⟩ : ∃ y_ : List Int, y_ = (([0, 167772160, 167837696, 3232235520, 2147483648, 4294967295, 3758096384, 167772165] : List Int)) := ⟨_, rfl⟩
 replace H : ((spec_l1Cur_among.f s0_0 t380 t381 y383).bind fun bt386 => ((spec_l1Size.f 0 t379).bind fun t389 => (if t389 = 0 then (none) else ((spec_l1Cur_pick.f s0_0 bt386.2.1 bt386.2.2 30).bind fun bt390 => (if bt390.1 = 0 then (some (wrap64 ((wrap64 (bt386.1 - (Int.tmod bt386.1 t389))) + 1), t379, bt390.2.1, bt390.2.2)) else (if bt390.1 = 1 then ((spec_l1Cur_among.f s0_0 bt390.2.1 bt390.2.2 (([(-1), 33] : List Int))).bind fun bt396 => (some (wrap64 (bt386.1 - (Int.tmod bt386.1 t389)), bt396.1, bt396.2.1, bt396.2.2))) else (some (wrap64 (bt386.1 - (Int.tmod bt386.1 t389)), t379, bt390.2.1, bt390.2.2)))))))) = some (r1, r2, r3, r4) := by (rw [hy383]; with_reducible exact H)
 have Ny383 := Aside0.mk hy383
 clear hy383
 replace H := Option.bind_eq_some_iff.mp H
 obtain ⟨⟨t386, t387, t388⟩, A30, H⟩ := H
 replace H : ((spec_l1Size.f 0 t379).bind fun t389 => (if t389 = 0 then (none) else ((spec_l1Cur_pick.f s0_0 t387 t388 30).bind fun bt390 => (if bt390.1 = 0 then (some (wrap64 ((wrap64 (t386 - (Int.tmod t386 t389))) + 1), t379, bt390.2.1, bt390.2.2)) else (if bt390.1 = 1 then ((spec_l1Cur_among.f s0_0 bt390.2.1 bt390.2.2 (([(-1), 33] : List Int))).bind fun bt396 => (some (wrap64 (t386 - (Int.tmod t386 t389)), bt396.1, bt396.2.1, bt396.2.2))) else (some (wrap64 (t386 - (Int.tmod t386 t389)), t379, bt390.2.1, bt390.2.2))))))) = some (r1, r2, r3, r4) := H
 have A3 := Aside0.mk A30
 clear A30
 replace H := Option.bind_eq_some_iff.mp H
 obtain ⟨t389, A40, H⟩ := H
 replace H : (if t389 = 0 then (none) else ((spec_l1Cur_pick.f s0_0 t387 t388 30).bind fun bt390 => (if bt390.1 = 0 then (some (wrap64 ((wrap64 (t386 - (Int.tmod t386 t389))) + 1), t379, bt390.2.1, bt390.2.2)) else (if bt390.1 = 1 then ((spec_l1Cur_among.f s0_0 bt390.2.1 bt390.2.2 (([(-1), 33] : List Int))).bind fun bt396 => (some (wrap64 (t386 - (Int.tmod t386 t389)), bt396.1, bt396.2.1, bt396.2.2))) else (some (wrap64 (t386 - (Int.tmod t386 t389)), t379, bt390.2.1, bt390.2.2)))))) = some (r1, r2, r3, r4) := H
 have A4 := Aside0.mk A40
 clear A40
 by_cases c5 : t389 = 0
 ·
  rw [if_pos c5] at H
  exact absurd H (by simp)
 ·
  rw [if_neg c5] at H
  have c5b0 : (t389 == 0) = false := beq_eq_false_iff_ne.mpr c5
  have c5b1 : (t389 != 0) = true := bne_iff_ne.mpr c5
  replace H := Option.bind_eq_some_iff.mp H
  obtain ⟨⟨t390, t391, t392⟩, A60, H⟩ := H
  replace H : (if t390 = 0 then (some (wrap64 ((wrap64 (t386 - (Int.tmod t386 t389))) + 1), t379, t391, t392)) else (if t390 = 1 then ((spec_l1Cur_among.f s0_0 t391 t392 (([(-1), 33] : List Int))).bind fun bt396 => (some (wrap64 (t386 - (Int.tmod t386 t389)), bt396.1, bt396.2.1, bt396.2.2))) else (some (wrap64 (t386 - (Int.tmod t386 t389)), t379, t391, t392)))) = some (r1, r2, r3, r4) := H
  have A6 := Aside0.mk A60
  clear A60
  by_cases c7 : t390 = 0
  ·
   rw [if_pos c7] at H
   have c7b0 : (t390 == 0) = true := beq_iff_eq.mpr c7
   have c7b1 : (t390 != 0) = false := bne_eq_false_iff_eq.mpr c7
   clear c7
   simp only [Option.some.injEq, Prod.mk.injEq] at H
   obtain ⟨rfl, rfl, rfl, rfl⟩ := H
   go_enter Try.func116, Try.ntmps116
   go_wp2_with (first | ((with_reducible refine zy (N := 2) rfl ?_); refine zD ?hg (N := 2) ?hd (cs := #[.int .i64 0, .int .i64 0]) (t := 35) ?hr ?_; (case hd => rfl); (case hg => rfl); (case hr => (go_simp; done)); intro gb375 hg w8 hbox hb; replace HB := Aside0.mk (zr HB.1 hb); have qh := Aside0.mk hbox; have qn := Aside0.mk ((by rw [hg]; exact (zx (w := w) (g := g) (row := none) HK.1) : w.heap.size ≤ gb375)); have qs := Aside0.mk ((Nat.le_trans HW0.1 (by rw [hg]; exact (zx (w := w) (g := g) (row := none) HK.1) : w.heap.size ≤ gb375) : w0.heap.size ≤ gb375)); replace HK := Aside0.mk (zl HK.1 (zp hb g none) (.inl rfl)); have qg := Aside0.mk ((by rw [hg]; exact Nat.ne_of_lt (IsS102.lt (show IsS102 w0 _ g s0_0 s0_1 s0_2 from by exact HI0.1)) : g ≠ gb375)); have qx := Aside0.mk ((by rw [hg]; exact Nat.ne_of_gt (IsS102.lt (show IsS102 w0 _ g s0_0 s0_1 s0_2 from by exact HI0.1)) : gb375 ≠ g)); replace HI0 := Aside0.mk (IsS102.below HI0.1 hb); clear hb hbox hg) | ((with_reducible refine zy (N := 7) rfl ?_); refine zP (zs .i64) _ 3 ?hg (N := 7) ?hd (xs := ([0, 1, 2, 3, 4, 8, 8, 16, 24, 31, 32] : List Int)) (inner := [.int .i64 0, .int .i64 1, .int .i64 2, .int .i64 3, .int .i64 4, .int .i64 8, .int .i64 8, .int .i64 16, .int .i64 24, .int .i64 31, .int .i64 32]) (ok := fun _ => True) (okp := fun _ => True) ?hr ?hp (fun _ hk => hk) trivial (Below.refl _ _) (Nat.le_refl _) (by simp) ?_; (case hd => rfl); (case hg => rfl); (case hr => (go_simp; done)); (case hp => exact (zq (show Kd.M (zs .i64) _ _ _ 0 [.int .i64 0] from rfl) (zq (show Kd.M (zs .i64) _ _ _ 1 [.int .i64 1] from rfl) (zq (show Kd.M (zs .i64) _ _ _ 2 [.int .i64 2] from rfl) (zq (show Kd.M (zs .i64) _ _ _ 3 [.int .i64 3] from rfl) (zq (show Kd.M (zs .i64) _ _ _ 4 [.int .i64 4] from rfl) (zq (show Kd.M (zs .i64) _ _ _ 8 [.int .i64 8] from rfl) (zq (show Kd.M (zs .i64) _ _ _ 8 [.int .i64 8] from rfl) (zq (show Kd.M (zs .i64) _ _ _ 16 [.int .i64 16] from rfl) (zq (show Kd.M (zs .i64) _ _ _ 24 [.int .i64 24] from rfl) (zq (show Kd.M (zs .i64) _ _ _ 31 [.int .i64 31] from rfl) (zq (show Kd.M (zs .i64) _ _ _ 32 [.int .i64 32] from rfl) (zI _ _))))))))))))); intro v377 w9 ho10 hb hg_ hnew_; clear hg_ hnew_; (rw [← Ny376.1] at ho10); have qi := Aside0.mk (zG ho10 (zx (w := w) (g := g) (row := none) HK.1)); replace HI0 := Aside0.mk (IsS102.below HI0.1 hb); replace qh := Aside0.mk (zA (g := gb375) (o := .cells #[.int .i64 0, .int .i64 0] 35 (0, 0)) (by exact qh.1) hb); replace HK := Aside0.mk (zl HK.1 (zp hb g none) (.inl rfl)); replace HB := Aside0.mk (zr HB.1 hb); clear hb ho10; obtain ⟨Ao11, co11, eo11⟩ := zZ qi.1; subst eo11) | ((with_reducible refine zE (f := 90) rfl ?_); refine zR (some 8) rfl rfl Try.func90 (by kernel_rfl) rfl #[.pointer (some ⟨g, 0, none⟩), .slice Ao11 y376.length co11] rfl (by (try simp only [List.map_toArray, List.map_cons, List.map_nil]); rfl) ?_; (with_reducible refine (spec_l1Cur_among.calls g s0_0 s0_1 s0_2 _ _ y376 t379 t380 t381 w0 _ ?side1 ?side2 ?side3 ?side4 ?side5 A2.1).mono ?_); (case side1 => repeat (with_reducible exact HI0.1)); (case side2 => repeat (with_reducible exact HB.1)); (case side3 => repeat (exact (zH qi.1).2.2)); (case side4 => exact (zH qi.1).2.1); (case side5 => exact qb (IsS102.own_ne HI0.1 qi.1 (by decide))); rintro e w12 ⟨rfl, hi, hb, hk⟩; refine ⟨_, rfl, ?_⟩; replace qh := Aside0.mk (zC hk (g' := gb375) (o := .cells #[.int .i64 0, .int .i64 0] 35 (0, 0)) (by exact qh.1) qx.1 (by simp)); replace qi := Aside0.mk (zw (zB (IsS102.apart (show IsS102 w0 _ g s0_0 s0_1 s0_2 from by exact HI0.1) (by exact qi.1) (by decide)) hk (fun _ h => h.2)) (fun _ h => h.1)); replace HK := Aside0.mk (zl HK.1 hk (.inl rfl)); replace HB := Aside0.mk hb; replace HI0 := Aside0.mk hi; (try clear hb); (try clear hb2); (try clear hk); (try clear hi)) | ((with_reducible refine zy (N := 4) rfl ?_); refine zD ?hg (N := 4) ?hd (cs := #[.int .i64 0, .int .i64 0]) (t := 35) ?hr ?_; (case hd => rfl); (case hg => rfl); (case hr => (go_simp; done)); intro gb382 hg w13 hbox hb; replace qi := Aside0.mk (zX (by exact qi.1) hb); replace HB := Aside0.mk (zr HB.1 hb); have qf := Aside0.mk hbox; have qz := Aside0.mk ((by rw [hg]; exact (zx (w := w) (g := g) (row := none) HK.1) : w.heap.size ≤ gb382)); have qB := Aside0.mk ((Nat.le_trans HW0.1 (by rw [hg]; exact (zx (w := w) (g := g) (row := none) HK.1) : w.heap.size ≤ gb382) : w0.heap.size ≤ gb382)); replace HK := Aside0.mk (zl HK.1 (zp hb g none) (.inl rfl)); have qo := Aside0.mk ((by rw [hg]; exact Nat.ne_of_lt (zN (g := gb375) (o := .cells #[.int .i64 0, .int .i64 0] 35 (0, 0)) (by exact qh.1)) : gb375 ≠ gb382)); have qF := Aside0.mk ((by rw [hg]; exact Nat.ne_of_gt (zN (g := gb375) (o := .cells #[.int .i64 0, .int .i64 0] 35 (0, 0)) (by exact qh.1)) : gb382 ≠ gb375)); replace qh := Aside0.mk (zA (g := gb375) (o := .cells #[.int .i64 0, .int .i64 0] 35 (0, 0)) (by exact qh.1) hb); have qk := Aside0.mk ((by rw [hg]; exact Nat.ne_of_lt (IsS102.lt (show IsS102 w0 _ g s0_0 t380 t381 from by exact HI0.1)) : g ≠ gb382)); have qA := Aside0.mk ((by rw [hg]; exact Nat.ne_of_gt (IsS102.lt (show IsS102 w0 _ g s0_0 t380 t381 from by exact HI0.1)) : gb382 ≠ g)); replace HI0 := Aside0.mk (IsS102.below HI0.1 hb); clear hb hbox hg; have hnb14 := qF.1; have hnc14 := qo.1; have hnb15 := qA.1; have hnc15 := qk.1; have hcz16_0 : w13.cell? ⟨gb382, 0, none⟩ = some (.int .i64 0) := (zn qf.1 0).trans rfl; have hcz16_1 : w13.cell? ⟨gb382, 1, none⟩ = some (.int .i64 0) := (zn qf.1 1).trans rfl; have hfz16_0 := zh qf.1 0; have hfz16_1 := zh qf.1 1) | ((with_reducible refine zy (N := 12) rfl ?_); refine zP (zs .i64) _ 3 ?hg (N := 12) ?hd (xs := ([0, 167772160, 167837696, 3232235520, 2147483648, 4294967295, 3758096384, 167772165] : List Int)) (inner := [.int .i64 0, .int .i64 167772160, .int .i64 167837696, .int .i64 3232235520, .int .i64 2147483648, .int .i64 4294967295, .int .i64 3758096384, .int .i64 167772165]) (ok := fun _ => True) (okp := fun _ => True) ?hr ?hp (fun _ hk => hk) trivial (Below.refl _ _) (Nat.le_refl _) (by simp) ?_; (case hd => rfl); (case hg => rfl); (case hr => (go_simp; done)); (case hp => exact (zq (show Kd.M (zs .i64) _ _ _ 0 [.int .i64 0] from rfl) (zq (show Kd.M (zs .i64) _ _ _ 167772160 [.int .i64 167772160] from rfl) (zq (show Kd.M (zs .i64) _ _ _ 167837696 [.int .i64 167837696] from rfl) (zq (show Kd.M (zs .i64) _ _ _ 3232235520 [.int .i64 3232235520] from rfl) (zq (show Kd.M (zs .i64) _ _ _ 2147483648 [.int .i64 2147483648] from rfl) (zq (show Kd.M (zs .i64) _ _ _ 4294967295 [.int .i64 4294967295] from rfl) (zq (show Kd.M (zs .i64) _ _ _ 3758096384 [.int .i64 3758096384] from rfl) (zq (show Kd.M (zs .i64) _ _ _ 167772165 [.int .i64 167772165] from rfl) (zI _ _)))))))))); intro v384 w17 ho18 hb hg_ hnew_; clear hg_ hnew_; (rw [← Ny383.1] at ho18); have ql := Aside0.mk (zG (Kd.R_new' ho18 (Kd.R_lt (by exact (zw (zL (p := ⟨gb382, 1, none⟩) (zL (p := ⟨gb382, 0, none⟩) (zO qi.1 qf.1 (by decide)) (fun _ hk => hk.2) (.int .i64 0)) (fun _ hk => hk.2) (.int .i64 t379)) (fun _ h_ => h_.1))))) (zx (w := w) (g := g) (row := none) (by repeat ((with_reducible first | exact HK.1 | refine zo ?_ qz.1 _))))); replace qi := Aside0.mk (Kd.R_elder' (by exact (zw (zL (p := ⟨gb382, 1, none⟩) (zL (p := ⟨gb382, 0, none⟩) (zO qi.1 qf.1 (by decide)) (fun _ hk => hk.2) (.int .i64 0)) (fun _ hk => hk.2) (.int .i64 t379)) (fun _ h_ => h_.1))) (Kd.R_base ho18) hb); replace HI0 := Aside0.mk (IsS102.below (show IsS102 w0 ((w13.setCell ⟨gb382, 0, none⟩ (.int .i64 0)).setCell ⟨gb382, 1, none⟩ (.int .i64 t379)) g s0_0 t380 t381 from by repeat ((with_reducible first | exact HI0.1 | refine IsS102.far ?_ qk.1 _))) hb); replace qh := Aside0.mk (zA (g := gb375) (o := .cells #[.int .i64 0, .int .i64 0] 35 (0, 0)) (by refine zS ?_ qo.1 _; refine zS ?_ qo.1 _; exact qh.1) hb); replace qf := Aside0.mk (zA (g := gb382) (o := .cells #[.int .i64 0, .int .i64 t379] 35 (0, 0)) (by refine zF (cs := #[.int .i64 0, .int .i64 0]) ?_ 1 _ rfl; refine zF (cs := #[.int .i64 0, .int .i64 0]) ?_ 0 _ rfl; exact qf.1) hb); replace HK := Aside0.mk (zl (by repeat ((with_reducible first | exact HK.1 | refine zo ?_ qz.1 _))) (zp hb g none) (.inl rfl)); replace HB := Aside0.mk (zr (by repeat ((with_reducible first | exact HB.1 | refine zb ?_ qB.1))) hb); clear hb ho18; obtain ⟨Ao19, co19, eo19⟩ := zZ ql.1; subst eo19) | ((with_reducible refine zE (f := 90) rfl ?_); refine zR (some 13) rfl rfl Try.func90 (by kernel_rfl) rfl #[.pointer (some ⟨g, 0, none⟩), .slice Ao19 y383.length co19] rfl (by (try simp only [List.map_toArray, List.map_cons, List.map_nil]); rfl) ?_; (with_reducible refine (spec_l1Cur_among.calls g s0_0 t380 t381 _ _ y383 t386 t387 t388 w0 _ ?side1 ?side2 ?side3 ?side4 ?side5 A3.1).mono ?_); (case side1 => repeat (with_reducible exact HI0.1)); (case side2 => repeat (with_reducible exact HB.1)); (case side3 => repeat (exact (zH ql.1).2.2)); (case side4 => exact (zH ql.1).2.1); (case side5 => exact qb (IsS102.own_ne HI0.1 ql.1 (by decide))); rintro e w20 ⟨rfl, hi, hb, hk⟩; refine ⟨_, rfl, ?_⟩; replace qh := Aside0.mk (zC hk (g' := gb375) (o := .cells #[.int .i64 0, .int .i64 0] 35 (0, 0)) (by exact qh.1) qx.1 (by simp)); replace qi := Aside0.mk (zw (zB (IsS102.apart (show IsS102 w0 _ g s0_0 t380 t381 from by exact HI0.1) (by exact qi.1) (by decide)) hk (fun _ h => h.2)) (fun _ h => h.1)); replace qf := Aside0.mk (zC hk (g' := gb382) (o := .cells #[.int .i64 0, .int .i64 t379] 35 (0, 0)) (by exact qf.1) qA.1 (by simp)); replace ql := Aside0.mk (zw (zB (IsS102.apart (show IsS102 w0 _ g s0_0 t380 t381 from by exact HI0.1) (by exact ql.1) (by decide)) hk (fun _ h => h.2)) (fun _ h => h.1)); replace HK := Aside0.mk (zl HK.1 hk (.inl rfl)); replace HB := Aside0.mk hb; replace HI0 := Aside0.mk hi; (try clear hb); (try clear hb2); (try clear hk); (try clear hi); have hcz21_0 : w20.cell? ⟨gb382, 0, none⟩ = some (.int .i64 0) := (zn qf.1 0).trans rfl; have hcz21_1 : w20.cell? ⟨gb382, 1, none⟩ = some (.int .i64 t379) := (zn qf.1 1).trans rfl; have hfz21_0 := zh qf.1 0; have hfz21_1 := zh qf.1 1) | ((with_reducible refine zE (f := 101) rfl ?_); refine zR (some 17) rfl rfl Try.func101 (by kernel_rfl) rfl #[.agg #[.int .i64 0, .int .i64 t379]] rfl (by (try simp only [List.map_toArray, List.map_cons, List.map_nil]); rfl) ?_; (with_reducible refine (spec_l1Size.calls 0 t379 t389 _ A4.1).mono ?_); rintro e w22 ⟨rfl, hb⟩; refine ⟨_, rfl, ?_⟩; replace qi := Aside0.mk (zX (by exact qi.1) hb); replace ql := Aside0.mk (zX (by exact ql.1) hb); replace HI0 := Aside0.mk (IsS102.below HI0.1 hb); replace qh := Aside0.mk (zA (g := gb375) (o := .cells #[.int .i64 0, .int .i64 0] 35 (0, 0)) (by exact qh.1) hb); replace qf := Aside0.mk (zA (g := gb382) (o := .cells #[.int .i64 0, .int .i64 t379] 35 (0, 0)) (by exact qf.1) hb); replace HK := Aside0.mk (zl HK.1 (zp hb g none) (.inl rfl)); replace HB := Aside0.mk (zr HB.1 hb); (try clear hb); (try clear hb2); (try clear hk); (try clear hi); have hcz23_0 : w22.cell? ⟨gb382, 0, none⟩ = some (.int .i64 0) := (zn qf.1 0).trans rfl; have hcz23_1 : w22.cell? ⟨gb382, 1, none⟩ = some (.int .i64 t379) := (zn qf.1 1).trans rfl; have hfz23_0 := zh qf.1 0; have hfz23_1 := zh qf.1 1) | ((with_reducible refine zE (f := 92) rfl ?_); refine zR (some 22) rfl rfl Try.func92 (by kernel_rfl) rfl #[.pointer (some ⟨g, 0, none⟩), .int .i64 30] rfl (by (try simp only [List.map_toArray, List.map_cons, List.map_nil]); rfl) ?_; (with_reducible refine (spec_l1Cur_pick.calls g s0_0 t387 t388 30 t390 t391 t392 w0 _ ?side1 ?side2 A6.1).mono ?_); (case side1 => repeat ((with_reducible first | exact HI0.1 | refine IsS102.far ?_ qk.1 _))); (case side2 => repeat ((with_reducible first | exact HB.1 | refine zb ?_ qB.1))); rintro e w24 ⟨rfl, hi, hb, hk⟩; refine ⟨_, rfl, ?_⟩; replace qh := Aside0.mk (zC hk (g' := gb375) (o := .cells #[.int .i64 0, .int .i64 0] 35 (0, 0)) (by refine zS ?_ qo.1 _; exact qh.1) qx.1 (by simp)); replace qi := Aside0.mk (zw (zB (IsS102.apart (show IsS102 w0 _ g s0_0 t387 t388 from by repeat ((with_reducible first | exact HI0.1 | refine IsS102.far ?_ qk.1 _))) (by exact (zw (zL (p := ⟨gb382, 0, none⟩) (zO qi.1 qf.1 (by decide)) (fun _ hk => hk.2) (.int .i64 (wrap64 (t386 - (Int.tmod t386 t389))))) (fun _ h_ => h_.1))) (by decide)) hk (fun _ h => h.2)) (fun _ h => h.1)); replace ql := Aside0.mk (zw (zB (IsS102.apart (show IsS102 w0 _ g s0_0 t387 t388 from by repeat ((with_reducible first | exact HI0.1 | refine IsS102.far ?_ qk.1 _))) (by exact (zw (zL (p := ⟨gb382, 0, none⟩) (zO ql.1 qf.1 (by decide)) (fun _ hk => hk.2) (.int .i64 (wrap64 (t386 - (Int.tmod t386 t389))))) (fun _ h_ => h_.1))) (by decide)) hk (fun _ h => h.2)) (fun _ h => h.1)); replace qf := Aside0.mk (zC hk (g' := gb382) (o := .cells #[.int .i64 (wrap64 (t386 - (Int.tmod t386 t389))), .int .i64 t379] 35 (0, 0)) (by refine zF (cs := #[.int .i64 0, .int .i64 t379]) ?_ 0 _ rfl; exact qf.1) qA.1 (by simp)); replace HK := Aside0.mk (zl (by repeat ((with_reducible first | exact HK.1 | refine zo ?_ qz.1 _))) hk (.inl rfl)); replace HB := Aside0.mk hb; replace HI0 := Aside0.mk hi; (try clear hb); (try clear hb2); (try clear hk); (try clear hi); have hcz25_0 : w24.cell? ⟨gb382, 0, none⟩ = some (.int .i64 (wrap64 (t386 - (Int.tmod t386 t389)))) := (zn qf.1 0).trans rfl; have hcz25_1 : w24.cell? ⟨gb382, 1, none⟩ = some (.int .i64 t379) := (zn qf.1 1).trans rfl; have hfz25_0 := zh qf.1 0; have hfz25_1 := zh qf.1 1; have hnb26 := qx.1; have hnc26 := qg.1; have hcz27_0 : w24.cell? ⟨gb375, 0, none⟩ = some (.int .i64 0) := (zn qh.1 0).trans rfl; have hcz27_1 : w24.cell? ⟨gb375, 1, none⟩ = some (.int .i64 0) := (zn qh.1 1).trans rfl; have hfz27_0 := zh qh.1 0; have hfz27_1 := zh qh.1 1))
   refine bodyPost_ret (results_cell_row rfl _ _ gb375 35 #[.int .i64 (wrap64 ((wrap64 (t386 - (Int.tmod t386 t389))) + 1)), .int .i64 t379] (0, 0) _ rfl (by refine zF (cs := #[.int .i64 (wrap64 ((wrap64 (t386 - (Int.tmod t386 t389))) + 1)), .int .i64 0]) ?_ 1 _ rfl; refine zF (cs := #[.int .i64 0, .int .i64 0]) ?_ 0 _ rfl; refine zS ?_ qo.1 _; exact qh.1) Try.underlying35 rfl (by kernel_rfl)) rfl ?_
   exact ⟨by rfl, by repeat ((with_reducible first | exact HI0.1 | refine IsS102.far ?_ qg.1 _ | refine IsS102.far ?_ qk.1 _)), by repeat ((with_reducible first | exact HB.1 | refine zb ?_ qs.1 | refine zb ?_ qB.1)), by repeat ((with_reducible first | exact HK.1 | refine zo ?_ qn.1 _ | refine zo ?_ qz.1 _))⟩
  ·
   rw [if_neg c7] at H
   have c7b0 : (t390 == 0) = false := beq_eq_false_iff_ne.mpr c7
   have c7b1 : (t390 != 0) = true := bne_iff_ne.mpr c7
   by_cases c28 : t390 = 1
   ·
    rw [if_pos c28] at H
    have c28b0 : (t390 == 1) = true := beq_iff_eq.mpr c28
    have c28b1 : (t390 != 1) = false := bne_eq_false_iff_eq.mpr c28
    clear c28
    obtain ⟨y393, hy393⟩ : ∃ y_ : List Int, y_ = (([(-1), 33] : List Int)) := ⟨_, rfl⟩
    replace H : ((spec_l1Cur_among.f s0_0 t391 t392 y393).bind fun bt396 => (some (wrap64 (t386 - (Int.tmod t386 t389)), bt396.1, bt396.2.1, bt396.2.2))) = some (r1, r2, r3, r4) := by (rw [hy393]; with_reducible exact H)
    have Ny393 := Aside0.mk hy393
    clear hy393
    replace H := Option.bind_eq_some_iff.mp H
    obtain ⟨⟨t396, t397, t398⟩, A290, H⟩ := H
    replace H : (some (wrap64 (t386 - (Int.tmod t386 t389)), t396, t397, t398)) = some (r1, r2, r3, r4) := H
    have A29 := Aside0.mk A290
    clear A290
    simp only [Option.some.injEq, Prod.mk.injEq] at H
    obtain ⟨rfl, rfl, rfl, rfl⟩ := H
    go_enter Try.func116, Try.ntmps116
    go_wp2_with (first | ((with_reducible refine zy (N := 2) rfl ?_); refine zD ?hg (N := 2) ?hd (cs := #[.int .i64 0, .int .i64 0]) (t := 35) ?hr ?_; (case hd => rfl); (case hg => rfl); (case hr => (go_simp; done)); intro gb375 hg w30 hbox hb; replace HB := Aside0.mk (zr HB.1 hb); have qh := Aside0.mk hbox; have qn := Aside0.mk ((by rw [hg]; exact (zx (w := w) (g := g) (row := none) HK.1) : w.heap.size ≤ gb375)); have qs := Aside0.mk ((Nat.le_trans HW0.1 (by rw [hg]; exact (zx (w := w) (g := g) (row := none) HK.1) : w.heap.size ≤ gb375) : w0.heap.size ≤ gb375)); replace HK := Aside0.mk (zl HK.1 (zp hb g none) (.inl rfl)); have qg := Aside0.mk ((by rw [hg]; exact Nat.ne_of_lt (IsS102.lt (show IsS102 w0 _ g s0_0 s0_1 s0_2 from by exact HI0.1)) : g ≠ gb375)); have qx := Aside0.mk ((by rw [hg]; exact Nat.ne_of_gt (IsS102.lt (show IsS102 w0 _ g s0_0 s0_1 s0_2 from by exact HI0.1)) : gb375 ≠ g)); replace HI0 := Aside0.mk (IsS102.below HI0.1 hb); clear hb hbox hg) | ((with_reducible refine zy (N := 7) rfl ?_); refine zP (zs .i64) _ 3 ?hg (N := 7) ?hd (xs := ([0, 1, 2, 3, 4, 8, 8, 16, 24, 31, 32] : List Int)) (inner := [.int .i64 0, .int .i64 1, .int .i64 2, .int .i64 3, .int .i64 4, .int .i64 8, .int .i64 8, .int .i64 16, .int .i64 24, .int .i64 31, .int .i64 32]) (ok := fun _ => True) (okp := fun _ => True) ?hr ?hp (fun _ hk => hk) trivial (Below.refl _ _) (Nat.le_refl _) (by simp) ?_; (case hd => rfl); (case hg => rfl); (case hr => (go_simp; done)); (case hp => exact (zq (show Kd.M (zs .i64) _ _ _ 0 [.int .i64 0] from rfl) (zq (show Kd.M (zs .i64) _ _ _ 1 [.int .i64 1] from rfl) (zq (show Kd.M (zs .i64) _ _ _ 2 [.int .i64 2] from rfl) (zq (show Kd.M (zs .i64) _ _ _ 3 [.int .i64 3] from rfl) (zq (show Kd.M (zs .i64) _ _ _ 4 [.int .i64 4] from rfl) (zq (show Kd.M (zs .i64) _ _ _ 8 [.int .i64 8] from rfl) (zq (show Kd.M (zs .i64) _ _ _ 8 [.int .i64 8] from rfl) (zq (show Kd.M (zs .i64) _ _ _ 16 [.int .i64 16] from rfl) (zq (show Kd.M (zs .i64) _ _ _ 24 [.int .i64 24] from rfl) (zq (show Kd.M (zs .i64) _ _ _ 31 [.int .i64 31] from rfl) (zq (show Kd.M (zs .i64) _ _ _ 32 [.int .i64 32] from rfl) (zI _ _))))))))))))); intro v377 w31 ho32 hb hg_ hnew_; clear hg_ hnew_; (rw [← Ny376.1] at ho32); have qi := Aside0.mk (zG ho32 (zx (w := w) (g := g) (row := none) HK.1)); replace HI0 := Aside0.mk (IsS102.below HI0.1 hb); replace qh := Aside0.mk (zA (g := gb375) (o := .cells #[.int .i64 0, .int .i64 0] 35 (0, 0)) (by exact qh.1) hb); replace HK := Aside0.mk (zl HK.1 (zp hb g none) (.inl rfl)); replace HB := Aside0.mk (zr HB.1 hb); clear hb ho32; obtain ⟨Ao33, co33, eo33⟩ := zZ qi.1; subst eo33) | ((with_reducible refine zE (f := 90) rfl ?_); refine zR (some 8) rfl rfl Try.func90 (by kernel_rfl) rfl #[.pointer (some ⟨g, 0, none⟩), .slice Ao33 y376.length co33] rfl (by (try simp only [List.map_toArray, List.map_cons, List.map_nil]); rfl) ?_; (with_reducible refine (spec_l1Cur_among.calls g s0_0 s0_1 s0_2 _ _ y376 t379 t380 t381 w0 _ ?side1 ?side2 ?side3 ?side4 ?side5 A2.1).mono ?_); (case side1 => repeat (with_reducible exact HI0.1)); (case side2 => repeat (with_reducible exact HB.1)); (case side3 => repeat (exact (zH qi.1).2.2)); (case side4 => exact (zH qi.1).2.1); (case side5 => exact qb (IsS102.own_ne HI0.1 qi.1 (by decide))); rintro e w34 ⟨rfl, hi, hb, hk⟩; refine ⟨_, rfl, ?_⟩; replace qh := Aside0.mk (zC hk (g' := gb375) (o := .cells #[.int .i64 0, .int .i64 0] 35 (0, 0)) (by exact qh.1) qx.1 (by simp)); replace qi := Aside0.mk (zw (zB (IsS102.apart (show IsS102 w0 _ g s0_0 s0_1 s0_2 from by exact HI0.1) (by exact qi.1) (by decide)) hk (fun _ h => h.2)) (fun _ h => h.1)); replace HK := Aside0.mk (zl HK.1 hk (.inl rfl)); replace HB := Aside0.mk hb; replace HI0 := Aside0.mk hi; (try clear hb); (try clear hb2); (try clear hk); (try clear hi)) | ((with_reducible refine zy (N := 4) rfl ?_); refine zD ?hg (N := 4) ?hd (cs := #[.int .i64 0, .int .i64 0]) (t := 35) ?hr ?_; (case hd => rfl); (case hg => rfl); (case hr => (go_simp; done)); intro gb382 hg w35 hbox hb; replace qi := Aside0.mk (zX (by exact qi.1) hb); replace HB := Aside0.mk (zr HB.1 hb); have qf := Aside0.mk hbox; have qz := Aside0.mk ((by rw [hg]; exact (zx (w := w) (g := g) (row := none) HK.1) : w.heap.size ≤ gb382)); have qB := Aside0.mk ((Nat.le_trans HW0.1 (by rw [hg]; exact (zx (w := w) (g := g) (row := none) HK.1) : w.heap.size ≤ gb382) : w0.heap.size ≤ gb382)); replace HK := Aside0.mk (zl HK.1 (zp hb g none) (.inl rfl)); have qo := Aside0.mk ((by rw [hg]; exact Nat.ne_of_lt (zN (g := gb375) (o := .cells #[.int .i64 0, .int .i64 0] 35 (0, 0)) (by exact qh.1)) : gb375 ≠ gb382)); have qF := Aside0.mk ((by rw [hg]; exact Nat.ne_of_gt (zN (g := gb375) (o := .cells #[.int .i64 0, .int .i64 0] 35 (0, 0)) (by exact qh.1)) : gb382 ≠ gb375)); replace qh := Aside0.mk (zA (g := gb375) (o := .cells #[.int .i64 0, .int .i64 0] 35 (0, 0)) (by exact qh.1) hb); have qk := Aside0.mk ((by rw [hg]; exact Nat.ne_of_lt (IsS102.lt (show IsS102 w0 _ g s0_0 t380 t381 from by exact HI0.1)) : g ≠ gb382)); have qA := Aside0.mk ((by rw [hg]; exact Nat.ne_of_gt (IsS102.lt (show IsS102 w0 _ g s0_0 t380 t381 from by exact HI0.1)) : gb382 ≠ g)); replace HI0 := Aside0.mk (IsS102.below HI0.1 hb); clear hb hbox hg; have hnb36 := qF.1; have hnc36 := qo.1; have hnb37 := qA.1; have hnc37 := qk.1; have hcz38_0 : w35.cell? ⟨gb382, 0, none⟩ = some (.int .i64 0) := (zn qf.1 0).trans rfl; have hcz38_1 : w35.cell? ⟨gb382, 1, none⟩ = some (.int .i64 0) := (zn qf.1 1).trans rfl; have hfz38_0 := zh qf.1 0; have hfz38_1 := zh qf.1 1) | ((with_reducible refine zy (N := 12) rfl ?_); refine zP (zs .i64) _ 3 ?hg (N := 12) ?hd (xs := ([0, 167772160, 167837696, 3232235520, 2147483648, 4294967295, 3758096384, 167772165] : List Int)) (inner := [.int .i64 0, .int .i64 167772160, .int .i64 167837696, .int .i64 3232235520, .int .i64 2147483648, .int .i64 4294967295, .int .i64 3758096384, .int .i64 167772165]) (ok := fun _ => True) (okp := fun _ => True) ?hr ?hp (fun _ hk => hk) trivial (Below.refl _ _) (Nat.le_refl _) (by simp) ?_; (case hd => rfl); (case hg => rfl); (case hr => (go_simp; done)); (case hp => exact (zq (show Kd.M (zs .i64) _ _ _ 0 [.int .i64 0] from rfl) (zq (show Kd.M (zs .i64) _ _ _ 167772160 [.int .i64 167772160] from rfl) (zq (show Kd.M (zs .i64) _ _ _ 167837696 [.int .i64 167837696] from rfl) (zq (show Kd.M (zs .i64) _ _ _ 3232235520 [.int .i64 3232235520] from rfl) (zq (show Kd.M (zs .i64) _ _ _ 2147483648 [.int .i64 2147483648] from rfl) (zq (show Kd.M (zs .i64) _ _ _ 4294967295 [.int .i64 4294967295] from rfl) (zq (show Kd.M (zs .i64) _ _ _ 3758096384 [.int .i64 3758096384] from rfl) (zq (show Kd.M (zs .i64) _ _ _ 167772165 [.int .i64 167772165] from rfl) (zI _ _)))))))))); intro v384 w39 ho40 hb hg_ hnew_; clear hg_ hnew_; (rw [← Ny383.1] at ho40); have ql := Aside0.mk (zG (Kd.R_new' ho40 (Kd.R_lt (by exact (zw (zL (p := ⟨gb382, 1, none⟩) (zL (p := ⟨gb382, 0, none⟩) (zO qi.1 qf.1 (by decide)) (fun _ hk => hk.2) (.int .i64 0)) (fun _ hk => hk.2) (.int .i64 t379)) (fun _ h_ => h_.1))))) (zx (w := w) (g := g) (row := none) (by repeat ((with_reducible first | exact HK.1 | refine zo ?_ qz.1 _))))); replace qi := Aside0.mk (Kd.R_elder' (by exact (zw (zL (p := ⟨gb382, 1, none⟩) (zL (p := ⟨gb382, 0, none⟩) (zO qi.1 qf.1 (by decide)) (fun _ hk => hk.2) (.int .i64 0)) (fun _ hk => hk.2) (.int .i64 t379)) (fun _ h_ => h_.1))) (Kd.R_base ho40) hb); replace HI0 := Aside0.mk (IsS102.below (show IsS102 w0 ((w35.setCell ⟨gb382, 0, none⟩ (.int .i64 0)).setCell ⟨gb382, 1, none⟩ (.int .i64 t379)) g s0_0 t380 t381 from by repeat ((with_reducible first | exact HI0.1 | refine IsS102.far ?_ qk.1 _))) hb); replace qh := Aside0.mk (zA (g := gb375) (o := .cells #[.int .i64 0, .int .i64 0] 35 (0, 0)) (by refine zS ?_ qo.1 _; refine zS ?_ qo.1 _; exact qh.1) hb); replace qf := Aside0.mk (zA (g := gb382) (o := .cells #[.int .i64 0, .int .i64 t379] 35 (0, 0)) (by refine zF (cs := #[.int .i64 0, .int .i64 0]) ?_ 1 _ rfl; refine zF (cs := #[.int .i64 0, .int .i64 0]) ?_ 0 _ rfl; exact qf.1) hb); replace HK := Aside0.mk (zl (by repeat ((with_reducible first | exact HK.1 | refine zo ?_ qz.1 _))) (zp hb g none) (.inl rfl)); replace HB := Aside0.mk (zr (by repeat ((with_reducible first | exact HB.1 | refine zb ?_ qB.1))) hb); clear hb ho40; obtain ⟨Ao41, co41, eo41⟩ := zZ ql.1; subst eo41) | ((with_reducible refine zE (f := 90) rfl ?_); refine zR (some 13) rfl rfl Try.func90 (by kernel_rfl) rfl #[.pointer (some ⟨g, 0, none⟩), .slice Ao41 y383.length co41] rfl (by (try simp only [List.map_toArray, List.map_cons, List.map_nil]); rfl) ?_; (with_reducible refine (spec_l1Cur_among.calls g s0_0 t380 t381 _ _ y383 t386 t387 t388 w0 _ ?side1 ?side2 ?side3 ?side4 ?side5 A3.1).mono ?_); (case side1 => repeat (with_reducible exact HI0.1)); (case side2 => repeat (with_reducible exact HB.1)); (case side3 => repeat (exact (zH ql.1).2.2)); (case side4 => exact (zH ql.1).2.1); (case side5 => exact qb (IsS102.own_ne HI0.1 ql.1 (by decide))); rintro e w42 ⟨rfl, hi, hb, hk⟩; refine ⟨_, rfl, ?_⟩; replace qh := Aside0.mk (zC hk (g' := gb375) (o := .cells #[.int .i64 0, .int .i64 0] 35 (0, 0)) (by exact qh.1) qx.1 (by simp)); replace qi := Aside0.mk (zw (zB (IsS102.apart (show IsS102 w0 _ g s0_0 t380 t381 from by exact HI0.1) (by exact qi.1) (by decide)) hk (fun _ h => h.2)) (fun _ h => h.1)); replace qf := Aside0.mk (zC hk (g' := gb382) (o := .cells #[.int .i64 0, .int .i64 t379] 35 (0, 0)) (by exact qf.1) qA.1 (by simp)); replace ql := Aside0.mk (zw (zB (IsS102.apart (show IsS102 w0 _ g s0_0 t380 t381 from by exact HI0.1) (by exact ql.1) (by decide)) hk (fun _ h => h.2)) (fun _ h => h.1)); replace HK := Aside0.mk (zl HK.1 hk (.inl rfl)); replace HB := Aside0.mk hb; replace HI0 := Aside0.mk hi; (try clear hb); (try clear hb2); (try clear hk); (try clear hi); have hcz43_0 : w42.cell? ⟨gb382, 0, none⟩ = some (.int .i64 0) := (zn qf.1 0).trans rfl; have hcz43_1 : w42.cell? ⟨gb382, 1, none⟩ = some (.int .i64 t379) := (zn qf.1 1).trans rfl; have hfz43_0 := zh qf.1 0; have hfz43_1 := zh qf.1 1) | ((with_reducible refine zE (f := 101) rfl ?_); refine zR (some 17) rfl rfl Try.func101 (by kernel_rfl) rfl #[.agg #[.int .i64 0, .int .i64 t379]] rfl (by (try simp only [List.map_toArray, List.map_cons, List.map_nil]); rfl) ?_; (with_reducible refine (spec_l1Size.calls 0 t379 t389 _ A4.1).mono ?_); rintro e w44 ⟨rfl, hb⟩; refine ⟨_, rfl, ?_⟩; replace qi := Aside0.mk (zX (by exact qi.1) hb); replace ql := Aside0.mk (zX (by exact ql.1) hb); replace HI0 := Aside0.mk (IsS102.below HI0.1 hb); replace qh := Aside0.mk (zA (g := gb375) (o := .cells #[.int .i64 0, .int .i64 0] 35 (0, 0)) (by exact qh.1) hb); replace qf := Aside0.mk (zA (g := gb382) (o := .cells #[.int .i64 0, .int .i64 t379] 35 (0, 0)) (by exact qf.1) hb); replace HK := Aside0.mk (zl HK.1 (zp hb g none) (.inl rfl)); replace HB := Aside0.mk (zr HB.1 hb); (try clear hb); (try clear hb2); (try clear hk); (try clear hi); have hcz45_0 : w44.cell? ⟨gb382, 0, none⟩ = some (.int .i64 0) := (zn qf.1 0).trans rfl; have hcz45_1 : w44.cell? ⟨gb382, 1, none⟩ = some (.int .i64 t379) := (zn qf.1 1).trans rfl; have hfz45_0 := zh qf.1 0; have hfz45_1 := zh qf.1 1) | ((with_reducible refine zE (f := 92) rfl ?_); refine zR (some 22) rfl rfl Try.func92 (by kernel_rfl) rfl #[.pointer (some ⟨g, 0, none⟩), .int .i64 30] rfl (by (try simp only [List.map_toArray, List.map_cons, List.map_nil]); rfl) ?_; (with_reducible refine (spec_l1Cur_pick.calls g s0_0 t387 t388 30 t390 t391 t392 w0 _ ?side1 ?side2 A6.1).mono ?_); (case side1 => repeat ((with_reducible first | exact HI0.1 | refine IsS102.far ?_ qk.1 _))); (case side2 => repeat ((with_reducible first | exact HB.1 | refine zb ?_ qB.1))); rintro e w46 ⟨rfl, hi, hb, hk⟩; refine ⟨_, rfl, ?_⟩; replace qh := Aside0.mk (zC hk (g' := gb375) (o := .cells #[.int .i64 0, .int .i64 0] 35 (0, 0)) (by refine zS ?_ qo.1 _; exact qh.1) qx.1 (by simp)); replace qi := Aside0.mk (zw (zB (IsS102.apart (show IsS102 w0 _ g s0_0 t387 t388 from by repeat ((with_reducible first | exact HI0.1 | refine IsS102.far ?_ qk.1 _))) (by exact (zw (zL (p := ⟨gb382, 0, none⟩) (zO qi.1 qf.1 (by decide)) (fun _ hk => hk.2) (.int .i64 (wrap64 (t386 - (Int.tmod t386 t389))))) (fun _ h_ => h_.1))) (by decide)) hk (fun _ h => h.2)) (fun _ h => h.1)); replace ql := Aside0.mk (zw (zB (IsS102.apart (show IsS102 w0 _ g s0_0 t387 t388 from by repeat ((with_reducible first | exact HI0.1 | refine IsS102.far ?_ qk.1 _))) (by exact (zw (zL (p := ⟨gb382, 0, none⟩) (zO ql.1 qf.1 (by decide)) (fun _ hk => hk.2) (.int .i64 (wrap64 (t386 - (Int.tmod t386 t389))))) (fun _ h_ => h_.1))) (by decide)) hk (fun _ h => h.2)) (fun _ h => h.1)); replace qf := Aside0.mk (zC hk (g' := gb382) (o := .cells #[.int .i64 (wrap64 (t386 - (Int.tmod t386 t389))), .int .i64 t379] 35 (0, 0)) (by refine zF (cs := #[.int .i64 0, .int .i64 t379]) ?_ 0 _ rfl; exact qf.1) qA.1 (by simp)); replace HK := Aside0.mk (zl (by repeat ((with_reducible first | exact HK.1 | refine zo ?_ qz.1 _))) hk (.inl rfl)); replace HB := Aside0.mk hb; replace HI0 := Aside0.mk hi; (try clear hb); (try clear hb2); (try clear hk); (try clear hi)) | ((with_reducible refine zy (N := 32) rfl ?_); refine zP (zs .i64) _ 3 ?hg (N := 32) ?hd (xs := ([(-1), 33] : List Int)) (inner := [.int .i64 (-1), .int .i64 33]) (ok := fun _ => True) (okp := fun _ => True) ?hr ?hp (fun _ hk => hk) trivial (Below.refl _ _) (Nat.le_refl _) (by simp) ?_; (case hd => rfl); (case hg => rfl); (case hr => (go_simp; done)); (case hp => exact (zq (show Kd.M (zs .i64) _ _ _ (-1) [.int .i64 (-1)] from rfl) (zq (show Kd.M (zs .i64) _ _ _ 33 [.int .i64 33] from rfl) (zI _ _)))); intro v394 w47 ho48 hb hg_ hnew_; clear hg_ hnew_; (rw [← Ny393.1] at ho48); have qN := Aside0.mk (zG (Kd.R_new' (Kd.R_new' ho48 (Kd.R_lt (by exact qi.1))) (Kd.R_lt (by exact ql.1))) (zx (w := w) (g := g) (row := none) HK.1)); replace qi := Aside0.mk (Kd.R_elder' (by exact qi.1) (Kd.R_base ho48) hb); replace ql := Aside0.mk (Kd.R_elder' (by exact ql.1) (Kd.R_base ho48) hb); replace HI0 := Aside0.mk (IsS102.below HI0.1 hb); replace qh := Aside0.mk (zA (g := gb375) (o := .cells #[.int .i64 0, .int .i64 0] 35 (0, 0)) (by exact qh.1) hb); replace qf := Aside0.mk (zA (g := gb382) (o := .cells #[.int .i64 (wrap64 (t386 - (Int.tmod t386 t389))), .int .i64 t379] 35 (0, 0)) (by exact qf.1) hb); replace HK := Aside0.mk (zl HK.1 (zp hb g none) (.inl rfl)); replace HB := Aside0.mk (zr HB.1 hb); clear hb ho48; obtain ⟨Ao49, co49, eo49⟩ := zZ qN.1; subst eo49) | ((with_reducible refine zE (f := 90) rfl ?_); refine zR (some 33) rfl rfl Try.func90 (by kernel_rfl) rfl #[.pointer (some ⟨g, 0, none⟩), .slice Ao49 y393.length co49] rfl (by (try simp only [List.map_toArray, List.map_cons, List.map_nil]); rfl) ?_; (with_reducible refine (spec_l1Cur_among.calls g s0_0 t391 t392 _ _ y393 t396 t397 t398 w0 _ ?side1 ?side2 ?side3 ?side4 ?side5 A29.1).mono ?_); (case side1 => repeat (with_reducible exact HI0.1)); (case side2 => repeat (with_reducible exact HB.1)); (case side3 => repeat (exact (zH qN.1).2.2)); (case side4 => exact (zH qN.1).2.1); (case side5 => exact qb (IsS102.own_ne HI0.1 qN.1 (by decide))); rintro e w50 ⟨rfl, hi, hb, hk⟩; refine ⟨_, rfl, ?_⟩; replace qh := Aside0.mk (zC hk (g' := gb375) (o := .cells #[.int .i64 0, .int .i64 0] 35 (0, 0)) (by exact qh.1) qx.1 (by simp)); replace qi := Aside0.mk (zw (zB (IsS102.apart (show IsS102 w0 _ g s0_0 t391 t392 from by exact HI0.1) (by exact qi.1) (by decide)) hk (fun _ h => h.2)) (fun _ h => h.1)); replace qf := Aside0.mk (zC hk (g' := gb382) (o := .cells #[.int .i64 (wrap64 (t386 - (Int.tmod t386 t389))), .int .i64 t379] 35 (0, 0)) (by exact qf.1) qA.1 (by simp)); replace ql := Aside0.mk (zw (zB (IsS102.apart (show IsS102 w0 _ g s0_0 t391 t392 from by exact HI0.1) (by exact ql.1) (by decide)) hk (fun _ h => h.2)) (fun _ h => h.1)); replace HK := Aside0.mk (zl HK.1 hk (.inl rfl)); replace HB := Aside0.mk hb; replace HI0 := Aside0.mk hi; (try clear hb); (try clear hb2); (try clear hk); (try clear hi); have hcz51_0 : w50.cell? ⟨gb382, 0, none⟩ = some (.int .i64 (wrap64 (t386 - (Int.tmod t386 t389)))) := (zn qf.1 0).trans rfl; have hcz51_1 : w50.cell? ⟨gb382, 1, none⟩ = some (.int .i64 t379) := (zn qf.1 1).trans rfl; have hfz51_0 := zh qf.1 0; have hfz51_1 := zh qf.1 1; have hnb52 := qx.1; have hnc52 := qg.1; have hcz53_0 : w50.cell? ⟨gb375, 0, none⟩ = some (.int .i64 0) := (zn qh.1 0).trans rfl; have hcz53_1 : w50.cell? ⟨gb375, 1, none⟩ = some (.int .i64 0) := (zn qh.1 1).trans rfl; have hfz53_0 := zh qh.1 0; have hfz53_1 := zh qh.1 1))
    refine bodyPost_ret (results_cell_row rfl _ _ gb375 35 #[.int .i64 (wrap64 (t386 - (Int.tmod t386 t389))), .int .i64 t396] (0, 0) _ rfl (by refine zF (cs := #[.int .i64 (wrap64 (t386 - (Int.tmod t386 t389))), .int .i64 0]) ?_ 1 _ rfl; refine zF (cs := #[.int .i64 0, .int .i64 0]) ?_ 0 _ rfl; refine zS ?_ qo.1 _; exact qh.1) Try.underlying35 rfl (by kernel_rfl)) rfl ?_
    exact ⟨by rfl, by repeat ((with_reducible first | exact HI0.1 | refine IsS102.far ?_ qg.1 _ | refine IsS102.far ?_ qk.1 _)), by repeat ((with_reducible first | exact HB.1 | refine zb ?_ qs.1 | refine zb ?_ qB.1)), by repeat ((with_reducible first | exact HK.1 | refine zo ?_ qn.1 _ | refine zo ?_ qz.1 _))⟩
   ·
    rw [if_neg c28] at H
    have c28b0 : (t390 == 1) = false := beq_eq_false_iff_ne.mpr c28
    have c28b1 : (t390 != 1) = true := bne_iff_ne.mpr c28
    simp only [Option.some.injEq, Prod.mk.injEq] at H
    obtain ⟨rfl, rfl, rfl, rfl⟩ := H
    go_enter Try.func116, Try.ntmps116
    go_wp2_with (first | ((with_reducible refine zy (N := 2) rfl ?_); refine zD ?hg (N := 2) ?hd (cs := #[.int .i64 0, .int .i64 0]) (t := 35) ?hr ?_; (case hd => rfl); (case hg => rfl); (case hr => (go_simp; done)); intro gb375 hg w54 hbox hb; replace HB := Aside0.mk (zr HB.1 hb); have qh := Aside0.mk hbox; have qn := Aside0.mk ((by rw [hg]; exact (zx (w := w) (g := g) (row := none) HK.1) : w.heap.size ≤ gb375)); have qs := Aside0.mk ((Nat.le_trans HW0.1 (by rw [hg]; exact (zx (w := w) (g := g) (row := none) HK.1) : w.heap.size ≤ gb375) : w0.heap.size ≤ gb375)); replace HK := Aside0.mk (zl HK.1 (zp hb g none) (.inl rfl)); have qg := Aside0.mk ((by rw [hg]; exact Nat.ne_of_lt (IsS102.lt (show IsS102 w0 _ g s0_0 s0_1 s0_2 from by exact HI0.1)) : g ≠ gb375)); have qx := Aside0.mk ((by rw [hg]; exact Nat.ne_of_gt (IsS102.lt (show IsS102 w0 _ g s0_0 s0_1 s0_2 from by exact HI0.1)) : gb375 ≠ g)); replace HI0 := Aside0.mk (IsS102.below HI0.1 hb); clear hb hbox hg) | ((with_reducible refine zy (N := 7) rfl ?_); refine zP (zs .i64) _ 3 ?hg (N := 7) ?hd (xs := ([0, 1, 2, 3, 4, 8, 8, 16, 24, 31, 32] : List Int)) (inner := [.int .i64 0, .int .i64 1, .int .i64 2, .int .i64 3, .int .i64 4, .int .i64 8, .int .i64 8, .int .i64 16, .int .i64 24, .int .i64 31, .int .i64 32]) (ok := fun _ => True) (okp := fun _ => True) ?hr ?hp (fun _ hk => hk) trivial (Below.refl _ _) (Nat.le_refl _) (by simp) ?_; (case hd => rfl); (case hg => rfl); (case hr => (go_simp; done)); (case hp => exact (zq (show Kd.M (zs .i64) _ _ _ 0 [.int .i64 0] from rfl) (zq (show Kd.M (zs .i64) _ _ _ 1 [.int .i64 1] from rfl) (zq (show Kd.M (zs .i64) _ _ _ 2 [.int .i64 2] from rfl) (zq (show Kd.M (zs .i64) _ _ _ 3 [.int .i64 3] from rfl) (zq (show Kd.M (zs .i64) _ _ _ 4 [.int .i64 4] from rfl) (zq (show Kd.M (zs .i64) _ _ _ 8 [.int .i64 8] from rfl) (zq (show Kd.M (zs .i64) _ _ _ 8 [.int .i64 8] from rfl) (zq (show Kd.M (zs .i64) _ _ _ 16 [.int .i64 16] from rfl) (zq (show Kd.M (zs .i64) _ _ _ 24 [.int .i64 24] from rfl) (zq (show Kd.M (zs .i64) _ _ _ 31 [.int .i64 31] from rfl) (zq (show Kd.M (zs .i64) _ _ _ 32 [.int .i64 32] from rfl) (zI _ _))))))))))))); intro v377 w55 ho56 hb hg_ hnew_; clear hg_ hnew_; (rw [← Ny376.1] at ho56); have qi := Aside0.mk (zG ho56 (zx (w := w) (g := g) (row := none) HK.1)); replace HI0 := Aside0.mk (IsS102.below HI0.1 hb); replace qh := Aside0.mk (zA (g := gb375) (o := .cells #[.int .i64 0, .int .i64 0] 35 (0, 0)) (by exact qh.1) hb); replace HK := Aside0.mk (zl HK.1 (zp hb g none) (.inl rfl)); replace HB := Aside0.mk (zr HB.1 hb); clear hb ho56; obtain ⟨Ao57, co57, eo57⟩ := zZ qi.1; subst eo57) | ((with_reducible refine zE (f := 90) rfl ?_); refine zR (some 8) rfl rfl Try.func90 (by kernel_rfl) rfl #[.pointer (some ⟨g, 0, none⟩), .slice Ao57 y376.length co57] rfl (by (try simp only [List.map_toArray, List.map_cons, List.map_nil]); rfl) ?_; (with_reducible refine (spec_l1Cur_among.calls g s0_0 s0_1 s0_2 _ _ y376 t379 t380 t381 w0 _ ?side1 ?side2 ?side3 ?side4 ?side5 A2.1).mono ?_); (case side1 => repeat (with_reducible exact HI0.1)); (case side2 => repeat (with_reducible exact HB.1)); (case side3 => repeat (exact (zH qi.1).2.2)); (case side4 => exact (zH qi.1).2.1); (case side5 => exact qb (IsS102.own_ne HI0.1 qi.1 (by decide))); rintro e w58 ⟨rfl, hi, hb, hk⟩; refine ⟨_, rfl, ?_⟩; replace qh := Aside0.mk (zC hk (g' := gb375) (o := .cells #[.int .i64 0, .int .i64 0] 35 (0, 0)) (by exact qh.1) qx.1 (by simp)); replace qi := Aside0.mk (zw (zB (IsS102.apart (show IsS102 w0 _ g s0_0 s0_1 s0_2 from by exact HI0.1) (by exact qi.1) (by decide)) hk (fun _ h => h.2)) (fun _ h => h.1)); replace HK := Aside0.mk (zl HK.1 hk (.inl rfl)); replace HB := Aside0.mk hb; replace HI0 := Aside0.mk hi; (try clear hb); (try clear hb2); (try clear hk); (try clear hi)) | ((with_reducible refine zy (N := 4) rfl ?_); refine zD ?hg (N := 4) ?hd (cs := #[.int .i64 0, .int .i64 0]) (t := 35) ?hr ?_; (case hd => rfl); (case hg => rfl); (case hr => (go_simp; done)); intro gb382 hg w59 hbox hb; replace qi := Aside0.mk (zX (by exact qi.1) hb); replace HB := Aside0.mk (zr HB.1 hb); have qf := Aside0.mk hbox; have qz := Aside0.mk ((by rw [hg]; exact (zx (w := w) (g := g) (row := none) HK.1) : w.heap.size ≤ gb382)); have qB := Aside0.mk ((Nat.le_trans HW0.1 (by rw [hg]; exact (zx (w := w) (g := g) (row := none) HK.1) : w.heap.size ≤ gb382) : w0.heap.size ≤ gb382)); replace HK := Aside0.mk (zl HK.1 (zp hb g none) (.inl rfl)); have qo := Aside0.mk ((by rw [hg]; exact Nat.ne_of_lt (zN (g := gb375) (o := .cells #[.int .i64 0, .int .i64 0] 35 (0, 0)) (by exact qh.1)) : gb375 ≠ gb382)); have qF := Aside0.mk ((by rw [hg]; exact Nat.ne_of_gt (zN (g := gb375) (o := .cells #[.int .i64 0, .int .i64 0] 35 (0, 0)) (by exact qh.1)) : gb382 ≠ gb375)); replace qh := Aside0.mk (zA (g := gb375) (o := .cells #[.int .i64 0, .int .i64 0] 35 (0, 0)) (by exact qh.1) hb); have qk := Aside0.mk ((by rw [hg]; exact Nat.ne_of_lt (IsS102.lt (show IsS102 w0 _ g s0_0 t380 t381 from by exact HI0.1)) : g ≠ gb382)); have qA := Aside0.mk ((by rw [hg]; exact Nat.ne_of_gt (IsS102.lt (show IsS102 w0 _ g s0_0 t380 t381 from by exact HI0.1)) : gb382 ≠ g)); replace HI0 := Aside0.mk (IsS102.below HI0.1 hb); clear hb hbox hg; have hnb60 := qF.1; have hnc60 := qo.1; have hnb61 := qA.1; have hnc61 := qk.1; have hcz62_0 : w59.cell? ⟨gb382, 0, none⟩ = some (.int .i64 0) := (zn qf.1 0).trans rfl; have hcz62_1 : w59.cell? ⟨gb382, 1, none⟩ = some (.int .i64 0) := (zn qf.1 1).trans rfl; have hfz62_0 := zh qf.1 0; have hfz62_1 := zh qf.1 1) | ((with_reducible refine zy (N := 12) rfl ?_); refine zP (zs .i64) _ 3 ?hg (N := 12) ?hd (xs := ([0, 167772160, 167837696, 3232235520, 2147483648, 4294967295, 3758096384, 167772165] : List Int)) (inner := [.int .i64 0, .int .i64 167772160, .int .i64 167837696, .int .i64 3232235520, .int .i64 2147483648, .int .i64 4294967295, .int .i64 3758096384, .int .i64 167772165]) (ok := fun _ => True) (okp := fun _ => True) ?hr ?hp (fun _ hk => hk) trivial (Below.refl _ _) (Nat.le_refl _) (by simp) ?_; (case hd => rfl); (case hg => rfl); (case hr => (go_simp; done)); (case hp => exact (zq (show Kd.M (zs .i64) _ _ _ 0 [.int .i64 0] from rfl) (zq (show Kd.M (zs .i64) _ _ _ 167772160 [.int .i64 167772160] from rfl) (zq (show Kd.M (zs .i64) _ _ _ 167837696 [.int .i64 167837696] from rfl) (zq (show Kd.M (zs .i64) _ _ _ 3232235520 [.int .i64 3232235520] from rfl) (zq (show Kd.M (zs .i64) _ _ _ 2147483648 [.int .i64 2147483648] from rfl) (zq (show Kd.M (zs .i64) _ _ _ 4294967295 [.int .i64 4294967295] from rfl) (zq (show Kd.M (zs .i64) _ _ _ 3758096384 [.int .i64 3758096384] from rfl) (zq (show Kd.M (zs .i64) _ _ _ 167772165 [.int .i64 167772165] from rfl) (zI _ _)))))))))); intro v384 w63 ho64 hb hg_ hnew_; clear hg_ hnew_; (rw [← Ny383.1] at ho64); have ql := Aside0.mk (zG (Kd.R_new' ho64 (Kd.R_lt (by exact (zw (zL (p := ⟨gb382, 1, none⟩) (zL (p := ⟨gb382, 0, none⟩) (zO qi.1 qf.1 (by decide)) (fun _ hk => hk.2) (.int .i64 0)) (fun _ hk => hk.2) (.int .i64 t379)) (fun _ h_ => h_.1))))) (zx (w := w) (g := g) (row := none) (by repeat ((with_reducible first | exact HK.1 | refine zo ?_ qz.1 _))))); replace HI0 := Aside0.mk (IsS102.below (show IsS102 w0 ((w59.setCell ⟨gb382, 0, none⟩ (.int .i64 0)).setCell ⟨gb382, 1, none⟩ (.int .i64 t379)) g s0_0 t380 t381 from by repeat ((with_reducible first | exact HI0.1 | refine IsS102.far ?_ qk.1 _))) hb); replace qh := Aside0.mk (zA (g := gb375) (o := .cells #[.int .i64 0, .int .i64 0] 35 (0, 0)) (by refine zS ?_ qo.1 _; refine zS ?_ qo.1 _; exact qh.1) hb); replace qf := Aside0.mk (zA (g := gb382) (o := .cells #[.int .i64 0, .int .i64 t379] 35 (0, 0)) (by refine zF (cs := #[.int .i64 0, .int .i64 0]) ?_ 1 _ rfl; refine zF (cs := #[.int .i64 0, .int .i64 0]) ?_ 0 _ rfl; exact qf.1) hb); replace HK := Aside0.mk (zl (by repeat ((with_reducible first | exact HK.1 | refine zo ?_ qz.1 _))) (zp hb g none) (.inl rfl)); replace HB := Aside0.mk (zr (by repeat ((with_reducible first | exact HB.1 | refine zb ?_ qB.1))) hb); clear hb ho64; obtain ⟨Ao65, co65, eo65⟩ := zZ ql.1; subst eo65) | ((with_reducible refine zE (f := 90) rfl ?_); refine zR (some 13) rfl rfl Try.func90 (by kernel_rfl) rfl #[.pointer (some ⟨g, 0, none⟩), .slice Ao65 y383.length co65] rfl (by (try simp only [List.map_toArray, List.map_cons, List.map_nil]); rfl) ?_; (with_reducible refine (spec_l1Cur_among.calls g s0_0 t380 t381 _ _ y383 t386 t387 t388 w0 _ ?side1 ?side2 ?side3 ?side4 ?side5 A3.1).mono ?_); (case side1 => repeat (with_reducible exact HI0.1)); (case side2 => repeat (with_reducible exact HB.1)); (case side3 => repeat (exact (zH ql.1).2.2)); (case side4 => exact (zH ql.1).2.1); (case side5 => exact qb (IsS102.own_ne HI0.1 ql.1 (by decide))); rintro e w66 ⟨rfl, hi, hb, hk⟩; refine ⟨_, rfl, ?_⟩; replace qh := Aside0.mk (zC hk (g' := gb375) (o := .cells #[.int .i64 0, .int .i64 0] 35 (0, 0)) (by exact qh.1) qx.1 (by simp)); replace qf := Aside0.mk (zC hk (g' := gb382) (o := .cells #[.int .i64 0, .int .i64 t379] 35 (0, 0)) (by exact qf.1) qA.1 (by simp)); replace HK := Aside0.mk (zl HK.1 hk (.inl rfl)); replace HB := Aside0.mk hb; replace HI0 := Aside0.mk hi; (try clear hb); (try clear hb2); (try clear hk); (try clear hi); have hcz67_0 : w66.cell? ⟨gb382, 0, none⟩ = some (.int .i64 0) := (zn qf.1 0).trans rfl; have hcz67_1 : w66.cell? ⟨gb382, 1, none⟩ = some (.int .i64 t379) := (zn qf.1 1).trans rfl; have hfz67_0 := zh qf.1 0; have hfz67_1 := zh qf.1 1) | ((with_reducible refine zE (f := 101) rfl ?_); refine zR (some 17) rfl rfl Try.func101 (by kernel_rfl) rfl #[.agg #[.int .i64 0, .int .i64 t379]] rfl (by (try simp only [List.map_toArray, List.map_cons, List.map_nil]); rfl) ?_; (with_reducible refine (spec_l1Size.calls 0 t379 t389 _ A4.1).mono ?_); rintro e w68 ⟨rfl, hb⟩; refine ⟨_, rfl, ?_⟩; replace HI0 := Aside0.mk (IsS102.below HI0.1 hb); replace qh := Aside0.mk (zA (g := gb375) (o := .cells #[.int .i64 0, .int .i64 0] 35 (0, 0)) (by exact qh.1) hb); replace qf := Aside0.mk (zA (g := gb382) (o := .cells #[.int .i64 0, .int .i64 t379] 35 (0, 0)) (by exact qf.1) hb); replace HK := Aside0.mk (zl HK.1 (zp hb g none) (.inl rfl)); replace HB := Aside0.mk (zr HB.1 hb); (try clear hb); (try clear hb2); (try clear hk); (try clear hi); have hcz69_0 : w68.cell? ⟨gb382, 0, none⟩ = some (.int .i64 0) := (zn qf.1 0).trans rfl; have hcz69_1 : w68.cell? ⟨gb382, 1, none⟩ = some (.int .i64 t379) := (zn qf.1 1).trans rfl; have hfz69_0 := zh qf.1 0; have hfz69_1 := zh qf.1 1) | ((with_reducible refine zE (f := 92) rfl ?_); refine zR (some 22) rfl rfl Try.func92 (by kernel_rfl) rfl #[.pointer (some ⟨g, 0, none⟩), .int .i64 30] rfl (by (try simp only [List.map_toArray, List.map_cons, List.map_nil]); rfl) ?_; (with_reducible refine (spec_l1Cur_pick.calls g s0_0 t387 t388 30 t390 t391 t392 w0 _ ?side1 ?side2 A6.1).mono ?_); (case side1 => repeat ((with_reducible first | exact HI0.1 | refine IsS102.far ?_ qk.1 _))); (case side2 => repeat ((with_reducible first | exact HB.1 | refine zb ?_ qB.1))); rintro e w70 ⟨rfl, hi, hb, hk⟩; refine ⟨_, rfl, ?_⟩; replace qh := Aside0.mk (zC hk (g' := gb375) (o := .cells #[.int .i64 0, .int .i64 0] 35 (0, 0)) (by refine zS ?_ qo.1 _; exact qh.1) qx.1 (by simp)); replace qf := Aside0.mk (zC hk (g' := gb382) (o := .cells #[.int .i64 (wrap64 (t386 - (Int.tmod t386 t389))), .int .i64 t379] 35 (0, 0)) (by refine zF (cs := #[.int .i64 0, .int .i64 t379]) ?_ 0 _ rfl; exact qf.1) qA.1 (by simp)); replace HK := Aside0.mk (zl (by repeat ((with_reducible first | exact HK.1 | refine zo ?_ qz.1 _))) hk (.inl rfl)); replace HB := Aside0.mk hb; replace HI0 := Aside0.mk hi; (try clear hb); (try clear hb2); (try clear hk); (try clear hi); have hcz71_0 : w70.cell? ⟨gb382, 0, none⟩ = some (.int .i64 (wrap64 (t386 - (Int.tmod t386 t389)))) := (zn qf.1 0).trans rfl; have hcz71_1 : w70.cell? ⟨gb382, 1, none⟩ = some (.int .i64 t379) := (zn qf.1 1).trans rfl; have hfz71_0 := zh qf.1 0; have hfz71_1 := zh qf.1 1; have hnb72 := qx.1; have hnc72 := qg.1; have hcz73_0 : w70.cell? ⟨gb375, 0, none⟩ = some (.int .i64 0) := (zn qh.1 0).trans rfl; have hcz73_1 : w70.cell? ⟨gb375, 1, none⟩ = some (.int .i64 0) := (zn qh.1 1).trans rfl; have hfz73_0 := zh qh.1 0; have hfz73_1 := zh qh.1 1))
    refine bodyPost_ret (results_cell_row rfl _ _ gb375 35 #[.int .i64 (wrap64 (t386 - (Int.tmod t386 t389))), .int .i64 t379] (0, 0) _ rfl (by refine zF (cs := #[.int .i64 (wrap64 (t386 - (Int.tmod t386 t389))), .int .i64 0]) ?_ 1 _ rfl; refine zF (cs := #[.int .i64 0, .int .i64 0]) ?_ 0 _ rfl; exact qh.1) Try.underlying35 rfl (by kernel_rfl)) rfl ?_
    exact ⟨by rfl, by repeat ((with_reducible first | exact HI0.1 | refine IsS102.far ?_ qg.1 _)), by repeat ((with_reducible first | exact HB.1 | refine zb ?_ qs.1)), by repeat ((with_reducible first | exact HK.1 | refine zo ?_ qn.1 _))⟩

/-! ### spec_DrawGoodPrefix: function 91 -/
def spec_DrawGoodPrefix.f (l0 : List Int) : Option (Int × Int) := (spec_l1Cur_prefix.f l0 0 0).bind fun bt401 => (some (bt401.1, bt401.2.1))
set_option maxHeartbeats 8000000 in
set_option maxRecDepth 100000 in
theorem spec_DrawGoodPrefix.calls (A0 : Option Addr) (c0 : Nat) (l0 : List Int) (r1 : Int) (r2 : Int) (w : World) (hr0 : Kd.C (zs .u8) w A0 l0.length l0) (hc0 : l0.length ≤ c0) (h : spec_DrawGoodPrefix.f l0 = some (r1, r2)) :
  Calls Try.prog 91 #[.slice A0 l0.length c0] w fun e w' => e = .returned (.agg #[.int .i64 r1, .int .i64 r2]) ∧ Below w.heap.size w w' := by
 have hu35 := Try.underlying35
 have hu102 := Try.underlying102
 have HR0 := Aside0.mk hr0
 have HC0 := Aside0.mk hc0
 clear hr0 hc0
 have HB := Aside0.mk (Below.refl w.heap.size w)
 have H : ((spec_l1Cur_prefix.f l0 0 0).bind fun bt401 => (some (bt401.1, bt401.2.1))) = some (r1, r2) := h
 clear h
 replace H := Option.bind_eq_some_iff.mp H
 obtain ⟨⟨t401, t402, t403, t404⟩, A20, H⟩ := H
 replace H : (some (t401, t402)) = some (r1, r2) := H
 have A2 := Aside0.mk A20
 clear A20
 simp only [Option.some.injEq, Prod.mk.injEq] at H
 obtain ⟨rfl, rfl⟩ := H
 go_enter Try.func91, Try.ntmps91
 go_wp2_with (first | ((with_reducible refine zy (N := 2) rfl ?_); refine zD ?hg (N := 2) ?hd (cs := #[.int .i64 0, .int .i64 0]) (t := 35) ?hr ?_; (case hd => rfl); (case hg => rfl); (case hr => (go_simp; done)); intro gb399 hg w3 hbox hb; have qG := Aside0.mk hbox; have qR := Aside0.mk ((by rw [hg]; exact (zz HB.1) : w.heap.size ≤ gb399)); replace HB := Aside0.mk (zr HB.1 hb); clear hb hbox hg) | ((with_reducible refine zy (N := 6) rfl ?_); refine zD ?hg (N := 6) ?hd (cs := #[.slice A0 l0.length c0, .int .i64 0, .int .u64 0]) (t := 102) ?hr ?_; (case hd => rfl); (case hg => rfl); (case hr => (go_simp; done)); intro gb400 hg w4 hbox hb; have BK400 := Aside0.mk hbox; have GW400 := Aside0.mk ((by rw [hg]; exact (zz HB.1) : w.heap.size ≤ gb400)); replace HB := Aside0.mk (zr HB.1 hb); have NB399_400 := Aside0.mk ((by rw [hg]; exact Nat.ne_of_lt (zN (g := gb399) (o := .cells #[.int .i64 0, .int .i64 0] 35 (0, 0)) (by exact qG.1)) : gb399 ≠ gb400)); have NB400_399 := Aside0.mk ((by rw [hg]; exact Nat.ne_of_gt (zN (g := gb399) (o := .cells #[.int .i64 0, .int .i64 0] 35 (0, 0)) (by exact qG.1)) : gb400 ≠ gb399)); replace qG := Aside0.mk (zA (g := gb399) (o := .cells #[.int .i64 0, .int .i64 0] 35 (0, 0)) (by exact qG.1) hb); clear hb hbox hg) | ((with_reducible refine zE (f := 116) rfl ?_); have qO := Aside0.mk (show IsS102 w _ gb400 l0 0 0 from by exact ⟨_, _, by exact BK400.1, GW400.1, HR0.1⟩); refine zR (some 8) rfl rfl Try.func116 (by kernel_rfl) rfl #[.pointer (some ⟨gb400, 0, none⟩)] rfl (by (try simp only [List.map_toArray, List.map_cons, List.map_nil]); rfl) ?_; (with_reducible refine (spec_l1Cur_prefix.calls gb400 l0 0 0 t401 t402 t403 t404 w _ ?side1 ?side2 A2.1).mono ?_); (case side1 => repeat (with_reducible exact qO.1)); (case side2 => repeat (with_reducible exact HB.1)); rintro e w5 ⟨rfl, hi, hb, hk⟩; refine ⟨_, rfl, ?_⟩; replace qG := Aside0.mk (zC hk (g' := gb399) (o := .cells #[.int .i64 0, .int .i64 0] 35 (0, 0)) (by exact qG.1) NB399_400.1 (by simp)); replace HB := Aside0.mk hb; (try clear hb); (try clear hb2); (try clear hk); (try clear hi); have hnb6 := NB399_400.1; have hnc6 := NB400_399.1; have hcz7_0 : w5.cell? ⟨gb399, 0, none⟩ = some (.int .i64 0) := (zn qG.1 0).trans rfl; have hcz7_1 : w5.cell? ⟨gb399, 1, none⟩ = some (.int .i64 0) := (zn qG.1 1).trans rfl; have hfz7_0 := zh qG.1 0; have hfz7_1 := zh qG.1 1))
 refine bodyPost_ret (results_cell_row rfl _ _ gb399 35 #[.int .i64 t401, .int .i64 t402] (0, 0) _ rfl (by refine zF (cs := #[.int .i64 t401, .int .i64 0]) ?_ 1 _ rfl; refine zF (cs := #[.int .i64 0, .int .i64 0]) ?_ 0 _ rfl; exact qG.1) Try.underlying35 rfl (by kernel_rfl)) rfl ?_
 exact ⟨by rfl, by repeat ((with_reducible first | exact HB.1 | refine zb ?_ qR.1))⟩

/-! ### spec_DrawPrefixBytes: function 41 -/
def spec_DrawPrefixBytes.f (l0 : List Int) : Option (Int × Int) := (spec_DrawGoodPrefix.f l0).bind fun bt406 => (some (bt406.1, bt406.2))
set_option maxHeartbeats 8000000 in
set_option maxRecDepth 100000 in
theorem spec_DrawPrefixBytes.calls (A0 : Option Addr) (c0 : Nat) (l0 : List Int) (r1 : Int) (r2 : Int) (w : World) (hr0 : Kd.C (zs .u8) w A0 l0.length l0) (hc0 : l0.length ≤ c0) (h : spec_DrawPrefixBytes.f l0 = some (r1, r2)) :
  Calls Try.prog 41 #[.slice A0 l0.length c0] w fun e w' => e = .returned (.agg #[.int .i64 r1, .int .i64 r2]) ∧ Below w.heap.size w w' := by
 have hu35 := Try.underlying35
 have HR0 := Aside0.mk hr0
 have HC0 := Aside0.mk hc0
 clear hr0 hc0
 have HB := Aside0.mk (Below.refl w.heap.size w)
 have H : ((spec_DrawGoodPrefix.f l0).bind fun bt406 => (some (bt406.1, bt406.2))) = some (r1, r2) := h
 clear h
 replace H := Option.bind_eq_some_iff.mp H
 obtain ⟨⟨t406, t407⟩, A20, H⟩ := H
 replace H : (some (t406, t407)) = some (r1, r2) := H
 have A2 := Aside0.mk A20
 clear A20
 simp only [Option.some.injEq, Prod.mk.injEq] at H
 obtain ⟨rfl, rfl⟩ := H
 go_enter Try.func41, Try.ntmps41
 go_wp2_with (first | ((with_reducible refine zy (N := 2) rfl ?_); refine zD ?hg (N := 2) ?hd (cs := #[.int .i64 0, .int .i64 0]) (t := 35) ?hr ?_; (case hd => rfl); (case hg => rfl); (case hr => (go_simp; done)); intro gb405 hg w3 hbox hb; have qM := Aside0.mk hbox; have GE405 := Aside0.mk ((by rw [hg]; exact (zz HB.1) : w.heap.size ≤ gb405)); replace HB := Aside0.mk (zr HB.1 hb); clear hb hbox hg) | ((with_reducible refine zE (f := 91) rfl ?_); refine zR (some 4) rfl rfl Try.func91 (by kernel_rfl) rfl #[.slice A0 l0.length c0] rfl (by (try simp only [List.map_toArray, List.map_cons, List.map_nil]); rfl) ?_; (with_reducible refine (spec_DrawGoodPrefix.calls _ _ l0 t406 t407 _ ?side1 ?side2 A2.1).mono ?_); (case side1 => repeat (exact (qa HR0.1 HB.1))); (case side2 => exact HC0.1); rintro e w4 ⟨rfl, hb⟩; refine ⟨_, rfl, ?_⟩; replace qM := Aside0.mk (zA (g := gb405) (o := .cells #[.int .i64 0, .int .i64 0] 35 (0, 0)) (by exact qM.1) hb); replace HB := Aside0.mk (zr HB.1 hb); (try clear hb); (try clear hb2); (try clear hk); (try clear hi); have hcz5_0 : w4.cell? ⟨gb405, 0, none⟩ = some (.int .i64 0) := (zn qM.1 0).trans rfl; have hcz5_1 : w4.cell? ⟨gb405, 1, none⟩ = some (.int .i64 0) := (zn qM.1 1).trans rfl; have hfz5_0 := zh qM.1 0; have hfz5_1 := zh qM.1 1))
 refine bodyPost_ret (results_cell_row rfl _ _ gb405 35 #[.int .i64 t406, .int .i64 t407] (0, 0) _ rfl (by refine zF (cs := #[.int .i64 t406, .int .i64 0]) ?_ 1 _ rfl; refine zF (cs := #[.int .i64 0, .int .i64 0]) ?_ 0 _ rfl; exact qM.1) Try.underlying35 rfl (by kernel_rfl)) rfl ?_
 exact ⟨by rfl, by repeat ((with_reducible first | exact HB.1 | refine zb ?_ GE405.1))⟩

/-! ### spec_l1Cur_fine: function 93 -/
def spec_l1Cur_fine.f (s0_0 : List Int) (s0_1 : Int) (s0_2 : Int) : Option (Int × Int × Int × Int) := (spec_l1Cur_prefix.f s0_0 s0_1 s0_2).bind fun bt409 => ((spec_GoodPrefix.f bt409.1 bt409.2.1).bind fun t414 => (if t414 = true then (some (bt409.1, bt409.2.1, bt409.2.2.1, bt409.2.2.2)) else (some (167772160, 8, bt409.2.2.1, bt409.2.2.2))))
set_option maxHeartbeats 8000000 in
set_option maxRecDepth 100000 in
theorem spec_l1Cur_fine.calls (g : Nat) (s0_0 : List Int) (s0_1 : Int) (s0_2 : Int) (r1 : Int) (r2 : Int) (r3 : Int) (r4 : Int) (w0 w : World) (hI : IsS102 w0 w g s0_0 s0_1 s0_2) (hB : Below w0.heap.size w0 w) (h : spec_l1Cur_fine.f s0_0 s0_1 s0_2 = some (r1, r2, r3, r4)) :
  Calls Try.prog 93 #[.pointer (some ⟨g, 0, none⟩)] w fun e w' => e = .returned (.agg #[.int .i64 r1, .int .i64 r2]) ∧ IsS102 w0 w' g s0_0 r3 r4 ∧ Below w0.heap.size w0 w' ∧ KeepBut w w' g none := by
 have hu35 := Try.underlying35
 have HI0 := Aside0.mk hI
 have HK := Aside0.mk (KeepBut.refl w g none)
 have HL := Aside0.mk hB.size
 clear hI
 have HW0 := Aside0.mk hB.size
 have HB := Aside0.mk hB
 clear hB
 have H : ((spec_l1Cur_prefix.f s0_0 s0_1 s0_2).bind fun bt409 => ((spec_GoodPrefix.f bt409.1 bt409.2.1).bind fun t414 => (if t414 = true then (some (bt409.1, bt409.2.1, bt409.2.2.1, bt409.2.2.2)) else (some (167772160, 8, bt409.2.2.1, bt409.2.2.2))))) = some (r1, r2, r3, r4) := h
 clear h
 replace H := Option.bind_eq_some_iff.mp H
 obtain ⟨⟨t409, t410, t411, t412⟩, A20, H⟩ := H
 replace H : ((spec_GoodPrefix.f t409 t410).bind fun t414 => (if t414 = true then (some (t409, t410, t411, t412)) else (some (167772160, 8, t411, t412)))) = some (r1, r2, r3, r4) := H
 have A2 := Aside0.mk A20
 clear A20
 replace H := Option.bind_eq_some_iff.mp H
 obtain ⟨t414, A30, H⟩ := H
 replace H : (if t414 = true then (some (t409, t410, t411, t412)) else (some (167772160, 8, t411, t412))) = some (r1, r2, r3, r4) := H
 have A3 := Aside0.mk A30
 clear A30
 by_cases c4 : t414 = true
 ·
  subst c4
  have H1 : (some (t409, t410, t411, t412)) = some (r1, r2, r3, r4) := by rw [if_pos rfl] at H; exact H
  clear H
  have H := H1
  clear H1
  simp only [Option.some.injEq, Prod.mk.injEq] at H
  obtain ⟨rfl, rfl, rfl, rfl⟩ := H
  go_enter Try.func93, Try.ntmps93
  go_wp2_with (first | ((with_reducible refine zy (N := 2) rfl ?_); refine zD ?hg (N := 2) ?hd (cs := #[.int .i64 0, .int .i64 0]) (t := 35) ?hr ?_; (case hd => rfl); (case hg => rfl); (case hr => (go_simp; done)); intro gb408 hg w5 hbox hb; replace HB := Aside0.mk (zr HB.1 hb); have qq := Aside0.mk hbox; have qH := Aside0.mk ((by rw [hg]; exact (zx (w := w) (g := g) (row := none) HK.1) : w.heap.size ≤ gb408)); have qJ := Aside0.mk ((Nat.le_trans HW0.1 (by rw [hg]; exact (zx (w := w) (g := g) (row := none) HK.1) : w.heap.size ≤ gb408) : w0.heap.size ≤ gb408)); replace HK := Aside0.mk (zl HK.1 (zp hb g none) (.inl rfl)); have qy := Aside0.mk ((by rw [hg]; exact Nat.ne_of_lt (IsS102.lt (show IsS102 w0 _ g s0_0 s0_1 s0_2 from by exact HI0.1)) : g ≠ gb408)); have qK := Aside0.mk ((by rw [hg]; exact Nat.ne_of_gt (IsS102.lt (show IsS102 w0 _ g s0_0 s0_1 s0_2 from by exact HI0.1)) : gb408 ≠ g)); replace HI0 := Aside0.mk (IsS102.below HI0.1 hb); clear hb hbox hg) | ((with_reducible refine zE (f := 116) rfl ?_); refine zR (some 5) rfl rfl Try.func116 (by kernel_rfl) rfl #[.pointer (some ⟨g, 0, none⟩)] rfl (by (try simp only [List.map_toArray, List.map_cons, List.map_nil]); rfl) ?_; (with_reducible refine (spec_l1Cur_prefix.calls g s0_0 s0_1 s0_2 t409 t410 t411 t412 w0 _ ?side1 ?side2 A2.1).mono ?_); (case side1 => repeat (with_reducible exact HI0.1)); (case side2 => repeat (with_reducible exact HB.1)); rintro e w6 ⟨rfl, hi, hb, hk⟩; refine ⟨_, rfl, ?_⟩; replace qq := Aside0.mk (zC hk (g' := gb408) (o := .cells #[.int .i64 0, .int .i64 0] 35 (0, 0)) (by exact qq.1) qK.1 (by simp)); replace HK := Aside0.mk (zl HK.1 hk (.inl rfl)); replace HB := Aside0.mk hb; replace HI0 := Aside0.mk hi; (try clear hb); (try clear hb2); (try clear hk); (try clear hi)) | ((with_reducible refine zy (N := 3) rfl ?_); refine zD ?hg (N := 3) ?hd (cs := #[.int .i64 0, .int .i64 0]) (t := 35) ?hr ?_; (case hd => rfl); (case hg => rfl); (case hr => (go_simp; done)); intro gb413 hg w7 hbox hb; replace HB := Aside0.mk (zr HB.1 hb); have qC := Aside0.mk hbox; have qS := Aside0.mk ((by rw [hg]; exact (zx (w := w) (g := g) (row := none) HK.1) : w.heap.size ≤ gb413)); have qT := Aside0.mk ((Nat.le_trans HW0.1 (by rw [hg]; exact (zx (w := w) (g := g) (row := none) HK.1) : w.heap.size ≤ gb413) : w0.heap.size ≤ gb413)); replace HK := Aside0.mk (zl HK.1 (zp hb g none) (.inl rfl)); have qD := Aside0.mk ((by rw [hg]; exact Nat.ne_of_lt (zN (g := gb408) (o := .cells #[.int .i64 0, .int .i64 0] 35 (0, 0)) (by exact qq.1)) : gb408 ≠ gb413)); have NB413_408 := Aside0.mk ((by rw [hg]; exact Nat.ne_of_gt (zN (g := gb408) (o := .cells #[.int .i64 0, .int .i64 0] 35 (0, 0)) (by exact qq.1)) : gb413 ≠ gb408)); replace qq := Aside0.mk (zA (g := gb408) (o := .cells #[.int .i64 0, .int .i64 0] 35 (0, 0)) (by exact qq.1) hb); have qI := Aside0.mk ((by rw [hg]; exact Nat.ne_of_lt (IsS102.lt (show IsS102 w0 _ g s0_0 t411 t412 from by exact HI0.1)) : g ≠ gb413)); have NB413_0 := Aside0.mk ((by rw [hg]; exact Nat.ne_of_gt (IsS102.lt (show IsS102 w0 _ g s0_0 t411 t412 from by exact HI0.1)) : gb413 ≠ g)); replace HI0 := Aside0.mk (IsS102.below HI0.1 hb); clear hb hbox hg; have hnb8 := NB413_408.1; have hnc8 := qD.1; have hnb9 := NB413_0.1; have hnc9 := qI.1; have hcz10_0 : w7.cell? ⟨gb413, 0, none⟩ = some (.int .i64 0) := (zn qC.1 0).trans rfl; have hcz10_1 : w7.cell? ⟨gb413, 1, none⟩ = some (.int .i64 0) := (zn qC.1 1).trans rfl; have hfz10_0 := zh qC.1 0; have hfz10_1 := zh qC.1 1) | ((with_reducible refine zE (f := 56) rfl ?_); refine zR (some 7) rfl rfl Try.func56 (by kernel_rfl) rfl #[.agg #[.int .i64 t409, .int .i64 t410]] rfl (by (try simp only [List.map_toArray, List.map_cons, List.map_nil]); rfl) ?_; (with_reducible refine (spec_GoodPrefix.calls t409 t410 true _ A3.1).mono ?_); rintro e w11 ⟨rfl, hb⟩; refine ⟨_, rfl, ?_⟩; replace HI0 := Aside0.mk (IsS102.below (show IsS102 w0 ((w7.setCell ⟨gb413, 0, none⟩ (.int .i64 t409)).setCell ⟨gb413, 1, none⟩ (.int .i64 t410)) g s0_0 t411 t412 from by repeat ((with_reducible first | exact HI0.1 | refine IsS102.far ?_ qI.1 _))) hb); replace qq := Aside0.mk (zA (g := gb408) (o := .cells #[.int .i64 0, .int .i64 0] 35 (0, 0)) (by refine zS ?_ qD.1 _; refine zS ?_ qD.1 _; exact qq.1) hb); replace qC := Aside0.mk (zA (g := gb413) (o := .cells #[.int .i64 t409, .int .i64 t410] 35 (0, 0)) (by refine zF (cs := #[.int .i64 t409, .int .i64 0]) ?_ 1 _ rfl; refine zF (cs := #[.int .i64 0, .int .i64 0]) ?_ 0 _ rfl; exact qC.1) hb); replace HK := Aside0.mk (zl (by repeat ((with_reducible first | exact HK.1 | refine zo ?_ qS.1 _))) (zp hb g none) (.inl rfl)); replace HB := Aside0.mk (zr (by repeat ((with_reducible first | exact HB.1 | refine zb ?_ qT.1))) hb); (try clear hb); (try clear hb2); (try clear hk); (try clear hi); have hcz12_0 : w11.cell? ⟨gb413, 0, none⟩ = some (.int .i64 t409) := (zn qC.1 0).trans rfl; have hcz12_1 : w11.cell? ⟨gb413, 1, none⟩ = some (.int .i64 t410) := (zn qC.1 1).trans rfl; have hfz12_0 := zh qC.1 0; have hfz12_1 := zh qC.1 1; have hnb13 := qK.1; have hnc13 := qy.1; have hcz14_0 : w11.cell? ⟨gb408, 0, none⟩ = some (.int .i64 0) := (zn qq.1 0).trans rfl; have hcz14_1 : w11.cell? ⟨gb408, 1, none⟩ = some (.int .i64 0) := (zn qq.1 1).trans rfl; have hfz14_0 := zh qq.1 0; have hfz14_1 := zh qq.1 1))
  refine bodyPost_ret (results_cell_row rfl _ _ gb408 35 #[.int .i64 t409, .int .i64 t410] (0, 0) _ rfl (by refine zF (cs := #[.int .i64 t409, .int .i64 0]) ?_ 1 _ rfl; refine zF (cs := #[.int .i64 0, .int .i64 0]) ?_ 0 _ rfl; exact qq.1) Try.underlying35 rfl (by kernel_rfl)) rfl ?_
  exact ⟨by rfl, by repeat ((with_reducible first | exact HI0.1 | refine IsS102.far ?_ qy.1 _)), by repeat ((with_reducible first | exact HB.1 | refine zb ?_ qJ.1)), by repeat ((with_reducible first | exact HK.1 | refine zo ?_ qH.1 _))⟩
 ·
  replace c4 := Bool.eq_false_iff.mpr c4
  subst c4
  have H1 : (some (167772160, 8, t411, t412)) = some (r1, r2, r3, r4) := by rw [if_neg (show ¬ (false = true) by decide)] at H; exact H
  clear H
  have H := H1
  clear H1
  simp only [Option.some.injEq, Prod.mk.injEq] at H
  obtain ⟨rfl, rfl, rfl, rfl⟩ := H
  go_enter Try.func93, Try.ntmps93
  go_wp2_with (first | ((with_reducible refine zy (N := 2) rfl ?_); refine zD ?hg (N := 2) ?hd (cs := #[.int .i64 0, .int .i64 0]) (t := 35) ?hr ?_; (case hd => rfl); (case hg => rfl); (case hr => (go_simp; done)); intro gb408 hg w15 hbox hb; replace HB := Aside0.mk (zr HB.1 hb); have qq := Aside0.mk hbox; have qH := Aside0.mk ((by rw [hg]; exact (zx (w := w) (g := g) (row := none) HK.1) : w.heap.size ≤ gb408)); have qJ := Aside0.mk ((Nat.le_trans HW0.1 (by rw [hg]; exact (zx (w := w) (g := g) (row := none) HK.1) : w.heap.size ≤ gb408) : w0.heap.size ≤ gb408)); replace HK := Aside0.mk (zl HK.1 (zp hb g none) (.inl rfl)); have qy := Aside0.mk ((by rw [hg]; exact Nat.ne_of_lt (IsS102.lt (show IsS102 w0 _ g s0_0 s0_1 s0_2 from by exact HI0.1)) : g ≠ gb408)); have qK := Aside0.mk ((by rw [hg]; exact Nat.ne_of_gt (IsS102.lt (show IsS102 w0 _ g s0_0 s0_1 s0_2 from by exact HI0.1)) : gb408 ≠ g)); replace HI0 := Aside0.mk (IsS102.below HI0.1 hb); clear hb hbox hg) | ((with_reducible refine zE (f := 116) rfl ?_); refine zR (some 5) rfl rfl Try.func116 (by kernel_rfl) rfl #[.pointer (some ⟨g, 0, none⟩)] rfl (by (try simp only [List.map_toArray, List.map_cons, List.map_nil]); rfl) ?_; (with_reducible refine (spec_l1Cur_prefix.calls g s0_0 s0_1 s0_2 t409 t410 t411 t412 w0 _ ?side1 ?side2 A2.1).mono ?_); (case side1 => repeat (with_reducible exact HI0.1)); (case side2 => repeat (with_reducible exact HB.1)); rintro e w16 ⟨rfl, hi, hb, hk⟩; refine ⟨_, rfl, ?_⟩; replace qq := Aside0.mk (zC hk (g' := gb408) (o := .cells #[.int .i64 0, .int .i64 0] 35 (0, 0)) (by exact qq.1) qK.1 (by simp)); replace HK := Aside0.mk (zl HK.1 hk (.inl rfl)); replace HB := Aside0.mk hb; replace HI0 := Aside0.mk hi; (try clear hb); (try clear hb2); (try clear hk); (try clear hi)) | ((with_reducible refine zy (N := 3) rfl ?_); refine zD ?hg (N := 3) ?hd (cs := #[.int .i64 0, .int .i64 0]) (t := 35) ?hr ?_; (case hd => rfl); (case hg => rfl); (case hr => (go_simp; done)); intro gb413 hg w17 hbox hb; replace HB := Aside0.mk (zr HB.1 hb); have qC := Aside0.mk hbox; have qS := Aside0.mk ((by rw [hg]; exact (zx (w := w) (g := g) (row := none) HK.1) : w.heap.size ≤ gb413)); have qT := Aside0.mk ((Nat.le_trans HW0.1 (by rw [hg]; exact (zx (w := w) (g := g) (row := none) HK.1) : w.heap.size ≤ gb413) : w0.heap.size ≤ gb413)); replace HK := Aside0.mk (zl HK.1 (zp hb g none) (.inl rfl)); have qD := Aside0.mk ((by rw [hg]; exact Nat.ne_of_lt (zN (g := gb408) (o := .cells #[.int .i64 0, .int .i64 0] 35 (0, 0)) (by exact qq.1)) : gb408 ≠ gb413)); have NB413_408 := Aside0.mk ((by rw [hg]; exact Nat.ne_of_gt (zN (g := gb408) (o := .cells #[.int .i64 0, .int .i64 0] 35 (0, 0)) (by exact qq.1)) : gb413 ≠ gb408)); replace qq := Aside0.mk (zA (g := gb408) (o := .cells #[.int .i64 0, .int .i64 0] 35 (0, 0)) (by exact qq.1) hb); have qI := Aside0.mk ((by rw [hg]; exact Nat.ne_of_lt (IsS102.lt (show IsS102 w0 _ g s0_0 t411 t412 from by exact HI0.1)) : g ≠ gb413)); have NB413_0 := Aside0.mk ((by rw [hg]; exact Nat.ne_of_gt (IsS102.lt (show IsS102 w0 _ g s0_0 t411 t412 from by exact HI0.1)) : gb413 ≠ g)); replace HI0 := Aside0.mk (IsS102.below HI0.1 hb); clear hb hbox hg; have hnb18 := NB413_408.1; have hnc18 := qD.1; have hnb19 := NB413_0.1; have hnc19 := qI.1; have hcz20_0 : w17.cell? ⟨gb413, 0, none⟩ = some (.int .i64 0) := (zn qC.1 0).trans rfl; have hcz20_1 : w17.cell? ⟨gb413, 1, none⟩ = some (.int .i64 0) := (zn qC.1 1).trans rfl; have hfz20_0 := zh qC.1 0; have hfz20_1 := zh qC.1 1) | ((with_reducible refine zE (f := 56) rfl ?_); refine zR (some 7) rfl rfl Try.func56 (by kernel_rfl) rfl #[.agg #[.int .i64 t409, .int .i64 t410]] rfl (by (try simp only [List.map_toArray, List.map_cons, List.map_nil]); rfl) ?_; (with_reducible refine (spec_GoodPrefix.calls t409 t410 false _ A3.1).mono ?_); rintro e w21 ⟨rfl, hb⟩; refine ⟨_, rfl, ?_⟩; replace HI0 := Aside0.mk (IsS102.below (show IsS102 w0 ((w17.setCell ⟨gb413, 0, none⟩ (.int .i64 t409)).setCell ⟨gb413, 1, none⟩ (.int .i64 t410)) g s0_0 t411 t412 from by repeat ((with_reducible first | exact HI0.1 | refine IsS102.far ?_ qI.1 _))) hb); replace qq := Aside0.mk (zA (g := gb408) (o := .cells #[.int .i64 0, .int .i64 0] 35 (0, 0)) (by refine zS ?_ qD.1 _; refine zS ?_ qD.1 _; exact qq.1) hb); replace HK := Aside0.mk (zl (by repeat ((with_reducible first | exact HK.1 | refine zo ?_ qS.1 _))) (zp hb g none) (.inl rfl)); replace HB := Aside0.mk (zr (by repeat ((with_reducible first | exact HB.1 | refine zb ?_ qT.1))) hb); (try clear hb); (try clear hb2); (try clear hk); (try clear hi); have hnb22 := qK.1; have hnc22 := qy.1; have hcz23_0 : w21.cell? ⟨gb408, 0, none⟩ = some (.int .i64 0) := (zn qq.1 0).trans rfl; have hcz23_1 : w21.cell? ⟨gb408, 1, none⟩ = some (.int .i64 0) := (zn qq.1 1).trans rfl; have hfz23_0 := zh qq.1 0; have hfz23_1 := zh qq.1 1))
  refine bodyPost_ret (results_cell_row rfl _ _ gb408 35 #[.int .i64 167772160, .int .i64 8] (0, 0) _ rfl (by refine zF (cs := #[.int .i64 167772160, .int .i64 0]) ?_ 1 _ rfl; refine zF (cs := #[.int .i64 0, .int .i64 0]) ?_ 0 _ rfl; exact qq.1) Try.underlying35 rfl (by kernel_rfl)) rfl ?_
  exact ⟨by rfl, by repeat ((with_reducible first | exact HI0.1 | refine IsS102.far ?_ qy.1 _)), by repeat ((with_reducible first | exact HB.1 | refine zb ?_ qJ.1)), by repeat ((with_reducible first | exact HK.1 | refine zo ?_ qH.1 _))⟩

/-! ### spec_l1Cur_spoilt: function 95 -/
mutual
def spec_l1Cur_spoilt.l0 : Nat → ByteArray → ByteArray → Int → List Int → Int → Int → Option (ByteArray × Int × Int)
 | 0, _, _, _, _, _, _ => none
 | k + 1, x1, x2, x7, qL, qU, qV => if x7 > 0 then (spec_l1Cur_spoilt.j1 k x1 x2 x7 (decide ((x1.size : Int) > 0)) qL qU qV) else (spec_l1Cur_spoilt.j1 k x1 x2 x7 false qL qU qV)
def spec_l1Cur_spoilt.j1 : Nat → ByteArray → ByteArray → Int → Bool → List Int → Int → Int → Option (ByteArray × Int × Int)
 | 0, _, _, _, _, _, _, _ => none
 | k + 1, x1, x2, x7, x18, qL, qU, qV => if x18 = true then ((spec_l1Cur_pick.f qL qU qV (x1.size : Int)).bind fun bt418 => ((spec_l1Cur_pick.f qL bt418.2.1 bt418.2.2 (x2.size : Int)).bind fun bt421 => (if 0 ≤ bt421.1 then (if bt421.1 < (x2.size : Int) then ((some (([bt x2 bt421.1] : List Int) : List Int)).bind fun y424 => ((spec_l1Cur_pick.f qL bt421.2.1 bt421.2.2 3).bind fun bt427 => (if bt427.1 = 0 then (if 0 ≤ bt418.1 then (if bt418.1 ≤ (x1.size : Int) then (if (x1.extract 0 (bt418.1 : Int).toNat).size + (strOfNums y424).size ≤ 9223372036854775807 then (if ((x1.extract 0 (bt418.1 : Int).toNat) ++ (strOfNums y424)).size + (x1.extract (bt418.1 : Int).toNat x1.size).size ≤ 9223372036854775807 then (spec_l1Cur_spoilt.l0 k (((x1.extract 0 (bt418.1 : Int).toNat) ++ (strOfNums y424)) ++ (x1.extract (bt418.1 : Int).toNat x1.size)) x2 (wrap64 (x7 - 1)) qL bt427.2.1 bt427.2.2) else (none)) else (none)) else (none)) else (none)) else (if bt427.1 = 1 then (if 0 ≤ bt418.1 then (if bt418.1 ≤ (x1.size : Int) then (if (x1.extract 0 (bt418.1 : Int).toNat).size + (strOfNums y424).size ≤ 9223372036854775807 then (if 0 ≤ (wrap64 (bt418.1 + 1)) then (if (wrap64 (bt418.1 + 1)) ≤ (x1.size : Int) then (if ((x1.extract 0 (bt418.1 : Int).toNat) ++ (strOfNums y424)).size + (x1.extract ((wrap64 (bt418.1 + 1)) : Int).toNat x1.size).size ≤ 9223372036854775807 then (spec_l1Cur_spoilt.l0 k (((x1.extract 0 (bt418.1 : Int).toNat) ++ (strOfNums y424)) ++ (x1.extract ((wrap64 (bt418.1 + 1)) : Int).toNat x1.size)) x2 (wrap64 (x7 - 1)) qL bt427.2.1 bt427.2.2) else (none)) else (none)) else (none)) else (none)) else (none)) else (none)) else (if 0 ≤ bt418.1 then (if bt418.1 ≤ (x1.size : Int) then (if 0 ≤ (wrap64 (bt418.1 + 1)) then (if (wrap64 (bt418.1 + 1)) ≤ (x1.size : Int) then (if (x1.extract 0 (bt418.1 : Int).toNat).size + (x1.extract ((wrap64 (bt418.1 + 1)) : Int).toNat x1.size).size ≤ 9223372036854775807 then (spec_l1Cur_spoilt.l0 k ((x1.extract 0 (bt418.1 : Int).toNat) ++ (x1.extract ((wrap64 (bt418.1 + 1)) : Int).toNat x1.size)) x2 (wrap64 (x7 - 1)) qL bt427.2.1 bt427.2.2) else (none)) else (none)) else (none)) else (none)) else (none)))))) else (none)) else (none)))) else (some (x1, qU, qV))
end
def spec_l1Cur_spoilt.f (k : Nat) (s0_0 : List Int) (s0_1 : Int) (s0_2 : Int) (a1 : ByteArray) (a2 : ByteArray) : Option (ByteArray × Int × Int) := (spec_l1Cur_pick.f s0_0 s0_1 s0_2 3).bind fun bt415 => (spec_l1Cur_spoilt.l0 k a1 a2 bt415.1 s0_0 bt415.2.1 bt415.2.2)
theorem spec_l1Cur_spoilt.mono_l : ∀ k, (∀ y0 y1 y2 y3 y4 y5, LeO (spec_l1Cur_spoilt.l0 k y0 y1 y2 y3 y4 y5) (spec_l1Cur_spoilt.l0 (k + 1) y0 y1 y2 y3 y4 y5)) ∧ (∀ y0 y1 y2 y3 y4 y5 y6, LeO (spec_l1Cur_spoilt.j1 k y0 y1 y2 y3 y4 y5 y6) (spec_l1Cur_spoilt.j1 (k + 1) y0 y1 y2 y3 y4 y5 y6))
 | 0 => ⟨fun _ _ _ _ _ _ r h => by simp [spec_l1Cur_spoilt.l0] at h, fun _ _ _ _ _ _ _ r h => by simp [spec_l1Cur_spoilt.j1] at h⟩
 | k + 1 => by
  obtain ⟨ih0, ih1⟩ := spec_l1Cur_spoilt.mono_l k
  refine ⟨?_, ?_⟩
  ·
   intro y0 y1 y2 y3 y4 y5
   unfold spec_l1Cur_spoilt.l0
   repeat' first
   | (with_reducible exact ih1 _ _ _ _ _ _ _)
   | (with_reducible refine zY ?_ ?_)
  ·
   intro y0 y1 y2 y3 y4 y5 y6
   unfold spec_l1Cur_spoilt.j1
   repeat' first
   | (with_reducible exact ih0 _ _ _ _ _ _)
   | (with_reducible exact LeO.refl _)
   | (with_reducible refine zY ?_ ?_)
   | (with_reducible refine zW ?_ (fun _ => ?_))
theorem spec_l1Cur_spoilt.mono : ∀ a0 a1 a2 a3 a4 k, LeO (spec_l1Cur_spoilt.f k a0 a1 a2 a3 a4) (spec_l1Cur_spoilt.f (k + 1) a0 a1 a2 a3 a4) := by
 intro a0 a1 a2 a3 a4 k
 obtain ⟨ih0, ih1⟩ := spec_l1Cur_spoilt.mono_l k
 unfold spec_l1Cur_spoilt.f
 repeat' first
   | (with_reducible exact ih0 _ _ _ _ _ _)
   | (with_reducible exact LeO.refl _)
   | (with_reducible refine zW ?_ (fun _ => ?_))
set_option maxHeartbeats 8000000 in
set_option maxRecDepth 100000 in
theorem spec_l1Cur_spoilt.calls (k : Nat) (g : Nat) (s0_0 : List Int) (s0_1 : Int) (s0_2 : Int) (a1 : ByteArray) (a2 : ByteArray) (r1 : ByteArray) (r2 : Int) (r3 : Int) (w0 w : World) (hI : IsS102 w0 w g s0_0 s0_1 s0_2) (hB : Below w0.heap.size w0 w) (h : spec_l1Cur_spoilt.f k s0_0 s0_1 s0_2 a1 a2 = some (r1, r2, r3)) :
  Calls Try.prog 95 #[.pointer (some ⟨g, 0, none⟩), .string a1, .string a2] w fun e w' => e = .returned (.string r1) ∧ IsS102 w0 w' g s0_0 r2 r3 ∧ Below w0.heap.size w0 w' ∧ KeepBut w w' g none := by
 have HI0 := Aside0.mk hI
 have HK := Aside0.mk (KeepBut.refl w g none)
 have HL := Aside0.mk hB.size
 clear hI
 have HW0 := Aside0.mk hB.size
 have HB := Aside0.mk hB
 clear hB
 have H : ((spec_l1Cur_pick.f s0_0 s0_1 s0_2 3).bind fun bt415 => (spec_l1Cur_spoilt.l0 k a1 a2 bt415.1 s0_0 bt415.2.1 bt415.2.2)) = some (r1, r2, r3) := h
 clear h
 replace H := Option.bind_eq_some_iff.mp H
 obtain ⟨⟨t415, t416, t417⟩, A40, H⟩ := H
 replace H : (spec_l1Cur_spoilt.l0 k a1 a2 t415 s0_0 t416 t417) = some (r1, r2, r3) := H
 have A4 := Aside0.mk A40
 clear A40
 have H' := Aside0.mk H
 clear H
 go_enter Try.func95, Try.ntmps95
 go_wp2_with ((go_at_call 92; (with_reducible refine (spec_l1Cur_pick.calls g s0_0 s0_1 s0_2 3 t415 t416 t417 w0 _ ?side1 ?side2 A4.1).mono ?_); (case side1 => repeat (with_reducible exact HI0.1)); (case side2 => repeat (with_reducible exact HB.1)); rintro e w5 ⟨rfl, hi, hb, hk⟩; replace HK := Aside0.mk (zl HK.1 hk (.inl rfl)); replace HB := Aside0.mk hb; replace HI0 := Aside0.mk hi; (try clear hb); (try clear hb2); (try clear hk); (try clear hi)))
 repeat (go_quiet (fail); try go_wp2_with (fail))
 go_loopg [1, 7] k (fun kq v1 v7 w' => ∃ (x1_1 : ByteArray) (x7_1 : Int) (qt : Int) (qu : Int), v1 = .string x1_1 ∧ v7 = .int .i64 x7_1 ∧ qc (spec_l1Cur_spoilt.l0 kq x1_1 a2 x7_1 s0_0 qt qu = some (r1, r2, r3)) ∧ qc (kq ≤ k) ∧ qc (IsS102 w0 w' g s0_0 qt qu) ∧ qc (KeepBut w w' g none) ∧ qc (Below w0.heap.size w0 w'))
 case atStart => exact ⟨(a1), (t415), (t416), (t417), (by rfl), (by rfl), H', ⟨Nat.le_refl _⟩, ⟨by exact HI0.1⟩, ⟨by exact HK.1⟩, ⟨by exact HB.1⟩⟩
 case round =>
  clear H'
  (try clear p2)
  obtain ⟨x1_1, x7_1, qt, qu, rfl, rfl, HA, HK1, HI0, HK, HB⟩ := hrel
  cases gk with
  | zero => exact absurd HA.1 (by simp [spec_l1Cur_spoilt.l0])
  | succ k1 =>
   have H := HA.1
   clear HA
   simp only [spec_l1Cur_spoilt.l0] at H
   have HC6 := Aside0.mk H
   clear H
   go_upto_region 2 with (fail)
   repeat (go_quiet (fail); go_upto_region 2 with (fail))
   go_cut [18] (fun v18 wc => ∃ (kq : Nat) (x18_5 : Bool), v18 = .bool x18_5 ∧ qc (spec_l1Cur_spoilt.j1 kq x1_1 a2 x7_1 x18_5 s0_0 qt qu = some (r1, r2, r3)) ∧ qc (kq ≤ k1) ∧ qc (IsS102 w0 wc g s0_0 qt qu) ∧ qc (KeepBut w wc g none) ∧ qc (Below w0.heap.size w0 wc))
   case first =>
    have H := HC6.1
    clear HC6
    by_cases c7 : x7_1 > 0
    ·
     rw [if_pos c7] at H
     have c7b0 : decide (0 < x7_1) = true := decide_eq_true c7
     clear c7
     skip
     have H' := Aside0.mk H
     clear H
     go_wp2
     repeat (go_quiet (fail); try go_wp2)
     go_meet
     case rel => exact ⟨_, (decide ((x1_1.size : Int) > 0)), (by (simp; done)), H', ⟨by have := HK1.1; omega⟩, ⟨by exact HI0.1⟩, ⟨by exact HK.1⟩, ⟨by exact HB.1⟩⟩
    ·
     rw [if_neg c7] at H
     have c7b0 : decide (0 < x7_1) = false := decide_eq_false c7
     clear c7
     skip
     have H' := Aside0.mk H
     clear H
     go_wp2
     repeat (go_quiet (fail); try go_wp2)
     go_meet
     case rel => exact ⟨_, (false), (by rfl), H', ⟨by have := HK1.1; omega⟩, ⟨by exact HI0.1⟩, ⟨by exact HK.1⟩, ⟨by exact HB.1⟩⟩
   case rest =>
    clear HC6
    (try clear p2); (try clear c7); (try clear c7b0); (try clear p2)
    obtain ⟨kq, x18_5, rfl, HA, HJ5, HI0, HK, HB⟩ := hcut
    cases kq with
    | zero => exact absurd HA.1 (by simp [spec_l1Cur_spoilt.j1])
    | succ kj5 =>
     have H := HA.1
     clear HA
     simp only [spec_l1Cur_spoilt.j1] at H
     by_cases c8 : x18_5 = true
     ·
      subst c8
      have H1 : ((spec_l1Cur_pick.f s0_0 qt qu (x1_1.size : Int)).bind fun bt418 => ((spec_l1Cur_pick.f s0_0 bt418.2.1 bt418.2.2 (a2.size : Int)).bind fun bt421 => (if 0 ≤ bt421.1 then (if bt421.1 < (a2.size : Int) then ((some (([bt a2 bt421.1] : List Int) : List Int)).bind fun y424 => ((spec_l1Cur_pick.f s0_0 bt421.2.1 bt421.2.2 3).bind fun bt427 => (if bt427.1 = 0 then (if 0 ≤ bt418.1 then (if bt418.1 ≤ (x1_1.size : Int) then (if (x1_1.extract 0 (bt418.1 : Int).toNat).size + (strOfNums y424).size ≤ 9223372036854775807 then (if ((x1_1.extract 0 (bt418.1 : Int).toNat) ++ (strOfNums y424)).size + (x1_1.extract (bt418.1 : Int).toNat x1_1.size).size ≤ 9223372036854775807 then (spec_l1Cur_spoilt.l0 kj5 (((x1_1.extract 0 (bt418.1 : Int).toNat) ++ (strOfNums y424)) ++ (x1_1.extract (bt418.1 : Int).toNat x1_1.size)) a2 (wrap64 (x7_1 - 1)) s0_0 bt427.2.1 bt427.2.2) else (none)) else (none)) else (none)) else (none)) else (if bt427.1 = 1 then (if 0 ≤ bt418.1 then (if bt418.1 ≤ (x1_1.size : Int) then (if (x1_1.extract 0 (bt418.1 : Int).toNat).size + (strOfNums y424).size ≤ 9223372036854775807 then (if 0 ≤ (wrap64 (bt418.1 + 1)) then (if (wrap64 (bt418.1 + 1)) ≤ (x1_1.size : Int) then (if ((x1_1.extract 0 (bt418.1 : Int).toNat) ++ (strOfNums y424)).size + (x1_1.extract ((wrap64 (bt418.1 + 1)) : Int).toNat x1_1.size).size ≤ 9223372036854775807 then (spec_l1Cur_spoilt.l0 kj5 (((x1_1.extract 0 (bt418.1 : Int).toNat) ++ (strOfNums y424)) ++ (x1_1.extract ((wrap64 (bt418.1 + 1)) : Int).toNat x1_1.size)) a2 (wrap64 (x7_1 - 1)) s0_0 bt427.2.1 bt427.2.2) else (none)) else (none)) else (none)) else (none)) else (none)) else (none)) else (if 0 ≤ bt418.1 then (if bt418.1 ≤ (x1_1.size : Int) then (if 0 ≤ (wrap64 (bt418.1 + 1)) then (if (wrap64 (bt418.1 + 1)) ≤ (x1_1.size : Int) then (if (x1_1.extract 0 (bt418.1 : Int).toNat).size + (x1_1.extract ((wrap64 (bt418.1 + 1)) : Int).toNat x1_1.size).size ≤ 9223372036854775807 then (spec_l1Cur_spoilt.l0 kj5 ((x1_1.extract 0 (bt418.1 : Int).toNat) ++ (x1_1.extract ((wrap64 (bt418.1 + 1)) : Int).toNat x1_1.size)) a2 (wrap64 (x7_1 - 1)) s0_0 bt427.2.1 bt427.2.2) else (none)) else (none)) else (none)) else (none)) else (none)))))) else (none)) else (none)))) = some (r1, r2, r3) := by rw [if_pos rfl] at H; exact H
      clear H
      have H := H1
      clear H1
      replace H := Option.bind_eq_some_iff.mp H
      obtain ⟨⟨t418, t419, t420⟩, A90, H⟩ := H
      replace H : ((spec_l1Cur_pick.f s0_0 t419 t420 (a2.size : Int)).bind fun bt421 => (if 0 ≤ bt421.1 then (if bt421.1 < (a2.size : Int) then ((some (([bt a2 bt421.1] : List Int) : List Int)).bind fun y424 => ((spec_l1Cur_pick.f s0_0 bt421.2.1 bt421.2.2 3).bind fun bt427 => (if bt427.1 = 0 then (if 0 ≤ t418 then (if t418 ≤ (x1_1.size : Int) then (if (x1_1.extract 0 (t418 : Int).toNat).size + (strOfNums y424).size ≤ 9223372036854775807 then (if ((x1_1.extract 0 (t418 : Int).toNat) ++ (strOfNums y424)).size + (x1_1.extract (t418 : Int).toNat x1_1.size).size ≤ 9223372036854775807 then (spec_l1Cur_spoilt.l0 kj5 (((x1_1.extract 0 (t418 : Int).toNat) ++ (strOfNums y424)) ++ (x1_1.extract (t418 : Int).toNat x1_1.size)) a2 (wrap64 (x7_1 - 1)) s0_0 bt427.2.1 bt427.2.2) else (none)) else (none)) else (none)) else (none)) else (if bt427.1 = 1 then (if 0 ≤ t418 then (if t418 ≤ (x1_1.size : Int) then (if (x1_1.extract 0 (t418 : Int).toNat).size + (strOfNums y424).size ≤ 9223372036854775807 then (if 0 ≤ (wrap64 (t418 + 1)) then (if (wrap64 (t418 + 1)) ≤ (x1_1.size : Int) then (if ((x1_1.extract 0 (t418 : Int).toNat) ++ (strOfNums y424)).size + (x1_1.extract ((wrap64 (t418 + 1)) : Int).toNat x1_1.size).size ≤ 9223372036854775807 then (spec_l1Cur_spoilt.l0 kj5 (((x1_1.extract 0 (t418 : Int).toNat) ++ (strOfNums y424)) ++ (x1_1.extract ((wrap64 (t418 + 1)) : Int).toNat x1_1.size)) a2 (wrap64 (x7_1 - 1)) s0_0 bt427.2.1 bt427.2.2) else (none)) else (none)) else (none)) else (none)) else (none)) else (none)) else (if 0 ≤ t418 then (if t418 ≤ (x1_1.size : Int) then (if 0 ≤ (wrap64 (t418 + 1)) then (if (wrap64 (t418 + 1)) ≤ (x1_1.size : Int) then (if (x1_1.extract 0 (t418 : Int).toNat).size + (x1_1.extract ((wrap64 (t418 + 1)) : Int).toNat x1_1.size).size ≤ 9223372036854775807 then (spec_l1Cur_spoilt.l0 kj5 ((x1_1.extract 0 (t418 : Int).toNat) ++ (x1_1.extract ((wrap64 (t418 + 1)) : Int).toNat x1_1.size)) a2 (wrap64 (x7_1 - 1)) s0_0 bt427.2.1 bt427.2.2) else (none)) else (none)) else (none)) else (none)) else (none)))))) else (none)) else (none))) = some (r1, r2, r3) := H
      have A9 := Aside0.mk A90
      clear A90
      replace H := Option.bind_eq_some_iff.mp H
      obtain ⟨⟨t421, t422, t423⟩, A100, H⟩ := H
      replace H : (if 0 ≤ t421 then (if t421 < (a2.size : Int) then ((some (([bt a2 t421] : List Int) : List Int)).bind fun y424 => ((spec_l1Cur_pick.f s0_0 t422 t423 3).bind fun bt427 => (if bt427.1 = 0 then (if 0 ≤ t418 then (if t418 ≤ (x1_1.size : Int) then (if (x1_1.extract 0 (t418 : Int).toNat).size + (strOfNums y424).size ≤ 9223372036854775807 then (if ((x1_1.extract 0 (t418 : Int).toNat) ++ (strOfNums y424)).size + (x1_1.extract (t418 : Int).toNat x1_1.size).size ≤ 9223372036854775807 then (spec_l1Cur_spoilt.l0 kj5 (((x1_1.extract 0 (t418 : Int).toNat) ++ (strOfNums y424)) ++ (x1_1.extract (t418 : Int).toNat x1_1.size)) a2 (wrap64 (x7_1 - 1)) s0_0 bt427.2.1 bt427.2.2) else (none)) else (none)) else (none)) else (none)) else (if bt427.1 = 1 then (if 0 ≤ t418 then (if t418 ≤ (x1_1.size : Int) then (if (x1_1.extract 0 (t418 : Int).toNat).size + (strOfNums y424).size ≤ 9223372036854775807 then (if 0 ≤ (wrap64 (t418 + 1)) then (if (wrap64 (t418 + 1)) ≤ (x1_1.size : Int) then (if ((x1_1.extract 0 (t418 : Int).toNat) ++ (strOfNums y424)).size + (x1_1.extract ((wrap64 (t418 + 1)) : Int).toNat x1_1.size).size ≤ 9223372036854775807 then (spec_l1Cur_spoilt.l0 kj5 (((x1_1.extract 0 (t418 : Int).toNat) ++ (strOfNums y424)) ++ (x1_1.extract ((wrap64 (t418 + 1)) : Int).toNat x1_1.size)) a2 (wrap64 (x7_1 - 1)) s0_0 bt427.2.1 bt427.2.2) else (none)) else (none)) else (none)) else (none)) else (none)) else (none)) else (if 0 ≤ t418 then (if t418 ≤ (x1_1.size : Int) then (if 0 ≤ (wrap64 (t418 + 1)) then (if (wrap64 (t418 + 1)) ≤ (x1_1.size : Int) then (if (x1_1.extract 0 (t418 : Int).toNat).size + (x1_1.extract ((wrap64 (t418 + 1)) : Int).toNat x1_1.size).size ≤ 9223372036854775807 then (spec_l1Cur_spoilt.l0 kj5 ((x1_1.extract 0 (t418 : Int).toNat) ++ (x1_1.extract ((wrap64 (t418 + 1)) : Int).toNat x1_1.size)) a2 (wrap64 (x7_1 - 1)) s0_0 bt427.2.1 bt427.2.2) else (none)) else (none)) else (none)) else (none)) else (none)))))) else (none)) else (none)) = some (r1, r2, r3) := H
      have A10 := Aside0.mk A100
      clear A100
      by_cases c11 : 0 ≤ t421
      ·
       rw [if_pos c11] at H
       have c11b0 : decide (0 ≤ t421) = true := decide_eq_true c11
       clear c11
       by_cases c12 : t421 < (a2.size : Int)
       ·
        rw [if_pos c12] at H
        have c12b0 : decide (t421 < (a2.size : Int)) = true := decide_eq_true c12
        clear c12
        obtain ⟨y424, hy424⟩ : ∃ y_ : List Int, y_ = (([bt a2 t421] : List Int)) := ⟨_, rfl⟩
        replace H : ((spec_l1Cur_pick.f s0_0 t422 t423 3).bind fun bt427 => (if bt427.1 = 0 then (if 0 ≤ t418 then (if t418 ≤ (x1_1.size : Int) then (if (x1_1.extract 0 (t418 : Int).toNat).size + (strOfNums y424).size ≤ 9223372036854775807 then (if ((x1_1.extract 0 (t418 : Int).toNat) ++ (strOfNums y424)).size + (x1_1.extract (t418 : Int).toNat x1_1.size).size ≤ 9223372036854775807 then (spec_l1Cur_spoilt.l0 kj5 (((x1_1.extract 0 (t418 : Int).toNat) ++ (strOfNums y424)) ++ (x1_1.extract (t418 : Int).toNat x1_1.size)) a2 (wrap64 (x7_1 - 1)) s0_0 bt427.2.1 bt427.2.2) else (none)) else (none)) else (none)) else (none)) else (if bt427.1 = 1 then (if 0 ≤ t418 then (if t418 ≤ (x1_1.size : Int) then (if (x1_1.extract 0 (t418 : Int).toNat).size + (strOfNums y424).size ≤ 9223372036854775807 then (if 0 ≤ (wrap64 (t418 + 1)) then (if (wrap64 (t418 + 1)) ≤ (x1_1.size : Int) then (if ((x1_1.extract 0 (t418 : Int).toNat) ++ (strOfNums y424)).size + (x1_1.extract ((wrap64 (t418 + 1)) : Int).toNat x1_1.size).size ≤ 9223372036854775807 then (spec_l1Cur_spoilt.l0 kj5 (((x1_1.extract 0 (t418 : Int).toNat) ++ (strOfNums y424)) ++ (x1_1.extract ((wrap64 (t418 + 1)) : Int).toNat x1_1.size)) a2 (wrap64 (x7_1 - 1)) s0_0 bt427.2.1 bt427.2.2) else (none)) else (none)) else (none)) else (none)) else (none)) else (none)) else (if 0 ≤ t418 then (if t418 ≤ (x1_1.size : Int) then (if 0 ≤ (wrap64 (t418 + 1)) then (if (wrap64 (t418 + 1)) ≤ (x1_1.size : Int) then (if (x1_1.extract 0 (t418 : Int).toNat).size + (x1_1.extract ((wrap64 (t418 + 1)) : Int).toNat x1_1.size).size ≤ 9223372036854775807 then (spec_l1Cur_spoilt.l0 kj5 ((x1_1.extract 0 (t418 : Int).toNat) ++ (x1_1.extract ((wrap64 (t418 + 1)) : Int).toNat x1_1.size)) a2 (wrap64 (x7_1 - 1)) s0_0 bt427.2.1 bt427.2.2) else (none)) else (none)) else (none)) else (none)) else (none))))) = some (r1, r2, r3) := by (have H2_ := (Option.bind_some _ _).symm.trans H; rw [hy424]; with_reducible exact H2_)
        have Ny424 := Aside0.mk hy424
        clear hy424
        replace H := Option.bind_eq_some_iff.mp H
        obtain ⟨⟨t427, t428, t429⟩, A140, H⟩ := H
        replace H : (if t427 = 0 then (if 0 ≤ t418 then (if t418 ≤ (x1_1.size : Int) then (if (x1_1.extract 0 (t418 : Int).toNat).size + (strOfNums y424).size ≤ 9223372036854775807 then (if ((x1_1.extract 0 (t418 : Int).toNat) ++ (strOfNums y424)).size + (x1_1.extract (t418 : Int).toNat x1_1.size).size ≤ 9223372036854775807 then (spec_l1Cur_spoilt.l0 kj5 (((x1_1.extract 0 (t418 : Int).toNat) ++ (strOfNums y424)) ++ (x1_1.extract (t418 : Int).toNat x1_1.size)) a2 (wrap64 (x7_1 - 1)) s0_0 t428 t429) else (none)) else (none)) else (none)) else (none)) else (if t427 = 1 then (if 0 ≤ t418 then (if t418 ≤ (x1_1.size : Int) then (if (x1_1.extract 0 (t418 : Int).toNat).size + (strOfNums y424).size ≤ 9223372036854775807 then (if 0 ≤ (wrap64 (t418 + 1)) then (if (wrap64 (t418 + 1)) ≤ (x1_1.size : Int) then (if ((x1_1.extract 0 (t418 : Int).toNat) ++ (strOfNums y424)).size + (x1_1.extract ((wrap64 (t418 + 1)) : Int).toNat x1_1.size).size ≤ 9223372036854775807 then (spec_l1Cur_spoilt.l0 kj5 (((x1_1.extract 0 (t418 : Int).toNat) ++ (strOfNums y424)) ++ (x1_1.extract ((wrap64 (t418 + 1)) : Int).toNat x1_1.size)) a2 (wrap64 (x7_1 - 1)) s0_0 t428 t429) else (none)) else (none)) else (none)) else (none)) else (none)) else (none)) else (if 0 ≤ t418 then (if t418 ≤ (x1_1.size : Int) then (if 0 ≤ (wrap64 (t418 + 1)) then (if (wrap64 (t418 + 1)) ≤ (x1_1.size : Int) then (if (x1_1.extract 0 (t418 : Int).toNat).size + (x1_1.extract ((wrap64 (t418 + 1)) : Int).toNat x1_1.size).size ≤ 9223372036854775807 then (spec_l1Cur_spoilt.l0 kj5 ((x1_1.extract 0 (t418 : Int).toNat) ++ (x1_1.extract ((wrap64 (t418 + 1)) : Int).toNat x1_1.size)) a2 (wrap64 (x7_1 - 1)) s0_0 t428 t429) else (none)) else (none)) else (none)) else (none)) else (none)))) = some (r1, r2, r3) := H
        have A14 := Aside0.mk A140
        clear A140
        by_cases c15 : t427 = 0
        ·
         rw [if_pos c15] at H
         have c15b0 : (t427 == 0) = true := beq_iff_eq.mpr c15
         have c15b1 : (t427 != 0) = false := bne_eq_false_iff_eq.mpr c15
         clear c15
         by_cases c16 : 0 ≤ t418
         ·
          rw [if_pos c16] at H
          have c16b0 := eq_true c16
          have c16b1 : decide (0 ≤ t418) = true := decide_eq_true c16
          clear c16
          by_cases c17 : t418 ≤ (x1_1.size : Int)
          ·
           rw [if_pos c17] at H
           have c17b0 := eq_true c17
           have c17b1 : decide (t418 ≤ (x1_1.size : Int)) = true := decide_eq_true c17
           clear c17
           by_cases c18 : (x1_1.extract 0 (t418 : Int).toNat).size + (strOfNums y424).size ≤ 9223372036854775807
           ·
            rw [if_pos c18] at H
            have c18b0 := eq_true c18
            have c18b1 : decide ((x1_1.extract 0 (t418 : Int).toNat).size + (strOfNums y424).size ≤ 9223372036854775807) = true := decide_eq_true c18
            try have c18b2 : (9223372036854775807 < (x1_1.extract 0 (t418 : Int).toNat).size + (strOfNums y424).size) = False := eq_false (Nat.not_lt.2 c18)
            try have c18b3 : (9223372036854775807 < (x1_1.extract 0 (t418 : Int).toNat).size + (strOfNums y424).size) = False := eq_false (by simp only [eq_iff_iff, iff_true, iff_false] at *; simp only [ByteArray.size_extract] at c18; omega)
            have c19b0 := eq_true (of_decide_eq_true (by (with_reducible assumption)) : 0 ≤ t418)
            have c20b0 := eq_true (of_decide_eq_true (by (with_reducible assumption)) : t418 ≤ (x1_1.size : Int))
            by_cases c21 : ((x1_1.extract 0 (t418 : Int).toNat) ++ (strOfNums y424)).size + (x1_1.extract (t418 : Int).toNat x1_1.size).size ≤ 9223372036854775807
            ·
             rw [if_pos c21] at H
             have c21b0 := eq_true c21
             have c21b1 : decide (((x1_1.extract 0 (t418 : Int).toNat) ++ (strOfNums y424)).size + (x1_1.extract (t418 : Int).toNat x1_1.size).size ≤ 9223372036854775807) = true := decide_eq_true c21
             try have c21b2 : (9223372036854775807 < ((x1_1.extract 0 (t418 : Int).toNat) ++ (strOfNums y424)).size + (x1_1.extract (t418 : Int).toNat x1_1.size).size) = False := eq_false (Nat.not_lt.2 c21)
             try have c21b3 : (9223372036854775807 < ((x1_1.extract 0 (t418 : Int).toNat) ++ (strOfNums y424)).size + (x1_1.extract (t418 : Int).toNat x1_1.size).size) = False := eq_false (by simp only [eq_iff_iff, iff_true, iff_false] at *; simp only [ByteArray.size_extract] at c21; omega)
             have H' := Aside0.mk H
             clear H
             go_wp2_with (first | (go_at_call 92; (with_reducible refine (spec_l1Cur_pick.calls g s0_0 qt qu (x1_1.size : Int) t418 t419 t420 w0 _ ?side1 ?side2 A9.1).mono ?_); (case side1 => repeat (with_reducible exact HI0.1)); (case side2 => repeat (with_reducible exact HB.1)); rintro e w22 ⟨rfl, hi, hb, hk⟩; replace HK := Aside0.mk (zl HK.1 hk (.inl rfl)); replace HB := Aside0.mk hb; replace HI0 := Aside0.mk hi; (try clear hb); (try clear hb2); (try clear hk); (try clear hi)) | (go_at_call 92; (with_reducible refine (spec_l1Cur_pick.calls g s0_0 t419 t420 (a2.size : Int) t421 t422 t423 w0 _ ?side1 ?side2 A10.1).mono ?_); (case side1 => repeat (with_reducible exact HI0.1)); (case side2 => repeat (with_reducible exact HB.1)); rintro e w23 ⟨rfl, hi, hb, hk⟩; replace HK := Aside0.mk (zl HK.1 hk (.inl rfl)); replace HB := Aside0.mk hb; replace HI0 := Aside0.mk hi; (try clear hb); (try clear hb2); (try clear hk); (try clear hi); have p13 : 0 ≤ (t421 : Int) := of_decide_eq_true (by (with_reducible assumption)); have q13 : t421 < (a2.size : Int) := of_decide_eq_true (by (with_reducible assumption)); have hx13 := qd a2 t421; replace p13 := eq_true p13; replace q13 := eq_true q13) | ((with_reducible refine zy (N := 31) rfl ?_); (try (refine zU (by rfl) ?_; dsimp only)); refine zP (zs .u8) _ 5 ?hg (N := 31) ?hd (xs := ([bt a2 t421] : List Int)) (inner := [.int .u8 (bt a2 t421)]) (ok := fun _ => True) (okp := fun _ => True) ?hr ?hp (fun _ hk => hk) trivial (Below.refl _ _) (Nat.le_refl _) (by simp) ?_; (case hd => rfl); (case hg => rfl); (case hr => (go_simp; done)); (case hp => exact (zq (show Kd.M (zs .u8) _ _ _ (bt a2 t421) [.int .u8 (bt a2 t421)] from rfl) (zI _ _))); intro v425 w24 ho25 hb hg_ hnew_; clear hg_ hnew_; (rw [← Ny424.1] at ho25); have qm := Aside0.mk (zG ho25 (zx (w := w) (g := g) (row := none) HK.1)); replace HI0 := Aside0.mk (IsS102.below HI0.1 hb); replace HK := Aside0.mk (zl HK.1 (zp hb g none) (.inl rfl)); replace HB := Aside0.mk (zr HB.1 hb); clear hb ho25; have hcv26 := zT (P := Try.prog) Try.underlying62 Try.underlying5 Try.underlying9 (zQ qm.1)) | (go_at_call 92; (with_reducible refine (spec_l1Cur_pick.calls g s0_0 t422 t423 3 t427 t428 t429 w0 _ ?side1 ?side2 A14.1).mono ?_); (case side1 => repeat (with_reducible exact HI0.1)); (case side2 => repeat (with_reducible exact HB.1)); rintro e w27 ⟨rfl, hi, hb, hk⟩; replace qm := Aside0.mk (zw (zB (IsS102.apart (show IsS102 w0 _ g s0_0 t422 t423 from by exact HI0.1) (by exact qm.1) (by decide)) hk (fun _ h => h.2)) (fun _ h => h.1)); replace HK := Aside0.mk (zl HK.1 hk (.inl rfl)); replace HB := Aside0.mk hb; replace HI0 := Aside0.mk hi; (try clear hb); (try clear hb2); (try clear hk); (try clear hi)))
             repeat (go_quiet (fail); try go_wp2_with (fail))
             go_roundg kj5
             case measure => have := HK1.1; have := HJ5.1; omega
             case rel => exact ⟨(((x1_1.extract 0 (t418 : Int).toNat) ++ (strOfNums y424)) ++ (x1_1.extract (t418 : Int).toNat x1_1.size)), (wrap64 (x7_1 - 1)), (t428), (t429), (by rfl), (by rfl), H', ⟨by have := HK1.1; have := HJ5.1; omega⟩, ⟨by repeat ((with_reducible first | exact HI0.1 | apply IsS102.drewN))⟩, ⟨by repeat ((with_reducible first | exact HK.1 | apply zf))⟩, ⟨by repeat ((with_reducible first | exact HB.1 | apply za))⟩⟩
            ·
             rw [if_neg c21] at H
             exact absurd H (by simp)
           ·
            rw [if_neg c18] at H
            exact absurd H (by simp)
          ·
           rw [if_neg c17] at H
           exact absurd H (by simp)
         ·
          rw [if_neg c16] at H
          exact absurd H (by simp)
        ·
         rw [if_neg c15] at H
         have c15b0 : (t427 == 0) = false := beq_eq_false_iff_ne.mpr c15
         have c15b1 : (t427 != 0) = true := bne_iff_ne.mpr c15
         by_cases c28 : t427 = 1
         ·
          rw [if_pos c28] at H
          have c28b0 : (t427 == 1) = true := beq_iff_eq.mpr c28
          have c28b1 : (t427 != 1) = false := bne_eq_false_iff_eq.mpr c28
          clear c28
          by_cases c29 : 0 ≤ t418
          ·
           rw [if_pos c29] at H
           have c29b0 := eq_true c29
           have c29b1 : decide (0 ≤ t418) = true := decide_eq_true c29
           clear c29
           by_cases c30 : t418 ≤ (x1_1.size : Int)
           ·
            rw [if_pos c30] at H
            have c30b0 := eq_true c30
            have c30b1 : decide (t418 ≤ (x1_1.size : Int)) = true := decide_eq_true c30
            clear c30
            by_cases c31 : (x1_1.extract 0 (t418 : Int).toNat).size + (strOfNums y424).size ≤ 9223372036854775807
            ·
             rw [if_pos c31] at H
             have c31b0 := eq_true c31
             have c31b1 : decide ((x1_1.extract 0 (t418 : Int).toNat).size + (strOfNums y424).size ≤ 9223372036854775807) = true := decide_eq_true c31
             try have c31b2 : (9223372036854775807 < (x1_1.extract 0 (t418 : Int).toNat).size + (strOfNums y424).size) = False := eq_false (Nat.not_lt.2 c31)
             try have c31b3 : (9223372036854775807 < (x1_1.extract 0 (t418 : Int).toNat).size + (strOfNums y424).size) = False := eq_false (by simp only [eq_iff_iff, iff_true, iff_false] at *; simp only [ByteArray.size_extract] at c31; omega)
             obtain ⟨ji32, hji32⟩ : ∃ j_ : Int, (wrap64 (t418 + 1)) = j_ := ⟨_, rfl⟩
             replace H : (if 0 ≤ (ji32) then (if (ji32) ≤ (x1_1.size : Int) then (if ((x1_1.extract 0 (t418 : Int).toNat) ++ (strOfNums y424)).size + (x1_1.extract ((ji32) : Int).toNat x1_1.size).size ≤ 9223372036854775807 then (spec_l1Cur_spoilt.l0 kj5 (((x1_1.extract 0 (t418 : Int).toNat) ++ (strOfNums y424)) ++ (x1_1.extract ((ji32) : Int).toNat x1_1.size)) a2 (wrap64 (x7_1 - 1)) s0_0 t428 t429) else (none)) else (none)) else (none)) = some (r1, r2, r3) := by (rw [hji32] at H; exact H)
             (try rw [hji32] at A9)
             (try rw [hji32] at A10)
             (try rw [hji32] at A14)
             have hji32w : (IntKind.i64.wrap (t418 + 1)) = ji32 := (i64_w _).trans hji32
             by_cases c33 : 0 ≤ (ji32)
             ·
              rw [if_pos c33] at H
              have c33b0 := eq_true c33
              have c33b1 : decide (0 ≤ (ji32)) = true := decide_eq_true c33
              clear c33
              by_cases c34 : (ji32) ≤ (x1_1.size : Int)
              ·
               rw [if_pos c34] at H
               have c34b0 := eq_true c34
               have c34b1 : decide ((ji32) ≤ (x1_1.size : Int)) = true := decide_eq_true c34
               clear c34
               by_cases c35 : ((x1_1.extract 0 (t418 : Int).toNat) ++ (strOfNums y424)).size + (x1_1.extract ((ji32) : Int).toNat x1_1.size).size ≤ 9223372036854775807
               ·
                rw [if_pos c35] at H
                have c35b0 := eq_true c35
                have c35b1 : decide (((x1_1.extract 0 (t418 : Int).toNat) ++ (strOfNums y424)).size + (x1_1.extract ((ji32) : Int).toNat x1_1.size).size ≤ 9223372036854775807) = true := decide_eq_true c35
                try have c35b2 : (9223372036854775807 < ((x1_1.extract 0 (t418 : Int).toNat) ++ (strOfNums y424)).size + (x1_1.extract ((ji32) : Int).toNat x1_1.size).size) = False := eq_false (Nat.not_lt.2 c35)
                try have c35b3 : (9223372036854775807 < ((x1_1.extract 0 (t418 : Int).toNat) ++ (strOfNums y424)).size + (x1_1.extract ((ji32) : Int).toNat x1_1.size).size) = False := eq_false (by simp only [eq_iff_iff, iff_true, iff_false] at *; simp only [ByteArray.size_extract] at c35; omega)
                have H' := Aside0.mk H
                clear H
                go_wp2_with (first | (go_at_call 92; (with_reducible refine (spec_l1Cur_pick.calls g s0_0 qt qu (x1_1.size : Int) t418 t419 t420 w0 _ ?side1 ?side2 A9.1).mono ?_); (case side1 => repeat (with_reducible exact HI0.1)); (case side2 => repeat (with_reducible exact HB.1)); rintro e w36 ⟨rfl, hi, hb, hk⟩; replace HK := Aside0.mk (zl HK.1 hk (.inl rfl)); replace HB := Aside0.mk hb; replace HI0 := Aside0.mk hi; (try clear hb); (try clear hb2); (try clear hk); (try clear hi)) | (go_at_call 92; (with_reducible refine (spec_l1Cur_pick.calls g s0_0 t419 t420 (a2.size : Int) t421 t422 t423 w0 _ ?side1 ?side2 A10.1).mono ?_); (case side1 => repeat (with_reducible exact HI0.1)); (case side2 => repeat (with_reducible exact HB.1)); rintro e w37 ⟨rfl, hi, hb, hk⟩; replace HK := Aside0.mk (zl HK.1 hk (.inl rfl)); replace HB := Aside0.mk hb; replace HI0 := Aside0.mk hi; (try clear hb); (try clear hb2); (try clear hk); (try clear hi); have p13 : 0 ≤ (t421 : Int) := of_decide_eq_true (by (with_reducible assumption)); have q13 : t421 < (a2.size : Int) := of_decide_eq_true (by (with_reducible assumption)); have hx13 := qd a2 t421; replace p13 := eq_true p13; replace q13 := eq_true q13) | ((with_reducible refine zy (N := 31) rfl ?_); (try (refine zU (by rfl) ?_; dsimp only)); refine zP (zs .u8) _ 5 ?hg (N := 31) ?hd (xs := ([bt a2 t421] : List Int)) (inner := [.int .u8 (bt a2 t421)]) (ok := fun _ => True) (okp := fun _ => True) ?hr ?hp (fun _ hk => hk) trivial (Below.refl _ _) (Nat.le_refl _) (by simp) ?_; (case hd => rfl); (case hg => rfl); (case hr => (go_simp; done)); (case hp => exact (zq (show Kd.M (zs .u8) _ _ _ (bt a2 t421) [.int .u8 (bt a2 t421)] from rfl) (zI _ _))); intro v425 w38 ho39 hb hg_ hnew_; clear hg_ hnew_; (rw [← Ny424.1] at ho39); have qm := Aside0.mk (zG ho39 (zx (w := w) (g := g) (row := none) HK.1)); replace HI0 := Aside0.mk (IsS102.below HI0.1 hb); replace HK := Aside0.mk (zl HK.1 (zp hb g none) (.inl rfl)); replace HB := Aside0.mk (zr HB.1 hb); clear hb ho39; have hcv40 := zT (P := Try.prog) Try.underlying62 Try.underlying5 Try.underlying9 (zQ qm.1)) | (go_at_call 92; (with_reducible refine (spec_l1Cur_pick.calls g s0_0 t422 t423 3 t427 t428 t429 w0 _ ?side1 ?side2 A14.1).mono ?_); (case side1 => repeat (with_reducible exact HI0.1)); (case side2 => repeat (with_reducible exact HB.1)); rintro e w41 ⟨rfl, hi, hb, hk⟩; replace qm := Aside0.mk (zw (zB (IsS102.apart (show IsS102 w0 _ g s0_0 t422 t423 from by exact HI0.1) (by exact qm.1) (by decide)) hk (fun _ h => h.2)) (fun _ h => h.1)); replace HK := Aside0.mk (zl HK.1 hk (.inl rfl)); replace HB := Aside0.mk hb; replace HI0 := Aside0.mk hi; (try clear hb); (try clear hb2); (try clear hk); (try clear hi)))
                repeat (go_quiet (fail); try go_wp2_with (fail))
                go_roundg kj5
                case measure => have := HK1.1; have := HJ5.1; omega
                case rel => exact ⟨(((x1_1.extract 0 (t418 : Int).toNat) ++ (strOfNums y424)) ++ (x1_1.extract ((ji32) : Int).toNat x1_1.size)), (wrap64 (x7_1 - 1)), (t428), (t429), (by rfl), (by rfl), H', ⟨by have := HK1.1; have := HJ5.1; omega⟩, ⟨by repeat ((with_reducible first | exact HI0.1 | apply IsS102.drewN))⟩, ⟨by repeat ((with_reducible first | exact HK.1 | apply zf))⟩, ⟨by repeat ((with_reducible first | exact HB.1 | apply za))⟩⟩
               ·
                rw [if_neg c35] at H
                exact absurd H (by simp)
              ·
               rw [if_neg c34] at H
               exact absurd H (by simp)
             ·
              rw [if_neg c33] at H
              exact absurd H (by simp)
            ·
             rw [if_neg c31] at H
             exact absurd H (by simp)
           ·
            rw [if_neg c30] at H
            exact absurd H (by simp)
          ·
           rw [if_neg c29] at H
           exact absurd H (by simp)
         ·
          rw [if_neg c28] at H
          have c28b0 : (t427 == 1) = false := beq_eq_false_iff_ne.mpr c28
          have c28b1 : (t427 != 1) = true := bne_iff_ne.mpr c28
          by_cases c42 : 0 ≤ t418
          ·
           rw [if_pos c42] at H
           have c42b0 := eq_true c42
           have c42b1 : decide (0 ≤ t418) = true := decide_eq_true c42
           clear c42
           by_cases c43 : t418 ≤ (x1_1.size : Int)
           ·
            rw [if_pos c43] at H
            have c43b0 := eq_true c43
            have c43b1 : decide (t418 ≤ (x1_1.size : Int)) = true := decide_eq_true c43
            clear c43
            obtain ⟨ji44, hji44⟩ : ∃ j_ : Int, (wrap64 (t418 + 1)) = j_ := ⟨_, rfl⟩
            replace H : (if 0 ≤ (ji44) then (if (ji44) ≤ (x1_1.size : Int) then (if (x1_1.extract 0 (t418 : Int).toNat).size + (x1_1.extract ((ji44) : Int).toNat x1_1.size).size ≤ 9223372036854775807 then (spec_l1Cur_spoilt.l0 kj5 ((x1_1.extract 0 (t418 : Int).toNat) ++ (x1_1.extract ((ji44) : Int).toNat x1_1.size)) a2 (wrap64 (x7_1 - 1)) s0_0 t428 t429) else (none)) else (none)) else (none)) = some (r1, r2, r3) := by (rw [hji44] at H; exact H)
            (try rw [hji44] at A9)
            (try rw [hji44] at A10)
            (try rw [hji44] at A14)
            have hji44w : (IntKind.i64.wrap (t418 + 1)) = ji44 := (i64_w _).trans hji44
            by_cases c45 : 0 ≤ (ji44)
            ·
             rw [if_pos c45] at H
             have c45b0 := eq_true c45
             have c45b1 : decide (0 ≤ (ji44)) = true := decide_eq_true c45
             clear c45
             by_cases c46 : (ji44) ≤ (x1_1.size : Int)
             ·
              rw [if_pos c46] at H
              have c46b0 := eq_true c46
              have c46b1 : decide ((ji44) ≤ (x1_1.size : Int)) = true := decide_eq_true c46
              clear c46
              by_cases c47 : (x1_1.extract 0 (t418 : Int).toNat).size + (x1_1.extract ((ji44) : Int).toNat x1_1.size).size ≤ 9223372036854775807
              ·
               rw [if_pos c47] at H
               have c47b0 := eq_true c47
               have c47b1 : decide ((x1_1.extract 0 (t418 : Int).toNat).size + (x1_1.extract ((ji44) : Int).toNat x1_1.size).size ≤ 9223372036854775807) = true := decide_eq_true c47
               try have c47b2 : (9223372036854775807 < (x1_1.extract 0 (t418 : Int).toNat).size + (x1_1.extract ((ji44) : Int).toNat x1_1.size).size) = False := eq_false (Nat.not_lt.2 c47)
               try have c47b3 : (9223372036854775807 < (x1_1.extract 0 (t418 : Int).toNat).size + (x1_1.extract ((ji44) : Int).toNat x1_1.size).size) = False := eq_false (by simp only [eq_iff_iff, iff_true, iff_false] at *; simp only [ByteArray.size_extract] at c47; omega)
               have H' := Aside0.mk H
               clear H
               go_wp2_with (first | (go_at_call 92; (with_reducible refine (spec_l1Cur_pick.calls g s0_0 qt qu (x1_1.size : Int) t418 t419 t420 w0 _ ?side1 ?side2 A9.1).mono ?_); (case side1 => repeat (with_reducible exact HI0.1)); (case side2 => repeat (with_reducible exact HB.1)); rintro e w48 ⟨rfl, hi, hb, hk⟩; replace HK := Aside0.mk (zl HK.1 hk (.inl rfl)); replace HB := Aside0.mk hb; replace HI0 := Aside0.mk hi; (try clear hb); (try clear hb2); (try clear hk); (try clear hi)) | (go_at_call 92; (with_reducible refine (spec_l1Cur_pick.calls g s0_0 t419 t420 (a2.size : Int) t421 t422 t423 w0 _ ?side1 ?side2 A10.1).mono ?_); (case side1 => repeat (with_reducible exact HI0.1)); (case side2 => repeat (with_reducible exact HB.1)); rintro e w49 ⟨rfl, hi, hb, hk⟩; replace HK := Aside0.mk (zl HK.1 hk (.inl rfl)); replace HB := Aside0.mk hb; replace HI0 := Aside0.mk hi; (try clear hb); (try clear hb2); (try clear hk); (try clear hi); have p13 : 0 ≤ (t421 : Int) := of_decide_eq_true (by (with_reducible assumption)); have q13 : t421 < (a2.size : Int) := of_decide_eq_true (by (with_reducible assumption)); have hx13 := qd a2 t421; replace p13 := eq_true p13; replace q13 := eq_true q13) | ((with_reducible refine zy (N := 31) rfl ?_); (try (refine zU (by rfl) ?_; dsimp only)); refine zP (zs .u8) _ 5 ?hg (N := 31) ?hd (xs := ([bt a2 t421] : List Int)) (inner := [.int .u8 (bt a2 t421)]) (ok := fun _ => True) (okp := fun _ => True) ?hr ?hp (fun _ hk => hk) trivial (Below.refl _ _) (Nat.le_refl _) (by simp) ?_; (case hd => rfl); (case hg => rfl); (case hr => (go_simp; done)); (case hp => exact (zq (show Kd.M (zs .u8) _ _ _ (bt a2 t421) [.int .u8 (bt a2 t421)] from rfl) (zI _ _))); intro v425 w50 ho51 hb hg_ hnew_; clear hg_ hnew_; (rw [← Ny424.1] at ho51); have qm := Aside0.mk (zG ho51 (zx (w := w) (g := g) (row := none) HK.1)); replace HI0 := Aside0.mk (IsS102.below HI0.1 hb); replace HK := Aside0.mk (zl HK.1 (zp hb g none) (.inl rfl)); replace HB := Aside0.mk (zr HB.1 hb); clear hb ho51; have hcv52 := zT (P := Try.prog) Try.underlying62 Try.underlying5 Try.underlying9 (zQ qm.1)) | (go_at_call 92; (with_reducible refine (spec_l1Cur_pick.calls g s0_0 t422 t423 3 t427 t428 t429 w0 _ ?side1 ?side2 A14.1).mono ?_); (case side1 => repeat (with_reducible exact HI0.1)); (case side2 => repeat (with_reducible exact HB.1)); rintro e w53 ⟨rfl, hi, hb, hk⟩; replace HK := Aside0.mk (zl HK.1 hk (.inl rfl)); replace HB := Aside0.mk hb; replace HI0 := Aside0.mk hi; (try clear hb); (try clear hb2); (try clear hk); (try clear hi)))
               repeat (go_quiet (fail); try go_wp2_with (fail))
               go_roundg kj5
               case measure => have := HK1.1; have := HJ5.1; omega
               case rel => exact ⟨((x1_1.extract 0 (t418 : Int).toNat) ++ (x1_1.extract ((ji44) : Int).toNat x1_1.size)), (wrap64 (x7_1 - 1)), (t428), (t429), (by rfl), (by rfl), H', ⟨by have := HK1.1; have := HJ5.1; omega⟩, ⟨by repeat ((with_reducible first | exact HI0.1 | apply IsS102.drewN))⟩, ⟨by repeat ((with_reducible first | exact HK.1 | apply zf))⟩, ⟨by repeat ((with_reducible first | exact HB.1 | apply za))⟩⟩
              ·
               rw [if_neg c47] at H
               exact absurd H (by simp)
             ·
              rw [if_neg c46] at H
              exact absurd H (by simp)
            ·
             rw [if_neg c45] at H
             exact absurd H (by simp)
           ·
            rw [if_neg c43] at H
            exact absurd H (by simp)
          ·
           rw [if_neg c42] at H
           exact absurd H (by simp)
       ·
        rw [if_neg c12] at H
        exact absurd H (by simp)
      ·
       rw [if_neg c11] at H
       exact absurd H (by simp)
     ·
      replace c8 := Bool.eq_false_iff.mpr c8
      subst c8
      have H1 : (some (x1_1, qt, qu)) = some (r1, r2, r3) := by rw [if_neg (show ¬ (false = true) by decide)] at H; exact H
      clear H
      have H := H1
      clear H1
      simp only [Option.some.injEq, Prod.mk.injEq] at H
      obtain ⟨rfl, rfl, rfl⟩ := H
      go_wp2
      repeat (go_quiet (fail); try go_wp2)
      go_ret
      exact ⟨by rfl, by exact HI0.1, by exact HB.1, by exact HK.1⟩

end Go.Proofs.Ytlnfcobloolnnaa.PFnPrepend
