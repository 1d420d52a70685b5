/- Written by this session's own program over the kit's print: Lean functions that tell what Go functions answer, each with a proof that the call does so. No condition but what each statement says. -/
import Derived.Test.YtlnfcobloolnnaaYFnExactUpdateBytesx0
import Derived.Test.YtlnfcobloolnnaaYFnExactUpdateBytesx1
import Derived.Test.YtlnfcobloolnnaaYFnExactUpdateBytesx3
namespace Go.Proofs.Ytlnfcobloolnnaa.PFnExactUpdateBytes
open Go.RowKit Go.Proofs.YtlnfcobloolnnaaW.PrintWords Go.Proofs.YtlnfcobloolnnaaW.PrintLast Go.Proofs.YtlnfcobloolnnaaW.PrintMore
open Go.Proofs.YtlnfcobloolnnaaW.PrintLast renaming goesL_ → zp
open Go.Proofs.YtlnfcobloolnnaaW.PrintWords renaming blk_frozen → za, blk_cell → zb, pw_below_drewN → zc, below_drew1 → zd, below_alloc → ze, below_set → zf, gate_callee → zg, blk_drewN → zh, blk_alloc → zi, blk_drew → zj, below_size → zk, Aside0 → zq
open Go.Proofs.YtlnfcobloolnnaaW.PrintWords.Kd renaming at_int → zn
open Go.Proofs.YtlnfcobloolnnaaW.PrintWords.LeO renaming none → zl, bind → zm, ite → zo
attribute [local go_sem] max2_int min2_int max_two min_two max_three min_three max_four min_four   -- for this text's walks alone
set_option linter.unusedVariables false
set_option linter.unusedSimpArgs false

attribute [local go_sem high] eqA35
/-! ### spec_GoodAttrs: function 13 -/
mutual
def spec_GoodAttrs.l0 : Nat → List Int → Int → Int → Int → List Int → Int → Int → Int → List Int → Option (Bool)
 | 0, _, _, _, _, _, _, _, _, _ => none
 | k + 1, x8, x9, x10, zy, zz, zA, zB, zC, zv => if x10 < x9 then (if 0 ≤ x10 then (if x10 < (x8.length : Int) then ((spec_l1In.f (rd x8 x10) 1 65535).bind fun t170 => (if t170 = true then (spec_GoodAttrs.l0 k x8 x9 (wrap64 (x10 + 1)) zy zz zA zB zC zv) else (some false))) else (none)) else (none)) else (spec_GoodAttrs.l1 k zv (zv.length : Int) 0 zy zz zA zB zC zv)
def spec_GoodAttrs.l1 : Nat → List Int → Int → Int → Int → List Int → Int → Int → Int → List Int → Option (Bool)
 | 0, _, _, _, _, _, _, _, _, _ => none
 | k + 1, x19, x20, x21, zy, zz, zA, zB, zC, zv => if x21 < x20 then (if 0 ≤ x21 then (if x21 < (x19.length : Int) then ((spec_l1In.f (rd x19 x21) 0 1000000).bind fun t172 => (if t172 = true then (if x21 > 0 then (if 0 ≤ (wrap64 (x21 - 1)) then (if (wrap64 (x21 - 1)) < (zv.length : Int) then (if (rd zv (wrap64 (x21 - 1))) ≥ (rd x19 x21) then (some false) else (spec_GoodAttrs.l1 k x19 x20 (wrap64 (x21 + 1)) zy zz zA zB zC zv)) else (none)) else (none)) else (spec_GoodAttrs.l1 k x19 x20 (wrap64 (x21 + 1)) zy zz zA zB zC zv)) else (some false))) else (none)) else (none)) else ((spec_l1In.f zy 0 2).bind fun t174 => (if t174 = true then (if (zz.length : Int) ≤ 10 then ((spec_l1Addr.f zA).bind fun t175 => (if t175 = true then ((spec_l1In.f zB 0 1000000).bind fun t176 => (if t176 = true then ((spec_l1In.f zC 0 1000000).bind fun t177 => (if t177 = true then (some (decide ((zv.length : Int) ≤ 6))) else (some false))) else (some false))) else (some false))) else (some false)) else (some false)))
end
def spec_GoodAttrs.f (k : Nat) (a0_0 : Int) (l0_1 : List Int) (a0_2 : Int) (a0_3 : Int) (a0_4 : Int) (l0_5 : List Int) : Option (Bool) := spec_GoodAttrs.l0 k l0_1 (l0_1.length : Int) 0 a0_0 l0_1 a0_2 a0_3 a0_4 l0_5
theorem spec_GoodAttrs.mono_l : ∀ k, (∀ y0 y1 y2 y3 y4 y5 y6 y7 y8, LeO (spec_GoodAttrs.l0 k y0 y1 y2 y3 y4 y5 y6 y7 y8) (spec_GoodAttrs.l0 (k + 1) y0 y1 y2 y3 y4 y5 y6 y7 y8)) ∧ (∀ y0 y1 y2 y3 y4 y5 y6 y7 y8, LeO (spec_GoodAttrs.l1 k y0 y1 y2 y3 y4 y5 y6 y7 y8) (spec_GoodAttrs.l1 (k + 1) y0 y1 y2 y3 y4 y5 y6 y7 y8))
 | 0 => ⟨fun _ _ _ _ _ _ _ _ _ r h => by simp [spec_GoodAttrs.l0] at h, fun _ _ _ _ _ _ _ _ _ r h => by simp [spec_GoodAttrs.l1] at h⟩
 | k + 1 => by
  obtain ⟨ih0, ih1⟩ := spec_GoodAttrs.mono_l k
  refine ⟨?_, ?_⟩
  ·
   intro y0 y1 y2 y3 y4 y5 y6 y7 y8
   unfold spec_GoodAttrs.l0
   repeat' first
   | (with_reducible exact ih0 _ _ _ _ _ _ _ _ _)
   | (with_reducible exact ih1 _ _ _ _ _ _ _ _ _)
   | (with_reducible exact LeO.refl _)
   | (with_reducible exact zl _)
   | (with_reducible refine zo ?_ ?_)
   | (with_reducible refine zm ?_ (fun _ => ?_))
   | exact ih0 _ _ _ _ _ _ _ _ _
   | exact ih1 _ _ _ _ _ _ _ _ _
   | exact zl _
   | refine zo ?_ ?_
   | refine zm ?_ (fun _ => ?_)
  ·
   intro y0 y1 y2 y3 y4 y5 y6 y7 y8
   unfold spec_GoodAttrs.l1
   repeat' first
   | (with_reducible exact ih0 _ _ _ _ _ _ _ _ _)
   | (with_reducible exact ih1 _ _ _ _ _ _ _ _ _)
   | (with_reducible exact LeO.refl _)
   | (with_reducible exact zl _)
   | (with_reducible refine zo ?_ ?_)
   | (with_reducible refine zm ?_ (fun _ => ?_))
   | exact ih0 _ _ _ _ _ _ _ _ _
   | exact ih1 _ _ _ _ _ _ _ _ _
   | exact zl _
   | refine zo ?_ ?_
   | refine zm ?_ (fun _ => ?_)
theorem spec_GoodAttrs.mono : ∀ a0 a1 a2 a3 a4 a5 k, LeO (spec_GoodAttrs.f k a0 a1 a2 a3 a4 a5) (spec_GoodAttrs.f (k + 1) a0 a1 a2 a3 a4 a5) := by
 intro a0 a1 a2 a3 a4 a5 k
 obtain ⟨ih0, ih1⟩ := spec_GoodAttrs.mono_l k
 unfold spec_GoodAttrs.f
 repeat' first
   | (with_reducible exact ih0 _ _ _ _ _ _ _ _ _)
   | (with_reducible exact ih1 _ _ _ _ _ _ _ _ _)
   | (with_reducible exact LeO.refl _)
   | (with_reducible exact zl _)
   | (with_reducible refine zo ?_ ?_)
   | (with_reducible refine zm ?_ (fun _ => ?_))
   | exact ih0 _ _ _ _ _ _ _ _ _
   | exact ih1 _ _ _ _ _ _ _ _ _
   | exact zl _
   | refine zo ?_ ?_
   | refine zm ?_ (fun _ => ?_)
set_option maxHeartbeats 8000000 in
set_option maxRecDepth 100000 in
theorem spec_GoodAttrs.calls (k : Nat) (a0_0 : Int) (A0_1 : Option Addr) (c0_1 : Nat) (l0_1 : List Int) (a0_2 : Int) (a0_3 : Int) (a0_4 : Int) (A0_5 : Option Addr) (c0_5 : Nat) (l0_5 : List Int) (r : Bool) (w : World) (hr0_1 : Kd.C (Kd.int .i64) w A0_1 l0_1.length l0_1) (hc0_1 : l0_1.length ≤ c0_1) (hr0_5 : Kd.C (Kd.int .i64) w A0_5 l0_5.length l0_5) (hc0_5 : l0_5.length ≤ c0_5) (h : spec_GoodAttrs.f k a0_0 l0_1 a0_2 a0_3 a0_4 l0_5 = some r) :
  Calls Try.prog 13 #[.agg #[.int .i64 a0_0, .slice A0_1 l0_1.length c0_1, .int .i64 a0_2, .int .i64 a0_3, .int .i64 a0_4, .slice A0_5 l0_5.length c0_5]] w fun e w' => e = .returned (.bool r) ∧ Below w.heap.size w w' := by
 have hu27 := Try.underlying27
 have HR0_1 := Aside0.mk hr0_1
 have HC0_1 := Aside0.mk hc0_1
 clear hr0_1 hc0_1
 have zF := Aside0.mk hr0_5
 have HC0_5 := Aside0.mk hc0_5
 clear hr0_5 hc0_5
 have HB := Aside0.mk (Below.refl w.heap.size w)
 have H : (spec_GoodAttrs.l0 k l0_1 (l0_1.length : Int) 0 a0_0 l0_1 a0_2 a0_3 a0_4 l0_5) = some r := h
 clear h
 have H' := Aside0.mk H
 clear H
 go_enter Try.func13, Try.ntmps13
 go_wp2_with (first | ((with_reducible refine gate_dst (N := 1) rfl ?_); (try (refine gate_guard (by rfl) ?_; dsimp only)); refine box_event ?hg (N := 1) ?hd (cs := #[.int .i64 a0_0, .slice A0_1 l0_1.length c0_1, .int .i64 a0_2, .int .i64 a0_3, .int .i64 a0_4, .slice A0_5 l0_5.length c0_5]) (t := 27) ?hr ?_; (case hd => rfl); (case hg => rfl); (case hr => first | (go_simp; done) | (go_simp; rfl)); intro gb168 hg w2 hbox hb; have n0_ := Aside0.mk (below_step (by repeat (first | (with_reducible first | exact HB.1 | apply ze | apply zc | apply zd) | exact HB.1)) hb); have n1_ := Aside0.mk (hbox); have n2_ := Aside0.mk ((by rw [hg]; exact (zk (by repeat (first | (with_reducible first | exact HB.1 | apply ze | apply zc | apply zd) | exact HB.1))) : w.heap.size ≤ gb168)); have n3_ := Aside0.mk ((by rw [hg]; exact (zk (by repeat (first | (with_reducible first | exact HB.1 | apply ze | apply zc | apply zd) | exact HB.1))) : w.heap.size ≤ gb168)); clear HB; have HB := n0_; have zr := n1_; have GW168 := n2_; have zw := n3_; clear n0_ n1_ n2_ n3_; clear hb hbox hg; have hcz3_0 : w2.cell? ⟨gb168, 0, none⟩ = some (.int .i64 a0_0) := (zb zr.1 0).trans rfl; have hcz3_1 : w2.cell? ⟨gb168, 1, none⟩ = some (.slice A0_1 l0_1.length c0_1) := (zb zr.1 1).trans rfl; have hcz3_2 : w2.cell? ⟨gb168, 2, none⟩ = some (.int .i64 a0_2) := (zb zr.1 2).trans rfl; have hcz3_3 : w2.cell? ⟨gb168, 3, none⟩ = some (.int .i64 a0_3) := (zb zr.1 3).trans rfl; have hcz3_4 : w2.cell? ⟨gb168, 4, none⟩ = some (.int .i64 a0_4) := (zb zr.1 4).trans rfl; have hcz3_5 : w2.cell? ⟨gb168, 5, none⟩ = some (.slice A0_5 l0_5.length c0_5) := (zb zr.1 5).trans rfl; have hfz3_0 := za zr.1 0; have hfz3_1 := za zr.1 1; have hfz3_2 := za zr.1 2; have hfz3_3 := za zr.1 3; have hfz3_4 := za zr.1 4; have hfz3_5 := za zr.1 5))
 go_loopg [10] k (fun kq v10 w' => ∃ (zt : Int), v10 = .int .i64 zt ∧ zq (spec_GoodAttrs.l0 kq l0_1 (l0_1.length : Int) zt a0_0 l0_1 a0_2 a0_3 a0_4 l0_5 = some r) ∧ zq (kq ≤ k) ∧ zq (w'.heap[gb168]? = some (.cells #[.int .i64 a0_0, (.slice A0_1 l0_1.length c0_1), .int .i64 a0_2, .int .i64 a0_3, .int .i64 a0_4, (.slice A0_5 l0_5.length c0_5)] 27 (0, 0))) ∧ zq (Below w.heap.size w w'))
 case atStart => exact ⟨(0), (by first | rfl | (simp; done) | (simp [*]; done)), H', ⟨Nat.le_refl _⟩, ⟨by (with_reducible repeat (first | refine zh ?_ _ | refine zj ?_ | refine zi ?_ _)); exact zr.1⟩, ⟨by repeat (first | (with_reducible first | exact HB.1 | apply ze | apply zc | apply zd | refine zf ?_ zw.1) | exact HB.1)⟩⟩
 case round =>
  clear H'
  (try clear c1); (try clear p2); (try clear hcz3_0); (try clear hcz3_1); (try clear hcz3_2); (try clear hcz3_3); (try clear hcz3_4); (try clear hcz3_5); (try clear hfz3_0); (try clear hfz3_1); (try clear hfz3_2); (try clear hfz3_3); (try clear hfz3_4); (try clear hfz3_5)
  obtain ⟨zt, rfl, HA, HK1, zr, HB⟩ := hrel
  cases gk with
  | zero => exact absurd HA.1 (by simp [spec_GoodAttrs.l0])
  | succ k1 =>
   have H := HA.1
   clear HA
   simp only [spec_GoodAttrs.l0] at H
   by_cases c4 : zt < (l0_1.length : Int)
   ·
    rw [if_pos c4] at H
    have c4b0 : decide (zt < (l0_1.length : Int)) = true := decide_eq_true c4
    clear c4
    by_cases c5 : 0 ≤ zt
    ·
     rw [if_pos c5] at H
     have c5b0 : decide (0 ≤ zt) = true := decide_eq_true c5
     clear c5
     by_cases c6 : zt < (l0_1.length : Int)
     ·
      rw [if_pos c6] at H
      have c6b0 : decide (zt < (l0_1.length : Int)) = true := decide_eq_true c6
      clear c6
      replace H := Option.bind_eq_some_iff.mp H
      obtain ⟨t170, A70, H⟩ := H
      replace H : (if t170 = true then (spec_GoodAttrs.l0 k1 l0_1 (l0_1.length : Int) (wrap64 (zt + 1)) a0_0 l0_1 a0_2 a0_3 a0_4 l0_5) else (some false)) = some r := H
      have A7 := Aside0.mk A70
      clear A70
      by_cases c8 : t170 = true
      ·
       subst c8
       have H1 : (spec_GoodAttrs.l0 k1 l0_1 (l0_1.length : Int) (wrap64 (zt + 1)) a0_0 l0_1 a0_2 a0_3 a0_4 l0_5) = some r := by rw [if_pos rfl] at H; exact H
       clear H
       have H := H1
       clear H1
       have H' := Aside0.mk H
       clear H
       have p169 : 0 ≤ (zt : Int) := of_decide_eq_true (by first | (with_reducible assumption) | assumption)
       have q169 : zt < (l0_1.length : Int) := of_decide_eq_true (by first | (with_reducible assumption) | assumption)
       obtain ⟨ad169, e169, hx169_0⟩ := zn HR0_1.1 zt p169 q169
       cases e169
       replace hx169_0 := (HB.1.cell (World.block_lt_of_cell? w _ hx169_0)).trans hx169_0
       replace p169 := eq_true p169
       replace q169 := eq_true q169
       go_wp2_with (first | ((with_reducible refine zg (f := 47) rfl ?_); refine zp (some 15) rfl rfl Try.func47 (by kernel_rfl) rfl #[.int .i64 (rd l0_1 zt), .int .i64 1, .int .i64 65535] rfl (by (try simp only [List.map_toArray, List.map_cons, List.map_nil]); first | done | rfl | (simp only [List.length_drop, List.length_take]; rfl)) ?_; (with_reducible refine (spec_l1In.calls (rd l0_1 zt) 1 65535 true _ A7.1).mono ?_); rintro e w' ⟨rfl, ⟨nd, rfl⟩⟩; refine ⟨_, rfl, ?_⟩))
       go_roundg k1
       case measure => have := HK1.1; omega
       case rel => exact ⟨(wrap64 (zt + 1)), (by first | rfl | (simp; done) | (simp [*]; done)), H', ⟨by have := HK1.1; omega⟩, ⟨by (with_reducible repeat (first | refine zh ?_ _ | refine zj ?_ | refine zi ?_ _)); exact zr.1⟩, ⟨by repeat (first | (with_reducible first | exact HB.1 | apply ze | apply zc | apply zd | refine zf ?_ zw.1) | exact HB.1)⟩⟩
      ·
       replace c8 := Bool.eq_false_iff.mpr c8
       subst c8
       have H1 : (some false) = some r := by rw [if_neg (show ¬ (false = true) by decide)] at H; exact H
       clear H
       have H := H1
       clear H1
       obtain rfl := Option.some.inj H
       have p169 : 0 ≤ (zt : Int) := of_decide_eq_true (by first | (with_reducible assumption) | assumption)
       have q169 : zt < (l0_1.length : Int) := of_decide_eq_true (by first | (with_reducible assumption) | assumption)
       obtain ⟨ad169, e169, hx169_0⟩ := zn HR0_1.1 zt p169 q169
       cases e169
       replace hx169_0 := (HB.1.cell (World.block_lt_of_cell? w _ hx169_0)).trans hx169_0
       replace p169 := eq_true p169
       replace q169 := eq_true q169
       go_wp2_with (first | ((with_reducible refine zg (f := 47) rfl ?_); refine zp (some 15) rfl rfl Try.func47 (by kernel_rfl) rfl #[.int .i64 (rd l0_1 zt), .int .i64 1, .int .i64 65535] rfl (by (try simp only [List.map_toArray, List.map_cons, List.map_nil]); first | done | rfl | (simp only [List.length_drop, List.length_take]; rfl)) ?_; (with_reducible refine (spec_l1In.calls (rd l0_1 zt) 1 65535 false _ A7.1).mono ?_); rintro e w' ⟨rfl, ⟨nd, rfl⟩⟩; refine ⟨_, rfl, ?_⟩))
       go_ret
       exact ⟨by first | rfl | (simp [errW_none, errW_some] <;> rfl) | (simp [*, errW_none, errW_some] <;> rfl), by repeat (first | (with_reducible first | exact HB.1 | apply ze | apply zc | apply zd | refine zf ?_ zw.1) | exact HB.1)⟩
     ·
      rw [if_neg c6] at H
      exact absurd H (by simp)
    ·
     rw [if_neg c5] at H
     exact absurd H (by simp)
   ·
    rw [if_neg c4] at H
    have c4b0 : decide (zt < (l0_1.length : Int)) = false := decide_eq_false c4
    clear c4
    have H' := Aside0.mk H
    clear H
    have hcz9_0 : wr.cell? ⟨gb168, 0, none⟩ = some (.int .i64 a0_0) := (zb zr.1 0).trans rfl
    have hcz9_1 : wr.cell? ⟨gb168, 1, none⟩ = some (.slice A0_1 l0_1.length c0_1) := (zb zr.1 1).trans rfl
    have hcz9_2 : wr.cell? ⟨gb168, 2, none⟩ = some (.int .i64 a0_2) := (zb zr.1 2).trans rfl
    have hcz9_3 : wr.cell? ⟨gb168, 3, none⟩ = some (.int .i64 a0_3) := (zb zr.1 3).trans rfl
    have hcz9_4 : wr.cell? ⟨gb168, 4, none⟩ = some (.int .i64 a0_4) := (zb zr.1 4).trans rfl
    have hcz9_5 : wr.cell? ⟨gb168, 5, none⟩ = some (.slice A0_5 l0_5.length c0_5) := (zb zr.1 5).trans rfl
    have hfz9_0 := za zr.1 0
    have hfz9_1 := za zr.1 1
    have hfz9_2 := za zr.1 2
    have hfz9_3 := za zr.1 3
    have hfz9_4 := za zr.1 4
    have hfz9_5 := za zr.1 5
    go_wp2
    go_loopg [21] k1 (fun kq v21 w' => ∃ (zs : Int), v21 = .int .i64 zs ∧ zq (spec_GoodAttrs.l1 kq l0_5 (l0_5.length : Int) zs a0_0 l0_1 a0_2 a0_3 a0_4 l0_5 = some r) ∧ zq (kq ≤ k1) ∧ zq (w'.heap[gb168]? = some (.cells #[.int .i64 a0_0, (.slice A0_1 l0_1.length c0_1), .int .i64 a0_2, .int .i64 a0_3, .int .i64 a0_4, (.slice A0_5 l0_5.length c0_5)] 27 (0, 0))) ∧ zq (Below w.heap.size w w'))
    case atStart => exact ⟨(0), (by first | rfl | (simp; done) | (simp [*]; done)), H', ⟨Nat.le_refl _⟩, ⟨by (with_reducible repeat (first | refine zh ?_ _ | refine zj ?_ | refine zi ?_ _)); exact zr.1⟩, ⟨by repeat (first | (with_reducible first | exact HB.1 | apply ze | apply zc | apply zd | refine zf ?_ zw.1) | exact HB.1)⟩⟩
    case round =>
     clear H'
     (try clear c1); (try clear p1); (try clear q1); (try clear hx1); (try clear p2); (try clear c4); (try clear c4b0); (try clear c5); (try clear c5b0); (try clear c6); (try clear c6b0); (try clear p6); (try clear c8); (try clear hcz3_0); (try clear hcz3_1); (try clear hcz3_2); (try clear hcz3_3); (try clear hcz3_4); (try clear hcz3_5); (try clear hcz9_0); (try clear hcz9_1); (try clear hcz9_2); (try clear hcz9_3); (try clear hcz9_4); (try clear hcz9_5); (try clear hfz3_0); (try clear hfz3_1); (try clear hfz3_2); (try clear hfz3_3); (try clear hfz3_4); (try clear hfz3_5); (try clear hfz9_0); (try clear hfz9_1); (try clear hfz9_2); (try clear hfz9_3); (try clear hfz9_4); (try clear hfz9_5); (try clear hx169_0); (try clear p169); (try clear p2); (try clear q169)
     obtain ⟨zs, rfl, HA, HK2, zr, HB⟩ := hrel
     cases gk with
     | zero => exact absurd HA.1 (by simp [spec_GoodAttrs.l1])
     | succ k2 =>
      have H := HA.1
      clear HA
      simp only [spec_GoodAttrs.l1] at H
      by_cases c10 : zs < (l0_5.length : Int)
      ·
       rw [if_pos c10] at H
       have c10b0 : decide (zs < (l0_5.length : Int)) = true := decide_eq_true c10
       clear c10
       by_cases c11 : 0 ≤ zs
       ·
        rw [if_pos c11] at H
        have c11b0 : decide (0 ≤ zs) = true := decide_eq_true c11
        clear c11
        by_cases c12 : zs < (l0_5.length : Int)
        ·
         rw [if_pos c12] at H
         have c12b0 : decide (zs < (l0_5.length : Int)) = true := decide_eq_true c12
         clear c12
         replace H := Option.bind_eq_some_iff.mp H
         obtain ⟨t172, A130, H⟩ := H
         replace H : (if t172 = true then (if zs > 0 then (if 0 ≤ (wrap64 (zs - 1)) then (if (wrap64 (zs - 1)) < (l0_5.length : Int) then (if (rd l0_5 (wrap64 (zs - 1))) ≥ (rd l0_5 zs) then (some false) else (spec_GoodAttrs.l1 k2 l0_5 (l0_5.length : Int) (wrap64 (zs + 1)) a0_0 l0_1 a0_2 a0_3 a0_4 l0_5)) else (none)) else (none)) else (spec_GoodAttrs.l1 k2 l0_5 (l0_5.length : Int) (wrap64 (zs + 1)) a0_0 l0_1 a0_2 a0_3 a0_4 l0_5)) else (some false)) = some r := H
         have A13 := Aside0.mk A130
         clear A130
         by_cases c14 : t172 = true
         ·
          subst c14
          have H1 : (if zs > 0 then (if 0 ≤ (wrap64 (zs - 1)) then (if (wrap64 (zs - 1)) < (l0_5.length : Int) then (if (rd l0_5 (wrap64 (zs - 1))) ≥ (rd l0_5 zs) then (some false) else (spec_GoodAttrs.l1 k2 l0_5 (l0_5.length : Int) (wrap64 (zs + 1)) a0_0 l0_1 a0_2 a0_3 a0_4 l0_5)) else (none)) else (none)) else (spec_GoodAttrs.l1 k2 l0_5 (l0_5.length : Int) (wrap64 (zs + 1)) a0_0 l0_1 a0_2 a0_3 a0_4 l0_5)) = some r := by rw [if_pos rfl] at H; exact H
          clear H
          have H := H1
          clear H1
          by_cases c15 : zs > 0
          ·
           rw [if_pos c15] at H
           have c15b0 : decide (0 < zs) = true := decide_eq_true c15
           clear c15
           obtain ⟨ji16, hji16⟩ : ∃ j_ : Int, (wrap64 (zs - 1)) = j_ := ⟨_, rfl⟩
           replace H : (if 0 ≤ (ji16) then (if (ji16) < (l0_5.length : Int) then (if (rd l0_5 (ji16)) ≥ (rd l0_5 zs) then (some false) else (spec_GoodAttrs.l1 k2 l0_5 (l0_5.length : Int) (wrap64 (zs + 1)) a0_0 l0_1 a0_2 a0_3 a0_4 l0_5)) else (none)) else (none)) = some r := by first | (rw [hji16] at H; exact H) | (simp only [hji16] at H ⊢; exact H)
           (try rw [hji16] at A13)
           have hji16w : (IntKind.i64.wrap (zs - 1)) = ji16 := (i64_w _).trans hji16
           by_cases c17 : 0 ≤ (ji16)
           ·
            rw [if_pos c17] at H
            have c17b0 : decide (0 ≤ (ji16)) = true := decide_eq_true c17
            clear c17
            by_cases c18 : (ji16) < (l0_5.length : Int)
            ·
             rw [if_pos c18] at H
             have c18b0 : decide ((ji16) < (l0_5.length : Int)) = true := decide_eq_true c18
             clear c18
             by_cases c19 : (rd l0_5 (ji16)) ≥ (rd l0_5 zs)
             ·
              rw [if_pos c19] at H
              have c19b0 : decide ((rd l0_5 zs) ≤ (rd l0_5 (ji16))) = true := decide_eq_true c19
              clear c19
              obtain rfl := Option.some.inj H
              have p171 : 0 ≤ (zs : Int) := of_decide_eq_true (by first | (with_reducible assumption) | assumption)
              have q171 : zs < (l0_5.length : Int) := of_decide_eq_true (by first | (with_reducible assumption) | assumption)
              obtain ⟨ad171, e171, hx171_0⟩ := zn zF.1 zs p171 q171
              cases e171
              replace hx171_0 := (HB.1.cell (World.block_lt_of_cell? w _ hx171_0)).trans hx171_0
              replace p171 := eq_true p171
              replace q171 := eq_true q171
              go_wp2_with (first | ((with_reducible refine zg (f := 47) rfl ?_); refine zp (some 27) rfl rfl Try.func47 (by kernel_rfl) rfl #[.int .i64 (rd l0_5 zs), .int .i64 0, .int .i64 1000000] rfl (by (try simp only [List.map_toArray, List.map_cons, List.map_nil]); first | done | rfl | (simp only [List.length_drop, List.length_take]; rfl)) ?_; (with_reducible refine (spec_l1In.calls (rd l0_5 zs) 0 1000000 true _ A13.1).mono ?_); rintro e w' ⟨rfl, ⟨nd, rfl⟩⟩; refine ⟨_, rfl, ?_⟩; have hcz20_0 : wr.cell? ⟨gb168, 0, none⟩ = some (.int .i64 a0_0) := (zb zr.1 0).trans rfl; have hcz20_1 : wr.cell? ⟨gb168, 1, none⟩ = some (.slice A0_1 l0_1.length c0_1) := (zb zr.1 1).trans rfl; have hcz20_2 : wr.cell? ⟨gb168, 2, none⟩ = some (.int .i64 a0_2) := (zb zr.1 2).trans rfl; have hcz20_3 : wr.cell? ⟨gb168, 3, none⟩ = some (.int .i64 a0_3) := (zb zr.1 3).trans rfl; have hcz20_4 : wr.cell? ⟨gb168, 4, none⟩ = some (.int .i64 a0_4) := (zb zr.1 4).trans rfl; have hcz20_5 : wr.cell? ⟨gb168, 5, none⟩ = some (.slice (some ad171) l0_5.length c0_5) := (zb zr.1 5).trans rfl; have hfz20_0 := za zr.1 0; have hfz20_1 := za zr.1 1; have hfz20_2 := za zr.1 2; have hfz20_3 := za zr.1 3; have hfz20_4 := za zr.1 4; have hfz20_5 := za zr.1 5; have p173 : 0 ≤ ((ji16) : Int) := of_decide_eq_true (by first | (with_reducible assumption) | assumption); have q173 : (ji16) < (l0_5.length : Int) := of_decide_eq_true (by first | (with_reducible assumption) | assumption); obtain ⟨ad173, e173, hx173_0⟩ := zn zF.1 (ji16) p173 q173; obtain rfl : ad171 = ad173 := (by injection e173); replace hx173_0 := (HB.1.cell (World.block_lt_of_cell? w _ hx173_0)).trans hx173_0; replace p173 := eq_true p173; replace q173 := eq_true q173))
              go_ret
              exact ⟨by first | rfl | (simp [errW_none, errW_some] <;> rfl) | (simp only [← hji16]; first | rfl | (simp [errW_none, errW_some] <;> rfl)) | (simp [*, errW_none, errW_some] <;> rfl), by repeat (first | (with_reducible first | exact HB.1 | apply ze | apply zc | apply zd | refine zf ?_ zw.1) | exact HB.1)⟩
             ·
              rw [if_neg c19] at H
              have c19b0 : decide ((rd l0_5 zs) ≤ (rd l0_5 (ji16))) = false := decide_eq_false c19
              clear c19
              have H' := Aside0.mk H
              clear H
              have p171 : 0 ≤ (zs : Int) := of_decide_eq_true (by first | (with_reducible assumption) | assumption)
              have q171 : zs < (l0_5.length : Int) := of_decide_eq_true (by first | (with_reducible assumption) | assumption)
              obtain ⟨ad171, e171, hx171_0⟩ := zn zF.1 zs p171 q171
              cases e171
              replace hx171_0 := (HB.1.cell (World.block_lt_of_cell? w _ hx171_0)).trans hx171_0
              replace p171 := eq_true p171
              replace q171 := eq_true q171
              go_wp2_with (first | ((with_reducible refine zg (f := 47) rfl ?_); refine zp (some 27) rfl rfl Try.func47 (by kernel_rfl) rfl #[.int .i64 (rd l0_5 zs), .int .i64 0, .int .i64 1000000] rfl (by (try simp only [List.map_toArray, List.map_cons, List.map_nil]); first | done | rfl | (simp only [List.length_drop, List.length_take]; rfl)) ?_; (with_reducible refine (spec_l1In.calls (rd l0_5 zs) 0 1000000 true _ A13.1).mono ?_); rintro e w' ⟨rfl, ⟨nd, rfl⟩⟩; refine ⟨_, rfl, ?_⟩; have hcz21_0 : wr.cell? ⟨gb168, 0, none⟩ = some (.int .i64 a0_0) := (zb zr.1 0).trans rfl; have hcz21_1 : wr.cell? ⟨gb168, 1, none⟩ = some (.slice A0_1 l0_1.length c0_1) := (zb zr.1 1).trans rfl; have hcz21_2 : wr.cell? ⟨gb168, 2, none⟩ = some (.int .i64 a0_2) := (zb zr.1 2).trans rfl; have hcz21_3 : wr.cell? ⟨gb168, 3, none⟩ = some (.int .i64 a0_3) := (zb zr.1 3).trans rfl; have hcz21_4 : wr.cell? ⟨gb168, 4, none⟩ = some (.int .i64 a0_4) := (zb zr.1 4).trans rfl; have hcz21_5 : wr.cell? ⟨gb168, 5, none⟩ = some (.slice (some ad171) l0_5.length c0_5) := (zb zr.1 5).trans rfl; have hfz21_0 := za zr.1 0; have hfz21_1 := za zr.1 1; have hfz21_2 := za zr.1 2; have hfz21_3 := za zr.1 3; have hfz21_4 := za zr.1 4; have hfz21_5 := za zr.1 5; have p173 : 0 ≤ ((ji16) : Int) := of_decide_eq_true (by first | (with_reducible assumption) | assumption); have q173 : (ji16) < (l0_5.length : Int) := of_decide_eq_true (by first | (with_reducible assumption) | assumption); obtain ⟨ad173, e173, hx173_0⟩ := zn zF.1 (ji16) p173 q173; obtain rfl : ad171 = ad173 := (by injection e173); replace hx173_0 := (HB.1.cell (World.block_lt_of_cell? w _ hx173_0)).trans hx173_0; replace p173 := eq_true p173; replace q173 := eq_true q173))
              go_roundg k2
              case measure => have := HK1.1; have := HK2.1; omega
              case rel => exact ⟨(wrap64 (zs + 1)), (by first | rfl | (simp; done) | (simp [*]; done)), H', ⟨by have := HK1.1; have := HK2.1; omega⟩, ⟨by (with_reducible repeat (first | refine zh ?_ _ | refine zj ?_ | refine zi ?_ _)); exact zr.1⟩, ⟨by repeat (first | (with_reducible first | exact HB.1 | apply ze | apply zc | apply zd | refine zf ?_ zw.1) | exact HB.1)⟩⟩
            ·
             rw [if_neg c18] at H
             exact absurd H (by simp)
           ·
            rw [if_neg c17] at H
            exact absurd H (by simp)
          ·
           rw [if_neg c15] at H
           have c15b0 : decide (0 < zs) = false := decide_eq_false c15
           clear c15
           have H' := Aside0.mk H
           clear H
           have p171 : 0 ≤ (zs : Int) := of_decide_eq_true (by first | (with_reducible assumption) | assumption)
           have q171 : zs < (l0_5.length : Int) := of_decide_eq_true (by first | (with_reducible assumption) | assumption)
           obtain ⟨ad171, e171, hx171_0⟩ := zn zF.1 zs p171 q171
           cases e171
           replace hx171_0 := (HB.1.cell (World.block_lt_of_cell? w _ hx171_0)).trans hx171_0
           replace p171 := eq_true p171
           replace q171 := eq_true q171
           go_wp2_with (first | ((with_reducible refine zg (f := 47) rfl ?_); refine zp (some 27) rfl rfl Try.func47 (by kernel_rfl) rfl #[.int .i64 (rd l0_5 zs), .int .i64 0, .int .i64 1000000] rfl (by (try simp only [List.map_toArray, List.map_cons, List.map_nil]); first | done | rfl | (simp only [List.length_drop, List.length_take]; rfl)) ?_; (with_reducible refine (spec_l1In.calls (rd l0_5 zs) 0 1000000 true _ A13.1).mono ?_); rintro e w' ⟨rfl, ⟨nd, rfl⟩⟩; refine ⟨_, rfl, ?_⟩))
           go_roundg k2
           case measure => have := HK1.1; have := HK2.1; omega
           case rel => exact ⟨(wrap64 (zs + 1)), (by first | rfl | (simp; done) | (simp [*]; done)), H', ⟨by have := HK1.1; have := HK2.1; omega⟩, ⟨by (with_reducible repeat (first | refine zh ?_ _ | refine zj ?_ | refine zi ?_ _)); exact zr.1⟩, ⟨by repeat (first | (with_reducible first | exact HB.1 | apply ze | apply zc | apply zd | refine zf ?_ zw.1) | exact HB.1)⟩⟩
         ·
          replace c14 := Bool.eq_false_iff.mpr c14
          subst c14
          have H1 : (some false) = some r := by rw [if_neg (show ¬ (false = true) by decide)] at H; exact H
          clear H
          have H := H1
          clear H1
          obtain rfl := Option.some.inj H
          have p171 : 0 ≤ (zs : Int) := of_decide_eq_true (by first | (with_reducible assumption) | assumption)
          have q171 : zs < (l0_5.length : Int) := of_decide_eq_true (by first | (with_reducible assumption) | assumption)
          obtain ⟨ad171, e171, hx171_0⟩ := zn zF.1 zs p171 q171
          cases e171
          replace hx171_0 := (HB.1.cell (World.block_lt_of_cell? w _ hx171_0)).trans hx171_0
          replace p171 := eq_true p171
          replace q171 := eq_true q171
          go_wp2_with (first | ((with_reducible refine zg (f := 47) rfl ?_); refine zp (some 27) rfl rfl Try.func47 (by kernel_rfl) rfl #[.int .i64 (rd l0_5 zs), .int .i64 0, .int .i64 1000000] rfl (by (try simp only [List.map_toArray, List.map_cons, List.map_nil]); first | done | rfl | (simp only [List.length_drop, List.length_take]; rfl)) ?_; (with_reducible refine (spec_l1In.calls (rd l0_5 zs) 0 1000000 false _ A13.1).mono ?_); rintro e w' ⟨rfl, ⟨nd, rfl⟩⟩; refine ⟨_, rfl, ?_⟩))
          go_ret
          exact ⟨by first | rfl | (simp [errW_none, errW_some] <;> rfl) | (simp [*, errW_none, errW_some] <;> rfl), by repeat (first | (with_reducible first | exact HB.1 | apply ze | apply zc | apply zd | refine zf ?_ zw.1) | exact HB.1)⟩
        ·
         rw [if_neg c12] at H
         exact absurd H (by simp)
       ·
        rw [if_neg c11] at H
        exact absurd H (by simp)
      ·
       rw [if_neg c10] at H
       have c10b0 : decide (zs < (l0_5.length : Int)) = false := decide_eq_false c10
       clear c10
       replace H := Option.bind_eq_some_iff.mp H
       obtain ⟨t174, A220, H⟩ := H
       replace H : (if t174 = true then (if (l0_1.length : Int) ≤ 10 then ((spec_l1Addr.f a0_2).bind fun t175 => (if t175 = true then ((spec_l1In.f a0_3 0 1000000).bind fun t176 => (if t176 = true then ((spec_l1In.f a0_4 0 1000000).bind fun t177 => (if t177 = true then (some (decide ((l0_5.length : Int) ≤ 6))) else (some false))) else (some false))) else (some false))) else (some false)) else (some false)) = some r := H
       have A22 := Aside0.mk A220
       clear A220
       by_cases c23 : t174 = true
       ·
        subst c23
        have H1 : (if (l0_1.length : Int) ≤ 10 then ((spec_l1Addr.f a0_2).bind fun t175 => (if t175 = true then ((spec_l1In.f a0_3 0 1000000).bind fun t176 => (if t176 = true then ((spec_l1In.f a0_4 0 1000000).bind fun t177 => (if t177 = true then (some (decide ((l0_5.length : Int) ≤ 6))) else (some false))) else (some false))) else (some false))) else (some false)) = some r := by rw [if_pos rfl] at H; exact H
        clear H
        have H := H1
        clear H1
        by_cases c24 : (l0_1.length : Int) ≤ 10
        ·
         rw [if_pos c24] at H
         have c24b0 : decide ((l0_1.length : Int) ≤ 10) = true := decide_eq_true c24
         have c24b1 : decide (l0_1.length ≤ 10) = true := decide_eq_true (by omega)
         clear c24
         replace H := Option.bind_eq_some_iff.mp H
         obtain ⟨t175, A250, H⟩ := H
         replace H : (if t175 = true then ((spec_l1In.f a0_3 0 1000000).bind fun t176 => (if t176 = true then ((spec_l1In.f a0_4 0 1000000).bind fun t177 => (if t177 = true then (some (decide ((l0_5.length : Int) ≤ 6))) else (some false))) else (some false))) else (some false)) = some r := H
         have A25 := Aside0.mk A250
         clear A250
         by_cases c26 : t175 = true
         ·
          subst c26
          have H1 : ((spec_l1In.f a0_3 0 1000000).bind fun t176 => (if t176 = true then ((spec_l1In.f a0_4 0 1000000).bind fun t177 => (if t177 = true then (some (decide ((l0_5.length : Int) ≤ 6))) else (some false))) else (some false))) = some r := by rw [if_pos rfl] at H; exact H
          clear H
          have H := H1
          clear H1
          replace H := Option.bind_eq_some_iff.mp H
          obtain ⟨t176, A270, H⟩ := H
          replace H : (if t176 = true then ((spec_l1In.f a0_4 0 1000000).bind fun t177 => (if t177 = true then (some (decide ((l0_5.length : Int) ≤ 6))) else (some false))) else (some false)) = some r := H
          have A27 := Aside0.mk A270
          clear A270
          by_cases c28 : t176 = true
          ·
           subst c28
           have H1 : ((spec_l1In.f a0_4 0 1000000).bind fun t177 => (if t177 = true then (some (decide ((l0_5.length : Int) ≤ 6))) else (some false))) = some r := by rw [if_pos rfl] at H; exact H
           clear H
           have H := H1
           clear H1
           replace H := Option.bind_eq_some_iff.mp H
           obtain ⟨t177, A290, H⟩ := H
           replace H : (if t177 = true then (some (decide ((l0_5.length : Int) ≤ 6))) else (some false)) = some r := H
           have A29 := Aside0.mk A290
           clear A290
           by_cases c30 : t177 = true
           ·
            subst c30
            have H1 : (some (decide ((l0_5.length : Int) ≤ 6))) = some r := by rw [if_pos rfl] at H; exact H
            clear H
            have H := H1
            clear H1
            obtain rfl := Option.some.inj H
            have hcz31_0 : wr.cell? ⟨gb168, 0, none⟩ = some (.int .i64 a0_0) := (zb zr.1 0).trans rfl
            have hcz31_1 : wr.cell? ⟨gb168, 1, none⟩ = some (.slice A0_1 l0_1.length c0_1) := (zb zr.1 1).trans rfl
            have hcz31_2 : wr.cell? ⟨gb168, 2, none⟩ = some (.int .i64 a0_2) := (zb zr.1 2).trans rfl
            have hcz31_3 : wr.cell? ⟨gb168, 3, none⟩ = some (.int .i64 a0_3) := (zb zr.1 3).trans rfl
            have hcz31_4 : wr.cell? ⟨gb168, 4, none⟩ = some (.int .i64 a0_4) := (zb zr.1 4).trans rfl
            have hcz31_5 : wr.cell? ⟨gb168, 5, none⟩ = some (.slice A0_5 l0_5.length c0_5) := (zb zr.1 5).trans rfl
            have hfz31_0 := za zr.1 0
            have hfz31_1 := za zr.1 1
            have hfz31_2 := za zr.1 2
            have hfz31_3 := za zr.1 3
            have hfz31_4 := za zr.1 4
            have hfz31_5 := za zr.1 5
            go_wp2_with (first | ((with_reducible refine zg (f := 47) rfl ?_); refine zp (some 46) rfl rfl Try.func47 (by kernel_rfl) rfl #[.int .i64 a0_0, .int .i64 0, .int .i64 2] rfl (by (try simp only [List.map_toArray, List.map_cons, List.map_nil]); first | done | rfl | (simp only [List.length_drop, List.length_take]; rfl)) ?_; (with_reducible refine (spec_l1In.calls a0_0 0 2 true _ A22.1).mono ?_); rintro e w' ⟨rfl, ⟨nd, rfl⟩⟩; refine ⟨_, rfl, ?_⟩) | (go_at_call 48; (with_reducible refine (spec_l1Addr.calls a0_2 true _ A25.1).mono ?_); rintro e w' ⟨rfl, ⟨nd, rfl⟩⟩) | (go_at_call 47; (with_reducible refine (spec_l1In.calls a0_3 0 1000000 true _ A27.1).mono ?_); rintro e w' ⟨rfl, ⟨nd, rfl⟩⟩) | (go_at_call 47; (with_reducible refine (spec_l1In.calls a0_4 0 1000000 true _ A29.1).mono ?_); rintro e w' ⟨rfl, ⟨nd, rfl⟩⟩))
            go_ret
            exact ⟨by first | rfl | (simp [errW_none, errW_some] <;> rfl) | (simp [*, errW_none, errW_some] <;> rfl), by repeat (first | (with_reducible first | exact HB.1 | apply ze | apply zc | apply zd | refine zf ?_ zw.1) | exact HB.1)⟩
           ·
            replace c30 := Bool.eq_false_iff.mpr c30
            subst c30
            have H1 : (some false) = some r := by rw [if_neg (show ¬ (false = true) by decide)] at H; exact H
            clear H
            have H := H1
            clear H1
            obtain rfl := Option.some.inj H
            have hcz32_0 : wr.cell? ⟨gb168, 0, none⟩ = some (.int .i64 a0_0) := (zb zr.1 0).trans rfl
            have hcz32_1 : wr.cell? ⟨gb168, 1, none⟩ = some (.slice A0_1 l0_1.length c0_1) := (zb zr.1 1).trans rfl
            have hcz32_2 : wr.cell? ⟨gb168, 2, none⟩ = some (.int .i64 a0_2) := (zb zr.1 2).trans rfl
            have hcz32_3 : wr.cell? ⟨gb168, 3, none⟩ = some (.int .i64 a0_3) := (zb zr.1 3).trans rfl
            have hcz32_4 : wr.cell? ⟨gb168, 4, none⟩ = some (.int .i64 a0_4) := (zb zr.1 4).trans rfl
            have hcz32_5 : wr.cell? ⟨gb168, 5, none⟩ = some (.slice A0_5 l0_5.length c0_5) := (zb zr.1 5).trans rfl
            have hfz32_0 := za zr.1 0
            have hfz32_1 := za zr.1 1
            have hfz32_2 := za zr.1 2
            have hfz32_3 := za zr.1 3
            have hfz32_4 := za zr.1 4
            have hfz32_5 := za zr.1 5
            go_wp2_with (first | ((with_reducible refine zg (f := 47) rfl ?_); refine zp (some 46) rfl rfl Try.func47 (by kernel_rfl) rfl #[.int .i64 a0_0, .int .i64 0, .int .i64 2] rfl (by (try simp only [List.map_toArray, List.map_cons, List.map_nil]); first | done | rfl | (simp only [List.length_drop, List.length_take]; rfl)) ?_; (with_reducible refine (spec_l1In.calls a0_0 0 2 true _ A22.1).mono ?_); rintro e w' ⟨rfl, ⟨nd, rfl⟩⟩; refine ⟨_, rfl, ?_⟩) | (go_at_call 48; (with_reducible refine (spec_l1Addr.calls a0_2 true _ A25.1).mono ?_); rintro e w' ⟨rfl, ⟨nd, rfl⟩⟩) | (go_at_call 47; (with_reducible refine (spec_l1In.calls a0_3 0 1000000 true _ A27.1).mono ?_); rintro e w' ⟨rfl, ⟨nd, rfl⟩⟩) | (go_at_call 47; (with_reducible refine (spec_l1In.calls a0_4 0 1000000 false _ A29.1).mono ?_); rintro e w' ⟨rfl, ⟨nd, rfl⟩⟩))
            go_ret
            exact ⟨by first | rfl | (simp [errW_none, errW_some] <;> rfl) | (simp [*, errW_none, errW_some] <;> rfl), by repeat (first | (with_reducible first | exact HB.1 | apply ze | apply zc | apply zd | refine zf ?_ zw.1) | exact HB.1)⟩
          ·
           replace c28 := Bool.eq_false_iff.mpr c28
           subst c28
           have H1 : (some false) = some r := by rw [if_neg (show ¬ (false = true) by decide)] at H; exact H
           clear H
           have H := H1
           clear H1
           obtain rfl := Option.some.inj H
           have hcz33_0 : wr.cell? ⟨gb168, 0, none⟩ = some (.int .i64 a0_0) := (zb zr.1 0).trans rfl
           have hcz33_1 : wr.cell? ⟨gb168, 1, none⟩ = some (.slice A0_1 l0_1.length c0_1) := (zb zr.1 1).trans rfl
           have hcz33_2 : wr.cell? ⟨gb168, 2, none⟩ = some (.int .i64 a0_2) := (zb zr.1 2).trans rfl
           have hcz33_3 : wr.cell? ⟨gb168, 3, none⟩ = some (.int .i64 a0_3) := (zb zr.1 3).trans rfl
           have hcz33_4 : wr.cell? ⟨gb168, 4, none⟩ = some (.int .i64 a0_4) := (zb zr.1 4).trans rfl
           have hcz33_5 : wr.cell? ⟨gb168, 5, none⟩ = some (.slice A0_5 l0_5.length c0_5) := (zb zr.1 5).trans rfl
           have hfz33_0 := za zr.1 0
           have hfz33_1 := za zr.1 1
           have hfz33_2 := za zr.1 2
           have hfz33_3 := za zr.1 3
           have hfz33_4 := za zr.1 4
           have hfz33_5 := za zr.1 5
           go_wp2_with (first | ((with_reducible refine zg (f := 47) rfl ?_); refine zp (some 46) rfl rfl Try.func47 (by kernel_rfl) rfl #[.int .i64 a0_0, .int .i64 0, .int .i64 2] rfl (by (try simp only [List.map_toArray, List.map_cons, List.map_nil]); first | done | rfl | (simp only [List.length_drop, List.length_take]; rfl)) ?_; (with_reducible refine (spec_l1In.calls a0_0 0 2 true _ A22.1).mono ?_); rintro e w' ⟨rfl, ⟨nd, rfl⟩⟩; refine ⟨_, rfl, ?_⟩) | (go_at_call 48; (with_reducible refine (spec_l1Addr.calls a0_2 true _ A25.1).mono ?_); rintro e w' ⟨rfl, ⟨nd, rfl⟩⟩) | (go_at_call 47; (with_reducible refine (spec_l1In.calls a0_3 0 1000000 false _ A27.1).mono ?_); rintro e w' ⟨rfl, ⟨nd, rfl⟩⟩))
           go_ret
           exact ⟨by first | rfl | (simp [errW_none, errW_some] <;> rfl) | (simp [*, errW_none, errW_some] <;> rfl), by repeat (first | (with_reducible first | exact HB.1 | apply ze | apply zc | apply zd | refine zf ?_ zw.1) | exact HB.1)⟩
         ·
          replace c26 := Bool.eq_false_iff.mpr c26
          subst c26
          have H1 : (some false) = some r := by rw [if_neg (show ¬ (false = true) by decide)] at H; exact H
          clear H
          have H := H1
          clear H1
          obtain rfl := Option.some.inj H
          have hcz34_0 : wr.cell? ⟨gb168, 0, none⟩ = some (.int .i64 a0_0) := (zb zr.1 0).trans rfl
          have hcz34_1 : wr.cell? ⟨gb168, 1, none⟩ = some (.slice A0_1 l0_1.length c0_1) := (zb zr.1 1).trans rfl
          have hcz34_2 : wr.cell? ⟨gb168, 2, none⟩ = some (.int .i64 a0_2) := (zb zr.1 2).trans rfl
          have hcz34_3 : wr.cell? ⟨gb168, 3, none⟩ = some (.int .i64 a0_3) := (zb zr.1 3).trans rfl
          have hcz34_4 : wr.cell? ⟨gb168, 4, none⟩ = some (.int .i64 a0_4) := (zb zr.1 4).trans rfl
          have hcz34_5 : wr.cell? ⟨gb168, 5, none⟩ = some (.slice A0_5 l0_5.length c0_5) := (zb zr.1 5).trans rfl
          have hfz34_0 := za zr.1 0
          have hfz34_1 := za zr.1 1
          have hfz34_2 := za zr.1 2
          have hfz34_3 := za zr.1 3
          have hfz34_4 := za zr.1 4
          have hfz34_5 := za zr.1 5
          go_wp2_with (first | ((with_reducible refine zg (f := 47) rfl ?_); refine zp (some 46) rfl rfl Try.func47 (by kernel_rfl) rfl #[.int .i64 a0_0, .int .i64 0, .int .i64 2] rfl (by (try simp only [List.map_toArray, List.map_cons, List.map_nil]); first | done | rfl | (simp only [List.length_drop, List.length_take]; rfl)) ?_; (with_reducible refine (spec_l1In.calls a0_0 0 2 true _ A22.1).mono ?_); rintro e w' ⟨rfl, ⟨nd, rfl⟩⟩; refine ⟨_, rfl, ?_⟩) | (go_at_call 48; (with_reducible refine (spec_l1Addr.calls a0_2 false _ A25.1).mono ?_); rintro e w' ⟨rfl, ⟨nd, rfl⟩⟩))
          go_ret
          exact ⟨by first | rfl | (simp [errW_none, errW_some] <;> rfl) | (simp [*, errW_none, errW_some] <;> rfl), by repeat (first | (with_reducible first | exact HB.1 | apply ze | apply zc | apply zd | refine zf ?_ zw.1) | exact HB.1)⟩
        ·
         rw [if_neg c24] at H
         have c24b0 : decide ((l0_1.length : Int) ≤ 10) = false := decide_eq_false c24
         have c24b1 : decide (l0_1.length ≤ 10) = false := decide_eq_false (by omega)
         clear c24
         obtain rfl := Option.some.inj H
         have hcz35_0 : wr.cell? ⟨gb168, 0, none⟩ = some (.int .i64 a0_0) := (zb zr.1 0).trans rfl
         have hcz35_1 : wr.cell? ⟨gb168, 1, none⟩ = some (.slice A0_1 l0_1.length c0_1) := (zb zr.1 1).trans rfl
         have hcz35_2 : wr.cell? ⟨gb168, 2, none⟩ = some (.int .i64 a0_2) := (zb zr.1 2).trans rfl
         have hcz35_3 : wr.cell? ⟨gb168, 3, none⟩ = some (.int .i64 a0_3) := (zb zr.1 3).trans rfl
         have hcz35_4 : wr.cell? ⟨gb168, 4, none⟩ = some (.int .i64 a0_4) := (zb zr.1 4).trans rfl
         have hcz35_5 : wr.cell? ⟨gb168, 5, none⟩ = some (.slice A0_5 l0_5.length c0_5) := (zb zr.1 5).trans rfl
         have hfz35_0 := za zr.1 0
         have hfz35_1 := za zr.1 1
         have hfz35_2 := za zr.1 2
         have hfz35_3 := za zr.1 3
         have hfz35_4 := za zr.1 4
         have hfz35_5 := za zr.1 5
         go_wp2_with (first | ((with_reducible refine zg (f := 47) rfl ?_); refine zp (some 46) rfl rfl Try.func47 (by kernel_rfl) rfl #[.int .i64 a0_0, .int .i64 0, .int .i64 2] rfl (by (try simp only [List.map_toArray, List.map_cons, List.map_nil]); first | done | rfl | (simp only [List.length_drop, List.length_take]; rfl)) ?_; (with_reducible refine (spec_l1In.calls a0_0 0 2 true _ A22.1).mono ?_); rintro e w' ⟨rfl, ⟨nd, rfl⟩⟩; refine ⟨_, rfl, ?_⟩))
         go_ret
         exact ⟨by first | rfl | (simp [errW_none, errW_some] <;> rfl) | (simp [*, errW_none, errW_some] <;> rfl), by repeat (first | (with_reducible first | exact HB.1 | apply ze | apply zc | apply zd | refine zf ?_ zw.1) | exact HB.1)⟩
       ·
        replace c23 := Bool.eq_false_iff.mpr c23
        subst c23
        have H1 : (some false) = some r := by rw [if_neg (show ¬ (false = true) by decide)] at H; exact H
        clear H
        have H := H1
        clear H1
        obtain rfl := Option.some.inj H
        have hcz36_0 : wr.cell? ⟨gb168, 0, none⟩ = some (.int .i64 a0_0) := (zb zr.1 0).trans rfl
        have hcz36_1 : wr.cell? ⟨gb168, 1, none⟩ = some (.slice A0_1 l0_1.length c0_1) := (zb zr.1 1).trans rfl
        have hcz36_2 : wr.cell? ⟨gb168, 2, none⟩ = some (.int .i64 a0_2) := (zb zr.1 2).trans rfl
        have hcz36_3 : wr.cell? ⟨gb168, 3, none⟩ = some (.int .i64 a0_3) := (zb zr.1 3).trans rfl
        have hcz36_4 : wr.cell? ⟨gb168, 4, none⟩ = some (.int .i64 a0_4) := (zb zr.1 4).trans rfl
        have hcz36_5 : wr.cell? ⟨gb168, 5, none⟩ = some (.slice A0_5 l0_5.length c0_5) := (zb zr.1 5).trans rfl
        have hfz36_0 := za zr.1 0
        have hfz36_1 := za zr.1 1
        have hfz36_2 := za zr.1 2
        have hfz36_3 := za zr.1 3
        have hfz36_4 := za zr.1 4
        have hfz36_5 := za zr.1 5
        go_wp2_with (first | ((with_reducible refine zg (f := 47) rfl ?_); refine zp (some 46) rfl rfl Try.func47 (by kernel_rfl) rfl #[.int .i64 a0_0, .int .i64 0, .int .i64 2] rfl (by (try simp only [List.map_toArray, List.map_cons, List.map_nil]); first | done | rfl | (simp only [List.length_drop, List.length_take]; rfl)) ?_; (with_reducible refine (spec_l1In.calls a0_0 0 2 false _ A22.1).mono ?_); rintro e w' ⟨rfl, ⟨nd, rfl⟩⟩; refine ⟨_, rfl, ?_⟩))
        go_ret
        exact ⟨by first | rfl | (simp [errW_none, errW_some] <;> rfl) | (simp [*, errW_none, errW_some] <;> rfl), by repeat (first | (with_reducible first | exact HB.1 | apply ze | apply zc | apply zd | refine zf ?_ zw.1) | exact HB.1)⟩

/-! ### spec_l4In: function 69 -/
def spec_l4In.l0 : Nat → List (S35) → Int → Int → Int → Int → Option (Bool)
 | 0, _, _, _, _, _ => none
 | k + 1, x7, x8, x9, x179000, x179001 => if x9 < x8 then (if 0 ≤ x9 then (if x9 < (x7.length : Int) then (if (((rd_T35 x7 x9).f0) == x179000 && (((rd_T35 x7 x9).f1) == x179001)) = true then (some true) else (spec_l4In.l0 k x7 x8 (wrap64 (x9 + 1)) x179000 x179001)) else (none)) else (none)) else (some false)
def spec_l4In.f (k : Nat) (l0 : List (S35)) (a1_0 : Int) (a1_1 : Int) : Option (Bool) := spec_l4In.l0 k l0 (l0.length : Int) 0 a1_0 a1_1
theorem spec_l4In.mono_l : ∀ k, (∀ y0 y1 y2 y3 y4, LeO (spec_l4In.l0 k y0 y1 y2 y3 y4) (spec_l4In.l0 (k + 1) y0 y1 y2 y3 y4))
 | 0 => fun _ _ _ _ _ r h => by simp [spec_l4In.l0] at h
 | k + 1 => by
  have ih0 := spec_l4In.mono_l k
  ·
   intro y0 y1 y2 y3 y4
   unfold spec_l4In.l0
   repeat' first
   | (with_reducible exact ih0 _ _ _ _ _)
   | (with_reducible exact LeO.refl _)
   | (with_reducible exact zl _)
   | (with_reducible refine zo ?_ ?_)
   | (with_reducible refine zm ?_ (fun _ => ?_))
   | exact ih0 _ _ _ _ _
   | exact zl _
   | refine zo ?_ ?_
   | refine zm ?_ (fun _ => ?_)
theorem spec_l4In.mono : ∀ a0 a1 a2 k, LeO (spec_l4In.f k a0 a1 a2) (spec_l4In.f (k + 1) a0 a1 a2) := by
 intro a0 a1 a2 k
 have ih0 := spec_l4In.mono_l k
 unfold spec_l4In.f
 repeat' first
   | (with_reducible exact ih0 _ _ _ _ _)
   | (with_reducible exact LeO.refl _)
   | (with_reducible exact zl _)
   | (with_reducible refine zo ?_ ?_)
   | (with_reducible refine zm ?_ (fun _ => ?_))
   | exact ih0 _ _ _ _ _
   | exact zl _
   | refine zo ?_ ?_
   | refine zm ?_ (fun _ => ?_)
set_option maxHeartbeats 8000000 in
set_option maxRecDepth 100000 in
theorem spec_l4In.calls (k : Nat) (A0 : Option Addr) (c0 : Nat) (l0 : List (S35)) (a1_0 : Int) (a1_1 : Int) (r : Bool) (w : World) (hr0 : Kd.C k35 w A0 l0.length l0) (hc0 : l0.length ≤ c0) (h : spec_l4In.f k l0 a1_0 a1_1 = some r) :
  Calls Try.prog 69 #[.slice A0 l0.length c0, .agg #[.int .i64 a1_0, .int .i64 a1_1]] w fun e w' => e = .returned (.bool r) ∧ Below w.heap.size w w' := by
 have hu35 := Try.underlying35
 have HR0 := Aside0.mk hr0
 have HC0 := Aside0.mk hc0
 clear hr0 hc0
 have HB := Aside0.mk (Below.refl w.heap.size w)
 have H : (spec_l4In.l0 k l0 (l0.length : Int) 0 a1_0 a1_1) = some r := h
 clear h
 have H' := Aside0.mk H
 clear H
 go_enter Try.func69, Try.ntmps69
 go_wp2_with (first | ((with_reducible refine gate_dst (N := 3) rfl ?_); refine box_event ?hg (N := 3) ?hd (cs := #[.int .i64 a1_0, .int .i64 a1_1]) (t := 35) ?hr ?_; (case hd => rfl); (case hg => rfl); (case hr => first | (go_simp; done) | (go_simp; rfl)); intro gb178 hg w3 hbox hb; have n0_ := Aside0.mk (below_step (by repeat (first | (with_reducible first | exact HB.1 | apply ze | apply zc | apply zd) | exact HB.1)) hb); have n1_ := Aside0.mk (hbox); have n2_ := Aside0.mk ((by rw [hg]; exact (zk (by repeat (first | (with_reducible first | exact HB.1 | apply ze | apply zc | apply zd) | exact HB.1))) : w.heap.size ≤ gb178)); have n3_ := Aside0.mk ((by rw [hg]; exact (zk (by repeat (first | (with_reducible first | exact HB.1 | apply ze | apply zc | apply zd) | exact HB.1))) : w.heap.size ≤ gb178)); clear HB; have HB := n0_; have zu := n1_; have GW178 := n2_; have zD := n3_; clear n0_ n1_ n2_ n3_; clear hb hbox hg))
 go_loopg [9] k (fun kq v9 w' => ∃ (x9_1 : Int), v9 = .int .i64 x9_1 ∧ zq (spec_l4In.l0 kq l0 (l0.length : Int) x9_1 a1_0 a1_1 = some r) ∧ zq (kq ≤ k) ∧ zq (w'.heap[gb178]? = some (.cells #[.int .i64 a1_0, .int .i64 a1_1] 35 (0, 0))) ∧ zq (Below w.heap.size w w'))
 case atStart => exact ⟨(0), (by first | rfl | (simp; done) | (simp [*]; done)), H', ⟨Nat.le_refl _⟩, ⟨by (with_reducible repeat (first | refine zh ?_ _ | refine zj ?_ | refine zi ?_ _)); exact zu.1⟩, ⟨by repeat (first | (with_reducible first | exact HB.1 | apply ze | apply zc | apply zd | refine zf ?_ zD.1) | exact HB.1)⟩⟩
 case round =>
  clear H'
  (try clear p2)
  obtain ⟨x9_1, rfl, HA, HK1, zu, HB⟩ := hrel
  cases gk with
  | zero => exact absurd HA.1 (by simp [spec_l4In.l0])
  | succ k1 =>
   have H := HA.1
   clear HA
   simp only [spec_l4In.l0] at H
   by_cases c4 : x9_1 < (l0.length : Int)
   ·
    rw [if_pos c4] at H
    have c4b0 : decide (x9_1 < (l0.length : Int)) = true := decide_eq_true c4
    clear c4
    by_cases c5 : 0 ≤ x9_1
    ·
     rw [if_pos c5] at H
     have c5b0 : decide (0 ≤ x9_1) = true := decide_eq_true c5
     clear c5
     by_cases c6 : x9_1 < (l0.length : Int)
     ·
      rw [if_pos c6] at H
      have c6b0 : decide (x9_1 < (l0.length : Int)) = true := decide_eq_true c6
      clear c6
      by_cases c7 : (((rd_T35 l0 x9_1).f0) == a1_0 && (((rd_T35 l0 x9_1).f1) == a1_1)) = true
      ·
       rw [if_pos c7] at H
       have c7b0 : (((rd_T35 l0 x9_1).f0) == a1_0 && (((rd_T35 l0 x9_1).f1) == a1_1)) = true := c7
       (try (have c7b1 : decide (((rd_T35 l0 x9_1).f0) = a1_0 && (((rd_T35 l0 x9_1).f1) == a1_1)) = true := by simpa using c7))
       (try (have c7b2 : (((rd_T35 l0 x9_1).f0) == a1_0 && (((rd_T35 l0 x9_1).f1) == a1_1)) = true := by simpa using c7))
       clear c7
       obtain rfl := Option.some.inj H
       have p179 : 0 ≤ (x9_1 : Int) := of_decide_eq_true (by first | (with_reducible assumption) | assumption)
       have q179 : x9_1 < (l0.length : Int) := of_decide_eq_true (by first | (with_reducible assumption) | assumption)
       obtain ⟨ad179, e179, hx179_0, hx179_1⟩ := at_T35 HR0.1 x9_1 p179 q179
       cases e179
       replace hx179_0 := (HB.1.cell (World.block_lt_of_cell? w _ hx179_0)).trans hx179_0
       replace hx179_1 := (HB.1.cell (World.block_lt_of_cell? w _ hx179_1)).trans hx179_1
       replace p179 := eq_true p179
       replace q179 := eq_true q179
       go_wp2_with (first | ((with_reducible refine gate_dst (N := 6) rfl ?_); refine box_event ?hg (N := 6) ?hd (cs := #[.int .i64 0, .int .i64 0]) (t := 35) ?hr ?_; (case hd => rfl); (case hg => rfl); (case hr => first | (go_simp; done) | (go_simp; rfl)); intro gb180 hg w8 hbox hb; have n0_ := Aside0.mk (blk_below (g := gb178) (o := .cells #[.int .i64 a1_0, .int .i64 a1_1] 35 (0, 0)) (by (with_reducible repeat (first | refine zh ?_ _ | refine zj ?_ | refine zi ?_ _)); exact zu.1) hb); have n1_ := Aside0.mk (below_step (by repeat (first | (with_reducible first | exact HB.1 | apply ze | apply zc | apply zd | refine zf ?_ zD.1) | exact HB.1)) hb); have n2_ := Aside0.mk (hbox); have n3_ := Aside0.mk ((by rw [hg]; exact (zk (by repeat (first | (with_reducible first | exact HB.1 | apply ze | apply zc | apply zd | refine zf ?_ zD.1) | exact HB.1))) : w.heap.size ≤ gb180)); have n4_ := Aside0.mk ((by rw [hg]; exact (zk (by repeat (first | (with_reducible first | exact HB.1 | apply ze | apply zc | apply zd | refine zf ?_ zD.1) | exact HB.1))) : w.heap.size ≤ gb180)); have n5_ := Aside0.mk ((by rw [hg]; exact Nat.ne_of_lt (blk_lt (g := gb178) (o := .cells #[.int .i64 a1_0, .int .i64 a1_1] 35 (0, 0)) (by (with_reducible repeat (first | refine zh ?_ _ | refine zj ?_ | refine zi ?_ _)); exact zu.1)) : gb178 ≠ gb180)); have n6_ := Aside0.mk ((by rw [hg]; exact Nat.ne_of_gt (blk_lt (g := gb178) (o := .cells #[.int .i64 a1_0, .int .i64 a1_1] 35 (0, 0)) (by (with_reducible repeat (first | refine zh ?_ _ | refine zj ?_ | refine zi ?_ _)); exact zu.1)) : gb180 ≠ gb178)); clear zu; clear HB; have zu := n0_; have HB := n1_; have zE := n2_; have GW180 := n3_; have GE180 := n4_; have zx := n5_; have NB180_178 := n6_; clear n0_ n1_ n2_ n3_ n4_ n5_ n6_; clear hb hbox hg; have hnb9 := NB180_178.1; have hnc9 := zx.1; have hcz10_0 : w8.cell? ⟨gb180, 0, none⟩ = some (.int .i64 0) := (zb zE.1 0).trans rfl; have hcz10_1 : w8.cell? ⟨gb180, 1, none⟩ = some (.int .i64 0) := (zb zE.1 1).trans rfl; have hfz10_0 := za zE.1 0; have hfz10_1 := za zE.1 1; have hcz11_0 : w8.cell? ⟨gb178, 0, none⟩ = some (.int .i64 a1_0) := (zb zu.1 0).trans rfl; have hcz11_1 : w8.cell? ⟨gb178, 1, none⟩ = some (.int .i64 a1_1) := (zb zu.1 1).trans rfl; have hfz11_0 := za zu.1 0; have hfz11_1 := za zu.1 1))
       go_ret
       exact ⟨by first | rfl | (simp [errW_none, errW_some] <;> rfl) | (simp [*, errW_none, errW_some] <;> rfl), by repeat (first | (with_reducible first | exact HB.1 | apply ze | apply zc | apply zd | refine zf ?_ zD.1 | refine zf ?_ GE180.1) | exact HB.1)⟩
      ·
       rw [if_neg c7] at H
       have c7b0 : (((rd_T35 l0 x9_1).f0) == a1_0 && (((rd_T35 l0 x9_1).f1) == a1_1)) = false := by simpa using c7
       (try (have c7b1 : decide (((rd_T35 l0 x9_1).f0) = a1_0 && (((rd_T35 l0 x9_1).f1) == a1_1)) = false := by simpa using c7))
       (try (have c7b2 : (((rd_T35 l0 x9_1).f0) == a1_0 && (((rd_T35 l0 x9_1).f1) == a1_1)) = false := by simpa using c7))
       (try (have c7b3 : ¬ (((rd_T35 l0 x9_1).f0) = a1_0 && (((rd_T35 l0 x9_1).f1) == a1_1)) := by simpa using c7))
       clear c7
       have H' := Aside0.mk H
       clear H
       have p179 : 0 ≤ (x9_1 : Int) := of_decide_eq_true (by first | (with_reducible assumption) | assumption)
       have q179 : x9_1 < (l0.length : Int) := of_decide_eq_true (by first | (with_reducible assumption) | assumption)
       obtain ⟨ad179, e179, hx179_0, hx179_1⟩ := at_T35 HR0.1 x9_1 p179 q179
       cases e179
       replace hx179_0 := (HB.1.cell (World.block_lt_of_cell? w _ hx179_0)).trans hx179_0
       replace hx179_1 := (HB.1.cell (World.block_lt_of_cell? w _ hx179_1)).trans hx179_1
       replace p179 := eq_true p179
       replace q179 := eq_true q179
       go_wp2_with (first | ((with_reducible refine gate_dst (N := 6) rfl ?_); refine box_event ?hg (N := 6) ?hd (cs := #[.int .i64 0, .int .i64 0]) (t := 35) ?hr ?_; (case hd => rfl); (case hg => rfl); (case hr => first | (go_simp; done) | (go_simp; rfl)); intro gb180 hg w12 hbox hb; have n0_ := Aside0.mk (blk_below (g := gb178) (o := .cells #[.int .i64 a1_0, .int .i64 a1_1] 35 (0, 0)) (by (with_reducible repeat (first | refine zh ?_ _ | refine zj ?_ | refine zi ?_ _)); exact zu.1) hb); have n1_ := Aside0.mk (below_step (by repeat (first | (with_reducible first | exact HB.1 | apply ze | apply zc | apply zd | refine zf ?_ zD.1) | exact HB.1)) hb); have n2_ := Aside0.mk (hbox); have n3_ := Aside0.mk ((by rw [hg]; exact (zk (by repeat (first | (with_reducible first | exact HB.1 | apply ze | apply zc | apply zd | refine zf ?_ zD.1) | exact HB.1))) : w.heap.size ≤ gb180)); have n4_ := Aside0.mk ((by rw [hg]; exact (zk (by repeat (first | (with_reducible first | exact HB.1 | apply ze | apply zc | apply zd | refine zf ?_ zD.1) | exact HB.1))) : w.heap.size ≤ gb180)); have n5_ := Aside0.mk ((by rw [hg]; exact Nat.ne_of_lt (blk_lt (g := gb178) (o := .cells #[.int .i64 a1_0, .int .i64 a1_1] 35 (0, 0)) (by (with_reducible repeat (first | refine zh ?_ _ | refine zj ?_ | refine zi ?_ _)); exact zu.1)) : gb178 ≠ gb180)); have n6_ := Aside0.mk ((by rw [hg]; exact Nat.ne_of_gt (blk_lt (g := gb178) (o := .cells #[.int .i64 a1_0, .int .i64 a1_1] 35 (0, 0)) (by (with_reducible repeat (first | refine zh ?_ _ | refine zj ?_ | refine zi ?_ _)); exact zu.1)) : gb180 ≠ gb178)); clear zu; clear HB; have zu := n0_; have HB := n1_; have zE := n2_; have GW180 := n3_; have GE180 := n4_; have zx := n5_; have NB180_178 := n6_; clear n0_ n1_ n2_ n3_ n4_ n5_ n6_; clear hb hbox hg; have hnb13 := NB180_178.1; have hnc13 := zx.1; have hcz14_0 : w12.cell? ⟨gb180, 0, none⟩ = some (.int .i64 0) := (zb zE.1 0).trans rfl; have hcz14_1 : w12.cell? ⟨gb180, 1, none⟩ = some (.int .i64 0) := (zb zE.1 1).trans rfl; have hfz14_0 := za zE.1 0; have hfz14_1 := za zE.1 1; have hcz15_0 : w12.cell? ⟨gb178, 0, none⟩ = some (.int .i64 a1_0) := (zb zu.1 0).trans rfl; have hcz15_1 : w12.cell? ⟨gb178, 1, none⟩ = some (.int .i64 a1_1) := (zb zu.1 1).trans rfl; have hfz15_0 := za zu.1 0; have hfz15_1 := za zu.1 1))
       go_roundg k1
       case measure => have := HK1.1; omega
       case rel => exact ⟨(wrap64 (x9_1 + 1)), (by first | rfl | (simp; done) | (simp [*]; done)), H', ⟨by have := HK1.1; omega⟩, ⟨by (with_reducible repeat (first | refine zh ?_ _ | refine zj ?_ | refine zi ?_ _)); refine blk_far ?_ zx.1 _; (with_reducible repeat (first | refine zh ?_ _ | refine zj ?_ | refine zi ?_ _)); refine blk_far ?_ zx.1 _; (with_reducible repeat (first | refine zh ?_ _ | refine zj ?_ | refine zi ?_ _)); exact zu.1⟩, ⟨by repeat (first | (with_reducible first | exact HB.1 | apply ze | apply zc | apply zd | refine zf ?_ zD.1 | refine zf ?_ GE180.1) | exact HB.1)⟩⟩
     ·
      rw [if_neg c6] at H
      exact absurd H (by simp)
    ·
     rw [if_neg c5] at H
     exact absurd H (by simp)
   ·
    rw [if_neg c4] at H
    have c4b0 : decide (x9_1 < (l0.length : Int)) = false := decide_eq_false c4
    clear c4
    obtain rfl := Option.some.inj H
    go_wp2
    go_ret
    exact ⟨by first | rfl | (simp [errW_none, errW_some] <;> rfl) | (simp [*, errW_none, errW_some] <;> rfl), by repeat (first | (with_reducible first | exact HB.1 | apply ze | apply zc | apply zd | refine zf ?_ zD.1) | exact HB.1)⟩

/-! ### spec_l1Size: function 101 -/
def spec_l1Size.f (a0_0 : Int) (a0_1 : Int) : Option (Int) := if 0 ≤ (IntKind.u64.wrap (wrap64 (32 - a0_1))) then (some (shl .i64 1 (IntKind.u64.wrap (wrap64 (32 - a0_1))))) else (none)
set_option maxHeartbeats 8000000 in
set_option maxRecDepth 100000 in
theorem spec_l1Size.calls (a0_0 : Int) (a0_1 : Int) (r : Int) (w : World) (h : spec_l1Size.f a0_0 a0_1 = some r) :
  Calls Try.prog 101 #[.agg #[.int .i64 a0_0, .int .i64 a0_1]] w fun e w' => e = .returned (.int .i64 r) ∧ Below w.heap.size w w' := by
 have hu35 := Try.underlying35
 have HB := Aside0.mk (Below.refl w.heap.size w)
 have H : (if 0 ≤ (IntKind.u64.wrap (wrap64 (32 - a0_1))) then (some (shl .i64 1 (IntKind.u64.wrap (wrap64 (32 - a0_1))))) else (none)) = some r := h
 clear h
 obtain ⟨ji2, hji2⟩ : ∃ j_ : Int, (IntKind.u64.wrap (wrap64 (32 - a0_1))) = j_ := ⟨_, rfl⟩
 replace H : (if 0 ≤ (ji2) then (some (shl .i64 1 (ji2))) else (none)) = some r := by first | (rw [hji2] at H; exact H) | (simp only [hji2] at H ⊢; exact H)
 by_cases c3 : 0 ≤ (ji2)
 ·
  rw [if_pos c3] at H
  have c3b0 := eq_true c3
  have c3b1 : decide (0 ≤ (ji2)) = true := decide_eq_true c3
  clear c3
  obtain ⟨ji4, hji4⟩ : ∃ j_ : Int, (shl .i64 1 (ji2)) = j_ := ⟨_, rfl⟩
  replace H : (some ji4) = some r := by first | (rw [hji4] at H; exact H) | (simp only [hji4] at H ⊢; exact H)
  have hji4_ : (IntKind.i64.wrap (1 * 2 ^ min (ji2).toNat 64)) = ji4 := hji4
  have hji4z : (ji2) ≤ 64 → (IntKind.i64.wrap (1 * 2 ^ (ji2).toNat)) = ji4 := shl_small hji4
  have hji4u : (IntKind.i64.wrap (2 ^ min (ji2).toNat 64)) = ji4 := by have h_ := hji4_; rw [Int.one_mul] at h_; exact h_
  have hji4v : (ji2) ≤ 64 → (IntKind.i64.wrap (2 ^ (ji2).toNat)) = ji4 := fun hle_ => by have h_ := hji4z hle_; rw [Int.one_mul] at h_; exact h_
  have hji4y : (wrap64 (1 * 2 ^ min (ji2).toNat 64)) = ji4 := (i64_w _).symm.trans hji4_
  have hji4x : (ji2) ≤ 64 → (wrap64 (1 * 2 ^ (ji2).toNat)) = ji4 := fun h_ => (i64_w _).symm.trans (hji4z h_)
  obtain rfl := Option.some.inj H
  go_enter Try.func101, Try.ntmps101
  go_wp2_with (first | ((with_reducible refine gate_dst (N := 1) rfl ?_); refine box_event ?hg (N := 1) ?hd (cs := #[.int .i64 a0_0, .int .i64 a0_1]) (t := 35) ?hr ?_; (case hd => rfl); (case hg => rfl); (case hr => first | (go_simp; done) | (go_simp; rfl)); intro gb181 hg w5 hbox hb; have n0_ := Aside0.mk (below_step (by repeat (first | (with_reducible first | exact HB.1 | apply ze | apply zc | apply zd) | exact HB.1)) hb); have n1_ := Aside0.mk (hbox); have n2_ := Aside0.mk ((by rw [hg]; exact (zk (by repeat (first | (with_reducible first | exact HB.1 | apply ze | apply zc | apply zd) | exact HB.1))) : w.heap.size ≤ gb181)); have n3_ := Aside0.mk ((by rw [hg]; exact (zk (by repeat (first | (with_reducible first | exact HB.1 | apply ze | apply zc | apply zd) | exact HB.1))) : w.heap.size ≤ gb181)); clear HB; have HB := n0_; have BK181 := n1_; have GW181 := n2_; have GE181 := n3_; clear n0_ n1_ n2_ n3_; clear hb hbox hg; have hcz6_0 : w5.cell? ⟨gb181, 0, none⟩ = some (.int .i64 a0_0) := (zb BK181.1 0).trans rfl; have hcz6_1 : w5.cell? ⟨gb181, 1, none⟩ = some (.int .i64 a0_1) := (zb BK181.1 1).trans rfl; have hfz6_0 := za BK181.1 0; have hfz6_1 := za BK181.1 1))
  go_ret
  exact ⟨by first | rfl | (simp [errW_none, errW_some] <;> rfl) | (simp only [← hji2, ← hji4]; first | rfl | (simp [errW_none, errW_some] <;> rfl)) | (simp [*, errW_none, errW_some] <;> rfl), by repeat (first | (with_reducible first | exact HB.1 | apply ze | apply zc | apply zd | refine zf ?_ GE181.1) | exact HB.1)⟩
 ·
  rw [if_neg c3] at H
  exact absurd H (by simp)

end Go.Proofs.Ytlnfcobloolnnaa.PFnExactUpdateBytes
