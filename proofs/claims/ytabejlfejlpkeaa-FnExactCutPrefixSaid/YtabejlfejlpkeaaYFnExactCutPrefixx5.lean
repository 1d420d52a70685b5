/- Written by this session's own program over the kit's print: Lean functions that tell what Go functions answer, each with a proof that the call does so. No condition but what each statement says. -/
import Derived.Test.YtabejlfejlpkeaaYFnExactCutPrefixx0
import Derived.Test.YtabejlfejlpkeaaYFnExactCutPrefixx1
import Derived.Test.YtabejlfejlpkeaaYFnExactCutPrefixx3
import Derived.Test.YtabejlfejlpkeaaYFnExactCutPrefixx4
namespace Go.Proofs.Ytabejlfejlpkeaa.PFnExactCutPrefix
open Go.RowKit Go.Proofs.YtabejlfejlpkeaaW.PrintWords Go.Proofs.YtabejlfejlpkeaaW.PrintLast Go.Proofs.YtabejlfejlpkeaaW.PrintMore
open Go.Proofs.YtabejlfejlpkeaaW.PrintLast renaming any_of → zt, i64_w → zu, i32_w → zv, pure_ → zx, take_ofW → zL, take_ → qa, goesL_ → qb
open Go.Proofs.YtabejlfejlpkeaaW.PrintWords renaming pw_below_drewN → zd, blk_drewN → zf, blk_alloc → zg, blk_drew → zh, below_drew1 → zi, below_set → zj, below_alloc → zk, blk_cell → zo, blk_frozen → zq, blk_below → zw, below_step → zy, below_size → zC, gate_builtin → zF, Aside0 → zG, gate_callee → zI, blk_grown → zJ, blk_put → zP, blk_far → zQ, box_event → zT, blk_lt → zU, gate_dst → zY
open Go.Proofs.YtabejlfejlpkeaaW.PrintWords.Kd renaming R_drewN → zb, R_alloc → zc, R_drew → ze, R_mono → zp, R_below → zr, R_reads' → zs, R_far → zA, R_after → zB, R_elderB → zD, freshB → zH, R_away → zK, C_drewN → zM, C_alloc → zN, fresh' → zO, C_take → zR, C_drew → zS, R_lt → zX
open Go.Proofs.YtabejlfejlpkeaaW.PrintWords.Kept renaming setCell → za, drewN → zl, alloc → zm, drew → zn, below → zz, of_grown → zE
open Go.Proofs.YtabejlfejlpkeaaW.PrintWords.LeO renaming none → zV, bind → zW, ite → zZ
attribute [local go_sem] max2_int min2_int max_two min_two max_three min_three max_four min_four   -- for this text's walks alone
set_option linter.unusedVariables false
set_option linter.unusedSimpArgs false

attribute [local go_sem high] eqA45
/-! ### spec_l3Put: function 66 -/
mutual
def spec_l3Put.l0 : Nat → List (S45) → List (S45) → Int → Int → Int → Int → Option ((List (S45)))
 | 0, _, _, _, _, _, _ => none
 | k + 1, x0, x13, x14, x15, qm, ql => if x15 < x14 then (if 0 ≤ x15 then (if x15 < (x13.length : Int) then ((spec_l1Covers.f ((rd_T45 x13 x15).f0) ((rd_T45 x13 x15).f1) qm ql).bind fun t157 => (if t157 = true then (some x0) else (spec_l3Put.l0 k x0 x13 x14 (wrap64 (x15 + 1)) qm ql))) else (none)) else (none)) else (spec_l3Put.l1 k ([] : List (S45)) false x0 (x0.length : Int) 0 qm ql)
def spec_l3Put.l1 : Nat → List (S45) → Bool → List (S45) → Int → Int → Int → Int → Option ((List (S45)))
 | 0, _, _, _, _, _, _, _ => none
 | k + 1, x7, x8, x24, x25, x26, qm, ql => if x26 < x25 then (if 0 ≤ x26 then (if x26 < (x24.length : Int) then ((spec_l1Covers.f qm ql ((rd_T45 x24 x26).f0) ((rd_T45 x24 x26).f1)).bind fun t160 => (if t160 = true then (spec_l3Put.l1 k x7 x8 x24 x25 (wrap64 (x26 + 1)) qm ql) else (if ql > 0 then ((spec_l1Sibling.f qm ql).bind fun bt161 => (if (((rd_T45 x24 x26).f0) == bt161.1 && (((rd_T45 x24 x26).f1) == bt161.2)) = true then (spec_l3Put.l1 k x7 true x24 x25 (wrap64 (x26 + 1)) qm ql) else (if x7.length < 8796093022208 then (spec_l3Put.l1 k (x7 ++ [(⟨(rd_T45 x24 x26).f0, (rd_T45 x24 x26).f1⟩ : S45)]) x8 x24 x25 (wrap64 (x26 + 1)) qm ql) else (none)))) else (if x7.length < 8796093022208 then (spec_l3Put.l1 k (x7 ++ [(⟨(rd_T45 x24 x26).f0, (rd_T45 x24 x26).f1⟩ : S45)]) x8 x24 x25 (wrap64 (x26 + 1)) qm ql) else (none))))) else (none)) else (none)) else (if x8 = true then ((spec_l1Parent.f qm ql).bind fun bt169 => ((spec_l3Put.f k x7 bt169.1 bt169.2).bind fun t171 => (some t171))) else (spec_l3Put.l2 k x7 0 qm ql))
def spec_l3Put.l2 : Nat → List (S45) → Int → Int → Int → Option ((List (S45)))
 | 0, _, _, _, _ => none
 | k + 1, x7, x11, qm, ql => if x11 < (x7.length : Int) then (if 0 ≤ x11 then ((spec_l1Compare.f k ((rd_T45 x7 x11).f0) ((rd_T45 x7 x11).f1) qm ql).bind fun t175 => (if t175 < 0 then (spec_l3Put.l2 k x7 (wrap64 (x11 + 1)) qm ql) else (if x11 ≤ (x7.length : Int) then ((some (x7.take (x11 : Int).toNat : List (S45))).bind fun y176 => (if ([] : List (S45)).length + y176.length < 8796093022208 then ((some (([] : List (S45)) ++ y176 : List (S45))).bind fun y180 => (if y180.length < 8796093022208 then ((some (y180 ++ [(⟨qm, ql⟩ : S45)] : List (S45))).bind fun y183 => ((some (x7.drop (x11 : Int).toNat : List (S45))).bind fun y186 => (if y183.length + y186.length < 8796093022208 then (some (y183 ++ y186)) else (none)))) else (none))) else (none))) else (none)))) else (none)) else (if 0 ≤ x11 then (if x11 ≤ (x7.length : Int) then ((some (x7.take (x11 : Int).toNat : List (S45))).bind fun y193 => (if ([] : List (S45)).length + y193.length < 8796093022208 then ((some (([] : List (S45)) ++ y193 : List (S45))).bind fun y197 => (if y197.length < 8796093022208 then ((some (y197 ++ [(⟨qm, ql⟩ : S45)] : List (S45))).bind fun y200 => ((some (x7.drop (x11 : Int).toNat : List (S45))).bind fun y203 => (if y200.length + y203.length < 8796093022208 then (some (y200 ++ y203)) else (none)))) else (none))) else (none))) else (none)) else (none))
def spec_l3Put.f : Nat → List (S45) → Int → Int → Option ((List (S45)))
 | 0, _, _, _ => none
 | k + 1, l0, a1_0, a1_1 => spec_l3Put.l0 k l0 l0 (l0.length : Int) 0 a1_0 a1_1
end
theorem spec_l3Put.mono_l : ∀ k, (∀ y0 y1 y2, LeO (spec_l3Put.f k y0 y1 y2) (spec_l3Put.f (k + 1) y0 y1 y2)) ∧ (∀ y0 y1 y2 y3 y4 y5, LeO (spec_l3Put.l0 k y0 y1 y2 y3 y4 y5) (spec_l3Put.l0 (k + 1) y0 y1 y2 y3 y4 y5)) ∧ (∀ y0 y1 y2 y3 y4 y5 y6, LeO (spec_l3Put.l1 k y0 y1 y2 y3 y4 y5 y6) (spec_l3Put.l1 (k + 1) y0 y1 y2 y3 y4 y5 y6)) ∧ (∀ y0 y1 y2 y3, LeO (spec_l3Put.l2 k y0 y1 y2 y3) (spec_l3Put.l2 (k + 1) y0 y1 y2 y3))
 | 0 => ⟨fun _ _ _ r h => by simp [spec_l3Put.f] at h, fun _ _ _ _ _ _ r h => by simp [spec_l3Put.l0] at h, fun _ _ _ _ _ _ _ r h => by simp [spec_l3Put.l1] at h, fun _ _ _ _ r h => by simp [spec_l3Put.l2] at h⟩
 | k + 1 => by
  obtain ⟨ih0, ih1, ih2, ih3⟩ := spec_l3Put.mono_l k
  refine ⟨?_, ?_, ?_, ?_⟩
  ·
   intro y0 y1 y2
   unfold spec_l3Put.f
   repeat' first
   | (with_reducible exact ih0 _ _ _)
   | (with_reducible exact ih1 _ _ _ _ _ _)
   | (with_reducible exact ih2 _ _ _ _ _ _ _)
   | (with_reducible exact ih3 _ _ _ _)
   | (with_reducible exact spec_l1Compare.mono _ _ _ _ _)
   | (with_reducible exact LeO.refl _)
   | (with_reducible exact zV _)
   | (with_reducible refine zZ ?_ ?_)
   | (with_reducible refine zW ?_ (fun _ => ?_))
   | exact ih0 _ _ _
   | exact ih1 _ _ _ _ _ _
   | exact ih2 _ _ _ _ _ _ _
   | exact ih3 _ _ _ _
   | exact spec_l1Compare.mono _ _ _ _ _
   | exact zV _
   | refine zZ ?_ ?_
   | refine zW ?_ (fun _ => ?_)
  ·
   intro y0 y1 y2 y3 y4 y5
   unfold spec_l3Put.l0
   repeat' first
   | (with_reducible exact ih0 _ _ _)
   | (with_reducible exact ih1 _ _ _ _ _ _)
   | (with_reducible exact ih2 _ _ _ _ _ _ _)
   | (with_reducible exact ih3 _ _ _ _)
   | (with_reducible exact spec_l1Compare.mono _ _ _ _ _)
   | (with_reducible exact LeO.refl _)
   | (with_reducible exact zV _)
   | (with_reducible refine zZ ?_ ?_)
   | (with_reducible refine zW ?_ (fun _ => ?_))
   | exact ih0 _ _ _
   | exact ih1 _ _ _ _ _ _
   | exact ih2 _ _ _ _ _ _ _
   | exact ih3 _ _ _ _
   | exact spec_l1Compare.mono _ _ _ _ _
   | exact zV _
   | refine zZ ?_ ?_
   | refine zW ?_ (fun _ => ?_)
  ·
   intro y0 y1 y2 y3 y4 y5 y6
   unfold spec_l3Put.l1
   repeat' first
   | (with_reducible exact ih0 _ _ _)
   | (with_reducible exact ih1 _ _ _ _ _ _)
   | (with_reducible exact ih2 _ _ _ _ _ _ _)
   | (with_reducible exact ih3 _ _ _ _)
   | (with_reducible exact spec_l1Compare.mono _ _ _ _ _)
   | (with_reducible exact LeO.refl _)
   | (with_reducible exact zV _)
   | (with_reducible refine zZ ?_ ?_)
   | (with_reducible refine zW ?_ (fun _ => ?_))
   | exact ih0 _ _ _
   | exact ih1 _ _ _ _ _ _
   | exact ih2 _ _ _ _ _ _ _
   | exact ih3 _ _ _ _
   | exact spec_l1Compare.mono _ _ _ _ _
   | exact zV _
   | refine zZ ?_ ?_
   | refine zW ?_ (fun _ => ?_)
  ·
   intro y0 y1 y2 y3
   unfold spec_l3Put.l2
   repeat' first
   | (with_reducible exact ih0 _ _ _)
   | (with_reducible exact ih1 _ _ _ _ _ _)
   | (with_reducible exact ih2 _ _ _ _ _ _ _)
   | (with_reducible exact ih3 _ _ _ _)
   | (with_reducible exact spec_l1Compare.mono _ _ _ _ _)
   | (with_reducible exact LeO.refl _)
   | (with_reducible exact zV _)
   | (with_reducible refine zZ ?_ ?_)
   | (with_reducible refine zW ?_ (fun _ => ?_))
   | exact ih0 _ _ _
   | exact ih1 _ _ _ _ _ _
   | exact ih2 _ _ _ _ _ _ _
   | exact ih3 _ _ _ _
   | exact spec_l1Compare.mono _ _ _ _ _
   | exact zV _
   | refine zZ ?_ ?_
   | refine zW ?_ (fun _ => ?_)
theorem spec_l3Put.mono : ∀ a0 a1 a2 k, LeO (spec_l3Put.f k a0 a1 a2) (spec_l3Put.f (k + 1) a0 a1 a2) := by
 intro a0 a1 a2 k
 obtain ⟨ih0, ih1, ih2, ih3⟩ := spec_l3Put.mono_l k
 exact ih0 a0 a1 a2
def spec_l3Put.T13 : Bool × List (List Nat × List Nat) := (true, [([], []), ([0], [0]), ([1], [1]), ([2], [2]), ([3], [3]), ([3], [3]), ([5, 3, 3], [3, 5]), ([4, 6, 3], [3, 4, 6]), ([3, 7], [3, 7])])
def spec_l3Put.B13 : List Nat := [0, 1, 3, 7, 15, 15, 47, 127, 255]
theorem spec_l3Put.tab13 : rtab .any (opsOf Try.f66 13) = spec_l3Put.T13 := by kernel_rfl
theorem spec_l3Put.bits13 : waitsOk spec_l3Put.T13.2 spec_l3Put.B13 = true := by kernel_rfl
def spec_l3Put.T20 : Bool × List (List Nat × List Nat) := (true, [([], []), ([], []), ([1], [1]), ([0, 2], [0, 2]), ([3], [3]), ([4], [4]), ([4], [4]), ([5, 6, 4], [4, 5, 6]), ([7, 4], [4, 7]), ([4], [4]), ([8, 9, 4, 4], [4, 8, 9]), ([10, 4], [4, 10]), ([4, 11], [4, 11])])
def spec_l3Put.B20 : List Nat := [0, 0, 2, 7, 15, 31, 31, 127, 255, 31, 1023, 2047, 4095]
theorem spec_l3Put.tab20 : rtab .any (opsOf Try.f66 20) = spec_l3Put.T20 := by kernel_rfl
theorem spec_l3Put.bits20 : waitsOk spec_l3Put.T20.2 spec_l3Put.B20 = true := by kernel_rfl
set_option maxHeartbeats 8000000 in
set_option maxRecDepth 100000 in
theorem spec_l3Put.calls (k : Nat) : ∀ (P0_ : Nat → Prop) (u9000_ : Value) (l0 : List (S45)) (a1_0 : Int) (a1_1 : Int) (r : List (S45)) (w0 w : World) (hB : Below w0.heap.size w0 w) (ho0 : Kd.R k45 45 w w0.heap.size P0_ u9000_ l0) (h : spec_l3Put.f k l0 a1_0 a1_1 = some r),
  Calls Try.prog 66 #[u9000_, .agg #[.int .i64 a1_0, .int .i64 a1_1]] w fun e w' => ∃ v0_ : Value, e = .returned (v0_) ∧ Kd.R k45 45 w' w0.heap.size (fun k_ => (P0_ k_ ∨ w.heap.size ≤ k_)) v0_ r ∧ Below w0.heap.size w0 w' ∧ Kept w w' (fun k_ => P0_ k_) := by
 induction k using Nat.strongRecOn with
 | _ k ih =>
 intro P0_ u9000_ l0 a1_0 a1_1 r w0 w hB ho0 h
 cases k with
 | zero => exact absurd h (by simp [spec_l3Put.f])
 | succ k =>
 simp only [spec_l3Put.f] at h
 have hu45 := Try.underlying45
 have HO0 := Aside0.mk (show Kd.R k45 45 w w0.heap.size (fun k_ => (P0_ k_ ∨ w.heap.size ≤ k_)) u9000_ l0 from zp ho0 (fun k_ hk => (.inl hk)))
 have HK := Aside0.mk (Kept.refl w (fun k_ => P0_ k_))
 have HW0 := Aside0.mk hB.size
 have HB := Aside0.mk hB
 clear hB
 have H : (spec_l3Put.l0 k l0 l0 (l0.length : Int) 0 a1_0 a1_1) = some r := h
 clear h
 have H' := Aside0.mk H
 clear H
 go_enter Try.func66, Try.ntmps66
 go_wp2_with (first | ((with_reducible refine zY (N := 3) rfl ?_); refine zT ?hg (N := 3) ?hd (cs := #[.int .i64 a1_0, .int .i64 a1_1]) (t := 45) ?hr ?_; (case hd => rfl); (case hg => rfl); (case hr => first | (go_simp; done) | (go_simp; rfl)); intro gb154 hg w3 hbox hb; have n0_ := Aside0.mk (zr (zD (by (with_reducible repeat (first | apply zc | apply zb | apply ze)); exact HO0.1) gb154 (Nat.le_of_eq hg.symm)) hb); have n1_ := Aside0.mk (zz (S := (fun k_ => P0_ k_)) (by repeat (first | (with_reducible first | exact HK.1 | apply zm | apply zl | apply zn) | exact HK.1)) hb); have n2_ := Aside0.mk (zy (by repeat (first | (with_reducible first | exact HB.1 | apply zk | apply zd | apply zi) | exact HB.1)) hb); have n3_ := Aside0.mk (hbox); have n4_ := Aside0.mk ((by rw [hg]; exact (by first | exact HK.1.1 | exact (show Kept w _ (fun k_ => P0_ k_) from by repeat (first | (with_reducible first | exact HK.1 | apply zm | apply zl | apply zn) | exact HK.1)).1) : w.heap.size ≤ gb154)); have n5_ := Aside0.mk ((by rw [hg]; exact (zC (by repeat (first | (with_reducible first | exact HB.1 | apply zk | apply zd | apply zi) | exact HB.1))) : w0.heap.size ≤ gb154)); clear HO0; clear HK; clear HB; have HO0 := n0_; have HK := n1_; have HB := n2_; have qc := n3_; have qh := n4_; have qi := n5_; clear n0_ n1_ n2_ n3_ n4_ n5_; clear hb hbox hg; obtain ⟨Ao4, co4, eo4⟩ := Kd.R_slice HO0.1; subst eo4))
 go_loopg [15] k (fun kq v15 w' => ∃ (qj : Int), v15 = .int .i64 qj ∧ zG (spec_l3Put.l0 kq l0 l0 (l0.length : Int) qj a1_0 a1_1 = some r) ∧ zG (kq ≤ k) ∧ zG (Kd.R k45 45 w' w0.heap.size (fun k_ => (P0_ k_ ∨ w.heap.size ≤ k_) ∧ k_ ≠ gb154) (.slice Ao4 l0.length co4) l0) ∧ zG (Kd.R k45 45 w' w0.heap.size (fun k_ => (P0_ k_ ∨ w.heap.size ≤ k_) ∧ k_ ≠ gb154) (.slice Ao4 l0.length co4) l0) ∧ zG (w'.heap[gb154]? = some (.cells #[.int .i64 a1_0, .int .i64 a1_1] 45 (0, 0))) ∧ zG (Kept w w' (fun k_ => P0_ k_)) ∧ zG (Below w0.heap.size w0 w'))
 case atStart => exact ⟨(0), (by first | rfl | (simp; done) | (simp [*]; done)), H', ⟨Nat.le_refl _⟩, ⟨by (with_reducible repeat (first | apply zc | apply zb | apply ze)); exact HO0.1⟩, ⟨by (with_reducible repeat (first | apply zc | apply zb | apply ze)); exact HO0.1⟩, ⟨by (with_reducible repeat (first | refine zf ?_ _ | refine zh ?_ | refine zg ?_ _)); exact qc.1⟩, ⟨by repeat (first | (with_reducible first | exact HK.1 | apply zm | apply zl | apply zn | refine za ?_ (.inr qh.1) _) | exact HK.1)⟩, ⟨by repeat (first | (with_reducible first | exact HB.1 | apply zk | apply zd | apply zi | refine zj ?_ qi.1) | exact HB.1)⟩⟩
 case round =>
  clear H'
  (try clear p2)
  obtain ⟨qj, rfl, HA, HK1, HO_0, qr, qc, HK, HB⟩ := hrel
  cases gk with
  | zero => exact absurd HA.1 (by simp [spec_l3Put.l0])
  | succ k1 =>
   have H := HA.1
   clear HA
   simp only [spec_l3Put.l0] at H
   by_cases c5 : qj < (l0.length : Int)
   ·
    rw [if_pos c5] at H
    have c5b0 : decide (qj < (l0.length : Int)) = true := decide_eq_true c5
    clear c5
    by_cases c6 : 0 ≤ qj
    ·
     rw [if_pos c6] at H
     have c6b0 : decide (0 ≤ qj) = true := decide_eq_true c6
     clear c6
     by_cases c7 : qj < (l0.length : Int)
     ·
      rw [if_pos c7] at H
      have c7b0 : decide (qj < (l0.length : Int)) = true := decide_eq_true c7
      clear c7
      replace H := Option.bind_eq_some_iff.mp H
      obtain ⟨t157, A80, H⟩ := H
      replace H : (if t157 = true then (some l0) else (spec_l3Put.l0 k1 l0 l0 (l0.length : Int) (wrap64 (qj + 1)) a1_0 a1_1)) = some r := H
      have A8 := Aside0.mk A80
      clear A80
      by_cases c9 : t157 = true
      ·
       subst c9
       have H1 : (some l0) = some r := by rw [if_pos rfl] at H; exact H
       clear H
       have H := H1
       clear H1
       obtain rfl := Option.some.inj H
       have p155 : 0 ≤ (qj : Int) := of_decide_eq_true (by first | (with_reducible assumption) | assumption)
       have q155 : qj < (l0.length : Int) := of_decide_eq_true (by first | (with_reducible assumption) | assumption)
       obtain ⟨ad155, e155, hx155_0, hx155_1⟩ := at_T45 (zs qr.1).2.2 qj p155 q155
       cases e155
       replace p155 := eq_true p155
       replace q155 := eq_true q155
       go_wp2_with (first | ((with_reducible refine zY (N := 6) rfl ?_); refine zT ?hg (N := 6) ?hd (cs := #[.int .i64 0, .int .i64 0]) (t := 45) ?hr ?_; (case hd => rfl); (case hg => rfl); (case hr => first | (go_simp; done) | (go_simp; rfl)); intro gb156 hg w10 hbox hb; have n0_ := Aside0.mk (zr (zD (by (with_reducible repeat (first | apply zc | apply zb | apply ze)); exact HO_0.1) gb156 (Nat.le_of_eq hg.symm)) hb); have n1_ := Aside0.mk (zr (zD (by (with_reducible repeat (first | apply zc | apply zb | apply ze)); exact qr.1) gb156 (Nat.le_of_eq hg.symm)) hb); have n2_ := Aside0.mk (zw (g := gb154) (o := .cells #[.int .i64 a1_0, .int .i64 a1_1] 45 (0, 0)) (by (with_reducible repeat (first | refine zf ?_ _ | refine zh ?_ | refine zg ?_ _)); exact qc.1) hb); have n3_ := Aside0.mk (zz (S := (fun k_ => P0_ k_)) (by repeat (first | (with_reducible first | exact HK.1 | apply zm | apply zl | apply zn | refine za ?_ (.inr qh.1) _) | exact HK.1)) hb); have n4_ := Aside0.mk (zy (by repeat (first | (with_reducible first | exact HB.1 | apply zk | apply zd | apply zi | refine zj ?_ qi.1) | exact HB.1)) hb); have n5_ := Aside0.mk (hbox); have n6_ := Aside0.mk ((by rw [hg]; exact (by first | exact HK.1.1 | exact (show Kept w _ (fun k_ => P0_ k_) from by repeat (first | (with_reducible first | exact HK.1 | apply zm | apply zl | apply zn | refine za ?_ (.inr qh.1) _) | exact HK.1)).1) : w.heap.size ≤ gb156)); have n7_ := Aside0.mk ((by rw [hg]; exact (zC (by repeat (first | (with_reducible first | exact HB.1 | apply zk | apply zd | apply zi | refine zj ?_ qi.1) | exact HB.1))) : w0.heap.size ≤ gb156)); have n8_ := Aside0.mk ((by rw [hg]; exact Nat.ne_of_lt (zU (g := gb154) (o := .cells #[.int .i64 a1_0, .int .i64 a1_1] 45 (0, 0)) (by (with_reducible repeat (first | refine zf ?_ _ | refine zh ?_ | refine zg ?_ _)); exact qc.1)) : gb154 ≠ gb156)); have n9_ := Aside0.mk ((by rw [hg]; exact Nat.ne_of_gt (zU (g := gb154) (o := .cells #[.int .i64 a1_0, .int .i64 a1_1] 45 (0, 0)) (by (with_reducible repeat (first | refine zf ?_ _ | refine zh ?_ | refine zg ?_ _)); exact qc.1)) : gb156 ≠ gb154)); clear HO_0; clear qr; clear qc; clear HK; clear HB; have HO_0 := n0_; have qr := n1_; have qc := n2_; have HK := n3_; have HB := n4_; have qs := n5_; have qv := n6_; have qw := n7_; have qn := n8_; have NB156_154 := n9_; clear n0_ n1_ n2_ n3_ n4_ n5_ n6_ n7_ n8_ n9_; clear hb hbox hg; have hnb11 := NB156_154.1; have hnc11 := qn.1; have hcz12_0 : w10.cell? ⟨gb156, 0, none⟩ = some (.int .i64 0) := (zo qs.1 0).trans rfl; have hcz12_1 : w10.cell? ⟨gb156, 1, none⟩ = some (.int .i64 0) := (zo qs.1 1).trans rfl; have hfz12_0 := zq qs.1 0; have hfz12_1 := zq qs.1 1; have hcz13_0 : w10.cell? ⟨gb154, 0, none⟩ = some (.int .i64 a1_0) := (zo qc.1 0).trans rfl; have hcz13_1 : w10.cell? ⟨gb154, 1, none⟩ = some (.int .i64 a1_1) := (zo qc.1 1).trans rfl; have hfz13_0 := zq qc.1 0; have hfz13_1 := zq qc.1 1) | ((with_reducible refine zI (f := 45) rfl ?_); refine qb (some 21) rfl rfl Try.func45 (by kernel_rfl) rfl #[.agg #[.int .i64 ((rd_T45 l0 qj).f0), .int .i64 ((rd_T45 l0 qj).f1)], .agg #[.int .i64 a1_0, .int .i64 a1_1]] rfl (by (try simp only [List.map_toArray, List.map_cons, List.map_nil]); first | done | rfl | (simp only [List.length_drop, List.length_take]; rfl)) ?_; (with_reducible refine (spec_l1Covers.calls ((rd_T45 l0 qj).f0) ((rd_T45 l0 qj).f1) a1_0 a1_1 true _ A8.1).mono ?_); rintro e w14 ⟨rfl, hb⟩; refine ⟨_, rfl, ?_⟩; have n0_ := Aside0.mk (zr (by (with_reducible repeat (first | apply zc | apply zb | apply ze)); exact (zp (zA (p := ⟨gb156, 1, none⟩) (zA (p := ⟨gb156, 0, none⟩) (zp HO_0.1 (fun k_ hk => (⟨hk, hk.2⟩ : _ ∧ k_ ≠ gb156))) (fun _ hk => hk.2) (.int .i64 ((rd_T45 l0 qj).f0))) (fun _ hk => hk.2) (.int .i64 ((rd_T45 l0 qj).f1))) (fun _ h_ => h_.1))) hb); have n1_ := Aside0.mk (zr (by (with_reducible repeat (first | apply zc | apply zb | apply ze)); exact (zp (zA (p := ⟨gb156, 1, none⟩) (zA (p := ⟨gb156, 0, none⟩) (zp qr.1 (fun k_ hk => (⟨hk, hk.2⟩ : _ ∧ k_ ≠ gb156))) (fun _ hk => hk.2) (.int .i64 ((rd_T45 l0 qj).f0))) (fun _ hk => hk.2) (.int .i64 ((rd_T45 l0 qj).f1))) (fun _ h_ => h_.1))) hb); have n2_ := Aside0.mk (zw (g := gb154) (o := .cells #[.int .i64 a1_0, .int .i64 a1_1] 45 (0, 0)) (by (with_reducible repeat (first | refine zf ?_ _ | refine zh ?_ | refine zg ?_ _)); refine zQ ?_ qn.1 _; (with_reducible repeat (first | refine zf ?_ _ | refine zh ?_ | refine zg ?_ _)); refine zQ ?_ qn.1 _; (with_reducible repeat (first | refine zf ?_ _ | refine zh ?_ | refine zg ?_ _)); exact qc.1) hb); have n3_ := Aside0.mk (zw (g := gb156) (o := .cells #[.int .i64 ((rd_T45 l0 qj).f0), .int .i64 ((rd_T45 l0 qj).f1)] 45 (0, 0)) (by (with_reducible repeat (first | refine zf ?_ _ | refine zh ?_ | refine zg ?_ _)); refine zP (cs := #[.int .i64 ((rd_T45 l0 qj).f0), .int .i64 0]) ?_ 1 _ rfl; (with_reducible repeat (first | refine zf ?_ _ | refine zh ?_ | refine zg ?_ _)); refine zP (cs := #[.int .i64 0, .int .i64 0]) ?_ 0 _ rfl; (with_reducible repeat (first | refine zf ?_ _ | refine zh ?_ | refine zg ?_ _)); exact qs.1) hb); have n4_ := Aside0.mk (zz (S := (fun k_ => P0_ k_)) (by repeat (first | (with_reducible first | exact HK.1 | apply zm | apply zl | apply zn | refine za ?_ (.inr qh.1) _ | refine za ?_ (.inr qv.1) _) | exact HK.1)) hb); have n5_ := Aside0.mk (zy (by repeat (first | (with_reducible first | exact HB.1 | apply zk | apply zd | apply zi | refine zj ?_ qi.1 | refine zj ?_ qw.1) | exact HB.1)) hb); clear HO_0; clear qr; clear qc; clear qs; clear HK; clear HB; have HO_0 := n0_; have qr := n1_; have qc := n2_; have qs := n3_; have HK := n4_; have HB := n5_; clear n0_ n1_ n2_ n3_ n4_ n5_; (try clear hb); (try clear hb2); (try clear hk); (try clear hi)))
       go_ret
       exact ⟨_, by first | rfl | (simp [errW_none, errW_some] <;> rfl) | (simp [*, errW_none, errW_some] <;> rfl), by (with_reducible repeat (first | apply zc | apply zb | apply ze)); exact zp HO_0.1 (fun _ hk => hk.1.1), by repeat (first | (with_reducible first | exact HB.1 | apply zk | apply zd | apply zi | refine zj ?_ qi.1 | refine zj ?_ qw.1) | exact HB.1), by repeat (first | (with_reducible first | exact HK.1 | apply zm | apply zl | apply zn | refine za ?_ (.inr qh.1) _ | refine za ?_ (.inr qv.1) _) | exact HK.1)⟩
      ·
       replace c9 := Bool.eq_false_iff.mpr c9
       subst c9
       have H1 : (spec_l3Put.l0 k1 l0 l0 (l0.length : Int) (wrap64 (qj + 1)) a1_0 a1_1) = some r := by rw [if_neg (show ¬ (false = true) by decide)] at H; exact H
       clear H
       have H := H1
       clear H1
       have H' := Aside0.mk H
       clear H
       have p155 : 0 ≤ (qj : Int) := of_decide_eq_true (by first | (with_reducible assumption) | assumption)
       have q155 : qj < (l0.length : Int) := of_decide_eq_true (by first | (with_reducible assumption) | assumption)
       obtain ⟨ad155, e155, hx155_0, hx155_1⟩ := at_T45 (zs qr.1).2.2 qj p155 q155
       cases e155
       replace p155 := eq_true p155
       replace q155 := eq_true q155
       go_wp2_with (first | ((with_reducible refine zY (N := 6) rfl ?_); refine zT ?hg (N := 6) ?hd (cs := #[.int .i64 0, .int .i64 0]) (t := 45) ?hr ?_; (case hd => rfl); (case hg => rfl); (case hr => first | (go_simp; done) | (go_simp; rfl)); intro gb156 hg w15 hbox hb; have n0_ := Aside0.mk (zr (zD (by (with_reducible repeat (first | apply zc | apply zb | apply ze)); exact HO_0.1) gb156 (Nat.le_of_eq hg.symm)) hb); have n1_ := Aside0.mk (zr (zD (by (with_reducible repeat (first | apply zc | apply zb | apply ze)); exact qr.1) gb156 (Nat.le_of_eq hg.symm)) hb); have n2_ := Aside0.mk (zw (g := gb154) (o := .cells #[.int .i64 a1_0, .int .i64 a1_1] 45 (0, 0)) (by (with_reducible repeat (first | refine zf ?_ _ | refine zh ?_ | refine zg ?_ _)); exact qc.1) hb); have n3_ := Aside0.mk (zz (S := (fun k_ => P0_ k_)) (by repeat (first | (with_reducible first | exact HK.1 | apply zm | apply zl | apply zn | refine za ?_ (.inr qh.1) _) | exact HK.1)) hb); have n4_ := Aside0.mk (zy (by repeat (first | (with_reducible first | exact HB.1 | apply zk | apply zd | apply zi | refine zj ?_ qi.1) | exact HB.1)) hb); have n5_ := Aside0.mk (hbox); have n6_ := Aside0.mk ((by rw [hg]; exact (by first | exact HK.1.1 | exact (show Kept w _ (fun k_ => P0_ k_) from by repeat (first | (with_reducible first | exact HK.1 | apply zm | apply zl | apply zn | refine za ?_ (.inr qh.1) _) | exact HK.1)).1) : w.heap.size ≤ gb156)); have n7_ := Aside0.mk ((by rw [hg]; exact (zC (by repeat (first | (with_reducible first | exact HB.1 | apply zk | apply zd | apply zi | refine zj ?_ qi.1) | exact HB.1))) : w0.heap.size ≤ gb156)); have n8_ := Aside0.mk ((by rw [hg]; exact Nat.ne_of_lt (zU (g := gb154) (o := .cells #[.int .i64 a1_0, .int .i64 a1_1] 45 (0, 0)) (by (with_reducible repeat (first | refine zf ?_ _ | refine zh ?_ | refine zg ?_ _)); exact qc.1)) : gb154 ≠ gb156)); have n9_ := Aside0.mk ((by rw [hg]; exact Nat.ne_of_gt (zU (g := gb154) (o := .cells #[.int .i64 a1_0, .int .i64 a1_1] 45 (0, 0)) (by (with_reducible repeat (first | refine zf ?_ _ | refine zh ?_ | refine zg ?_ _)); exact qc.1)) : gb156 ≠ gb154)); clear HO_0; clear qr; clear qc; clear HK; clear HB; have HO_0 := n0_; have qr := n1_; have qc := n2_; have HK := n3_; have HB := n4_; have qs := n5_; have qv := n6_; have qw := n7_; have qn := n8_; have NB156_154 := n9_; clear n0_ n1_ n2_ n3_ n4_ n5_ n6_ n7_ n8_ n9_; clear hb hbox hg; have hnb16 := NB156_154.1; have hnc16 := qn.1; have hcz17_0 : w15.cell? ⟨gb156, 0, none⟩ = some (.int .i64 0) := (zo qs.1 0).trans rfl; have hcz17_1 : w15.cell? ⟨gb156, 1, none⟩ = some (.int .i64 0) := (zo qs.1 1).trans rfl; have hfz17_0 := zq qs.1 0; have hfz17_1 := zq qs.1 1; have hcz18_0 : w15.cell? ⟨gb154, 0, none⟩ = some (.int .i64 a1_0) := (zo qc.1 0).trans rfl; have hcz18_1 : w15.cell? ⟨gb154, 1, none⟩ = some (.int .i64 a1_1) := (zo qc.1 1).trans rfl; have hfz18_0 := zq qc.1 0; have hfz18_1 := zq qc.1 1) | ((with_reducible refine zI (f := 45) rfl ?_); refine qb (some 21) rfl rfl Try.func45 (by kernel_rfl) rfl #[.agg #[.int .i64 ((rd_T45 l0 qj).f0), .int .i64 ((rd_T45 l0 qj).f1)], .agg #[.int .i64 a1_0, .int .i64 a1_1]] rfl (by (try simp only [List.map_toArray, List.map_cons, List.map_nil]); first | done | rfl | (simp only [List.length_drop, List.length_take]; rfl)) ?_; (with_reducible refine (spec_l1Covers.calls ((rd_T45 l0 qj).f0) ((rd_T45 l0 qj).f1) a1_0 a1_1 false _ A8.1).mono ?_); rintro e w19 ⟨rfl, hb⟩; refine ⟨_, rfl, ?_⟩; have n0_ := Aside0.mk (zr (by (with_reducible repeat (first | apply zc | apply zb | apply ze)); exact (zp (zA (p := ⟨gb156, 1, none⟩) (zA (p := ⟨gb156, 0, none⟩) (zp HO_0.1 (fun k_ hk => (⟨hk, hk.2⟩ : _ ∧ k_ ≠ gb156))) (fun _ hk => hk.2) (.int .i64 ((rd_T45 l0 qj).f0))) (fun _ hk => hk.2) (.int .i64 ((rd_T45 l0 qj).f1))) (fun _ h_ => h_.1))) hb); have n1_ := Aside0.mk (zr (by (with_reducible repeat (first | apply zc | apply zb | apply ze)); exact (zp (zA (p := ⟨gb156, 1, none⟩) (zA (p := ⟨gb156, 0, none⟩) (zp qr.1 (fun k_ hk => (⟨hk, hk.2⟩ : _ ∧ k_ ≠ gb156))) (fun _ hk => hk.2) (.int .i64 ((rd_T45 l0 qj).f0))) (fun _ hk => hk.2) (.int .i64 ((rd_T45 l0 qj).f1))) (fun _ h_ => h_.1))) hb); have n2_ := Aside0.mk (zw (g := gb154) (o := .cells #[.int .i64 a1_0, .int .i64 a1_1] 45 (0, 0)) (by (with_reducible repeat (first | refine zf ?_ _ | refine zh ?_ | refine zg ?_ _)); refine zQ ?_ qn.1 _; (with_reducible repeat (first | refine zf ?_ _ | refine zh ?_ | refine zg ?_ _)); refine zQ ?_ qn.1 _; (with_reducible repeat (first | refine zf ?_ _ | refine zh ?_ | refine zg ?_ _)); exact qc.1) hb); have n3_ := Aside0.mk (zw (g := gb156) (o := .cells #[.int .i64 ((rd_T45 l0 qj).f0), .int .i64 ((rd_T45 l0 qj).f1)] 45 (0, 0)) (by (with_reducible repeat (first | refine zf ?_ _ | refine zh ?_ | refine zg ?_ _)); refine zP (cs := #[.int .i64 ((rd_T45 l0 qj).f0), .int .i64 0]) ?_ 1 _ rfl; (with_reducible repeat (first | refine zf ?_ _ | refine zh ?_ | refine zg ?_ _)); refine zP (cs := #[.int .i64 0, .int .i64 0]) ?_ 0 _ rfl; (with_reducible repeat (first | refine zf ?_ _ | refine zh ?_ | refine zg ?_ _)); exact qs.1) hb); have n4_ := Aside0.mk (zz (S := (fun k_ => P0_ k_)) (by repeat (first | (with_reducible first | exact HK.1 | apply zm | apply zl | apply zn | refine za ?_ (.inr qh.1) _ | refine za ?_ (.inr qv.1) _) | exact HK.1)) hb); have n5_ := Aside0.mk (zy (by repeat (first | (with_reducible first | exact HB.1 | apply zk | apply zd | apply zi | refine zj ?_ qi.1 | refine zj ?_ qw.1) | exact HB.1)) hb); clear HO_0; clear qr; clear qc; clear qs; clear HK; clear HB; have HO_0 := n0_; have qr := n1_; have qc := n2_; have qs := n3_; have HK := n4_; have HB := n5_; clear n0_ n1_ n2_ n3_ n4_ n5_; (try clear hb); (try clear hb2); (try clear hk); (try clear hi)))
       go_roundg k1
       case measure => have := HK1.1; omega
       case rel => exact ⟨(wrap64 (qj + 1)), (by first | rfl | (simp; done) | (simp [*]; done)), H', ⟨by have := HK1.1; omega⟩, ⟨by (with_reducible repeat (first | apply zc | apply zb | apply ze)); exact zp HO_0.1 (fun _ hk => ⟨hk.1.1, hk.1.2⟩)⟩, ⟨by (with_reducible repeat (first | apply zc | apply zb | apply ze)); exact zp qr.1 (fun _ hk => ⟨hk.1.1, hk.1.2⟩)⟩, ⟨by (with_reducible repeat (first | refine zf ?_ _ | refine zh ?_ | refine zg ?_ _)); exact qc.1⟩, ⟨by repeat (first | (with_reducible first | exact HK.1 | apply zm | apply zl | apply zn | refine za ?_ (.inr qh.1) _ | refine za ?_ (.inr qv.1) _) | exact HK.1)⟩, ⟨by repeat (first | (with_reducible first | exact HB.1 | apply zk | apply zd | apply zi | refine zj ?_ qi.1 | refine zj ?_ qw.1) | exact HB.1)⟩⟩
     ·
      rw [if_neg c7] at H
      exact absurd H (by simp)
    ·
     rw [if_neg c6] at H
     exact absurd H (by simp)
   ·
    rw [if_neg c5] at H
    have c5b0 : decide (qj < (l0.length : Int)) = false := decide_eq_false c5
    clear c5
    have H' := Aside0.mk H
    clear H
    go_wp2
    go_loopg [7, 8, 26] k1 (fun kq v7 v8 v26 w' => ∃ (x7_2 : List (S45)) (x8_2 : Bool) (qd : Int), v8 = .bool x8_2 ∧ v26 = .int .i64 qd ∧ zG (spec_l3Put.l1 kq x7_2 x8_2 l0 (l0.length : Int) qd a1_0 a1_1 = some r) ∧ zG (kq ≤ k1) ∧ zG (Kd.R k45 45 w' w0.heap.size (fun k_ => (P0_ k_ ∨ w.heap.size ≤ k_) ∧ some k_ ≠ ((.slice Ao4 l0.length co4) : Value).ownBlock ∧ k_ ≠ gb154) v7 x7_2) ∧ zG (Kd.R k45 45 w' w0.heap.size (fun k_ => (P0_ k_ ∨ w.heap.size ≤ k_) ∧ some k_ ≠ (v7 : Value).ownBlock ∧ k_ ≠ gb154) (.slice Ao4 l0.length co4) l0) ∧ zG (w'.heap[gb154]? = some (.cells #[.int .i64 a1_0, .int .i64 a1_1] 45 (0, 0))) ∧ zG (Kept w w' (fun k_ => P0_ k_)) ∧ zG (Below w0.heap.size w0 w'))
    case atStart => exact ⟨(([] : List (S45))), (false), (0), (by first | rfl | (simp; done) | (simp [*]; done)), (by first | rfl | (simp; done) | (simp [*]; done)), H', ⟨Nat.le_refl _⟩, ⟨by first | exact Kd.R_nil _ _ _ _ _ | exact Kd.N_nil _ _ _ _ _ | exact Kd.V_nil _ _ _ _ _ | exact Kd.Q_nil _ _ _ _ _ | exact Kd.S_nil _ _ _ _ _⟩, ⟨by (with_reducible repeat (first | apply zc | apply zb | apply ze)); exact zp HO_0.1 (fun _ hk => ⟨hk.1, ⟨(by simp [Value.ownBlock]), hk.2⟩⟩)⟩, ⟨by (with_reducible repeat (first | refine zf ?_ _ | refine zh ?_ | refine zg ?_ _)); exact qc.1⟩, ⟨by repeat (first | (with_reducible first | exact HK.1 | apply zm | apply zl | apply zn | refine za ?_ (.inr qh.1) _) | exact HK.1)⟩, ⟨by repeat (first | (with_reducible first | exact HB.1 | apply zk | apply zd | apply zi | refine zj ?_ qi.1) | exact HB.1)⟩⟩
    case round =>
     clear H'
     (try clear c1); (try clear p1); (try clear q1); (try clear hx1); (try clear p2); (try clear c4); (try clear c5); (try clear c5b0); (try clear c6); (try clear c6b0); (try clear p6); (try clear c7); (try clear c7b0); (try clear c9); (try clear c11); (try clear p15); (try clear q15); (try clear hx15); (try clear c16); (try clear hcz12_0); (try clear hcz12_1); (try clear hcz13_0); (try clear hcz13_1); (try clear hcz17_0); (try clear hcz17_1); (try clear hcz18_0); (try clear hcz18_1); (try clear hfz12_0); (try clear hfz12_1); (try clear hfz13_0); (try clear hfz13_1); (try clear hfz17_0); (try clear hfz17_1); (try clear hfz18_0); (try clear hfz18_1); (try clear hx155_0); (try clear hx155_1); (try clear p155); (try clear p2); (try clear q155)
     obtain ⟨x7_2, x8_2, qd, rfl, rfl, HA, HK2, HO_7, qg, qc, HK, HB⟩ := hrel
     cases gk with
     | zero => exact absurd HA.1 (by simp [spec_l3Put.l1])
     | succ k2 =>
      have H := HA.1
      clear HA
      simp only [spec_l3Put.l1] at H
      by_cases c20 : qd < (l0.length : Int)
      ·
       rw [if_pos c20] at H
       have c20b0 : decide (qd < (l0.length : Int)) = true := decide_eq_true c20
       clear c20
       by_cases c21 : 0 ≤ qd
       ·
        rw [if_pos c21] at H
        have c21b0 : decide (0 ≤ qd) = true := decide_eq_true c21
        clear c21
        by_cases c22 : qd < (l0.length : Int)
        ·
         rw [if_pos c22] at H
         have c22b0 : decide (qd < (l0.length : Int)) = true := decide_eq_true c22
         clear c22
         replace H := Option.bind_eq_some_iff.mp H
         obtain ⟨t160, A230, H⟩ := H
         replace H : (if t160 = true then (spec_l3Put.l1 k2 x7_2 x8_2 l0 (l0.length : Int) (wrap64 (qd + 1)) a1_0 a1_1) else (if a1_1 > 0 then ((spec_l1Sibling.f a1_0 a1_1).bind fun bt161 => (if (((rd_T45 l0 qd).f0) == bt161.1 && (((rd_T45 l0 qd).f1) == bt161.2)) = true then (spec_l3Put.l1 k2 x7_2 true l0 (l0.length : Int) (wrap64 (qd + 1)) a1_0 a1_1) else (if x7_2.length < 8796093022208 then (spec_l3Put.l1 k2 (x7_2 ++ [(⟨(rd_T45 l0 qd).f0, (rd_T45 l0 qd).f1⟩ : S45)]) x8_2 l0 (l0.length : Int) (wrap64 (qd + 1)) a1_0 a1_1) else (none)))) else (if x7_2.length < 8796093022208 then (spec_l3Put.l1 k2 (x7_2 ++ [(⟨(rd_T45 l0 qd).f0, (rd_T45 l0 qd).f1⟩ : S45)]) x8_2 l0 (l0.length : Int) (wrap64 (qd + 1)) a1_0 a1_1) else (none)))) = some r := H
         have A23 := Aside0.mk A230
         clear A230
         by_cases c24 : t160 = true
         ·
          subst c24
          have H1 : (spec_l3Put.l1 k2 x7_2 x8_2 l0 (l0.length : Int) (wrap64 (qd + 1)) a1_0 a1_1) = some r := by rw [if_pos rfl] at H; exact H
          clear H
          have H := H1
          clear H1
          have H' := Aside0.mk H
          clear H
          have p158 : 0 ≤ (qd : Int) := of_decide_eq_true (by first | (with_reducible assumption) | assumption)
          have q158 : qd < (l0.length : Int) := of_decide_eq_true (by first | (with_reducible assumption) | assumption)
          obtain ⟨ad158, e158, hx158_0, hx158_1⟩ := at_T45 (zs qg.1).2.2 qd p158 q158
          cases e158
          replace p158 := eq_true p158
          replace q158 := eq_true q158
          go_wp2_with (first | ((with_reducible refine zY (N := 10) rfl ?_); refine zT ?hg (N := 10) ?hd (cs := #[.int .i64 0, .int .i64 0]) (t := 45) ?hr ?_; (case hd => rfl); (case hg => rfl); (case hr => first | (go_simp; done) | (go_simp; rfl)); intro gb159 hg w25 hbox hb; have n0_ := Aside0.mk (zr (zD (by (with_reducible repeat (first | apply zc | apply zb | apply ze)); exact HO_7.1) gb159 (Nat.le_of_eq hg.symm)) hb); have n1_ := Aside0.mk (zr (zD (by (with_reducible repeat (first | apply zc | apply zb | apply ze)); exact qg.1) gb159 (Nat.le_of_eq hg.symm)) hb); have n2_ := Aside0.mk (zw (g := gb154) (o := .cells #[.int .i64 a1_0, .int .i64 a1_1] 45 (0, 0)) (by (with_reducible repeat (first | refine zf ?_ _ | refine zh ?_ | refine zg ?_ _)); exact qc.1) hb); have n3_ := Aside0.mk (zz (S := (fun k_ => P0_ k_)) (by repeat (first | (with_reducible first | exact HK.1 | apply zm | apply zl | apply zn | refine za ?_ (.inr qh.1) _) | exact HK.1)) hb); have n4_ := Aside0.mk (zy (by repeat (first | (with_reducible first | exact HB.1 | apply zk | apply zd | apply zi | refine zj ?_ qi.1) | exact HB.1)) hb); have n5_ := Aside0.mk (hbox); have n6_ := Aside0.mk ((by rw [hg]; exact (by first | exact HK.1.1 | exact (show Kept w _ (fun k_ => P0_ k_) from by repeat (first | (with_reducible first | exact HK.1 | apply zm | apply zl | apply zn | refine za ?_ (.inr qh.1) _) | exact HK.1)).1) : w.heap.size ≤ gb159)); have n7_ := Aside0.mk ((by rw [hg]; exact (zC (by repeat (first | (with_reducible first | exact HB.1 | apply zk | apply zd | apply zi | refine zj ?_ qi.1) | exact HB.1))) : w0.heap.size ≤ gb159)); have n8_ := Aside0.mk ((by rw [hg]; exact Nat.ne_of_lt (zU (g := gb154) (o := .cells #[.int .i64 a1_0, .int .i64 a1_1] 45 (0, 0)) (by (with_reducible repeat (first | refine zf ?_ _ | refine zh ?_ | refine zg ?_ _)); exact qc.1)) : gb154 ≠ gb159)); have n9_ := Aside0.mk ((by rw [hg]; exact Nat.ne_of_gt (zU (g := gb154) (o := .cells #[.int .i64 a1_0, .int .i64 a1_1] 45 (0, 0)) (by (with_reducible repeat (first | refine zf ?_ _ | refine zh ?_ | refine zg ?_ _)); exact qc.1)) : gb159 ≠ gb154)); clear HO_7; clear qg; clear qc; clear HK; clear HB; have HO_7 := n0_; have qg := n1_; have qc := n2_; have HK := n3_; have HB := n4_; have qf := n5_; have qp := n6_; have qq := n7_; have qk := n8_; have qo := n9_; clear n0_ n1_ n2_ n3_ n4_ n5_ n6_ n7_ n8_ n9_; clear hb hbox hg; have hnb26 := qo.1; have hnc26 := qk.1; have hcz27_0 : w25.cell? ⟨gb159, 0, none⟩ = some (.int .i64 0) := (zo qf.1 0).trans rfl; have hcz27_1 : w25.cell? ⟨gb159, 1, none⟩ = some (.int .i64 0) := (zo qf.1 1).trans rfl; have hfz27_0 := zq qf.1 0; have hfz27_1 := zq qf.1 1; have hcz28_0 : w25.cell? ⟨gb154, 0, none⟩ = some (.int .i64 a1_0) := (zo qc.1 0).trans rfl; have hcz28_1 : w25.cell? ⟨gb154, 1, none⟩ = some (.int .i64 a1_1) := (zo qc.1 1).trans rfl; have hfz28_0 := zq qc.1 0; have hfz28_1 := zq qc.1 1) | ((with_reducible refine zI (f := 45) rfl ?_); refine qb (some 32) rfl rfl Try.func45 (by kernel_rfl) rfl #[.agg #[.int .i64 a1_0, .int .i64 a1_1], .agg #[.int .i64 ((rd_T45 l0 qd).f0), .int .i64 ((rd_T45 l0 qd).f1)]] rfl (by (try simp only [List.map_toArray, List.map_cons, List.map_nil]); first | done | rfl | (simp only [List.length_drop, List.length_take]; rfl)) ?_; (with_reducible refine (spec_l1Covers.calls a1_0 a1_1 ((rd_T45 l0 qd).f0) ((rd_T45 l0 qd).f1) true _ A23.1).mono ?_); rintro e w29 ⟨rfl, hb⟩; refine ⟨_, rfl, ?_⟩; have n0_ := Aside0.mk (zr (by (with_reducible repeat (first | apply zc | apply zb | apply ze)); exact (zp (zA (p := ⟨gb159, 1, none⟩) (zA (p := ⟨gb159, 0, none⟩) (zp HO_7.1 (fun k_ hk => (⟨hk, hk.2⟩ : _ ∧ k_ ≠ gb159))) (fun _ hk => hk.2) (.int .i64 ((rd_T45 l0 qd).f0))) (fun _ hk => hk.2) (.int .i64 ((rd_T45 l0 qd).f1))) (fun _ h_ => h_.1))) hb); have n1_ := Aside0.mk (zr (by (with_reducible repeat (first | apply zc | apply zb | apply ze)); exact (zp (zA (p := ⟨gb159, 1, none⟩) (zA (p := ⟨gb159, 0, none⟩) (zp qg.1 (fun k_ hk => (⟨hk, hk.2⟩ : _ ∧ k_ ≠ gb159))) (fun _ hk => hk.2) (.int .i64 ((rd_T45 l0 qd).f0))) (fun _ hk => hk.2) (.int .i64 ((rd_T45 l0 qd).f1))) (fun _ h_ => h_.1))) hb); have n2_ := Aside0.mk (zw (g := gb154) (o := .cells #[.int .i64 a1_0, .int .i64 a1_1] 45 (0, 0)) (by (with_reducible repeat (first | refine zf ?_ _ | refine zh ?_ | refine zg ?_ _)); refine zQ ?_ qk.1 _; (with_reducible repeat (first | refine zf ?_ _ | refine zh ?_ | refine zg ?_ _)); refine zQ ?_ qk.1 _; (with_reducible repeat (first | refine zf ?_ _ | refine zh ?_ | refine zg ?_ _)); exact qc.1) hb); have n3_ := Aside0.mk (zw (g := gb159) (o := .cells #[.int .i64 ((rd_T45 l0 qd).f0), .int .i64 ((rd_T45 l0 qd).f1)] 45 (0, 0)) (by (with_reducible repeat (first | refine zf ?_ _ | refine zh ?_ | refine zg ?_ _)); refine zP (cs := #[.int .i64 ((rd_T45 l0 qd).f0), .int .i64 0]) ?_ 1 _ rfl; (with_reducible repeat (first | refine zf ?_ _ | refine zh ?_ | refine zg ?_ _)); refine zP (cs := #[.int .i64 0, .int .i64 0]) ?_ 0 _ rfl; (with_reducible repeat (first | refine zf ?_ _ | refine zh ?_ | refine zg ?_ _)); exact qf.1) hb); have n4_ := Aside0.mk (zz (S := (fun k_ => P0_ k_)) (by repeat (first | (with_reducible first | exact HK.1 | apply zm | apply zl | apply zn | refine za ?_ (.inr qh.1) _ | refine za ?_ (.inr qp.1) _) | exact HK.1)) hb); have n5_ := Aside0.mk (zy (by repeat (first | (with_reducible first | exact HB.1 | apply zk | apply zd | apply zi | refine zj ?_ qi.1 | refine zj ?_ qq.1) | exact HB.1)) hb); clear HO_7; clear qg; clear qc; clear qf; clear HK; clear HB; have HO_7 := n0_; have qg := n1_; have qc := n2_; have qf := n3_; have HK := n4_; have HB := n5_; clear n0_ n1_ n2_ n3_ n4_ n5_; (try clear hb); (try clear hb2); (try clear hk); (try clear hi)))
          go_roundg k2
          case measure => have := HK1.1; have := HK2.1; omega
          case rel => exact ⟨(x7_2), (x8_2), (wrap64 (qd + 1)), (by first | rfl | (simp; done) | (simp [*]; done)), (by first | rfl | (simp; done) | (simp [*]; done)), H', ⟨by have := HK1.1; have := HK2.1; omega⟩, ⟨by (with_reducible repeat (first | apply zc | apply zb | apply ze)); exact zp HO_7.1 (fun _ hk => ⟨hk.1.1, ⟨hk.1.2.1, hk.1.2.2⟩⟩)⟩, ⟨by (with_reducible repeat (first | apply zc | apply zb | apply ze)); exact zp qg.1 (fun _ hk => ⟨hk.1.1, ⟨hk.1.2.1, hk.1.2.2⟩⟩)⟩, ⟨by (with_reducible repeat (first | refine zf ?_ _ | refine zh ?_ | refine zg ?_ _)); exact qc.1⟩, ⟨by repeat (first | (with_reducible first | exact HK.1 | apply zm | apply zl | apply zn | refine za ?_ (.inr qh.1) _ | refine za ?_ (.inr qp.1) _) | exact HK.1)⟩, ⟨by repeat (first | (with_reducible first | exact HB.1 | apply zk | apply zd | apply zi | refine zj ?_ qi.1 | refine zj ?_ qq.1) | exact HB.1)⟩⟩
         ·
          replace c24 := Bool.eq_false_iff.mpr c24
          subst c24
          have H1 : (if a1_1 > 0 then ((spec_l1Sibling.f a1_0 a1_1).bind fun bt161 => (if (((rd_T45 l0 qd).f0) == bt161.1 && (((rd_T45 l0 qd).f1) == bt161.2)) = true then (spec_l3Put.l1 k2 x7_2 true l0 (l0.length : Int) (wrap64 (qd + 1)) a1_0 a1_1) else (if x7_2.length < 8796093022208 then (spec_l3Put.l1 k2 (x7_2 ++ [(⟨(rd_T45 l0 qd).f0, (rd_T45 l0 qd).f1⟩ : S45)]) x8_2 l0 (l0.length : Int) (wrap64 (qd + 1)) a1_0 a1_1) else (none)))) else (if x7_2.length < 8796093022208 then (spec_l3Put.l1 k2 (x7_2 ++ [(⟨(rd_T45 l0 qd).f0, (rd_T45 l0 qd).f1⟩ : S45)]) x8_2 l0 (l0.length : Int) (wrap64 (qd + 1)) a1_0 a1_1) else (none))) = some r := by rw [if_neg (show ¬ (false = true) by decide)] at H; exact H
          clear H
          have H := H1
          clear H1
          by_cases c30 : a1_1 > 0
          ·
           rw [if_pos c30] at H
           have c30b0 : decide (0 < a1_1) = true := decide_eq_true c30
           clear c30
           replace H := Option.bind_eq_some_iff.mp H
           obtain ⟨⟨t161, t162⟩, A310, H⟩ := H
           replace H : (if (((rd_T45 l0 qd).f0) == t161 && (((rd_T45 l0 qd).f1) == t162)) = true then (spec_l3Put.l1 k2 x7_2 true l0 (l0.length : Int) (wrap64 (qd + 1)) a1_0 a1_1) else (if x7_2.length < 8796093022208 then (spec_l3Put.l1 k2 (x7_2 ++ [(⟨(rd_T45 l0 qd).f0, (rd_T45 l0 qd).f1⟩ : S45)]) x8_2 l0 (l0.length : Int) (wrap64 (qd + 1)) a1_0 a1_1) else (none))) = some r := H
           have A31 := Aside0.mk A310
           clear A310
           by_cases c32 : (((rd_T45 l0 qd).f0) == t161 && (((rd_T45 l0 qd).f1) == t162)) = true
           ·
            rw [if_pos c32] at H
            have c32b0 : (((rd_T45 l0 qd).f0) == t161 && (((rd_T45 l0 qd).f1) == t162)) = true := c32
            (try (have c32b1 : decide (((rd_T45 l0 qd).f0) = t161 && (((rd_T45 l0 qd).f1) == t162)) = true := by simpa using c32))
            (try (have c32b2 : (((rd_T45 l0 qd).f0) == t161 && (((rd_T45 l0 qd).f1) == t162)) = true := by simpa using c32))
            clear c32
            have H' := Aside0.mk H
            clear H
            have p158 : 0 ≤ (qd : Int) := of_decide_eq_true (by first | (with_reducible assumption) | assumption)
            have q158 : qd < (l0.length : Int) := of_decide_eq_true (by first | (with_reducible assumption) | assumption)
            obtain ⟨ad158, e158, hx158_0, hx158_1⟩ := at_T45 (zs qg.1).2.2 qd p158 q158
            cases e158
            replace p158 := eq_true p158
            replace q158 := eq_true q158
            try go_wp2_with (first | ((with_reducible refine zY (N := 10) rfl ?_); refine zT ?hg (N := 10) ?hd (cs := #[.int .i64 0, .int .i64 0]) (t := 45) ?hr ?_; (case hd => rfl); (case hg => rfl); (case hr => first | (go_simp; done) | (go_simp; rfl)); intro gb159 hg w33 hbox hb; have n0_ := Aside0.mk (zr (zD (by (with_reducible repeat (first | apply zc | apply zb | apply ze)); exact HO_7.1) gb159 (Nat.le_of_eq hg.symm)) hb); have n1_ := Aside0.mk (zr (zD (by (with_reducible repeat (first | apply zc | apply zb | apply ze)); exact qg.1) gb159 (Nat.le_of_eq hg.symm)) hb); have n2_ := Aside0.mk (zw (g := gb154) (o := .cells #[.int .i64 a1_0, .int .i64 a1_1] 45 (0, 0)) (by (with_reducible repeat (first | refine zf ?_ _ | refine zh ?_ | refine zg ?_ _)); exact qc.1) hb); have n3_ := Aside0.mk (zz (S := (fun k_ => P0_ k_)) (by repeat (first | (with_reducible first | exact HK.1 | apply zm | apply zl | apply zn | refine za ?_ (.inr qh.1) _) | exact HK.1)) hb); have n4_ := Aside0.mk (zy (by repeat (first | (with_reducible first | exact HB.1 | apply zk | apply zd | apply zi | refine zj ?_ qi.1) | exact HB.1)) hb); have n5_ := Aside0.mk (hbox); have n6_ := Aside0.mk ((by rw [hg]; exact (by first | exact HK.1.1 | exact (show Kept w _ (fun k_ => P0_ k_) from by repeat (first | (with_reducible first | exact HK.1 | apply zm | apply zl | apply zn | refine za ?_ (.inr qh.1) _) | exact HK.1)).1) : w.heap.size ≤ gb159)); have n7_ := Aside0.mk ((by rw [hg]; exact (zC (by repeat (first | (with_reducible first | exact HB.1 | apply zk | apply zd | apply zi | refine zj ?_ qi.1) | exact HB.1))) : w0.heap.size ≤ gb159)); have n8_ := Aside0.mk ((by rw [hg]; exact Nat.ne_of_lt (zU (g := gb154) (o := .cells #[.int .i64 a1_0, .int .i64 a1_1] 45 (0, 0)) (by (with_reducible repeat (first | refine zf ?_ _ | refine zh ?_ | refine zg ?_ _)); exact qc.1)) : gb154 ≠ gb159)); have n9_ := Aside0.mk ((by rw [hg]; exact Nat.ne_of_gt (zU (g := gb154) (o := .cells #[.int .i64 a1_0, .int .i64 a1_1] 45 (0, 0)) (by (with_reducible repeat (first | refine zf ?_ _ | refine zh ?_ | refine zg ?_ _)); exact qc.1)) : gb159 ≠ gb154)); clear HO_7; clear qg; clear qc; clear HK; clear HB; have HO_7 := n0_; have qg := n1_; have qc := n2_; have HK := n3_; have HB := n4_; have qf := n5_; have qp := n6_; have qq := n7_; have qk := n8_; have qo := n9_; clear n0_ n1_ n2_ n3_ n4_ n5_ n6_ n7_ n8_ n9_; clear hb hbox hg; have hnb34 := qo.1; have hnc34 := qk.1; have hcz35_0 : w33.cell? ⟨gb159, 0, none⟩ = some (.int .i64 0) := (zo qf.1 0).trans rfl; have hcz35_1 : w33.cell? ⟨gb159, 1, none⟩ = some (.int .i64 0) := (zo qf.1 1).trans rfl; have hfz35_0 := zq qf.1 0; have hfz35_1 := zq qf.1 1; have hcz36_0 : w33.cell? ⟨gb154, 0, none⟩ = some (.int .i64 a1_0) := (zo qc.1 0).trans rfl; have hcz36_1 : w33.cell? ⟨gb154, 1, none⟩ = some (.int .i64 a1_1) := (zo qc.1 1).trans rfl; have hfz36_0 := zq qc.1 0; have hfz36_1 := zq qc.1 1) | ((with_reducible refine zI (f := 45) rfl ?_); refine qb (some 32) rfl rfl Try.func45 (by kernel_rfl) rfl #[.agg #[.int .i64 a1_0, .int .i64 a1_1], .agg #[.int .i64 ((rd_T45 l0 qd).f0), .int .i64 ((rd_T45 l0 qd).f1)]] rfl (by (try simp only [List.map_toArray, List.map_cons, List.map_nil]); first | done | rfl | (simp only [List.length_drop, List.length_take]; rfl)) ?_; (with_reducible refine (spec_l1Covers.calls a1_0 a1_1 ((rd_T45 l0 qd).f0) ((rd_T45 l0 qd).f1) false _ A23.1).mono ?_); rintro e w37 ⟨rfl, hb⟩; refine ⟨_, rfl, ?_⟩; have n0_ := Aside0.mk (zr (by (with_reducible repeat (first | apply zc | apply zb | apply ze)); exact (zp (zA (p := ⟨gb159, 1, none⟩) (zA (p := ⟨gb159, 0, none⟩) (zp HO_7.1 (fun k_ hk => (⟨hk, hk.2⟩ : _ ∧ k_ ≠ gb159))) (fun _ hk => hk.2) (.int .i64 ((rd_T45 l0 qd).f0))) (fun _ hk => hk.2) (.int .i64 ((rd_T45 l0 qd).f1))) (fun _ h_ => h_.1))) hb); have n1_ := Aside0.mk (zr (by (with_reducible repeat (first | apply zc | apply zb | apply ze)); exact (zp (zA (p := ⟨gb159, 1, none⟩) (zA (p := ⟨gb159, 0, none⟩) (zp qg.1 (fun k_ hk => (⟨hk, hk.2⟩ : _ ∧ k_ ≠ gb159))) (fun _ hk => hk.2) (.int .i64 ((rd_T45 l0 qd).f0))) (fun _ hk => hk.2) (.int .i64 ((rd_T45 l0 qd).f1))) (fun _ h_ => h_.1))) hb); have n2_ := Aside0.mk (zw (g := gb154) (o := .cells #[.int .i64 a1_0, .int .i64 a1_1] 45 (0, 0)) (by (with_reducible repeat (first | refine zf ?_ _ | refine zh ?_ | refine zg ?_ _)); refine zQ ?_ qk.1 _; (with_reducible repeat (first | refine zf ?_ _ | refine zh ?_ | refine zg ?_ _)); refine zQ ?_ qk.1 _; (with_reducible repeat (first | refine zf ?_ _ | refine zh ?_ | refine zg ?_ _)); exact qc.1) hb); have n3_ := Aside0.mk (zw (g := gb159) (o := .cells #[.int .i64 ((rd_T45 l0 qd).f0), .int .i64 ((rd_T45 l0 qd).f1)] 45 (0, 0)) (by (with_reducible repeat (first | refine zf ?_ _ | refine zh ?_ | refine zg ?_ _)); refine zP (cs := #[.int .i64 ((rd_T45 l0 qd).f0), .int .i64 0]) ?_ 1 _ rfl; (with_reducible repeat (first | refine zf ?_ _ | refine zh ?_ | refine zg ?_ _)); refine zP (cs := #[.int .i64 0, .int .i64 0]) ?_ 0 _ rfl; (with_reducible repeat (first | refine zf ?_ _ | refine zh ?_ | refine zg ?_ _)); exact qf.1) hb); have n4_ := Aside0.mk (zz (S := (fun k_ => P0_ k_)) (by repeat (first | (with_reducible first | exact HK.1 | apply zm | apply zl | apply zn | refine za ?_ (.inr qh.1) _ | refine za ?_ (.inr qp.1) _) | exact HK.1)) hb); have n5_ := Aside0.mk (zy (by repeat (first | (with_reducible first | exact HB.1 | apply zk | apply zd | apply zi | refine zj ?_ qi.1 | refine zj ?_ qq.1) | exact HB.1)) hb); clear HO_7; clear qg; clear qc; clear qf; clear HK; clear HB; have HO_7 := n0_; have qg := n1_; have qc := n2_; have qf := n3_; have HK := n4_; have HB := n5_; clear n0_ n1_ n2_ n3_ n4_ n5_; (try clear hb); (try clear hb2); (try clear hk); (try clear hi)))
            have n0_ := Aside0.mk (ze HO_7.1)
            have n1_ := Aside0.mk (ze qg.1)
            have n2_ := Aside0.mk (zh qc.1)
            have n3_ := Aside0.mk (zh qf.1)
            have n4_ := Aside0.mk (zn HK.1)
            have n5_ := Aside0.mk (zi HB.1)
            clear HO_7
            clear qg
            clear qc
            clear qf
            clear HK
            clear HB
            have HO_7 := n0_
            have qg := n1_
            have qc := n2_
            have qf := n3_
            have HK := n4_
            have HB := n5_
            clear n0_ n1_ n2_ n3_ n4_ n5_
            refine start_ (n := 9) (S := fun w' => w'.cell? ⟨gb154, 0, none⟩ = some (.int .i64 a1_0) ∧ w'.cell? ⟨gb154, 1, none⟩ = some (.int .i64 a1_1) ∧ w'.cell? ⟨gb159, 0, none⟩ = some (.int .i64 ((rd_T45 l0 qd).f0)) ∧ w'.cell? ⟨gb159, 1, none⟩ = some (.int .i64 ((rd_T45 l0 qd).f1))) (ds := []) #[false, false, false, false, false, false, false, false, false] (by kernel_rfl) rfl rfl ⟨(zo qc.1 0).trans rfl, (zo qc.1 1).trans rfl, (zo qf.1 0).trans rfl, (zo qf.1 1).trans rfl⟩ (fun hHeld => ?_); refine with_tabW spec_l3Put.tab13 spec_l3Put.bits13 (fun HT_ HW_ => ?_)
            generalize w37.drew = w38 at HO_7 qg qc qf HK HB hHeld ⊢
            refine zx (i := 0) (N := some 33) (v := ?_) (a' := ?_) #[true, false, false, false, false, false, false, false, false] rfl rfl (zt HT_.1 (by kernel_rfl)) (fun _ _ _ h => h) (Or.inl ⟨by rfl, ?_⟩) ?_ ?_
            rotate_left
            ·
             intro w'
             go_simp
             with_reducible rfl
            rotate_left
            ·
             simp only [Act.put, List.setIfInBounds_toArray, List.set_cons_zero, List.set_cons_succ, zu, zv]
             rfl
            refine qa (i := 1) (N := some 34) (v := ?_) (a' := ?_) #[true, true, false, false, false, false, false, false, false] rfl rfl (zL HT_.1 HW_.1 (by kernel_rfl)) (fun _ _ _ h => h) (Or.inl ⟨by rfl, ?_⟩) hHeld ?_ ?_
            rotate_left
            ·
             rintro w' ⟨s0, s1, s2, s3⟩
             go_simp
             with_reducible rfl
            rotate_left
            ·
             simp only [Act.put, List.setIfInBounds_toArray, List.set_cons_zero, List.set_cons_succ, zu, zv]
             rfl
            refine zx (i := 2) (N := some 35) (v := ?_) (a' := ?_) #[true, true, true, false, false, false, false, false, false] rfl rfl (zt HT_.1 (by kernel_rfl)) (fun _ _ _ h => h) (Or.inl ⟨by rfl, ?_⟩) ?_ ?_
            rotate_left
            ·
             intro w'
             go_simp
             with_reducible rfl
            rotate_left
            ·
             simp only [Act.put, List.setIfInBounds_toArray, List.set_cons_zero, List.set_cons_succ, zu, zv]
             rfl
            refine zx (i := 3) (N := some 36) (v := ?_) (a' := ?_) #[true, true, true, true, false, false, false, false, false] rfl rfl (zt HT_.1 (by kernel_rfl)) (fun _ _ _ h => h) (Or.inl ⟨by rfl, ?_⟩) ?_ ?_
            rotate_left
            ·
             intro w'
             go_simp
             with_reducible rfl
            rotate_left
            ·
             simp only [Act.put, List.setIfInBounds_toArray, List.set_cons_zero, List.set_cons_succ, zu, zv]
             rfl
            refine qa (i := 4) (N := some 37) (v := ?_) (a' := ?_) #[true, true, true, true, true, false, false, false, false] rfl rfl (zL HT_.1 HW_.1 (by kernel_rfl)) (fun _ _ _ h => h) (Or.inl ⟨by rfl, ?_⟩) hHeld ?_ ?_
            rotate_left
            ·
             rintro w' ⟨s0, s1, s2, s3⟩
             go_simp
             with_reducible rfl
            rotate_left
            ·
             simp only [Act.put, List.setIfInBounds_toArray, List.set_cons_zero, List.set_cons_succ, zu, zv]
             rfl
            refine qa (i := 5) (N := some 38) (v := ?_) (a' := ?_) #[true, true, true, true, true, true, false, false, false] rfl rfl (zL HT_.1 HW_.1 (by kernel_rfl)) (fun _ _ _ h => h) (Or.inl ⟨by rfl, ?_⟩) hHeld ?_ ?_
            rotate_left
            ·
             rintro w' ⟨s0, s1, s2, s3⟩
             go_simp
             with_reducible rfl
            rotate_left
            ·
             simp only [Act.put, List.setIfInBounds_toArray, List.set_cons_zero, List.set_cons_succ, zu, zv]
             rfl
            refine one_ (i := 6) (N := some 39) #[true, true, true, true, true, true, true, false, false] rfl rfl (one_of HT_.1 (by kernel_rfl)) (by decide) (fun K hK => ?_)
            refine goes_ Try.func46 (by kernel_rfl) rfl #[.agg #[.int .i64 a1_0, .int .i64 a1_1]] (by rfl) rfl rfl (by (try simp only [List.map_toArray, List.map_cons, List.map_nil]); first | done | rfl | (simp only [List.length_drop, List.length_take]; rfl)) ?_
            with_reducible refine (spec_l1Sibling.calls a1_0 a1_1 t161 t162 _ A31.1).mono ?_
            rintro e w39 ⟨rfl, hb⟩
            refine ⟨_, rfl, ?_⟩
            have n0_ := Aside0.mk (zr (by (with_reducible repeat (first | apply zc | apply zb | apply ze)); exact HO_7.1) hb)
            have n1_ := Aside0.mk (zr (by (with_reducible repeat (first | apply zc | apply zb | apply ze)); exact qg.1) hb)
            have n2_ := Aside0.mk (zw (g := gb154) (o := .cells #[.int .i64 a1_0, .int .i64 a1_1] 45 (0, 0)) (by (with_reducible repeat (first | refine zf ?_ _ | refine zh ?_ | refine zg ?_ _)); exact qc.1) hb)
            have n3_ := Aside0.mk (zw (g := gb159) (o := .cells #[.int .i64 ((rd_T45 l0 qd).f0), .int .i64 ((rd_T45 l0 qd).f1)] 45 (0, 0)) (by (with_reducible repeat (first | refine zf ?_ _ | refine zh ?_ | refine zg ?_ _)); exact qf.1) hb)
            have n4_ := Aside0.mk (zz (S := (fun k_ => P0_ k_)) (by repeat (first | (with_reducible first | exact HK.1 | apply zm | apply zl | apply zn | refine za ?_ (.inr qh.1) _ | refine za ?_ (.inr qp.1) _) | exact HK.1)) hb)
            have n5_ := Aside0.mk (zy (by repeat (first | (with_reducible first | exact HB.1 | apply zk | apply zd | apply zi | refine zj ?_ qi.1 | refine zj ?_ qq.1) | exact HB.1)) hb)
            clear HO_7
            clear qg
            clear qc
            clear qf
            clear HK
            clear HB
            have HO_7 := n0_
            have qg := n1_
            have qc := n2_
            have qf := n3_
            have HK := n4_
            have HB := n5_
            clear n0_ n1_ n2_ n3_ n4_ n5_
            (try clear hb)
            (try clear hb2)
            (try clear hk)
            (try clear hi)
            refine hK.out _ _ ⟨(zo qc.1 0).trans rfl, (zo qc.1 1).trans rfl, (zo qf.1 0).trans rfl, (zo qf.1 1).trans rfl⟩ (fun hHeld => ?_)
            clear hK K
            refine norm_ (a' := ?_) ?_ ?_
            rotate_left
            ·
             show Act.put _ (some 39) _ = _
             simp only [Act.put, List.setIfInBounds_toArray, List.set_cons_zero, List.set_cons_succ, zu, zv]
             rfl
            refine zx (i := 7) (N := some 40) (v := ?_) (a' := ?_) #[true, true, true, true, true, true, true, true, false] rfl rfl (zt HT_.1 (by kernel_rfl)) (fun _ _ _ h => h) (Or.inl ⟨by rfl, ?_⟩) ?_ ?_
            rotate_left
            ·
             intro w'
             go_simp
             with_reducible rfl
            rotate_left
            ·
             simp only [Act.put, List.setIfInBounds_toArray, List.set_cons_zero, List.set_cons_succ, zu, zv]
             rfl
            refine zx (i := 8) (N := some 41) (v := ?_) (a' := ?_) #[true, true, true, true, true, true, true, true, true] rfl rfl (zt HT_.1 (by kernel_rfl)) (fun _ _ _ h => h) (Or.inl ⟨by rfl, ?_⟩) ?_ ?_
            rotate_left
            ·
             intro w'
             go_simp
             with_reducible rfl
            rotate_left
            ·
             simp only [Act.put, List.setIfInBounds_toArray, List.set_cons_zero, List.set_cons_succ, zu, zv]
             rfl
            refine done_ (done_of HT_.1 (by kernel_rfl)) ?_
            try go_wp2
            go_roundg k2
            case measure => have := HK1.1; have := HK2.1; omega
            case rel => exact ⟨(x7_2), (true), (wrap64 (qd + 1)), (by first | rfl | (simp; done) | (simp [*]; done)), (by first | rfl | (simp; done) | (simp [*]; done)), H', ⟨by have := HK1.1; have := HK2.1; omega⟩, ⟨by (with_reducible repeat (first | apply zc | apply zb | apply ze)); exact zp HO_7.1 (fun _ hk => ⟨hk.1.1, ⟨hk.1.2.1, hk.1.2.2⟩⟩)⟩, ⟨by (with_reducible repeat (first | apply zc | apply zb | apply ze)); exact zp qg.1 (fun _ hk => ⟨hk.1.1, ⟨hk.1.2.1, hk.1.2.2⟩⟩)⟩, ⟨by (with_reducible repeat (first | refine zf ?_ _ | refine zh ?_ | refine zg ?_ _)); exact qc.1⟩, ⟨by repeat (first | (with_reducible first | exact HK.1 | apply zm | apply zl | apply zn | refine za ?_ (.inr qh.1) _ | refine za ?_ (.inr qp.1) _) | exact HK.1)⟩, ⟨by repeat (first | (with_reducible first | exact HB.1 | apply zk | apply zd | apply zi | refine zj ?_ qi.1 | refine zj ?_ qq.1) | exact HB.1)⟩⟩
           ·
            rw [if_neg c32] at H
            have c32b0 : (((rd_T45 l0 qd).f0) == t161 && (((rd_T45 l0 qd).f1) == t162)) = false := by simpa using c32
            (try (have c32b1 : decide (((rd_T45 l0 qd).f0) = t161 && (((rd_T45 l0 qd).f1) == t162)) = false := by simpa using c32))
            (try (have c32b2 : (((rd_T45 l0 qd).f0) == t161 && (((rd_T45 l0 qd).f1) == t162)) = false := by simpa using c32))
            (try (have c32b3 : ¬ (((rd_T45 l0 qd).f0) = t161 && (((rd_T45 l0 qd).f1) == t162)) := by simpa using c32))
            clear c32
            by_cases c40 : x7_2.length < 8796093022208
            ·
             rw [if_pos c40] at H
             have LMc40 := Aside0.mk c40
             clear c40
             obtain ⟨y163, hy163⟩ : ∃ y_ : List (S45), y_ = (x7_2 ++ [(⟨(rd_T45 l0 qd).f0, (rd_T45 l0 qd).f1⟩ : S45)]) := ⟨_, rfl⟩
             replace H : (spec_l3Put.l1 k2 y163 x8_2 l0 (l0.length : Int) (wrap64 (qd + 1)) a1_0 a1_1) = some r := by first | (rw [hy163]; with_reducible exact H) | (have H2_ := (Option.bind_some _ _).symm.trans H; rw [hy163]; with_reducible exact H2_) | (have H2_ := (Option.bind_some _ _).symm.trans H; with_reducible exact H2_) | with_reducible exact H | (rw [hy163]; exact H) | exact H
             have Ny163 := Aside0.mk hy163
             clear hy163
             have H' := Aside0.mk H
             clear H
             have p158 : 0 ≤ (qd : Int) := of_decide_eq_true (by first | (with_reducible assumption) | assumption)
             have q158 : qd < (l0.length : Int) := of_decide_eq_true (by first | (with_reducible assumption) | assumption)
             obtain ⟨ad158, e158, hx158_0, hx158_1⟩ := at_T45 (zs qg.1).2.2 qd p158 q158
             cases e158
             replace p158 := eq_true p158
             replace q158 := eq_true q158
             try go_wp2_with (first | ((with_reducible refine zY (N := 10) rfl ?_); refine zT ?hg (N := 10) ?hd (cs := #[.int .i64 0, .int .i64 0]) (t := 45) ?hr ?_; (case hd => rfl); (case hg => rfl); (case hr => first | (go_simp; done) | (go_simp; rfl)); intro gb159 hg w41 hbox hb; have n0_ := Aside0.mk (zr (zD (by (with_reducible repeat (first | apply zc | apply zb | apply ze)); exact HO_7.1) gb159 (Nat.le_of_eq hg.symm)) hb); have n1_ := Aside0.mk (zr (zD (by (with_reducible repeat (first | apply zc | apply zb | apply ze)); exact qg.1) gb159 (Nat.le_of_eq hg.symm)) hb); have n2_ := Aside0.mk (zw (g := gb154) (o := .cells #[.int .i64 a1_0, .int .i64 a1_1] 45 (0, 0)) (by (with_reducible repeat (first | refine zf ?_ _ | refine zh ?_ | refine zg ?_ _)); exact qc.1) hb); have n3_ := Aside0.mk (zz (S := (fun k_ => P0_ k_)) (by repeat (first | (with_reducible first | exact HK.1 | apply zm | apply zl | apply zn | refine za ?_ (.inr qh.1) _) | exact HK.1)) hb); have n4_ := Aside0.mk (zy (by repeat (first | (with_reducible first | exact HB.1 | apply zk | apply zd | apply zi | refine zj ?_ qi.1) | exact HB.1)) hb); have n5_ := Aside0.mk (hbox); have n6_ := Aside0.mk ((by rw [hg]; exact (by first | exact HK.1.1 | exact (show Kept w _ (fun k_ => P0_ k_) from by repeat (first | (with_reducible first | exact HK.1 | apply zm | apply zl | apply zn | refine za ?_ (.inr qh.1) _) | exact HK.1)).1) : w.heap.size ≤ gb159)); have n7_ := Aside0.mk ((by rw [hg]; exact (zC (by repeat (first | (with_reducible first | exact HB.1 | apply zk | apply zd | apply zi | refine zj ?_ qi.1) | exact HB.1))) : w0.heap.size ≤ gb159)); have n8_ := Aside0.mk ((by rw [hg]; exact Nat.ne_of_lt (zU (g := gb154) (o := .cells #[.int .i64 a1_0, .int .i64 a1_1] 45 (0, 0)) (by (with_reducible repeat (first | refine zf ?_ _ | refine zh ?_ | refine zg ?_ _)); exact qc.1)) : gb154 ≠ gb159)); have n9_ := Aside0.mk ((by rw [hg]; exact Nat.ne_of_gt (zU (g := gb154) (o := .cells #[.int .i64 a1_0, .int .i64 a1_1] 45 (0, 0)) (by (with_reducible repeat (first | refine zf ?_ _ | refine zh ?_ | refine zg ?_ _)); exact qc.1)) : gb159 ≠ gb154)); clear HO_7; clear qg; clear qc; clear HK; clear HB; have HO_7 := n0_; have qg := n1_; have qc := n2_; have HK := n3_; have HB := n4_; have qf := n5_; have qp := n6_; have qq := n7_; have qk := n8_; have qo := n9_; clear n0_ n1_ n2_ n3_ n4_ n5_ n6_ n7_ n8_ n9_; clear hb hbox hg; have hnb42 := qo.1; have hnc42 := qk.1; have hcz43_0 : w41.cell? ⟨gb159, 0, none⟩ = some (.int .i64 0) := (zo qf.1 0).trans rfl; have hcz43_1 : w41.cell? ⟨gb159, 1, none⟩ = some (.int .i64 0) := (zo qf.1 1).trans rfl; have hfz43_0 := zq qf.1 0; have hfz43_1 := zq qf.1 1; have hcz44_0 : w41.cell? ⟨gb154, 0, none⟩ = some (.int .i64 a1_0) := (zo qc.1 0).trans rfl; have hcz44_1 : w41.cell? ⟨gb154, 1, none⟩ = some (.int .i64 a1_1) := (zo qc.1 1).trans rfl; have hfz44_0 := zq qc.1 0; have hfz44_1 := zq qc.1 1) | ((with_reducible refine zI (f := 45) rfl ?_); refine qb (some 32) rfl rfl Try.func45 (by kernel_rfl) rfl #[.agg #[.int .i64 a1_0, .int .i64 a1_1], .agg #[.int .i64 ((rd_T45 l0 qd).f0), .int .i64 ((rd_T45 l0 qd).f1)]] rfl (by (try simp only [List.map_toArray, List.map_cons, List.map_nil]); first | done | rfl | (simp only [List.length_drop, List.length_take]; rfl)) ?_; (with_reducible refine (spec_l1Covers.calls a1_0 a1_1 ((rd_T45 l0 qd).f0) ((rd_T45 l0 qd).f1) false _ A23.1).mono ?_); rintro e w45 ⟨rfl, hb⟩; refine ⟨_, rfl, ?_⟩; have n0_ := Aside0.mk (zr (by (with_reducible repeat (first | apply zc | apply zb | apply ze)); exact (zp (zA (p := ⟨gb159, 1, none⟩) (zA (p := ⟨gb159, 0, none⟩) (zp HO_7.1 (fun k_ hk => (⟨hk, hk.2⟩ : _ ∧ k_ ≠ gb159))) (fun _ hk => hk.2) (.int .i64 ((rd_T45 l0 qd).f0))) (fun _ hk => hk.2) (.int .i64 ((rd_T45 l0 qd).f1))) (fun _ h_ => h_.1))) hb); have n1_ := Aside0.mk (zr (by (with_reducible repeat (first | apply zc | apply zb | apply ze)); exact (zp (zA (p := ⟨gb159, 1, none⟩) (zA (p := ⟨gb159, 0, none⟩) (zp qg.1 (fun k_ hk => (⟨hk, hk.2⟩ : _ ∧ k_ ≠ gb159))) (fun _ hk => hk.2) (.int .i64 ((rd_T45 l0 qd).f0))) (fun _ hk => hk.2) (.int .i64 ((rd_T45 l0 qd).f1))) (fun _ h_ => h_.1))) hb); have n2_ := Aside0.mk (zw (g := gb154) (o := .cells #[.int .i64 a1_0, .int .i64 a1_1] 45 (0, 0)) (by (with_reducible repeat (first | refine zf ?_ _ | refine zh ?_ | refine zg ?_ _)); refine zQ ?_ qk.1 _; (with_reducible repeat (first | refine zf ?_ _ | refine zh ?_ | refine zg ?_ _)); refine zQ ?_ qk.1 _; (with_reducible repeat (first | refine zf ?_ _ | refine zh ?_ | refine zg ?_ _)); exact qc.1) hb); have n3_ := Aside0.mk (zw (g := gb159) (o := .cells #[.int .i64 ((rd_T45 l0 qd).f0), .int .i64 ((rd_T45 l0 qd).f1)] 45 (0, 0)) (by (with_reducible repeat (first | refine zf ?_ _ | refine zh ?_ | refine zg ?_ _)); refine zP (cs := #[.int .i64 ((rd_T45 l0 qd).f0), .int .i64 0]) ?_ 1 _ rfl; (with_reducible repeat (first | refine zf ?_ _ | refine zh ?_ | refine zg ?_ _)); refine zP (cs := #[.int .i64 0, .int .i64 0]) ?_ 0 _ rfl; (with_reducible repeat (first | refine zf ?_ _ | refine zh ?_ | refine zg ?_ _)); exact qf.1) hb); have n4_ := Aside0.mk (zz (S := (fun k_ => P0_ k_)) (by repeat (first | (with_reducible first | exact HK.1 | apply zm | apply zl | apply zn | refine za ?_ (.inr qh.1) _ | refine za ?_ (.inr qp.1) _) | exact HK.1)) hb); have n5_ := Aside0.mk (zy (by repeat (first | (with_reducible first | exact HB.1 | apply zk | apply zd | apply zi | refine zj ?_ qi.1 | refine zj ?_ qq.1) | exact HB.1)) hb); clear HO_7; clear qg; clear qc; clear qf; clear HK; clear HB; have HO_7 := n0_; have qg := n1_; have qc := n2_; have qf := n3_; have HK := n4_; have HB := n5_; clear n0_ n1_ n2_ n3_ n4_ n5_; (try clear hb); (try clear hb2); (try clear hk); (try clear hi)))
             have n0_ := Aside0.mk (ze HO_7.1)
             have n1_ := Aside0.mk (ze qg.1)
             have n2_ := Aside0.mk (zh qc.1)
             have n3_ := Aside0.mk (zh qf.1)
             have n4_ := Aside0.mk (zn HK.1)
             have n5_ := Aside0.mk (zi HB.1)
             clear HO_7
             clear qg
             clear qc
             clear qf
             clear HK
             clear HB
             have HO_7 := n0_
             have qg := n1_
             have qc := n2_
             have qf := n3_
             have HK := n4_
             have HB := n5_
             clear n0_ n1_ n2_ n3_ n4_ n5_
             refine start_ (n := 9) (S := fun w' => w'.cell? ⟨gb154, 0, none⟩ = some (.int .i64 a1_0) ∧ w'.cell? ⟨gb154, 1, none⟩ = some (.int .i64 a1_1) ∧ w'.cell? ⟨gb159, 0, none⟩ = some (.int .i64 ((rd_T45 l0 qd).f0)) ∧ w'.cell? ⟨gb159, 1, none⟩ = some (.int .i64 ((rd_T45 l0 qd).f1))) (ds := []) #[false, false, false, false, false, false, false, false, false] (by kernel_rfl) rfl rfl ⟨(zo qc.1 0).trans rfl, (zo qc.1 1).trans rfl, (zo qf.1 0).trans rfl, (zo qf.1 1).trans rfl⟩ (fun hHeld => ?_); refine with_tabW spec_l3Put.tab13 spec_l3Put.bits13 (fun HT_ HW_ => ?_)
             generalize w45.drew = w46 at HO_7 qg qc qf HK HB hHeld ⊢
             refine zx (i := 0) (N := some 33) (v := ?_) (a' := ?_) #[true, false, false, false, false, false, false, false, false] rfl rfl (zt HT_.1 (by kernel_rfl)) (fun _ _ _ h => h) (Or.inl ⟨by rfl, ?_⟩) ?_ ?_
             rotate_left
             ·
              intro w'
              go_simp
              with_reducible rfl
             rotate_left
             ·
              simp only [Act.put, List.setIfInBounds_toArray, List.set_cons_zero, List.set_cons_succ, zu, zv]
              rfl
             refine qa (i := 1) (N := some 34) (v := ?_) (a' := ?_) #[true, true, false, false, false, false, false, false, false] rfl rfl (zL HT_.1 HW_.1 (by kernel_rfl)) (fun _ _ _ h => h) (Or.inl ⟨by rfl, ?_⟩) hHeld ?_ ?_
             rotate_left
             ·
              rintro w' ⟨s0, s1, s2, s3⟩
              go_simp
              with_reducible rfl
             rotate_left
             ·
              simp only [Act.put, List.setIfInBounds_toArray, List.set_cons_zero, List.set_cons_succ, zu, zv]
              rfl
             refine zx (i := 2) (N := some 35) (v := ?_) (a' := ?_) #[true, true, true, false, false, false, false, false, false] rfl rfl (zt HT_.1 (by kernel_rfl)) (fun _ _ _ h => h) (Or.inl ⟨by rfl, ?_⟩) ?_ ?_
             rotate_left
             ·
              intro w'
              go_simp
              with_reducible rfl
             rotate_left
             ·
              simp only [Act.put, List.setIfInBounds_toArray, List.set_cons_zero, List.set_cons_succ, zu, zv]
              rfl
             refine zx (i := 3) (N := some 36) (v := ?_) (a' := ?_) #[true, true, true, true, false, false, false, false, false] rfl rfl (zt HT_.1 (by kernel_rfl)) (fun _ _ _ h => h) (Or.inl ⟨by rfl, ?_⟩) ?_ ?_
             rotate_left
             ·
              intro w'
              go_simp
              with_reducible rfl
             rotate_left
             ·
              simp only [Act.put, List.setIfInBounds_toArray, List.set_cons_zero, List.set_cons_succ, zu, zv]
              rfl
             refine qa (i := 4) (N := some 37) (v := ?_) (a' := ?_) #[true, true, true, true, true, false, false, false, false] rfl rfl (zL HT_.1 HW_.1 (by kernel_rfl)) (fun _ _ _ h => h) (Or.inl ⟨by rfl, ?_⟩) hHeld ?_ ?_
             rotate_left
             ·
              rintro w' ⟨s0, s1, s2, s3⟩
              go_simp
              with_reducible rfl
             rotate_left
             ·
              simp only [Act.put, List.setIfInBounds_toArray, List.set_cons_zero, List.set_cons_succ, zu, zv]
              rfl
             refine qa (i := 5) (N := some 38) (v := ?_) (a' := ?_) #[true, true, true, true, true, true, false, false, false] rfl rfl (zL HT_.1 HW_.1 (by kernel_rfl)) (fun _ _ _ h => h) (Or.inl ⟨by rfl, ?_⟩) hHeld ?_ ?_
             rotate_left
             ·
              rintro w' ⟨s0, s1, s2, s3⟩
              go_simp
              with_reducible rfl
             rotate_left
             ·
              simp only [Act.put, List.setIfInBounds_toArray, List.set_cons_zero, List.set_cons_succ, zu, zv]
              rfl
             refine one_ (i := 6) (N := some 39) #[true, true, true, true, true, true, true, false, false] rfl rfl (one_of HT_.1 (by kernel_rfl)) (by decide) (fun K hK => ?_)
             refine goes_ Try.func46 (by kernel_rfl) rfl #[.agg #[.int .i64 a1_0, .int .i64 a1_1]] (by rfl) rfl rfl (by (try simp only [List.map_toArray, List.map_cons, List.map_nil]); first | done | rfl | (simp only [List.length_drop, List.length_take]; rfl)) ?_
             with_reducible refine (spec_l1Sibling.calls a1_0 a1_1 t161 t162 _ A31.1).mono ?_
             rintro e w47 ⟨rfl, hb⟩
             refine ⟨_, rfl, ?_⟩
             have n0_ := Aside0.mk (zr (by (with_reducible repeat (first | apply zc | apply zb | apply ze)); exact HO_7.1) hb)
             have n1_ := Aside0.mk (zr (by (with_reducible repeat (first | apply zc | apply zb | apply ze)); exact qg.1) hb)
             have n2_ := Aside0.mk (zw (g := gb154) (o := .cells #[.int .i64 a1_0, .int .i64 a1_1] 45 (0, 0)) (by (with_reducible repeat (first | refine zf ?_ _ | refine zh ?_ | refine zg ?_ _)); exact qc.1) hb)
             have n3_ := Aside0.mk (zw (g := gb159) (o := .cells #[.int .i64 ((rd_T45 l0 qd).f0), .int .i64 ((rd_T45 l0 qd).f1)] 45 (0, 0)) (by (with_reducible repeat (first | refine zf ?_ _ | refine zh ?_ | refine zg ?_ _)); exact qf.1) hb)
             have n4_ := Aside0.mk (zz (S := (fun k_ => P0_ k_)) (by repeat (first | (with_reducible first | exact HK.1 | apply zm | apply zl | apply zn | refine za ?_ (.inr qh.1) _ | refine za ?_ (.inr qp.1) _) | exact HK.1)) hb)
             have n5_ := Aside0.mk (zy (by repeat (first | (with_reducible first | exact HB.1 | apply zk | apply zd | apply zi | refine zj ?_ qi.1 | refine zj ?_ qq.1) | exact HB.1)) hb)
             clear HO_7
             clear qg
             clear qc
             clear qf
             clear HK
             clear HB
             have HO_7 := n0_
             have qg := n1_
             have qc := n2_
             have qf := n3_
             have HK := n4_
             have HB := n5_
             clear n0_ n1_ n2_ n3_ n4_ n5_
             (try clear hb)
             (try clear hb2)
             (try clear hk)
             (try clear hi)
             refine hK.out _ _ ⟨(zo qc.1 0).trans rfl, (zo qc.1 1).trans rfl, (zo qf.1 0).trans rfl, (zo qf.1 1).trans rfl⟩ (fun hHeld => ?_)
             clear hK K
             refine norm_ (a' := ?_) ?_ ?_
             rotate_left
             ·
              show Act.put _ (some 39) _ = _
              simp only [Act.put, List.setIfInBounds_toArray, List.set_cons_zero, List.set_cons_succ, zu, zv]
              rfl
             refine zx (i := 7) (N := some 40) (v := ?_) (a' := ?_) #[true, true, true, true, true, true, true, true, false] rfl rfl (zt HT_.1 (by kernel_rfl)) (fun _ _ _ h => h) (Or.inl ⟨by rfl, ?_⟩) ?_ ?_
             rotate_left
             ·
              intro w'
              go_simp
              with_reducible rfl
             rotate_left
             ·
              simp only [Act.put, List.setIfInBounds_toArray, List.set_cons_zero, List.set_cons_succ, zu, zv]
              rfl
             refine zx (i := 8) (N := some 41) (v := ?_) (a' := ?_) #[true, true, true, true, true, true, true, true, true] rfl rfl (zt HT_.1 (by kernel_rfl)) (fun _ _ _ h => h) (Or.inl ⟨by rfl, ?_⟩) ?_ ?_
             rotate_left
             ·
              intro w'
              go_simp
              with_reducible rfl
             rotate_left
             ·
              simp only [Act.put, List.setIfInBounds_toArray, List.set_cons_zero, List.set_cons_succ, zu, zv]
              rfl
             refine done_ (done_of HT_.1 (by kernel_rfl)) ?_
             have hcz48_0 : w47.cell? ⟨gb159, 0, none⟩ = some (.int .i64 ((rd_T45 l0 qd).f0)) := (zo qf.1 0).trans rfl
             have hcz48_1 : w47.cell? ⟨gb159, 1, none⟩ = some (.int .i64 ((rd_T45 l0 qd).f1)) := (zo qf.1 1).trans rfl
             have hfz48_0 := zq qf.1 0
             have hfz48_1 := zq qf.1 1
             try go_wp2_with (first | ((with_reducible refine zF (b := .append) (xs := #[.tmp 42, .tmp 44]) rfl ?_); at_builtin; refine Kd.R_append k45 (w0 := w0) w0.heap.size rfl (.tmp 42) (.tmp 44) 25 45 (.agg #[(.int .i64 0), (.int .i64 0)]) 16 rfl Try.underlying25 info45 rfl (by decide) (by omega) u7 x7_2 (⟨(rd_T45 l0 qd).f0, (rd_T45 l0 qd).f1⟩ : S45) [.int .i64 ((rd_T45 l0 qd).f0), .int .i64 ((rd_T45 l0 qd).f1)] (fun k_ => (P0_ k_ ∨ w.heap.size ≤ k_) ∧ some k_ ≠ (.slice (some ad158) l0.length co4 : Value).ownBlock ∧ k_ ≠ gb154 ∧ k_ ≠ gb159) (fun _ => False) rfl rfl ?aP (fun _ hk => hk.elim) ?aF ?aO ?aB ?aS ?aL ?_; (case aP => exact k45_mkM _ _ _ (⟨(rd_T45 l0 qd).f0, (rd_T45 l0 qd).f1⟩ : S45)); (case aB => exact (by repeat (first | (with_reducible first | exact HB.1 | apply zk | apply zd | apply zi | refine zj ?_ qi.1 | refine zj ?_ qq.1) | exact HB.1))); (case aF => exact (fun k_ hk => ⟨(.inr (Nat.le_trans (by first | exact HK.1.1 | exact (show Kept w _ (fun k_ => P0_ k_) from by repeat (first | (with_reducible first | exact HK.1 | apply zm | apply zl | apply zn | refine za ?_ (.inr qh.1) _ | refine za ?_ (.inr qp.1) _) | exact HK.1)).1) hk)), zO (zX (by (with_reducible repeat (first | apply zc | apply zb | apply ze)); exact qg.1)) k_ hk, zH (g := gb154) (o := .cells #[.int .i64 a1_0, .int .i64 a1_1] 45 (0, 0)) (by (with_reducible repeat (first | refine zf ?_ _ | refine zh ?_ | refine zg ?_ _)); exact qc.1) k_ hk, zH (g := gb159) (o := .cells #[.int .i64 ((rd_T45 l0 qd).f0), .int .i64 ((rd_T45 l0 qd).f1)] 45 (0, 0)) (by (with_reducible repeat (first | refine zf ?_ _ | refine zh ?_ | refine zg ?_ _)); exact qf.1) k_ hk⟩)); (case aO => exact (by (with_reducible repeat (first | apply zc | apply zb | apply ze)); exact zp HO_7.1 (fun _ hk => ⟨hk.1.1, ⟨hk.1.2.1, ⟨hk.1.2.2, hk.2⟩⟩⟩))); (case aS => exact (zC (by repeat (first | (with_reducible first | exact HB.1 | apply zk | apply zd | apply zi | refine zj ?_ qi.1 | refine zj ?_ qq.1) | exact HB.1)))); (case aL => have := LMc40.1; omega); intro v164 w49 ho hb hg hat; rw [← Ny163.1] at ho; have n0_ := Aside0.mk (zB (ok := (fun k_ => (P0_ k_ ∨ w.heap.size ≤ k_) ∧ k_ ≠ gb154 ∧ k_ ≠ gb159)) (by (with_reducible repeat (first | apply zc | apply zb | apply ze)); exact zp qg.1 (fun _ hk => ⟨⟨hk.1.1, ⟨hk.1.2.2, hk.2⟩⟩, hk.1.2.1⟩)) hg hat); have n1_ := Aside0.mk (zJ (g := gb154) (o := .cells #[.int .i64 a1_0, .int .i64 a1_1] 45 (0, 0)) (by (with_reducible repeat (first | refine zf ?_ _ | refine zh ?_ | refine zg ?_ _)); exact qc.1) hg (zK HO_7.1 (fun _ hk => hk.1.2.2))); have n2_ := Aside0.mk (zJ (g := gb159) (o := .cells #[.int .i64 ((rd_T45 l0 qd).f0), .int .i64 ((rd_T45 l0 qd).f1)] 45 (0, 0)) (by (with_reducible repeat (first | refine zf ?_ _ | refine zh ?_ | refine zg ?_ _)); exact qf.1) hg (zK HO_7.1 (fun _ hk => hk.2))); have n3_ := Aside0.mk (hb); have n4_ := Aside0.mk (zE (S := (fun k_ => P0_ k_)) hg (by repeat (first | (with_reducible first | exact HK.1 | apply zm | apply zl | apply zn | refine za ?_ (.inr qh.1) _ | refine za ?_ (.inr qp.1) _) | exact HK.1)) (fun k_ e_ => (HO_7.1.1 k_ e_).1.1)); have n5_ := Aside0.mk (ho); clear qg; clear qc; clear qf; clear HB; clear HK; clear HO_7; have qg := n0_; have qc := n1_; have qf := n2_; have HB := n3_; have HK := n4_; have HO165 := n5_; clear n0_ n1_ n2_ n3_ n4_ n5_; clear ho hb hg hat))
             go_roundg k2
             case measure => have := HK1.1; have := HK2.1; omega
             case rel => exact ⟨(y163), (x8_2), (wrap64 (qd + 1)), (by first | rfl | (simp; done) | (simp [*]; done)), (by first | rfl | (simp; done) | (simp [*]; done)), H', ⟨by have := HK1.1; have := HK2.1; omega⟩, ⟨by (with_reducible repeat (first | apply zc | apply zb | apply ze)); exact zp HO165.1 (fun _ hk => ⟨hk.1, ⟨hk.2.1, hk.2.2.1⟩⟩)⟩, ⟨by (with_reducible repeat (first | apply zc | apply zb | apply ze)); exact zp qg.1 (fun _ hk => ⟨hk.1.1, ⟨hk.2, hk.1.2.1⟩⟩)⟩, ⟨by (with_reducible repeat (first | refine zf ?_ _ | refine zh ?_ | refine zg ?_ _)); exact qc.1⟩, ⟨by repeat (first | (with_reducible first | exact HK.1 | apply zm | apply zl | apply zn | refine za ?_ (.inr qh.1) _ | refine za ?_ (.inr qp.1) _) | exact HK.1)⟩, ⟨by repeat (first | (with_reducible first | exact HB.1 | apply zk | apply zd | apply zi | refine zj ?_ qi.1 | refine zj ?_ qq.1) | exact HB.1)⟩⟩
            ·
             rw [if_neg c40] at H
             exact absurd H (by simp)
          ·
           rw [if_neg c30] at H
           have c30b0 : decide (0 < a1_1) = false := decide_eq_false c30
           clear c30
           by_cases c50 : x7_2.length < 8796093022208
           ·
            rw [if_pos c50] at H
            have LMc50 := Aside0.mk c50
            clear c50
            obtain ⟨y166, hy166⟩ : ∃ y_ : List (S45), y_ = (x7_2 ++ [(⟨(rd_T45 l0 qd).f0, (rd_T45 l0 qd).f1⟩ : S45)]) := ⟨_, rfl⟩
            replace H : (spec_l3Put.l1 k2 y166 x8_2 l0 (l0.length : Int) (wrap64 (qd + 1)) a1_0 a1_1) = some r := by first | (rw [hy166]; with_reducible exact H) | (have H2_ := (Option.bind_some _ _).symm.trans H; rw [hy166]; with_reducible exact H2_) | (have H2_ := (Option.bind_some _ _).symm.trans H; with_reducible exact H2_) | with_reducible exact H | (rw [hy166]; exact H) | exact H
            have Ny166 := Aside0.mk hy166
            clear hy166
            have H' := Aside0.mk H
            clear H
            have p158 : 0 ≤ (qd : Int) := of_decide_eq_true (by first | (with_reducible assumption) | assumption)
            have q158 : qd < (l0.length : Int) := of_decide_eq_true (by first | (with_reducible assumption) | assumption)
            obtain ⟨ad158, e158, hx158_0, hx158_1⟩ := at_T45 (zs qg.1).2.2 qd p158 q158
            cases e158
            replace p158 := eq_true p158
            replace q158 := eq_true q158
            try go_wp2_with (first | ((with_reducible refine zY (N := 10) rfl ?_); refine zT ?hg (N := 10) ?hd (cs := #[.int .i64 0, .int .i64 0]) (t := 45) ?hr ?_; (case hd => rfl); (case hg => rfl); (case hr => first | (go_simp; done) | (go_simp; rfl)); intro gb159 hg w51 hbox hb; have n0_ := Aside0.mk (zr (zD (by (with_reducible repeat (first | apply zc | apply zb | apply ze)); exact HO_7.1) gb159 (Nat.le_of_eq hg.symm)) hb); have n1_ := Aside0.mk (zr (zD (by (with_reducible repeat (first | apply zc | apply zb | apply ze)); exact qg.1) gb159 (Nat.le_of_eq hg.symm)) hb); have n2_ := Aside0.mk (zw (g := gb154) (o := .cells #[.int .i64 a1_0, .int .i64 a1_1] 45 (0, 0)) (by (with_reducible repeat (first | refine zf ?_ _ | refine zh ?_ | refine zg ?_ _)); exact qc.1) hb); have n3_ := Aside0.mk (zz (S := (fun k_ => P0_ k_)) (by repeat (first | (with_reducible first | exact HK.1 | apply zm | apply zl | apply zn | refine za ?_ (.inr qh.1) _) | exact HK.1)) hb); have n4_ := Aside0.mk (zy (by repeat (first | (with_reducible first | exact HB.1 | apply zk | apply zd | apply zi | refine zj ?_ qi.1) | exact HB.1)) hb); have n5_ := Aside0.mk (hbox); have n6_ := Aside0.mk ((by rw [hg]; exact (by first | exact HK.1.1 | exact (show Kept w _ (fun k_ => P0_ k_) from by repeat (first | (with_reducible first | exact HK.1 | apply zm | apply zl | apply zn | refine za ?_ (.inr qh.1) _) | exact HK.1)).1) : w.heap.size ≤ gb159)); have n7_ := Aside0.mk ((by rw [hg]; exact (zC (by repeat (first | (with_reducible first | exact HB.1 | apply zk | apply zd | apply zi | refine zj ?_ qi.1) | exact HB.1))) : w0.heap.size ≤ gb159)); have n8_ := Aside0.mk ((by rw [hg]; exact Nat.ne_of_lt (zU (g := gb154) (o := .cells #[.int .i64 a1_0, .int .i64 a1_1] 45 (0, 0)) (by (with_reducible repeat (first | refine zf ?_ _ | refine zh ?_ | refine zg ?_ _)); exact qc.1)) : gb154 ≠ gb159)); have n9_ := Aside0.mk ((by rw [hg]; exact Nat.ne_of_gt (zU (g := gb154) (o := .cells #[.int .i64 a1_0, .int .i64 a1_1] 45 (0, 0)) (by (with_reducible repeat (first | refine zf ?_ _ | refine zh ?_ | refine zg ?_ _)); exact qc.1)) : gb159 ≠ gb154)); clear HO_7; clear qg; clear qc; clear HK; clear HB; have HO_7 := n0_; have qg := n1_; have qc := n2_; have HK := n3_; have HB := n4_; have qf := n5_; have qp := n6_; have qq := n7_; have qk := n8_; have qo := n9_; clear n0_ n1_ n2_ n3_ n4_ n5_ n6_ n7_ n8_ n9_; clear hb hbox hg; have hnb52 := qo.1; have hnc52 := qk.1; have hcz53_0 : w51.cell? ⟨gb159, 0, none⟩ = some (.int .i64 0) := (zo qf.1 0).trans rfl; have hcz53_1 : w51.cell? ⟨gb159, 1, none⟩ = some (.int .i64 0) := (zo qf.1 1).trans rfl; have hfz53_0 := zq qf.1 0; have hfz53_1 := zq qf.1 1; have hcz54_0 : w51.cell? ⟨gb154, 0, none⟩ = some (.int .i64 a1_0) := (zo qc.1 0).trans rfl; have hcz54_1 : w51.cell? ⟨gb154, 1, none⟩ = some (.int .i64 a1_1) := (zo qc.1 1).trans rfl; have hfz54_0 := zq qc.1 0; have hfz54_1 := zq qc.1 1) | ((with_reducible refine zI (f := 45) rfl ?_); refine qb (some 32) rfl rfl Try.func45 (by kernel_rfl) rfl #[.agg #[.int .i64 a1_0, .int .i64 a1_1], .agg #[.int .i64 ((rd_T45 l0 qd).f0), .int .i64 ((rd_T45 l0 qd).f1)]] rfl (by (try simp only [List.map_toArray, List.map_cons, List.map_nil]); first | done | rfl | (simp only [List.length_drop, List.length_take]; rfl)) ?_; (with_reducible refine (spec_l1Covers.calls a1_0 a1_1 ((rd_T45 l0 qd).f0) ((rd_T45 l0 qd).f1) false _ A23.1).mono ?_); rintro e w55 ⟨rfl, hb⟩; refine ⟨_, rfl, ?_⟩; have n0_ := Aside0.mk (zr (by (with_reducible repeat (first | apply zc | apply zb | apply ze)); exact (zp (zA (p := ⟨gb159, 1, none⟩) (zA (p := ⟨gb159, 0, none⟩) (zp HO_7.1 (fun k_ hk => (⟨hk, hk.2⟩ : _ ∧ k_ ≠ gb159))) (fun _ hk => hk.2) (.int .i64 ((rd_T45 l0 qd).f0))) (fun _ hk => hk.2) (.int .i64 ((rd_T45 l0 qd).f1))) (fun _ h_ => h_.1))) hb); have n1_ := Aside0.mk (zr (by (with_reducible repeat (first | apply zc | apply zb | apply ze)); exact (zp (zA (p := ⟨gb159, 1, none⟩) (zA (p := ⟨gb159, 0, none⟩) (zp qg.1 (fun k_ hk => (⟨hk, hk.2⟩ : _ ∧ k_ ≠ gb159))) (fun _ hk => hk.2) (.int .i64 ((rd_T45 l0 qd).f0))) (fun _ hk => hk.2) (.int .i64 ((rd_T45 l0 qd).f1))) (fun _ h_ => h_.1))) hb); have n2_ := Aside0.mk (zw (g := gb154) (o := .cells #[.int .i64 a1_0, .int .i64 a1_1] 45 (0, 0)) (by (with_reducible repeat (first | refine zf ?_ _ | refine zh ?_ | refine zg ?_ _)); refine zQ ?_ qk.1 _; (with_reducible repeat (first | refine zf ?_ _ | refine zh ?_ | refine zg ?_ _)); refine zQ ?_ qk.1 _; (with_reducible repeat (first | refine zf ?_ _ | refine zh ?_ | refine zg ?_ _)); exact qc.1) hb); have n3_ := Aside0.mk (zw (g := gb159) (o := .cells #[.int .i64 ((rd_T45 l0 qd).f0), .int .i64 ((rd_T45 l0 qd).f1)] 45 (0, 0)) (by (with_reducible repeat (first | refine zf ?_ _ | refine zh ?_ | refine zg ?_ _)); refine zP (cs := #[.int .i64 ((rd_T45 l0 qd).f0), .int .i64 0]) ?_ 1 _ rfl; (with_reducible repeat (first | refine zf ?_ _ | refine zh ?_ | refine zg ?_ _)); refine zP (cs := #[.int .i64 0, .int .i64 0]) ?_ 0 _ rfl; (with_reducible repeat (first | refine zf ?_ _ | refine zh ?_ | refine zg ?_ _)); exact qf.1) hb); have n4_ := Aside0.mk (zz (S := (fun k_ => P0_ k_)) (by repeat (first | (with_reducible first | exact HK.1 | apply zm | apply zl | apply zn | refine za ?_ (.inr qh.1) _ | refine za ?_ (.inr qp.1) _) | exact HK.1)) hb); have n5_ := Aside0.mk (zy (by repeat (first | (with_reducible first | exact HB.1 | apply zk | apply zd | apply zi | refine zj ?_ qi.1 | refine zj ?_ qq.1) | exact HB.1)) hb); clear HO_7; clear qg; clear qc; clear qf; clear HK; clear HB; have HO_7 := n0_; have qg := n1_; have qc := n2_; have qf := n3_; have HK := n4_; have HB := n5_; clear n0_ n1_ n2_ n3_ n4_ n5_; (try clear hb); (try clear hb2); (try clear hk); (try clear hi)))
            have n0_ := Aside0.mk (ze HO_7.1)
            have n1_ := Aside0.mk (ze qg.1)
            have n2_ := Aside0.mk (zh qc.1)
            have n3_ := Aside0.mk (zh qf.1)
            have n4_ := Aside0.mk (zn HK.1)
            have n5_ := Aside0.mk (zi HB.1)
            clear HO_7
            clear qg
            clear qc
            clear qf
            clear HK
            clear HB
            have HO_7 := n0_
            have qg := n1_
            have qc := n2_
            have qf := n3_
            have HK := n4_
            have HB := n5_
            clear n0_ n1_ n2_ n3_ n4_ n5_
            refine start_ (n := 9) (S := fun w' => w'.cell? ⟨gb154, 0, none⟩ = some (.int .i64 a1_0) ∧ w'.cell? ⟨gb154, 1, none⟩ = some (.int .i64 a1_1)) (ds := []) #[false, false, false, false, false, false, false, false, false] (by kernel_rfl) rfl rfl ⟨(zo qc.1 0).trans rfl, (zo qc.1 1).trans rfl⟩ (fun hHeld => ?_); refine with_tabW spec_l3Put.tab13 spec_l3Put.bits13 (fun HT_ HW_ => ?_)
            generalize w55.drew = w56 at HO_7 qg qc qf HK HB hHeld ⊢
            refine zx (i := 0) (N := some 33) (v := ?_) (a' := ?_) #[true, false, false, false, false, false, false, false, false] rfl rfl (zt HT_.1 (by kernel_rfl)) (fun _ _ _ h => h) (Or.inl ⟨by rfl, ?_⟩) ?_ ?_
            rotate_left
            ·
             intro w'
             go_simp
             with_reducible rfl
            rotate_left
            ·
             simp only [Act.put, List.setIfInBounds_toArray, List.set_cons_zero, List.set_cons_succ, zu, zv]
             rfl
            refine qa (i := 1) (N := some 34) (v := ?_) (a' := ?_) #[true, true, false, false, false, false, false, false, false] rfl rfl (zL HT_.1 HW_.1 (by kernel_rfl)) (fun _ _ _ h => h) (Or.inl ⟨by rfl, ?_⟩) hHeld ?_ ?_
            rotate_left
            ·
             rintro w' ⟨s0, s1⟩
             go_simp
             with_reducible rfl
            rotate_left
            ·
             simp only [Act.put, List.setIfInBounds_toArray, List.set_cons_zero, List.set_cons_succ, zu, zv]
             rfl
            refine zx (i := 2) (N := some 35) (v := ?_) (a' := ?_) #[true, true, true, false, false, false, false, false, false] rfl rfl (zt HT_.1 (by kernel_rfl)) (fun _ _ _ h => h) (Or.inl ⟨by rfl, ?_⟩) ?_ ?_
            rotate_left
            ·
             intro w'
             go_simp
             with_reducible rfl
            rotate_left
            ·
             simp only [Act.put, List.setIfInBounds_toArray, List.set_cons_zero, List.set_cons_succ, zu, zv]
             rfl
            refine zx (i := 3) (N := some 36) (v := ?_) (a' := ?_) #[true, true, true, true, false, false, false, false, false] rfl rfl (zt HT_.1 (by kernel_rfl)) (fun _ _ _ h => h) (Or.inl ⟨by rfl, ?_⟩) ?_ ?_
            rotate_left
            ·
             intro w'
             go_simp
             with_reducible rfl
            rotate_left
            ·
             simp only [Act.put, List.setIfInBounds_toArray, List.set_cons_zero, List.set_cons_succ, zu, zv]
             rfl
            refine zx (i := 4) (N := some 37) (v := undef) (a' := ?_) #[true, true, true, true, true, false, false, false, false] rfl rfl (zt HT_.1 (by kernel_rfl)) (fun _ _ _ h => h) (Or.inr ⟨by rfl, rfl⟩) ?_ ?_
            rotate_left
            ·
             simp only [Act.put, List.setIfInBounds_toArray, List.set_cons_zero, List.set_cons_succ, zu, zv]
             rfl
            refine zx (i := 5) (N := some 38) (v := undef) (a' := ?_) #[true, true, true, true, true, true, false, false, false] rfl rfl (zt HT_.1 (by kernel_rfl)) (fun _ _ _ h => h) (Or.inr ⟨by rfl, rfl⟩) ?_ ?_
            rotate_left
            ·
             simp only [Act.put, List.setIfInBounds_toArray, List.set_cons_zero, List.set_cons_succ, zu, zv]
             rfl
            refine zx (i := 6) (N := some 39) (v := undef) (a' := ?_) #[true, true, true, true, true, true, true, false, false] rfl rfl (zt HT_.1 (by kernel_rfl)) (fun _ _ _ h => h) (Or.inr ⟨by rfl, rfl⟩) ?_ ?_
            rotate_left
            ·
             simp only [Act.put, List.setIfInBounds_toArray, List.set_cons_zero, List.set_cons_succ, zu, zv]
             rfl
            refine zx (i := 7) (N := some 40) (v := undef) (a' := ?_) #[true, true, true, true, true, true, true, true, false] rfl rfl (zt HT_.1 (by kernel_rfl)) (fun _ _ _ h => h) (Or.inr ⟨by rfl, rfl⟩) ?_ ?_
            rotate_left
            ·
             simp only [Act.put, List.setIfInBounds_toArray, List.set_cons_zero, List.set_cons_succ, zu, zv]
             rfl
            refine zx (i := 8) (N := some 41) (v := ?_) (a' := ?_) #[true, true, true, true, true, true, true, true, true] rfl rfl (zt HT_.1 (by kernel_rfl)) (fun _ _ _ h => h) (Or.inl ⟨by rfl, ?_⟩) ?_ ?_
            rotate_left
            ·
             intro w'
             go_simp
             with_reducible rfl
            rotate_left
            ·
             simp only [Act.put, List.setIfInBounds_toArray, List.set_cons_zero, List.set_cons_succ, zu, zv]
             rfl
            refine done_ (done_of HT_.1 (by kernel_rfl)) ?_
            have hcz57_0 : w56.cell? ⟨gb159, 0, none⟩ = some (.int .i64 ((rd_T45 l0 qd).f0)) := (zo qf.1 0).trans rfl
            have hcz57_1 : w56.cell? ⟨gb159, 1, none⟩ = some (.int .i64 ((rd_T45 l0 qd).f1)) := (zo qf.1 1).trans rfl
            have hfz57_0 := zq qf.1 0
            have hfz57_1 := zq qf.1 1
            try go_wp2_with (first | ((with_reducible refine zF (b := .append) (xs := #[.tmp 42, .tmp 44]) rfl ?_); at_builtin; refine Kd.R_append k45 (w0 := w0) w0.heap.size rfl (.tmp 42) (.tmp 44) 25 45 (.agg #[(.int .i64 0), (.int .i64 0)]) 16 rfl Try.underlying25 info45 rfl (by decide) (by omega) u7 x7_2 (⟨(rd_T45 l0 qd).f0, (rd_T45 l0 qd).f1⟩ : S45) [.int .i64 ((rd_T45 l0 qd).f0), .int .i64 ((rd_T45 l0 qd).f1)] (fun k_ => (P0_ k_ ∨ w.heap.size ≤ k_) ∧ some k_ ≠ (.slice (some ad158) l0.length co4 : Value).ownBlock ∧ k_ ≠ gb154 ∧ k_ ≠ gb159) (fun _ => False) rfl rfl ?aP (fun _ hk => hk.elim) ?aF ?aO ?aB ?aS ?aL ?_; (case aP => exact k45_mkM _ _ _ (⟨(rd_T45 l0 qd).f0, (rd_T45 l0 qd).f1⟩ : S45)); (case aB => exact (by repeat (first | (with_reducible first | exact HB.1 | apply zk | apply zd | apply zi | refine zj ?_ qi.1 | refine zj ?_ qq.1) | exact HB.1))); (case aF => exact (fun k_ hk => ⟨(.inr (Nat.le_trans (by first | exact HK.1.1 | exact (show Kept w _ (fun k_ => P0_ k_) from by repeat (first | (with_reducible first | exact HK.1 | apply zm | apply zl | apply zn | refine za ?_ (.inr qh.1) _ | refine za ?_ (.inr qp.1) _) | exact HK.1)).1) hk)), zO (zX (by (with_reducible repeat (first | apply zc | apply zb | apply ze)); exact qg.1)) k_ hk, zH (g := gb154) (o := .cells #[.int .i64 a1_0, .int .i64 a1_1] 45 (0, 0)) (by (with_reducible repeat (first | refine zf ?_ _ | refine zh ?_ | refine zg ?_ _)); exact qc.1) k_ hk, zH (g := gb159) (o := .cells #[.int .i64 ((rd_T45 l0 qd).f0), .int .i64 ((rd_T45 l0 qd).f1)] 45 (0, 0)) (by (with_reducible repeat (first | refine zf ?_ _ | refine zh ?_ | refine zg ?_ _)); exact qf.1) k_ hk⟩)); (case aO => exact (by (with_reducible repeat (first | apply zc | apply zb | apply ze)); exact zp HO_7.1 (fun _ hk => ⟨hk.1.1, ⟨hk.1.2.1, ⟨hk.1.2.2, hk.2⟩⟩⟩))); (case aS => exact (zC (by repeat (first | (with_reducible first | exact HB.1 | apply zk | apply zd | apply zi | refine zj ?_ qi.1 | refine zj ?_ qq.1) | exact HB.1)))); (case aL => have := LMc50.1; omega); intro v167 w58 ho hb hg hat; rw [← Ny166.1] at ho; have n0_ := Aside0.mk (zB (ok := (fun k_ => (P0_ k_ ∨ w.heap.size ≤ k_) ∧ k_ ≠ gb154 ∧ k_ ≠ gb159)) (by (with_reducible repeat (first | apply zc | apply zb | apply ze)); exact zp qg.1 (fun _ hk => ⟨⟨hk.1.1, ⟨hk.1.2.2, hk.2⟩⟩, hk.1.2.1⟩)) hg hat); have n1_ := Aside0.mk (zJ (g := gb154) (o := .cells #[.int .i64 a1_0, .int .i64 a1_1] 45 (0, 0)) (by (with_reducible repeat (first | refine zf ?_ _ | refine zh ?_ | refine zg ?_ _)); exact qc.1) hg (zK HO_7.1 (fun _ hk => hk.1.2.2))); have n2_ := Aside0.mk (zJ (g := gb159) (o := .cells #[.int .i64 ((rd_T45 l0 qd).f0), .int .i64 ((rd_T45 l0 qd).f1)] 45 (0, 0)) (by (with_reducible repeat (first | refine zf ?_ _ | refine zh ?_ | refine zg ?_ _)); exact qf.1) hg (zK HO_7.1 (fun _ hk => hk.2))); have n3_ := Aside0.mk (hb); have n4_ := Aside0.mk (zE (S := (fun k_ => P0_ k_)) hg (by repeat (first | (with_reducible first | exact HK.1 | apply zm | apply zl | apply zn | refine za ?_ (.inr qh.1) _ | refine za ?_ (.inr qp.1) _) | exact HK.1)) (fun k_ e_ => (HO_7.1.1 k_ e_).1.1)); have n5_ := Aside0.mk (ho); clear qg; clear qc; clear qf; clear HB; clear HK; clear HO_7; have qg := n0_; have qc := n1_; have qf := n2_; have HB := n3_; have HK := n4_; have HO168 := n5_; clear n0_ n1_ n2_ n3_ n4_ n5_; clear ho hb hg hat))
            go_roundg k2
            case measure => have := HK1.1; have := HK2.1; omega
            case rel => exact ⟨(y166), (x8_2), (wrap64 (qd + 1)), (by first | rfl | (simp; done) | (simp [*]; done)), (by first | rfl | (simp; done) | (simp [*]; done)), H', ⟨by have := HK1.1; have := HK2.1; omega⟩, ⟨by (with_reducible repeat (first | apply zc | apply zb | apply ze)); exact zp HO168.1 (fun _ hk => ⟨hk.1, ⟨hk.2.1, hk.2.2.1⟩⟩)⟩, ⟨by (with_reducible repeat (first | apply zc | apply zb | apply ze)); exact zp qg.1 (fun _ hk => ⟨hk.1.1, ⟨hk.2, hk.1.2.1⟩⟩)⟩, ⟨by (with_reducible repeat (first | refine zf ?_ _ | refine zh ?_ | refine zg ?_ _)); exact qc.1⟩, ⟨by repeat (first | (with_reducible first | exact HK.1 | apply zm | apply zl | apply zn | refine za ?_ (.inr qh.1) _ | refine za ?_ (.inr qp.1) _) | exact HK.1)⟩, ⟨by repeat (first | (with_reducible first | exact HB.1 | apply zk | apply zd | apply zi | refine zj ?_ qi.1 | refine zj ?_ qq.1) | exact HB.1)⟩⟩
           ·
            rw [if_neg c50] at H
            exact absurd H (by simp)
        ·
         rw [if_neg c22] at H
         exact absurd H (by simp)
       ·
        rw [if_neg c21] at H
        exact absurd H (by simp)
      ·
       rw [if_neg c20] at H
       have c20b0 : decide (qd < (l0.length : Int)) = false := decide_eq_false c20
       clear c20
       by_cases c59 : x8_2 = true
       ·
        subst c59
        have H1 : ((spec_l1Parent.f a1_0 a1_1).bind fun bt169 => ((spec_l3Put.f k2 x7_2 bt169.1 bt169.2).bind fun t171 => (some t171))) = some r := by rw [if_pos rfl] at H; exact H
        clear H
        have H := H1
        clear H1
        replace H := Option.bind_eq_some_iff.mp H
        obtain ⟨⟨t169, t170⟩, A600, H⟩ := H
        replace H : ((spec_l3Put.f k2 x7_2 t169 t170).bind fun t171 => (some t171)) = some r := H
        have A60 := Aside0.mk A600
        clear A600
        replace H := Option.bind_eq_some_iff.mp H
        obtain ⟨t171, A610, H⟩ := H
        replace H : (some t171) = some r := H
        have A61 := Aside0.mk A610
        clear A610
        obtain rfl := Option.some.inj H
        have hcz62_0 : wr.cell? ⟨gb154, 0, none⟩ = some (.int .i64 a1_0) := (zo qc.1 0).trans rfl
        have hcz62_1 : wr.cell? ⟨gb154, 1, none⟩ = some (.int .i64 a1_1) := (zo qc.1 1).trans rfl
        have hfz62_0 := zq qc.1 0
        have hfz62_1 := zq qc.1 1
        go_wp2_with (first | ((with_reducible refine zI (f := 79) rfl ?_); refine qb (some 50) rfl rfl Try.func79 (by kernel_rfl) rfl #[.agg #[.int .i64 a1_0, .int .i64 a1_1]] rfl (by (try simp only [List.map_toArray, List.map_cons, List.map_nil]); first | done | rfl | (simp only [List.length_drop, List.length_take]; rfl)) ?_; (with_reducible refine (spec_l1Parent.calls a1_0 a1_1 t169 t170 _ A60.1).mono ?_); rintro e w63 ⟨rfl, hb⟩; refine ⟨_, rfl, ?_⟩; have n0_ := Aside0.mk (zr (by (with_reducible repeat (first | apply zc | apply zb | apply ze)); exact HO_7.1) hb); have n1_ := Aside0.mk (zr (by (with_reducible repeat (first | apply zc | apply zb | apply ze)); exact qg.1) hb); have n2_ := Aside0.mk (zw (g := gb154) (o := .cells #[.int .i64 a1_0, .int .i64 a1_1] 45 (0, 0)) (by (with_reducible repeat (first | refine zf ?_ _ | refine zh ?_ | refine zg ?_ _)); exact qc.1) hb); have n3_ := Aside0.mk (zz (S := (fun k_ => P0_ k_)) (by repeat (first | (with_reducible first | exact HK.1 | apply zm | apply zl | apply zn | refine za ?_ (.inr qh.1) _) | exact HK.1)) hb); have n4_ := Aside0.mk (zy (by repeat (first | (with_reducible first | exact HB.1 | apply zk | apply zd | apply zi | refine zj ?_ qi.1) | exact HB.1)) hb); clear HO_7; clear qg; clear qc; clear HK; clear HB; have HO_7 := n0_; have qg := n1_; have qc := n2_; have HK := n3_; have HB := n4_; clear n0_ n1_ n2_ n3_ n4_; (try clear hb); (try clear hb2); (try clear hk); (try clear hi); obtain ⟨Ao64, co64, eo64⟩ := Kd.R_slice HO_7.1; subst eo64) | ((with_reducible refine zI (f := 66) rfl ?_); refine qb (some 51) rfl rfl Try.func66 (by kernel_rfl) rfl #[.slice Ao64 x7_2.length co64, .agg #[.int .i64 t169, .int .i64 t170]] rfl (by (try simp only [List.map_toArray, List.map_cons, List.map_nil]); first | done | rfl | (simp only [List.length_drop, List.length_take]; rfl)) ?_; (with_reducible refine (ih k2 (by have := HK1.1; have := HK2.1; omega) (fun k_ => some k_ = (.slice Ao64 x7_2.length co64 : Value).ownBlock) (.slice Ao64 x7_2.length co64) x7_2 t169 t170 t171 w0 _ ?side1 ?side2 A61.1).mono ?_); (case side1 => repeat (first | (with_reducible first | exact HB.1 | apply zk | apply zd | apply zi | refine zj ?_ qi.1) | exact HB.1)); (case side2 => exact Kd.R_tight rfl HO_7.1); rintro e w65 ⟨v172, rfl, ho0, hb, hkp⟩; refine ⟨_, rfl, ?_⟩; have n0_ := Aside0.mk (zp (ok' := fun k_ => (P0_ k_ ∨ w.heap.size ≤ k_) ∧ k_ ≠ gb154 ∧ some k_ ≠ (v172 : Value).ownBlock) (Kd.R_keptB (qg.1) hkp (fun k_ hk_ hs_ => (hk_.2.1) hs_)) (fun k_ hk_ => ⟨hk_.1.1, hk_.1.2.2, fun e_ => Or.elim (ho0.1 k_ e_.symm) (fun hs_ => hk_.2.1 hs_) (fun hn_ => Nat.not_le.2 hk_.2.2 hn_)⟩)); have n1_ := Aside0.mk (blk_kept (by (with_reducible repeat (first | refine zf ?_ _ | refine zh ?_ | refine zg ?_ _)); exact qc.1) hkp (fun hs_ => (fun e_ => (zK HO_7.1 (fun _ hk => hk.2.2)) e_) hs_)); have n2_ := Aside0.mk (zp (ok' := fun k_ => (P0_ k_ ∨ w.heap.size ≤ k_) ∧ some k_ ≠ (.slice Ao4 l0.length co4 : Value).ownBlock ∧ k_ ≠ gb154) ho0 (fun k_ hk_ => ⟨Or.elim hk_ (fun hs_ => (HO_7.1.1 k_ (hs_).symm).1) (fun hn_ => (.inr (Nat.le_trans (by first | exact HK.1.1 | exact (show Kept w _ (fun k_ => P0_ k_) from by repeat (first | (with_reducible first | exact HK.1 | apply zm | apply zl | apply zn | refine za ?_ (.inr qh.1) _) | exact HK.1)).1) hn_))), Or.elim hk_ (fun hs_ => fun e_ => (((qg.1).1 k_ e_.symm).2.1) hs_) (fun hn_ => (zO (zX (by (with_reducible repeat (first | apply zc | apply zb | apply ze)); exact qg.1)) k_ hn_)), Or.elim hk_ (fun hs_ => fun e_ => (zK HO_7.1 (fun _ hk => hk.2.2)) (by rw [← e_]; exact hs_)) (fun hn_ => (zH (g := gb154) (o := .cells #[.int .i64 a1_0, .int .i64 a1_1] 45 (0, 0)) (by (with_reducible repeat (first | refine zf ?_ _ | refine zh ?_ | refine zg ?_ _)); exact qc.1) k_ hn_))⟩)); have n3_ := Aside0.mk (Kept.then_ (S := (fun k_ => P0_ k_)) (by repeat (first | (with_reducible first | exact HK.1 | apply zm | apply zl | apply zn | refine za ?_ (.inr qh.1) _) | exact HK.1)) hkp (fun k_ hs_ => (fun e_ => (HO_7.1.1 k_ e_.symm).1) hs_)); have n4_ := Aside0.mk (hb); clear qg; clear qc; clear HK; clear HB; clear HO_7; have qg := n0_; have qc := n1_; have HO173 := n2_; have HK := n3_; have HB := n4_; clear n0_ n1_ n2_ n3_ n4_; (try clear hb); (try clear hkp); (try clear ho0)))
        go_ret
        exact ⟨_, by first | rfl | (simp [errW_none, errW_some] <;> rfl) | (simp [*, errW_none, errW_some] <;> rfl), by (with_reducible repeat (first | apply zc | apply zb | apply ze)); exact zp HO173.1 (fun _ hk => hk.1), by repeat (first | (with_reducible first | exact HB.1 | apply zk | apply zd | apply zi | refine zj ?_ qi.1) | exact HB.1), by repeat (first | (with_reducible first | exact HK.1 | apply zm | apply zl | apply zn | refine za ?_ (.inr qh.1) _) | exact HK.1)⟩
       ·
        replace c59 := Bool.eq_false_iff.mpr c59
        subst c59
        have H1 : (spec_l3Put.l2 k2 x7_2 0 a1_0 a1_1) = some r := by rw [if_neg (show ¬ (false = true) by decide)] at H; exact H
        clear H
        have H := H1
        clear H1
        have H' := Aside0.mk H
        clear H
        go_wp2
        go_loopg [11] k2 (fun kq v11 w' => ∃ (qe : Int), v11 = .int .i64 qe ∧ zG (spec_l3Put.l2 kq x7_2 qe a1_0 a1_1 = some r) ∧ zG (kq ≤ k2) ∧ zG (Kd.R k45 45 w' w0.heap.size (fun k_ => (P0_ k_ ∨ w.heap.size ≤ k_) ∧ k_ ≠ gb154) u7 x7_2) ∧ zG (w'.heap[gb154]? = some (.cells #[.int .i64 a1_0, .int .i64 a1_1] 45 (0, 0))) ∧ zG (Kept w w' (fun k_ => P0_ k_)) ∧ zG (Below w0.heap.size w0 w'))
        case atStart => exact ⟨(0), (by first | rfl | (simp; done) | (simp [*]; done)), H', ⟨Nat.le_refl _⟩, ⟨by (with_reducible repeat (first | apply zc | apply zb | apply ze)); exact zp HO_7.1 (fun _ hk => ⟨hk.1, hk.2.2⟩)⟩, ⟨by (with_reducible repeat (first | refine zf ?_ _ | refine zh ?_ | refine zg ?_ _)); exact qc.1⟩, ⟨by repeat (first | (with_reducible first | exact HK.1 | apply zm | apply zl | apply zn | refine za ?_ (.inr qh.1) _) | exact HK.1)⟩, ⟨by repeat (first | (with_reducible first | exact HB.1 | apply zk | apply zd | apply zi | refine zj ?_ qi.1) | exact HB.1)⟩⟩
        case round =>
         clear H'
         (try clear c1); (try clear p1); (try clear q1); (try clear hx1); (try clear c2); (try clear p2); (try clear c3); (try clear c4); (try clear c5); (try clear c5b0); (try clear c6); (try clear c6b0); (try clear p6); (try clear c7); (try clear c7b0); (try clear c9); (try clear c11); (try clear p15); (try clear q15); (try clear hx15); (try clear c16); (try clear c20); (try clear c20b0); (try clear c21); (try clear c21b0); (try clear c22); (try clear c22b0); (try clear c24); (try clear c26); (try clear c30); (try clear c30b0); (try clear c32); (try clear c32b0); (try clear c32b1); (try clear c32b2); (try clear c34); (try clear c40); (try clear c42); (try clear c45); (try clear c46); (try clear c50); (try clear c52); (try clear c59); (try clear p64); (try clear hcz12_0); (try clear hcz12_1); (try clear hcz13_0); (try clear hcz13_1); (try clear hcz17_0); (try clear hcz17_1); (try clear hcz18_0); (try clear hcz18_1); (try clear hcz27_0); (try clear hcz27_1); (try clear hcz28_0); (try clear hcz28_1); (try clear hcz35_0); (try clear hcz35_1); (try clear hcz36_0); (try clear hcz36_1); (try clear hcz43_0); (try clear hcz43_1); (try clear hcz44_0); (try clear hcz44_1); (try clear hcz48_0); (try clear hcz48_1); (try clear hcz53_0); (try clear hcz53_1); (try clear hcz54_0); (try clear hcz54_1); (try clear hcz57_0); (try clear hcz57_1); (try clear hcz62_0); (try clear hcz62_1); (try clear hfz12_0); (try clear hfz12_1); (try clear hfz13_0); (try clear hfz13_1); (try clear hfz17_0); (try clear hfz17_1); (try clear hfz18_0); (try clear hfz18_1); (try clear hfz27_0); (try clear hfz27_1); (try clear hfz28_0); (try clear hfz28_1); (try clear hfz35_0); (try clear hfz35_1); (try clear hfz36_0); (try clear hfz36_1); (try clear hfz43_0); (try clear hfz43_1); (try clear hfz44_0); (try clear hfz44_1); (try clear hfz48_0); (try clear hfz48_1); (try clear hfz53_0); (try clear hfz53_1); (try clear hfz54_0); (try clear hfz54_1); (try clear hfz57_0); (try clear hfz57_1); (try clear hfz62_0); (try clear hfz62_1); (try clear hx155_0); (try clear hx155_1); (try clear hx158_0); (try clear hx158_1); (try clear p1); (try clear p15); (try clear p155); (try clear p158); (try clear p2); (try clear p6); (try clear q1); (try clear q15); (try clear q155); (try clear q158)
         obtain ⟨qe, rfl, HA, HK3, HO_7, qc, HK, HB⟩ := hrel
         cases gk with
         | zero => exact absurd HA.1 (by simp [spec_l3Put.l2])
         | succ k3 =>
          have H := HA.1
          clear HA
          simp only [spec_l3Put.l2] at H
          by_cases c66 : qe < (x7_2.length : Int)
          ·
           rw [if_pos c66] at H
           have c66b0 : decide (qe < (x7_2.length : Int)) = true := decide_eq_true c66
           clear c66
           by_cases c67 : 0 ≤ qe
           ·
            rw [if_pos c67] at H
            have c67b0 : decide (0 ≤ qe) = true := decide_eq_true c67
            clear c67
            replace H := Option.bind_eq_some_iff.mp H
            obtain ⟨t175, A680, H⟩ := H
            replace H : (if t175 < 0 then (spec_l3Put.l2 k3 x7_2 (wrap64 (qe + 1)) a1_0 a1_1) else (if qe ≤ (x7_2.length : Int) then ((some (x7_2.take (qe : Int).toNat : List (S45))).bind fun y176 => (if ([] : List (S45)).length + y176.length < 8796093022208 then ((some (([] : List (S45)) ++ y176 : List (S45))).bind fun y180 => (if y180.length < 8796093022208 then ((some (y180 ++ [(⟨a1_0, a1_1⟩ : S45)] : List (S45))).bind fun y183 => ((some (x7_2.drop (qe : Int).toNat : List (S45))).bind fun y186 => (if y183.length + y186.length < 8796093022208 then (some (y183 ++ y186)) else (none)))) else (none))) else (none))) else (none))) = some r := H
            have A68 := Aside0.mk A680
            clear A680
            by_cases c69 : t175 < 0
            ·
             rw [if_pos c69] at H
             have c69b0 : decide (t175 < 0) = true := decide_eq_true c69
             clear c69
             have H' := Aside0.mk H
             clear H
             try go_wp2
             have n0_ := Aside0.mk (ze HO_7.1)
             have n1_ := Aside0.mk (zh qc.1)
             have n2_ := Aside0.mk (zn HK.1)
             have n3_ := Aside0.mk (zi HB.1)
             clear HO_7
             clear qc
             clear HK
             clear HB
             have HO_7 := n0_
             have qc := n1_
             have HK := n2_
             have HB := n3_
             clear n0_ n1_ n2_ n3_
             obtain ⟨Ao71, co71, eo71⟩ := Kd.R_slice HO_7.1
             (first | subst eo71 | (injection eo71 with f1_ f2_ f3_; have f4_ := f1_.symm; have f5_ := f3_.symm; clear f1_ f2_ f3_; subst f4_; subst f5_))
             have p174 : 0 ≤ (qe : Int) := of_decide_eq_true (by first | (with_reducible assumption) | assumption)
             have q174 : qe < (x7_2.length : Int) := of_decide_eq_true (by first | (with_reducible assumption) | assumption)
             obtain ⟨ad174, e174, hx174_0, hx174_1⟩ := at_T45 (zs HO_7.1).2.2 qe p174 q174
             cases e174
             replace p174 := eq_true p174
             replace q174 := eq_true q174
             refine start_ (n := 13) (S := fun w' => w'.cell? ⟨gb154, 0, none⟩ = some (.int .i64 a1_0) ∧ w'.cell? ⟨gb154, 1, none⟩ = some (.int .i64 a1_1) ∧ w'.cell? (ad174.add ((qe).toNat * 2)) = some (.int .i64 ((rd_T45 x7_2 qe).f0)) ∧ w'.cell? ⟨(ad174.add ((qe).toNat * 2)).block, (ad174.add ((qe).toNat * 2)).off + 1, none⟩ = some (.int .i64 ((rd_T45 x7_2 qe).f1))) (ds := []) #[false, false, false, false, false, false, false, false, false, false, false, false, false] (by kernel_rfl) rfl rfl ⟨(zo qc.1 0).trans rfl, (zo qc.1 1).trans rfl, hx174_0, hx174_1⟩ (fun hHeld => ?_); refine with_tabW spec_l3Put.tab20 spec_l3Put.bits20 (fun HT_ HW_ => ?_)
             generalize wr.drew = w70 at HO_7 qc HK HB hx174_0 hx174_1 hHeld ⊢
             refine zx (i := 0) (N := some 52) (v := ?_) (a' := ?_) #[true, false, false, false, false, false, false, false, false, false, false, false, false] rfl rfl (zt HT_.1 (by kernel_rfl)) (fun _ _ _ h => h) (Or.inl ⟨by rfl, ?_⟩) ?_ ?_
             rotate_left
             ·
              intro w'
              go_simp
              with_reducible rfl
             rotate_left
             ·
              simp only [Act.put, List.setIfInBounds_toArray, List.set_cons_zero, List.set_cons_succ, zu, zv]
              rfl
             refine zx (i := 1) (N := some 53) (v := ?_) (a' := ?_) #[true, true, false, false, false, false, false, false, false, false, false, false, false] rfl rfl (zt HT_.1 (by kernel_rfl)) (fun _ _ _ h => h) (Or.inl ⟨by rfl, ?_⟩) ?_ ?_
             rotate_left
             ·
              intro w'
              go_simp
              with_reducible rfl
             rotate_left
             ·
              simp only [Act.put, List.setIfInBounds_toArray, List.set_cons_zero, List.set_cons_succ, zu, zv]
              rfl
             refine zx (i := 2) (N := some 54) (v := ?_) (a' := ?_) #[true, true, true, false, false, false, false, false, false, false, false, false, false] rfl rfl (zt HT_.1 (by kernel_rfl)) (fun _ _ _ h => h) (Or.inl ⟨by rfl, ?_⟩) ?_ ?_
             rotate_left
             ·
              intro w'
              go_simp
              with_reducible rfl
             rotate_left
             ·
              simp only [Act.put, List.setIfInBounds_toArray, List.set_cons_zero, List.set_cons_succ, zu, zv]
              rfl
             refine zx (i := 3) (N := some 55) (v := ?_) (a' := ?_) #[true, true, true, true, false, false, false, false, false, false, false, false, false] rfl rfl (zt HT_.1 (by kernel_rfl)) (fun _ _ _ h => h) (Or.inl ⟨by rfl, ?_⟩) ?_ ?_
             rotate_left
             ·
              intro w'
              go_simp
              with_reducible rfl
             rotate_left
             ·
              simp only [Act.put, List.setIfInBounds_toArray, List.set_cons_zero, List.set_cons_succ, zu, zv]
              rfl
             refine zx (i := 4) (N := some 56) (v := ?_) (a' := ?_) #[true, true, true, true, true, false, false, false, false, false, false, false, false] rfl rfl (zt HT_.1 (by kernel_rfl)) (fun _ _ _ h => h) (Or.inl ⟨by rfl, ?_⟩) ?_ ?_
             rotate_left
             ·
              intro w'
              go_simp
              with_reducible rfl
             rotate_left
             ·
              simp only [Act.put, List.setIfInBounds_toArray, List.set_cons_zero, List.set_cons_succ, zu, zv]
              rfl
             refine zx (i := 5) (N := some 57) (v := ?_) (a' := ?_) #[true, true, true, true, true, true, false, false, false, false, false, false, false] rfl rfl (zt HT_.1 (by kernel_rfl)) (fun _ _ _ h => h) (Or.inl ⟨by rfl, ?_⟩) ?_ ?_
             rotate_left
             ·
              intro w'
              go_simp
              with_reducible rfl
             rotate_left
             ·
              simp only [Act.put, List.setIfInBounds_toArray, List.set_cons_zero, List.set_cons_succ, zu, zv]
              rfl
             refine zx (i := 6) (N := some 58) (v := ?_) (a' := ?_) #[true, true, true, true, true, true, true, false, false, false, false, false, false] rfl rfl (zt HT_.1 (by kernel_rfl)) (fun _ _ _ h => h) (Or.inl ⟨by rfl, ?_⟩) ?_ ?_
             rotate_left
             ·
              intro w'
              go_simp
              with_reducible rfl
             rotate_left
             ·
              simp only [Act.put, List.setIfInBounds_toArray, List.set_cons_zero, List.set_cons_succ, zu, zv]
              rfl
             refine zx (i := 7) (N := some 59) (v := ?_) (a' := ?_) #[true, true, true, true, true, true, true, true, false, false, false, false, false] rfl rfl (zt HT_.1 (by kernel_rfl)) (fun _ _ _ h => h) (Or.inl ⟨by rfl, ?_⟩) ?_ ?_
             rotate_left
             ·
              intro w'
              go_simp
              with_reducible rfl
             rotate_left
             ·
              simp only [Act.put, List.setIfInBounds_toArray, List.set_cons_zero, List.set_cons_succ, zu, zv]
              rfl
             refine qa (i := 8) (N := some 60) (v := ?_) (a' := ?_) #[true, true, true, true, true, true, true, true, true, false, false, false, false] rfl rfl (zL HT_.1 HW_.1 (by kernel_rfl)) (fun _ _ _ h => h) (Or.inl ⟨by rfl, ?_⟩) hHeld ?_ ?_
             rotate_left
             ·
              rintro w' ⟨s0, s1, s2, s3⟩
              go_simp
              with_reducible rfl
             rotate_left
             ·
              simp only [Act.put, List.setIfInBounds_toArray, List.set_cons_zero, List.set_cons_succ, zu, zv]
              rfl
             refine qa (i := 9) (N := some 61) (v := ?_) (a' := ?_) #[true, true, true, true, true, true, true, true, true, true, false, false, false] rfl rfl (zL HT_.1 HW_.1 (by kernel_rfl)) (fun _ _ _ h => h) (Or.inl ⟨by rfl, ?_⟩) hHeld ?_ ?_
             rotate_left
             ·
              rintro w' ⟨s0, s1, s2, s3⟩
              go_simp
              with_reducible rfl
             rotate_left
             ·
              simp only [Act.put, List.setIfInBounds_toArray, List.set_cons_zero, List.set_cons_succ, zu, zv]
              rfl
             refine one_ (i := 10) (N := some 62) #[true, true, true, true, true, true, true, true, true, true, true, false, false] rfl rfl (one_of HT_.1 (by kernel_rfl)) (by decide) (fun K hK => ?_)
             refine goes_ Try.func47 (by kernel_rfl) rfl #[.agg #[.int .i64 ((rd_T45 x7_2 qe).f0), .int .i64 ((rd_T45 x7_2 qe).f1)], .agg #[.int .i64 a1_0, .int .i64 a1_1]] (by rfl) rfl rfl (by (try simp only [List.map_toArray, List.map_cons, List.map_nil]); first | done | rfl | (simp only [List.length_drop, List.length_take]; rfl)) ?_
             with_reducible refine (spec_l1Compare.calls k3 ((rd_T45 x7_2 qe).f0) ((rd_T45 x7_2 qe).f1) a1_0 a1_1 t175 _ A68.1).mono ?_
             rintro e w72 ⟨rfl, hb⟩
             have HS2_ := (hb.cell (World.block_lt_of_cell? _ _ (hHeld.2.2.1))).trans (hHeld.2.2.1)
             have HS3_ := (hb.cell (World.block_lt_of_cell? _ _ (hHeld.2.2.2))).trans (hHeld.2.2.2)
             refine ⟨_, rfl, ?_⟩
             have n0_ := Aside0.mk (zr (by (with_reducible repeat (first | apply zc | apply zb | apply ze)); exact HO_7.1) hb)
             have n1_ := Aside0.mk (zw (g := gb154) (o := .cells #[.int .i64 a1_0, .int .i64 a1_1] 45 (0, 0)) (by (with_reducible repeat (first | refine zf ?_ _ | refine zh ?_ | refine zg ?_ _)); exact qc.1) hb)
             have n2_ := Aside0.mk (zz (S := (fun k_ => P0_ k_)) (by repeat (first | (with_reducible first | exact HK.1 | apply zm | apply zl | apply zn | refine za ?_ (.inr qh.1) _) | exact HK.1)) hb)
             have n3_ := Aside0.mk (zy (by repeat (first | (with_reducible first | exact HB.1 | apply zk | apply zd | apply zi | refine zj ?_ qi.1) | exact HB.1)) hb)
             clear HO_7
             clear qc
             clear HK
             clear HB
             have HO_7 := n0_
             have qc := n1_
             have HK := n2_
             have HB := n3_
             clear n0_ n1_ n2_ n3_
             (try clear hb)
             (try clear hb2)
             (try clear hk)
             (try clear hi)
             refine hK.out _ _ ⟨(zo qc.1 0).trans rfl, (zo qc.1 1).trans rfl, HS2_, HS3_⟩ (fun hHeld => ?_)
             clear hK K
             refine norm_ (a' := ?_) ?_ ?_
             rotate_left
             ·
              show Act.put _ (some 62) _ = _
              simp only [Act.put, List.setIfInBounds_toArray, List.set_cons_zero, List.set_cons_succ, zu, zv]
              rfl
             refine zx (i := 11) (N := some 63) (v := ?_) (a' := ?_) #[true, true, true, true, true, true, true, true, true, true, true, true, false] rfl rfl (zt HT_.1 (by kernel_rfl)) (fun _ _ _ h => h) (Or.inl ⟨by rfl, ?_⟩) ?_ ?_
             rotate_left
             ·
              intro w'
              go_simp
              with_reducible rfl
             rotate_left
             ·
              simp only [Act.put, List.setIfInBounds_toArray, List.set_cons_zero, List.set_cons_succ, zu, zv]
              rfl
             refine zx (i := 12) (N := some 64) (v := ?_) (a' := ?_) #[true, true, true, true, true, true, true, true, true, true, true, true, true] rfl rfl (zt HT_.1 (by kernel_rfl)) (fun _ _ _ h => h) (Or.inl ⟨by rfl, ?_⟩) ?_ ?_
             rotate_left
             ·
              intro w'
              go_simp
              with_reducible rfl
             rotate_left
             ·
              simp only [Act.put, List.setIfInBounds_toArray, List.set_cons_zero, List.set_cons_succ, zu, zv]
              rfl
             refine done_ (done_of HT_.1 (by kernel_rfl)) ?_
             try go_wp2
             go_roundg k3
             case measure => have := HK1.1; have := HK2.1; have := HK3.1; omega
             case rel => exact ⟨(wrap64 (qe + 1)), (by first | rfl | (simp; done) | (simp [*]; done)), H', ⟨by have := HK1.1; have := HK2.1; have := HK3.1; omega⟩, ⟨by (with_reducible repeat (first | apply zc | apply zb | apply ze)); exact HO_7.1⟩, ⟨by (with_reducible repeat (first | refine zf ?_ _ | refine zh ?_ | refine zg ?_ _)); exact qc.1⟩, ⟨by repeat (first | (with_reducible first | exact HK.1 | apply zm | apply zl | apply zn | refine za ?_ (.inr qh.1) _) | exact HK.1)⟩, ⟨by repeat (first | (with_reducible first | exact HB.1 | apply zk | apply zd | apply zi | refine zj ?_ qi.1) | exact HB.1)⟩⟩
            ·
             rw [if_neg c69] at H
             have c69b0 : decide (t175 < 0) = false := decide_eq_false c69
             clear c69
             have c73b0 := eq_true (of_decide_eq_true (by first | (with_reducible assumption) | assumption) : 0 ≤ qe)
             by_cases c74 : qe ≤ (x7_2.length : Int)
             ·
              rw [if_pos c74] at H
              have c74b0 := eq_true c74
              have c74b1 : decide (qe ≤ (x7_2.length : Int)) = true := decide_eq_true c74
              clear c74
              obtain ⟨y176, hy176⟩ : ∃ y_ : List (S45), y_ = (x7_2.take (qe : Int).toNat) := ⟨_, rfl⟩
              replace H : (if ([] : List (S45)).length + y176.length < 8796093022208 then ((some (([] : List (S45)) ++ y176 : List (S45))).bind fun y180 => (if y180.length < 8796093022208 then ((some (y180 ++ [(⟨a1_0, a1_1⟩ : S45)] : List (S45))).bind fun y183 => ((some (x7_2.drop (qe : Int).toNat : List (S45))).bind fun y186 => (if y183.length + y186.length < 8796093022208 then (some (y183 ++ y186)) else (none)))) else (none))) else (none)) = some r := by first | (rw [hy176]; with_reducible exact H) | (have H2_ := (Option.bind_some _ _).symm.trans H; rw [hy176]; with_reducible exact H2_) | (have H2_ := (Option.bind_some _ _).symm.trans H; with_reducible exact H2_) | with_reducible exact H | (rw [hy176]; exact H) | exact H
              have Ny176 := Aside0.mk hy176
              clear hy176
              by_cases c75 : ([] : List (S45)).length + y176.length < 8796093022208
              ·
               rw [if_pos c75] at H
               have LMc75 := Aside0.mk c75
               clear c75
               obtain ⟨y180, hy180⟩ : ∃ y_ : List (S45), y_ = (([] : List (S45)) ++ y176) := ⟨_, rfl⟩
               replace H : (if y180.length < 8796093022208 then ((some (y180 ++ [(⟨a1_0, a1_1⟩ : S45)] : List (S45))).bind fun y183 => ((some (x7_2.drop (qe : Int).toNat : List (S45))).bind fun y186 => (if y183.length + y186.length < 8796093022208 then (some (y183 ++ y186)) else (none)))) else (none)) = some r := by first | (rw [hy180]; with_reducible exact H) | (have H2_ := (Option.bind_some _ _).symm.trans H; rw [hy180]; with_reducible exact H2_) | (have H2_ := (Option.bind_some _ _).symm.trans H; with_reducible exact H2_) | with_reducible exact H | (rw [hy180]; exact H) | exact H
               have Ny180 := Aside0.mk hy180
               clear hy180
               by_cases c76 : y180.length < 8796093022208
               ·
                rw [if_pos c76] at H
                have LMc76 := Aside0.mk c76
                clear c76
                obtain ⟨y183, hy183⟩ : ∃ y_ : List (S45), y_ = (y180 ++ [(⟨a1_0, a1_1⟩ : S45)]) := ⟨_, rfl⟩
                replace H : ((some (x7_2.drop (qe : Int).toNat : List (S45))).bind fun y186 => (if y183.length + y186.length < 8796093022208 then (some (y183 ++ y186)) else (none))) = some r := by first | (rw [hy183]; with_reducible exact H) | (have H2_ := (Option.bind_some _ _).symm.trans H; rw [hy183]; with_reducible exact H2_) | (have H2_ := (Option.bind_some _ _).symm.trans H; with_reducible exact H2_) | with_reducible exact H | (rw [hy183]; exact H) | exact H
                have Ny183 := Aside0.mk hy183
                clear hy183
                have c77b0 := eq_true (of_decide_eq_true (by first | (with_reducible assumption) | assumption) : 0 ≤ qe)
                have c78b0 := eq_true (of_decide_eq_true (by first | (with_reducible assumption) | assumption) : qe ≤ (x7_2.length : Int))
                obtain ⟨y186, hy186⟩ : ∃ y_ : List (S45), y_ = (x7_2.drop (qe : Int).toNat) := ⟨_, rfl⟩
                replace H : (if y183.length + y186.length < 8796093022208 then (some (y183 ++ y186)) else (none)) = some r := by first | (rw [hy186]; with_reducible exact H) | (have H2_ := (Option.bind_some _ _).symm.trans H; rw [hy186]; with_reducible exact H2_) | (have H2_ := (Option.bind_some _ _).symm.trans H; with_reducible exact H2_) | with_reducible exact H | (rw [hy186]; exact H) | exact H
                have Ny186 := Aside0.mk hy186
                clear hy186
                by_cases c79 : y183.length + y186.length < 8796093022208
                ·
                 rw [if_pos c79] at H
                 have LMc79 := Aside0.mk c79
                 clear c79
                 obtain ⟨y190, hy190⟩ : ∃ y_ : List (S45), y_ = (y183 ++ y186) := ⟨_, rfl⟩
                 replace H : (some y190) = some r := by first | (rw [hy190]; with_reducible exact H) | (have H2_ := (Option.bind_some _ _).symm.trans H; rw [hy190]; with_reducible exact H2_) | (have H2_ := (Option.bind_some _ _).symm.trans H; with_reducible exact H2_) | with_reducible exact H | (rw [hy190]; exact H) | exact H
                 have Ny190 := Aside0.mk hy190
                 clear hy190
                 obtain rfl := Option.some.inj H
                 try go_wp2
                 have n0_ := Aside0.mk (ze HO_7.1)
                 have n1_ := Aside0.mk (zh qc.1)
                 have n2_ := Aside0.mk (zn HK.1)
                 have n3_ := Aside0.mk (zi HB.1)
                 clear HO_7
                 clear qc
                 clear HK
                 clear HB
                 have HO_7 := n0_
                 have qc := n1_
                 have HK := n2_
                 have HB := n3_
                 clear n0_ n1_ n2_ n3_
                 obtain ⟨Ao81, co81, eo81⟩ := Kd.R_slice HO_7.1
                 (first | subst eo81 | (injection eo81 with f1_ f2_ f3_; have f4_ := f1_.symm; have f5_ := f3_.symm; clear f1_ f2_ f3_; subst f4_; subst f5_))
                 have p174 : 0 ≤ (qe : Int) := of_decide_eq_true (by first | (with_reducible assumption) | assumption)
                 have q174 : qe < (x7_2.length : Int) := of_decide_eq_true (by first | (with_reducible assumption) | assumption)
                 obtain ⟨ad174, e174, hx174_0, hx174_1⟩ := at_T45 (zs HO_7.1).2.2 qe p174 q174
                 cases e174
                 replace p174 := eq_true p174
                 replace q174 := eq_true q174
                 refine start_ (n := 13) (S := fun w' => w'.cell? ⟨gb154, 0, none⟩ = some (.int .i64 a1_0) ∧ w'.cell? ⟨gb154, 1, none⟩ = some (.int .i64 a1_1) ∧ w'.cell? (ad174.add ((qe).toNat * 2)) = some (.int .i64 ((rd_T45 x7_2 qe).f0)) ∧ w'.cell? ⟨(ad174.add ((qe).toNat * 2)).block, (ad174.add ((qe).toNat * 2)).off + 1, none⟩ = some (.int .i64 ((rd_T45 x7_2 qe).f1))) (ds := []) #[false, false, false, false, false, false, false, false, false, false, false, false, false] (by kernel_rfl) rfl rfl ⟨(zo qc.1 0).trans rfl, (zo qc.1 1).trans rfl, hx174_0, hx174_1⟩ (fun hHeld => ?_); refine with_tabW spec_l3Put.tab20 spec_l3Put.bits20 (fun HT_ HW_ => ?_)
                 generalize wr.drew = w80 at HO_7 qc HK HB hx174_0 hx174_1 hHeld ⊢
                 refine zx (i := 0) (N := some 52) (v := ?_) (a' := ?_) #[true, false, false, false, false, false, false, false, false, false, false, false, false] rfl rfl (zt HT_.1 (by kernel_rfl)) (fun _ _ _ h => h) (Or.inl ⟨by rfl, ?_⟩) ?_ ?_
                 rotate_left
                 ·
                  intro w'
                  go_simp
                  with_reducible rfl
                 rotate_left
                 ·
                  simp only [Act.put, List.setIfInBounds_toArray, List.set_cons_zero, List.set_cons_succ, zu, zv]
                  rfl
                 refine zx (i := 1) (N := some 53) (v := ?_) (a' := ?_) #[true, true, false, false, false, false, false, false, false, false, false, false, false] rfl rfl (zt HT_.1 (by kernel_rfl)) (fun _ _ _ h => h) (Or.inl ⟨by rfl, ?_⟩) ?_ ?_
                 rotate_left
                 ·
                  intro w'
                  go_simp
                  with_reducible rfl
                 rotate_left
                 ·
                  simp only [Act.put, List.setIfInBounds_toArray, List.set_cons_zero, List.set_cons_succ, zu, zv]
                  rfl
                 refine zx (i := 2) (N := some 54) (v := ?_) (a' := ?_) #[true, true, true, false, false, false, false, false, false, false, false, false, false] rfl rfl (zt HT_.1 (by kernel_rfl)) (fun _ _ _ h => h) (Or.inl ⟨by rfl, ?_⟩) ?_ ?_
                 rotate_left
                 ·
                  intro w'
                  go_simp
                  with_reducible rfl
                 rotate_left
                 ·
                  simp only [Act.put, List.setIfInBounds_toArray, List.set_cons_zero, List.set_cons_succ, zu, zv]
                  rfl
                 refine zx (i := 3) (N := some 55) (v := ?_) (a' := ?_) #[true, true, true, true, false, false, false, false, false, false, false, false, false] rfl rfl (zt HT_.1 (by kernel_rfl)) (fun _ _ _ h => h) (Or.inl ⟨by rfl, ?_⟩) ?_ ?_
                 rotate_left
                 ·
                  intro w'
                  go_simp
                  with_reducible rfl
                 rotate_left
                 ·
                  simp only [Act.put, List.setIfInBounds_toArray, List.set_cons_zero, List.set_cons_succ, zu, zv]
                  rfl
                 refine zx (i := 4) (N := some 56) (v := ?_) (a' := ?_) #[true, true, true, true, true, false, false, false, false, false, false, false, false] rfl rfl (zt HT_.1 (by kernel_rfl)) (fun _ _ _ h => h) (Or.inl ⟨by rfl, ?_⟩) ?_ ?_
                 rotate_left
                 ·
                  intro w'
                  go_simp
                  with_reducible rfl
                 rotate_left
                 ·
                  simp only [Act.put, List.setIfInBounds_toArray, List.set_cons_zero, List.set_cons_succ, zu, zv]
                  rfl
                 refine zx (i := 5) (N := some 57) (v := ?_) (a' := ?_) #[true, true, true, true, true, true, false, false, false, false, false, false, false] rfl rfl (zt HT_.1 (by kernel_rfl)) (fun _ _ _ h => h) (Or.inl ⟨by rfl, ?_⟩) ?_ ?_
                 rotate_left
                 ·
                  intro w'
                  go_simp
                  with_reducible rfl
                 rotate_left
                 ·
                  simp only [Act.put, List.setIfInBounds_toArray, List.set_cons_zero, List.set_cons_succ, zu, zv]
                  rfl
                 refine zx (i := 6) (N := some 58) (v := ?_) (a' := ?_) #[true, true, true, true, true, true, true, false, false, false, false, false, false] rfl rfl (zt HT_.1 (by kernel_rfl)) (fun _ _ _ h => h) (Or.inl ⟨by rfl, ?_⟩) ?_ ?_
                 rotate_left
                 ·
                  intro w'
                  go_simp
                  with_reducible rfl
                 rotate_left
                 ·
                  simp only [Act.put, List.setIfInBounds_toArray, List.set_cons_zero, List.set_cons_succ, zu, zv]
                  rfl
                 refine zx (i := 7) (N := some 59) (v := ?_) (a' := ?_) #[true, true, true, true, true, true, true, true, false, false, false, false, false] rfl rfl (zt HT_.1 (by kernel_rfl)) (fun _ _ _ h => h) (Or.inl ⟨by rfl, ?_⟩) ?_ ?_
                 rotate_left
                 ·
                  intro w'
                  go_simp
                  with_reducible rfl
                 rotate_left
                 ·
                  simp only [Act.put, List.setIfInBounds_toArray, List.set_cons_zero, List.set_cons_succ, zu, zv]
                  rfl
                 refine qa (i := 8) (N := some 60) (v := ?_) (a' := ?_) #[true, true, true, true, true, true, true, true, true, false, false, false, false] rfl rfl (zL HT_.1 HW_.1 (by kernel_rfl)) (fun _ _ _ h => h) (Or.inl ⟨by rfl, ?_⟩) hHeld ?_ ?_
                 rotate_left
                 ·
                  rintro w' ⟨s0, s1, s2, s3⟩
                  go_simp
                  with_reducible rfl
                 rotate_left
                 ·
                  simp only [Act.put, List.setIfInBounds_toArray, List.set_cons_zero, List.set_cons_succ, zu, zv]
                  rfl
                 refine qa (i := 9) (N := some 61) (v := ?_) (a' := ?_) #[true, true, true, true, true, true, true, true, true, true, false, false, false] rfl rfl (zL HT_.1 HW_.1 (by kernel_rfl)) (fun _ _ _ h => h) (Or.inl ⟨by rfl, ?_⟩) hHeld ?_ ?_
                 rotate_left
                 ·
                  rintro w' ⟨s0, s1, s2, s3⟩
                  go_simp
                  with_reducible rfl
                 rotate_left
                 ·
                  simp only [Act.put, List.setIfInBounds_toArray, List.set_cons_zero, List.set_cons_succ, zu, zv]
                  rfl
                 refine one_ (i := 10) (N := some 62) #[true, true, true, true, true, true, true, true, true, true, true, false, false] rfl rfl (one_of HT_.1 (by kernel_rfl)) (by decide) (fun K hK => ?_)
                 refine goes_ Try.func47 (by kernel_rfl) rfl #[.agg #[.int .i64 ((rd_T45 x7_2 qe).f0), .int .i64 ((rd_T45 x7_2 qe).f1)], .agg #[.int .i64 a1_0, .int .i64 a1_1]] (by rfl) rfl rfl (by (try simp only [List.map_toArray, List.map_cons, List.map_nil]); first | done | rfl | (simp only [List.length_drop, List.length_take]; rfl)) ?_
                 with_reducible refine (spec_l1Compare.calls k3 ((rd_T45 x7_2 qe).f0) ((rd_T45 x7_2 qe).f1) a1_0 a1_1 t175 _ A68.1).mono ?_
                 rintro e w82 ⟨rfl, hb⟩
                 have HS2_ := (hb.cell (World.block_lt_of_cell? _ _ (hHeld.2.2.1))).trans (hHeld.2.2.1)
                 have HS3_ := (hb.cell (World.block_lt_of_cell? _ _ (hHeld.2.2.2))).trans (hHeld.2.2.2)
                 refine ⟨_, rfl, ?_⟩
                 have n0_ := Aside0.mk (zr (by (with_reducible repeat (first | apply zc | apply zb | apply ze)); exact HO_7.1) hb)
                 have n1_ := Aside0.mk (zw (g := gb154) (o := .cells #[.int .i64 a1_0, .int .i64 a1_1] 45 (0, 0)) (by (with_reducible repeat (first | refine zf ?_ _ | refine zh ?_ | refine zg ?_ _)); exact qc.1) hb)
                 have n2_ := Aside0.mk (zz (S := (fun k_ => P0_ k_)) (by repeat (first | (with_reducible first | exact HK.1 | apply zm | apply zl | apply zn | refine za ?_ (.inr qh.1) _) | exact HK.1)) hb)
                 have n3_ := Aside0.mk (zy (by repeat (first | (with_reducible first | exact HB.1 | apply zk | apply zd | apply zi | refine zj ?_ qi.1) | exact HB.1)) hb)
                 clear HO_7
                 clear qc
                 clear HK
                 clear HB
                 have HO_7 := n0_
                 have qc := n1_
                 have HK := n2_
                 have HB := n3_
                 clear n0_ n1_ n2_ n3_
                 (try clear hb)
                 (try clear hb2)
                 (try clear hk)
                 (try clear hi)
                 refine hK.out _ _ ⟨(zo qc.1 0).trans rfl, (zo qc.1 1).trans rfl, HS2_, HS3_⟩ (fun hHeld => ?_)
                 clear hK K
                 refine norm_ (a' := ?_) ?_ ?_
                 rotate_left
                 ·
                  show Act.put _ (some 62) _ = _
                  simp only [Act.put, List.setIfInBounds_toArray, List.set_cons_zero, List.set_cons_succ, zu, zv]
                  rfl
                 refine zx (i := 11) (N := some 63) (v := ?_) (a' := ?_) #[true, true, true, true, true, true, true, true, true, true, true, true, false] rfl rfl (zt HT_.1 (by kernel_rfl)) (fun _ _ _ h => h) (Or.inl ⟨by rfl, ?_⟩) ?_ ?_
                 rotate_left
                 ·
                  intro w'
                  go_simp
                  with_reducible rfl
                 rotate_left
                 ·
                  simp only [Act.put, List.setIfInBounds_toArray, List.set_cons_zero, List.set_cons_succ, zu, zv]
                  rfl
                 refine zx (i := 12) (N := some 64) (v := ?_) (a' := ?_) #[true, true, true, true, true, true, true, true, true, true, true, true, true] rfl rfl (zt HT_.1 (by kernel_rfl)) (fun _ _ _ h => h) (Or.inl ⟨by rfl, ?_⟩) ?_ ?_
                 rotate_left
                 ·
                  intro w'
                  go_simp
                  with_reducible rfl
                 rotate_left
                 ·
                  simp only [Act.put, List.setIfInBounds_toArray, List.set_cons_zero, List.set_cons_succ, zu, zv]
                  rfl
                 refine done_ (done_of HT_.1 (by kernel_rfl)) ?_
                 have q83 : (qe : Int) ≤ ((x7_2.length : Int) : Int) := of_decide_eq_true (by first | (with_reducible assumption) | assumption)
                 obtain ⟨i083, hi083, _, hsz83, _⟩ := info_parts info45
                 have hroom83 : x7_2.length ≤ co81 := (zs HO_7.1).2.1
                 have hC83 : Kd.C k45 _ (some ad174) x7_2.length x7_2 := (zs HO_7.1).2.2
                 have hcut83 := cut_to (P := Try.prog) 25 45 .i64 Try.underlying25 hi083 (some ad174) x7_2.length co81 qe (of_decide_eq_true (by first | (with_reducible assumption) | assumption)) q83 hroom83
                 have hr83 := zR (m := (qe : Int).toNat) hC83 (by omega)
                 have hy83 : y176.length = (qe : Int).toNat := (by rw [Ny176.1, List.length_take]; omega)
                 rw [← Ny176.1] at hr83
                 rw [← hy83] at hcut83
                 have qt := Aside0.mk hr83
                 have HC179 := Aside0.mk (show y176.length ≤ co81 from by omega)
                 clear hr83 hC83 hroom83 hi083 hsz83
                 have KY83 := Aside0.mk hy83
                 clear hy83
                 have KL83 := Aside0.mk (show (qe : Int).toNat ≤ x7_2.length from by omega)
                 replace q83 := eq_true q83
                 try go_wp2_with (first | ((with_reducible refine zF (b := .append) (xs := #[.tmp 67, .tmp 70]) rfl ?_); at_builtin; refine Kd.R_append_rows k45 (w0 := w0) w0.heap.size rfl (.tmp 67) (.tmp 70) 25 45 (.agg #[(.int .i64 0), (.int .i64 0)]) 16 rfl Try.underlying25 info45 rfl (by decide) (by omega) (.slice none 0 0) ([] : List (S45)) y176 _ _ _ (fun k_ => (P0_ k_ ∨ w.heap.size ≤ k_) ∧ some k_ ≠ (.slice (some ad174) x7_2.length co81 : Value).ownBlock ∧ k_ ≠ gb154) (fun _ => False) rfl rfl ?aO ?aR (fun _ _ h => h) (fun _ h => h.elim) ?aF ?aB ?aS ?aL ?_; (case aR => repeat (first | exact (by repeat (first | (with_reducible exact qt.1) | (with_reducible refine zN ?_ _) | (with_reducible refine zM ?_ _) | (with_reducible refine zS ?_) | exact qt.1)) | (with_reducible refine zN ?_ _) | (with_reducible refine zM ?_ _) | (with_reducible refine zS ?_))); (case aB => exact (by repeat (first | (with_reducible first | exact HB.1 | apply zk | apply zd | apply zi | refine zj ?_ qi.1) | exact HB.1))); (case aF => exact (fun k_ hk => ⟨(.inr (Nat.le_trans (by first | exact HK.1.1 | exact (show Kept w _ (fun k_ => P0_ k_) from by repeat (first | (with_reducible first | exact HK.1 | apply zm | apply zl | apply zn | refine za ?_ (.inr qh.1) _) | exact HK.1)).1) hk)), zO (zX (by (with_reducible repeat (first | apply zc | apply zb | apply ze)); exact HO_7.1)) k_ hk, zH (g := gb154) (o := .cells #[.int .i64 a1_0, .int .i64 a1_1] 45 (0, 0)) (by (with_reducible repeat (first | refine zf ?_ _ | refine zh ?_ | refine zg ?_ _)); exact qc.1) k_ hk⟩)); (case aO => exact ((Kd.R_nil _ _ _ _ (fun k_ => (P0_ k_ ∨ w.heap.size ≤ k_) ∧ some k_ ≠ (.slice (some ad174) x7_2.length co81 : Value).ownBlock ∧ k_ ≠ gb154)))); (case aS => exact (zC (by repeat (first | (with_reducible first | exact HB.1 | apply zk | apply zd | apply zi | refine zj ?_ qi.1) | exact HB.1)))); (case aL => have := LMc75.1; omega); intro v181 w84 ho hb hg hat; rw [← Ny180.1] at ho; have n0_ := Aside0.mk (zB (Kd.R_apart_nil (by (with_reducible repeat (first | apply zc | apply zb | apply ze)); exact HO_7.1)) hg hat); have n1_ := Aside0.mk (zJ (g := gb154) (o := .cells #[.int .i64 a1_0, .int .i64 a1_1] 45 (0, 0)) (by (with_reducible repeat (first | refine zf ?_ _ | refine zh ?_ | refine zg ?_ _)); exact qc.1) hg (by simp [Value.ownBlock])); have n2_ := Aside0.mk (hb); have n3_ := Aside0.mk (zE (S := (fun k_ => P0_ k_)) hg (by repeat (first | (with_reducible first | exact HK.1 | apply zm | apply zl | apply zn | refine za ?_ (.inr qh.1) _) | exact HK.1)) (fun k_ e_ => by simp [Value.ownBlock] at e_)); have n4_ := Aside0.mk ((show Kd.C k45 w84 (some ad174) y176.length y176 from by rw [Ny176.1]; exact zR (m := (qe : Int).toNat) ((zs (zB (Kd.R_apart_nil (by (with_reducible repeat (first | apply zc | apply zb | apply ze)); exact HO_7.1)) hg hat)).2.2) KL83.1)); have n5_ := Aside0.mk (ho); clear HO_7; clear qc; clear HB; clear HK; clear qt; have HO_7 := n0_; have qc := n1_; have HB := n2_; have HK := n3_; have qt := n4_; have HO182 := n5_; clear n0_ n1_ n2_ n3_ n4_ n5_; clear ho hb hg hat; have hcz85_0 : w84.cell? ⟨gb154, 0, none⟩ = some (.int .i64 a1_0) := (zo qc.1 0).trans rfl; have hcz85_1 : w84.cell? ⟨gb154, 1, none⟩ = some (.int .i64 a1_1) := (zo qc.1 1).trans rfl; have hfz85_0 := zq qc.1 0; have hfz85_1 := zq qc.1 1) | ((with_reducible refine zF (b := .append) (xs := #[.tmp 72, .tmp 74]) rfl ?_); at_builtin; refine Kd.R_append k45 (w0 := w0) w0.heap.size rfl (.tmp 72) (.tmp 74) 25 45 (.agg #[(.int .i64 0), (.int .i64 0)]) 16 rfl Try.underlying25 info45 rfl (by decide) (by omega) v181 y180 (⟨a1_0, a1_1⟩ : S45) [.int .i64 a1_0, .int .i64 a1_1] (fun k_ => (P0_ k_ ∨ w.heap.size ≤ k_) ∧ some k_ ≠ (.slice (some ad174) x7_2.length co81 : Value).ownBlock ∧ k_ ≠ gb154) (fun _ => False) rfl rfl ?aP (fun _ hk => hk.elim) ?aF ?aO ?aB ?aS ?aL ?_; (case aP => exact k45_mkM _ _ _ (⟨a1_0, a1_1⟩ : S45)); (case aB => exact (by repeat (first | (with_reducible first | exact HB.1 | apply zk | apply zd | apply zi | refine zj ?_ qi.1) | exact HB.1))); (case aF => exact (fun k_ hk => ⟨(.inr (Nat.le_trans (by first | exact HK.1.1 | exact (show Kept w _ (fun k_ => P0_ k_) from by repeat (first | (with_reducible first | exact HK.1 | apply zm | apply zl | apply zn | refine za ?_ (.inr qh.1) _) | exact HK.1)).1) hk)), zO (zX (by (with_reducible repeat (first | apply zc | apply zb | apply ze)); exact HO_7.1)) k_ hk, zH (g := gb154) (o := .cells #[.int .i64 a1_0, .int .i64 a1_1] 45 (0, 0)) (by (with_reducible repeat (first | refine zf ?_ _ | refine zh ?_ | refine zg ?_ _)); exact qc.1) k_ hk⟩)); (case aO => exact (by (with_reducible repeat (first | apply zc | apply zb | apply ze)); exact HO182.1)); (case aS => exact (zC (by repeat (first | (with_reducible first | exact HB.1 | apply zk | apply zd | apply zi | refine zj ?_ qi.1) | exact HB.1)))); (case aL => have := LMc76.1; omega); intro v184 w86 ho hb hg hat; rw [← Ny183.1] at ho; have n0_ := Aside0.mk (zB (ok := (fun k_ => (P0_ k_ ∨ w.heap.size ≤ k_) ∧ k_ ≠ gb154)) (by (with_reducible repeat (first | apply zc | apply zb | apply ze)); exact HO_7.1) hg hat); have n1_ := Aside0.mk (zJ (g := gb154) (o := .cells #[.int .i64 a1_0, .int .i64 a1_1] 45 (0, 0)) (by (with_reducible repeat (first | refine zf ?_ _ | refine zh ?_ | refine zg ?_ _)); exact qc.1) hg (zK HO182.1 (fun _ hk => hk.2.2))); have n2_ := Aside0.mk (hb); have n3_ := Aside0.mk (zE (S := (fun k_ => P0_ k_)) hg (by repeat (first | (with_reducible first | exact HK.1 | apply zm | apply zl | apply zn | refine za ?_ (.inr qh.1) _) | exact HK.1)) (fun k_ e_ => (HO182.1.1 k_ e_).1)); have n4_ := Aside0.mk ((show Kd.C k45 w86 (some ad174) y176.length y176 from by rw [Ny176.1]; exact zR (m := (qe : Int).toNat) ((zs (zB (ok := (fun k_ => (P0_ k_ ∨ w.heap.size ≤ k_) ∧ k_ ≠ gb154)) (by (with_reducible repeat (first | apply zc | apply zb | apply ze)); exact HO_7.1) hg hat)).2.2) KL83.1)); have n5_ := Aside0.mk (ho); clear HO_7; clear qc; clear HB; clear HK; clear qt; clear HO182; have HO_7 := n0_; have qc := n1_; have HB := n2_; have HK := n3_; have qt := n4_; have HO185 := n5_; clear n0_ n1_ n2_ n3_ n4_ n5_; clear ho hb hg hat; have q87 : (qe : Int) ≤ ((x7_2.length : Int) : Int) := of_decide_eq_true (by first | (with_reducible assumption) | assumption); obtain ⟨i087, hi087, _, hsz87, _⟩ := info_parts info45; have hroom87 : x7_2.length ≤ co81 := (zs HO_7.1).2.1; have hC87 : Kd.C k45 _ (some ad174) x7_2.length x7_2 := (zs HO_7.1).2.2; have q087 : (0 : Int) ≤ (qe : Int) := of_decide_eq_true (by first | (with_reducible assumption) | assumption); have hcut87 := cut_from (P := Try.prog) 25 45 .i64 Try.underlying25 hi087 2 hsz87 (some ad174) x7_2.length co81 qe q087 q87; have hr87 := Kd.C_drop (m := (qe : Int).toNat) (c := co81) hC87 (by omega) hroom87; obtain ⟨A87, hA87⟩ : ∃ A1, A1 = (if co81 = (qe : Int).toNat then (some ad174) else ((some ad174) : Option Addr).map (·.add ((qe : Int).toNat * 2))) := ⟨_, rfl⟩; obtain ⟨c87, hc87⟩ : ∃ c1, c1 = co81 - (qe : Int).toNat := ⟨_, rfl⟩; have hy87 : y186.length = x7_2.length - (qe : Int).toNat := (by rw [Ny186.1, List.length_drop] <;> omega); rw [show (x7_2).drop (qe : Int).toNat = y186 from Ny186.1.symm] at hr87; replace hr87 : Kd.C k45 _ A87 y186.length y186 := (by rw [hA87]; exact hr87); rw [← hy87, ← hA87, ← hc87] at hcut87; have HR189 := Aside0.mk hr87; have HC189 := Aside0.mk (show y186.length ≤ c87 from by rw [hy87, hc87]; exact Nat.sub_le_sub_right hroom87 _); clear hr87 hC87 hroom87 hi087 hsz87 hc87; have KY87 := Aside0.mk hy87; have KA87 := Aside0.mk hA87; clear hy87 hA87; have KL87 := Aside0.mk (show (qe : Int).toNat ≤ x7_2.length from by omega); replace q87 := eq_true q87) | ((with_reducible refine zF (b := .append) (xs := #[.tmp 76, .tmp 79]) rfl ?_); at_builtin; refine Kd.R_append_rows k45 (w0 := w0) w0.heap.size rfl (.tmp 76) (.tmp 79) 25 45 (.agg #[(.int .i64 0), (.int .i64 0)]) 16 rfl Try.underlying25 info45 rfl (by decide) (by omega) v184 y183 y186 _ _ _ (fun k_ => (P0_ k_ ∨ w.heap.size ≤ k_) ∧ some k_ ≠ (.slice (some ad174) x7_2.length co81 : Value).ownBlock ∧ k_ ≠ gb154) (fun _ => False) rfl rfl ?aO ?aR (fun _ _ h => h) (fun _ h => h.elim) ?aF ?aB ?aS ?aL ?_; (case aR => repeat (first | exact (by repeat (first | (with_reducible exact HR189.1) | (with_reducible refine zN ?_ _) | (with_reducible refine zM ?_ _) | (with_reducible refine zS ?_) | exact HR189.1)) | (with_reducible refine zN ?_ _) | (with_reducible refine zM ?_ _) | (with_reducible refine zS ?_))); (case aB => exact (by repeat (first | (with_reducible first | exact HB.1 | apply zk | apply zd | apply zi | refine zj ?_ qi.1) | exact HB.1))); (case aF => exact (fun k_ hk => ⟨(.inr (Nat.le_trans (by first | exact HK.1.1 | exact (show Kept w _ (fun k_ => P0_ k_) from by repeat (first | (with_reducible first | exact HK.1 | apply zm | apply zl | apply zn | refine za ?_ (.inr qh.1) _) | exact HK.1)).1) hk)), zO (zX (by (with_reducible repeat (first | apply zc | apply zb | apply ze)); exact HO_7.1)) k_ hk, zH (g := gb154) (o := .cells #[.int .i64 a1_0, .int .i64 a1_1] 45 (0, 0)) (by (with_reducible repeat (first | refine zf ?_ _ | refine zh ?_ | refine zg ?_ _)); exact qc.1) k_ hk⟩)); (case aO => exact (by (with_reducible repeat (first | apply zc | apply zb | apply ze)); exact HO185.1)); (case aS => exact (zC (by repeat (first | (with_reducible first | exact HB.1 | apply zk | apply zd | apply zi | refine zj ?_ qi.1) | exact HB.1)))); (case aL => have := LMc79.1; omega); intro v191 w88 ho hb hg hat; rw [← Ny190.1] at ho; have n0_ := Aside0.mk (zB (ok := (fun k_ => (P0_ k_ ∨ w.heap.size ≤ k_) ∧ k_ ≠ gb154)) (by (with_reducible repeat (first | apply zc | apply zb | apply ze)); exact HO_7.1) hg hat); have n1_ := Aside0.mk (zJ (g := gb154) (o := .cells #[.int .i64 a1_0, .int .i64 a1_1] 45 (0, 0)) (by (with_reducible repeat (first | refine zf ?_ _ | refine zh ?_ | refine zg ?_ _)); exact qc.1) hg (zK HO185.1 (fun _ hk => hk.2.2))); have n2_ := Aside0.mk (hb); have n3_ := Aside0.mk (zE (S := (fun k_ => P0_ k_)) hg (by repeat (first | (with_reducible first | exact HK.1 | apply zm | apply zl | apply zn | refine za ?_ (.inr qh.1) _) | exact HK.1)) (fun k_ e_ => (HO185.1.1 k_ e_).1)); have n4_ := Aside0.mk ((show Kd.C k45 w88 (some ad174) y176.length y176 from by rw [Ny176.1]; exact zR (m := (qe : Int).toNat) ((zs (zB (ok := (fun k_ => (P0_ k_ ∨ w.heap.size ≤ k_) ∧ k_ ≠ gb154)) (by (with_reducible repeat (first | apply zc | apply zb | apply ze)); exact HO_7.1) hg hat)).2.2) KL83.1)); have n5_ := Aside0.mk ((show Kd.C k45 w88 A87 y186.length y186 from by rw [Ny186.1, KA87.1]; exact Kd.C_drop (m := (qe : Int).toNat) (c := co81) ((zs (zB (ok := (fun k_ => (P0_ k_ ∨ w.heap.size ≤ k_) ∧ k_ ≠ gb154)) (by (with_reducible repeat (first | apply zc | apply zb | apply ze)); exact HO_7.1) hg hat)).2.2) KL87.1 ((zs (zB (ok := (fun k_ => (P0_ k_ ∨ w.heap.size ≤ k_) ∧ k_ ≠ gb154)) (by (with_reducible repeat (first | apply zc | apply zb | apply ze)); exact HO_7.1) hg hat)).2.1))); have n6_ := Aside0.mk (ho); clear HO_7; clear qc; clear HB; clear HK; clear qt; clear HR189; clear HO185; have HO_7 := n0_; have qc := n1_; have HB := n2_; have HK := n3_; have qt := n4_; have HR189 := n5_; have HO192 := n6_; clear n0_ n1_ n2_ n3_ n4_ n5_ n6_; clear ho hb hg hat))
                 go_ret
                 exact ⟨_, by first | rfl | (simp [errW_none, errW_some] <;> rfl) | (simp [*, errW_none, errW_some] <;> rfl), by (with_reducible repeat (first | apply zc | apply zb | apply ze)); exact zp HO192.1 (fun _ hk => hk.1), by repeat (first | (with_reducible first | exact HB.1 | apply zk | apply zd | apply zi | refine zj ?_ qi.1) | exact HB.1), by repeat (first | (with_reducible first | exact HK.1 | apply zm | apply zl | apply zn | refine za ?_ (.inr qh.1) _) | exact HK.1)⟩
                ·
                 rw [if_neg c79] at H
                 exact absurd H (by simp)
               ·
                rw [if_neg c76] at H
                exact absurd H (by simp)
              ·
               rw [if_neg c75] at H
               exact absurd H (by simp)
             ·
              rw [if_neg c74] at H
              exact absurd H (by simp)
           ·
            rw [if_neg c67] at H
            exact absurd H (by simp)
          ·
           rw [if_neg c66] at H
           have c66b0 : decide (qe < (x7_2.length : Int)) = false := decide_eq_false c66
           clear c66
           by_cases c89 : 0 ≤ qe
           ·
            rw [if_pos c89] at H
            have c89b0 := eq_true c89
            have c89b1 : decide (0 ≤ qe) = true := decide_eq_true c89
            clear c89
            by_cases c90 : qe ≤ (x7_2.length : Int)
            ·
             rw [if_pos c90] at H
             have c90b0 := eq_true c90
             have c90b1 : decide (qe ≤ (x7_2.length : Int)) = true := decide_eq_true c90
             clear c90
             obtain ⟨y193, hy193⟩ : ∃ y_ : List (S45), y_ = (x7_2.take (qe : Int).toNat) := ⟨_, rfl⟩
             replace H : (if ([] : List (S45)).length + y193.length < 8796093022208 then ((some (([] : List (S45)) ++ y193 : List (S45))).bind fun y197 => (if y197.length < 8796093022208 then ((some (y197 ++ [(⟨a1_0, a1_1⟩ : S45)] : List (S45))).bind fun y200 => ((some (x7_2.drop (qe : Int).toNat : List (S45))).bind fun y203 => (if y200.length + y203.length < 8796093022208 then (some (y200 ++ y203)) else (none)))) else (none))) else (none)) = some r := by first | (rw [hy193]; with_reducible exact H) | (have H2_ := (Option.bind_some _ _).symm.trans H; rw [hy193]; with_reducible exact H2_) | (have H2_ := (Option.bind_some _ _).symm.trans H; with_reducible exact H2_) | with_reducible exact H | (rw [hy193]; exact H) | exact H
             have Ny193 := Aside0.mk hy193
             clear hy193
             by_cases c91 : ([] : List (S45)).length + y193.length < 8796093022208
             ·
              rw [if_pos c91] at H
              have LMc91 := Aside0.mk c91
              clear c91
              obtain ⟨y197, hy197⟩ : ∃ y_ : List (S45), y_ = (([] : List (S45)) ++ y193) := ⟨_, rfl⟩
              replace H : (if y197.length < 8796093022208 then ((some (y197 ++ [(⟨a1_0, a1_1⟩ : S45)] : List (S45))).bind fun y200 => ((some (x7_2.drop (qe : Int).toNat : List (S45))).bind fun y203 => (if y200.length + y203.length < 8796093022208 then (some (y200 ++ y203)) else (none)))) else (none)) = some r := by first | (rw [hy197]; with_reducible exact H) | (have H2_ := (Option.bind_some _ _).symm.trans H; rw [hy197]; with_reducible exact H2_) | (have H2_ := (Option.bind_some _ _).symm.trans H; with_reducible exact H2_) | with_reducible exact H | (rw [hy197]; exact H) | exact H
              have Ny197 := Aside0.mk hy197
              clear hy197
              by_cases c92 : y197.length < 8796093022208
              ·
               rw [if_pos c92] at H
               have LMc92 := Aside0.mk c92
               clear c92
               obtain ⟨y200, hy200⟩ : ∃ y_ : List (S45), y_ = (y197 ++ [(⟨a1_0, a1_1⟩ : S45)]) := ⟨_, rfl⟩
               replace H : ((some (x7_2.drop (qe : Int).toNat : List (S45))).bind fun y203 => (if y200.length + y203.length < 8796093022208 then (some (y200 ++ y203)) else (none))) = some r := by first | (rw [hy200]; with_reducible exact H) | (have H2_ := (Option.bind_some _ _).symm.trans H; rw [hy200]; with_reducible exact H2_) | (have H2_ := (Option.bind_some _ _).symm.trans H; with_reducible exact H2_) | with_reducible exact H | (rw [hy200]; exact H) | exact H
               have Ny200 := Aside0.mk hy200
               clear hy200
               have c93b0 := eq_true (of_decide_eq_true (by first | (with_reducible assumption) | assumption) : 0 ≤ qe)
               have c94b0 := eq_true (of_decide_eq_true (by first | (with_reducible assumption) | assumption) : qe ≤ (x7_2.length : Int))
               obtain ⟨y203, hy203⟩ : ∃ y_ : List (S45), y_ = (x7_2.drop (qe : Int).toNat) := ⟨_, rfl⟩
               replace H : (if y200.length + y203.length < 8796093022208 then (some (y200 ++ y203)) else (none)) = some r := by first | (rw [hy203]; with_reducible exact H) | (have H2_ := (Option.bind_some _ _).symm.trans H; rw [hy203]; with_reducible exact H2_) | (have H2_ := (Option.bind_some _ _).symm.trans H; with_reducible exact H2_) | with_reducible exact H | (rw [hy203]; exact H) | exact H
               have Ny203 := Aside0.mk hy203
               clear hy203
               by_cases c95 : y200.length + y203.length < 8796093022208
               ·
                rw [if_pos c95] at H
                have LMc95 := Aside0.mk c95
                clear c95
                obtain ⟨y207, hy207⟩ : ∃ y_ : List (S45), y_ = (y200 ++ y203) := ⟨_, rfl⟩
                replace H : (some y207) = some r := by first | (rw [hy207]; with_reducible exact H) | (have H2_ := (Option.bind_some _ _).symm.trans H; rw [hy207]; with_reducible exact H2_) | (have H2_ := (Option.bind_some _ _).symm.trans H; with_reducible exact H2_) | with_reducible exact H | (rw [hy207]; exact H) | exact H
                have Ny207 := Aside0.mk hy207
                clear hy207
                obtain rfl := Option.some.inj H
                try go_wp2
                have n0_ := Aside0.mk (ze HO_7.1)
                have n1_ := Aside0.mk (zh qc.1)
                have n2_ := Aside0.mk (zn HK.1)
                have n3_ := Aside0.mk (zi HB.1)
                clear HO_7
                clear qc
                clear HK
                clear HB
                have HO_7 := n0_
                have qc := n1_
                have HK := n2_
                have HB := n3_
                clear n0_ n1_ n2_ n3_
                obtain ⟨Ao97, co97, eo97⟩ := Kd.R_slice HO_7.1
                (first | subst eo97 | (injection eo97 with f1_ f2_ f3_; have f4_ := f1_.symm; have f5_ := f3_.symm; clear f1_ f2_ f3_; subst f4_; subst f5_))
                refine start_ (n := 13) (S := fun w' => True) (ds := []) #[false, false, false, false, false, false, false, false, false, false, false, false, false] (by kernel_rfl) rfl rfl trivial (fun hHeld => ?_); refine with_tabW spec_l3Put.tab20 spec_l3Put.bits20 (fun HT_ HW_ => ?_)
                generalize wr.drew = w96 at HO_7 qc HK HB hHeld ⊢
                refine zx (i := 0) (N := some 52) (v := ?_) (a' := ?_) #[true, false, false, false, false, false, false, false, false, false, false, false, false] rfl rfl (zt HT_.1 (by kernel_rfl)) (fun _ _ _ h => h) (Or.inl ⟨by rfl, ?_⟩) ?_ ?_
                rotate_left
                ·
                 intro w'
                 go_simp
                 with_reducible rfl
                rotate_left
                ·
                 simp only [Act.put, List.setIfInBounds_toArray, List.set_cons_zero, List.set_cons_succ, zu, zv]
                 rfl
                refine zx (i := 1) (N := some 53) (v := ?_) (a' := ?_) #[true, true, false, false, false, false, false, false, false, false, false, false, false] rfl rfl (zt HT_.1 (by kernel_rfl)) (fun _ _ _ h => h) (Or.inl ⟨by rfl, ?_⟩) ?_ ?_
                rotate_left
                ·
                 intro w'
                 go_simp
                 with_reducible rfl
                rotate_left
                ·
                 simp only [Act.put, List.setIfInBounds_toArray, List.set_cons_zero, List.set_cons_succ, zu, zv]
                 rfl
                refine zx (i := 2) (N := some 54) (v := ?_) (a' := ?_) #[true, true, true, false, false, false, false, false, false, false, false, false, false] rfl rfl (zt HT_.1 (by kernel_rfl)) (fun _ _ _ h => h) (Or.inl ⟨by rfl, ?_⟩) ?_ ?_
                rotate_left
                ·
                 intro w'
                 go_simp
                 with_reducible rfl
                rotate_left
                ·
                 simp only [Act.put, List.setIfInBounds_toArray, List.set_cons_zero, List.set_cons_succ, zu, zv]
                 rfl
                refine zx (i := 3) (N := some 55) (v := ?_) (a' := ?_) #[true, true, true, true, false, false, false, false, false, false, false, false, false] rfl rfl (zt HT_.1 (by kernel_rfl)) (fun _ _ _ h => h) (Or.inl ⟨by rfl, ?_⟩) ?_ ?_
                rotate_left
                ·
                 intro w'
                 go_simp
                 with_reducible rfl
                rotate_left
                ·
                 simp only [Act.put, List.setIfInBounds_toArray, List.set_cons_zero, List.set_cons_succ, zu, zv]
                 rfl
                refine zx (i := 4) (N := some 56) (v := ?_) (a' := ?_) #[true, true, true, true, true, false, false, false, false, false, false, false, false] rfl rfl (zt HT_.1 (by kernel_rfl)) (fun _ _ _ h => h) (Or.inl ⟨by rfl, ?_⟩) ?_ ?_
                rotate_left
                ·
                 intro w'
                 go_simp
                 with_reducible rfl
                rotate_left
                ·
                 simp only [Act.put, List.setIfInBounds_toArray, List.set_cons_zero, List.set_cons_succ, zu, zv]
                 rfl
                refine zx (i := 5) (N := some 57) (v := undef) (a' := ?_) #[true, true, true, true, true, true, false, false, false, false, false, false, false] rfl rfl (zt HT_.1 (by kernel_rfl)) (fun _ _ _ h => h) (Or.inr ⟨by rfl, rfl⟩) ?_ ?_
                rotate_left
                ·
                 simp only [Act.put, List.setIfInBounds_toArray, List.set_cons_zero, List.set_cons_succ, zu, zv]
                 rfl
                refine zx (i := 6) (N := some 58) (v := undef) (a' := ?_) #[true, true, true, true, true, true, true, false, false, false, false, false, false] rfl rfl (zt HT_.1 (by kernel_rfl)) (fun _ _ _ h => h) (Or.inr ⟨by rfl, rfl⟩) ?_ ?_
                rotate_left
                ·
                 simp only [Act.put, List.setIfInBounds_toArray, List.set_cons_zero, List.set_cons_succ, zu, zv]
                 rfl
                refine zx (i := 7) (N := some 59) (v := undef) (a' := ?_) #[true, true, true, true, true, true, true, true, false, false, false, false, false] rfl rfl (zt HT_.1 (by kernel_rfl)) (fun _ _ _ h => h) (Or.inr ⟨by rfl, rfl⟩) ?_ ?_
                rotate_left
                ·
                 simp only [Act.put, List.setIfInBounds_toArray, List.set_cons_zero, List.set_cons_succ, zu, zv]
                 rfl
                refine zx (i := 8) (N := some 60) (v := undef) (a' := ?_) #[true, true, true, true, true, true, true, true, true, false, false, false, false] rfl rfl (zt HT_.1 (by kernel_rfl)) (fun _ _ _ h => h) (Or.inr ⟨by rfl, rfl⟩) ?_ ?_
                rotate_left
                ·
                 simp only [Act.put, List.setIfInBounds_toArray, List.set_cons_zero, List.set_cons_succ, zu, zv]
                 rfl
                refine zx (i := 9) (N := some 61) (v := undef) (a' := ?_) #[true, true, true, true, true, true, true, true, true, true, false, false, false] rfl rfl (zt HT_.1 (by kernel_rfl)) (fun _ _ _ h => h) (Or.inr ⟨by rfl, rfl⟩) ?_ ?_
                rotate_left
                ·
                 simp only [Act.put, List.setIfInBounds_toArray, List.set_cons_zero, List.set_cons_succ, zu, zv]
                 rfl
                refine zx (i := 10) (N := some 62) (v := undef) (a' := ?_) #[true, true, true, true, true, true, true, true, true, true, true, false, false] rfl rfl (zt HT_.1 (by kernel_rfl)) (fun _ _ _ h => h) (Or.inr ⟨by rfl, rfl⟩) ?_ ?_
                rotate_left
                ·
                 simp only [Act.put, List.setIfInBounds_toArray, List.set_cons_zero, List.set_cons_succ, zu, zv]
                 rfl
                refine zx (i := 11) (N := some 63) (v := undef) (a' := ?_) #[true, true, true, true, true, true, true, true, true, true, true, true, false] rfl rfl (zt HT_.1 (by kernel_rfl)) (fun _ _ _ h => h) (Or.inr ⟨by rfl, rfl⟩) ?_ ?_
                rotate_left
                ·
                 simp only [Act.put, List.setIfInBounds_toArray, List.set_cons_zero, List.set_cons_succ, zu, zv]
                 rfl
                refine zx (i := 12) (N := some 64) (v := ?_) (a' := ?_) #[true, true, true, true, true, true, true, true, true, true, true, true, true] rfl rfl (zt HT_.1 (by kernel_rfl)) (fun _ _ _ h => h) (Or.inl ⟨by rfl, ?_⟩) ?_ ?_
                rotate_left
                ·
                 intro w'
                 go_simp
                 with_reducible rfl
                rotate_left
                ·
                 simp only [Act.put, List.setIfInBounds_toArray, List.set_cons_zero, List.set_cons_succ, zu, zv]
                 rfl
                refine done_ (done_of HT_.1 (by kernel_rfl)) ?_
                have q98 : (qe : Int) ≤ ((x7_2.length : Int) : Int) := of_decide_eq_true (by first | (with_reducible assumption) | assumption)
                obtain ⟨i098, hi098, _, hsz98, _⟩ := info_parts info45
                have hroom98 : x7_2.length ≤ co97 := (zs HO_7.1).2.1
                have hC98 : Kd.C k45 _ Ao97 x7_2.length x7_2 := (zs HO_7.1).2.2
                have hcut98 := cut_to (P := Try.prog) 25 45 .i64 Try.underlying25 hi098 Ao97 x7_2.length co97 qe (of_decide_eq_true (by first | (with_reducible assumption) | assumption)) q98 hroom98
                have hr98 := zR (m := (qe : Int).toNat) hC98 (by omega)
                have hy98 : y193.length = (qe : Int).toNat := (by rw [Ny193.1, List.length_take]; omega)
                rw [← Ny193.1] at hr98
                rw [← hy98] at hcut98
                have qu := Aside0.mk hr98
                have HC196 := Aside0.mk (show y193.length ≤ co97 from by omega)
                clear hr98 hC98 hroom98 hi098 hsz98
                have KY98 := Aside0.mk hy98
                clear hy98
                have KL98 := Aside0.mk (show (qe : Int).toNat ≤ x7_2.length from by omega)
                replace q98 := eq_true q98
                try go_wp2_with (first | ((with_reducible refine zF (b := .append) (xs := #[.tmp 67, .tmp 70]) rfl ?_); at_builtin; refine Kd.R_append_rows k45 (w0 := w0) w0.heap.size rfl (.tmp 67) (.tmp 70) 25 45 (.agg #[(.int .i64 0), (.int .i64 0)]) 16 rfl Try.underlying25 info45 rfl (by decide) (by omega) (.slice none 0 0) ([] : List (S45)) y193 _ _ _ (fun k_ => (P0_ k_ ∨ w.heap.size ≤ k_) ∧ some k_ ≠ (.slice Ao97 x7_2.length co97 : Value).ownBlock ∧ k_ ≠ gb154) (fun _ => False) rfl rfl ?aO ?aR (fun _ _ h => h) (fun _ h => h.elim) ?aF ?aB ?aS ?aL ?_; (case aR => repeat (first | exact (by repeat (first | (with_reducible exact qu.1) | (with_reducible refine zN ?_ _) | (with_reducible refine zM ?_ _) | (with_reducible refine zS ?_) | exact qu.1)) | (with_reducible refine zN ?_ _) | (with_reducible refine zM ?_ _) | (with_reducible refine zS ?_))); (case aB => exact (by repeat (first | (with_reducible first | exact HB.1 | apply zk | apply zd | apply zi | refine zj ?_ qi.1) | exact HB.1))); (case aF => exact (fun k_ hk => ⟨(.inr (Nat.le_trans (by first | exact HK.1.1 | exact (show Kept w _ (fun k_ => P0_ k_) from by repeat (first | (with_reducible first | exact HK.1 | apply zm | apply zl | apply zn | refine za ?_ (.inr qh.1) _) | exact HK.1)).1) hk)), zO (zX (by (with_reducible repeat (first | apply zc | apply zb | apply ze)); exact HO_7.1)) k_ hk, zH (g := gb154) (o := .cells #[.int .i64 a1_0, .int .i64 a1_1] 45 (0, 0)) (by (with_reducible repeat (first | refine zf ?_ _ | refine zh ?_ | refine zg ?_ _)); exact qc.1) k_ hk⟩)); (case aO => exact ((Kd.R_nil _ _ _ _ (fun k_ => (P0_ k_ ∨ w.heap.size ≤ k_) ∧ some k_ ≠ (.slice Ao97 x7_2.length co97 : Value).ownBlock ∧ k_ ≠ gb154)))); (case aS => exact (zC (by repeat (first | (with_reducible first | exact HB.1 | apply zk | apply zd | apply zi | refine zj ?_ qi.1) | exact HB.1)))); (case aL => have := LMc91.1; omega); intro v198 w99 ho hb hg hat; rw [← Ny197.1] at ho; have n0_ := Aside0.mk (zB (Kd.R_apart_nil (by (with_reducible repeat (first | apply zc | apply zb | apply ze)); exact HO_7.1)) hg hat); have n1_ := Aside0.mk (zJ (g := gb154) (o := .cells #[.int .i64 a1_0, .int .i64 a1_1] 45 (0, 0)) (by (with_reducible repeat (first | refine zf ?_ _ | refine zh ?_ | refine zg ?_ _)); exact qc.1) hg (by simp [Value.ownBlock])); have n2_ := Aside0.mk (hb); have n3_ := Aside0.mk (zE (S := (fun k_ => P0_ k_)) hg (by repeat (first | (with_reducible first | exact HK.1 | apply zm | apply zl | apply zn | refine za ?_ (.inr qh.1) _) | exact HK.1)) (fun k_ e_ => by simp [Value.ownBlock] at e_)); have n4_ := Aside0.mk ((show Kd.C k45 w99 Ao97 y193.length y193 from by rw [Ny193.1]; exact zR (m := (qe : Int).toNat) ((zs (zB (Kd.R_apart_nil (by (with_reducible repeat (first | apply zc | apply zb | apply ze)); exact HO_7.1)) hg hat)).2.2) KL98.1)); have n5_ := Aside0.mk (ho); clear HO_7; clear qc; clear HB; clear HK; clear qu; have HO_7 := n0_; have qc := n1_; have HB := n2_; have HK := n3_; have qu := n4_; have HO199 := n5_; clear n0_ n1_ n2_ n3_ n4_ n5_; clear ho hb hg hat; have hcz100_0 : w99.cell? ⟨gb154, 0, none⟩ = some (.int .i64 a1_0) := (zo qc.1 0).trans rfl; have hcz100_1 : w99.cell? ⟨gb154, 1, none⟩ = some (.int .i64 a1_1) := (zo qc.1 1).trans rfl; have hfz100_0 := zq qc.1 0; have hfz100_1 := zq qc.1 1) | ((with_reducible refine zF (b := .append) (xs := #[.tmp 72, .tmp 74]) rfl ?_); at_builtin; refine Kd.R_append k45 (w0 := w0) w0.heap.size rfl (.tmp 72) (.tmp 74) 25 45 (.agg #[(.int .i64 0), (.int .i64 0)]) 16 rfl Try.underlying25 info45 rfl (by decide) (by omega) v198 y197 (⟨a1_0, a1_1⟩ : S45) [.int .i64 a1_0, .int .i64 a1_1] (fun k_ => (P0_ k_ ∨ w.heap.size ≤ k_) ∧ some k_ ≠ (.slice Ao97 x7_2.length co97 : Value).ownBlock ∧ k_ ≠ gb154) (fun _ => False) rfl rfl ?aP (fun _ hk => hk.elim) ?aF ?aO ?aB ?aS ?aL ?_; (case aP => exact k45_mkM _ _ _ (⟨a1_0, a1_1⟩ : S45)); (case aB => exact (by repeat (first | (with_reducible first | exact HB.1 | apply zk | apply zd | apply zi | refine zj ?_ qi.1) | exact HB.1))); (case aF => exact (fun k_ hk => ⟨(.inr (Nat.le_trans (by first | exact HK.1.1 | exact (show Kept w _ (fun k_ => P0_ k_) from by repeat (first | (with_reducible first | exact HK.1 | apply zm | apply zl | apply zn | refine za ?_ (.inr qh.1) _) | exact HK.1)).1) hk)), zO (zX (by (with_reducible repeat (first | apply zc | apply zb | apply ze)); exact HO_7.1)) k_ hk, zH (g := gb154) (o := .cells #[.int .i64 a1_0, .int .i64 a1_1] 45 (0, 0)) (by (with_reducible repeat (first | refine zf ?_ _ | refine zh ?_ | refine zg ?_ _)); exact qc.1) k_ hk⟩)); (case aO => exact (by (with_reducible repeat (first | apply zc | apply zb | apply ze)); exact HO199.1)); (case aS => exact (zC (by repeat (first | (with_reducible first | exact HB.1 | apply zk | apply zd | apply zi | refine zj ?_ qi.1) | exact HB.1)))); (case aL => have := LMc92.1; omega); intro v201 w101 ho hb hg hat; rw [← Ny200.1] at ho; have n0_ := Aside0.mk (zB (ok := (fun k_ => (P0_ k_ ∨ w.heap.size ≤ k_) ∧ k_ ≠ gb154)) (by (with_reducible repeat (first | apply zc | apply zb | apply ze)); exact HO_7.1) hg hat); have n1_ := Aside0.mk (zJ (g := gb154) (o := .cells #[.int .i64 a1_0, .int .i64 a1_1] 45 (0, 0)) (by (with_reducible repeat (first | refine zf ?_ _ | refine zh ?_ | refine zg ?_ _)); exact qc.1) hg (zK HO199.1 (fun _ hk => hk.2.2))); have n2_ := Aside0.mk (hb); have n3_ := Aside0.mk (zE (S := (fun k_ => P0_ k_)) hg (by repeat (first | (with_reducible first | exact HK.1 | apply zm | apply zl | apply zn | refine za ?_ (.inr qh.1) _) | exact HK.1)) (fun k_ e_ => (HO199.1.1 k_ e_).1)); have n4_ := Aside0.mk ((show Kd.C k45 w101 Ao97 y193.length y193 from by rw [Ny193.1]; exact zR (m := (qe : Int).toNat) ((zs (zB (ok := (fun k_ => (P0_ k_ ∨ w.heap.size ≤ k_) ∧ k_ ≠ gb154)) (by (with_reducible repeat (first | apply zc | apply zb | apply ze)); exact HO_7.1) hg hat)).2.2) KL98.1)); have n5_ := Aside0.mk (ho); clear HO_7; clear qc; clear HB; clear HK; clear qu; clear HO199; have HO_7 := n0_; have qc := n1_; have HB := n2_; have HK := n3_; have qu := n4_; have HO202 := n5_; clear n0_ n1_ n2_ n3_ n4_ n5_; clear ho hb hg hat; have q102 : (qe : Int) ≤ ((x7_2.length : Int) : Int) := of_decide_eq_true (by first | (with_reducible assumption) | assumption); obtain ⟨i0102, hi0102, _, hsz102, _⟩ := info_parts info45; have hroom102 : x7_2.length ≤ co97 := (zs HO_7.1).2.1; have hC102 : Kd.C k45 _ Ao97 x7_2.length x7_2 := (zs HO_7.1).2.2; have q0102 : (0 : Int) ≤ (qe : Int) := of_decide_eq_true (by first | (with_reducible assumption) | assumption); have hcut102 := cut_from (P := Try.prog) 25 45 .i64 Try.underlying25 hi0102 2 hsz102 Ao97 x7_2.length co97 qe q0102 q102; have hr102 := Kd.C_drop (m := (qe : Int).toNat) (c := co97) hC102 (by omega) hroom102; obtain ⟨A102, hA102⟩ : ∃ A1, A1 = (if co97 = (qe : Int).toNat then Ao97 else (Ao97 : Option Addr).map (·.add ((qe : Int).toNat * 2))) := ⟨_, rfl⟩; obtain ⟨c102, hc102⟩ : ∃ c1, c1 = co97 - (qe : Int).toNat := ⟨_, rfl⟩; have hy102 : y203.length = x7_2.length - (qe : Int).toNat := (by rw [Ny203.1, List.length_drop] <;> omega); rw [show (x7_2).drop (qe : Int).toNat = y203 from Ny203.1.symm] at hr102; replace hr102 : Kd.C k45 _ A102 y203.length y203 := (by rw [hA102]; exact hr102); rw [← hy102, ← hA102, ← hc102] at hcut102; have HR206 := Aside0.mk hr102; have HC206 := Aside0.mk (show y203.length ≤ c102 from by rw [hy102, hc102]; exact Nat.sub_le_sub_right hroom102 _); clear hr102 hC102 hroom102 hi0102 hsz102 hc102; have KY102 := Aside0.mk hy102; have KA102 := Aside0.mk hA102; clear hy102 hA102; have KL102 := Aside0.mk (show (qe : Int).toNat ≤ x7_2.length from by omega); replace q102 := eq_true q102) | ((with_reducible refine zF (b := .append) (xs := #[.tmp 76, .tmp 79]) rfl ?_); at_builtin; refine Kd.R_append_rows k45 (w0 := w0) w0.heap.size rfl (.tmp 76) (.tmp 79) 25 45 (.agg #[(.int .i64 0), (.int .i64 0)]) 16 rfl Try.underlying25 info45 rfl (by decide) (by omega) v201 y200 y203 _ _ _ (fun k_ => (P0_ k_ ∨ w.heap.size ≤ k_) ∧ some k_ ≠ (.slice Ao97 x7_2.length co97 : Value).ownBlock ∧ k_ ≠ gb154) (fun _ => False) rfl rfl ?aO ?aR (fun _ _ h => h) (fun _ h => h.elim) ?aF ?aB ?aS ?aL ?_; (case aR => repeat (first | exact (by repeat (first | (with_reducible exact HR206.1) | (with_reducible refine zN ?_ _) | (with_reducible refine zM ?_ _) | (with_reducible refine zS ?_) | exact HR206.1)) | (with_reducible refine zN ?_ _) | (with_reducible refine zM ?_ _) | (with_reducible refine zS ?_))); (case aB => exact (by repeat (first | (with_reducible first | exact HB.1 | apply zk | apply zd | apply zi | refine zj ?_ qi.1) | exact HB.1))); (case aF => exact (fun k_ hk => ⟨(.inr (Nat.le_trans (by first | exact HK.1.1 | exact (show Kept w _ (fun k_ => P0_ k_) from by repeat (first | (with_reducible first | exact HK.1 | apply zm | apply zl | apply zn | refine za ?_ (.inr qh.1) _) | exact HK.1)).1) hk)), zO (zX (by (with_reducible repeat (first | apply zc | apply zb | apply ze)); exact HO_7.1)) k_ hk, zH (g := gb154) (o := .cells #[.int .i64 a1_0, .int .i64 a1_1] 45 (0, 0)) (by (with_reducible repeat (first | refine zf ?_ _ | refine zh ?_ | refine zg ?_ _)); exact qc.1) k_ hk⟩)); (case aO => exact (by (with_reducible repeat (first | apply zc | apply zb | apply ze)); exact HO202.1)); (case aS => exact (zC (by repeat (first | (with_reducible first | exact HB.1 | apply zk | apply zd | apply zi | refine zj ?_ qi.1) | exact HB.1)))); (case aL => have := LMc95.1; omega); intro v208 w103 ho hb hg hat; rw [← Ny207.1] at ho; have n0_ := Aside0.mk (zB (ok := (fun k_ => (P0_ k_ ∨ w.heap.size ≤ k_) ∧ k_ ≠ gb154)) (by (with_reducible repeat (first | apply zc | apply zb | apply ze)); exact HO_7.1) hg hat); have n1_ := Aside0.mk (zJ (g := gb154) (o := .cells #[.int .i64 a1_0, .int .i64 a1_1] 45 (0, 0)) (by (with_reducible repeat (first | refine zf ?_ _ | refine zh ?_ | refine zg ?_ _)); exact qc.1) hg (zK HO202.1 (fun _ hk => hk.2.2))); have n2_ := Aside0.mk (hb); have n3_ := Aside0.mk (zE (S := (fun k_ => P0_ k_)) hg (by repeat (first | (with_reducible first | exact HK.1 | apply zm | apply zl | apply zn | refine za ?_ (.inr qh.1) _) | exact HK.1)) (fun k_ e_ => (HO202.1.1 k_ e_).1)); have n4_ := Aside0.mk ((show Kd.C k45 w103 Ao97 y193.length y193 from by rw [Ny193.1]; exact zR (m := (qe : Int).toNat) ((zs (zB (ok := (fun k_ => (P0_ k_ ∨ w.heap.size ≤ k_) ∧ k_ ≠ gb154)) (by (with_reducible repeat (first | apply zc | apply zb | apply ze)); exact HO_7.1) hg hat)).2.2) KL98.1)); have n5_ := Aside0.mk ((show Kd.C k45 w103 A102 y203.length y203 from by rw [Ny203.1, KA102.1]; exact Kd.C_drop (m := (qe : Int).toNat) (c := co97) ((zs (zB (ok := (fun k_ => (P0_ k_ ∨ w.heap.size ≤ k_) ∧ k_ ≠ gb154)) (by (with_reducible repeat (first | apply zc | apply zb | apply ze)); exact HO_7.1) hg hat)).2.2) KL102.1 ((zs (zB (ok := (fun k_ => (P0_ k_ ∨ w.heap.size ≤ k_) ∧ k_ ≠ gb154)) (by (with_reducible repeat (first | apply zc | apply zb | apply ze)); exact HO_7.1) hg hat)).2.1))); have n6_ := Aside0.mk (ho); clear HO_7; clear qc; clear HB; clear HK; clear qu; clear HR206; clear HO202; have HO_7 := n0_; have qc := n1_; have HB := n2_; have HK := n3_; have qu := n4_; have HR206 := n5_; have HO209 := n6_; clear n0_ n1_ n2_ n3_ n4_ n5_ n6_; clear ho hb hg hat))
                go_ret
                exact ⟨_, by first | rfl | (simp [errW_none, errW_some] <;> rfl) | (simp [*, errW_none, errW_some] <;> rfl), by (with_reducible repeat (first | apply zc | apply zb | apply ze)); exact zp HO209.1 (fun _ hk => hk.1), by repeat (first | (with_reducible first | exact HB.1 | apply zk | apply zd | apply zi | refine zj ?_ qi.1) | exact HB.1), by repeat (first | (with_reducible first | exact HK.1 | apply zm | apply zl | apply zn | refine za ?_ (.inr qh.1) _) | exact HK.1)⟩
               ·
                rw [if_neg c95] at H
                exact absurd H (by simp)
              ·
               rw [if_neg c92] at H
               exact absurd H (by simp)
             ·
              rw [if_neg c91] at H
              exact absurd H (by simp)
            ·
             rw [if_neg c90] at H
             exact absurd H (by simp)
           ·
            rw [if_neg c89] at H
            exact absurd H (by simp)

end Go.Proofs.Ytabejlfejlpkeaa.PFnExactCutPrefix
