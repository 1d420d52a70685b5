/- Written by this session's own program over the kit's print: Lean functions that tell what Go functions answer, each with a proof that the call does so. No condition but what each statement says. -/
import Derived.Test.YtabejlfejlpkeaaYFnExactCutPrefixx0
import Derived.Test.YtabejlfejlpkeaaYFnExactCutPrefixx7
namespace Go.Proofs.Ytabejlfejlpkeaa.PFnExactCutPrefix
open Go.RowKit Go.Proofs.YtabejlfejlpkeaaW.PrintWords Go.Proofs.YtabejlfejlpkeaaW.PrintLast Go.Proofs.YtabejlfejlpkeaaW.PrintMore
open Go.Proofs.YtabejlfejlpkeaaW.PrintLast renaming i64_w → zn, i32_w → zo, any_of → zq, pure_ → zx, take_ofW → zy, take_ → zz
open Go.Proofs.YtabejlfejlpkeaaW.PrintWords renaming pw_below_drewN → za, blk_cell → zb, blk_drewN → zc, blk_drew → zd, blk_alloc → ze, below_drew1 → zf, below_alloc → zg, below_set → zh, blk_frozen → zl, blk_below → zm, below_step → zp, Aside0 → zt
open Go.Proofs.YtabejlfejlpkeaaW.PrintWords.Kd renaming R_drew → zi, R_drewN → zj, R_alloc → zk, R_below → zu, R_mono → zw
open Go.Proofs.YtabejlfejlpkeaaW.PrintWords.LeO renaming none → zr, bind → zs, ite → zv
attribute [local go_sem] max2_int min2_int max_two min_two max_three min_three max_four min_four   -- for this text's walks alone
set_option linter.unusedVariables false
set_option linter.unusedSimpArgs false

/-! ### impl_prefixesIn: function 60 -/
mutual
def impl_prefixesIn.l0 : Nat → List (S45) → List (S74) → Int → Int → Option ((List (S45)))
 | 0, _, _, _, _ => none
 | k + 1, x3, x9, x10, x11 => if x11 < x10 then (if 0 ≤ x11 then (if x11 < (x9.length : Int) then (impl_prefixesIn.l1 k x3 ((rd_T74 x9 x11).f0) x9 x10 x11 ((rd_T74 x9 x11).f0) ((rd_T74 x9 x11).f1)) else (none)) else (none)) else (some x3)
def impl_prefixesIn.l1 : Nat → List (S45) → Int → List (S74) → Int → Int → Int → Int → Option ((List (S45)))
 | 0, _, _, _, _, _, _, _ => none
 | k + 1, x3, x6, x9, x10, x11, zK, zG => if x6 ≤ zG then (impl_prefixesIn.l2 k x3 x9 x10 x11 zK zG x6 0) else (impl_prefixesIn.l0 k x3 x9 x10 (wrap64 (x11 + 1)))
def impl_prefixesIn.l2 : Nat → List (S45) → List (S74) → Int → Int → Int → Int → Int → Int → Option ((List (S45)))
 | 0, _, _, _, _, _, _, _, _ => none
 | k + 1, x3, x9, x10, x11, zK, zG, zI, zJ => (impl_GoodPrefix.f zI zJ).bind fun t272 => (if t272 = true then ((impl_Prefix_end.f zI zJ).bind fun t273 => (if t273 > zG then (impl_prefixesIn.l2 k x3 x9 x10 x11 zK zG zI (wrap64 (zJ + 1))) else (if x3.length < 8796093022208 then ((impl_Prefix_end.f zI zJ).bind fun t277 => (impl_prefixesIn.l1 k (x3 ++ [(⟨zI, zJ⟩ : S45)]) (wrap64 (t277 + 1)) x9 x10 x11 zK zG)) else (none)))) else (impl_prefixesIn.l2 k x3 x9 x10 x11 zK zG zI (wrap64 (zJ + 1))))
end
def impl_prefixesIn.f (k : Nat) (l0 : List (S74)) : Option ((List (S45))) := impl_prefixesIn.l0 k (([] : List (S45))) l0 (l0.length : Int) 0
theorem impl_prefixesIn.mono_l : ∀ k, (∀ y0 y1 y2 y3, LeO (impl_prefixesIn.l0 k y0 y1 y2 y3) (impl_prefixesIn.l0 (k + 1) y0 y1 y2 y3)) ∧ (∀ y0 y1 y2 y3 y4 y5 y6, LeO (impl_prefixesIn.l1 k y0 y1 y2 y3 y4 y5 y6) (impl_prefixesIn.l1 (k + 1) y0 y1 y2 y3 y4 y5 y6)) ∧ (∀ y0 y1 y2 y3 y4 y5 y6 y7, LeO (impl_prefixesIn.l2 k y0 y1 y2 y3 y4 y5 y6 y7) (impl_prefixesIn.l2 (k + 1) y0 y1 y2 y3 y4 y5 y6 y7))
 | 0 => ⟨fun _ _ _ _ r h => by simp [impl_prefixesIn.l0] at h, fun _ _ _ _ _ _ _ r h => by simp [impl_prefixesIn.l1] at h, fun _ _ _ _ _ _ _ _ r h => by simp [impl_prefixesIn.l2] at h⟩
 | k + 1 => by
  obtain ⟨ih0, ih1, ih2⟩ := impl_prefixesIn.mono_l k
  refine ⟨?_, ?_, ?_⟩
  ·
   intro y0 y1 y2 y3
   unfold impl_prefixesIn.l0
   repeat' first
   | (with_reducible exact ih0 _ _ _ _)
   | (with_reducible exact ih1 _ _ _ _ _ _ _)
   | (with_reducible exact ih2 _ _ _ _ _ _ _ _)
   | (with_reducible exact LeO.refl _)
   | (with_reducible exact zr _)
   | (with_reducible refine zv ?_ ?_)
   | (with_reducible refine zs ?_ (fun _ => ?_))
   | exact ih0 _ _ _ _
   | exact ih1 _ _ _ _ _ _ _
   | exact ih2 _ _ _ _ _ _ _ _
   | exact zr _
   | refine zv ?_ ?_
   | refine zs ?_ (fun _ => ?_)
  ·
   intro y0 y1 y2 y3 y4 y5 y6
   unfold impl_prefixesIn.l1
   repeat' first
   | (with_reducible exact ih0 _ _ _ _)
   | (with_reducible exact ih1 _ _ _ _ _ _ _)
   | (with_reducible exact ih2 _ _ _ _ _ _ _ _)
   | (with_reducible exact LeO.refl _)
   | (with_reducible exact zr _)
   | (with_reducible refine zv ?_ ?_)
   | (with_reducible refine zs ?_ (fun _ => ?_))
   | exact ih0 _ _ _ _
   | exact ih1 _ _ _ _ _ _ _
   | exact ih2 _ _ _ _ _ _ _ _
   | exact zr _
   | refine zv ?_ ?_
   | refine zs ?_ (fun _ => ?_)
  ·
   intro y0 y1 y2 y3 y4 y5 y6 y7
   unfold impl_prefixesIn.l2
   repeat' first
   | (with_reducible exact ih0 _ _ _ _)
   | (with_reducible exact ih1 _ _ _ _ _ _ _)
   | (with_reducible exact ih2 _ _ _ _ _ _ _ _)
   | (with_reducible exact LeO.refl _)
   | (with_reducible exact zr _)
   | (with_reducible refine zv ?_ ?_)
   | (with_reducible refine zs ?_ (fun _ => ?_))
   | exact ih0 _ _ _ _
   | exact ih1 _ _ _ _ _ _ _
   | exact ih2 _ _ _ _ _ _ _ _
   | exact zr _
   | refine zv ?_ ?_
   | refine zs ?_ (fun _ => ?_)
theorem impl_prefixesIn.mono : ∀ a0 k, LeO (impl_prefixesIn.f k a0) (impl_prefixesIn.f (k + 1) a0) := by
 intro a0 k
 obtain ⟨ih0, ih1, ih2⟩ := impl_prefixesIn.mono_l k
 unfold impl_prefixesIn.f
 repeat' first
   | (with_reducible exact ih0 _ _ _ _)
   | (with_reducible exact ih1 _ _ _ _ _ _ _)
   | (with_reducible exact ih2 _ _ _ _ _ _ _ _)
   | (with_reducible exact LeO.refl _)
   | (with_reducible exact zr _)
   | (with_reducible refine zv ?_ ?_)
   | (with_reducible refine zs ?_ (fun _ => ?_))
   | exact ih0 _ _ _ _
   | exact ih1 _ _ _ _ _ _ _
   | exact ih2 _ _ _ _ _ _ _ _
   | exact zr _
   | refine zv ?_ ?_
   | refine zs ?_ (fun _ => ?_)
def impl_prefixesIn.T8 : Bool × List (List Nat × List Nat) := (true, [([], []), ([0], [0]), ([1], [1]), ([2, 1], [2]), ([3], [3]), ([4, 3, 3], [3, 4]), ([3], [3]), ([6, 3], [3, 6]), ([5, 7, 3], [3, 5, 7]), ([3, 8], [3, 8])])
def impl_prefixesIn.B8 : List Nat := [0, 1, 3, 7, 15, 31, 15, 79, 255, 511]
theorem impl_prefixesIn.tab8 : rtab .any (opsOf Try.f60 8) = impl_prefixesIn.T8 := by kernel_rfl
theorem impl_prefixesIn.bits8 : waitsOk impl_prefixesIn.T8.2 impl_prefixesIn.B8 = true := by kernel_rfl
set_option maxHeartbeats 8000000 in
set_option maxRecDepth 100000 in
theorem impl_prefixesIn.calls (k : Nat) (A0 : Option Addr) (c0 : Nat) (l0 : List (S74)) (r : List (S45)) (w : World) (hr0 : Kd.C k74 w A0 l0.length l0) (hc0 : l0.length ≤ c0) (h : impl_prefixesIn.f k l0 = some r) :
  Calls Try.prog 60 #[.slice A0 l0.length c0] w fun e w' => ∃ v0_ : Value, e = .returned (v0_) ∧ Kd.R k45 45 w' w.heap.size (fun _ => True) v0_ r ∧ Below w.heap.size w w' := by
 have hu74 := Try.underlying74
 have hu45 := Try.underlying45
 have HR0 := Aside0.mk hr0
 have HC0 := Aside0.mk hc0
 clear hr0 hc0
 have HB := Aside0.mk (Below.refl w.heap.size w)
 have H : (impl_prefixesIn.l0 k (([] : List (S45))) l0 (l0.length : Int) 0) = some r := h
 clear h
 obtain ⟨y266, hy266⟩ : ∃ y_ : List (S45), y_ = (([] : List (S45))) := ⟨_, rfl⟩
 replace H : (impl_prefixesIn.l0 k y266 l0 (l0.length : Int) 0) = some r := by first | (rw [hy266]; with_reducible exact H) | (have H2_ := (Option.bind_some _ _).symm.trans H; rw [hy266]; with_reducible exact H2_) | (have H2_ := (Option.bind_some _ _).symm.trans H; with_reducible exact H2_) | with_reducible exact H | (rw [hy266]; exact H) | exact H
 have Ny266 := Aside0.mk hy266
 clear hy266
 have H' := Aside0.mk H
 clear H
 go_enter Try.func60, Try.ntmps60
 go_wp2_with (first | ((with_reducible refine gate_dst (N := 8) rfl ?_); refine Kd.R_lit k45 _ 45 ?hg (N := 8) ?hd (xs := ([] : List (S45))) (inner := []) (ok := fun _ => True) (okp := fun _ => True) ?hr ?hp (fun _ hk => hk) trivial (Below.refl _ _) (Nat.le_refl _) (by simp) ?_; (case hd => rfl); (case hg => rfl); (case hr => first | (go_simp; done) | (go_simp; rfl)); (case hp => exact (Reps.none _ _)); intro v267 w2 ho3 hb hg_ hnew_; clear hg_ hnew_; (first | rw [← Ny266.1] at ho3 | (simp only [Int.reduceToNat] at ho3; rw [← Ny266.1] at ho3)); have n0_ := Aside0.mk (Kd.R_lower ho3 (below_size (by repeat (first | (with_reducible first | exact HB.1 | apply zg | apply za | apply zf) | exact HB.1)))); have n1_ := Aside0.mk (zp (by repeat (first | (with_reducible first | exact HB.1 | apply zg | apply za | apply zf) | exact HB.1)) hb); clear HB; have HO268 := n0_; have HB := n1_; clear n0_ n1_; clear hb ho3))
 go_loopg [3, 11] k (fun kq v3 v11 w' => ∃ (x3_1 : List (S45)) (zB : Int), v11 = .int .i64 zB ∧ zt (impl_prefixesIn.l0 kq x3_1 l0 (l0.length : Int) zB = some r) ∧ zt (kq ≤ k) ∧ zt (Kd.R k45 45 w' w.heap.size (fun _ => True) v3 x3_1) ∧ zt (Below w.heap.size w w'))
 case atStart => exact ⟨(y266), (0), (by first | rfl | (simp; done) | (simp [*]; done)), H', ⟨Nat.le_refl _⟩, ⟨by (with_reducible repeat (first | apply zk | apply zj | apply zi)); exact HO268.1⟩, ⟨by repeat (first | (with_reducible first | exact HB.1 | apply zg | apply za | apply zf) | exact HB.1)⟩⟩
 case round =>
  clear H'
  (try clear p2)
  obtain ⟨x3_1, zB, rfl, HA, HK1, HO_3, HB⟩ := hrel
  cases gk with
  | zero => exact absurd HA.1 (by simp [impl_prefixesIn.l0])
  | succ k1 =>
   have H := HA.1
   clear HA
   simp only [impl_prefixesIn.l0] at H
   by_cases c4 : zB < (l0.length : Int)
   ·
    rw [if_pos c4] at H
    have c4b0 : decide (zB < (l0.length : Int)) = true := decide_eq_true c4
    clear c4
    by_cases c5 : 0 ≤ zB
    ·
     rw [if_pos c5] at H
     have c5b0 : decide (0 ≤ zB) = true := decide_eq_true c5
     clear c5
     by_cases c6 : zB < (l0.length : Int)
     ·
      rw [if_pos c6] at H
      have c6b0 : decide (zB < (l0.length : Int)) = true := decide_eq_true c6
      clear c6
      have H' := Aside0.mk H
      clear H
      have p269 : 0 ≤ (zB : Int) := of_decide_eq_true (by first | (with_reducible assumption) | assumption)
      have q269 : zB < (l0.length : Int) := of_decide_eq_true (by first | (with_reducible assumption) | assumption)
      obtain ⟨ad269, e269, hx269_0, hx269_1⟩ := at_T74 HR0.1 zB p269 q269
      cases e269
      replace hx269_0 := (HB.1.cell (World.block_lt_of_cell? w _ hx269_0)).trans hx269_0
      replace hx269_1 := (HB.1.cell (World.block_lt_of_cell? w _ hx269_1)).trans hx269_1
      replace p269 := eq_true p269
      replace q269 := eq_true q269
      go_wp2_with (first | ((with_reducible refine gate_dst (N := 5) rfl ?_); refine box_event ?hg (N := 5) ?hd (cs := #[.int .i64 0, .int .i64 0]) (t := 74) ?hr ?_; (case hd => rfl); (case hg => rfl); (case hr => first | (go_simp; done) | (go_simp; rfl)); intro gb270 hg w7 hbox hb; have n0_ := Aside0.mk (zu (by (with_reducible repeat (first | apply zk | apply zj | apply zi)); exact HO_3.1) hb); have n1_ := Aside0.mk (zp (by repeat (first | (with_reducible first | exact HB.1 | apply zg | apply za | apply zf) | exact HB.1)) hb); have n2_ := Aside0.mk (hbox); have n3_ := Aside0.mk ((by rw [hg]; exact (below_size (by repeat (first | (with_reducible first | exact HB.1 | apply zg | apply za | apply zf) | exact HB.1))) : w.heap.size ≤ gb270)); have n4_ := Aside0.mk ((by rw [hg]; exact (below_size (by repeat (first | (with_reducible first | exact HB.1 | apply zg | apply za | apply zf) | exact HB.1))) : w.heap.size ≤ gb270)); clear HO_3; clear HB; have HO_3 := n0_; have HB := n1_; have zD := n2_; have GW270 := n3_; have zF := n4_; clear n0_ n1_ n2_ n3_ n4_; clear hb hbox hg; have hcz8_0 : w7.cell? ⟨gb270, 0, none⟩ = some (.int .i64 0) := (zb zD.1 0).trans rfl; have hcz8_1 : w7.cell? ⟨gb270, 1, none⟩ = some (.int .i64 0) := (zb zD.1 1).trans rfl; have hfz8_0 := zl zD.1 0; have hfz8_1 := zl zD.1 1))
      go_loopg [3, 6] k1 (fun kq v3 v6 w' => ∃ (x3_2 : List (S45)) (x6_2 : Int), v6 = .int .i64 x6_2 ∧ zt (impl_prefixesIn.l1 kq x3_2 x6_2 l0 (l0.length : Int) zB ((rd_T74 l0 zB).f0) ((rd_T74 l0 zB).f1) = some r) ∧ zt (kq ≤ k1) ∧ zt (Kd.R k45 45 w' w.heap.size (fun _ => True) v3 x3_2) ∧ zt (w'.heap[gb270]? = some (.cells #[.int .i64 ((rd_T74 l0 zB).f0), .int .i64 ((rd_T74 l0 zB).f1)] 74 (0, 0))) ∧ zt (Below w.heap.size w w'))
      case atStart => exact ⟨(x3_1), ((rd_T74 l0 zB).f0), (by first | rfl | (simp; done) | (simp [*]; done)), H', ⟨Nat.le_refl _⟩, ⟨by (with_reducible repeat (first | apply zk | apply zj | apply zi)); exact zw (Kd.R_far (p := ⟨gb270, 1, none⟩) (Kd.R_far (p := ⟨gb270, 0, none⟩) (Kd.R_types HO_3.1 zD.1 (by decide)) (fun _ hk => hk.2) (.int .i64 ((rd_T74 l0 zB).f0))) (fun _ hk => hk.2) (.int .i64 ((rd_T74 l0 zB).f1))) (fun _ hk => trivial)⟩, ⟨by (with_reducible repeat (first | refine zc ?_ _ | refine zd ?_ | refine ze ?_ _)); refine blk_put (cs := #[.int .i64 ((rd_T74 l0 zB).f0), .int .i64 0]) ?_ 1 _ rfl; (with_reducible repeat (first | refine zc ?_ _ | refine zd ?_ | refine ze ?_ _)); refine blk_put (cs := #[.int .i64 0, .int .i64 0]) ?_ 0 _ rfl; (with_reducible repeat (first | refine zc ?_ _ | refine zd ?_ | refine ze ?_ _)); exact zD.1⟩, ⟨by repeat (first | (with_reducible first | exact HB.1 | apply zg | apply za | apply zf | refine zh ?_ zF.1) | exact HB.1)⟩⟩
      case round =>
       clear H'
       (try clear p2); (try clear q2); (try clear hx2); (try clear c4); (try clear c4b0); (try clear c5); (try clear c5b0); (try clear c6); (try clear c6b0); (try clear hcz8_0); (try clear hcz8_1); (try clear hfz8_0); (try clear hfz8_1); (try clear hx269_0); (try clear hx269_1); (try clear p2); (try clear p269); (try clear q269)
       obtain ⟨x3_2, x6_2, rfl, HA, HK2, HO_3, zD, HB⟩ := hrel
       cases gk with
       | zero => exact absurd HA.1 (by simp [impl_prefixesIn.l1])
       | succ k2 =>
        have H := HA.1
        clear HA
        simp only [impl_prefixesIn.l1] at H
        by_cases c9 : x6_2 ≤ ((rd_T74 l0 zB).f1)
        ·
         rw [if_pos c9] at H
         have c9b0 : decide (x6_2 ≤ ((rd_T74 l0 zB).f1)) = true := decide_eq_true c9
         clear c9
         have H' := Aside0.mk H
         clear H
         have hcz10_0 : wr.cell? ⟨gb270, 0, none⟩ = some (.int .i64 ((rd_T74 l0 zB).f0)) := (zb zD.1 0).trans rfl
         have hcz10_1 : wr.cell? ⟨gb270, 1, none⟩ = some (.int .i64 ((rd_T74 l0 zB).f1)) := (zb zD.1 1).trans rfl
         have hfz10_0 := zl zD.1 0
         have hfz10_1 := zl zD.1 1
         go_wp2_with (first | ((with_reducible refine gate_dst (N := 7) rfl ?_); refine box_event ?hg (N := 7) ?hd (cs := #[.int .i64 0, .int .i64 0]) (t := 45) ?hr ?_; (case hd => rfl); (case hg => rfl); (case hr => first | (go_simp; done) | (go_simp; rfl)); intro gb271 hg w11 hbox hb; have n0_ := Aside0.mk (zu (Kd.R_elderB (by (with_reducible repeat (first | apply zk | apply zj | apply zi)); exact HO_3.1) gb271 (Nat.le_of_eq hg.symm)) hb); have n1_ := Aside0.mk (zm (g := gb270) (o := .cells #[.int .i64 ((rd_T74 l0 zB).f0), .int .i64 ((rd_T74 l0 zB).f1)] 74 (0, 0)) (by (with_reducible repeat (first | refine zc ?_ _ | refine zd ?_ | refine ze ?_ _)); exact zD.1) hb); have n2_ := Aside0.mk (zp (by repeat (first | (with_reducible first | exact HB.1 | apply zg | apply za | apply zf | refine zh ?_ zF.1) | exact HB.1)) hb); have n3_ := Aside0.mk (hbox); have n4_ := Aside0.mk ((by rw [hg]; exact (below_size (by repeat (first | (with_reducible first | exact HB.1 | apply zg | apply za | apply zf | refine zh ?_ zF.1) | exact HB.1))) : w.heap.size ≤ gb271)); have n5_ := Aside0.mk ((by rw [hg]; exact (below_size (by repeat (first | (with_reducible first | exact HB.1 | apply zg | apply za | apply zf | refine zh ?_ zF.1) | exact HB.1))) : w.heap.size ≤ gb271)); have n6_ := Aside0.mk ((by rw [hg]; exact Nat.ne_of_lt (blk_lt (g := gb270) (o := .cells #[.int .i64 ((rd_T74 l0 zB).f0), .int .i64 ((rd_T74 l0 zB).f1)] 74 (0, 0)) (by (with_reducible repeat (first | refine zc ?_ _ | refine zd ?_ | refine ze ?_ _)); exact zD.1)) : gb270 ≠ gb271)); have n7_ := Aside0.mk ((by rw [hg]; exact Nat.ne_of_gt (blk_lt (g := gb270) (o := .cells #[.int .i64 ((rd_T74 l0 zB).f0), .int .i64 ((rd_T74 l0 zB).f1)] 74 (0, 0)) (by (with_reducible repeat (first | refine zc ?_ _ | refine zd ?_ | refine ze ?_ _)); exact zD.1)) : gb271 ≠ gb270)); clear HO_3; clear zD; clear HB; have HO_3 := n0_; have zD := n1_; have HB := n2_; have zC := n3_; have GW271 := n4_; have zH := n5_; have zE := n6_; have NB271_270 := n7_; clear n0_ n1_ n2_ n3_ n4_ n5_ n6_ n7_; clear hb hbox hg; have hnb12 := NB271_270.1; have hnc12 := zE.1; have hcz13_0 : w11.cell? ⟨gb271, 0, none⟩ = some (.int .i64 0) := (zb zC.1 0).trans rfl; have hcz13_1 : w11.cell? ⟨gb271, 1, none⟩ = some (.int .i64 0) := (zb zC.1 1).trans rfl; have hfz13_0 := zl zC.1 0; have hfz13_1 := zl zC.1 1))
         go_loopg [] k2 (fun kq w' => ∃ (zA : Int), zt (impl_prefixesIn.l2 kq x3_2 l0 (l0.length : Int) zB ((rd_T74 l0 zB).f0) ((rd_T74 l0 zB).f1) x6_2 zA = some r) ∧ zt (kq ≤ k2) ∧ zt (Kd.R k45 45 w' w.heap.size (fun k_ => k_ ≠ gb271) u3 x3_2) ∧ zt (w'.heap[gb270]? = some (.cells #[.int .i64 ((rd_T74 l0 zB).f0), .int .i64 ((rd_T74 l0 zB).f1)] 74 (0, 0))) ∧ zt (w'.heap[gb271]? = some (.cells #[.int .i64 x6_2, .int .i64 zA] 45 (0, 0))) ∧ zt (Below w.heap.size w w'))
         case atStart => exact ⟨(0), H', ⟨Nat.le_refl _⟩, ⟨by (with_reducible repeat (first | apply zk | apply zj | apply zi)); exact zw (Kd.R_far (p := ⟨gb271, 1, none⟩) (Kd.R_far (p := ⟨gb271, 0, none⟩) (zw HO_3.1 (fun k_ hk => (⟨hk, hk.2⟩ : _ ∧ k_ ≠ gb271))) (fun _ hk => hk.2) (.int .i64 x6_2)) (fun _ hk => hk.2) (.int .i64 0)) (fun _ hk => hk.1.2)⟩, ⟨by (with_reducible repeat (first | refine zc ?_ _ | refine zd ?_ | refine ze ?_ _)); refine blk_far ?_ zE.1 _; (with_reducible repeat (first | refine zc ?_ _ | refine zd ?_ | refine ze ?_ _)); refine blk_far ?_ zE.1 _; (with_reducible repeat (first | refine zc ?_ _ | refine zd ?_ | refine ze ?_ _)); exact zD.1⟩, ⟨by (with_reducible repeat (first | refine zc ?_ _ | refine zd ?_ | refine ze ?_ _)); refine blk_put (cs := #[.int .i64 x6_2, .int .i64 0]) ?_ 1 _ rfl; (with_reducible repeat (first | refine zc ?_ _ | refine zd ?_ | refine ze ?_ _)); refine blk_put (cs := #[.int .i64 0, .int .i64 0]) ?_ 0 _ rfl; (with_reducible repeat (first | refine zc ?_ _ | refine zd ?_ | refine ze ?_ _)); exact zC.1⟩, ⟨by repeat (first | (with_reducible first | exact HB.1 | apply zg | apply za | apply zf | refine zh ?_ zF.1 | refine zh ?_ zH.1) | exact HB.1)⟩⟩
         case round =>
          clear H'
          (try clear c1); (try clear p2); (try clear q2); (try clear hx2); (try clear c4); (try clear c4b0); (try clear c5); (try clear c5b0); (try clear c6); (try clear c6b0); (try clear c9); (try clear c9b0); (try clear c12); (try clear hcz10_0); (try clear hcz10_1); (try clear hcz13_0); (try clear hcz13_1); (try clear hcz8_0); (try clear hcz8_1); (try clear hfz10_0); (try clear hfz10_1); (try clear hfz13_0); (try clear hfz13_1); (try clear hfz8_0); (try clear hfz8_1); (try clear hx269_0); (try clear hx269_1); (try clear p2); (try clear p269); (try clear q2); (try clear q269)
          obtain ⟨zA, HA, HK3, HO_3, zD, zC, HB⟩ := hrel
          cases gk with
          | zero => exact absurd HA.1 (by simp [impl_prefixesIn.l2])
          | succ k3 =>
           have H := HA.1
           clear HA
           simp only [impl_prefixesIn.l2] at H
           replace H := Option.bind_eq_some_iff.mp H
           obtain ⟨t272, A140, H⟩ := H
           replace H : (if t272 = true then ((impl_Prefix_end.f x6_2 zA).bind fun t273 => (if t273 > ((rd_T74 l0 zB).f1) then (impl_prefixesIn.l2 k3 x3_2 l0 (l0.length : Int) zB ((rd_T74 l0 zB).f0) ((rd_T74 l0 zB).f1) x6_2 (wrap64 (zA + 1))) else (if x3_2.length < 8796093022208 then ((impl_Prefix_end.f x6_2 zA).bind fun t277 => (impl_prefixesIn.l1 k3 (x3_2 ++ [(⟨x6_2, zA⟩ : S45)]) (wrap64 (t277 + 1)) l0 (l0.length : Int) zB ((rd_T74 l0 zB).f0) ((rd_T74 l0 zB).f1))) else (none)))) else (impl_prefixesIn.l2 k3 x3_2 l0 (l0.length : Int) zB ((rd_T74 l0 zB).f0) ((rd_T74 l0 zB).f1) x6_2 (wrap64 (zA + 1)))) = some r := H
           have A14 := Aside0.mk A140
           clear A140
           by_cases c15 : t272 = true
           ·
            subst c15
            have H1 : ((impl_Prefix_end.f x6_2 zA).bind fun t273 => (if t273 > ((rd_T74 l0 zB).f1) then (impl_prefixesIn.l2 k3 x3_2 l0 (l0.length : Int) zB ((rd_T74 l0 zB).f0) ((rd_T74 l0 zB).f1) x6_2 (wrap64 (zA + 1))) else (if x3_2.length < 8796093022208 then ((impl_Prefix_end.f x6_2 zA).bind fun t277 => (impl_prefixesIn.l1 k3 (x3_2 ++ [(⟨x6_2, zA⟩ : S45)]) (wrap64 (t277 + 1)) l0 (l0.length : Int) zB ((rd_T74 l0 zB).f0) ((rd_T74 l0 zB).f1))) else (none)))) = some r := by rw [if_pos rfl] at H; exact H
            clear H
            have H := H1
            clear H1
            replace H := Option.bind_eq_some_iff.mp H
            obtain ⟨t273, A160, H⟩ := H
            replace H : (if t273 > ((rd_T74 l0 zB).f1) then (impl_prefixesIn.l2 k3 x3_2 l0 (l0.length : Int) zB ((rd_T74 l0 zB).f0) ((rd_T74 l0 zB).f1) x6_2 (wrap64 (zA + 1))) else (if x3_2.length < 8796093022208 then ((impl_Prefix_end.f x6_2 zA).bind fun t277 => (impl_prefixesIn.l1 k3 (x3_2 ++ [(⟨x6_2, zA⟩ : S45)]) (wrap64 (t277 + 1)) l0 (l0.length : Int) zB ((rd_T74 l0 zB).f0) ((rd_T74 l0 zB).f1))) else (none))) = some r := H
            have A16 := Aside0.mk A160
            clear A160
            by_cases c17 : t273 > ((rd_T74 l0 zB).f1)
            ·
             rw [if_pos c17] at H
             have c17b0 : decide (((rd_T74 l0 zB).f1) < t273) = true := decide_eq_true c17
             clear c17
             have H' := Aside0.mk H
             clear H
             try go_wp2
             have n0_ := Aside0.mk (zi HO_3.1)
             have n1_ := Aside0.mk (zd zD.1)
             have n2_ := Aside0.mk (zd zC.1)
             have n3_ := Aside0.mk (zf HB.1)
             clear HO_3
             clear zD
             clear zC
             clear HB
             have HO_3 := n0_
             have zD := n1_
             have zC := n2_
             have HB := n3_
             clear n0_ n1_ n2_ n3_
             refine start_ (n := 10) (S := fun w' => w'.cell? ⟨gb271, 0, none⟩ = some (.int .i64 x6_2) ∧ w'.cell? ⟨gb271, 1, none⟩ = some (.int .i64 zA) ∧ w'.cell? ⟨gb270, 0, none⟩ = some (.int .i64 ((rd_T74 l0 zB).f0)) ∧ w'.cell? ⟨gb270, 1, none⟩ = some (.int .i64 ((rd_T74 l0 zB).f1))) (ds := []) #[false, false, false, false, false, false, false, false, false, false] (by kernel_rfl) rfl rfl ⟨(zb zC.1 0).trans rfl, (zb zC.1 1).trans rfl, (zb zD.1 0).trans rfl, (zb zD.1 1).trans rfl⟩ (fun hHeld => ?_); refine with_tabW impl_prefixesIn.tab8 impl_prefixesIn.bits8 (fun HT_ HW_ => ?_)
             generalize wr.drew = w18 at HO_3 zD zC HB hHeld ⊢
             refine zz (i := 0) (N := some 23) (v := ?_) (a' := ?_) #[true, false, false, false, false, false, false, false, false, false] rfl rfl (zy HT_.1 HW_.1 (by kernel_rfl)) (fun _ _ _ h => h) (Or.inl ⟨by rfl, ?_⟩) hHeld ?_ ?_
             rotate_left
             ·
              rintro w' ⟨s0, s1, s2, s3⟩
              go_simp
              with_reducible rfl
             rotate_left
             ·
              simp only [Act.put, List.setIfInBounds_toArray, List.set_cons_zero, List.set_cons_succ, zn, zo]
              rfl
             refine one_ (i := 1) (N := some 24) #[true, true, false, false, false, false, false, false, false, false] rfl rfl (one_of HT_.1 (by kernel_rfl)) (by decide) (fun K hK => ?_)
             refine goes_ Try.func70 (by kernel_rfl) rfl #[.agg #[.int .i64 x6_2, .int .i64 zA]] (by rfl) rfl rfl (by (try simp only [List.map_toArray, List.map_cons, List.map_nil]); first | done | rfl | (simp only [List.length_drop, List.length_take]; rfl)) ?_
             with_reducible refine (impl_GoodPrefix.calls x6_2 zA true _ A14.1).mono ?_
             rintro e w19 ⟨rfl, hb⟩
             refine ⟨_, rfl, ?_⟩
             have n0_ := Aside0.mk (zu (by (with_reducible repeat (first | apply zk | apply zj | apply zi)); exact HO_3.1) hb)
             have n1_ := Aside0.mk (zm (g := gb270) (o := .cells #[.int .i64 ((rd_T74 l0 zB).f0), .int .i64 ((rd_T74 l0 zB).f1)] 74 (0, 0)) (by (with_reducible repeat (first | refine zc ?_ _ | refine zd ?_ | refine ze ?_ _)); exact zD.1) hb)
             have n2_ := Aside0.mk (zm (g := gb271) (o := .cells #[.int .i64 x6_2, .int .i64 zA] 45 (0, 0)) (by (with_reducible repeat (first | refine zc ?_ _ | refine zd ?_ | refine ze ?_ _)); exact zC.1) hb)
             have n3_ := Aside0.mk (zp (by repeat (first | (with_reducible first | exact HB.1 | apply zg | apply za | apply zf | refine zh ?_ zF.1 | refine zh ?_ zH.1) | exact HB.1)) hb)
             clear HO_3
             clear zD
             clear zC
             clear HB
             have HO_3 := n0_
             have zD := n1_
             have zC := n2_
             have HB := n3_
             clear n0_ n1_ n2_ n3_
             (try clear hb)
             (try clear hb2)
             (try clear hk)
             (try clear hi)
             refine hK.out _ _ ⟨(zb zC.1 0).trans rfl, (zb zC.1 1).trans rfl, (zb zD.1 0).trans rfl, (zb zD.1 1).trans rfl⟩ (fun hHeld => ?_)
             clear hK K
             refine norm_ (a' := ?_) ?_ ?_
             rotate_left
             ·
              show Act.put _ (some 24) _ = _
              simp only [Act.put, List.setIfInBounds_toArray, List.set_cons_zero, List.set_cons_succ, zn, zo]
              rfl
             refine zx (i := 2) (N := some 25) (v := ?_) (a' := ?_) #[true, true, true, false, false, false, false, false, false, false] rfl rfl (zq HT_.1 (by kernel_rfl)) (fun _ _ _ h => h) (Or.inl ⟨by rfl, ?_⟩) ?_ ?_
             rotate_left
             ·
              intro w'
              go_simp
              with_reducible rfl
             rotate_left
             ·
              simp only [Act.put, List.setIfInBounds_toArray, List.set_cons_zero, List.set_cons_succ, zn, zo]
              rfl
             refine zx (i := 3) (N := some 26) (v := ?_) (a' := ?_) #[true, true, true, true, false, false, false, false, false, false] rfl rfl (zq HT_.1 (by kernel_rfl)) (fun _ _ _ h => h) (Or.inl ⟨by rfl, ?_⟩) ?_ ?_
             rotate_left
             ·
              intro w'
              go_simp
              with_reducible rfl
             rotate_left
             ·
              simp only [Act.put, List.setIfInBounds_toArray, List.set_cons_zero, List.set_cons_succ, zn, zo]
              rfl
             refine zx (i := 6) (N := some 29) (v := ?_) (a' := ?_) #[true, true, true, true, false, false, true, false, false, false] rfl rfl (zq HT_.1 (by kernel_rfl)) (fun _ _ _ h => h) (Or.inl ⟨by rfl, ?_⟩) ?_ ?_
             rotate_left
             ·
              intro w'
              go_simp
              with_reducible rfl
             rotate_left
             ·
              simp only [Act.put, List.setIfInBounds_toArray, List.set_cons_zero, List.set_cons_succ, zn, zo]
              rfl
             refine zz (i := 4) (N := some 27) (v := ?_) (a' := ?_) #[true, true, true, true, true, false, true, false, false, false] rfl rfl (zy HT_.1 HW_.1 (by kernel_rfl)) (fun _ _ _ h => h) (Or.inl ⟨by rfl, ?_⟩) hHeld ?_ ?_
             rotate_left
             ·
              rintro w' ⟨s0, s1, s2, s3⟩
              go_simp
              with_reducible rfl
             rotate_left
             ·
              simp only [Act.put, List.setIfInBounds_toArray, List.set_cons_zero, List.set_cons_succ, zn, zo]
              rfl
             refine zz (i := 7) (N := some 30) (v := ?_) (a' := ?_) #[true, true, true, true, true, false, true, true, false, false] rfl rfl (zy HT_.1 HW_.1 (by kernel_rfl)) (fun _ _ _ h => h) (Or.inl ⟨by rfl, ?_⟩) hHeld ?_ ?_
             rotate_left
             ·
              rintro w' ⟨s0, s1, s2, s3⟩
              go_simp
              with_reducible rfl
             rotate_left
             ·
              simp only [Act.put, List.setIfInBounds_toArray, List.set_cons_zero, List.set_cons_succ, zn, zo]
              rfl
             refine one_ (i := 5) (N := some 28) #[true, true, true, true, true, true, true, true, false, false] rfl rfl (one_of HT_.1 (by kernel_rfl)) (by decide) (fun K hK => ?_)
             refine goes_ Try.func71 (by kernel_rfl) rfl #[.agg #[.int .i64 x6_2, .int .i64 zA]] (by rfl) rfl rfl (by (try simp only [List.map_toArray, List.map_cons, List.map_nil]); first | done | rfl | (simp only [List.length_drop, List.length_take]; rfl)) ?_
             with_reducible refine (impl_Prefix_end.calls x6_2 zA t273 _ A16.1).mono ?_
             rintro e w20 ⟨rfl, hb⟩
             refine ⟨_, rfl, ?_⟩
             have n0_ := Aside0.mk (zu (by (with_reducible repeat (first | apply zk | apply zj | apply zi)); exact HO_3.1) hb)
             have n1_ := Aside0.mk (zm (g := gb270) (o := .cells #[.int .i64 ((rd_T74 l0 zB).f0), .int .i64 ((rd_T74 l0 zB).f1)] 74 (0, 0)) (by (with_reducible repeat (first | refine zc ?_ _ | refine zd ?_ | refine ze ?_ _)); exact zD.1) hb)
             have n2_ := Aside0.mk (zm (g := gb271) (o := .cells #[.int .i64 x6_2, .int .i64 zA] 45 (0, 0)) (by (with_reducible repeat (first | refine zc ?_ _ | refine zd ?_ | refine ze ?_ _)); exact zC.1) hb)
             have n3_ := Aside0.mk (zp (by repeat (first | (with_reducible first | exact HB.1 | apply zg | apply za | apply zf | refine zh ?_ zF.1 | refine zh ?_ zH.1) | exact HB.1)) hb)
             clear HO_3
             clear zD
             clear zC
             clear HB
             have HO_3 := n0_
             have zD := n1_
             have zC := n2_
             have HB := n3_
             clear n0_ n1_ n2_ n3_
             (try clear hb)
             (try clear hb2)
             (try clear hk)
             (try clear hi)
             refine hK.out _ _ ⟨(zb zC.1 0).trans rfl, (zb zC.1 1).trans rfl, (zb zD.1 0).trans rfl, (zb zD.1 1).trans rfl⟩ (fun hHeld => ?_)
             clear hK K
             refine norm_ (a' := ?_) ?_ ?_
             rotate_left
             ·
              show Act.put _ (some 28) _ = _
              simp only [Act.put, List.setIfInBounds_toArray, List.set_cons_zero, List.set_cons_succ, zn, zo]
              rfl
             refine zx (i := 8) (N := some 31) (v := ?_) (a' := ?_) #[true, true, true, true, true, true, true, true, true, false] rfl rfl (zq HT_.1 (by kernel_rfl)) (fun _ _ _ h => h) (Or.inl ⟨by rfl, ?_⟩) ?_ ?_
             rotate_left
             ·
              intro w'
              go_simp
              with_reducible rfl
             rotate_left
             ·
              simp only [Act.put, List.setIfInBounds_toArray, List.set_cons_zero, List.set_cons_succ, zn, zo]
              rfl
             refine zx (i := 9) (N := some 32) (v := ?_) (a' := ?_) #[true, true, true, true, true, true, true, true, true, true] rfl rfl (zq HT_.1 (by kernel_rfl)) (fun _ _ _ h => h) (Or.inl ⟨by rfl, ?_⟩) ?_ ?_
             rotate_left
             ·
              intro w'
              go_simp
              with_reducible rfl
             rotate_left
             ·
              simp only [Act.put, List.setIfInBounds_toArray, List.set_cons_zero, List.set_cons_succ, zn, zo]
              rfl
             refine done_ (done_of HT_.1 (by kernel_rfl)) ?_
             have hnb21 := NB271_270.1
             have hnc21 := zE.1
             have hcz22_0 : w20.cell? ⟨gb271, 0, none⟩ = some (.int .i64 x6_2) := (zb zC.1 0).trans rfl
             have hcz22_1 : w20.cell? ⟨gb271, 1, none⟩ = some (.int .i64 zA) := (zb zC.1 1).trans rfl
             have hfz22_0 := zl zC.1 0
             have hfz22_1 := zl zC.1 1
             try go_wp2
             go_roundg k3
             case measure => have := HK1.1; have := HK2.1; have := HK3.1; omega
             case rel => exact ⟨(wrap64 (zA + 1)), H', ⟨by have := HK1.1; have := HK2.1; have := HK3.1; omega⟩, ⟨by (with_reducible repeat (first | apply zk | apply zj | apply zi)); exact zw (Kd.R_far (p := ⟨gb271, 1, none⟩) (zw HO_3.1 (fun k_ hk => (⟨hk, hk⟩ : _ ∧ k_ ≠ gb271))) (fun _ hk => hk.2) (.int .i64 (wrap64 (zA + 1)))) (fun _ hk => hk.1)⟩, ⟨by (with_reducible repeat (first | refine zc ?_ _ | refine zd ?_ | refine ze ?_ _)); refine blk_far ?_ zE.1 _; (with_reducible repeat (first | refine zc ?_ _ | refine zd ?_ | refine ze ?_ _)); exact zD.1⟩, ⟨by (with_reducible repeat (first | refine zc ?_ _ | refine zd ?_ | refine ze ?_ _)); refine blk_put (cs := #[.int .i64 x6_2, .int .i64 zA]) ?_ 1 _ rfl; (with_reducible repeat (first | refine zc ?_ _ | refine zd ?_ | refine ze ?_ _)); exact zC.1⟩, ⟨by repeat (first | (with_reducible first | exact HB.1 | apply zg | apply za | apply zf | refine zh ?_ zF.1 | refine zh ?_ zH.1) | exact HB.1)⟩⟩
            ·
             rw [if_neg c17] at H
             have c17b0 : decide (((rd_T74 l0 zB).f1) < t273) = false := decide_eq_false c17
             clear c17
             by_cases c23 : x3_2.length < 8796093022208
             ·
              rw [if_pos c23] at H
              have LMc23 := Aside0.mk c23
              clear c23
              obtain ⟨y274, hy274⟩ : ∃ y_ : List (S45), y_ = (x3_2 ++ [(⟨x6_2, zA⟩ : S45)]) := ⟨_, rfl⟩
              replace H : ((impl_Prefix_end.f x6_2 zA).bind fun t277 => (impl_prefixesIn.l1 k3 y274 (wrap64 (t277 + 1)) l0 (l0.length : Int) zB ((rd_T74 l0 zB).f0) ((rd_T74 l0 zB).f1))) = some r := by first | (rw [hy274]; with_reducible exact H) | (have H2_ := (Option.bind_some _ _).symm.trans H; rw [hy274]; with_reducible exact H2_) | (have H2_ := (Option.bind_some _ _).symm.trans H; with_reducible exact H2_) | with_reducible exact H | (rw [hy274]; exact H) | exact H
              have Ny274 := Aside0.mk hy274
              clear hy274
              replace H := Option.bind_eq_some_iff.mp H
              obtain ⟨t277, A240, H⟩ := H
              replace H : (impl_prefixesIn.l1 k3 y274 (wrap64 (t277 + 1)) l0 (l0.length : Int) zB ((rd_T74 l0 zB).f0) ((rd_T74 l0 zB).f1)) = some r := H
              have A24 := Aside0.mk A240
              clear A240
              have H' := Aside0.mk H
              clear H
              try go_wp2
              have n0_ := Aside0.mk (zi HO_3.1)
              have n1_ := Aside0.mk (zd zD.1)
              have n2_ := Aside0.mk (zd zC.1)
              have n3_ := Aside0.mk (zf HB.1)
              clear HO_3
              clear zD
              clear zC
              clear HB
              have HO_3 := n0_
              have zD := n1_
              have zC := n2_
              have HB := n3_
              clear n0_ n1_ n2_ n3_
              refine start_ (n := 10) (S := fun w' => w'.cell? ⟨gb271, 0, none⟩ = some (.int .i64 x6_2) ∧ w'.cell? ⟨gb271, 1, none⟩ = some (.int .i64 zA) ∧ w'.cell? ⟨gb270, 0, none⟩ = some (.int .i64 ((rd_T74 l0 zB).f0)) ∧ w'.cell? ⟨gb270, 1, none⟩ = some (.int .i64 ((rd_T74 l0 zB).f1))) (ds := []) #[false, false, false, false, false, false, false, false, false, false] (by kernel_rfl) rfl rfl ⟨(zb zC.1 0).trans rfl, (zb zC.1 1).trans rfl, (zb zD.1 0).trans rfl, (zb zD.1 1).trans rfl⟩ (fun hHeld => ?_); refine with_tabW impl_prefixesIn.tab8 impl_prefixesIn.bits8 (fun HT_ HW_ => ?_)
              generalize wr.drew = w25 at HO_3 zD zC HB hHeld ⊢
              refine zz (i := 0) (N := some 23) (v := ?_) (a' := ?_) #[true, false, false, false, false, false, false, false, false, false] rfl rfl (zy HT_.1 HW_.1 (by kernel_rfl)) (fun _ _ _ h => h) (Or.inl ⟨by rfl, ?_⟩) hHeld ?_ ?_
              rotate_left
              ·
               rintro w' ⟨s0, s1, s2, s3⟩
               go_simp
               with_reducible rfl
              rotate_left
              ·
               simp only [Act.put, List.setIfInBounds_toArray, List.set_cons_zero, List.set_cons_succ, zn, zo]
               rfl
              refine one_ (i := 1) (N := some 24) #[true, true, false, false, false, false, false, false, false, false] rfl rfl (one_of HT_.1 (by kernel_rfl)) (by decide) (fun K hK => ?_)
              refine goes_ Try.func70 (by kernel_rfl) rfl #[.agg #[.int .i64 x6_2, .int .i64 zA]] (by rfl) rfl rfl (by (try simp only [List.map_toArray, List.map_cons, List.map_nil]); first | done | rfl | (simp only [List.length_drop, List.length_take]; rfl)) ?_
              with_reducible refine (impl_GoodPrefix.calls x6_2 zA true _ A14.1).mono ?_
              rintro e w26 ⟨rfl, hb⟩
              refine ⟨_, rfl, ?_⟩
              have n0_ := Aside0.mk (zu (by (with_reducible repeat (first | apply zk | apply zj | apply zi)); exact HO_3.1) hb)
              have n1_ := Aside0.mk (zm (g := gb270) (o := .cells #[.int .i64 ((rd_T74 l0 zB).f0), .int .i64 ((rd_T74 l0 zB).f1)] 74 (0, 0)) (by (with_reducible repeat (first | refine zc ?_ _ | refine zd ?_ | refine ze ?_ _)); exact zD.1) hb)
              have n2_ := Aside0.mk (zm (g := gb271) (o := .cells #[.int .i64 x6_2, .int .i64 zA] 45 (0, 0)) (by (with_reducible repeat (first | refine zc ?_ _ | refine zd ?_ | refine ze ?_ _)); exact zC.1) hb)
              have n3_ := Aside0.mk (zp (by repeat (first | (with_reducible first | exact HB.1 | apply zg | apply za | apply zf | refine zh ?_ zF.1 | refine zh ?_ zH.1) | exact HB.1)) hb)
              clear HO_3
              clear zD
              clear zC
              clear HB
              have HO_3 := n0_
              have zD := n1_
              have zC := n2_
              have HB := n3_
              clear n0_ n1_ n2_ n3_
              (try clear hb)
              (try clear hb2)
              (try clear hk)
              (try clear hi)
              refine hK.out _ _ ⟨(zb zC.1 0).trans rfl, (zb zC.1 1).trans rfl, (zb zD.1 0).trans rfl, (zb zD.1 1).trans rfl⟩ (fun hHeld => ?_)
              clear hK K
              refine norm_ (a' := ?_) ?_ ?_
              rotate_left
              ·
               show Act.put _ (some 24) _ = _
               simp only [Act.put, List.setIfInBounds_toArray, List.set_cons_zero, List.set_cons_succ, zn, zo]
               rfl
              refine zx (i := 2) (N := some 25) (v := ?_) (a' := ?_) #[true, true, true, false, false, false, false, false, false, false] rfl rfl (zq HT_.1 (by kernel_rfl)) (fun _ _ _ h => h) (Or.inl ⟨by rfl, ?_⟩) ?_ ?_
              rotate_left
              ·
               intro w'
               go_simp
               with_reducible rfl
              rotate_left
              ·
               simp only [Act.put, List.setIfInBounds_toArray, List.set_cons_zero, List.set_cons_succ, zn, zo]
               rfl
              refine zx (i := 3) (N := some 26) (v := ?_) (a' := ?_) #[true, true, true, true, false, false, false, false, false, false] rfl rfl (zq HT_.1 (by kernel_rfl)) (fun _ _ _ h => h) (Or.inl ⟨by rfl, ?_⟩) ?_ ?_
              rotate_left
              ·
               intro w'
               go_simp
               with_reducible rfl
              rotate_left
              ·
               simp only [Act.put, List.setIfInBounds_toArray, List.set_cons_zero, List.set_cons_succ, zn, zo]
               rfl
              refine zx (i := 6) (N := some 29) (v := ?_) (a' := ?_) #[true, true, true, true, false, false, true, false, false, false] rfl rfl (zq HT_.1 (by kernel_rfl)) (fun _ _ _ h => h) (Or.inl ⟨by rfl, ?_⟩) ?_ ?_
              rotate_left
              ·
               intro w'
               go_simp
               with_reducible rfl
              rotate_left
              ·
               simp only [Act.put, List.setIfInBounds_toArray, List.set_cons_zero, List.set_cons_succ, zn, zo]
               rfl
              refine zz (i := 4) (N := some 27) (v := ?_) (a' := ?_) #[true, true, true, true, true, false, true, false, false, false] rfl rfl (zy HT_.1 HW_.1 (by kernel_rfl)) (fun _ _ _ h => h) (Or.inl ⟨by rfl, ?_⟩) hHeld ?_ ?_
              rotate_left
              ·
               rintro w' ⟨s0, s1, s2, s3⟩
               go_simp
               with_reducible rfl
              rotate_left
              ·
               simp only [Act.put, List.setIfInBounds_toArray, List.set_cons_zero, List.set_cons_succ, zn, zo]
               rfl
              refine zz (i := 7) (N := some 30) (v := ?_) (a' := ?_) #[true, true, true, true, true, false, true, true, false, false] rfl rfl (zy HT_.1 HW_.1 (by kernel_rfl)) (fun _ _ _ h => h) (Or.inl ⟨by rfl, ?_⟩) hHeld ?_ ?_
              rotate_left
              ·
               rintro w' ⟨s0, s1, s2, s3⟩
               go_simp
               with_reducible rfl
              rotate_left
              ·
               simp only [Act.put, List.setIfInBounds_toArray, List.set_cons_zero, List.set_cons_succ, zn, zo]
               rfl
              refine one_ (i := 5) (N := some 28) #[true, true, true, true, true, true, true, true, false, false] rfl rfl (one_of HT_.1 (by kernel_rfl)) (by decide) (fun K hK => ?_)
              refine goes_ Try.func71 (by kernel_rfl) rfl #[.agg #[.int .i64 x6_2, .int .i64 zA]] (by rfl) rfl rfl (by (try simp only [List.map_toArray, List.map_cons, List.map_nil]); first | done | rfl | (simp only [List.length_drop, List.length_take]; rfl)) ?_
              with_reducible refine (impl_Prefix_end.calls x6_2 zA t273 _ A16.1).mono ?_
              rintro e w27 ⟨rfl, hb⟩
              refine ⟨_, rfl, ?_⟩
              have n0_ := Aside0.mk (zu (by (with_reducible repeat (first | apply zk | apply zj | apply zi)); exact HO_3.1) hb)
              have n1_ := Aside0.mk (zm (g := gb270) (o := .cells #[.int .i64 ((rd_T74 l0 zB).f0), .int .i64 ((rd_T74 l0 zB).f1)] 74 (0, 0)) (by (with_reducible repeat (first | refine zc ?_ _ | refine zd ?_ | refine ze ?_ _)); exact zD.1) hb)
              have n2_ := Aside0.mk (zm (g := gb271) (o := .cells #[.int .i64 x6_2, .int .i64 zA] 45 (0, 0)) (by (with_reducible repeat (first | refine zc ?_ _ | refine zd ?_ | refine ze ?_ _)); exact zC.1) hb)
              have n3_ := Aside0.mk (zp (by repeat (first | (with_reducible first | exact HB.1 | apply zg | apply za | apply zf | refine zh ?_ zF.1 | refine zh ?_ zH.1) | exact HB.1)) hb)
              clear HO_3
              clear zD
              clear zC
              clear HB
              have HO_3 := n0_
              have zD := n1_
              have zC := n2_
              have HB := n3_
              clear n0_ n1_ n2_ n3_
              (try clear hb)
              (try clear hb2)
              (try clear hk)
              (try clear hi)
              refine hK.out _ _ ⟨(zb zC.1 0).trans rfl, (zb zC.1 1).trans rfl, (zb zD.1 0).trans rfl, (zb zD.1 1).trans rfl⟩ (fun hHeld => ?_)
              clear hK K
              refine norm_ (a' := ?_) ?_ ?_
              rotate_left
              ·
               show Act.put _ (some 28) _ = _
               simp only [Act.put, List.setIfInBounds_toArray, List.set_cons_zero, List.set_cons_succ, zn, zo]
               rfl
              refine zx (i := 8) (N := some 31) (v := ?_) (a' := ?_) #[true, true, true, true, true, true, true, true, true, false] rfl rfl (zq HT_.1 (by kernel_rfl)) (fun _ _ _ h => h) (Or.inl ⟨by rfl, ?_⟩) ?_ ?_
              rotate_left
              ·
               intro w'
               go_simp
               with_reducible rfl
              rotate_left
              ·
               simp only [Act.put, List.setIfInBounds_toArray, List.set_cons_zero, List.set_cons_succ, zn, zo]
               rfl
              refine zx (i := 9) (N := some 32) (v := ?_) (a' := ?_) #[true, true, true, true, true, true, true, true, true, true] rfl rfl (zq HT_.1 (by kernel_rfl)) (fun _ _ _ h => h) (Or.inl ⟨by rfl, ?_⟩) ?_ ?_
              rotate_left
              ·
               intro w'
               go_simp
               with_reducible rfl
              rotate_left
              ·
               simp only [Act.put, List.setIfInBounds_toArray, List.set_cons_zero, List.set_cons_succ, zn, zo]
               rfl
              refine done_ (done_of HT_.1 (by kernel_rfl)) ?_
              have hnb28 := NB271_270.1
              have hnc28 := zE.1
              have hcz29_0 : w27.cell? ⟨gb271, 0, none⟩ = some (.int .i64 x6_2) := (zb zC.1 0).trans rfl
              have hcz29_1 : w27.cell? ⟨gb271, 1, none⟩ = some (.int .i64 zA) := (zb zC.1 1).trans rfl
              have hfz29_0 := zl zC.1 0
              have hfz29_1 := zl zC.1 1
              try go_wp2_with (first | ((with_reducible refine gate_builtin (b := .append) (xs := #[.tmp 37, .tmp 39]) rfl ?_); at_builtin; refine Kd.R_append k45 (w0 := w) w.heap.size rfl (.tmp 37) (.tmp 39) 25 45 (.agg #[(.int .i64 0), (.int .i64 0)]) 16 rfl Try.underlying25 info45 rfl (by decide) (by omega) u3 x3_2 (⟨x6_2, zA⟩ : S45) [.int .i64 x6_2, .int .i64 zA] (fun k_ => k_ ≠ gb271) (fun _ => False) rfl rfl ?aP (fun _ hk => hk.elim) ?aF ?aO ?aB ?aS ?aL ?_; (case aP => exact k45_mkM _ _ _ (⟨x6_2, zA⟩ : S45)); (case aB => exact (by repeat (first | (with_reducible first | exact HB.1 | apply zg | apply za | apply zf | refine zh ?_ zF.1 | refine zh ?_ zH.1) | exact HB.1))); (case aF => exact (fun k_ hk => Kd.freshB (g := gb271) (o := .cells #[.int .i64 x6_2, .int .i64 zA] 45 (0, 0)) (by (with_reducible repeat (first | refine zc ?_ _ | refine zd ?_ | refine ze ?_ _)); exact zC.1) k_ hk)); (case aO => exact (by (with_reducible repeat (first | apply zk | apply zj | apply zi)); exact HO_3.1)); (case aS => exact (below_size (by repeat (first | (with_reducible first | exact HB.1 | apply zg | apply za | apply zf | refine zh ?_ zF.1 | refine zh ?_ zH.1) | exact HB.1)))); (case aL => have := LMc23.1; omega); intro v275 w30 ho hb hg hat; rw [← Ny274.1] at ho; have n0_ := Aside0.mk (blk_grown (g := gb270) (o := .cells #[.int .i64 ((rd_T74 l0 zB).f0), .int .i64 ((rd_T74 l0 zB).f1)] 74 (0, 0)) (by (with_reducible repeat (first | refine zc ?_ _ | refine zd ?_ | refine ze ?_ _)); exact zD.1) hg (Kd.R_ne HO_3.1 zD.1 (by decide))); have n1_ := Aside0.mk (blk_grown (g := gb271) (o := .cells #[.int .i64 x6_2, .int .i64 zA] 45 (0, 0)) (by (with_reducible repeat (first | refine zc ?_ _ | refine zd ?_ | refine ze ?_ _)); exact zC.1) hg (Kd.R_away HO_3.1 (fun _ hk => hk))); have n2_ := Aside0.mk (hb); have n3_ := Aside0.mk (ho); clear zD; clear zC; clear HB; clear HO_3; have zD := n0_; have zC := n1_; have HB := n2_; have HO276 := n3_; clear n0_ n1_ n2_ n3_; clear ho hb hg hat; have hcz31_0 : w30.cell? ⟨gb271, 0, none⟩ = some (.int .i64 x6_2) := (zb zC.1 0).trans rfl; have hcz31_1 : w30.cell? ⟨gb271, 1, none⟩ = some (.int .i64 zA) := (zb zC.1 1).trans rfl; have hfz31_0 := zl zC.1 0; have hfz31_1 := zl zC.1 1) | ((with_reducible refine gate_callee (f := 71) rfl ?_); refine goesL_ (some 42) rfl rfl Try.func71 (by kernel_rfl) rfl #[.agg #[.int .i64 x6_2, .int .i64 zA]] rfl (by (try simp only [List.map_toArray, List.map_cons, List.map_nil]); first | done | rfl | (simp only [List.length_drop, List.length_take]; rfl)) ?_; (with_reducible refine (impl_Prefix_end.calls x6_2 zA t277 _ A24.1).mono ?_); rintro e w32 ⟨rfl, hb⟩; refine ⟨_, rfl, ?_⟩; have n0_ := Aside0.mk (zu (by (with_reducible repeat (first | apply zk | apply zj | apply zi)); exact HO276.1) hb); have n1_ := Aside0.mk (zm (g := gb270) (o := .cells #[.int .i64 ((rd_T74 l0 zB).f0), .int .i64 ((rd_T74 l0 zB).f1)] 74 (0, 0)) (by (with_reducible repeat (first | refine zc ?_ _ | refine zd ?_ | refine ze ?_ _)); exact zD.1) hb); have n2_ := Aside0.mk (zm (g := gb271) (o := .cells #[.int .i64 x6_2, .int .i64 zA] 45 (0, 0)) (by (with_reducible repeat (first | refine zc ?_ _ | refine zd ?_ | refine ze ?_ _)); exact zC.1) hb); have n3_ := Aside0.mk (zp (by repeat (first | (with_reducible first | exact HB.1 | apply zg | apply za | apply zf | refine zh ?_ zF.1 | refine zh ?_ zH.1) | exact HB.1)) hb); clear HO276; clear zD; clear zC; clear HB; have HO276 := n0_; have zD := n1_; have zC := n2_; have HB := n3_; clear n0_ n1_ n2_ n3_; (try clear hb); (try clear hb2); (try clear hk); (try clear hi)))
              go_roundg k3
              case measure => have := HK1.1; have := HK2.1; have := HK3.1; omega
              case rel => exact ⟨(y274), (wrap64 (t277 + 1)), (by first | rfl | (simp; done) | (simp [*]; done)), H', ⟨by have := HK1.1; have := HK2.1; have := HK3.1; omega⟩, ⟨by (with_reducible repeat (first | apply zk | apply zj | apply zi)); exact zw HO276.1 (fun _ hk => trivial)⟩, ⟨by (with_reducible repeat (first | refine zc ?_ _ | refine zd ?_ | refine ze ?_ _)); exact zD.1⟩, ⟨by repeat (first | (with_reducible first | exact HB.1 | apply zg | apply za | apply zf | refine zh ?_ zF.1 | refine zh ?_ zH.1) | exact HB.1)⟩⟩
             ·
              rw [if_neg c23] at H
              exact absurd H (by simp)
           ·
            replace c15 := Bool.eq_false_iff.mpr c15
            subst c15
            have H1 : (impl_prefixesIn.l2 k3 x3_2 l0 (l0.length : Int) zB ((rd_T74 l0 zB).f0) ((rd_T74 l0 zB).f1) x6_2 (wrap64 (zA + 1))) = some r := by rw [if_neg (show ¬ (false = true) by decide)] at H; exact H
            clear H
            have H := H1
            clear H1
            have H' := Aside0.mk H
            clear H
            try go_wp2
            have n0_ := Aside0.mk (zi HO_3.1)
            have n1_ := Aside0.mk (zd zD.1)
            have n2_ := Aside0.mk (zd zC.1)
            have n3_ := Aside0.mk (zf HB.1)
            clear HO_3
            clear zD
            clear zC
            clear HB
            have HO_3 := n0_
            have zD := n1_
            have zC := n2_
            have HB := n3_
            clear n0_ n1_ n2_ n3_
            refine start_ (n := 10) (S := fun w' => w'.cell? ⟨gb271, 0, none⟩ = some (.int .i64 x6_2) ∧ w'.cell? ⟨gb271, 1, none⟩ = some (.int .i64 zA)) (ds := []) #[false, false, false, false, false, false, false, false, false, false] (by kernel_rfl) rfl rfl ⟨(zb zC.1 0).trans rfl, (zb zC.1 1).trans rfl⟩ (fun hHeld => ?_); refine with_tabW impl_prefixesIn.tab8 impl_prefixesIn.bits8 (fun HT_ HW_ => ?_)
            generalize wr.drew = w33 at HO_3 zD zC HB hHeld ⊢
            refine zz (i := 0) (N := some 23) (v := ?_) (a' := ?_) #[true, false, false, false, false, false, false, false, false, false] rfl rfl (zy HT_.1 HW_.1 (by kernel_rfl)) (fun _ _ _ h => h) (Or.inl ⟨by rfl, ?_⟩) hHeld ?_ ?_
            rotate_left
            ·
             rintro w' ⟨s0, s1⟩
             go_simp
             with_reducible rfl
            rotate_left
            ·
             simp only [Act.put, List.setIfInBounds_toArray, List.set_cons_zero, List.set_cons_succ, zn, zo]
             rfl
            refine one_ (i := 1) (N := some 24) #[true, true, false, false, false, false, false, false, false, false] rfl rfl (one_of HT_.1 (by kernel_rfl)) (by decide) (fun K hK => ?_)
            refine goes_ Try.func70 (by kernel_rfl) rfl #[.agg #[.int .i64 x6_2, .int .i64 zA]] (by rfl) rfl rfl (by (try simp only [List.map_toArray, List.map_cons, List.map_nil]); first | done | rfl | (simp only [List.length_drop, List.length_take]; rfl)) ?_
            with_reducible refine (impl_GoodPrefix.calls x6_2 zA false _ A14.1).mono ?_
            rintro e w34 ⟨rfl, hb⟩
            refine ⟨_, rfl, ?_⟩
            have n0_ := Aside0.mk (zu (by (with_reducible repeat (first | apply zk | apply zj | apply zi)); exact HO_3.1) hb)
            have n1_ := Aside0.mk (zm (g := gb270) (o := .cells #[.int .i64 ((rd_T74 l0 zB).f0), .int .i64 ((rd_T74 l0 zB).f1)] 74 (0, 0)) (by (with_reducible repeat (first | refine zc ?_ _ | refine zd ?_ | refine ze ?_ _)); exact zD.1) hb)
            have n2_ := Aside0.mk (zm (g := gb271) (o := .cells #[.int .i64 x6_2, .int .i64 zA] 45 (0, 0)) (by (with_reducible repeat (first | refine zc ?_ _ | refine zd ?_ | refine ze ?_ _)); exact zC.1) hb)
            have n3_ := Aside0.mk (zp (by repeat (first | (with_reducible first | exact HB.1 | apply zg | apply za | apply zf | refine zh ?_ zF.1 | refine zh ?_ zH.1) | exact HB.1)) hb)
            clear HO_3
            clear zD
            clear zC
            clear HB
            have HO_3 := n0_
            have zD := n1_
            have zC := n2_
            have HB := n3_
            clear n0_ n1_ n2_ n3_
            (try clear hb)
            (try clear hb2)
            (try clear hk)
            (try clear hi)
            refine hK.out _ _ ⟨(zb zC.1 0).trans rfl, (zb zC.1 1).trans rfl⟩ (fun hHeld => ?_)
            clear hK K
            refine norm_ (a' := ?_) ?_ ?_
            rotate_left
            ·
             show Act.put _ (some 24) _ = _
             simp only [Act.put, List.setIfInBounds_toArray, List.set_cons_zero, List.set_cons_succ, zn, zo]
             rfl
            refine zx (i := 2) (N := some 25) (v := ?_) (a' := ?_) #[true, true, true, false, false, false, false, false, false, false] rfl rfl (zq HT_.1 (by kernel_rfl)) (fun _ _ _ h => h) (Or.inl ⟨by rfl, ?_⟩) ?_ ?_
            rotate_left
            ·
             intro w'
             go_simp
             with_reducible rfl
            rotate_left
            ·
             simp only [Act.put, List.setIfInBounds_toArray, List.set_cons_zero, List.set_cons_succ, zn, zo]
             rfl
            refine zx (i := 3) (N := some 26) (v := ?_) (a' := ?_) #[true, true, true, true, false, false, false, false, false, false] rfl rfl (zq HT_.1 (by kernel_rfl)) (fun _ _ _ h => h) (Or.inl ⟨by rfl, ?_⟩) ?_ ?_
            rotate_left
            ·
             intro w'
             go_simp
             with_reducible rfl
            rotate_left
            ·
             simp only [Act.put, List.setIfInBounds_toArray, List.set_cons_zero, List.set_cons_succ, zn, zo]
             rfl
            refine zx (i := 4) (N := some 27) (v := undef) (a' := ?_) #[true, true, true, true, true, false, false, false, false, false] rfl rfl (zq HT_.1 (by kernel_rfl)) (fun _ _ _ h => h) (Or.inr ⟨by rfl, rfl⟩) ?_ ?_
            rotate_left
            ·
             simp only [Act.put, List.setIfInBounds_toArray, List.set_cons_zero, List.set_cons_succ, zn, zo]
             rfl
            refine zx (i := 5) (N := some 28) (v := undef) (a' := ?_) #[true, true, true, true, true, true, false, false, false, false] rfl rfl (zq HT_.1 (by kernel_rfl)) (fun _ _ _ h => h) (Or.inr ⟨by rfl, rfl⟩) ?_ ?_
            rotate_left
            ·
             simp only [Act.put, List.setIfInBounds_toArray, List.set_cons_zero, List.set_cons_succ, zn, zo]
             rfl
            refine zx (i := 6) (N := some 29) (v := undef) (a' := ?_) #[true, true, true, true, true, true, true, false, false, false] rfl rfl (zq HT_.1 (by kernel_rfl)) (fun _ _ _ h => h) (Or.inr ⟨by rfl, rfl⟩) ?_ ?_
            rotate_left
            ·
             simp only [Act.put, List.setIfInBounds_toArray, List.set_cons_zero, List.set_cons_succ, zn, zo]
             rfl
            refine zx (i := 7) (N := some 30) (v := undef) (a' := ?_) #[true, true, true, true, true, true, true, true, false, false] rfl rfl (zq HT_.1 (by kernel_rfl)) (fun _ _ _ h => h) (Or.inr ⟨by rfl, rfl⟩) ?_ ?_
            rotate_left
            ·
             simp only [Act.put, List.setIfInBounds_toArray, List.set_cons_zero, List.set_cons_succ, zn, zo]
             rfl
            refine zx (i := 8) (N := some 31) (v := undef) (a' := ?_) #[true, true, true, true, true, true, true, true, true, false] rfl rfl (zq HT_.1 (by kernel_rfl)) (fun _ _ _ h => h) (Or.inr ⟨by rfl, rfl⟩) ?_ ?_
            rotate_left
            ·
             simp only [Act.put, List.setIfInBounds_toArray, List.set_cons_zero, List.set_cons_succ, zn, zo]
             rfl
            refine zx (i := 9) (N := some 32) (v := ?_) (a' := ?_) #[true, true, true, true, true, true, true, true, true, true] rfl rfl (zq HT_.1 (by kernel_rfl)) (fun _ _ _ h => h) (Or.inl ⟨by rfl, ?_⟩) ?_ ?_
            rotate_left
            ·
             intro w'
             go_simp
             with_reducible rfl
            rotate_left
            ·
             simp only [Act.put, List.setIfInBounds_toArray, List.set_cons_zero, List.set_cons_succ, zn, zo]
             rfl
            refine done_ (done_of HT_.1 (by kernel_rfl)) ?_
            have hnb35 := NB271_270.1
            have hnc35 := zE.1
            have hcz36_0 : w34.cell? ⟨gb271, 0, none⟩ = some (.int .i64 x6_2) := (zb zC.1 0).trans rfl
            have hcz36_1 : w34.cell? ⟨gb271, 1, none⟩ = some (.int .i64 zA) := (zb zC.1 1).trans rfl
            have hfz36_0 := zl zC.1 0
            have hfz36_1 := zl zC.1 1
            try go_wp2
            go_roundg k3
            case measure => have := HK1.1; have := HK2.1; have := HK3.1; omega
            case rel => exact ⟨(wrap64 (zA + 1)), H', ⟨by have := HK1.1; have := HK2.1; have := HK3.1; omega⟩, ⟨by (with_reducible repeat (first | apply zk | apply zj | apply zi)); exact zw (Kd.R_far (p := ⟨gb271, 1, none⟩) (zw HO_3.1 (fun k_ hk => (⟨hk, hk⟩ : _ ∧ k_ ≠ gb271))) (fun _ hk => hk.2) (.int .i64 (wrap64 (zA + 1)))) (fun _ hk => hk.1)⟩, ⟨by (with_reducible repeat (first | refine zc ?_ _ | refine zd ?_ | refine ze ?_ _)); refine blk_far ?_ zE.1 _; (with_reducible repeat (first | refine zc ?_ _ | refine zd ?_ | refine ze ?_ _)); exact zD.1⟩, ⟨by (with_reducible repeat (first | refine zc ?_ _ | refine zd ?_ | refine ze ?_ _)); refine blk_put (cs := #[.int .i64 x6_2, .int .i64 zA]) ?_ 1 _ rfl; (with_reducible repeat (first | refine zc ?_ _ | refine zd ?_ | refine ze ?_ _)); exact zC.1⟩, ⟨by repeat (first | (with_reducible first | exact HB.1 | apply zg | apply za | apply zf | refine zh ?_ zF.1 | refine zh ?_ zH.1) | exact HB.1)⟩⟩
        ·
         rw [if_neg c9] at H
         have c9b0 : decide (x6_2 ≤ ((rd_T74 l0 zB).f1)) = false := decide_eq_false c9
         clear c9
         have H' := Aside0.mk H
         clear H
         have hcz37_0 : wr.cell? ⟨gb270, 0, none⟩ = some (.int .i64 ((rd_T74 l0 zB).f0)) := (zb zD.1 0).trans rfl
         have hcz37_1 : wr.cell? ⟨gb270, 1, none⟩ = some (.int .i64 ((rd_T74 l0 zB).f1)) := (zb zD.1 1).trans rfl
         have hfz37_0 := zl zD.1 0
         have hfz37_1 := zl zD.1 1
         go_wp2
         go_roundg k2
         case measure => have := HK1.1; have := HK2.1; omega
         case rel => exact ⟨(x3_2), (wrap64 (zB + 1)), (by first | rfl | (simp; done) | (simp [*]; done)), H', ⟨by have := HK1.1; have := HK2.1; omega⟩, ⟨by (with_reducible repeat (first | apply zk | apply zj | apply zi)); exact HO_3.1⟩, ⟨by repeat (first | (with_reducible first | exact HB.1 | apply zg | apply za | apply zf | refine zh ?_ zF.1) | exact HB.1)⟩⟩
     ·
      rw [if_neg c6] at H
      exact absurd H (by simp)
    ·
     rw [if_neg c5] at H
     exact absurd H (by simp)
   ·
    rw [if_neg c4] at H
    have c4b0 : decide (zB < (l0.length : Int)) = false := decide_eq_false c4
    clear c4
    obtain rfl := Option.some.inj H
    go_wp2
    go_ret
    exact ⟨_, by first | rfl | (simp [errW_none, errW_some] <;> rfl) | (simp [*, errW_none, errW_some] <;> rfl), by (with_reducible repeat (first | apply zk | apply zj | apply zi)); exact HO_3.1, by repeat (first | (with_reducible first | exact HB.1 | apply zg | apply za | apply zf) | exact HB.1)⟩

/-! ### cmp_Or_int: function 90 -/
def cmp_Or_int.l0 : Nat → Int → List Int → Int → Int → Option (Int)
 | 0, _, _, _, _ => none
 | k + 1, x3, x6, x7, x8 => if x8 < x7 then (if 0 ≤ x8 then (if x8 < (x6.length : Int) then (if (rd x6 x8) = x3 then (cmp_Or_int.l0 k x3 x6 x7 (wrap64 (x8 + 1))) else (some (rd x6 x8))) else (none)) else (none)) else (some x3)
def cmp_Or_int.f (k : Nat) (l0 : List Int) : Option (Int) := cmp_Or_int.l0 k 0 l0 (l0.length : Int) 0
theorem cmp_Or_int.mono_l : ∀ k, (∀ y0 y1 y2 y3, LeO (cmp_Or_int.l0 k y0 y1 y2 y3) (cmp_Or_int.l0 (k + 1) y0 y1 y2 y3))
 | 0 => fun _ _ _ _ r h => by simp [cmp_Or_int.l0] at h
 | k + 1 => by
  have ih0 := cmp_Or_int.mono_l k
  ·
   intro y0 y1 y2 y3
   unfold cmp_Or_int.l0
   repeat' first
   | (with_reducible exact ih0 _ _ _ _)
   | (with_reducible exact LeO.refl _)
   | (with_reducible exact zr _)
   | (with_reducible refine zv ?_ ?_)
   | (with_reducible refine zs ?_ (fun _ => ?_))
   | exact ih0 _ _ _ _
   | exact zr _
   | refine zv ?_ ?_
   | refine zs ?_ (fun _ => ?_)
theorem cmp_Or_int.mono : ∀ a0 k, LeO (cmp_Or_int.f k a0) (cmp_Or_int.f (k + 1) a0) := by
 intro a0 k
 have ih0 := cmp_Or_int.mono_l k
 unfold cmp_Or_int.f
 repeat' first
   | (with_reducible exact ih0 _ _ _ _)
   | (with_reducible exact LeO.refl _)
   | (with_reducible exact zr _)
   | (with_reducible refine zv ?_ ?_)
   | (with_reducible refine zs ?_ (fun _ => ?_))
   | exact ih0 _ _ _ _
   | exact zr _
   | refine zv ?_ ?_
   | refine zs ?_ (fun _ => ?_)
set_option maxHeartbeats 8000000 in
set_option maxRecDepth 100000 in
theorem cmp_Or_int.calls (k : Nat) (A0 : Option Addr) (c0 : Nat) (l0 : List Int) (r : Int) (w : World) (hr0 : Kd.C (Kd.int .i64) w A0 l0.length l0) (hc0 : l0.length ≤ c0) (h : cmp_Or_int.f k l0 = some r) :
  Calls Try.prog 90 #[.slice A0 l0.length c0] w fun e w' => e = .returned (.int .i64 r) ∧ Drawn0 w w' := by
 have HR0 := Aside0.mk hr0
 have HC0 := Aside0.mk hc0
 clear hr0 hc0
 have H : (cmp_Or_int.l0 k 0 l0 (l0.length : Int) 0) = some r := h
 clear h
 have H' := Aside0.mk H
 clear H
 go_enter Try.func90, Try.ntmps90
 go_wp2
 go_loopg [8] k (fun kq v8 w' => ∃ (x8_1 : Int), v8 = .int .i64 x8_1 ∧ zt (cmp_Or_int.l0 kq 0 l0 (l0.length : Int) x8_1 = some r) ∧ zt (kq ≤ k) ∧ Drawn0 w w')
 case atStart => exact ⟨(0), (by first | rfl | (simp; done) | (simp [*]; done)), H', ⟨Nat.le_refl _⟩, by repeat (first | exact Drawn0.refl _ | apply Drawn0.step)⟩
 case round =>
  clear H'
  obtain ⟨x8_1, rfl, HA, HK1, ⟨m1, rfl⟩⟩ := hrel
  cases gk with
  | zero => exact absurd HA.1 (by simp [cmp_Or_int.l0])
  | succ k1 =>
   have H := HA.1
   clear HA
   simp only [cmp_Or_int.l0] at H
   by_cases c2 : x8_1 < (l0.length : Int)
   ·
    rw [if_pos c2] at H
    have c2b0 : decide (x8_1 < (l0.length : Int)) = true := decide_eq_true c2
    clear c2
    by_cases c3 : 0 ≤ x8_1
    ·
     rw [if_pos c3] at H
     have c3b0 : decide (0 ≤ x8_1) = true := decide_eq_true c3
     clear c3
     by_cases c4 : x8_1 < (l0.length : Int)
     ·
      rw [if_pos c4] at H
      have c4b0 : decide (x8_1 < (l0.length : Int)) = true := decide_eq_true c4
      clear c4
      by_cases c5 : (rd l0 x8_1) = 0
      ·
       rw [if_pos c5] at H
       have c5b0 : ((rd l0 x8_1) == 0) = true := beq_iff_eq.mpr c5
       have c5b1 : ((rd l0 x8_1) != 0) = false := bne_eq_false_iff_eq.mpr c5
       clear c5
       have H' := Aside0.mk H
       clear H
       have p278 : 0 ≤ (x8_1 : Int) := of_decide_eq_true (by first | (with_reducible assumption) | assumption)
       have q278 : x8_1 < (l0.length : Int) := of_decide_eq_true (by first | (with_reducible assumption) | assumption)
       obtain ⟨ad278, e278, hx278_0⟩ := Kd.at_int HR0.1 x8_1 p278 q278
       cases e278
       replace p278 := eq_true p278
       replace q278 := eq_true q278
       go_wp2
       go_roundg k1
       case measure => have := HK1.1; omega
       case rel => exact ⟨(wrap64 (x8_1 + 1)), (by first | rfl | (simp; done) | (simp [*]; done)), H', ⟨by have := HK1.1; omega⟩, by repeat (first | exact Drawn0.refl _ | apply Drawn0.step)⟩
      ·
       rw [if_neg c5] at H
       have c5b0 : ((rd l0 x8_1) == 0) = false := beq_eq_false_iff_ne.mpr c5
       have c5b1 : ((rd l0 x8_1) != 0) = true := bne_iff_ne.mpr c5
       obtain rfl := Option.some.inj H
       have p278 : 0 ≤ (x8_1 : Int) := of_decide_eq_true (by first | (with_reducible assumption) | assumption)
       have q278 : x8_1 < (l0.length : Int) := of_decide_eq_true (by first | (with_reducible assumption) | assumption)
       obtain ⟨ad278, e278, hx278_0⟩ := Kd.at_int HR0.1 x8_1 p278 q278
       cases e278
       replace p278 := eq_true p278
       replace q278 := eq_true q278
       go_wp2
       go_ret
       exact ⟨by first | rfl | (simp; done) | (simp [*]; done), by repeat (first | exact Drawn0.refl _ | apply Drawn0.step)⟩
     ·
      rw [if_neg c4] at H
      exact absurd H (by simp)
    ·
     rw [if_neg c3] at H
     exact absurd H (by simp)
   ·
    rw [if_neg c2] at H
    have c2b0 : decide (x8_1 < (l0.length : Int)) = false := decide_eq_false c2
    clear c2
    obtain rfl := Option.some.inj H
    go_wp2
    go_ret
    exact ⟨by first | rfl | (simp; done) | (simp [*]; done), by repeat (first | exact Drawn0.refl _ | apply Drawn0.step)⟩

/-! ### cmp_isNaN_int: function 96 -/
def cmp_isNaN_int.f (a0 : Int) : Option (Bool) := some (a0 != a0)
set_option maxHeartbeats 8000000 in
set_option maxRecDepth 100000 in
theorem cmp_isNaN_int.calls (a0 : Int) (r : Bool) (w : World) (h : cmp_isNaN_int.f a0 = some r) :
  Calls Try.prog 96 #[.int .i64 a0] w fun e w' => e = .returned (.bool r) ∧ Drawn0 w w' := by
 have H : (some (a0 != a0)) = some r := h
 clear h
 obtain rfl := Option.some.inj H
 go_enter Try.func96, Try.ntmps96
 go_wp2
 go_ret
 exact ⟨by first | rfl | (simp; done) | (simp [*]; done), by repeat (first | exact Drawn0.refl _ | apply Drawn0.step)⟩

end Go.Proofs.Ytabejlfejlpkeaa.PFnExactCutPrefix
