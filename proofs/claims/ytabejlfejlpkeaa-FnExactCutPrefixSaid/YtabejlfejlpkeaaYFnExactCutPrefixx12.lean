/- Written by this session's own program over the kit's print: Lean functions that tell what Go functions answer, each with a proof that the call does so. No condition but what each statement says. -/
import Derived.Test.YtabejlfejlpkeaaYFnExactCutPrefixx0
import Derived.Test.YtabejlfejlpkeaaYFnExactCutPrefixx7
import Derived.Test.YtabejlfejlpkeaaYFnExactCutPrefixx8
import Derived.Test.YtabejlfejlpkeaaYFnExactCutPrefixx11
namespace Go.Proofs.Ytabejlfejlpkeaa.PFnExactCutPrefix
open Go.RowKit Go.Proofs.YtabejlfejlpkeaaW.PrintWords Go.Proofs.YtabejlfejlpkeaaW.PrintLast Go.Proofs.YtabejlfejlpkeaaW.PrintMore
open Go.Proofs.YtabejlfejlpkeaaW.PrintLast renaming i64_w → zA, i32_w → zB
open Go.Proofs.YtabejlfejlpkeaaW.PrintWords renaming pw_below_drewN → za, blk_drewN → zb, blk_alloc → zc, blk_drew → zd, below_drew1 → ze, below_alloc → zf, below_set → zg, below_size → zk, blk_cell → zl, blk_frozen → zm, below_step → zo, blk_far → zp, blk_below → zq, blk_put → zr, Aside0 → zw, blk_lt → zy, gate_dst → zz
open Go.Proofs.YtabejlfejlpkeaaW.PrintWords.Kd renaming R_drewN → zh, R_alloc → zi, R_drew → zj, R_mono → zn, R_below → zs, R_far → zv
open Go.Proofs.YtabejlfejlpkeaaW.PrintWords.LeO renaming none → zt, bind → zu, ite → zx
attribute [local go_sem] max2_int min2_int max_two min_two max_three min_three max_four min_four   -- for this text's walks alone
set_option linter.unusedVariables false
set_option linter.unusedSimpArgs false

/-! ### impl_setOf: function 65 -/
def impl_setOf.f (l0 : List (S45)) : Option ((List (S45)) × Bool) := if (l0.length : Int) > 64 then (some (([] : List (S45)), false)) else (some (l0, true))
set_option maxHeartbeats 8000000 in
set_option maxRecDepth 100000 in
theorem impl_setOf.calls (P0_ : Nat → Prop) (u9000_ : Value) (l0 : List (S45)) (r1 : List (S45)) (r2 : Bool) (w0 w : World) (hB : Below w0.heap.size w0 w) (ho0 : Kd.R k45 45 w w0.heap.size P0_ u9000_ l0) (h : impl_setOf.f l0 = some (r1, r2)) :
  Calls Try.prog 65 #[u9000_] w fun e w' => ∃ v0_ : Value, e = .returned (.tuple #[v0_, .bool r2]) ∧ Kd.R k45 45 w' w0.heap.size (fun k_ => (P0_ k_ ∨ w.heap.size ≤ k_)) v0_ r1 ∧ Below w0.heap.size w0 w' ∧ Kept w w' (fun k_ => P0_ k_) := by
 have HO0 := Aside0.mk (show Kd.R k45 45 w w0.heap.size (fun k_ => (P0_ k_ ∨ w.heap.size ≤ k_)) u9000_ l0 from zn ho0 (fun k_ hk => (.inl hk)))
 have HK := Aside0.mk (Kept.refl w (fun k_ => P0_ k_))
 have HW0 := Aside0.mk hB.size
 have HB := Aside0.mk hB
 clear hB
 have H : (if (l0.length : Int) > 64 then (some (([] : List (S45)), false)) else (some (l0, true))) = some (r1, r2) := h
 clear h
 by_cases c2 : (l0.length : Int) > 64
 ·
  rw [if_pos c2] at H
  have c2b0 : decide (64 < (l0.length : Int)) = true := decide_eq_true c2
  have c2b1 : decide (64 < l0.length) = true := decide_eq_true (by omega)
  clear c2
  simp only [Option.some.injEq, Prod.mk.injEq] at H
  obtain ⟨rfl, rfl⟩ := H
  obtain ⟨Ao3, co3, eo3⟩ := Kd.R_slice HO0.1
  subst eo3
  go_enter Try.func65, Try.ntmps65
  go_wp2
  go_ret2
  exact ⟨_, by first | rfl | (simp [errW_none, errW_some] <;> rfl) | (simp [*, errW_none, errW_some] <;> rfl), by first | exact Kd.R_nil _ _ _ _ _ | exact Kd.N_nil _ _ _ _ _ | exact Kd.V_nil _ _ _ _ _ | exact Kd.Q_nil _ _ _ _ _ | exact Kd.S_nil _ _ _ _ _, by repeat (first | (with_reducible first | exact HB.1 | apply zf | apply za | apply ze) | exact HB.1), by repeat (first | (with_reducible first | exact HK.1 | apply Kept.alloc | apply Kept.drewN | apply Kept.drew) | exact HK.1)⟩
 ·
  rw [if_neg c2] at H
  have c2b0 : decide (64 < (l0.length : Int)) = false := decide_eq_false c2
  have c2b1 : decide (64 < l0.length) = false := decide_eq_false (by omega)
  clear c2
  simp only [Option.some.injEq, Prod.mk.injEq] at H
  obtain ⟨rfl, rfl⟩ := H
  obtain ⟨Ao4, co4, eo4⟩ := Kd.R_slice HO0.1
  subst eo4
  go_enter Try.func65, Try.ntmps65
  go_wp2
  go_ret2
  exact ⟨_, by first | rfl | (simp [errW_none, errW_some] <;> rfl) | (simp [*, errW_none, errW_some] <;> rfl), by (with_reducible repeat (first | apply zi | apply zh | apply zj)); exact HO0.1, by repeat (first | (with_reducible first | exact HB.1 | apply zf | apply za | apply ze) | exact HB.1), by repeat (first | (with_reducible first | exact HK.1 | apply Kept.alloc | apply Kept.drewN | apply Kept.drew) | exact HK.1)⟩

/-! ### impl_meet: function 67 -/
mutual
def impl_meet.l0 : Nat → List (S74) → List (S74) → List (S74) → Int → Int → Option ((List (S74)))
 | 0, _, _, _, _, _ => none
 | k + 1, x1, x5, x12, x13, x14 => if x14 < x13 then (if 0 ≤ x14 then (if x14 < (x12.length : Int) then (impl_meet.l1 k x1 x5 x12 x13 x14 x1 (x1.length : Int) 0 ((rd_T74 x12 x14).f0) ((rd_T74 x12 x14).f1)) else (none)) else (none)) else (some x5)
def impl_meet.l1 : Nat → List (S74) → List (S74) → List (S74) → Int → Int → List (S74) → Int → Int → Int → Int → Option ((List (S74)))
 | 0, _, _, _, _, _, _, _, _, _, _ => none
 | k + 1, x1, x5, x12, x13, x14, x18, x19, x20, x310000, x310001 => if x20 < x19 then (if 0 ≤ x20 then (if x20 < (x18.length : Int) then (if (mx x310000 ((rd_T74 x18 x20).f0)) ≤ (mn x310001 ((rd_T74 x18 x20).f1)) then (if x5.length < 8796093022208 then (impl_meet.l1 k x1 (x5 ++ [(⟨mx x310000 ((rd_T74 x18 x20).f0), mn x310001 ((rd_T74 x18 x20).f1)⟩ : S74)]) x12 x13 x14 x18 x19 (wrap64 (x20 + 1)) x310000 x310001) else (none)) else (impl_meet.l1 k x1 x5 x12 x13 x14 x18 x19 (wrap64 (x20 + 1)) x310000 x310001)) else (none)) else (none)) else (impl_meet.l0 k x1 x5 x12 x13 (wrap64 (x14 + 1)))
end
def impl_meet.f (k : Nat) (l0 : List (S74)) (l1 : List (S74)) : Option ((List (S74))) := impl_meet.l0 k l1 (([] : List (S74))) l0 (l0.length : Int) 0
theorem impl_meet.mono_l : ∀ k, (∀ y0 y1 y2 y3 y4, LeO (impl_meet.l0 k y0 y1 y2 y3 y4) (impl_meet.l0 (k + 1) y0 y1 y2 y3 y4)) ∧ (∀ y0 y1 y2 y3 y4 y5 y6 y7 y8 y9, LeO (impl_meet.l1 k y0 y1 y2 y3 y4 y5 y6 y7 y8 y9) (impl_meet.l1 (k + 1) y0 y1 y2 y3 y4 y5 y6 y7 y8 y9))
 | 0 => ⟨fun _ _ _ _ _ r h => by simp [impl_meet.l0] at h, fun _ _ _ _ _ _ _ _ _ _ r h => by simp [impl_meet.l1] at h⟩
 | k + 1 => by
  obtain ⟨ih0, ih1⟩ := impl_meet.mono_l k
  refine ⟨?_, ?_⟩
  ·
   intro y0 y1 y2 y3 y4
   unfold impl_meet.l0
   repeat' first
   | (with_reducible exact ih0 _ _ _ _ _)
   | (with_reducible exact ih1 _ _ _ _ _ _ _ _ _ _)
   | (with_reducible exact LeO.refl _)
   | (with_reducible exact zt _)
   | (with_reducible refine zx ?_ ?_)
   | (with_reducible refine zu ?_ (fun _ => ?_))
   | exact ih0 _ _ _ _ _
   | exact ih1 _ _ _ _ _ _ _ _ _ _
   | exact zt _
   | refine zx ?_ ?_
   | refine zu ?_ (fun _ => ?_)
  ·
   intro y0 y1 y2 y3 y4 y5 y6 y7 y8 y9
   unfold impl_meet.l1
   repeat' first
   | (with_reducible exact ih0 _ _ _ _ _)
   | (with_reducible exact ih1 _ _ _ _ _ _ _ _ _ _)
   | (with_reducible exact LeO.refl _)
   | (with_reducible exact zt _)
   | (with_reducible refine zx ?_ ?_)
   | (with_reducible refine zu ?_ (fun _ => ?_))
   | exact ih0 _ _ _ _ _
   | exact ih1 _ _ _ _ _ _ _ _ _ _
   | exact zt _
   | refine zx ?_ ?_
   | refine zu ?_ (fun _ => ?_)
theorem impl_meet.mono : ∀ a0 a1 k, LeO (impl_meet.f k a0 a1) (impl_meet.f (k + 1) a0 a1) := by
 intro a0 a1 k
 obtain ⟨ih0, ih1⟩ := impl_meet.mono_l k
 unfold impl_meet.f
 repeat' first
   | (with_reducible exact ih0 _ _ _ _ _)
   | (with_reducible exact ih1 _ _ _ _ _ _ _ _ _ _)
   | (with_reducible exact LeO.refl _)
   | (with_reducible exact zt _)
   | (with_reducible refine zx ?_ ?_)
   | (with_reducible refine zu ?_ (fun _ => ?_))
   | exact ih0 _ _ _ _ _
   | exact ih1 _ _ _ _ _ _ _ _ _ _
   | exact zt _
   | refine zx ?_ ?_
   | refine zu ?_ (fun _ => ?_)
set_option maxHeartbeats 8000000 in
set_option maxRecDepth 100000 in
theorem impl_meet.calls (k : Nat) (A0 : Option Addr) (c0 : Nat) (l0 : List (S74)) (A1 : Option Addr) (c1 : Nat) (l1 : List (S74)) (r : List (S74)) (w : World) (hr0 : Kd.C k74 w A0 l0.length l0) (hc0 : l0.length ≤ c0) (hr1 : Kd.C k74 w A1 l1.length l1) (hc1 : l1.length ≤ c1) (h : impl_meet.f k l0 l1 = some r) :
  Calls Try.prog 67 #[.slice A0 l0.length c0, .slice A1 l1.length c1] w fun e w' => ∃ v0_ : Value, e = .returned (v0_) ∧ Kd.R k74 74 w' w.heap.size (fun _ => True) v0_ r ∧ Below w.heap.size w w' := by
 have hu74 := Try.underlying74
 have HR0 := Aside0.mk hr0
 have HC0 := Aside0.mk hc0
 clear hr0 hc0
 have HR1 := Aside0.mk hr1
 have HC1 := Aside0.mk hc1
 clear hr1 hc1
 have HB := Aside0.mk (Below.refl w.heap.size w)
 have H : (impl_meet.l0 k l1 (([] : List (S74))) l0 (l0.length : Int) 0) = some r := h
 clear h
 obtain ⟨y305, hy305⟩ : ∃ y_ : List (S74), y_ = (([] : List (S74))) := ⟨_, rfl⟩
 replace H : (impl_meet.l0 k l1 y305 l0 (l0.length : Int) 0) = some r := by first | (rw [hy305]; with_reducible exact H) | (have H2_ := (Option.bind_some _ _).symm.trans H; rw [hy305]; with_reducible exact H2_) | (have H2_ := (Option.bind_some _ _).symm.trans H; with_reducible exact H2_) | with_reducible exact H | (rw [hy305]; exact H) | exact H
 have Ny305 := Aside0.mk hy305
 clear hy305
 have H' := Aside0.mk H
 clear H
 go_enter Try.func67, Try.ntmps67
 go_wp2_with (first | ((with_reducible refine zz (N := 11) rfl ?_); refine Kd.R_lit k74 _ 74 ?hg (N := 11) ?hd (xs := ([] : List (S74))) (inner := []) (ok := fun _ => True) (okp := fun _ => True) ?hr ?hp (fun _ hk => hk) trivial (Below.refl _ _) (Nat.le_refl _) (by simp) ?_; (case hd => rfl); (case hg => rfl); (case hr => first | (go_simp; done) | (go_simp; rfl)); (case hp => exact (Reps.none _ _)); intro v306 w3 ho4 hb hg_ hnew_; clear hg_ hnew_; (first | rw [← Ny305.1] at ho4 | (simp only [Int.reduceToNat] at ho4; rw [← Ny305.1] at ho4)); have n0_ := Aside0.mk (Kd.R_lower ho4 (zk (by repeat (first | (with_reducible first | exact HB.1 | apply zf | apply za | apply ze) | exact HB.1)))); have n1_ := Aside0.mk (zo (by repeat (first | (with_reducible first | exact HB.1 | apply zf | apply za | apply ze) | exact HB.1)) hb); clear HB; have HO307 := n0_; have HB := n1_; clear n0_ n1_; clear hb ho4))
 go_loopg [5, 14] k (fun kq v5 v14 w' => ∃ (x5_1 : List (S74)) (zC : Int), v14 = .int .i64 zC ∧ zw (impl_meet.l0 kq l1 x5_1 l0 (l0.length : Int) zC = some r) ∧ zw (kq ≤ k) ∧ zw (Kd.R k74 74 w' w.heap.size (fun _ => True) v5 x5_1) ∧ zw (Below w.heap.size w w'))
 case atStart => exact ⟨(y305), (0), (by first | rfl | (simp; done) | (simp [*]; done)), H', ⟨Nat.le_refl _⟩, ⟨by (with_reducible repeat (first | apply zi | apply zh | apply zj)); exact HO307.1⟩, ⟨by repeat (first | (with_reducible first | exact HB.1 | apply zf | apply za | apply ze) | exact HB.1)⟩⟩
 case round =>
  clear H'
  (try clear c1); (try clear p2)
  obtain ⟨x5_1, zC, rfl, HA, HK1, HO_5, HB⟩ := hrel
  cases gk with
  | zero => exact absurd HA.1 (by simp [impl_meet.l0])
  | succ k1 =>
   have H := HA.1
   clear HA
   simp only [impl_meet.l0] at H
   by_cases c5 : zC < (l0.length : Int)
   ·
    rw [if_pos c5] at H
    have c5b0 : decide (zC < (l0.length : Int)) = true := decide_eq_true c5
    clear c5
    by_cases c6 : 0 ≤ zC
    ·
     rw [if_pos c6] at H
     have c6b0 : decide (0 ≤ zC) = true := decide_eq_true c6
     clear c6
     by_cases c7 : zC < (l0.length : Int)
     ·
      rw [if_pos c7] at H
      have c7b0 : decide (zC < (l0.length : Int)) = true := decide_eq_true c7
      clear c7
      have H' := Aside0.mk H
      clear H
      have p308 : 0 ≤ (zC : Int) := of_decide_eq_true (by first | (with_reducible assumption) | assumption)
      have q308 : zC < (l0.length : Int) := of_decide_eq_true (by first | (with_reducible assumption) | assumption)
      obtain ⟨ad308, e308, hx308_0, hx308_1⟩ := at_T74 HR0.1 zC p308 q308
      cases e308
      replace hx308_0 := (HB.1.cell (World.block_lt_of_cell? w _ hx308_0)).trans hx308_0
      replace hx308_1 := (HB.1.cell (World.block_lt_of_cell? w _ hx308_1)).trans hx308_1
      replace p308 := eq_true p308
      replace q308 := eq_true q308
      go_wp2_with (first | ((with_reducible refine zz (N := 7) rfl ?_); refine box_event ?hg (N := 7) ?hd (cs := #[.int .i64 0, .int .i64 0]) (t := 74) ?hr ?_; (case hd => rfl); (case hg => rfl); (case hr => first | (go_simp; done) | (go_simp; rfl)); intro gb309 hg w8 hbox hb; have n0_ := Aside0.mk (zs (Kd.R_elderB (by (with_reducible repeat (first | apply zi | apply zh | apply zj)); exact HO_5.1) gb309 (Nat.le_of_eq hg.symm)) hb); have n1_ := Aside0.mk (zo (by repeat (first | (with_reducible first | exact HB.1 | apply zf | apply za | apply ze) | exact HB.1)) hb); have n2_ := Aside0.mk (hbox); have n3_ := Aside0.mk ((by rw [hg]; exact (zk (by repeat (first | (with_reducible first | exact HB.1 | apply zf | apply za | apply ze) | exact HB.1))) : w.heap.size ≤ gb309)); have n4_ := Aside0.mk ((by rw [hg]; exact (zk (by repeat (first | (with_reducible first | exact HB.1 | apply zf | apply za | apply ze) | exact HB.1))) : w.heap.size ≤ gb309)); clear HO_5; clear HB; have HO_5 := n0_; have HB := n1_; have zF := n2_; have GW309 := n3_; have zJ := n4_; clear n0_ n1_ n2_ n3_ n4_; clear hb hbox hg; have hcz9_0 : w8.cell? ⟨gb309, 0, none⟩ = some (.int .i64 0) := (zl zF.1 0).trans rfl; have hcz9_1 : w8.cell? ⟨gb309, 1, none⟩ = some (.int .i64 0) := (zl zF.1 1).trans rfl; have hfz9_0 := zm zF.1 0; have hfz9_1 := zm zF.1 1))
      go_loopg [5, 20] k1 (fun kq v5 v20 w' => ∃ (x5_2 : List (S74)) (zD : Int), v20 = .int .i64 zD ∧ zw (impl_meet.l1 kq l1 x5_2 l0 (l0.length : Int) zC l1 (l1.length : Int) zD ((rd_T74 l0 zC).f0) ((rd_T74 l0 zC).f1) = some r) ∧ zw (kq ≤ k1) ∧ zw (Kd.R k74 74 w' w.heap.size (fun k_ => k_ ≠ gb309) v5 x5_2) ∧ zw (w'.heap[gb309]? = some (.cells #[.int .i64 ((rd_T74 l0 zC).f0), .int .i64 ((rd_T74 l0 zC).f1)] 74 (0, 0))) ∧ zw (Below w.heap.size w w'))
      case atStart => exact ⟨(x5_1), (0), (by first | rfl | (simp; done) | (simp [*]; done)), H', ⟨Nat.le_refl _⟩, ⟨by (with_reducible repeat (first | apply zi | apply zh | apply zj)); exact zn (zv (p := ⟨gb309, 1, none⟩) (zv (p := ⟨gb309, 0, none⟩) (zn HO_5.1 (fun k_ hk => (⟨hk, hk.2⟩ : _ ∧ k_ ≠ gb309))) (fun _ hk => hk.2) (.int .i64 ((rd_T74 l0 zC).f0))) (fun _ hk => hk.2) (.int .i64 ((rd_T74 l0 zC).f1))) (fun _ hk => hk.1.2)⟩, ⟨by (with_reducible repeat (first | refine zb ?_ _ | refine zd ?_ | refine zc ?_ _)); refine zr (cs := #[.int .i64 ((rd_T74 l0 zC).f0), .int .i64 0]) ?_ 1 _ rfl; (with_reducible repeat (first | refine zb ?_ _ | refine zd ?_ | refine zc ?_ _)); refine zr (cs := #[.int .i64 0, .int .i64 0]) ?_ 0 _ rfl; (with_reducible repeat (first | refine zb ?_ _ | refine zd ?_ | refine zc ?_ _)); exact zF.1⟩, ⟨by repeat (first | (with_reducible first | exact HB.1 | apply zf | apply za | apply ze | refine zg ?_ zJ.1) | exact HB.1)⟩⟩
      case round =>
       clear H'
       (try clear c1); (try clear p2); (try clear p3); (try clear q3); (try clear hx3); (try clear c5); (try clear c5b0); (try clear c6); (try clear c6b0); (try clear c7); (try clear c7b0); (try clear hcz9_0); (try clear hcz9_1); (try clear hfz9_0); (try clear hfz9_1); (try clear hx308_0); (try clear hx308_1); (try clear p2); (try clear p308); (try clear q308)
       obtain ⟨x5_2, zD, rfl, HA, HK2, HO_5, zF, HB⟩ := hrel
       cases gk with
       | zero => exact absurd HA.1 (by simp [impl_meet.l1])
       | succ k2 =>
        have H := HA.1
        clear HA
        simp only [impl_meet.l1] at H
        by_cases c10 : zD < (l1.length : Int)
        ·
         rw [if_pos c10] at H
         have c10b0 : decide (zD < (l1.length : Int)) = true := decide_eq_true c10
         clear c10
         by_cases c11 : 0 ≤ zD
         ·
          rw [if_pos c11] at H
          have c11b0 : decide (0 ≤ zD) = true := decide_eq_true c11
          clear c11
          by_cases c12 : zD < (l1.length : Int)
          ·
           rw [if_pos c12] at H
           have c12b0 : decide (zD < (l1.length : Int)) = true := decide_eq_true c12
           clear c12
           obtain ⟨ji13, hji13⟩ : ∃ j_ : Int, (mx ((rd_T74 l0 zC).f0) ((rd_T74 l1 zD).f0)) = j_ := ⟨_, rfl⟩
           replace H : (if (ji13) ≤ (mn ((rd_T74 l0 zC).f1) ((rd_T74 l1 zD).f1)) then (if x5_2.length < 8796093022208 then (impl_meet.l1 k2 l1 (x5_2 ++ [(⟨ji13, mn ((rd_T74 l0 zC).f1) ((rd_T74 l1 zD).f1)⟩ : S74)]) l0 (l0.length : Int) zC l1 (l1.length : Int) (wrap64 (zD + 1)) ((rd_T74 l0 zC).f0) ((rd_T74 l0 zC).f1)) else (none)) else (impl_meet.l1 k2 l1 x5_2 l0 (l0.length : Int) zC l1 (l1.length : Int) (wrap64 (zD + 1)) ((rd_T74 l0 zC).f0) ((rd_T74 l0 zC).f1))) = some r := by first | (rw [hji13] at H; exact H) | (simp only [hji13] at H ⊢; exact H)
           have hji13_ : (if ((rd_T74 l0 zC).f0) < ((rd_T74 l1 zD).f0) then ((rd_T74 l1 zD).f0) else ((rd_T74 l0 zC).f0)) = ji13 := hji13
           obtain ⟨ji14, hji14⟩ : ∃ j_ : Int, (mn ((rd_T74 l0 zC).f1) ((rd_T74 l1 zD).f1)) = j_ := ⟨_, rfl⟩
           replace H : (if (ji13) ≤ (ji14) then (if x5_2.length < 8796093022208 then (impl_meet.l1 k2 l1 (x5_2 ++ [(⟨ji13, ji14⟩ : S74)]) l0 (l0.length : Int) zC l1 (l1.length : Int) (wrap64 (zD + 1)) ((rd_T74 l0 zC).f0) ((rd_T74 l0 zC).f1)) else (none)) else (impl_meet.l1 k2 l1 x5_2 l0 (l0.length : Int) zC l1 (l1.length : Int) (wrap64 (zD + 1)) ((rd_T74 l0 zC).f0) ((rd_T74 l0 zC).f1))) = some r := by first | (rw [hji14] at H; exact H) | (simp only [hji14] at H ⊢; exact H)
           have hji14_ : (if ((rd_T74 l1 zD).f1) < ((rd_T74 l0 zC).f1) then ((rd_T74 l1 zD).f1) else ((rd_T74 l0 zC).f1)) = ji14 := hji14
           by_cases c15 : (ji13) ≤ (ji14)
           ·
            rw [if_pos c15] at H
            have c15b0 : decide ((ji13) ≤ (ji14)) = true := decide_eq_true c15
            clear c15
            by_cases c16 : x5_2.length < 8796093022208
            ·
             rw [if_pos c16] at H
             have LMc16 := Aside0.mk c16
             clear c16
             obtain ⟨y313, hy313⟩ : ∃ y_ : List (S74), y_ = (x5_2 ++ [(⟨ji13, ji14⟩ : S74)]) := ⟨_, rfl⟩
             replace H : (impl_meet.l1 k2 l1 y313 l0 (l0.length : Int) zC l1 (l1.length : Int) (wrap64 (zD + 1)) ((rd_T74 l0 zC).f0) ((rd_T74 l0 zC).f1)) = some r := by first | (rw [hy313]; with_reducible exact H) | (have H2_ := (Option.bind_some _ _).symm.trans H; rw [hy313]; with_reducible exact H2_) | (have H2_ := (Option.bind_some _ _).symm.trans H; with_reducible exact H2_) | with_reducible exact H | (rw [hy313]; exact H) | exact H
             have Ny313 := Aside0.mk hy313
             clear hy313
             have H' := Aside0.mk H
             clear H
             have p310 : 0 ≤ (zD : Int) := of_decide_eq_true (by first | (with_reducible assumption) | assumption)
             have q310 : zD < (l1.length : Int) := of_decide_eq_true (by first | (with_reducible assumption) | assumption)
             obtain ⟨ad310, e310, hx310_0, hx310_1⟩ := at_T74 HR1.1 zD p310 q310
             cases e310
             replace hx310_0 := (HB.1.cell (World.block_lt_of_cell? w _ hx310_0)).trans hx310_0
             replace hx310_1 := (HB.1.cell (World.block_lt_of_cell? w _ hx310_1)).trans hx310_1
             replace p310 := eq_true p310
             replace q310 := eq_true q310
             go_wp2_with (first | ((with_reducible refine zz (N := 9) rfl ?_); refine box_event ?hg (N := 9) ?hd (cs := #[.int .i64 0, .int .i64 0]) (t := 74) ?hr ?_; (case hd => rfl); (case hg => rfl); (case hr => first | (go_simp; done) | (go_simp; rfl)); intro gb311 hg w17 hbox hb; have n0_ := Aside0.mk (zs (Kd.R_elderB (by (with_reducible repeat (first | apply zi | apply zh | apply zj)); exact HO_5.1) gb311 (Nat.le_of_eq hg.symm)) hb); have n1_ := Aside0.mk (zq (g := gb309) (o := .cells #[.int .i64 ((rd_T74 l0 zC).f0), .int .i64 ((rd_T74 l0 zC).f1)] 74 (0, 0)) (by (with_reducible repeat (first | refine zb ?_ _ | refine zd ?_ | refine zc ?_ _)); exact zF.1) hb); have n2_ := Aside0.mk (zo (by repeat (first | (with_reducible first | exact HB.1 | apply zf | apply za | apply ze | refine zg ?_ zJ.1) | exact HB.1)) hb); have n3_ := Aside0.mk (hbox); have n4_ := Aside0.mk ((by rw [hg]; exact (zk (by repeat (first | (with_reducible first | exact HB.1 | apply zf | apply za | apply ze | refine zg ?_ zJ.1) | exact HB.1))) : w.heap.size ≤ gb311)); have n5_ := Aside0.mk ((by rw [hg]; exact (zk (by repeat (first | (with_reducible first | exact HB.1 | apply zf | apply za | apply ze | refine zg ?_ zJ.1) | exact HB.1))) : w.heap.size ≤ gb311)); have n6_ := Aside0.mk ((by rw [hg]; exact Nat.ne_of_lt (zy (g := gb309) (o := .cells #[.int .i64 ((rd_T74 l0 zC).f0), .int .i64 ((rd_T74 l0 zC).f1)] 74 (0, 0)) (by (with_reducible repeat (first | refine zb ?_ _ | refine zd ?_ | refine zc ?_ _)); exact zF.1)) : gb309 ≠ gb311)); have n7_ := Aside0.mk ((by rw [hg]; exact Nat.ne_of_gt (zy (g := gb309) (o := .cells #[.int .i64 ((rd_T74 l0 zC).f0), .int .i64 ((rd_T74 l0 zC).f1)] 74 (0, 0)) (by (with_reducible repeat (first | refine zb ?_ _ | refine zd ?_ | refine zc ?_ _)); exact zF.1)) : gb311 ≠ gb309)); clear HO_5; clear zF; clear HB; have HO_5 := n0_; have zF := n1_; have HB := n2_; have zH := n3_; have GW311 := n4_; have zP := n5_; have zG := n6_; have NB311_309 := n7_; clear n0_ n1_ n2_ n3_ n4_ n5_ n6_ n7_; clear hb hbox hg; have hnb18 := NB311_309.1; have hnc18 := zG.1; have hcz19_0 : w17.cell? ⟨gb311, 0, none⟩ = some (.int .i64 0) := (zl zH.1 0).trans rfl; have hcz19_1 : w17.cell? ⟨gb311, 1, none⟩ = some (.int .i64 0) := (zl zH.1 1).trans rfl; have hfz19_0 := zm zH.1 0; have hfz19_1 := zm zH.1 1; have hcz20_0 : w17.cell? ⟨gb309, 0, none⟩ = some (.int .i64 ((rd_T74 l0 zC).f0)) := (zl zF.1 0).trans rfl; have hcz20_1 : w17.cell? ⟨gb309, 1, none⟩ = some (.int .i64 ((rd_T74 l0 zC).f1)) := (zl zF.1 1).trans rfl; have hfz20_0 := zm zF.1 0; have hfz20_1 := zm zF.1 1) | ((with_reducible refine zz (N := 10) rfl ?_); refine box_event ?hg (N := 10) ?hd (cs := #[.int .i64 0, .int .i64 0]) (t := 74) ?hr ?_; (case hd => rfl); (case hg => rfl); (case hr => first | (go_simp; done) | (go_simp; rfl)); intro gb312 hg w21 hbox hb; have n0_ := Aside0.mk (zs (Kd.R_elderB (by (with_reducible repeat (first | apply zi | apply zh | apply zj)); exact (zn (zv (p := ⟨gb311, 1, none⟩) (zv (p := ⟨gb311, 0, none⟩) (zn HO_5.1 (fun k_ hk => (⟨hk, hk.2⟩ : _ ∧ k_ ≠ gb311))) (fun _ hk => hk.2) (.int .i64 ((rd_T74 l1 zD).f0))) (fun _ hk => hk.2) (.int .i64 ((rd_T74 l1 zD).f1))) (fun _ h_ => h_.1))) gb312 (Nat.le_of_eq hg.symm)) hb); have n1_ := Aside0.mk (zq (g := gb309) (o := .cells #[.int .i64 ((rd_T74 l0 zC).f0), .int .i64 ((rd_T74 l0 zC).f1)] 74 (0, 0)) (by (with_reducible repeat (first | refine zb ?_ _ | refine zd ?_ | refine zc ?_ _)); refine zp ?_ zG.1 _; (with_reducible repeat (first | refine zb ?_ _ | refine zd ?_ | refine zc ?_ _)); refine zp ?_ zG.1 _; (with_reducible repeat (first | refine zb ?_ _ | refine zd ?_ | refine zc ?_ _)); exact zF.1) hb); have n2_ := Aside0.mk (zq (g := gb311) (o := .cells #[.int .i64 ((rd_T74 l1 zD).f0), .int .i64 ((rd_T74 l1 zD).f1)] 74 (0, 0)) (by (with_reducible repeat (first | refine zb ?_ _ | refine zd ?_ | refine zc ?_ _)); refine zr (cs := #[.int .i64 ((rd_T74 l1 zD).f0), .int .i64 0]) ?_ 1 _ rfl; (with_reducible repeat (first | refine zb ?_ _ | refine zd ?_ | refine zc ?_ _)); refine zr (cs := #[.int .i64 0, .int .i64 0]) ?_ 0 _ rfl; (with_reducible repeat (first | refine zb ?_ _ | refine zd ?_ | refine zc ?_ _)); exact zH.1) hb); have n3_ := Aside0.mk (zo (by repeat (first | (with_reducible first | exact HB.1 | apply zf | apply za | apply ze | refine zg ?_ zJ.1 | refine zg ?_ zP.1) | exact HB.1)) hb); have n4_ := Aside0.mk (hbox); have n5_ := Aside0.mk ((by rw [hg]; exact (zk (by repeat (first | (with_reducible first | exact HB.1 | apply zf | apply za | apply ze | refine zg ?_ zJ.1 | refine zg ?_ zP.1) | exact HB.1))) : w.heap.size ≤ gb312)); have n6_ := Aside0.mk ((by rw [hg]; exact (zk (by repeat (first | (with_reducible first | exact HB.1 | apply zf | apply za | apply ze | refine zg ?_ zJ.1 | refine zg ?_ zP.1) | exact HB.1))) : w.heap.size ≤ gb312)); have n7_ := Aside0.mk ((by rw [hg]; exact Nat.ne_of_lt (zy (g := gb309) (o := .cells #[.int .i64 ((rd_T74 l0 zC).f0), .int .i64 ((rd_T74 l0 zC).f1)] 74 (0, 0)) (by (with_reducible repeat (first | refine zb ?_ _ | refine zd ?_ | refine zc ?_ _)); refine zp ?_ zG.1 _; (with_reducible repeat (first | refine zb ?_ _ | refine zd ?_ | refine zc ?_ _)); refine zp ?_ zG.1 _; (with_reducible repeat (first | refine zb ?_ _ | refine zd ?_ | refine zc ?_ _)); exact zF.1)) : gb309 ≠ gb312)); have n8_ := Aside0.mk ((by rw [hg]; exact Nat.ne_of_gt (zy (g := gb309) (o := .cells #[.int .i64 ((rd_T74 l0 zC).f0), .int .i64 ((rd_T74 l0 zC).f1)] 74 (0, 0)) (by (with_reducible repeat (first | refine zb ?_ _ | refine zd ?_ | refine zc ?_ _)); refine zp ?_ zG.1 _; (with_reducible repeat (first | refine zb ?_ _ | refine zd ?_ | refine zc ?_ _)); refine zp ?_ zG.1 _; (with_reducible repeat (first | refine zb ?_ _ | refine zd ?_ | refine zc ?_ _)); exact zF.1)) : gb312 ≠ gb309)); have n9_ := Aside0.mk ((by rw [hg]; exact Nat.ne_of_lt (zy (g := gb311) (o := .cells #[.int .i64 ((rd_T74 l1 zD).f0), .int .i64 ((rd_T74 l1 zD).f1)] 74 (0, 0)) (by (with_reducible repeat (first | refine zb ?_ _ | refine zd ?_ | refine zc ?_ _)); refine zr (cs := #[.int .i64 ((rd_T74 l1 zD).f0), .int .i64 0]) ?_ 1 _ rfl; (with_reducible repeat (first | refine zb ?_ _ | refine zd ?_ | refine zc ?_ _)); refine zr (cs := #[.int .i64 0, .int .i64 0]) ?_ 0 _ rfl; (with_reducible repeat (first | refine zb ?_ _ | refine zd ?_ | refine zc ?_ _)); exact zH.1)) : gb311 ≠ gb312)); have n10_ := Aside0.mk ((by rw [hg]; exact Nat.ne_of_gt (zy (g := gb311) (o := .cells #[.int .i64 ((rd_T74 l1 zD).f0), .int .i64 ((rd_T74 l1 zD).f1)] 74 (0, 0)) (by (with_reducible repeat (first | refine zb ?_ _ | refine zd ?_ | refine zc ?_ _)); refine zr (cs := #[.int .i64 ((rd_T74 l1 zD).f0), .int .i64 0]) ?_ 1 _ rfl; (with_reducible repeat (first | refine zb ?_ _ | refine zd ?_ | refine zc ?_ _)); refine zr (cs := #[.int .i64 0, .int .i64 0]) ?_ 0 _ rfl; (with_reducible repeat (first | refine zb ?_ _ | refine zd ?_ | refine zc ?_ _)); exact zH.1)) : gb312 ≠ gb311)); clear HO_5; clear zF; clear zH; clear HB; have HO_5 := n0_; have zF := n1_; have zH := n2_; have HB := n3_; have zN := n4_; have GW312 := n5_; have zS := n6_; have zI := n7_; have NB312_309 := n8_; have zK := n9_; have NB312_311 := n10_; clear n0_ n1_ n2_ n3_ n4_ n5_ n6_ n7_ n8_ n9_ n10_; clear hb hbox hg; have hnb22 := NB312_309.1; have hnc22 := zI.1; have hnb23 := NB312_311.1; have hnc23 := zK.1; have hcz24_0 : w21.cell? ⟨gb312, 0, none⟩ = some (.int .i64 0) := (zl zN.1 0).trans rfl; have hcz24_1 : w21.cell? ⟨gb312, 1, none⟩ = some (.int .i64 0) := (zl zN.1 1).trans rfl; have hfz24_0 := zm zN.1 0; have hfz24_1 := zm zN.1 1) | ((with_reducible refine gate_builtin (b := .append) (xs := #[.tmp 40, .tmp 42]) rfl ?_); at_builtin; refine Kd.R_append k74 (w0 := w) w.heap.size rfl (.tmp 40) (.tmp 42) 75 74 (.agg #[(.int .i64 0), (.int .i64 0)]) 16 rfl Try.underlying75 info74 rfl (by decide) (by omega) u5 x5_2 (⟨ji13, ji14⟩ : S74) [.int .i64 ji13, .int .i64 ji14] (fun k_ => k_ ≠ gb309 ∧ k_ ≠ gb311 ∧ k_ ≠ gb312) (fun _ => False) rfl (by first | (go_simp; done) | (go_simp; rfl)) ?aP (fun _ hk => hk.elim) ?aF ?aO ?aB ?aS ?aL ?_; (case aP => exact k74_mkM _ _ _ (⟨ji13, ji14⟩ : S74)); (case aB => exact (by repeat (first | (with_reducible first | exact HB.1 | apply zf | apply za | apply ze | refine zg ?_ zJ.1 | refine zg ?_ zP.1 | refine zg ?_ zS.1) | exact HB.1))); (case aF => exact (fun k_ hk => ⟨Kd.freshB (g := gb309) (o := .cells #[.int .i64 ((rd_T74 l0 zC).f0), .int .i64 ((rd_T74 l0 zC).f1)] 74 (0, 0)) (by (with_reducible repeat (first | refine zb ?_ _ | refine zd ?_ | refine zc ?_ _)); refine zp ?_ zI.1 _; (with_reducible repeat (first | refine zb ?_ _ | refine zd ?_ | refine zc ?_ _)); refine zp ?_ zI.1 _; (with_reducible repeat (first | refine zb ?_ _ | refine zd ?_ | refine zc ?_ _)); exact zF.1) k_ hk, Kd.freshB (g := gb311) (o := .cells #[.int .i64 ((rd_T74 l1 zD).f0), .int .i64 ((rd_T74 l1 zD).f1)] 74 (0, 0)) (by (with_reducible repeat (first | refine zb ?_ _ | refine zd ?_ | refine zc ?_ _)); refine zp ?_ zK.1 _; (with_reducible repeat (first | refine zb ?_ _ | refine zd ?_ | refine zc ?_ _)); refine zp ?_ zK.1 _; (with_reducible repeat (first | refine zb ?_ _ | refine zd ?_ | refine zc ?_ _)); exact zH.1) k_ hk, Kd.freshB (g := gb312) (o := .cells #[.int .i64 ji13, .int .i64 ji14] 74 (0, 0)) (by (with_reducible repeat (first | refine zb ?_ _ | refine zd ?_ | refine zc ?_ _)); refine zr (cs := #[.int .i64 ji13, .int .i64 0]) ?_ 1 _ rfl; (with_reducible repeat (first | refine zb ?_ _ | refine zd ?_ | refine zc ?_ _)); refine zr (cs := #[.int .i64 0, .int .i64 0]) ?_ 0 _ rfl; (with_reducible repeat (first | refine zb ?_ _ | refine zd ?_ | refine zc ?_ _)); exact zN.1) k_ hk⟩)); (case aO => exact (by (with_reducible repeat (first | apply zi | apply zh | apply zj)); exact zn (zv (p := ⟨gb312, 1, none⟩) (zv (p := ⟨gb312, 0, none⟩) (zn HO_5.1 (fun k_ hk => (⟨hk, hk.2⟩ : _ ∧ k_ ≠ gb312))) (fun _ hk => hk.2) (.int .i64 ji13)) (fun _ hk => hk.2) (.int .i64 ji14)) (fun _ hk => ⟨hk.1.1.1, ⟨hk.1.1.2, hk.1.2⟩⟩))); (case aS => exact (zk (by repeat (first | (with_reducible first | exact HB.1 | apply zf | apply za | apply ze | refine zg ?_ zJ.1 | refine zg ?_ zP.1 | refine zg ?_ zS.1) | exact HB.1)))); (case aL => have := LMc16.1; omega); intro v314 w25 ho hb hg hat; rw [← Ny313.1] at ho; have n0_ := Aside0.mk (blk_grown (g := gb309) (o := .cells #[.int .i64 ((rd_T74 l0 zC).f0), .int .i64 ((rd_T74 l0 zC).f1)] 74 (0, 0)) (by (with_reducible repeat (first | refine zb ?_ _ | refine zd ?_ | refine zc ?_ _)); refine zp ?_ zI.1 _; (with_reducible repeat (first | refine zb ?_ _ | refine zd ?_ | refine zc ?_ _)); refine zp ?_ zI.1 _; (with_reducible repeat (first | refine zb ?_ _ | refine zd ?_ | refine zc ?_ _)); exact zF.1) hg (Kd.R_away HO_5.1 (fun _ hk => hk.1.1))); have n1_ := Aside0.mk (blk_grown (g := gb311) (o := .cells #[.int .i64 ((rd_T74 l1 zD).f0), .int .i64 ((rd_T74 l1 zD).f1)] 74 (0, 0)) (by (with_reducible repeat (first | refine zb ?_ _ | refine zd ?_ | refine zc ?_ _)); refine zp ?_ zK.1 _; (with_reducible repeat (first | refine zb ?_ _ | refine zd ?_ | refine zc ?_ _)); refine zp ?_ zK.1 _; (with_reducible repeat (first | refine zb ?_ _ | refine zd ?_ | refine zc ?_ _)); exact zH.1) hg (Kd.R_away HO_5.1 (fun _ hk => hk.1.2))); have n2_ := Aside0.mk (blk_grown (g := gb312) (o := .cells #[.int .i64 ji13, .int .i64 ji14] 74 (0, 0)) (by (with_reducible repeat (first | refine zb ?_ _ | refine zd ?_ | refine zc ?_ _)); refine zr (cs := #[.int .i64 ji13, .int .i64 0]) ?_ 1 _ rfl; (with_reducible repeat (first | refine zb ?_ _ | refine zd ?_ | refine zc ?_ _)); refine zr (cs := #[.int .i64 0, .int .i64 0]) ?_ 0 _ rfl; (with_reducible repeat (first | refine zb ?_ _ | refine zd ?_ | refine zc ?_ _)); exact zN.1) hg (Kd.R_away HO_5.1 (fun _ hk => hk.2))); have n3_ := Aside0.mk (hb); have n4_ := Aside0.mk (ho); clear zF; clear zH; clear zN; clear HB; clear HO_5; have zF := n0_; have zH := n1_; have zN := n2_; have HB := n3_; have HO315 := n4_; clear n0_ n1_ n2_ n3_ n4_; clear ho hb hg hat))
             go_roundg k2
             case measure => have := HK1.1; have := HK2.1; omega
             case rel => exact ⟨(y313), (wrap64 (zD + 1)), (by first | rfl | (simp; done) | (simp [*]; done)), H', ⟨by have := HK1.1; have := HK2.1; omega⟩, ⟨by (with_reducible repeat (first | apply zi | apply zh | apply zj)); exact zn HO315.1 (fun _ hk => hk.1)⟩, ⟨by (with_reducible repeat (first | refine zb ?_ _ | refine zd ?_ | refine zc ?_ _)); exact zF.1⟩, ⟨by repeat (first | (with_reducible first | exact HB.1 | apply zf | apply za | apply ze | refine zg ?_ zJ.1 | refine zg ?_ zP.1 | refine zg ?_ zS.1) | exact HB.1)⟩⟩
            ·
             rw [if_neg c16] at H
             exact absurd H (by simp)
           ·
            rw [if_neg c15] at H
            have c15b0 : decide ((ji13) ≤ (ji14)) = false := decide_eq_false c15
            clear c15
            have H' := Aside0.mk H
            clear H
            have p310 : 0 ≤ (zD : Int) := of_decide_eq_true (by first | (with_reducible assumption) | assumption)
            have q310 : zD < (l1.length : Int) := of_decide_eq_true (by first | (with_reducible assumption) | assumption)
            obtain ⟨ad310, e310, hx310_0, hx310_1⟩ := at_T74 HR1.1 zD p310 q310
            cases e310
            replace hx310_0 := (HB.1.cell (World.block_lt_of_cell? w _ hx310_0)).trans hx310_0
            replace hx310_1 := (HB.1.cell (World.block_lt_of_cell? w _ hx310_1)).trans hx310_1
            replace p310 := eq_true p310
            replace q310 := eq_true q310
            go_wp2_with (first | ((with_reducible refine zz (N := 9) rfl ?_); refine box_event ?hg (N := 9) ?hd (cs := #[.int .i64 0, .int .i64 0]) (t := 74) ?hr ?_; (case hd => rfl); (case hg => rfl); (case hr => first | (go_simp; done) | (go_simp; rfl)); intro gb311 hg w26 hbox hb; have n0_ := Aside0.mk (zs (Kd.R_elderB (by (with_reducible repeat (first | apply zi | apply zh | apply zj)); exact HO_5.1) gb311 (Nat.le_of_eq hg.symm)) hb); have n1_ := Aside0.mk (zq (g := gb309) (o := .cells #[.int .i64 ((rd_T74 l0 zC).f0), .int .i64 ((rd_T74 l0 zC).f1)] 74 (0, 0)) (by (with_reducible repeat (first | refine zb ?_ _ | refine zd ?_ | refine zc ?_ _)); exact zF.1) hb); have n2_ := Aside0.mk (zo (by repeat (first | (with_reducible first | exact HB.1 | apply zf | apply za | apply ze | refine zg ?_ zJ.1) | exact HB.1)) hb); have n3_ := Aside0.mk (hbox); have n4_ := Aside0.mk ((by rw [hg]; exact (zk (by repeat (first | (with_reducible first | exact HB.1 | apply zf | apply za | apply ze | refine zg ?_ zJ.1) | exact HB.1))) : w.heap.size ≤ gb311)); have n5_ := Aside0.mk ((by rw [hg]; exact (zk (by repeat (first | (with_reducible first | exact HB.1 | apply zf | apply za | apply ze | refine zg ?_ zJ.1) | exact HB.1))) : w.heap.size ≤ gb311)); have n6_ := Aside0.mk ((by rw [hg]; exact Nat.ne_of_lt (zy (g := gb309) (o := .cells #[.int .i64 ((rd_T74 l0 zC).f0), .int .i64 ((rd_T74 l0 zC).f1)] 74 (0, 0)) (by (with_reducible repeat (first | refine zb ?_ _ | refine zd ?_ | refine zc ?_ _)); exact zF.1)) : gb309 ≠ gb311)); have n7_ := Aside0.mk ((by rw [hg]; exact Nat.ne_of_gt (zy (g := gb309) (o := .cells #[.int .i64 ((rd_T74 l0 zC).f0), .int .i64 ((rd_T74 l0 zC).f1)] 74 (0, 0)) (by (with_reducible repeat (first | refine zb ?_ _ | refine zd ?_ | refine zc ?_ _)); exact zF.1)) : gb311 ≠ gb309)); clear HO_5; clear zF; clear HB; have HO_5 := n0_; have zF := n1_; have HB := n2_; have zH := n3_; have GW311 := n4_; have zP := n5_; have zG := n6_; have NB311_309 := n7_; clear n0_ n1_ n2_ n3_ n4_ n5_ n6_ n7_; clear hb hbox hg; have hnb27 := NB311_309.1; have hnc27 := zG.1; have hcz28_0 : w26.cell? ⟨gb311, 0, none⟩ = some (.int .i64 0) := (zl zH.1 0).trans rfl; have hcz28_1 : w26.cell? ⟨gb311, 1, none⟩ = some (.int .i64 0) := (zl zH.1 1).trans rfl; have hfz28_0 := zm zH.1 0; have hfz28_1 := zm zH.1 1; have hcz29_0 : w26.cell? ⟨gb309, 0, none⟩ = some (.int .i64 ((rd_T74 l0 zC).f0)) := (zl zF.1 0).trans rfl; have hcz29_1 : w26.cell? ⟨gb309, 1, none⟩ = some (.int .i64 ((rd_T74 l0 zC).f1)) := (zl zF.1 1).trans rfl; have hfz29_0 := zm zF.1 0; have hfz29_1 := zm zF.1 1) | ((with_reducible refine zz (N := 10) rfl ?_); refine box_event ?hg (N := 10) ?hd (cs := #[.int .i64 0, .int .i64 0]) (t := 74) ?hr ?_; (case hd => rfl); (case hg => rfl); (case hr => first | (go_simp; done) | (go_simp; rfl)); intro gb312 hg w30 hbox hb; have n0_ := Aside0.mk (zs (Kd.R_elderB (by (with_reducible repeat (first | apply zi | apply zh | apply zj)); exact (zn (zv (p := ⟨gb311, 1, none⟩) (zv (p := ⟨gb311, 0, none⟩) (zn HO_5.1 (fun k_ hk => (⟨hk, hk.2⟩ : _ ∧ k_ ≠ gb311))) (fun _ hk => hk.2) (.int .i64 ((rd_T74 l1 zD).f0))) (fun _ hk => hk.2) (.int .i64 ((rd_T74 l1 zD).f1))) (fun _ h_ => h_.1))) gb312 (Nat.le_of_eq hg.symm)) hb); have n1_ := Aside0.mk (zq (g := gb309) (o := .cells #[.int .i64 ((rd_T74 l0 zC).f0), .int .i64 ((rd_T74 l0 zC).f1)] 74 (0, 0)) (by (with_reducible repeat (first | refine zb ?_ _ | refine zd ?_ | refine zc ?_ _)); refine zp ?_ zG.1 _; (with_reducible repeat (first | refine zb ?_ _ | refine zd ?_ | refine zc ?_ _)); refine zp ?_ zG.1 _; (with_reducible repeat (first | refine zb ?_ _ | refine zd ?_ | refine zc ?_ _)); exact zF.1) hb); have n2_ := Aside0.mk (zq (g := gb311) (o := .cells #[.int .i64 ((rd_T74 l1 zD).f0), .int .i64 ((rd_T74 l1 zD).f1)] 74 (0, 0)) (by (with_reducible repeat (first | refine zb ?_ _ | refine zd ?_ | refine zc ?_ _)); refine zr (cs := #[.int .i64 ((rd_T74 l1 zD).f0), .int .i64 0]) ?_ 1 _ rfl; (with_reducible repeat (first | refine zb ?_ _ | refine zd ?_ | refine zc ?_ _)); refine zr (cs := #[.int .i64 0, .int .i64 0]) ?_ 0 _ rfl; (with_reducible repeat (first | refine zb ?_ _ | refine zd ?_ | refine zc ?_ _)); exact zH.1) hb); have n3_ := Aside0.mk (zo (by repeat (first | (with_reducible first | exact HB.1 | apply zf | apply za | apply ze | refine zg ?_ zJ.1 | refine zg ?_ zP.1) | exact HB.1)) hb); have n4_ := Aside0.mk (hbox); have n5_ := Aside0.mk ((by rw [hg]; exact (zk (by repeat (first | (with_reducible first | exact HB.1 | apply zf | apply za | apply ze | refine zg ?_ zJ.1 | refine zg ?_ zP.1) | exact HB.1))) : w.heap.size ≤ gb312)); have n6_ := Aside0.mk ((by rw [hg]; exact (zk (by repeat (first | (with_reducible first | exact HB.1 | apply zf | apply za | apply ze | refine zg ?_ zJ.1 | refine zg ?_ zP.1) | exact HB.1))) : w.heap.size ≤ gb312)); have n7_ := Aside0.mk ((by rw [hg]; exact Nat.ne_of_lt (zy (g := gb309) (o := .cells #[.int .i64 ((rd_T74 l0 zC).f0), .int .i64 ((rd_T74 l0 zC).f1)] 74 (0, 0)) (by (with_reducible repeat (first | refine zb ?_ _ | refine zd ?_ | refine zc ?_ _)); refine zp ?_ zG.1 _; (with_reducible repeat (first | refine zb ?_ _ | refine zd ?_ | refine zc ?_ _)); refine zp ?_ zG.1 _; (with_reducible repeat (first | refine zb ?_ _ | refine zd ?_ | refine zc ?_ _)); exact zF.1)) : gb309 ≠ gb312)); have n8_ := Aside0.mk ((by rw [hg]; exact Nat.ne_of_gt (zy (g := gb309) (o := .cells #[.int .i64 ((rd_T74 l0 zC).f0), .int .i64 ((rd_T74 l0 zC).f1)] 74 (0, 0)) (by (with_reducible repeat (first | refine zb ?_ _ | refine zd ?_ | refine zc ?_ _)); refine zp ?_ zG.1 _; (with_reducible repeat (first | refine zb ?_ _ | refine zd ?_ | refine zc ?_ _)); refine zp ?_ zG.1 _; (with_reducible repeat (first | refine zb ?_ _ | refine zd ?_ | refine zc ?_ _)); exact zF.1)) : gb312 ≠ gb309)); have n9_ := Aside0.mk ((by rw [hg]; exact Nat.ne_of_lt (zy (g := gb311) (o := .cells #[.int .i64 ((rd_T74 l1 zD).f0), .int .i64 ((rd_T74 l1 zD).f1)] 74 (0, 0)) (by (with_reducible repeat (first | refine zb ?_ _ | refine zd ?_ | refine zc ?_ _)); refine zr (cs := #[.int .i64 ((rd_T74 l1 zD).f0), .int .i64 0]) ?_ 1 _ rfl; (with_reducible repeat (first | refine zb ?_ _ | refine zd ?_ | refine zc ?_ _)); refine zr (cs := #[.int .i64 0, .int .i64 0]) ?_ 0 _ rfl; (with_reducible repeat (first | refine zb ?_ _ | refine zd ?_ | refine zc ?_ _)); exact zH.1)) : gb311 ≠ gb312)); have n10_ := Aside0.mk ((by rw [hg]; exact Nat.ne_of_gt (zy (g := gb311) (o := .cells #[.int .i64 ((rd_T74 l1 zD).f0), .int .i64 ((rd_T74 l1 zD).f1)] 74 (0, 0)) (by (with_reducible repeat (first | refine zb ?_ _ | refine zd ?_ | refine zc ?_ _)); refine zr (cs := #[.int .i64 ((rd_T74 l1 zD).f0), .int .i64 0]) ?_ 1 _ rfl; (with_reducible repeat (first | refine zb ?_ _ | refine zd ?_ | refine zc ?_ _)); refine zr (cs := #[.int .i64 0, .int .i64 0]) ?_ 0 _ rfl; (with_reducible repeat (first | refine zb ?_ _ | refine zd ?_ | refine zc ?_ _)); exact zH.1)) : gb312 ≠ gb311)); clear HO_5; clear zF; clear zH; clear HB; have HO_5 := n0_; have zF := n1_; have zH := n2_; have HB := n3_; have zN := n4_; have GW312 := n5_; have zS := n6_; have zI := n7_; have NB312_309 := n8_; have zK := n9_; have NB312_311 := n10_; clear n0_ n1_ n2_ n3_ n4_ n5_ n6_ n7_ n8_ n9_ n10_; clear hb hbox hg; have hnb31 := NB312_309.1; have hnc31 := zI.1; have hnb32 := NB312_311.1; have hnc32 := zK.1; have hcz33_0 : w30.cell? ⟨gb312, 0, none⟩ = some (.int .i64 0) := (zl zN.1 0).trans rfl; have hcz33_1 : w30.cell? ⟨gb312, 1, none⟩ = some (.int .i64 0) := (zl zN.1 1).trans rfl; have hfz33_0 := zm zN.1 0; have hfz33_1 := zm zN.1 1))
            go_roundg k2
            case measure => have := HK1.1; have := HK2.1; omega
            case rel => exact ⟨(x5_2), (wrap64 (zD + 1)), (by first | rfl | (simp; done) | (simp [*]; done)), H', ⟨by have := HK1.1; have := HK2.1; omega⟩, ⟨by (with_reducible repeat (first | apply zi | apply zh | apply zj)); exact zn (zv (p := ⟨gb312, 1, none⟩) (zv (p := ⟨gb312, 0, none⟩) (zn HO_5.1 (fun k_ hk => (⟨hk, hk.2⟩ : _ ∧ k_ ≠ gb312))) (fun _ hk => hk.2) (.int .i64 ji13)) (fun _ hk => hk.2) (.int .i64 ji14)) (fun _ hk => hk.1.1.1)⟩, ⟨by (with_reducible repeat (first | refine zb ?_ _ | refine zd ?_ | refine zc ?_ _)); refine zp ?_ zI.1 _; (with_reducible repeat (first | refine zb ?_ _ | refine zd ?_ | refine zc ?_ _)); refine zp ?_ zI.1 _; (with_reducible repeat (first | refine zb ?_ _ | refine zd ?_ | refine zc ?_ _)); exact zF.1⟩, ⟨by repeat (first | (with_reducible first | exact HB.1 | apply zf | apply za | apply ze | refine zg ?_ zJ.1 | refine zg ?_ zP.1 | refine zg ?_ zS.1) | exact HB.1)⟩⟩
          ·
           rw [if_neg c12] at H
           exact absurd H (by simp)
         ·
          rw [if_neg c11] at H
          exact absurd H (by simp)
        ·
         rw [if_neg c10] at H
         have c10b0 : decide (zD < (l1.length : Int)) = false := decide_eq_false c10
         clear c10
         have H' := Aside0.mk H
         clear H
         go_wp2
         go_roundg k2
         case measure => have := HK1.1; have := HK2.1; omega
         case rel => exact ⟨(x5_2), (wrap64 (zC + 1)), (by first | rfl | (simp; done) | (simp [*]; done)), H', ⟨by have := HK1.1; have := HK2.1; omega⟩, ⟨by (with_reducible repeat (first | apply zi | apply zh | apply zj)); exact zn HO_5.1 (fun _ hk => trivial)⟩, ⟨by repeat (first | (with_reducible first | exact HB.1 | apply zf | apply za | apply ze | refine zg ?_ zJ.1) | exact HB.1)⟩⟩
     ·
      rw [if_neg c7] at H
      exact absurd H (by simp)
    ·
     rw [if_neg c6] at H
     exact absurd H (by simp)
   ·
    rw [if_neg c5] at H
    have c5b0 : decide (zC < (l0.length : Int)) = false := decide_eq_false c5
    clear c5
    obtain rfl := Option.some.inj H
    go_wp2
    go_ret
    exact ⟨_, by first | rfl | (simp [errW_none, errW_some] <;> rfl) | (simp [*, errW_none, errW_some] <;> rfl), by (with_reducible repeat (first | apply zi | apply zh | apply zj)); exact HO_5.1, by repeat (first | (with_reducible first | exact HB.1 | apply zf | apply za | apply ze) | exact HB.1)⟩

/-! ### impl_CutPrefix: function 34 -/
def impl_CutPrefix.j0 : Nat → List (S45) → Bool → Int → Int → Option ((List (S45)) × Bool)
 | 0, _, _, _, _ => none
 | k + 1, x0, x14, x317000, x317001 => if x14 = true then (some (([] : List (S45)), false)) else ((impl_Prefix_end.f x317000 x317001).bind fun t319 => ((impl_spansOf.f k x0).bind fun t323 => ((impl_meet.f k t323 (([(⟨0, wrap64 (x317000 - 1)⟩ : S74), (⟨wrap64 (t319 + 1), 4294967295⟩ : S74)] : List (S74)))).bind fun t326 => ((impl_prefixesIn.f k t326).bind fun t329 => ((impl_setOf.f t329).bind fun bt332 => (some (bt332.1, bt332.2)))))))
def impl_CutPrefix.f (k : Nat) (l0 : List (S45)) (a1_0 : Int) (a1_1 : Int) : Option ((List (S45)) × Bool) := (impl_arePrefixes.f k l0).bind fun t317 => (if t317 = true then ((impl_GoodPrefix.f a1_0 a1_1).bind fun t318 => (impl_CutPrefix.j0 k l0 (!t318) a1_0 a1_1)) else (impl_CutPrefix.j0 k l0 true a1_0 a1_1))
theorem impl_CutPrefix.mono_l : ∀ k, (∀ y0 y1 y2 y3, LeO (impl_CutPrefix.j0 k y0 y1 y2 y3) (impl_CutPrefix.j0 (k + 1) y0 y1 y2 y3))
 | 0 => fun _ _ _ _ r h => by simp [impl_CutPrefix.j0] at h
 | k + 1 => by
  have ih0 := impl_CutPrefix.mono_l k
  ·
   intro y0 y1 y2 y3
   unfold impl_CutPrefix.j0
   repeat' first
   | (with_reducible exact ih0 _ _ _ _)
   | (with_reducible exact impl_arePrefixes.mono _ _)
   | (with_reducible exact impl_meet.mono _ _ _)
   | (with_reducible exact impl_prefixesIn.mono _ _)
   | (with_reducible exact impl_spansOf.mono _ _)
   | (with_reducible exact LeO.refl _)
   | (with_reducible exact zt _)
   | (with_reducible refine zx ?_ ?_)
   | (with_reducible refine zu ?_ (fun _ => ?_))
   | exact ih0 _ _ _ _
   | exact impl_arePrefixes.mono _ _
   | exact impl_meet.mono _ _ _
   | exact impl_prefixesIn.mono _ _
   | exact impl_spansOf.mono _ _
   | exact zt _
   | refine zx ?_ ?_
   | refine zu ?_ (fun _ => ?_)
theorem impl_CutPrefix.mono : ∀ a0 a1 a2 k, LeO (impl_CutPrefix.f k a0 a1 a2) (impl_CutPrefix.f (k + 1) a0 a1 a2) := by
 intro a0 a1 a2 k
 have ih0 := impl_CutPrefix.mono_l k
 unfold impl_CutPrefix.f
 repeat' first
   | (with_reducible exact ih0 _ _ _ _)
   | (with_reducible exact impl_arePrefixes.mono _ _)
   | (with_reducible exact impl_meet.mono _ _ _)
   | (with_reducible exact impl_prefixesIn.mono _ _)
   | (with_reducible exact impl_spansOf.mono _ _)
   | (with_reducible exact LeO.refl _)
   | (with_reducible exact zt _)
   | (with_reducible refine zx ?_ ?_)
   | (with_reducible refine zu ?_ (fun _ => ?_))
   | exact ih0 _ _ _ _
   | exact impl_arePrefixes.mono _ _
   | exact impl_meet.mono _ _ _
   | exact impl_prefixesIn.mono _ _
   | exact impl_spansOf.mono _ _
   | exact zt _
   | refine zx ?_ ?_
   | refine zu ?_ (fun _ => ?_)
def impl_CutPrefix.T3 : Bool × List (List Nat × List Nat) := (true, [([], []), ([0], [0]), ([1], [1]), ([2], [2]), ([], []), ([4], [4]), ([5], [5]), ([6], [6]), ([3, 7], [3, 7]), ([8, 5, 0, 1, 2, 3, 4, 5, 6, 7, 8], [8])])
def impl_CutPrefix.B3 : List Nat := [0, 1, 3, 7, 0, 16, 48, 112, 255, 511]
theorem impl_CutPrefix.tab3 : rtab .any (opsOf Try.f34 3) = impl_CutPrefix.T3 := by kernel_rfl
theorem impl_CutPrefix.bits3 : waitsOk impl_CutPrefix.T3.2 impl_CutPrefix.B3 = true := by kernel_rfl
set_option maxHeartbeats 8000000 in
set_option maxRecDepth 100000 in
theorem impl_CutPrefix.calls (k : Nat) (A0 : Option Addr) (c0 : Nat) (l0 : List (S45)) (a1_0 : Int) (a1_1 : Int) (r1 : List (S45)) (r2 : Bool) (w : World) (hr0 : Kd.C k45 w A0 l0.length l0) (hc0 : l0.length ≤ c0) (h : impl_CutPrefix.f k l0 a1_0 a1_1 = some (r1, r2)) :
  Calls Try.prog 34 #[.slice A0 l0.length c0, .agg #[.int .i64 a1_0, .int .i64 a1_1]] w fun e w' => ∃ v0_ : Value, e = .returned (.tuple #[v0_, .bool r2]) ∧ Kd.R k45 45 w' w.heap.size (fun _ => True) v0_ r1 ∧ Below w.heap.size w w' := by
 have hu45 := Try.underlying45
 have hu74 := Try.underlying74
 have HR0 := Aside0.mk hr0
 have HC0 := Aside0.mk hc0
 clear hr0 hc0
 have HB := Aside0.mk (Below.refl w.heap.size w)
 have H : ((impl_arePrefixes.f k l0).bind fun t317 => (if t317 = true then ((impl_GoodPrefix.f a1_0 a1_1).bind fun t318 => (impl_CutPrefix.j0 k l0 (!t318) a1_0 a1_1)) else (impl_CutPrefix.j0 k l0 true a1_0 a1_1))) = some (r1, r2) := h
 clear h
 have HC3 := Aside0.mk H
 clear H
 go_enter Try.func34, Try.ntmps34
 go_upto_region 1 with (first | ((with_reducible refine zz (N := 3) rfl ?_); refine box_event ?hg (N := 3) ?hd (cs := #[.int .i64 a1_0, .int .i64 a1_1]) (t := 45) ?hr ?_; (case hd => rfl); (case hg => rfl); (case hr => first | (go_simp; done) | (go_simp; rfl)); intro gb316 hg w4 hbox hb; have n0_ := Aside0.mk (zo (by repeat (first | (with_reducible first | exact HB.1 | apply zf | apply za | apply ze) | exact HB.1)) hb); have n1_ := Aside0.mk (hbox); have n2_ := Aside0.mk ((by rw [hg]; exact (zk (by repeat (first | (with_reducible first | exact HB.1 | apply zf | apply za | apply ze) | exact HB.1))) : w.heap.size ≤ gb316)); have n3_ := Aside0.mk ((by rw [hg]; exact (zk (by repeat (first | (with_reducible first | exact HB.1 | apply zf | apply za | apply ze) | exact HB.1))) : w.heap.size ≤ gb316)); clear HB; have HB := n0_; have zE := n1_; have GW316 := n2_; have zL := n3_; clear n0_ n1_ n2_ n3_; clear hb hbox hg))
 (try simp only [Act.put, List.setIfInBounds_toArray, List.set_cons_zero, List.set_cons_succ])
 go_cut [14] (fun v14 wc => ∃ (kq : Nat) (x14_2 : Bool), v14 = .bool x14_2 ∧ zw (impl_CutPrefix.j0 kq l0 x14_2 a1_0 a1_1 = some (r1, r2)) ∧ zw (kq ≤ k) ∧ zw (wc.heap[gb316]? = some (.cells #[.int .i64 a1_0, .int .i64 a1_1] 45 (0, 0))) ∧ zw (Below w.heap.size w wc))
 case first =>
  have H := HC3.1
  clear HC3
  replace H := Option.bind_eq_some_iff.mp H
  obtain ⟨t317, A50, H⟩ := H
  replace H : (if t317 = true then ((impl_GoodPrefix.f a1_0 a1_1).bind fun t318 => (impl_CutPrefix.j0 k l0 (!t318) a1_0 a1_1)) else (impl_CutPrefix.j0 k l0 true a1_0 a1_1)) = some (r1, r2) := H
  have A5 := Aside0.mk A50
  clear A50
  by_cases c6 : t317 = true
  ·
   subst c6
   have H1 : ((impl_GoodPrefix.f a1_0 a1_1).bind fun t318 => (impl_CutPrefix.j0 k l0 (!t318) a1_0 a1_1)) = some (r1, r2) := by rw [if_pos rfl] at H; exact H
   clear H
   have H := H1
   clear H1
   replace H := Option.bind_eq_some_iff.mp H
   obtain ⟨t318, A70, H⟩ := H
   replace H : (impl_CutPrefix.j0 k l0 (!t318) a1_0 a1_1) = some (r1, r2) := H
   have A7 := Aside0.mk A70
   clear A70
   have H' := Aside0.mk H
   clear H
   go_wp2_with (first | ((with_reducible refine gate_callee (f := 54) rfl ?_); refine goesL_ (some 8) rfl rfl Try.func54 (by kernel_rfl) rfl #[.slice A0 l0.length c0] rfl (by (try simp only [List.map_toArray, List.map_cons, List.map_nil]); first | done | rfl | (simp only [List.length_drop, List.length_take]; rfl)) ?_; (with_reducible refine (impl_arePrefixes.calls k _ _ l0 true _ ?side1 ?side2 A5.1).mono ?_); (case side1 => repeat (first | exact (Kd.C_below HR0.1 HB.1) | (with_reducible refine Kd.C_alloc ?_ _) | (with_reducible refine Kd.C_drewN ?_ _) | (with_reducible refine Kd.C_drew ?_))); (case side2 => exact HC0.1); rintro e w8 ⟨rfl, hb⟩; refine ⟨_, rfl, ?_⟩; have n0_ := Aside0.mk (zq (g := gb316) (o := .cells #[.int .i64 a1_0, .int .i64 a1_1] 45 (0, 0)) (by (with_reducible repeat (first | refine zb ?_ _ | refine zd ?_ | refine zc ?_ _)); exact zE.1) hb); have n1_ := Aside0.mk (zo (by repeat (first | (with_reducible first | exact HB.1 | apply zf | apply za | apply ze | refine zg ?_ zL.1) | exact HB.1)) hb); clear zE; clear HB; have zE := n0_; have HB := n1_; clear n0_ n1_; (try clear hb); (try clear hb2); (try clear hk); (try clear hi); have hcz9_0 : w8.cell? ⟨gb316, 0, none⟩ = some (.int .i64 a1_0) := (zl zE.1 0).trans rfl; have hcz9_1 : w8.cell? ⟨gb316, 1, none⟩ = some (.int .i64 a1_1) := (zl zE.1 1).trans rfl; have hfz9_0 := zm zE.1 0; have hfz9_1 := zm zE.1 1) | (go_at_call 70; (with_reducible refine (impl_GoodPrefix.calls a1_0 a1_1 t318 _ A7.1).mono ?_); rintro e w10 ⟨rfl, hb⟩; have n0_ := Aside0.mk (zq (g := gb316) (o := .cells #[.int .i64 a1_0, .int .i64 a1_1] 45 (0, 0)) (by (with_reducible repeat (first | refine zb ?_ _ | refine zd ?_ | refine zc ?_ _)); exact zE.1) hb); have n1_ := Aside0.mk (zo (by repeat (first | (with_reducible first | exact HB.1 | apply zf | apply za | apply ze | refine zg ?_ zL.1) | exact HB.1)) hb); clear zE; clear HB; have zE := n0_; have HB := n1_; clear n0_ n1_; (try clear hb); (try clear hb2); (try clear hk); (try clear hi)))
   go_meet
   case rel => exact ⟨_, (!t318), (by first | rfl | (simp; done) | (simp [*]; done)), H', ⟨by first | omega | exact Nat.le_refl _⟩, ⟨by (with_reducible repeat (first | refine zb ?_ _ | refine zd ?_ | refine zc ?_ _)); exact zE.1⟩, ⟨by repeat (first | (with_reducible first | exact HB.1 | apply zf | apply za | apply ze | refine zg ?_ zL.1) | exact HB.1)⟩⟩
  ·
   replace c6 := Bool.eq_false_iff.mpr c6
   subst c6
   have H1 : (impl_CutPrefix.j0 k l0 true a1_0 a1_1) = some (r1, r2) := by rw [if_neg (show ¬ (false = true) by decide)] at H; exact H
   clear H
   have H := H1
   clear H1
   have H' := Aside0.mk H
   clear H
   go_wp2_with (first | ((with_reducible refine gate_callee (f := 54) rfl ?_); refine goesL_ (some 8) rfl rfl Try.func54 (by kernel_rfl) rfl #[.slice A0 l0.length c0] rfl (by (try simp only [List.map_toArray, List.map_cons, List.map_nil]); first | done | rfl | (simp only [List.length_drop, List.length_take]; rfl)) ?_; (with_reducible refine (impl_arePrefixes.calls k _ _ l0 false _ ?side1 ?side2 A5.1).mono ?_); (case side1 => repeat (first | exact (Kd.C_below HR0.1 HB.1) | (with_reducible refine Kd.C_alloc ?_ _) | (with_reducible refine Kd.C_drewN ?_ _) | (with_reducible refine Kd.C_drew ?_))); (case side2 => exact HC0.1); rintro e w11 ⟨rfl, hb⟩; refine ⟨_, rfl, ?_⟩; have n0_ := Aside0.mk (zq (g := gb316) (o := .cells #[.int .i64 a1_0, .int .i64 a1_1] 45 (0, 0)) (by (with_reducible repeat (first | refine zb ?_ _ | refine zd ?_ | refine zc ?_ _)); exact zE.1) hb); have n1_ := Aside0.mk (zo (by repeat (first | (with_reducible first | exact HB.1 | apply zf | apply za | apply ze | refine zg ?_ zL.1) | exact HB.1)) hb); clear zE; clear HB; have zE := n0_; have HB := n1_; clear n0_ n1_; (try clear hb); (try clear hb2); (try clear hk); (try clear hi)))
   go_meet
   case rel => exact ⟨_, (true), (by first | rfl | (simp; done) | (simp [*]; done)), H', ⟨by first | omega | exact Nat.le_refl _⟩, ⟨by (with_reducible repeat (first | refine zb ?_ _ | refine zd ?_ | refine zc ?_ _)); exact zE.1⟩, ⟨by repeat (first | (with_reducible first | exact HB.1 | apply zf | apply za | apply ze | refine zg ?_ zL.1) | exact HB.1)⟩⟩
 case rest =>
  clear HC3
  (try clear p2); (try clear c3); (try clear c5); (try clear c6); (try clear hcz9_0); (try clear hcz9_1); (try clear hfz9_0); (try clear hfz9_1)
  obtain ⟨kq, x14_2, rfl, HA, HJ2, zE, HB⟩ := hcut
  cases kq with
  | zero => exact absurd HA.1 (by simp [impl_CutPrefix.j0])
  | succ kj2 =>
   have H := HA.1
   clear HA
   simp only [impl_CutPrefix.j0] at H
   by_cases c12 : x14_2 = true
   ·
    subst c12
    have H1 : (some (([] : List (S45)), false)) = some (r1, r2) := by rw [if_pos rfl] at H; exact H
    clear H
    have H := H1
    clear H1
    simp only [Option.some.injEq, Prod.mk.injEq] at H
    obtain ⟨rfl, rfl⟩ := H
    go_wp2
    go_ret2
    exact ⟨_, by first | rfl | (simp [errW_none, errW_some] <;> rfl) | (simp [*, errW_none, errW_some] <;> rfl), by first | exact Kd.R_nil _ _ _ _ _ | exact Kd.N_nil _ _ _ _ _ | exact Kd.V_nil _ _ _ _ _ | exact Kd.Q_nil _ _ _ _ _ | exact Kd.S_nil _ _ _ _ _, by repeat (first | (with_reducible first | exact HB.1 | apply zf | apply za | apply ze | refine zg ?_ zL.1) | exact HB.1)⟩
   ·
    replace c12 := Bool.eq_false_iff.mpr c12
    subst c12
    have H1 : ((impl_Prefix_end.f a1_0 a1_1).bind fun t319 => ((impl_spansOf.f kj2 l0).bind fun t323 => ((impl_meet.f kj2 t323 (([(⟨0, wrap64 (a1_0 - 1)⟩ : S74), (⟨wrap64 (t319 + 1), 4294967295⟩ : S74)] : List (S74)))).bind fun t326 => ((impl_prefixesIn.f kj2 t326).bind fun t329 => ((impl_setOf.f t329).bind fun bt332 => (some (bt332.1, bt332.2))))))) = some (r1, r2) := by rw [if_neg (show ¬ (false = true) by decide)] at H; exact H
    clear H
    have H := H1
    clear H1
    replace H := Option.bind_eq_some_iff.mp H
    obtain ⟨t319, A130, H⟩ := H
    replace H : ((impl_spansOf.f kj2 l0).bind fun t323 => ((impl_meet.f kj2 t323 (([(⟨0, wrap64 (a1_0 - 1)⟩ : S74), (⟨wrap64 (t319 + 1), 4294967295⟩ : S74)] : List (S74)))).bind fun t326 => ((impl_prefixesIn.f kj2 t326).bind fun t329 => ((impl_setOf.f t329).bind fun bt332 => (some (bt332.1, bt332.2)))))) = some (r1, r2) := H
    have A13 := Aside0.mk A130
    clear A130
    obtain ⟨y320, hy320⟩ : ∃ y_ : List (S74), y_ = (([(⟨0, wrap64 (a1_0 - 1)⟩ : S74), (⟨wrap64 (t319 + 1), 4294967295⟩ : S74)] : List (S74))) := ⟨_, rfl⟩
    replace H : ((impl_spansOf.f kj2 l0).bind fun t323 => ((impl_meet.f kj2 t323 y320).bind fun t326 => ((impl_prefixesIn.f kj2 t326).bind fun t329 => ((impl_setOf.f t329).bind fun bt332 => (some (bt332.1, bt332.2)))))) = some (r1, r2) := by first | (rw [hy320]; with_reducible exact H) | (have H2_ := (Option.bind_some _ _).symm.trans H; rw [hy320]; with_reducible exact H2_) | (have H2_ := (Option.bind_some _ _).symm.trans H; with_reducible exact H2_) | with_reducible exact H | (rw [hy320]; exact H) | exact H
    have Ny320 := Aside0.mk hy320
    clear hy320
    replace H := Option.bind_eq_some_iff.mp H
    obtain ⟨t323, A140, H⟩ := H
    replace H : ((impl_meet.f kj2 t323 y320).bind fun t326 => ((impl_prefixesIn.f kj2 t326).bind fun t329 => ((impl_setOf.f t329).bind fun bt332 => (some (bt332.1, bt332.2))))) = some (r1, r2) := H
    have A14 := Aside0.mk A140
    clear A140
    replace H := Option.bind_eq_some_iff.mp H
    obtain ⟨t326, A150, H⟩ := H
    replace H : ((impl_prefixesIn.f kj2 t326).bind fun t329 => ((impl_setOf.f t329).bind fun bt332 => (some (bt332.1, bt332.2)))) = some (r1, r2) := H
    have A15 := Aside0.mk A150
    clear A150
    replace H := Option.bind_eq_some_iff.mp H
    obtain ⟨t329, A160, H⟩ := H
    replace H : ((impl_setOf.f t329).bind fun bt332 => (some (bt332.1, bt332.2))) = some (r1, r2) := H
    have A16 := Aside0.mk A160
    clear A160
    replace H := Option.bind_eq_some_iff.mp H
    obtain ⟨⟨t332, t335⟩, A170, H⟩ := H
    replace H : (some (t332, t335)) = some (r1, r2) := H
    have A17 := Aside0.mk A170
    clear A170
    simp only [Option.some.injEq, Prod.mk.injEq] at H
    obtain ⟨rfl, rfl⟩ := H
    try go_wp2
    have n0_ := Aside0.mk (zd zE.1)
    have n1_ := Aside0.mk (ze HB.1)
    clear zE
    clear HB
    have zE := n0_
    have HB := n1_
    clear n0_ n1_
    refine start_ (n := 10) (S := fun w' => w'.cell? ⟨gb316, 0, none⟩ = some (.int .i64 a1_0) ∧ w'.cell? ⟨gb316, 1, none⟩ = some (.int .i64 a1_1)) (ds := []) #[false, false, false, false, false, false, false, false, false, false] (by kernel_rfl) rfl rfl ⟨(zl zE.1 0).trans rfl, (zl zE.1 1).trans rfl⟩ (fun hHeld => ?_); refine with_tabW impl_CutPrefix.tab3 impl_CutPrefix.bits3 (fun HT_ HW_ => ?_)
    generalize wc.drew = w18 at zE HB hHeld ⊢
    refine pure_ (i := 0) (N := some 15) (v := ?_) (a' := ?_) #[true, false, false, false, false, false, false, false, false, false] rfl rfl (any_of HT_.1 (by kernel_rfl)) (fun _ _ _ h => h) (Or.inl ⟨by rfl, ?_⟩) ?_ ?_
    rotate_left
    ·
     intro w'
     go_simp
     with_reducible rfl
    rotate_left
    ·
     simp only [Act.put, List.setIfInBounds_toArray, List.set_cons_zero, List.set_cons_succ, zA, zB]
     rfl
    refine take_ (i := 1) (N := some 16) (v := ?_) (a' := ?_) #[true, true, false, false, false, false, false, false, false, false] rfl rfl (take_ofW HT_.1 HW_.1 (by kernel_rfl)) (fun _ _ _ h => h) (Or.inl ⟨by rfl, ?_⟩) hHeld ?_ ?_
    rotate_left
    ·
     rintro w' ⟨s0, s1⟩
     go_simp
     with_reducible rfl
    rotate_left
    ·
     simp only [Act.put, List.setIfInBounds_toArray, List.set_cons_zero, List.set_cons_succ, zA, zB]
     rfl
    refine pure_ (i := 2) (N := some 17) (v := ?_) (a' := ?_) #[true, true, true, false, false, false, false, false, false, false] rfl rfl (any_of HT_.1 (by kernel_rfl)) (fun _ _ _ h => h) (Or.inl ⟨by rfl, ?_⟩) ?_ ?_
    rotate_left
    ·
     intro w'
     go_simp
     with_reducible rfl
    rotate_left
    ·
     simp only [Act.put, List.setIfInBounds_toArray, List.set_cons_zero, List.set_cons_succ, zA, zB]
     rfl
    refine pure_ (i := 3) (N := some 18) (v := ?_) (a' := ?_) #[true, true, true, true, false, false, false, false, false, false] rfl rfl (any_of HT_.1 (by kernel_rfl)) (fun _ _ _ h => h) (Or.inl ⟨by rfl, ?_⟩) ?_ ?_
    rotate_left
    ·
     intro w'
     go_simp
     with_reducible rfl
    rotate_left
    ·
     simp only [Act.put, List.setIfInBounds_toArray, List.set_cons_zero, List.set_cons_succ, zA, zB]
     rfl
    refine take_ (i := 4) (N := some 19) (v := ?_) (a' := ?_) #[true, true, true, true, true, false, false, false, false, false] rfl rfl (take_ofW HT_.1 HW_.1 (by kernel_rfl)) (fun _ _ _ h => h) (Or.inl ⟨by rfl, ?_⟩) hHeld ?_ ?_
    rotate_left
    ·
     rintro w' ⟨s0, s1⟩
     go_simp
     with_reducible rfl
    rotate_left
    ·
     simp only [Act.put, List.setIfInBounds_toArray, List.set_cons_zero, List.set_cons_succ, zA, zB]
     rfl
    refine one_ (i := 5) (N := some 20) #[true, true, true, true, true, true, false, false, false, false] rfl rfl (one_of HT_.1 (by kernel_rfl)) (by decide) (fun K hK => ?_)
    refine goes_ Try.func71 (by kernel_rfl) rfl #[.agg #[.int .i64 a1_0, .int .i64 a1_1]] (by rfl) rfl rfl (by (try simp only [List.map_toArray, List.map_cons, List.map_nil]); first | done | rfl | (simp only [List.length_drop, List.length_take]; rfl)) ?_
    with_reducible refine (impl_Prefix_end.calls a1_0 a1_1 t319 _ A13.1).mono ?_
    rintro e w19 ⟨rfl, hb⟩
    refine ⟨_, rfl, ?_⟩
    have n0_ := Aside0.mk (zq (g := gb316) (o := .cells #[.int .i64 a1_0, .int .i64 a1_1] 45 (0, 0)) (by (with_reducible repeat (first | refine zb ?_ _ | refine zd ?_ | refine zc ?_ _)); exact zE.1) hb)
    have n1_ := Aside0.mk (zo (by repeat (first | (with_reducible first | exact HB.1 | apply zf | apply za | apply ze | refine zg ?_ zL.1) | exact HB.1)) hb)
    clear zE
    clear HB
    have zE := n0_
    have HB := n1_
    clear n0_ n1_
    (try clear hb)
    (try clear hb2)
    (try clear hk)
    (try clear hi)
    refine hK.out _ _ ⟨(zl zE.1 0).trans rfl, (zl zE.1 1).trans rfl⟩ (fun hHeld => ?_)
    clear hK K
    refine norm_ (a' := ?_) ?_ ?_
    rotate_left
    ·
     show Act.put _ (some 20) _ = _
     simp only [Act.put, List.setIfInBounds_toArray, List.set_cons_zero, List.set_cons_succ, zA, zB]
     rfl
    refine pure_ (i := 6) (N := some 21) (v := ?_) (a' := ?_) #[true, true, true, true, true, true, true, false, false, false] rfl rfl (any_of HT_.1 (by kernel_rfl)) (fun _ _ _ h => h) (Or.inl ⟨by rfl, ?_⟩) ?_ ?_
    rotate_left
    ·
     intro w'
     go_simp
     with_reducible rfl
    rotate_left
    ·
     simp only [Act.put, List.setIfInBounds_toArray, List.set_cons_zero, List.set_cons_succ, zA, zB]
     rfl
    refine pure_ (i := 7) (N := some 22) (v := ?_) (a' := ?_) #[true, true, true, true, true, true, true, true, false, false] rfl rfl (any_of HT_.1 (by kernel_rfl)) (fun _ _ _ h => h) (Or.inl ⟨by rfl, ?_⟩) ?_ ?_
    rotate_left
    ·
     intro w'
     go_simp
     with_reducible rfl
    rotate_left
    ·
     simp only [Act.put, List.setIfInBounds_toArray, List.set_cons_zero, List.set_cons_succ, zA, zB]
     rfl
    refine one_ (i := 8) (N := some 23) #[true, true, true, true, true, true, true, true, true, false] rfl rfl (one_of HT_.1 (by kernel_rfl)) (by decide) (fun K hK => ?_)
    refine Kd.R_lit_step k74 _ 74 ?hg (N := 23) ?hd (xs := ([(⟨0, wrap64 (a1_0 - 1)⟩ : S74), (⟨wrap64 (t319 + 1), 4294967295⟩ : S74)] : List (S74))) (inner := [.int .i64 0, .int .i64 (wrap64 (a1_0 - 1)), .int .i64 (wrap64 (t319 + 1)), .int .i64 4294967295]) (ok := fun _ => True) (okp := fun _ => True) ?hr ?hp (fun _ hk => hk) trivial (Below.refl _ _) (Nat.le_refl _) (by simp) ?_; (case hd => rfl); (case hg => rfl); (case hr => first | (go_simp; done) | (go_simp; rfl)); (case hp => exact (Reps.c2 (show Kd.M k74 _ _ _ (⟨0, wrap64 (a1_0 - 1)⟩ : S74) [.int .i64 0, .int .i64 (wrap64 (a1_0 - 1))] from (k74_mkM _ _ _ (⟨0, wrap64 (a1_0 - 1)⟩ : S74) )) (Reps.c2 (show Kd.M k74 _ _ _ (⟨wrap64 (t319 + 1), 4294967295⟩ : S74) [.int .i64 (wrap64 (t319 + 1)), .int .i64 4294967295] from (k74_mkM _ _ _ (⟨wrap64 (t319 + 1), 4294967295⟩ : S74) )) (Reps.none _ _))))
    intro v321 w20 ho21 hb hg_ hnew_
    clear hg_ hnew_
    (first | rw [← Ny320.1] at ho21 | (simp only [Int.reduceToNat] at ho21; rw [← Ny320.1] at ho21))
    have n0_ := Aside0.mk (Kd.R_lower ho21 (zk (by repeat (first | (with_reducible first | exact HB.1 | apply zf | apply za | apply ze | refine zg ?_ zL.1) | exact HB.1))))
    have n1_ := Aside0.mk (zq (g := gb316) (o := .cells #[.int .i64 a1_0, .int .i64 a1_1] 45 (0, 0)) (by (with_reducible repeat (first | refine zb ?_ _ | refine zd ?_ | refine zc ?_ _)); exact zE.1) hb)
    have n2_ := Aside0.mk (zo (by repeat (first | (with_reducible first | exact HB.1 | apply zf | apply za | apply ze | refine zg ?_ zL.1) | exact HB.1)) hb)
    clear zE
    clear HB
    have zM := n0_
    have zE := n1_
    have HB := n2_
    clear n0_ n1_ n2_
    clear hb ho21
    refine hK.out _ _ ⟨(zl zE.1 0).trans rfl, (zl zE.1 1).trans rfl⟩ (fun hHeld => ?_)
    clear hK K
    refine norm_ (a' := ?_) ?_ ?_
    rotate_left
    ·
     show Act.put _ (some 23) _ = _
     simp only [Act.put, List.setIfInBounds_toArray, List.set_cons_zero, List.set_cons_succ, zA, zB]
     rfl
    refine pure_ (i := 9) (N := some 6) (v := ?_) (a' := ?_) #[true, true, true, true, true, true, true, true, true, true] rfl rfl (any_of HT_.1 (by kernel_rfl)) (fun _ _ _ h => h) (Or.inl ⟨by rfl, ?_⟩) ?_ ?_
    rotate_left
    ·
     intro w'
     go_simp
     with_reducible rfl
    rotate_left
    ·
     simp only [Act.put, List.setIfInBounds_toArray, List.set_cons_zero, List.set_cons_succ, zA, zB]
     rfl
    refine done_ (done_of HT_.1 (by kernel_rfl)) ?_
    try go_wp2_with (first | ((with_reducible refine gate_callee (f := 63) rfl ?_); refine goesL_ (some 25) rfl rfl Try.func63 (by kernel_rfl) rfl #[.slice A0 l0.length c0] rfl (by (try simp only [List.map_toArray, List.map_cons, List.map_nil]); first | done | rfl | (simp only [List.length_drop, List.length_take]; rfl)) ?_; (with_reducible refine (impl_spansOf.calls kj2 _ _ l0 t323 _ ?side1 ?side2 A14.1).mono ?_); (case side1 => repeat (first | exact (Kd.C_below HR0.1 HB.1) | (with_reducible refine Kd.C_alloc ?_ _) | (with_reducible refine Kd.C_drewN ?_ _) | (with_reducible refine Kd.C_drew ?_))); (case side2 => exact HC0.1); rintro e w22 ⟨v324, rfl, ho0, hb⟩; refine ⟨_, rfl, ?_⟩; have n0_ := Aside0.mk (Kd.R_elder' (by (with_reducible repeat (first | apply zi | apply zh | apply zj)); exact zM.1) (Kd.R_base ho0) hb); have n1_ := Aside0.mk (Kd.R_lower (Kd.R_new' ho0 (Kd.R_lt (by (with_reducible repeat (first | apply zi | apply zh | apply zj)); exact zM.1))) (zk (by repeat (first | (with_reducible first | exact HB.1 | apply zf | apply za | apply ze | refine zg ?_ zL.1) | exact HB.1)))); have n2_ := Aside0.mk (zq (g := gb316) (o := .cells #[.int .i64 a1_0, .int .i64 a1_1] 45 (0, 0)) (by (with_reducible repeat (first | refine zb ?_ _ | refine zd ?_ | refine zc ?_ _)); exact zE.1) hb); have n3_ := Aside0.mk (zo (by repeat (first | (with_reducible first | exact HB.1 | apply zf | apply za | apply ze | refine zg ?_ zL.1) | exact HB.1)) hb); clear zM; clear zE; clear HB; have zM := n0_; have zO := n1_; have zE := n2_; have HB := n3_; clear n0_ n1_ n2_ n3_; (try clear hb); (try clear hb2); (try clear hk); (try clear hi); (try clear ho0); obtain ⟨Ao23, co23, eo23⟩ := Kd.R_slice zO.1; subst eo23; obtain ⟨Ao24, co24, eo24⟩ := Kd.R_slice zM.1; subst eo24) | ((with_reducible refine gate_callee (f := 67) rfl ?_); refine goesL_ (some 27) rfl rfl Try.func67 (by kernel_rfl) rfl #[.slice Ao23 t323.length co23, .slice Ao24 y320.length co24] rfl (by (try simp only [List.map_toArray, List.map_cons, List.map_nil]); first | done | rfl | (simp only [List.length_drop, List.length_take]; rfl)) ?_; (with_reducible refine (impl_meet.calls kj2 _ _ t323 _ _ y320 t326 _ ?side1 ?side2 ?side3 ?side4 A15.1).mono ?_); (case side1 => repeat (first | exact (Kd.R_reads' zO.1).2.2 | (with_reducible refine Kd.C_alloc ?_ _) | (with_reducible refine Kd.C_drewN ?_ _) | (with_reducible refine Kd.C_drew ?_))); (case side2 => exact (Kd.R_reads' zO.1).2.1); (case side3 => repeat (first | exact (Kd.R_reads' zM.1).2.2 | (with_reducible refine Kd.C_alloc ?_ _) | (with_reducible refine Kd.C_drewN ?_ _) | (with_reducible refine Kd.C_drew ?_))); (case side4 => exact (Kd.R_reads' zM.1).2.1); rintro e w25 ⟨v327, rfl, ho0, hb⟩; refine ⟨_, rfl, ?_⟩; have n0_ := Aside0.mk (Kd.R_elder' (by (with_reducible repeat (first | apply zi | apply zh | apply zj)); exact zM.1) (Kd.R_base ho0) hb); have n1_ := Aside0.mk (Kd.R_elder' (by (with_reducible repeat (first | apply zi | apply zh | apply zj)); exact zO.1) (Kd.R_base ho0) hb); have n2_ := Aside0.mk (Kd.R_lower (Kd.R_new' (Kd.R_new' ho0 (Kd.R_lt (by (with_reducible repeat (first | apply zi | apply zh | apply zj)); exact zM.1))) (Kd.R_lt (by (with_reducible repeat (first | apply zi | apply zh | apply zj)); exact zO.1))) (zk (by repeat (first | (with_reducible first | exact HB.1 | apply zf | apply za | apply ze | refine zg ?_ zL.1) | exact HB.1)))); have n3_ := Aside0.mk (zq (g := gb316) (o := .cells #[.int .i64 a1_0, .int .i64 a1_1] 45 (0, 0)) (by (with_reducible repeat (first | refine zb ?_ _ | refine zd ?_ | refine zc ?_ _)); exact zE.1) hb); have n4_ := Aside0.mk (zo (by repeat (first | (with_reducible first | exact HB.1 | apply zf | apply za | apply ze | refine zg ?_ zL.1) | exact HB.1)) hb); clear zM; clear zO; clear zE; clear HB; have zM := n0_; have zO := n1_; have zQ := n2_; have zE := n3_; have HB := n4_; clear n0_ n1_ n2_ n3_ n4_; (try clear hb); (try clear hb2); (try clear hk); (try clear hi); (try clear ho0); obtain ⟨Ao26, co26, eo26⟩ := Kd.R_slice zQ.1; subst eo26) | ((with_reducible refine gate_callee (f := 60) rfl ?_); refine goesL_ (some 28) rfl rfl Try.func60 (by kernel_rfl) rfl #[.slice Ao26 t326.length co26] rfl (by (try simp only [List.map_toArray, List.map_cons, List.map_nil]); first | done | rfl | (simp only [List.length_drop, List.length_take]; rfl)) ?_; (with_reducible refine (impl_prefixesIn.calls kj2 _ _ t326 t329 _ ?side1 ?side2 A16.1).mono ?_); (case side1 => repeat (first | exact (Kd.R_reads' zQ.1).2.2 | (with_reducible refine Kd.C_alloc ?_ _) | (with_reducible refine Kd.C_drewN ?_ _) | (with_reducible refine Kd.C_drew ?_))); (case side2 => exact (Kd.R_reads' zQ.1).2.1); rintro e w27 ⟨v330, rfl, ho0, hb⟩; refine ⟨_, rfl, ?_⟩; have n0_ := Aside0.mk (zs (by (with_reducible repeat (first | apply zi | apply zh | apply zj)); exact zM.1) hb); have n1_ := Aside0.mk (zs (by (with_reducible repeat (first | apply zi | apply zh | apply zj)); exact zO.1) hb); have n2_ := Aside0.mk (zs (by (with_reducible repeat (first | apply zi | apply zh | apply zj)); exact zQ.1) hb); have n3_ := Aside0.mk (Kd.R_lower (Kd.R_newB ho0 (g := gb316) (o := .cells #[.int .i64 a1_0, .int .i64 a1_1] 45 (0, 0)) (by (with_reducible repeat (first | refine zb ?_ _ | refine zd ?_ | refine zc ?_ _)); exact zE.1)) (zk (by repeat (first | (with_reducible first | exact HB.1 | apply zf | apply za | apply ze | refine zg ?_ zL.1) | exact HB.1)))); have n4_ := Aside0.mk (zq (g := gb316) (o := .cells #[.int .i64 a1_0, .int .i64 a1_1] 45 (0, 0)) (by (with_reducible repeat (first | refine zb ?_ _ | refine zd ?_ | refine zc ?_ _)); exact zE.1) hb); have n5_ := Aside0.mk (zo (by repeat (first | (with_reducible first | exact HB.1 | apply zf | apply za | apply ze | refine zg ?_ zL.1) | exact HB.1)) hb); clear zM; clear zO; clear zQ; clear zE; clear HB; have zM := n0_; have zO := n1_; have zQ := n2_; have zR := n3_; have zE := n4_; have HB := n5_; clear n0_ n1_ n2_ n3_ n4_ n5_; (try clear hb); (try clear hb2); (try clear hk); (try clear hi); (try clear ho0); obtain ⟨Ao28, co28, eo28⟩ := Kd.R_slice zR.1; subst eo28) | ((with_reducible refine gate_callee (f := 65) rfl ?_); refine goesL_ (some 29) rfl rfl Try.func65 (by kernel_rfl) rfl #[.slice Ao28 t329.length co28] rfl (by (try simp only [List.map_toArray, List.map_cons, List.map_nil]); first | done | rfl | (simp only [List.length_drop, List.length_take]; rfl)) ?_; (with_reducible refine (impl_setOf.calls (fun k_ => some k_ = (.slice Ao28 t329.length co28 : Value).ownBlock) (.slice Ao28 t329.length co28) t329 t332 t335 w _ ?side1 ?side2 A17.1).mono ?_); (case side1 => repeat (first | (with_reducible first | exact HB.1 | apply zf | apply za | apply ze | refine zg ?_ zL.1) | exact HB.1)); (case side2 => exact Kd.R_tight rfl zR.1); rintro e w29 ⟨v333, rfl, ho0, hb, hkp⟩; refine ⟨_, rfl, ?_⟩; have n0_ := Aside0.mk (blk_kept (by (with_reducible repeat (first | refine zb ?_ _ | refine zd ?_ | refine zc ?_ _)); exact zE.1) hkp (fun hs_ => (fun e_ => (Kd.R_away zR.1 (fun _ hk => hk.2)) e_) hs_)); have n1_ := Aside0.mk (zn (ok' := fun k_ => some k_ ≠ (.slice Ao23 t323.length co23 : Value).ownBlock ∧ some k_ ≠ (.slice Ao26 t326.length co26 : Value).ownBlock) (Kd.R_keptB ((Kd.R_apart' zM.1 (Kd.R_typed zR.1) (by decide))) hkp (fun k_ hk_ hs_ => (hk_.2) hs_)) (fun k_ hk_ => ⟨hk_.1.1.1.2, hk_.1.1.2⟩)); have n2_ := Aside0.mk (zn (ok' := fun k_ => some k_ ≠ (.slice Ao24 y320.length co24 : Value).ownBlock ∧ some k_ ≠ (.slice Ao26 t326.length co26 : Value).ownBlock) (Kd.R_keptB ((Kd.R_apart' zO.1 (Kd.R_typed zR.1) (by decide))) hkp (fun k_ hk_ hs_ => (hk_.2) hs_)) (fun k_ hk_ => ⟨hk_.1.1.1.2, hk_.1.1.2⟩)); have n3_ := Aside0.mk (zn (ok' := fun k_ => some k_ ≠ (.slice Ao24 y320.length co24 : Value).ownBlock ∧ some k_ ≠ (.slice Ao23 t323.length co23 : Value).ownBlock) (Kd.R_keptB ((Kd.R_apart' zQ.1 (Kd.R_typed zR.1) (by decide))) hkp (fun k_ hk_ hs_ => (hk_.2) hs_)) (fun k_ hk_ => ⟨hk_.1.1.1.2, hk_.1.1.2⟩)); have n4_ := Aside0.mk (zn (ok' := fun k_ => k_ ≠ gb316) ho0 (fun k_ hk_ => Or.elim hk_ (fun hs_ => fun e_ => (Kd.R_away zR.1 (fun _ hk => hk.2)) (by rw [← e_]; exact hs_)) (fun hn_ => (Kd.freshB (g := gb316) (o := .cells #[.int .i64 a1_0, .int .i64 a1_1] 45 (0, 0)) (by (with_reducible repeat (first | refine zb ?_ _ | refine zd ?_ | refine zc ?_ _)); exact zE.1) k_ hn_)))); have n5_ := Aside0.mk (hb); clear zE; clear zM; clear zO; clear zQ; clear HB; clear zR; have zE := n0_; have zM := n1_; have zO := n2_; have zQ := n3_; have HO334 := n4_; have HB := n5_; clear n0_ n1_ n2_ n3_ n4_ n5_; (try clear hb); (try clear hkp); (try clear ho0)))
    go_ret2
    exact ⟨_, by first | rfl | (simp [errW_none, errW_some] <;> rfl) | (simp [*, errW_none, errW_some] <;> rfl), by (with_reducible repeat (first | apply zi | apply zh | apply zj)); exact zn HO334.1 (fun _ hk => trivial), by repeat (first | (with_reducible first | exact HB.1 | apply zf | apply za | apply ze | refine zg ?_ zL.1) | exact HB.1)⟩

end Go.Proofs.Ytabejlfejlpkeaa.PFnExactCutPrefix
