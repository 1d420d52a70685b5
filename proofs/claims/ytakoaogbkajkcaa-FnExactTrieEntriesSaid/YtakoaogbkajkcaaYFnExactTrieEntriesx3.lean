/- Written by this session's own program over the kit's print: Lean functions that tell what Go functions answer, each with a proof that the call does so. No condition but what each statement says. -/
import Derived.Test.YtakoaogbkajkcaaYFnExactTrieEntriesx0
import Derived.Test.YtakoaogbkajkcaaYFnExactTrieEntriesx2
namespace Go.Proofs.Ytakoaogbkajkcaa.PFnExactTrieEntries
open Go.RowKit Go.Proofs.YtakoaogbkajkcaaW.PrintWords Go.Proofs.YtakoaogbkajkcaaW.PrintLast Go.Proofs.YtakoaogbkajkcaaW.PrintMore
attribute [local go_sem] max2_int min2_int max_two min_two max_three min_three max_four min_four   -- for this text's walks alone
set_option linter.unusedVariables false
set_option linter.unusedSimpArgs false

/-! ### spec_GoodTrie: function 19 -/
mutual
def spec_GoodTrie.l0 : Nat → List (S86) → List Int → List Int → Int → List (S86) → Int → Int → Option (Bool)
  | 0, _, _, _, _, _, _, _ => none
  | k + 1, x0, x3, x4, x5, x20, x21, x22 => if x22 < x21 then (if 0 ≤ x22 then (if x22 < (x20.length : Int) then (if x22 > 0 then (if x22 < (x3.length : Int) then (if (rd x3 x22) = 0 then (spec_GoodTrie.j1 k x0 x3 x4 x5 x22 x20 x21 x22 true ((rd_T86 x20 x22).f0) ((rd_T86 x20 x22).f1) ((rd_T86 x20 x22).f2) ((rd_T86 x20 x22).f3)) else (if x22 < (x4.length : Int) then (spec_GoodTrie.j1 k x0 x3 x4 x5 x22 x20 x21 x22 (decide ((rd x4 x22) > 32)) ((rd_T86 x20 x22).f0) ((rd_T86 x20 x22).f1) ((rd_T86 x20 x22).f2) ((rd_T86 x20 x22).f3)) else (none))) else (none)) else (if x22 < (x4.length : Int) then (spec_GoodTrie.j1 k x0 x3 x4 x5 x22 x20 x21 x22 (decide ((rd x4 x22) > 32)) ((rd_T86 x20 x22).f0) ((rd_T86 x20 x22).f1) ((rd_T86 x20 x22).f2) ((rd_T86 x20 x22).f3)) else (none))) else (none)) else (none)) else (some (decide (x5 ≤ 30)))
def spec_GoodTrie.j1 : Nat → List (S86) → List Int → List Int → Int → Int → List (S86) → Int → Int → Bool → Int → Int → Bool → Int → Option (Bool)
  | 0, _, _, _, _, _, _, _, _, _, _, _, _, _ => none
  | k + 1, x0, x3, x4, x5, x6, x20, x21, x22, x42, x136000, x136001, x136002, x136003 => if x42 = true then (some false) else ((some (([x136000, x136001] : List Int) : List Int)).bind fun y139 => (spec_GoodTrie.l1 k x0 x3 x4 x5 x6 x20 x21 x22 y139 (y139.length : Int) 0 x136000 x136001 x136002 x136003))
def spec_GoodTrie.l1 : Nat → List (S86) → List Int → List Int → Int → Int → List (S86) → Int → Int → List Int → Int → Int → Int → Int → Bool → Int → Option (Bool)
  | 0, _, _, _, _, _, _, _, _, _, _, _, _, _, _, _ => none
  | k + 1, x0, x3, x4, x5, x6, x20, x21, x22, x47, x48, x49, x136000, x136001, x136002, x136003 => if x49 < x48 then (if 0 ≤ x49 then (if x49 < (x47.length : Int) then (if (rd x47 x49) = 0 then (spec_GoodTrie.l1 k x0 x3 x4 x5 x6 x20 x21 x22 x47 x48 (wrap64 (x49 + 1)) x136000 x136001 x136002 x136003) else (if (rd x47 x49) ≤ x6 then (some false) else (if (rd x47 x49) ≥ (x0.length : Int) then (some false) else (if 0 ≤ (rd x47 x49) then (if (rd x47 x49) < (x3.length : Int) then (if (rd x3 (rd x47 x49)) = 0 then (if 0 ≤ x6 then (if x6 < (x4.length : Int) then (if (rd x47 x49) < (x4.length : Int) then (spec_GoodTrie.l1 k x0 (x3.set ((rd x47 x49) : Int).toNat 1) (x4.set ((rd x47 x49) : Int).toNat (wrap64 ((rd x4 x6) + 1))) x5 x6 x20 x21 x22 x47 x48 (wrap64 (x49 + 1)) x136000 x136001 x136002 x136003) else (none)) else (none)) else (none)) else (some false)) else (none)) else (none))))) else (none)) else (none)) else (if x136002 = true then ((spec_l2Value.f x136003).bind fun t147 => (if t147 = true then (if x6 > 0 then (if x136000 = 0 then (if x136001 = 0 then (spec_GoodTrie.l0 k x0 x3 x4 (wrap64 (x5 + 1)) x20 x21 (wrap64 (x22 + 1))) else (spec_GoodTrie.l0 k x0 x3 x4 (wrap64 (x5 + 1)) x20 x21 (wrap64 (x22 + 1)))) else (spec_GoodTrie.l0 k x0 x3 x4 (wrap64 (x5 + 1)) x20 x21 (wrap64 (x22 + 1)))) else (spec_GoodTrie.l0 k x0 x3 x4 (wrap64 (x5 + 1)) x20 x21 (wrap64 (x22 + 1)))) else (some false))) else (if x136003 = 0 then ((spec_l2Value.f x136003).bind fun t148 => (if t148 = true then (if x6 > 0 then (if x136000 = 0 then (if x136001 = 0 then (some false) else (spec_GoodTrie.l0 k x0 x3 x4 x5 x20 x21 (wrap64 (x22 + 1)))) else (spec_GoodTrie.l0 k x0 x3 x4 x5 x20 x21 (wrap64 (x22 + 1)))) else (spec_GoodTrie.l0 k x0 x3 x4 x5 x20 x21 (wrap64 (x22 + 1)))) else (some false))) else (some false)))
end
def spec_GoodTrie.f (k : Nat) (l0 : List (S86)) : Option (Bool) := (spec_l1In.f (l0.length : Int) 1 2000).bind fun t127 => (if t127 = true then (if 0 ≤ (l0.length : Int) then (if ((l0.length : Int) : Int).toNat ≤ 35184372088832 then (spec_GoodTrie.l0 k l0 (List.replicate ((l0.length : Int) : Int).toNat 0) (List.replicate ((l0.length : Int) : Int).toNat 0) 0 l0 (l0.length : Int) 0) else (none)) else (none)) else (some false))
theorem spec_GoodTrie.mono_l : ∀ k, (∀ y0 y1 y2 y3 y4 y5 y6, LeO (spec_GoodTrie.l0 k y0 y1 y2 y3 y4 y5 y6) (spec_GoodTrie.l0 (k + 1) y0 y1 y2 y3 y4 y5 y6)) ∧ (∀ y0 y1 y2 y3 y4 y5 y6 y7 y8 y9 y10 y11 y12, LeO (spec_GoodTrie.j1 k y0 y1 y2 y3 y4 y5 y6 y7 y8 y9 y10 y11 y12) (spec_GoodTrie.j1 (k + 1) y0 y1 y2 y3 y4 y5 y6 y7 y8 y9 y10 y11 y12)) ∧ (∀ y0 y1 y2 y3 y4 y5 y6 y7 y8 y9 y10 y11 y12 y13 y14, LeO (spec_GoodTrie.l1 k y0 y1 y2 y3 y4 y5 y6 y7 y8 y9 y10 y11 y12 y13 y14) (spec_GoodTrie.l1 (k + 1) y0 y1 y2 y3 y4 y5 y6 y7 y8 y9 y10 y11 y12 y13 y14))
  | 0 => ⟨fun _ _ _ _ _ _ _ r h => by simp [spec_GoodTrie.l0] at h, fun _ _ _ _ _ _ _ _ _ _ _ _ _ r h => by simp [spec_GoodTrie.j1] at h, fun _ _ _ _ _ _ _ _ _ _ _ _ _ _ _ r h => by simp [spec_GoodTrie.l1] at h⟩
  | k + 1 => by
    obtain ⟨ih0, ih1, ih2⟩ := spec_GoodTrie.mono_l k
    refine ⟨?_, ?_, ?_⟩
    · intro y0 y1 y2 y3 y4 y5 y6
      unfold spec_GoodTrie.l0
      repeat' first
      | (with_reducible exact ih0 _ _ _ _ _ _ _)
      | (with_reducible exact ih1 _ _ _ _ _ _ _ _ _ _ _ _ _)
      | (with_reducible exact ih2 _ _ _ _ _ _ _ _ _ _ _ _ _ _ _)
      | (with_reducible exact LeO.refl _)
      | (with_reducible exact LeO.none _)
      | (with_reducible refine LeO.ite ?_ ?_)
      | (with_reducible refine LeO.bind ?_ (fun _ => ?_))
      | exact ih0 _ _ _ _ _ _ _
      | exact ih1 _ _ _ _ _ _ _ _ _ _ _ _ _
      | exact ih2 _ _ _ _ _ _ _ _ _ _ _ _ _ _ _
      | exact LeO.none _
      | refine LeO.ite ?_ ?_
      | refine LeO.bind ?_ (fun _ => ?_)
    · intro y0 y1 y2 y3 y4 y5 y6 y7 y8 y9 y10 y11 y12
      unfold spec_GoodTrie.j1
      repeat' first
      | (with_reducible exact ih0 _ _ _ _ _ _ _)
      | (with_reducible exact ih1 _ _ _ _ _ _ _ _ _ _ _ _ _)
      | (with_reducible exact ih2 _ _ _ _ _ _ _ _ _ _ _ _ _ _ _)
      | (with_reducible exact LeO.refl _)
      | (with_reducible exact LeO.none _)
      | (with_reducible refine LeO.ite ?_ ?_)
      | (with_reducible refine LeO.bind ?_ (fun _ => ?_))
      | exact ih0 _ _ _ _ _ _ _
      | exact ih1 _ _ _ _ _ _ _ _ _ _ _ _ _
      | exact ih2 _ _ _ _ _ _ _ _ _ _ _ _ _ _ _
      | exact LeO.none _
      | refine LeO.ite ?_ ?_
      | refine LeO.bind ?_ (fun _ => ?_)
    · intro y0 y1 y2 y3 y4 y5 y6 y7 y8 y9 y10 y11 y12 y13 y14
      unfold spec_GoodTrie.l1
      repeat' first
      | (with_reducible exact ih0 _ _ _ _ _ _ _)
      | (with_reducible exact ih1 _ _ _ _ _ _ _ _ _ _ _ _ _)
      | (with_reducible exact ih2 _ _ _ _ _ _ _ _ _ _ _ _ _ _ _)
      | (with_reducible exact LeO.refl _)
      | (with_reducible exact LeO.none _)
      | (with_reducible refine LeO.ite ?_ ?_)
      | (with_reducible refine LeO.bind ?_ (fun _ => ?_))
      | exact ih0 _ _ _ _ _ _ _
      | exact ih1 _ _ _ _ _ _ _ _ _ _ _ _ _
      | exact ih2 _ _ _ _ _ _ _ _ _ _ _ _ _ _ _
      | exact LeO.none _
      | refine LeO.ite ?_ ?_
      | refine LeO.bind ?_ (fun _ => ?_)
theorem spec_GoodTrie.mono : ∀ a0 k, LeO (spec_GoodTrie.f k a0) (spec_GoodTrie.f (k + 1) a0) := by
  intro a0 k
  obtain ⟨ih0, ih1, ih2⟩ := spec_GoodTrie.mono_l k
  unfold spec_GoodTrie.f
  repeat' first
      | (with_reducible exact ih0 _ _ _ _ _ _ _)
      | (with_reducible exact ih1 _ _ _ _ _ _ _ _ _ _ _ _ _)
      | (with_reducible exact ih2 _ _ _ _ _ _ _ _ _ _ _ _ _ _ _)
      | (with_reducible exact LeO.refl _)
      | (with_reducible exact LeO.none _)
      | (with_reducible refine LeO.ite ?_ ?_)
      | (with_reducible refine LeO.bind ?_ (fun _ => ?_))
      | exact ih0 _ _ _ _ _ _ _
      | exact ih1 _ _ _ _ _ _ _ _ _ _ _ _ _
      | exact ih2 _ _ _ _ _ _ _ _ _ _ _ _ _ _ _
      | exact LeO.none _
      | refine LeO.ite ?_ ?_
      | refine LeO.bind ?_ (fun _ => ?_)
set_option maxHeartbeats 8000000 in
set_option maxRecDepth 100000 in
theorem spec_GoodTrie.calls (k : Nat) (A0 : Option Addr) (c0 : Nat) (l0 : List (S86)) (r : Bool) (w : World) (hr0 : Kd.C k86 w A0 l0.length l0) (hc0 : l0.length ≤ c0) (h : spec_GoodTrie.f k l0 = some r) :
    Calls Try.prog 19 #[.slice A0 l0.length c0] w fun e w' => e = .returned (.bool r) ∧ Below w.heap.size w w' := by
  have hu86 := Try.underlying86
  have HR0 := Aside0.mk hr0
  have HC0 := Aside0.mk hc0
  clear hr0 hc0
  have HB := Aside0.mk (Below.refl w.heap.size w)
  have H : ((spec_l1In.f (l0.length : Int) 1 2000).bind fun t127 => (if t127 = true then (if 0 ≤ (l0.length : Int) then (if ((l0.length : Int) : Int).toNat ≤ 35184372088832 then (spec_GoodTrie.l0 k l0 (List.replicate ((l0.length : Int) : Int).toNat 0) (List.replicate ((l0.length : Int) : Int).toNat 0) 0 l0 (l0.length : Int) 0) else (none)) else (none)) else (some false))) = some r := h
  clear h
  replace H := Option.bind_eq_some_iff.mp H
  obtain ⟨t127, A20, H⟩ := H
  replace H : (if t127 = true then (if 0 ≤ (l0.length : Int) then (if ((l0.length : Int) : Int).toNat ≤ 35184372088832 then (spec_GoodTrie.l0 k l0 (List.replicate ((l0.length : Int) : Int).toNat 0) (List.replicate ((l0.length : Int) : Int).toNat 0) 0 l0 (l0.length : Int) 0) else (none)) else (none)) else (some false)) = some r := H
  have A2 := Aside0.mk A20
  clear A20
  by_cases c3 : t127 = true
  · subst c3
    have H1 : (if 0 ≤ (l0.length : Int) then (if ((l0.length : Int) : Int).toNat ≤ 35184372088832 then (spec_GoodTrie.l0 k l0 (List.replicate ((l0.length : Int) : Int).toNat 0) (List.replicate ((l0.length : Int) : Int).toNat 0) 0 l0 (l0.length : Int) 0) else (none)) else (none)) = some r := by rw [if_pos rfl] at H; exact H
    clear H
    have H := H1
    clear H1
    by_cases c4 : 0 ≤ (l0.length : Int)
    · rw [if_pos c4] at H
      have c4b0 := eq_true c4
      have c4b1 : decide (0 ≤ (l0.length : Int)) = true := decide_eq_true c4
      clear c4
      by_cases c5 : ((l0.length : Int) : Int).toNat ≤ 35184372088832
      · rw [if_pos c5] at H
        have c5b0 := eq_true c5
        have c5b1 : decide (((l0.length : Int) : Int).toNat ≤ 35184372088832) = true := decide_eq_true c5
        clear c5
        obtain ⟨y128, hy128⟩ : ∃ y_ : List Int, y_ = (List.replicate ((l0.length : Int) : Int).toNat 0) := ⟨_, rfl⟩
        replace H : (spec_GoodTrie.l0 k l0 y128 (List.replicate ((l0.length : Int) : Int).toNat 0) 0 l0 (l0.length : Int) 0) = some r := by first | (rw [hy128]; with_reducible exact H) | (have H2_ := (Option.bind_some _ _).symm.trans H; rw [hy128]; with_reducible exact H2_) | (have H2_ := (Option.bind_some _ _).symm.trans H; with_reducible exact H2_) | with_reducible exact H | (rw [hy128]; exact H) | exact H
        have Ny128 := Aside0.mk hy128
        clear hy128
        obtain ⟨y131, hy131⟩ : ∃ y_ : List Int, y_ = (List.replicate ((l0.length : Int) : Int).toNat 0) := ⟨_, rfl⟩
        replace H : (spec_GoodTrie.l0 k l0 y128 y131 0 l0 (l0.length : Int) 0) = some r := by first | (rw [hy131]; with_reducible exact H) | (have H2_ := (Option.bind_some _ _).symm.trans H; rw [hy131]; with_reducible exact H2_) | (have H2_ := (Option.bind_some _ _).symm.trans H; with_reducible exact H2_) | with_reducible exact H | (rw [hy131]; exact H) | exact H
        have Ny131 := Aside0.mk hy131
        clear hy131
        have H' := Aside0.mk H
        clear H
        go_enter Try.func19, Try.ntmps19
        go_wp2_with (first | ((with_reducible refine gate_callee (f := 58) rfl ?_); refine goesL_ (some 12) rfl rfl Try.func58 (by kernel_rfl) rfl #[.int .i64 (l0.length : Int), .int .i64 1, .int .i64 2000] rfl (by (try simp only [List.map_toArray, List.map_cons, List.map_nil]); first | done | rfl | (simp only [List.length_drop, List.length_take]; rfl)) ?_; (with_reducible refine (spec_l1In.calls (l0.length : Int) 1 2000 true _ A2.out).mono ?_); rintro e w' ⟨rfl, ⟨nd, rfl⟩⟩; refine ⟨_, rfl, ?_⟩) | ((with_reducible refine gate_dst (N := 16) rfl ?_); (try (refine gate_guard (by rfl) ?_; dsimp only)); refine Kd.R_make (Kd.int .i64) _ 3 rfl (N := 16) rfl 84 _ _ rfl (l0.length : Int) rfl rfl Try.underlying84 (.int .i64 0) 8 info3 rfl (by decide) (by omega) 0 (ok := fun _ => True) (okp := fun _ => True) rfl (fun _ hk => hk) trivial (of_decide_eq_true (by first | (with_reducible assumption) | assumption)) (Nat.le_trans (Nat.mul_le_mul_right _ (of_decide_eq_true (by first | (with_reducible assumption) | assumption) : (l0.length : Int).toNat ≤ 35184372088832)) (by omega)) (Below.refl _ _) (Nat.le_refl _) ?_; intro v129 w6 ho7 hb hg_ hnew_; clear hg_ hnew_; (first | rw [← Ny128.out] at ho7 | (simp only [Int.reduceToNat] at ho7; rw [← Ny128.out] at ho7)); have n0_ := Aside0.mk (Kd.R_lower ho7 (below_size (by repeat (first | (with_reducible first | exact HB.out | apply below_alloc | apply pw_below_drewN | apply below_drew1) | exact HB.out)))); have n1_ := Aside0.mk (below_step (by repeat (first | (with_reducible first | exact HB.out | apply below_alloc | apply pw_below_drewN | apply below_drew1) | exact HB.out)) hb); clear HB; have HO130 := n0_; have HB := n1_; clear n0_ n1_; clear hb ho7) | ((with_reducible refine gate_dst (N := 19) rfl ?_); (try (refine gate_guard (by rfl) ?_; dsimp only)); refine Kd.R_make (Kd.int .i64) _ 3 rfl (N := 19) rfl 84 _ _ rfl (l0.length : Int) rfl rfl Try.underlying84 (.int .i64 0) 8 info3 rfl (by decide) (by omega) 0 (ok := fun _ => True) (okp := fun _ => True) rfl (fun _ hk => hk) trivial (of_decide_eq_true (by first | (with_reducible assumption) | assumption)) (Nat.le_trans (Nat.mul_le_mul_right _ (of_decide_eq_true (by first | (with_reducible assumption) | assumption) : (l0.length : Int).toNat ≤ 35184372088832)) (by omega)) (Below.refl _ _) (Nat.le_refl _) ?_; intro v132 w8 ho9 hb hg_ hnew_; clear hg_ hnew_; (first | rw [← Ny131.out] at ho9 | (simp only [Int.reduceToNat] at ho9; rw [← Ny131.out] at ho9)); have n0_ := Aside0.mk (Kd.R_elder' (by (with_reducible repeat (first | apply Kd.R_alloc | apply Kd.R_drewN | apply Kd.R_drew)); exact HO130.out) (Kd.R_base ho9) hb); have n1_ := Aside0.mk (Kd.R_lower (Kd.R_new' ho9 (Kd.R_lt (by (with_reducible repeat (first | apply Kd.R_alloc | apply Kd.R_drewN | apply Kd.R_drew)); exact HO130.out))) (below_size (by repeat (first | (with_reducible first | exact HB.out | apply below_alloc | apply pw_below_drewN | apply below_drew1) | exact HB.out)))); have n2_ := Aside0.mk (below_step (by repeat (first | (with_reducible first | exact HB.out | apply below_alloc | apply pw_below_drewN | apply below_drew1) | exact HB.out)) hb); clear HO130; clear HB; have HO130 := n0_; have HO133 := n1_; have HB := n2_; clear n0_ n1_ n2_; clear hb ho9))
        go_loopg [5, 22] k (fun kq v5 v22 w' => ∃ (x3_1 : List Int) (x4_1 : List Int) (x5_1 : Int) (x22_1 : Int), v5 = .int .i64 x5_1 ∧ v22 = .int .i64 x22_1 ∧ Aside0 (spec_GoodTrie.l0 kq l0 x3_1 x4_1 x5_1 l0 (l0.length : Int) x22_1 = some r) ∧ Aside0 (kq ≤ k) ∧ Aside0 (Kd.R (Kd.int .i64) 3 w' w.heap.size (fun k_ => some k_ ≠ (v132 : Value).ownBlock) v129 x3_1) ∧ Aside0 (Kd.R (Kd.int .i64) 3 w' w.heap.size (fun k_ => some k_ ≠ (v129 : Value).ownBlock) v132 x4_1) ∧ Aside0 (Below w.heap.size w w'))
        case atStart => exact ⟨(y128), (y131), (0), (0), (by first | rfl | (simp; done) | (simp [*]; done)), (by first | rfl | (simp; done) | (simp [*]; done)), H', ⟨Nat.le_refl _⟩, ⟨by (with_reducible repeat (first | apply Kd.R_alloc | apply Kd.R_drewN | apply Kd.R_drew)); exact Kd.R_mono HO130.out (fun _ hk => hk.2)⟩, ⟨by (with_reducible repeat (first | apply Kd.R_alloc | apply Kd.R_drewN | apply Kd.R_drew)); exact Kd.R_mono HO133.out (fun _ hk => hk.2)⟩, ⟨by repeat (first | (with_reducible first | exact HB.out | apply below_alloc | apply pw_below_drewN | apply below_drew1) | exact HB.out)⟩⟩
        case round =>
          clear H'
          try clear c1
          try clear p2
          try clear c3
          try clear c4
          try clear c4b0
          try clear c4b1
          try clear c5
          try clear c5b0
          try clear c5b1
          obtain ⟨x3_1, x4_1, x5_1, x22_1, rfl, rfl, HA, HK1, HO_3, HO_4, HB⟩ := hrel
          cases gk with
          | zero => exact absurd HA.out (by simp [spec_GoodTrie.l0])
          | succ k1 =>
            have H := HA.out
            clear HA
            simp only [spec_GoodTrie.l0] at H
            by_cases c10 : x22_1 < (l0.length : Int)
            · rw [if_pos c10] at H
              have c10b0 : decide (x22_1 < (l0.length : Int)) = true := decide_eq_true c10
              clear c10
              by_cases c11 : 0 ≤ x22_1
              · rw [if_pos c11] at H
                have c11b0 : decide (0 ≤ x22_1) = true := decide_eq_true c11
                clear c11
                by_cases c12 : x22_1 < (l0.length : Int)
                · rw [if_pos c12] at H
                  have c12b0 : decide (x22_1 < (l0.length : Int)) = true := decide_eq_true c12
                  clear c12
                  have HC13 := Aside0.mk H
                  clear H
                  have p134 : 0 ≤ (x22_1 : Int) := of_decide_eq_true (by first | (with_reducible assumption) | assumption)
                  have q134 : x22_1 < (l0.length : Int) := of_decide_eq_true (by first | (with_reducible assumption) | assumption)
                  obtain ⟨ad134, e134, hx134_0, hx134_1, hx134_2, hx134_3⟩ := at_T86 HR0.out x22_1 p134 q134
                  cases e134
                  replace hx134_0 := (HB.out.cell (World.block_lt_of_cell? w _ hx134_0)).trans hx134_0
                  replace hx134_1 := (HB.out.cell (World.block_lt_of_cell? w _ hx134_1)).trans hx134_1
                  replace hx134_2 := (HB.out.cell (World.block_lt_of_cell? w _ hx134_2)).trans hx134_2
                  replace hx134_3 := (HB.out.cell (World.block_lt_of_cell? w _ hx134_3)).trans hx134_3
                  replace p134 := eq_true p134
                  replace q134 := eq_true q134
                  go_upto_region 9 with (first | ((with_reducible refine gate_dst (N := 7) rfl ?_); (try (refine gate_guard (by rfl) ?_; dsimp only)); refine box_event ?hg (N := 7) ?hd (cs := #[.int .i64 0, .int .i64 0, .bool false, .int .i64 0]) (t := 86) ?hr ?_; (case hd => rfl); (case hg => rfl); (case hr => first | (go_simp; done) | (go_simp; rfl)); intro gb135 hg w14 hbox hb; have n0_ := Aside0.mk (Kd.R_below (by (with_reducible repeat (first | apply Kd.R_alloc | apply Kd.R_drewN | apply Kd.R_drew)); exact HO_3.out) hb); have n1_ := Aside0.mk (Kd.R_below (by (with_reducible repeat (first | apply Kd.R_alloc | apply Kd.R_drewN | apply Kd.R_drew)); exact HO_4.out) hb); have n2_ := Aside0.mk (below_step (by repeat (first | (with_reducible first | exact HB.out | apply below_alloc | apply pw_below_drewN | apply below_drew1) | exact HB.out)) hb); have n3_ := Aside0.mk (hbox); have n4_ := Aside0.mk ((by rw [hg]; exact (below_size (by repeat (first | (with_reducible first | exact HB.out | apply below_alloc | apply pw_below_drewN | apply below_drew1) | exact HB.out))) : w.heap.size ≤ gb135)); have n5_ := Aside0.mk ((by rw [hg]; exact (below_size (by repeat (first | (with_reducible first | exact HB.out | apply below_alloc | apply pw_below_drewN | apply below_drew1) | exact HB.out))) : w.heap.size ≤ gb135)); clear HO_3; clear HO_4; clear HB; have HO_3 := n0_; have HO_4 := n1_; have HB := n2_; have BK135 := n3_; have GW135 := n4_; have GE135 := n5_; clear n0_ n1_ n2_ n3_ n4_ n5_; clear hb hbox hg; have hcz15_0 : w14.cell? ⟨gb135, 0, none⟩ = some (.int .i64 0) := (blk_cell BK135.out 0).trans rfl; have hcz15_1 : w14.cell? ⟨gb135, 1, none⟩ = some (.int .i64 0) := (blk_cell BK135.out 1).trans rfl; have hcz15_2 : w14.cell? ⟨gb135, 2, none⟩ = some (.bool false) := (blk_cell BK135.out 2).trans rfl; have hcz15_3 : w14.cell? ⟨gb135, 3, none⟩ = some (.int .i64 0) := (blk_cell BK135.out 3).trans rfl; have hfz15_0 := blk_frozen BK135.out 0; have hfz15_1 := blk_frozen BK135.out 1; have hfz15_2 := blk_frozen BK135.out 2; have hfz15_3 := blk_frozen BK135.out 3))
                  (try simp only [Act.put, List.setIfInBounds_toArray, List.set_cons_zero, List.set_cons_succ])
                  go_cut [42] (fun v42 wc => ∃ (kq : Nat) (x42_12 : Bool), v42 = .bool x42_12 ∧ Aside0 (spec_GoodTrie.j1 kq l0 x3_1 x4_1 x5_1 x22_1 l0 (l0.length : Int) x22_1 x42_12 ((rd_T86 l0 x22_1).f0) ((rd_T86 l0 x22_1).f1) ((rd_T86 l0 x22_1).f2) ((rd_T86 l0 x22_1).f3) = some r) ∧ Aside0 (kq ≤ k1) ∧ Aside0 (Kd.R (Kd.int .i64) 3 wc w.heap.size (fun k_ => some k_ ≠ (v132 : Value).ownBlock) v129 x3_1) ∧ Aside0 (Kd.R (Kd.int .i64) 3 wc w.heap.size (fun k_ => some k_ ≠ (v129 : Value).ownBlock) v132 x4_1) ∧ Aside0 (wc.heap[gb135]? = some (.cells #[.int .i64 ((rd_T86 l0 x22_1).f0), .int .i64 ((rd_T86 l0 x22_1).f1), .bool ((rd_T86 l0 x22_1).f2), .int .i64 ((rd_T86 l0 x22_1).f3)] 86 (0, 0))) ∧ Aside0 (Below w.heap.size w wc))
                  case first =>
                    have H := HC13.out
                    clear HC13
                    by_cases c16 : x22_1 > 0
                    · rw [if_pos c16] at H
                      have c16b0 : decide (0 < x22_1) = true := decide_eq_true c16
                      clear c16
                      (first | rw [c16b0] | (simp only [i64_w, i32_w]; rw [c16b0]) | skip)
                      by_cases c17 : x22_1 < (x3_1.length : Int)
                      · rw [if_pos c17] at H
                        have c17b0 : decide (x22_1 < (x3_1.length : Int)) = true := decide_eq_true c17
                        clear c17
                        by_cases c18 : (rd x3_1 x22_1) = 0
                        · rw [if_pos c18] at H
                          have c18b0 : ((rd x3_1 x22_1) == 0) = true := beq_iff_eq.mpr c18
                          have c18b1 : ((rd x3_1 x22_1) != 0) = false := bne_eq_false_iff_eq.mpr c18
                          clear c18
                          have H' := Aside0.mk H
                          clear H
                          obtain ⟨Ao19, co19, eo19⟩ := Kd.R_slice HO_3.out
                          subst eo19
                          have p136 : 0 ≤ (x22_1 : Int) := of_decide_eq_true (by first | (with_reducible assumption) | assumption)
                          have q136 : x22_1 < (x3_1.length : Int) := of_decide_eq_true (by first | (with_reducible assumption) | assumption)
                          obtain ⟨ad136, e136, hx136_0⟩ := Kd.at_int (Kd.R_reads' HO_3.out).2.2 x22_1 p136 q136
                          cases e136
                          have hn136_0 : (ad136 : Addr).block ≠ gb135 := Kd.own_blk (Kd.R_ne HO_3.out BK135.out (by decide))
                          have hn136_1 : (ad136 : Addr).block ≠ gb135 := Kd.own_blk (Kd.R_ne HO_3.out BK135.out (by decide))
                          have hn136_2 : (ad136 : Addr).block ≠ gb135 := Kd.own_blk (Kd.R_ne HO_3.out BK135.out (by decide))
                          have hn136_3 : (ad136 : Addr).block ≠ gb135 := Kd.own_blk (Kd.R_ne HO_3.out BK135.out (by decide))
                          replace hx136_0 := (cell_far (p := ⟨gb135, 0, none⟩) (by first | (rw [add_block]; exact hn136_0) | (show (Addr.add _ _).block ≠ _; rw [add_block]; exact hn136_0) | exact hn136_0) (.int .i64 ((rd_T86 l0 x22_1).f0))).trans hx136_0
                          replace hx136_0 := (cell_far (p := ⟨gb135, 1, none⟩) (by first | (rw [add_block]; exact hn136_1) | (show (Addr.add _ _).block ≠ _; rw [add_block]; exact hn136_1) | exact hn136_1) (.int .i64 ((rd_T86 l0 x22_1).f1))).trans hx136_0
                          replace hx136_0 := (cell_far (p := ⟨gb135, 2, none⟩) (by first | (rw [add_block]; exact hn136_2) | (show (Addr.add _ _).block ≠ _; rw [add_block]; exact hn136_2) | exact hn136_2) (.bool ((rd_T86 l0 x22_1).f2))).trans hx136_0
                          replace hx136_0 := (cell_far (p := ⟨gb135, 3, none⟩) (by first | (rw [add_block]; exact hn136_3) | (show (Addr.add _ _).block ≠ _; rw [add_block]; exact hn136_3) | exact hn136_3) (.int .i64 ((rd_T86 l0 x22_1).f3))).trans hx136_0
                          clear hn136_0
                          clear hn136_1
                          clear hn136_2
                          clear hn136_3
                          replace p136 := eq_true p136
                          replace q136 := eq_true q136
                          go_wp2
                          go_meet
                          case rel => exact ⟨_, (true), (by first | rfl | (simp; done) | (simp [*]; done)), H', ⟨by have := HK1.out; first | omega | exact Nat.le_refl _⟩, ⟨by (with_reducible repeat (first | apply Kd.R_alloc | apply Kd.R_drewN | apply Kd.R_drew)); exact Kd.R_mono (Kd.R_far (p := ⟨gb135, 3, none⟩) (Kd.R_far (p := ⟨gb135, 2, none⟩) (Kd.R_far (p := ⟨gb135, 1, none⟩) (Kd.R_far (p := ⟨gb135, 0, none⟩) (Kd.R_types HO_3.out BK135.out (by decide)) (fun _ hk => hk.2) (.int .i64 ((rd_T86 l0 x22_1).f0))) (fun _ hk => hk.2) (.int .i64 ((rd_T86 l0 x22_1).f1))) (fun _ hk => hk.2) (.bool ((rd_T86 l0 x22_1).f2))) (fun _ hk => hk.2) (.int .i64 ((rd_T86 l0 x22_1).f3))) (fun _ hk => hk.1)⟩, ⟨by (with_reducible repeat (first | apply Kd.R_alloc | apply Kd.R_drewN | apply Kd.R_drew)); exact Kd.R_mono (Kd.R_far (p := ⟨gb135, 3, none⟩) (Kd.R_far (p := ⟨gb135, 2, none⟩) (Kd.R_far (p := ⟨gb135, 1, none⟩) (Kd.R_far (p := ⟨gb135, 0, none⟩) (Kd.R_types HO_4.out BK135.out (by decide)) (fun _ hk => hk.2) (.int .i64 ((rd_T86 l0 x22_1).f0))) (fun _ hk => hk.2) (.int .i64 ((rd_T86 l0 x22_1).f1))) (fun _ hk => hk.2) (.bool ((rd_T86 l0 x22_1).f2))) (fun _ hk => hk.2) (.int .i64 ((rd_T86 l0 x22_1).f3))) (fun _ hk => hk.1)⟩, ⟨by (with_reducible repeat (first | refine blk_drewN ?_ _ | refine blk_drew ?_ | refine blk_alloc ?_ _)); refine blk_put (cs := #[.int .i64 ((rd_T86 l0 x22_1).f0), .int .i64 ((rd_T86 l0 x22_1).f1), .bool ((rd_T86 l0 x22_1).f2), .int .i64 0]) ?_ 3 _ rfl; (with_reducible repeat (first | refine blk_drewN ?_ _ | refine blk_drew ?_ | refine blk_alloc ?_ _)); refine blk_put (cs := #[.int .i64 ((rd_T86 l0 x22_1).f0), .int .i64 ((rd_T86 l0 x22_1).f1), .bool false, .int .i64 0]) ?_ 2 _ rfl; (with_reducible repeat (first | refine blk_drewN ?_ _ | refine blk_drew ?_ | refine blk_alloc ?_ _)); refine blk_put (cs := #[.int .i64 ((rd_T86 l0 x22_1).f0), .int .i64 0, .bool false, .int .i64 0]) ?_ 1 _ rfl; (with_reducible repeat (first | refine blk_drewN ?_ _ | refine blk_drew ?_ | refine blk_alloc ?_ _)); refine blk_put (cs := #[.int .i64 0, .int .i64 0, .bool false, .int .i64 0]) ?_ 0 _ rfl; (with_reducible repeat (first | refine blk_drewN ?_ _ | refine blk_drew ?_ | refine blk_alloc ?_ _)); exact BK135.out⟩, ⟨by repeat (first | (with_reducible first | exact HB.out | apply below_alloc | apply pw_below_drewN | apply below_drew1 | refine below_set ?_ GE135.out) | exact HB.out)⟩⟩
                        · rw [if_neg c18] at H
                          have c18b0 : ((rd x3_1 x22_1) == 0) = false := beq_eq_false_iff_ne.mpr c18
                          have c18b1 : ((rd x3_1 x22_1) != 0) = true := bne_iff_ne.mpr c18
                          by_cases c20 : x22_1 < (x4_1.length : Int)
                          · rw [if_pos c20] at H
                            have c20b0 : decide (x22_1 < (x4_1.length : Int)) = true := decide_eq_true c20
                            clear c20
                            have H' := Aside0.mk H
                            clear H
                            obtain ⟨Ao21, co21, eo21⟩ := Kd.R_slice HO_3.out
                            subst eo21
                            have p136 : 0 ≤ (x22_1 : Int) := of_decide_eq_true (by first | (with_reducible assumption) | assumption)
                            have q136 : x22_1 < (x3_1.length : Int) := of_decide_eq_true (by first | (with_reducible assumption) | assumption)
                            obtain ⟨ad136, e136, hx136_0⟩ := Kd.at_int (Kd.R_reads' HO_3.out).2.2 x22_1 p136 q136
                            cases e136
                            have hn136_0 : (ad136 : Addr).block ≠ gb135 := Kd.own_blk (Kd.R_ne HO_3.out BK135.out (by decide))
                            have hn136_1 : (ad136 : Addr).block ≠ gb135 := Kd.own_blk (Kd.R_ne HO_3.out BK135.out (by decide))
                            have hn136_2 : (ad136 : Addr).block ≠ gb135 := Kd.own_blk (Kd.R_ne HO_3.out BK135.out (by decide))
                            have hn136_3 : (ad136 : Addr).block ≠ gb135 := Kd.own_blk (Kd.R_ne HO_3.out BK135.out (by decide))
                            replace hx136_0 := (cell_far (p := ⟨gb135, 0, none⟩) (by first | (rw [add_block]; exact hn136_0) | (show (Addr.add _ _).block ≠ _; rw [add_block]; exact hn136_0) | exact hn136_0) (.int .i64 ((rd_T86 l0 x22_1).f0))).trans hx136_0
                            replace hx136_0 := (cell_far (p := ⟨gb135, 1, none⟩) (by first | (rw [add_block]; exact hn136_1) | (show (Addr.add _ _).block ≠ _; rw [add_block]; exact hn136_1) | exact hn136_1) (.int .i64 ((rd_T86 l0 x22_1).f1))).trans hx136_0
                            replace hx136_0 := (cell_far (p := ⟨gb135, 2, none⟩) (by first | (rw [add_block]; exact hn136_2) | (show (Addr.add _ _).block ≠ _; rw [add_block]; exact hn136_2) | exact hn136_2) (.bool ((rd_T86 l0 x22_1).f2))).trans hx136_0
                            replace hx136_0 := (cell_far (p := ⟨gb135, 3, none⟩) (by first | (rw [add_block]; exact hn136_3) | (show (Addr.add _ _).block ≠ _; rw [add_block]; exact hn136_3) | exact hn136_3) (.int .i64 ((rd_T86 l0 x22_1).f3))).trans hx136_0
                            clear hn136_0
                            clear hn136_1
                            clear hn136_2
                            clear hn136_3
                            replace p136 := eq_true p136
                            replace q136 := eq_true q136
                            obtain ⟨Ao22, co22, eo22⟩ := Kd.R_slice HO_4.out
                            subst eo22
                            have p137 : 0 ≤ (x22_1 : Int) := of_decide_eq_true (by first | (with_reducible assumption) | assumption)
                            have q137 : x22_1 < (x4_1.length : Int) := of_decide_eq_true (by first | (with_reducible assumption) | assumption)
                            obtain ⟨ad137, e137, hx137_0⟩ := Kd.at_int (Kd.R_reads' HO_4.out).2.2 x22_1 p137 q137
                            cases e137
                            have hn137_0 : (ad137 : Addr).block ≠ gb135 := Kd.own_blk (Kd.R_ne HO_4.out BK135.out (by decide))
                            have hn137_1 : (ad137 : Addr).block ≠ gb135 := Kd.own_blk (Kd.R_ne HO_4.out BK135.out (by decide))
                            have hn137_2 : (ad137 : Addr).block ≠ gb135 := Kd.own_blk (Kd.R_ne HO_4.out BK135.out (by decide))
                            have hn137_3 : (ad137 : Addr).block ≠ gb135 := Kd.own_blk (Kd.R_ne HO_4.out BK135.out (by decide))
                            replace hx137_0 := (cell_far (p := ⟨gb135, 0, none⟩) (by first | (rw [add_block]; exact hn137_0) | (show (Addr.add _ _).block ≠ _; rw [add_block]; exact hn137_0) | exact hn137_0) (.int .i64 ((rd_T86 l0 x22_1).f0))).trans hx137_0
                            replace hx137_0 := (cell_far (p := ⟨gb135, 1, none⟩) (by first | (rw [add_block]; exact hn137_1) | (show (Addr.add _ _).block ≠ _; rw [add_block]; exact hn137_1) | exact hn137_1) (.int .i64 ((rd_T86 l0 x22_1).f1))).trans hx137_0
                            replace hx137_0 := (cell_far (p := ⟨gb135, 2, none⟩) (by first | (rw [add_block]; exact hn137_2) | (show (Addr.add _ _).block ≠ _; rw [add_block]; exact hn137_2) | exact hn137_2) (.bool ((rd_T86 l0 x22_1).f2))).trans hx137_0
                            replace hx137_0 := (cell_far (p := ⟨gb135, 3, none⟩) (by first | (rw [add_block]; exact hn137_3) | (show (Addr.add _ _).block ≠ _; rw [add_block]; exact hn137_3) | exact hn137_3) (.int .i64 ((rd_T86 l0 x22_1).f3))).trans hx137_0
                            clear hn137_0
                            clear hn137_1
                            clear hn137_2
                            clear hn137_3
                            replace p137 := eq_true p137
                            replace q137 := eq_true q137
                            go_wp2
                            go_meet
                            case rel => exact ⟨_, (decide ((rd x4_1 x22_1) > 32)), (by first | rfl | (simp; done) | (simp [*]; done)), H', ⟨by have := HK1.out; first | omega | exact Nat.le_refl _⟩, ⟨by (with_reducible repeat (first | apply Kd.R_alloc | apply Kd.R_drewN | apply Kd.R_drew)); exact Kd.R_mono (Kd.R_far (p := ⟨gb135, 3, none⟩) (Kd.R_far (p := ⟨gb135, 2, none⟩) (Kd.R_far (p := ⟨gb135, 1, none⟩) (Kd.R_far (p := ⟨gb135, 0, none⟩) (Kd.R_types HO_3.out BK135.out (by decide)) (fun _ hk => hk.2) (.int .i64 ((rd_T86 l0 x22_1).f0))) (fun _ hk => hk.2) (.int .i64 ((rd_T86 l0 x22_1).f1))) (fun _ hk => hk.2) (.bool ((rd_T86 l0 x22_1).f2))) (fun _ hk => hk.2) (.int .i64 ((rd_T86 l0 x22_1).f3))) (fun _ hk => hk.1)⟩, ⟨by (with_reducible repeat (first | apply Kd.R_alloc | apply Kd.R_drewN | apply Kd.R_drew)); exact Kd.R_mono (Kd.R_far (p := ⟨gb135, 3, none⟩) (Kd.R_far (p := ⟨gb135, 2, none⟩) (Kd.R_far (p := ⟨gb135, 1, none⟩) (Kd.R_far (p := ⟨gb135, 0, none⟩) (Kd.R_types HO_4.out BK135.out (by decide)) (fun _ hk => hk.2) (.int .i64 ((rd_T86 l0 x22_1).f0))) (fun _ hk => hk.2) (.int .i64 ((rd_T86 l0 x22_1).f1))) (fun _ hk => hk.2) (.bool ((rd_T86 l0 x22_1).f2))) (fun _ hk => hk.2) (.int .i64 ((rd_T86 l0 x22_1).f3))) (fun _ hk => hk.1)⟩, ⟨by (with_reducible repeat (first | refine blk_drewN ?_ _ | refine blk_drew ?_ | refine blk_alloc ?_ _)); refine blk_put (cs := #[.int .i64 ((rd_T86 l0 x22_1).f0), .int .i64 ((rd_T86 l0 x22_1).f1), .bool ((rd_T86 l0 x22_1).f2), .int .i64 0]) ?_ 3 _ rfl; (with_reducible repeat (first | refine blk_drewN ?_ _ | refine blk_drew ?_ | refine blk_alloc ?_ _)); refine blk_put (cs := #[.int .i64 ((rd_T86 l0 x22_1).f0), .int .i64 ((rd_T86 l0 x22_1).f1), .bool false, .int .i64 0]) ?_ 2 _ rfl; (with_reducible repeat (first | refine blk_drewN ?_ _ | refine blk_drew ?_ | refine blk_alloc ?_ _)); refine blk_put (cs := #[.int .i64 ((rd_T86 l0 x22_1).f0), .int .i64 0, .bool false, .int .i64 0]) ?_ 1 _ rfl; (with_reducible repeat (first | refine blk_drewN ?_ _ | refine blk_drew ?_ | refine blk_alloc ?_ _)); refine blk_put (cs := #[.int .i64 0, .int .i64 0, .bool false, .int .i64 0]) ?_ 0 _ rfl; (with_reducible repeat (first | refine blk_drewN ?_ _ | refine blk_drew ?_ | refine blk_alloc ?_ _)); exact BK135.out⟩, ⟨by repeat (first | (with_reducible first | exact HB.out | apply below_alloc | apply pw_below_drewN | apply below_drew1 | refine below_set ?_ GE135.out) | exact HB.out)⟩⟩
                          · rw [if_neg c20] at H
                            exact absurd H (by simp)
                      · rw [if_neg c17] at H
                        exact absurd H (by simp)
                    · rw [if_neg c16] at H
                      have c16b0 : decide (0 < x22_1) = false := decide_eq_false c16
                      clear c16
                      (first | rw [c16b0] | (simp only [i64_w, i32_w]; rw [c16b0]) | skip)
                      by_cases c23 : x22_1 < (x4_1.length : Int)
                      · rw [if_pos c23] at H
                        have c23b0 : decide (x22_1 < (x4_1.length : Int)) = true := decide_eq_true c23
                        clear c23
                        have H' := Aside0.mk H
                        clear H
                        obtain ⟨Ao24, co24, eo24⟩ := Kd.R_slice HO_4.out
                        subst eo24
                        have p138 : 0 ≤ (x22_1 : Int) := of_decide_eq_true (by first | (with_reducible assumption) | assumption)
                        have q138 : x22_1 < (x4_1.length : Int) := of_decide_eq_true (by first | (with_reducible assumption) | assumption)
                        obtain ⟨ad138, e138, hx138_0⟩ := Kd.at_int (Kd.R_reads' HO_4.out).2.2 x22_1 p138 q138
                        cases e138
                        have hn138_0 : (ad138 : Addr).block ≠ gb135 := Kd.own_blk (Kd.R_ne HO_4.out BK135.out (by decide))
                        have hn138_1 : (ad138 : Addr).block ≠ gb135 := Kd.own_blk (Kd.R_ne HO_4.out BK135.out (by decide))
                        have hn138_2 : (ad138 : Addr).block ≠ gb135 := Kd.own_blk (Kd.R_ne HO_4.out BK135.out (by decide))
                        have hn138_3 : (ad138 : Addr).block ≠ gb135 := Kd.own_blk (Kd.R_ne HO_4.out BK135.out (by decide))
                        replace hx138_0 := (cell_far (p := ⟨gb135, 0, none⟩) (by first | (rw [add_block]; exact hn138_0) | (show (Addr.add _ _).block ≠ _; rw [add_block]; exact hn138_0) | exact hn138_0) (.int .i64 ((rd_T86 l0 x22_1).f0))).trans hx138_0
                        replace hx138_0 := (cell_far (p := ⟨gb135, 1, none⟩) (by first | (rw [add_block]; exact hn138_1) | (show (Addr.add _ _).block ≠ _; rw [add_block]; exact hn138_1) | exact hn138_1) (.int .i64 ((rd_T86 l0 x22_1).f1))).trans hx138_0
                        replace hx138_0 := (cell_far (p := ⟨gb135, 2, none⟩) (by first | (rw [add_block]; exact hn138_2) | (show (Addr.add _ _).block ≠ _; rw [add_block]; exact hn138_2) | exact hn138_2) (.bool ((rd_T86 l0 x22_1).f2))).trans hx138_0
                        replace hx138_0 := (cell_far (p := ⟨gb135, 3, none⟩) (by first | (rw [add_block]; exact hn138_3) | (show (Addr.add _ _).block ≠ _; rw [add_block]; exact hn138_3) | exact hn138_3) (.int .i64 ((rd_T86 l0 x22_1).f3))).trans hx138_0
                        clear hn138_0
                        clear hn138_1
                        clear hn138_2
                        clear hn138_3
                        replace p138 := eq_true p138
                        replace q138 := eq_true q138
                        go_wp2
                        go_meet
                        case rel => exact ⟨_, (decide ((rd x4_1 x22_1) > 32)), (by first | rfl | (simp; done) | (simp [*]; done)), H', ⟨by have := HK1.out; first | omega | exact Nat.le_refl _⟩, ⟨by (with_reducible repeat (first | apply Kd.R_alloc | apply Kd.R_drewN | apply Kd.R_drew)); exact Kd.R_mono (Kd.R_far (p := ⟨gb135, 3, none⟩) (Kd.R_far (p := ⟨gb135, 2, none⟩) (Kd.R_far (p := ⟨gb135, 1, none⟩) (Kd.R_far (p := ⟨gb135, 0, none⟩) (Kd.R_types HO_3.out BK135.out (by decide)) (fun _ hk => hk.2) (.int .i64 ((rd_T86 l0 x22_1).f0))) (fun _ hk => hk.2) (.int .i64 ((rd_T86 l0 x22_1).f1))) (fun _ hk => hk.2) (.bool ((rd_T86 l0 x22_1).f2))) (fun _ hk => hk.2) (.int .i64 ((rd_T86 l0 x22_1).f3))) (fun _ hk => hk.1)⟩, ⟨by (with_reducible repeat (first | apply Kd.R_alloc | apply Kd.R_drewN | apply Kd.R_drew)); exact Kd.R_mono (Kd.R_far (p := ⟨gb135, 3, none⟩) (Kd.R_far (p := ⟨gb135, 2, none⟩) (Kd.R_far (p := ⟨gb135, 1, none⟩) (Kd.R_far (p := ⟨gb135, 0, none⟩) (Kd.R_types HO_4.out BK135.out (by decide)) (fun _ hk => hk.2) (.int .i64 ((rd_T86 l0 x22_1).f0))) (fun _ hk => hk.2) (.int .i64 ((rd_T86 l0 x22_1).f1))) (fun _ hk => hk.2) (.bool ((rd_T86 l0 x22_1).f2))) (fun _ hk => hk.2) (.int .i64 ((rd_T86 l0 x22_1).f3))) (fun _ hk => hk.1)⟩, ⟨by (with_reducible repeat (first | refine blk_drewN ?_ _ | refine blk_drew ?_ | refine blk_alloc ?_ _)); refine blk_put (cs := #[.int .i64 ((rd_T86 l0 x22_1).f0), .int .i64 ((rd_T86 l0 x22_1).f1), .bool ((rd_T86 l0 x22_1).f2), .int .i64 0]) ?_ 3 _ rfl; (with_reducible repeat (first | refine blk_drewN ?_ _ | refine blk_drew ?_ | refine blk_alloc ?_ _)); refine blk_put (cs := #[.int .i64 ((rd_T86 l0 x22_1).f0), .int .i64 ((rd_T86 l0 x22_1).f1), .bool false, .int .i64 0]) ?_ 2 _ rfl; (with_reducible repeat (first | refine blk_drewN ?_ _ | refine blk_drew ?_ | refine blk_alloc ?_ _)); refine blk_put (cs := #[.int .i64 ((rd_T86 l0 x22_1).f0), .int .i64 0, .bool false, .int .i64 0]) ?_ 1 _ rfl; (with_reducible repeat (first | refine blk_drewN ?_ _ | refine blk_drew ?_ | refine blk_alloc ?_ _)); refine blk_put (cs := #[.int .i64 0, .int .i64 0, .bool false, .int .i64 0]) ?_ 0 _ rfl; (with_reducible repeat (first | refine blk_drewN ?_ _ | refine blk_drew ?_ | refine blk_alloc ?_ _)); exact BK135.out⟩, ⟨by repeat (first | (with_reducible first | exact HB.out | apply below_alloc | apply pw_below_drewN | apply below_drew1 | refine below_set ?_ GE135.out) | exact HB.out)⟩⟩
                      · rw [if_neg c23] at H
                        exact absurd H (by simp)
                  case rest =>
                    clear HC13
                    try clear c1
                    try clear p1
                    try clear q1
                    try clear hx1
                    try clear c2
                    try clear p2
                    try clear c3
                    try clear c4
                    try clear c4b0
                    try clear c4b1
                    try clear c5
                    try clear c5b0
                    try clear c5b1
                    try clear c10
                    try clear c10b0
                    try clear c11
                    try clear c11b0
                    try clear c12
                    try clear c12b0
                    try clear p13
                    try clear q13
                    try clear hx13
                    try clear c16
                    try clear c16b0
                    try clear c17
                    try clear c17b0
                    try clear c18
                    try clear c18b0
                    try clear c18b1
                    try clear c19
                    try clear c20
                    try clear c20b0
                    try clear c23
                    try clear c23b0
                    try clear hcz15_0
                    try clear hcz15_1
                    try clear hcz15_2
                    try clear hcz15_3
                    try clear hfz15_0
                    try clear hfz15_1
                    try clear hfz15_2
                    try clear hfz15_3
                    try clear hx134_0
                    try clear hx134_1
                    try clear hx134_2
                    try clear hx134_3
                    try clear hx136_0
                    try clear hx137_0
                    try clear hx138_0
                    try clear p134
                    try clear p136
                    try clear p137
                    try clear p138
                    try clear p2
                    try clear q134
                    try clear q136
                    try clear q137
                    try clear q138
                    obtain ⟨kq, x42_12, rfl, HA, HJ12, HO_3, HO_4, BK135, HB⟩ := hcut
                    cases kq with
                    | zero => exact absurd HA.out (by simp [spec_GoodTrie.j1])
                    | succ kj12 =>
                      have H := HA.out
                      clear HA
                      simp only [spec_GoodTrie.j1] at H
                      by_cases c25 : x42_12 = true
                      · subst c25
                        have H1 : (some false) = some r := by rw [if_pos rfl] at H; exact H
                        clear H
                        have H := H1
                        clear H1
                        obtain rfl := Option.some.inj H
                        go_wp2
                        go_ret
                        exact ⟨by first | rfl | (simp [errW_none, errW_some] <;> rfl) | (simp [*, errW_none, errW_some] <;> rfl), by repeat (first | (with_reducible first | exact HB.out | apply below_alloc | apply pw_below_drewN | apply below_drew1 | refine below_set ?_ GE135.out) | exact HB.out)⟩
                      · replace c25 := Bool.eq_false_iff.mpr c25
                        subst c25
                        have H1 : ((some (([((rd_T86 l0 x22_1).f0), ((rd_T86 l0 x22_1).f1)] : List Int) : List Int)).bind fun y139 => (spec_GoodTrie.l1 kj12 l0 x3_1 x4_1 x5_1 x22_1 l0 (l0.length : Int) x22_1 y139 (y139.length : Int) 0 ((rd_T86 l0 x22_1).f0) ((rd_T86 l0 x22_1).f1) ((rd_T86 l0 x22_1).f2) ((rd_T86 l0 x22_1).f3))) = some r := by rw [if_neg (show ¬ (false = true) by decide)] at H; exact H
                        clear H
                        have H := H1
                        clear H1
                        obtain ⟨y139, hy139⟩ : ∃ y_ : List Int, y_ = (([((rd_T86 l0 x22_1).f0), ((rd_T86 l0 x22_1).f1)] : List Int)) := ⟨_, rfl⟩
                        replace H : (spec_GoodTrie.l1 kj12 l0 x3_1 x4_1 x5_1 x22_1 l0 (l0.length : Int) x22_1 y139 (y139.length : Int) 0 ((rd_T86 l0 x22_1).f0) ((rd_T86 l0 x22_1).f1) ((rd_T86 l0 x22_1).f2) ((rd_T86 l0 x22_1).f3)) = some r := by first | (rw [hy139]; with_reducible exact H) | (have H2_ := (Option.bind_some _ _).symm.trans H; rw [hy139]; with_reducible exact H2_) | (have H2_ := (Option.bind_some _ _).symm.trans H; with_reducible exact H2_) | with_reducible exact H | (rw [hy139]; exact H) | exact H
                        have Ny139 := Aside0.mk hy139
                        clear hy139
                        have H' := Aside0.mk H
                        clear H
                        have hcz26_0 : wc.cell? ⟨gb135, 0, none⟩ = some (.int .i64 ((rd_T86 l0 x22_1).f0)) := (blk_cell BK135.out 0).trans rfl
                        have hcz26_1 : wc.cell? ⟨gb135, 1, none⟩ = some (.int .i64 ((rd_T86 l0 x22_1).f1)) := (blk_cell BK135.out 1).trans rfl
                        have hcz26_2 : wc.cell? ⟨gb135, 2, none⟩ = some (.bool ((rd_T86 l0 x22_1).f2)) := (blk_cell BK135.out 2).trans rfl
                        have hcz26_3 : wc.cell? ⟨gb135, 3, none⟩ = some (.int .i64 ((rd_T86 l0 x22_1).f3)) := (blk_cell BK135.out 3).trans rfl
                        have hfz26_0 := blk_frozen BK135.out 0
                        have hfz26_1 := blk_frozen BK135.out 1
                        have hfz26_2 := blk_frozen BK135.out 2
                        have hfz26_3 := blk_frozen BK135.out 3
                        go_wp2_with (first | ((with_reducible refine gate_dst (N := 47) rfl ?_); (try (refine gate_guard (by rfl) ?_; dsimp only)); refine Kd.R_lit (Kd.int .i64) _ 3 ?hg (N := 47) ?hd (xs := ([((rd_T86 l0 x22_1).f0), ((rd_T86 l0 x22_1).f1)] : List Int)) (inner := [.int .i64 ((rd_T86 l0 x22_1).f0), .int .i64 ((rd_T86 l0 x22_1).f1)]) (ok := fun _ => True) (okp := fun _ => True) ?hr ?hp (fun _ hk => hk) trivial (Below.refl _ _) (Nat.le_refl _) (by simp) ?_; (case hd => rfl); (case hg => rfl); (case hr => first | (go_simp; done) | (go_simp; rfl)); (case hp => exact (Reps.one (show Kd.M (Kd.int .i64) _ _ _ ((rd_T86 l0 x22_1).f0) [.int .i64 ((rd_T86 l0 x22_1).f0)] from rfl) (Reps.one (show Kd.M (Kd.int .i64) _ _ _ ((rd_T86 l0 x22_1).f1) [.int .i64 ((rd_T86 l0 x22_1).f1)] from rfl) (Reps.none _ _)))); intro v140 w27 ho28 hb hg_ hnew_; clear hg_ hnew_; (first | rw [← Ny139.out] at ho28 | (simp only [Int.reduceToNat] at ho28; rw [← Ny139.out] at ho28)); have n0_ := Aside0.mk (Kd.R_elder' (by (with_reducible repeat (first | apply Kd.R_alloc | apply Kd.R_drewN | apply Kd.R_drew)); exact HO_3.out) (Kd.R_base ho28) hb); have n1_ := Aside0.mk (Kd.R_elder' (by (with_reducible repeat (first | apply Kd.R_alloc | apply Kd.R_drewN | apply Kd.R_drew)); exact HO_4.out) (Kd.R_base ho28) hb); have n2_ := Aside0.mk (Kd.R_lower (Kd.R_new' (Kd.R_new' ho28 (Kd.R_lt (by (with_reducible repeat (first | apply Kd.R_alloc | apply Kd.R_drewN | apply Kd.R_drew)); exact HO_3.out))) (Kd.R_lt (by (with_reducible repeat (first | apply Kd.R_alloc | apply Kd.R_drewN | apply Kd.R_drew)); exact HO_4.out))) (below_size (by repeat (first | (with_reducible first | exact HB.out | apply below_alloc | apply pw_below_drewN | apply below_drew1 | refine below_set ?_ GE135.out) | exact HB.out)))); have n3_ := Aside0.mk (blk_below (g := gb135) (o := .cells #[.int .i64 ((rd_T86 l0 x22_1).f0), .int .i64 ((rd_T86 l0 x22_1).f1), .bool ((rd_T86 l0 x22_1).f2), .int .i64 ((rd_T86 l0 x22_1).f3)] 86 (0, 0)) (by (with_reducible repeat (first | refine blk_drewN ?_ _ | refine blk_drew ?_ | refine blk_alloc ?_ _)); exact BK135.out) hb); have n4_ := Aside0.mk (below_step (by repeat (first | (with_reducible first | exact HB.out | apply below_alloc | apply pw_below_drewN | apply below_drew1 | refine below_set ?_ GE135.out) | exact HB.out)) hb); clear HO_3; clear HO_4; clear BK135; clear HB; have HO_3 := n0_; have HO_4 := n1_; have HO141 := n2_; have BK135 := n3_; have HB := n4_; clear n0_ n1_ n2_ n3_ n4_; clear hb ho28; obtain ⟨Ao29, co29, eo29⟩ := Kd.R_slice HO141.out; subst eo29))
                        go_loopg [49] kj12 (fun kq v49 w' => ∃ (x3_3 : List Int) (x4_3 : List Int) (x49_3 : Int), v49 = .int .i64 x49_3 ∧ Aside0 (spec_GoodTrie.l1 kq l0 x3_3 x4_3 x5_1 x22_1 l0 (l0.length : Int) x22_1 y139 (y139.length : Int) x49_3 ((rd_T86 l0 x22_1).f0) ((rd_T86 l0 x22_1).f1) ((rd_T86 l0 x22_1).f2) ((rd_T86 l0 x22_1).f3) = some r) ∧ Aside0 (kq ≤ kj12) ∧ Aside0 (Kd.R (Kd.int .i64) 3 w' w.heap.size (fun k_ => some k_ ≠ (v132 : Value).ownBlock ∧ some k_ ≠ ((.slice Ao29 y139.length co29) : Value).ownBlock) v129 x3_3) ∧ Aside0 (Kd.R (Kd.int .i64) 3 w' w.heap.size (fun k_ => some k_ ≠ (v129 : Value).ownBlock ∧ some k_ ≠ ((.slice Ao29 y139.length co29) : Value).ownBlock) v132 x4_3) ∧ Aside0 (Kd.R (Kd.int .i64) 3 w' w.heap.size (fun k_ => some k_ ≠ (v129 : Value).ownBlock ∧ some k_ ≠ (v132 : Value).ownBlock) (.slice Ao29 y139.length co29) y139) ∧ Aside0 (w'.heap[gb135]? = some (.cells #[.int .i64 ((rd_T86 l0 x22_1).f0), .int .i64 ((rd_T86 l0 x22_1).f1), .bool ((rd_T86 l0 x22_1).f2), .int .i64 ((rd_T86 l0 x22_1).f3)] 86 (0, 0))) ∧ Aside0 (Below w.heap.size w w'))
                        case atStart => exact ⟨(x3_1), (x4_1), (0), (by first | rfl | (simp; done) | (simp [*]; done)), H', ⟨Nat.le_refl _⟩, ⟨by (with_reducible repeat (first | apply Kd.R_alloc | apply Kd.R_drewN | apply Kd.R_drew)); exact HO_3.out⟩, ⟨by (with_reducible repeat (first | apply Kd.R_alloc | apply Kd.R_drewN | apply Kd.R_drew)); exact HO_4.out⟩, ⟨by (with_reducible repeat (first | apply Kd.R_alloc | apply Kd.R_drewN | apply Kd.R_drew)); exact Kd.R_mono HO141.out (fun _ hk => ⟨hk.1.2, hk.2⟩)⟩, ⟨by (with_reducible repeat (first | refine blk_drewN ?_ _ | refine blk_drew ?_ | refine blk_alloc ?_ _)); exact BK135.out⟩, ⟨by repeat (first | (with_reducible first | exact HB.out | apply below_alloc | apply pw_below_drewN | apply below_drew1 | refine below_set ?_ GE135.out) | exact HB.out)⟩⟩
                        case round =>
                          clear H'
                          try clear c1
                          try clear p1
                          try clear q1
                          try clear hx1
                          try clear c2
                          try clear p2
                          try clear c3
                          try clear c4
                          try clear c4b0
                          try clear c4b1
                          try clear c5
                          try clear c5b0
                          try clear c5b1
                          try clear c10
                          try clear c10b0
                          try clear c11
                          try clear c11b0
                          try clear c12
                          try clear c12b0
                          try clear p13
                          try clear q13
                          try clear hx13
                          try clear c16
                          try clear c16b0
                          try clear c17
                          try clear c17b0
                          try clear c18
                          try clear c18b0
                          try clear c18b1
                          try clear c19
                          try clear c20
                          try clear c20b0
                          try clear c23
                          try clear c23b0
                          try clear c25
                          try clear hcz15_0
                          try clear hcz15_1
                          try clear hcz15_2
                          try clear hcz15_3
                          try clear hcz26_0
                          try clear hcz26_1
                          try clear hcz26_2
                          try clear hcz26_3
                          try clear hfz15_0
                          try clear hfz15_1
                          try clear hfz15_2
                          try clear hfz15_3
                          try clear hfz26_0
                          try clear hfz26_1
                          try clear hfz26_2
                          try clear hfz26_3
                          try clear hx134_0
                          try clear hx134_1
                          try clear hx134_2
                          try clear hx134_3
                          try clear hx136_0
                          try clear hx137_0
                          try clear hx138_0
                          try clear p1
                          try clear p13
                          try clear p134
                          try clear p136
                          try clear p137
                          try clear p138
                          try clear p2
                          try clear q1
                          try clear q13
                          try clear q134
                          try clear q136
                          try clear q137
                          try clear q138
                          obtain ⟨x3_3, x4_3, x49_3, rfl, HA, HK3, HO_3, HO_4, HO_47, BK135, HB⟩ := hrel
                          cases gk with
                          | zero => exact absurd HA.out (by simp [spec_GoodTrie.l1])
                          | succ k3 =>
                            have H := HA.out
                            clear HA
                            simp only [spec_GoodTrie.l1] at H
                            by_cases c30 : x49_3 < (y139.length : Int)
                            · rw [if_pos c30] at H
                              have c30b0 : decide (x49_3 < (y139.length : Int)) = true := decide_eq_true c30
                              clear c30
                              by_cases c31 : 0 ≤ x49_3
                              · rw [if_pos c31] at H
                                have c31b0 : decide (0 ≤ x49_3) = true := decide_eq_true c31
                                clear c31
                                by_cases c32 : x49_3 < (y139.length : Int)
                                · rw [if_pos c32] at H
                                  have c32b0 : decide (x49_3 < (y139.length : Int)) = true := decide_eq_true c32
                                  clear c32
                                  by_cases c33 : (rd y139 x49_3) = 0
                                  · rw [if_pos c33] at H
                                    have c33b0 : ((rd y139 x49_3) == 0) = true := beq_iff_eq.mpr c33
                                    have c33b1 : ((rd y139 x49_3) != 0) = false := bne_eq_false_iff_eq.mpr c33
                                    clear c33
                                    have H' := Aside0.mk H
                                    clear H
                                    have p142 : 0 ≤ (x49_3 : Int) := of_decide_eq_true (by first | (with_reducible assumption) | assumption)
                                    have q142 : x49_3 < (y139.length : Int) := of_decide_eq_true (by first | (with_reducible assumption) | assumption)
                                    obtain ⟨ad142, e142, hx142_0⟩ := Kd.at_int (Kd.R_reads' HO_47.out).2.2 x49_3 p142 q142
                                    cases e142
                                    replace p142 := eq_true p142
                                    replace q142 := eq_true q142
                                    go_wp2
                                    go_roundg k3
                                    case measure => have := HK1.out; have := HJ12.out; have := HK3.out; omega
                                    case rel => exact ⟨(x3_3), (x4_3), (wrap64 (x49_3 + 1)), (by first | rfl | (simp; done) | (simp [*]; done)), H', ⟨by have := HK1.out; have := HJ12.out; have := HK3.out; omega⟩, ⟨by (with_reducible repeat (first | apply Kd.R_alloc | apply Kd.R_drewN | apply Kd.R_drew)); exact HO_3.out⟩, ⟨by (with_reducible repeat (first | apply Kd.R_alloc | apply Kd.R_drewN | apply Kd.R_drew)); exact HO_4.out⟩, ⟨by (with_reducible repeat (first | apply Kd.R_alloc | apply Kd.R_drewN | apply Kd.R_drew)); exact HO_47.out⟩, ⟨by (with_reducible repeat (first | refine blk_drewN ?_ _ | refine blk_drew ?_ | refine blk_alloc ?_ _)); exact BK135.out⟩, ⟨by repeat (first | (with_reducible first | exact HB.out | apply below_alloc | apply pw_below_drewN | apply below_drew1 | refine below_set ?_ GE135.out) | exact HB.out)⟩⟩
                                  · rw [if_neg c33] at H
                                    have c33b0 : ((rd y139 x49_3) == 0) = false := beq_eq_false_iff_ne.mpr c33
                                    have c33b1 : ((rd y139 x49_3) != 0) = true := bne_iff_ne.mpr c33
                                    by_cases c34 : (rd y139 x49_3) ≤ x22_1
                                    · rw [if_pos c34] at H
                                      have c34b0 : decide ((rd y139 x49_3) ≤ x22_1) = true := decide_eq_true c34
                                      clear c34
                                      obtain rfl := Option.some.inj H
                                      have p142 : 0 ≤ (x49_3 : Int) := of_decide_eq_true (by first | (with_reducible assumption) | assumption)
                                      have q142 : x49_3 < (y139.length : Int) := of_decide_eq_true (by first | (with_reducible assumption) | assumption)
                                      obtain ⟨ad142, e142, hx142_0⟩ := Kd.at_int (Kd.R_reads' HO_47.out).2.2 x49_3 p142 q142
                                      cases e142
                                      replace p142 := eq_true p142
                                      replace q142 := eq_true q142
                                      go_wp2
                                      go_ret
                                      exact ⟨by first | rfl | (simp [errW_none, errW_some] <;> rfl) | (simp [*, errW_none, errW_some] <;> rfl), by repeat (first | (with_reducible first | exact HB.out | apply below_alloc | apply pw_below_drewN | apply below_drew1 | refine below_set ?_ GE135.out) | exact HB.out)⟩
                                    · rw [if_neg c34] at H
                                      have c34b0 : decide ((rd y139 x49_3) ≤ x22_1) = false := decide_eq_false c34
                                      clear c34
                                      by_cases c35 : (rd y139 x49_3) ≥ (l0.length : Int)
                                      · rw [if_pos c35] at H
                                        have c35b0 : decide ((l0.length : Int) ≤ (rd y139 x49_3)) = true := decide_eq_true c35
                                        clear c35
                                        obtain rfl := Option.some.inj H
                                        have p142 : 0 ≤ (x49_3 : Int) := of_decide_eq_true (by first | (with_reducible assumption) | assumption)
                                        have q142 : x49_3 < (y139.length : Int) := of_decide_eq_true (by first | (with_reducible assumption) | assumption)
                                        obtain ⟨ad142, e142, hx142_0⟩ := Kd.at_int (Kd.R_reads' HO_47.out).2.2 x49_3 p142 q142
                                        cases e142
                                        replace p142 := eq_true p142
                                        replace q142 := eq_true q142
                                        go_wp2
                                        go_ret
                                        exact ⟨by first | rfl | (simp [errW_none, errW_some] <;> rfl) | (simp [*, errW_none, errW_some] <;> rfl), by repeat (first | (with_reducible first | exact HB.out | apply below_alloc | apply pw_below_drewN | apply below_drew1 | refine below_set ?_ GE135.out) | exact HB.out)⟩
                                      · rw [if_neg c35] at H
                                        have c35b0 : decide ((l0.length : Int) ≤ (rd y139 x49_3)) = false := decide_eq_false c35
                                        clear c35
                                        by_cases c36 : 0 ≤ (rd y139 x49_3)
                                        · rw [if_pos c36] at H
                                          have c36b0 : decide (0 ≤ (rd y139 x49_3)) = true := decide_eq_true c36
                                          clear c36
                                          by_cases c37 : (rd y139 x49_3) < (x3_3.length : Int)
                                          · rw [if_pos c37] at H
                                            have c37b0 : decide ((rd y139 x49_3) < (x3_3.length : Int)) = true := decide_eq_true c37
                                            clear c37
                                            by_cases c38 : (rd x3_3 (rd y139 x49_3)) = 0
                                            · rw [if_pos c38] at H
                                              have c38b0 : ((rd x3_3 (rd y139 x49_3)) == 0) = true := beq_iff_eq.mpr c38
                                              have c38b1 : ((rd x3_3 (rd y139 x49_3)) != 0) = false := bne_eq_false_iff_eq.mpr c38
                                              clear c38
                                              obtain ⟨y144, hy144⟩ : ∃ y_ : List Int, y_ = (x3_3.set ((rd y139 x49_3) : Int).toNat 1) := ⟨_, rfl⟩
                                              replace H : (if 0 ≤ x22_1 then (if x22_1 < (x4_3.length : Int) then (if (rd y139 x49_3) < (x4_3.length : Int) then (spec_GoodTrie.l1 k3 l0 y144 (x4_3.set ((rd y139 x49_3) : Int).toNat (wrap64 ((rd x4_3 x22_1) + 1))) x5_1 x22_1 l0 (l0.length : Int) x22_1 y139 (y139.length : Int) (wrap64 (x49_3 + 1)) ((rd_T86 l0 x22_1).f0) ((rd_T86 l0 x22_1).f1) ((rd_T86 l0 x22_1).f2) ((rd_T86 l0 x22_1).f3)) else (none)) else (none)) else (none)) = some r := by first | (rw [hy144]; with_reducible exact H) | (have H2_ := (Option.bind_some _ _).symm.trans H; rw [hy144]; with_reducible exact H2_) | (have H2_ := (Option.bind_some _ _).symm.trans H; with_reducible exact H2_) | with_reducible exact H | (rw [hy144]; exact H) | exact H
                                              have Ny144 := Aside0.mk hy144
                                              clear hy144
                                              by_cases c40 : 0 ≤ x22_1
                                              · rw [if_pos c40] at H
                                                have c40b0 : decide (0 ≤ x22_1) = true := decide_eq_true c40
                                                clear c40
                                                by_cases c41 : x22_1 < (x4_3.length : Int)
                                                · rw [if_pos c41] at H
                                                  have c41b0 : decide (x22_1 < (x4_3.length : Int)) = true := decide_eq_true c41
                                                  clear c41
                                                  by_cases c42 : (rd y139 x49_3) < (x4_3.length : Int)
                                                  · rw [if_pos c42] at H
                                                    have c42b0 : decide ((rd y139 x49_3) < (x4_3.length : Int)) = true := decide_eq_true c42
                                                    clear c42
                                                    obtain ⟨y146, hy146⟩ : ∃ y_ : List Int, y_ = (x4_3.set ((rd y139 x49_3) : Int).toNat (wrap64 ((rd x4_3 x22_1) + 1))) := ⟨_, rfl⟩
                                                    replace H : (spec_GoodTrie.l1 k3 l0 y144 y146 x5_1 x22_1 l0 (l0.length : Int) x22_1 y139 (y139.length : Int) (wrap64 (x49_3 + 1)) ((rd_T86 l0 x22_1).f0) ((rd_T86 l0 x22_1).f1) ((rd_T86 l0 x22_1).f2) ((rd_T86 l0 x22_1).f3)) = some r := by first | (rw [hy146]; with_reducible exact H) | (have H2_ := (Option.bind_some _ _).symm.trans H; rw [hy146]; with_reducible exact H2_) | (have H2_ := (Option.bind_some _ _).symm.trans H; with_reducible exact H2_) | with_reducible exact H | (rw [hy146]; exact H) | exact H
                                                    have Ny146 := Aside0.mk hy146
                                                    clear hy146
                                                    have H' := Aside0.mk H
                                                    clear H
                                                    have p142 : 0 ≤ (x49_3 : Int) := of_decide_eq_true (by first | (with_reducible assumption) | assumption)
                                                    have q142 : x49_3 < (y139.length : Int) := of_decide_eq_true (by first | (with_reducible assumption) | assumption)
                                                    obtain ⟨ad142, e142, hx142_0⟩ := Kd.at_int (Kd.R_reads' HO_47.out).2.2 x49_3 p142 q142
                                                    cases e142
                                                    replace p142 := eq_true p142
                                                    replace q142 := eq_true q142
                                                    obtain ⟨Ao44, co44, eo44⟩ := Kd.R_slice HO_3.out
                                                    subst eo44
                                                    have p143 : 0 ≤ ((rd y139 x49_3) : Int) := of_decide_eq_true (by first | (with_reducible assumption) | assumption)
                                                    have q143 : (rd y139 x49_3) < (x3_3.length : Int) := of_decide_eq_true (by first | (with_reducible assumption) | assumption)
                                                    obtain ⟨ad143, e143, hx143_0⟩ := Kd.at_int (Kd.R_reads' HO_3.out).2.2 (rd y139 x49_3) p143 q143
                                                    cases e143
                                                    replace p143 := eq_true p143
                                                    replace q143 := eq_true q143
                                                    have p39 : 0 ≤ ((rd y139 x49_3) : Int) := of_decide_eq_true (by first | (with_reducible assumption) | assumption)
                                                    have q39 : ((rd y139 x49_3) : Int) < ((x3_3.length : Int) : Int) := of_decide_eq_true (by first | (with_reducible assumption) | assumption)
                                                    obtain ⟨go39, co39, eo39, gb39, gl39, cl39, HG39⟩ := Kd.R_form HO_3.out (by omega)
                                                    (first | cases eo39 | (injection eo39 with ea_ en_ ec_; (first | subst ea_ | (injection ea_ with ea_; subst ea_)); subst ec_; clear en_))
                                                    have GB39 := Aside0.mk gb39
                                                    have GG39 := Aside0.mk HG39
                                                    clear gb39 gl39 HG39
                                                    (first | simp only [add_plain] at hx143_0 | skip)
                                                    obtain ⟨hx39_0, hf39_0⟩ := Kd.R_celln 0 HO_3.out ((rd y139 x49_3) : Int) p39 q39
                                                    replace p39 := eq_true p39
                                                    replace q39 := eq_true q39
                                                    have HP45 := Kd.R_putg HO_3.out ((rd y139 x49_3) : Int) 1
                                                    go_wp2_with (first | ((with_reducible refine gate_store (t := 3) (p := 73) rfl ?_); refine store_event (t := 3) (p := 73) (v := ?vo_w46) (w1 := (wr.setCell ⟨go39, ((rd y139 x49_3) : Int).toNat, none⟩ (.int .i64 1))) ?hg ?ho ?hn ?hr ?_; (case ho => rfl); (case hg => rfl); (case hn => rfl); (case hr => first | (go_simp; done) | (go_simp; rfl)); intro w46 hw; have hg : wr.grownBy w46 (some go39) := (by rw [hw]; exact HP45.2); have hp_ : Kd.R (Kd.int .i64) 3 w46 w.heap.size (fun k_ => some k_ ≠ (v132 : Value).ownBlock ∧ some k_ ≠ (.slice (some ad142) y139.length co29 : Value).ownBlock) (.slice (some ⟨go39, 0, none⟩) x3_3.length co44) y144 := (by rw [hw, Ny144.out]; exact HP45.1); clear HP45; have n0_ := Aside0.mk (hp_); have n1_ := Aside0.mk (Kd.R_after (v := (.slice (some ⟨go39, 0, none⟩) x3_3.length co44)) (v1 := (.slice (some ⟨go39, 0, none⟩) x3_3.length co44)) (ok := (fun k_ => some k_ ≠ (.slice (some ad142) y139.length co29 : Value).ownBlock)) (by (with_reducible repeat (first | apply Kd.R_alloc | apply Kd.R_drewN | apply Kd.R_drew)); exact Kd.R_mono HO_4.out (fun _ hk => ⟨hk.2, hk.1⟩)) hg (.inl rfl)); have n2_ := Aside0.mk (Kd.R_after (v := (.slice (some ⟨go39, 0, none⟩) x3_3.length co44)) (v1 := (.slice (some ⟨go39, 0, none⟩) x3_3.length co44)) (ok := (fun k_ => some k_ ≠ (v132 : Value).ownBlock)) (by (with_reducible repeat (first | apply Kd.R_alloc | apply Kd.R_drewN | apply Kd.R_drew)); exact Kd.R_mono HO_47.out (fun _ hk => ⟨hk.2, hk.1⟩)) hg (.inl rfl)); have n3_ := Aside0.mk (blk_grown (g := gb135) (o := .cells #[.int .i64 ((rd_T86 l0 x22_1).f0), .int .i64 ((rd_T86 l0 x22_1).f1), .bool ((rd_T86 l0 x22_1).f2), .int .i64 ((rd_T86 l0 x22_1).f3)] 86 (0, 0)) (by (with_reducible repeat (first | refine blk_drewN ?_ _ | refine blk_drew ?_ | refine blk_alloc ?_ _)); exact BK135.out) hg (Kd.R_ne HO_3.out BK135.out (by decide))); have n4_ := Aside0.mk ((by rw [hw]; exact below_set (HB.out) GB39.out : Below w.heap.size w w46)); clear HO_3; clear HO_4; clear HO_47; clear BK135; clear HB; have HO_3 := n0_; have HO_4 := n1_; have HO_47 := n2_; have BK135 := n3_; have HB := n4_; clear n0_ n1_ n2_ n3_ n4_; clear hg hw hp_; obtain ⟨Ao47, co47, eo47⟩ := Kd.R_slice HO_4.out; subst eo47; have p145 : 0 ≤ (x22_1 : Int) := of_decide_eq_true (by first | (with_reducible assumption) | assumption); have q145 : x22_1 < (x4_3.length : Int) := of_decide_eq_true (by first | (with_reducible assumption) | assumption); obtain ⟨ad145, e145, hx145_0⟩ := Kd.at_int (Kd.R_reads' HO_4.out).2.2 x22_1 p145 q145; cases e145; replace p145 := eq_true p145; replace q145 := eq_true q145; have p43 : 0 ≤ ((rd y139 x49_3) : Int) := of_decide_eq_true (by first | (with_reducible assumption) | assumption); have q43 : ((rd y139 x49_3) : Int) < ((x4_3.length : Int) : Int) := of_decide_eq_true (by first | (with_reducible assumption) | assumption); obtain ⟨go43, co43, eo43, gb43, gl43, cl43, HG43⟩ := Kd.R_form HO_4.out (by omega); (first | cases eo43 | (injection eo43 with ea_ en_ ec_; (first | subst ea_ | (injection ea_ with ea_; subst ea_)); subst ec_; clear en_)); have GB43 := Aside0.mk gb43; have GG43 := Aside0.mk HG43; clear gb43 gl43 HG43; (first | simp only [add_plain] at hx145_0 | skip); obtain ⟨hx43_0, hf43_0⟩ := Kd.R_celln 0 HO_4.out ((rd y139 x49_3) : Int) p43 q43; replace p43 := eq_true p43; replace q43 := eq_true q43; obtain ⟨hy48_, hz48_⟩ := Kd.R_celln 0 HO_4.out ((rd y139 x49_3) : Int) (of_decide_eq_true (by first | (with_reducible assumption) | assumption)) (of_decide_eq_true (by first | (with_reducible assumption) | assumption)); have HP48 := Kd.R_putg HO_4.out ((rd y139 x49_3) : Int) (wrap64 ((rd x4_3 x22_1) + 1))) | ((with_reducible refine gate_store (t := 3) (p := 81) rfl ?_); refine store_event (t := 3) (p := 81) (v := ?vo_w49) (w1 := (w46.setCell ⟨go43, ((rd y139 x49_3) : Int).toNat, none⟩ (.int .i64 (wrap64 ((rd x4_3 x22_1) + 1))))) ?hg ?ho ?hn ?hr ?_; (case ho => rfl); (case hg => rfl); (case hn => rfl); (case hr => first | (go_simp; done) | (go_simp; rfl)); intro w49 hw; have hg : w46.grownBy w49 (some go43) := (by rw [hw]; exact HP48.2); have hp_ : Kd.R (Kd.int .i64) 3 w49 w.heap.size (fun k_ => some k_ ≠ (.slice (some ad142) y139.length co29 : Value).ownBlock ∧ some k_ ≠ (.slice (some ⟨go39, 0, none⟩) x3_3.length co44 : Value).ownBlock) (.slice (some ⟨go43, 0, none⟩) x4_3.length co47) y146 := (by rw [hw, Ny146.out]; exact HP48.1); clear HP48; have n0_ := Aside0.mk (Kd.R_after (v := (.slice (some ⟨go43, 0, none⟩) x4_3.length co47)) (v1 := (.slice (some ⟨go43, 0, none⟩) x4_3.length co47)) (ok := (fun k_ => some k_ ≠ (.slice (some ad142) y139.length co29 : Value).ownBlock)) (by (with_reducible repeat (first | apply Kd.R_alloc | apply Kd.R_drewN | apply Kd.R_drew)); exact Kd.R_mono HO_3.out (fun _ hk => ⟨hk.2, hk.1⟩)) hg (.inl rfl)); have n1_ := Aside0.mk (hp_); have n2_ := Aside0.mk (Kd.R_after (v := (.slice (some ⟨go43, 0, none⟩) x4_3.length co47)) (v1 := (.slice (some ⟨go43, 0, none⟩) x4_3.length co47)) (ok := (fun k_ => some k_ ≠ (.slice (some ⟨go39, 0, none⟩) x3_3.length co44 : Value).ownBlock)) (by (with_reducible repeat (first | apply Kd.R_alloc | apply Kd.R_drewN | apply Kd.R_drew)); exact Kd.R_mono HO_47.out (fun _ hk => ⟨hk.2, hk.1⟩)) hg (.inl rfl)); have n3_ := Aside0.mk (blk_grown (g := gb135) (o := .cells #[.int .i64 ((rd_T86 l0 x22_1).f0), .int .i64 ((rd_T86 l0 x22_1).f1), .bool ((rd_T86 l0 x22_1).f2), .int .i64 ((rd_T86 l0 x22_1).f3)] 86 (0, 0)) (by (with_reducible repeat (first | refine blk_drewN ?_ _ | refine blk_drew ?_ | refine blk_alloc ?_ _)); exact BK135.out) hg (Kd.R_ne HO_4.out BK135.out (by decide))); have n4_ := Aside0.mk ((by rw [hw]; exact below_set (HB.out) GB43.out : Below w.heap.size w w49)); clear HO_3; clear HO_4; clear HO_47; clear BK135; clear HB; have HO_3 := n0_; have HO_4 := n1_; have HO_47 := n2_; have BK135 := n3_; have HB := n4_; clear n0_ n1_ n2_ n3_ n4_; clear hg hw hp_))
                                                    go_roundg k3
                                                    case measure => have := HK1.out; have := HJ12.out; have := HK3.out; omega
                                                    case rel => exact ⟨(y144), (y146), (wrap64 (x49_3 + 1)), (by first | rfl | (simp; done) | (simp [*]; done)), H', ⟨by have := HK1.out; have := HJ12.out; have := HK3.out; omega⟩, ⟨by (with_reducible repeat (first | apply Kd.R_alloc | apply Kd.R_drewN | apply Kd.R_drew)); exact Kd.R_mono HO_3.out (fun _ hk => ⟨hk.2, hk.1⟩)⟩, ⟨by (with_reducible repeat (first | apply Kd.R_alloc | apply Kd.R_drewN | apply Kd.R_drew)); exact Kd.R_mono HO_4.out (fun _ hk => ⟨hk.2, hk.1⟩)⟩, ⟨by (with_reducible repeat (first | apply Kd.R_alloc | apply Kd.R_drewN | apply Kd.R_drew)); exact HO_47.out⟩, ⟨by (with_reducible repeat (first | refine blk_drewN ?_ _ | refine blk_drew ?_ | refine blk_alloc ?_ _)); exact BK135.out⟩, ⟨by repeat (first | (with_reducible first | exact HB.out | apply below_alloc | apply pw_below_drewN | apply below_drew1 | refine below_set ?_ GE135.out) | exact HB.out)⟩⟩
                                                  · rw [if_neg c42] at H
                                                    exact absurd H (by simp)
                                                · rw [if_neg c41] at H
                                                  exact absurd H (by simp)
                                              · rw [if_neg c40] at H
                                                exact absurd H (by simp)
                                            · rw [if_neg c38] at H
                                              have c38b0 : ((rd x3_3 (rd y139 x49_3)) == 0) = false := beq_eq_false_iff_ne.mpr c38
                                              have c38b1 : ((rd x3_3 (rd y139 x49_3)) != 0) = true := bne_iff_ne.mpr c38
                                              obtain rfl := Option.some.inj H
                                              have p142 : 0 ≤ (x49_3 : Int) := of_decide_eq_true (by first | (with_reducible assumption) | assumption)
                                              have q142 : x49_3 < (y139.length : Int) := of_decide_eq_true (by first | (with_reducible assumption) | assumption)
                                              obtain ⟨ad142, e142, hx142_0⟩ := Kd.at_int (Kd.R_reads' HO_47.out).2.2 x49_3 p142 q142
                                              cases e142
                                              replace p142 := eq_true p142
                                              replace q142 := eq_true q142
                                              obtain ⟨Ao50, co50, eo50⟩ := Kd.R_slice HO_3.out
                                              subst eo50
                                              have p143 : 0 ≤ ((rd y139 x49_3) : Int) := of_decide_eq_true (by first | (with_reducible assumption) | assumption)
                                              have q143 : (rd y139 x49_3) < (x3_3.length : Int) := of_decide_eq_true (by first | (with_reducible assumption) | assumption)
                                              obtain ⟨ad143, e143, hx143_0⟩ := Kd.at_int (Kd.R_reads' HO_3.out).2.2 (rd y139 x49_3) p143 q143
                                              cases e143
                                              replace p143 := eq_true p143
                                              replace q143 := eq_true q143
                                              go_wp2
                                              go_ret
                                              exact ⟨by first | rfl | (simp [errW_none, errW_some] <;> rfl) | (simp [*, errW_none, errW_some] <;> rfl), by repeat (first | (with_reducible first | exact HB.out | apply below_alloc | apply pw_below_drewN | apply below_drew1 | refine below_set ?_ GE135.out) | exact HB.out)⟩
                                          · rw [if_neg c37] at H
                                            exact absurd H (by simp)
                                        · rw [if_neg c36] at H
                                          exact absurd H (by simp)
                                · rw [if_neg c32] at H
                                  exact absurd H (by simp)
                              · rw [if_neg c31] at H
                                exact absurd H (by simp)
                            · rw [if_neg c30] at H
                              have c30b0 : decide (x49_3 < (y139.length : Int)) = false := decide_eq_false c30
                              clear c30
                              by_cases c51 : ((rd_T86 l0 x22_1).f2) = true
                              · rw [if_pos c51] at H
                                have c51b0 : ((rd_T86 l0 x22_1).f2) = true := c51
                                clear c51
                                replace H := Option.bind_eq_some_iff.mp H
                                obtain ⟨t147, A520, H⟩ := H
                                replace H : (if t147 = true then (if x22_1 > 0 then (if ((rd_T86 l0 x22_1).f0) = 0 then (if ((rd_T86 l0 x22_1).f1) = 0 then (spec_GoodTrie.l0 k3 l0 x3_3 x4_3 (wrap64 (x5_1 + 1)) l0 (l0.length : Int) (wrap64 (x22_1 + 1))) else (spec_GoodTrie.l0 k3 l0 x3_3 x4_3 (wrap64 (x5_1 + 1)) l0 (l0.length : Int) (wrap64 (x22_1 + 1)))) else (spec_GoodTrie.l0 k3 l0 x3_3 x4_3 (wrap64 (x5_1 + 1)) l0 (l0.length : Int) (wrap64 (x22_1 + 1)))) else (spec_GoodTrie.l0 k3 l0 x3_3 x4_3 (wrap64 (x5_1 + 1)) l0 (l0.length : Int) (wrap64 (x22_1 + 1)))) else (some false)) = some r := H
                                have A52 := Aside0.mk A520
                                clear A520
                                by_cases c53 : t147 = true
                                · subst c53
                                  have H1 : (if x22_1 > 0 then (if ((rd_T86 l0 x22_1).f0) = 0 then (if ((rd_T86 l0 x22_1).f1) = 0 then (spec_GoodTrie.l0 k3 l0 x3_3 x4_3 (wrap64 (x5_1 + 1)) l0 (l0.length : Int) (wrap64 (x22_1 + 1))) else (spec_GoodTrie.l0 k3 l0 x3_3 x4_3 (wrap64 (x5_1 + 1)) l0 (l0.length : Int) (wrap64 (x22_1 + 1)))) else (spec_GoodTrie.l0 k3 l0 x3_3 x4_3 (wrap64 (x5_1 + 1)) l0 (l0.length : Int) (wrap64 (x22_1 + 1)))) else (spec_GoodTrie.l0 k3 l0 x3_3 x4_3 (wrap64 (x5_1 + 1)) l0 (l0.length : Int) (wrap64 (x22_1 + 1)))) = some r := by rw [if_pos rfl] at H; exact H
                                  clear H
                                  have H := H1
                                  clear H1
                                  by_cases c54 : x22_1 > 0
                                  · rw [if_pos c54] at H
                                    have c54b0 : decide (0 < x22_1) = true := decide_eq_true c54
                                    clear c54
                                    by_cases c55 : ((rd_T86 l0 x22_1).f0) = 0
                                    · rw [if_pos c55] at H
                                      have c55b0 : (((rd_T86 l0 x22_1).f0) == 0) = true := beq_iff_eq.mpr c55
                                      have c55b1 : (((rd_T86 l0 x22_1).f0) != 0) = false := bne_eq_false_iff_eq.mpr c55
                                      clear c55
                                      by_cases c56 : ((rd_T86 l0 x22_1).f1) = 0
                                      · rw [if_pos c56] at H
                                        have c56b0 : (((rd_T86 l0 x22_1).f1) == 0) = true := beq_iff_eq.mpr c56
                                        have c56b1 : (((rd_T86 l0 x22_1).f1) != 0) = false := bne_eq_false_iff_eq.mpr c56
                                        clear c56
                                        have H' := Aside0.mk H
                                        clear H
                                        have hcz57_0 : wr.cell? ⟨gb135, 0, none⟩ = some (.int .i64 ((rd_T86 l0 x22_1).f0)) := (blk_cell BK135.out 0).trans rfl
                                        have hcz57_1 : wr.cell? ⟨gb135, 1, none⟩ = some (.int .i64 ((rd_T86 l0 x22_1).f1)) := (blk_cell BK135.out 1).trans rfl
                                        have hcz57_2 : wr.cell? ⟨gb135, 2, none⟩ = some (.bool ((rd_T86 l0 x22_1).f2)) := (blk_cell BK135.out 2).trans rfl
                                        have hcz57_3 : wr.cell? ⟨gb135, 3, none⟩ = some (.int .i64 ((rd_T86 l0 x22_1).f3)) := (blk_cell BK135.out 3).trans rfl
                                        have hfz57_0 := blk_frozen BK135.out 0
                                        have hfz57_1 := blk_frozen BK135.out 1
                                        have hfz57_2 := blk_frozen BK135.out 2
                                        have hfz57_3 := blk_frozen BK135.out 3
                                        go_wp2_with (first | (go_at_call 50; (with_reducible refine (spec_l2Value.calls ((rd_T86 l0 x22_1).f3) true _ A52.out).mono ?_); rintro e w' ⟨rfl, ⟨nd, rfl⟩⟩))
                                        go_roundg k3
                                        case measure => have := HK1.out; have := HJ12.out; have := HK3.out; omega
                                        case rel => exact ⟨(x3_3), (x4_3), (wrap64 (x5_1 + 1)), (wrap64 (x22_1 + 1)), (by first | rfl | (simp; done) | (simp [*]; done)), (by first | rfl | (simp; done) | (simp [*]; done)), H', ⟨by have := HK1.out; have := HJ12.out; have := HK3.out; omega⟩, ⟨by (with_reducible repeat (first | apply Kd.R_alloc | apply Kd.R_drewN | apply Kd.R_drew)); exact Kd.R_mono HO_3.out (fun _ hk => hk.1)⟩, ⟨by (with_reducible repeat (first | apply Kd.R_alloc | apply Kd.R_drewN | apply Kd.R_drew)); exact Kd.R_mono HO_4.out (fun _ hk => hk.1)⟩, ⟨by repeat (first | (with_reducible first | exact HB.out | apply below_alloc | apply pw_below_drewN | apply below_drew1 | refine below_set ?_ GE135.out) | exact HB.out)⟩⟩
                                      · rw [if_neg c56] at H
                                        have c56b0 : (((rd_T86 l0 x22_1).f1) == 0) = false := beq_eq_false_iff_ne.mpr c56
                                        have c56b1 : (((rd_T86 l0 x22_1).f1) != 0) = true := bne_iff_ne.mpr c56
                                        have H' := Aside0.mk H
                                        clear H
                                        have hcz58_0 : wr.cell? ⟨gb135, 0, none⟩ = some (.int .i64 ((rd_T86 l0 x22_1).f0)) := (blk_cell BK135.out 0).trans rfl
                                        have hcz58_1 : wr.cell? ⟨gb135, 1, none⟩ = some (.int .i64 ((rd_T86 l0 x22_1).f1)) := (blk_cell BK135.out 1).trans rfl
                                        have hcz58_2 : wr.cell? ⟨gb135, 2, none⟩ = some (.bool ((rd_T86 l0 x22_1).f2)) := (blk_cell BK135.out 2).trans rfl
                                        have hcz58_3 : wr.cell? ⟨gb135, 3, none⟩ = some (.int .i64 ((rd_T86 l0 x22_1).f3)) := (blk_cell BK135.out 3).trans rfl
                                        have hfz58_0 := blk_frozen BK135.out 0
                                        have hfz58_1 := blk_frozen BK135.out 1
                                        have hfz58_2 := blk_frozen BK135.out 2
                                        have hfz58_3 := blk_frozen BK135.out 3
                                        go_wp2_with (first | (go_at_call 50; (with_reducible refine (spec_l2Value.calls ((rd_T86 l0 x22_1).f3) true _ A52.out).mono ?_); rintro e w' ⟨rfl, ⟨nd, rfl⟩⟩))
                                        go_roundg k3
                                        case measure => have := HK1.out; have := HJ12.out; have := HK3.out; omega
                                        case rel => exact ⟨(x3_3), (x4_3), (wrap64 (x5_1 + 1)), (wrap64 (x22_1 + 1)), (by first | rfl | (simp; done) | (simp [*]; done)), (by first | rfl | (simp; done) | (simp [*]; done)), H', ⟨by have := HK1.out; have := HJ12.out; have := HK3.out; omega⟩, ⟨by (with_reducible repeat (first | apply Kd.R_alloc | apply Kd.R_drewN | apply Kd.R_drew)); exact Kd.R_mono HO_3.out (fun _ hk => hk.1)⟩, ⟨by (with_reducible repeat (first | apply Kd.R_alloc | apply Kd.R_drewN | apply Kd.R_drew)); exact Kd.R_mono HO_4.out (fun _ hk => hk.1)⟩, ⟨by repeat (first | (with_reducible first | exact HB.out | apply below_alloc | apply pw_below_drewN | apply below_drew1 | refine below_set ?_ GE135.out) | exact HB.out)⟩⟩
                                    · rw [if_neg c55] at H
                                      have c55b0 : (((rd_T86 l0 x22_1).f0) == 0) = false := beq_eq_false_iff_ne.mpr c55
                                      have c55b1 : (((rd_T86 l0 x22_1).f0) != 0) = true := bne_iff_ne.mpr c55
                                      have H' := Aside0.mk H
                                      clear H
                                      have hcz59_0 : wr.cell? ⟨gb135, 0, none⟩ = some (.int .i64 ((rd_T86 l0 x22_1).f0)) := (blk_cell BK135.out 0).trans rfl
                                      have hcz59_1 : wr.cell? ⟨gb135, 1, none⟩ = some (.int .i64 ((rd_T86 l0 x22_1).f1)) := (blk_cell BK135.out 1).trans rfl
                                      have hcz59_2 : wr.cell? ⟨gb135, 2, none⟩ = some (.bool ((rd_T86 l0 x22_1).f2)) := (blk_cell BK135.out 2).trans rfl
                                      have hcz59_3 : wr.cell? ⟨gb135, 3, none⟩ = some (.int .i64 ((rd_T86 l0 x22_1).f3)) := (blk_cell BK135.out 3).trans rfl
                                      have hfz59_0 := blk_frozen BK135.out 0
                                      have hfz59_1 := blk_frozen BK135.out 1
                                      have hfz59_2 := blk_frozen BK135.out 2
                                      have hfz59_3 := blk_frozen BK135.out 3
                                      go_wp2_with (first | (go_at_call 50; (with_reducible refine (spec_l2Value.calls ((rd_T86 l0 x22_1).f3) true _ A52.out).mono ?_); rintro e w' ⟨rfl, ⟨nd, rfl⟩⟩))
                                      go_roundg k3
                                      case measure => have := HK1.out; have := HJ12.out; have := HK3.out; omega
                                      case rel => exact ⟨(x3_3), (x4_3), (wrap64 (x5_1 + 1)), (wrap64 (x22_1 + 1)), (by first | rfl | (simp; done) | (simp [*]; done)), (by first | rfl | (simp; done) | (simp [*]; done)), H', ⟨by have := HK1.out; have := HJ12.out; have := HK3.out; omega⟩, ⟨by (with_reducible repeat (first | apply Kd.R_alloc | apply Kd.R_drewN | apply Kd.R_drew)); exact Kd.R_mono HO_3.out (fun _ hk => hk.1)⟩, ⟨by (with_reducible repeat (first | apply Kd.R_alloc | apply Kd.R_drewN | apply Kd.R_drew)); exact Kd.R_mono HO_4.out (fun _ hk => hk.1)⟩, ⟨by repeat (first | (with_reducible first | exact HB.out | apply below_alloc | apply pw_below_drewN | apply below_drew1 | refine below_set ?_ GE135.out) | exact HB.out)⟩⟩
                                  · rw [if_neg c54] at H
                                    have c54b0 : decide (0 < x22_1) = false := decide_eq_false c54
                                    clear c54
                                    have H' := Aside0.mk H
                                    clear H
                                    have hcz60_0 : wr.cell? ⟨gb135, 0, none⟩ = some (.int .i64 ((rd_T86 l0 x22_1).f0)) := (blk_cell BK135.out 0).trans rfl
                                    have hcz60_1 : wr.cell? ⟨gb135, 1, none⟩ = some (.int .i64 ((rd_T86 l0 x22_1).f1)) := (blk_cell BK135.out 1).trans rfl
                                    have hcz60_2 : wr.cell? ⟨gb135, 2, none⟩ = some (.bool ((rd_T86 l0 x22_1).f2)) := (blk_cell BK135.out 2).trans rfl
                                    have hcz60_3 : wr.cell? ⟨gb135, 3, none⟩ = some (.int .i64 ((rd_T86 l0 x22_1).f3)) := (blk_cell BK135.out 3).trans rfl
                                    have hfz60_0 := blk_frozen BK135.out 0
                                    have hfz60_1 := blk_frozen BK135.out 1
                                    have hfz60_2 := blk_frozen BK135.out 2
                                    have hfz60_3 := blk_frozen BK135.out 3
                                    go_wp2_with (first | (go_at_call 50; (with_reducible refine (spec_l2Value.calls ((rd_T86 l0 x22_1).f3) true _ A52.out).mono ?_); rintro e w' ⟨rfl, ⟨nd, rfl⟩⟩))
                                    go_roundg k3
                                    case measure => have := HK1.out; have := HJ12.out; have := HK3.out; omega
                                    case rel => exact ⟨(x3_3), (x4_3), (wrap64 (x5_1 + 1)), (wrap64 (x22_1 + 1)), (by first | rfl | (simp; done) | (simp [*]; done)), (by first | rfl | (simp; done) | (simp [*]; done)), H', ⟨by have := HK1.out; have := HJ12.out; have := HK3.out; omega⟩, ⟨by (with_reducible repeat (first | apply Kd.R_alloc | apply Kd.R_drewN | apply Kd.R_drew)); exact Kd.R_mono HO_3.out (fun _ hk => hk.1)⟩, ⟨by (with_reducible repeat (first | apply Kd.R_alloc | apply Kd.R_drewN | apply Kd.R_drew)); exact Kd.R_mono HO_4.out (fun _ hk => hk.1)⟩, ⟨by repeat (first | (with_reducible first | exact HB.out | apply below_alloc | apply pw_below_drewN | apply below_drew1 | refine below_set ?_ GE135.out) | exact HB.out)⟩⟩
                                · replace c53 := Bool.eq_false_iff.mpr c53
                                  subst c53
                                  have H1 : (some false) = some r := by rw [if_neg (show ¬ (false = true) by decide)] at H; exact H
                                  clear H
                                  have H := H1
                                  clear H1
                                  obtain rfl := Option.some.inj H
                                  have hcz61_0 : wr.cell? ⟨gb135, 0, none⟩ = some (.int .i64 ((rd_T86 l0 x22_1).f0)) := (blk_cell BK135.out 0).trans rfl
                                  have hcz61_1 : wr.cell? ⟨gb135, 1, none⟩ = some (.int .i64 ((rd_T86 l0 x22_1).f1)) := (blk_cell BK135.out 1).trans rfl
                                  have hcz61_2 : wr.cell? ⟨gb135, 2, none⟩ = some (.bool ((rd_T86 l0 x22_1).f2)) := (blk_cell BK135.out 2).trans rfl
                                  have hcz61_3 : wr.cell? ⟨gb135, 3, none⟩ = some (.int .i64 ((rd_T86 l0 x22_1).f3)) := (blk_cell BK135.out 3).trans rfl
                                  have hfz61_0 := blk_frozen BK135.out 0
                                  have hfz61_1 := blk_frozen BK135.out 1
                                  have hfz61_2 := blk_frozen BK135.out 2
                                  have hfz61_3 := blk_frozen BK135.out 3
                                  go_wp2_with (first | (go_at_call 50; (with_reducible refine (spec_l2Value.calls ((rd_T86 l0 x22_1).f3) false _ A52.out).mono ?_); rintro e w' ⟨rfl, ⟨nd, rfl⟩⟩))
                                  go_ret
                                  exact ⟨by first | rfl | (simp [errW_none, errW_some] <;> rfl) | (simp [*, errW_none, errW_some] <;> rfl), by repeat (first | (with_reducible first | exact HB.out | apply below_alloc | apply pw_below_drewN | apply below_drew1 | refine below_set ?_ GE135.out) | exact HB.out)⟩
                              · rw [if_neg c51] at H
                                have c51b0 : ((rd_T86 l0 x22_1).f2) = false := by simpa using c51
                                clear c51
                                by_cases c62 : ((rd_T86 l0 x22_1).f3) = 0
                                · rw [if_pos c62] at H
                                  have c62b0 : (((rd_T86 l0 x22_1).f3) == 0) = true := beq_iff_eq.mpr c62
                                  have c62b1 : (((rd_T86 l0 x22_1).f3) != 0) = false := bne_eq_false_iff_eq.mpr c62
                                  clear c62
                                  replace H := Option.bind_eq_some_iff.mp H
                                  obtain ⟨t148, A630, H⟩ := H
                                  replace H : (if t148 = true then (if x22_1 > 0 then (if ((rd_T86 l0 x22_1).f0) = 0 then (if ((rd_T86 l0 x22_1).f1) = 0 then (some false) else (spec_GoodTrie.l0 k3 l0 x3_3 x4_3 x5_1 l0 (l0.length : Int) (wrap64 (x22_1 + 1)))) else (spec_GoodTrie.l0 k3 l0 x3_3 x4_3 x5_1 l0 (l0.length : Int) (wrap64 (x22_1 + 1)))) else (spec_GoodTrie.l0 k3 l0 x3_3 x4_3 x5_1 l0 (l0.length : Int) (wrap64 (x22_1 + 1)))) else (some false)) = some r := H
                                  have A63 := Aside0.mk A630
                                  clear A630
                                  by_cases c64 : t148 = true
                                  · subst c64
                                    have H1 : (if x22_1 > 0 then (if ((rd_T86 l0 x22_1).f0) = 0 then (if ((rd_T86 l0 x22_1).f1) = 0 then (some false) else (spec_GoodTrie.l0 k3 l0 x3_3 x4_3 x5_1 l0 (l0.length : Int) (wrap64 (x22_1 + 1)))) else (spec_GoodTrie.l0 k3 l0 x3_3 x4_3 x5_1 l0 (l0.length : Int) (wrap64 (x22_1 + 1)))) else (spec_GoodTrie.l0 k3 l0 x3_3 x4_3 x5_1 l0 (l0.length : Int) (wrap64 (x22_1 + 1)))) = some r := by rw [if_pos rfl] at H; exact H
                                    clear H
                                    have H := H1
                                    clear H1
                                    by_cases c65 : x22_1 > 0
                                    · rw [if_pos c65] at H
                                      have c65b0 : decide (0 < x22_1) = true := decide_eq_true c65
                                      clear c65
                                      by_cases c66 : ((rd_T86 l0 x22_1).f0) = 0
                                      · rw [if_pos c66] at H
                                        have c66b0 : (((rd_T86 l0 x22_1).f0) == 0) = true := beq_iff_eq.mpr c66
                                        have c66b1 : (((rd_T86 l0 x22_1).f0) != 0) = false := bne_eq_false_iff_eq.mpr c66
                                        clear c66
                                        by_cases c67 : ((rd_T86 l0 x22_1).f1) = 0
                                        · rw [if_pos c67] at H
                                          have c67b0 : (((rd_T86 l0 x22_1).f1) == 0) = true := beq_iff_eq.mpr c67
                                          have c67b1 : (((rd_T86 l0 x22_1).f1) != 0) = false := bne_eq_false_iff_eq.mpr c67
                                          clear c67
                                          obtain rfl := Option.some.inj H
                                          have hcz68_0 : wr.cell? ⟨gb135, 0, none⟩ = some (.int .i64 ((rd_T86 l0 x22_1).f0)) := (blk_cell BK135.out 0).trans rfl
                                          have hcz68_1 : wr.cell? ⟨gb135, 1, none⟩ = some (.int .i64 ((rd_T86 l0 x22_1).f1)) := (blk_cell BK135.out 1).trans rfl
                                          have hcz68_2 : wr.cell? ⟨gb135, 2, none⟩ = some (.bool ((rd_T86 l0 x22_1).f2)) := (blk_cell BK135.out 2).trans rfl
                                          have hcz68_3 : wr.cell? ⟨gb135, 3, none⟩ = some (.int .i64 ((rd_T86 l0 x22_1).f3)) := (blk_cell BK135.out 3).trans rfl
                                          have hfz68_0 := blk_frozen BK135.out 0
                                          have hfz68_1 := blk_frozen BK135.out 1
                                          have hfz68_2 := blk_frozen BK135.out 2
                                          have hfz68_3 := blk_frozen BK135.out 3
                                          go_wp2_with (first | (go_at_call 50; (with_reducible refine (spec_l2Value.calls ((rd_T86 l0 x22_1).f3) true _ A63.out).mono ?_); rintro e w' ⟨rfl, ⟨nd, rfl⟩⟩))
                                          go_ret
                                          exact ⟨by first | rfl | (simp [errW_none, errW_some] <;> rfl) | (simp [*, errW_none, errW_some] <;> rfl), by repeat (first | (with_reducible first | exact HB.out | apply below_alloc | apply pw_below_drewN | apply below_drew1 | refine below_set ?_ GE135.out) | exact HB.out)⟩
                                        · rw [if_neg c67] at H
                                          have c67b0 : (((rd_T86 l0 x22_1).f1) == 0) = false := beq_eq_false_iff_ne.mpr c67
                                          have c67b1 : (((rd_T86 l0 x22_1).f1) != 0) = true := bne_iff_ne.mpr c67
                                          have H' := Aside0.mk H
                                          clear H
                                          have hcz69_0 : wr.cell? ⟨gb135, 0, none⟩ = some (.int .i64 ((rd_T86 l0 x22_1).f0)) := (blk_cell BK135.out 0).trans rfl
                                          have hcz69_1 : wr.cell? ⟨gb135, 1, none⟩ = some (.int .i64 ((rd_T86 l0 x22_1).f1)) := (blk_cell BK135.out 1).trans rfl
                                          have hcz69_2 : wr.cell? ⟨gb135, 2, none⟩ = some (.bool ((rd_T86 l0 x22_1).f2)) := (blk_cell BK135.out 2).trans rfl
                                          have hcz69_3 : wr.cell? ⟨gb135, 3, none⟩ = some (.int .i64 ((rd_T86 l0 x22_1).f3)) := (blk_cell BK135.out 3).trans rfl
                                          have hfz69_0 := blk_frozen BK135.out 0
                                          have hfz69_1 := blk_frozen BK135.out 1
                                          have hfz69_2 := blk_frozen BK135.out 2
                                          have hfz69_3 := blk_frozen BK135.out 3
                                          go_wp2_with (first | (go_at_call 50; (with_reducible refine (spec_l2Value.calls ((rd_T86 l0 x22_1).f3) true _ A63.out).mono ?_); rintro e w' ⟨rfl, ⟨nd, rfl⟩⟩))
                                          go_roundg k3
                                          case measure => have := HK1.out; have := HJ12.out; have := HK3.out; omega
                                          case rel => exact ⟨(x3_3), (x4_3), (x5_1), (wrap64 (x22_1 + 1)), (by first | rfl | (simp; done) | (simp [*]; done)), (by first | rfl | (simp; done) | (simp [*]; done)), H', ⟨by have := HK1.out; have := HJ12.out; have := HK3.out; omega⟩, ⟨by (with_reducible repeat (first | apply Kd.R_alloc | apply Kd.R_drewN | apply Kd.R_drew)); exact Kd.R_mono HO_3.out (fun _ hk => hk.1)⟩, ⟨by (with_reducible repeat (first | apply Kd.R_alloc | apply Kd.R_drewN | apply Kd.R_drew)); exact Kd.R_mono HO_4.out (fun _ hk => hk.1)⟩, ⟨by repeat (first | (with_reducible first | exact HB.out | apply below_alloc | apply pw_below_drewN | apply below_drew1 | refine below_set ?_ GE135.out) | exact HB.out)⟩⟩
                                      · rw [if_neg c66] at H
                                        have c66b0 : (((rd_T86 l0 x22_1).f0) == 0) = false := beq_eq_false_iff_ne.mpr c66
                                        have c66b1 : (((rd_T86 l0 x22_1).f0) != 0) = true := bne_iff_ne.mpr c66
                                        have H' := Aside0.mk H
                                        clear H
                                        have hcz70_0 : wr.cell? ⟨gb135, 0, none⟩ = some (.int .i64 ((rd_T86 l0 x22_1).f0)) := (blk_cell BK135.out 0).trans rfl
                                        have hcz70_1 : wr.cell? ⟨gb135, 1, none⟩ = some (.int .i64 ((rd_T86 l0 x22_1).f1)) := (blk_cell BK135.out 1).trans rfl
                                        have hcz70_2 : wr.cell? ⟨gb135, 2, none⟩ = some (.bool ((rd_T86 l0 x22_1).f2)) := (blk_cell BK135.out 2).trans rfl
                                        have hcz70_3 : wr.cell? ⟨gb135, 3, none⟩ = some (.int .i64 ((rd_T86 l0 x22_1).f3)) := (blk_cell BK135.out 3).trans rfl
                                        have hfz70_0 := blk_frozen BK135.out 0
                                        have hfz70_1 := blk_frozen BK135.out 1
                                        have hfz70_2 := blk_frozen BK135.out 2
                                        have hfz70_3 := blk_frozen BK135.out 3
                                        go_wp2_with (first | (go_at_call 50; (with_reducible refine (spec_l2Value.calls ((rd_T86 l0 x22_1).f3) true _ A63.out).mono ?_); rintro e w' ⟨rfl, ⟨nd, rfl⟩⟩))
                                        go_roundg k3
                                        case measure => have := HK1.out; have := HJ12.out; have := HK3.out; omega
                                        case rel => exact ⟨(x3_3), (x4_3), (x5_1), (wrap64 (x22_1 + 1)), (by first | rfl | (simp; done) | (simp [*]; done)), (by first | rfl | (simp; done) | (simp [*]; done)), H', ⟨by have := HK1.out; have := HJ12.out; have := HK3.out; omega⟩, ⟨by (with_reducible repeat (first | apply Kd.R_alloc | apply Kd.R_drewN | apply Kd.R_drew)); exact Kd.R_mono HO_3.out (fun _ hk => hk.1)⟩, ⟨by (with_reducible repeat (first | apply Kd.R_alloc | apply Kd.R_drewN | apply Kd.R_drew)); exact Kd.R_mono HO_4.out (fun _ hk => hk.1)⟩, ⟨by repeat (first | (with_reducible first | exact HB.out | apply below_alloc | apply pw_below_drewN | apply below_drew1 | refine below_set ?_ GE135.out) | exact HB.out)⟩⟩
                                    · rw [if_neg c65] at H
                                      have c65b0 : decide (0 < x22_1) = false := decide_eq_false c65
                                      clear c65
                                      have H' := Aside0.mk H
                                      clear H
                                      have hcz71_0 : wr.cell? ⟨gb135, 0, none⟩ = some (.int .i64 ((rd_T86 l0 x22_1).f0)) := (blk_cell BK135.out 0).trans rfl
                                      have hcz71_1 : wr.cell? ⟨gb135, 1, none⟩ = some (.int .i64 ((rd_T86 l0 x22_1).f1)) := (blk_cell BK135.out 1).trans rfl
                                      have hcz71_2 : wr.cell? ⟨gb135, 2, none⟩ = some (.bool ((rd_T86 l0 x22_1).f2)) := (blk_cell BK135.out 2).trans rfl
                                      have hcz71_3 : wr.cell? ⟨gb135, 3, none⟩ = some (.int .i64 ((rd_T86 l0 x22_1).f3)) := (blk_cell BK135.out 3).trans rfl
                                      have hfz71_0 := blk_frozen BK135.out 0
                                      have hfz71_1 := blk_frozen BK135.out 1
                                      have hfz71_2 := blk_frozen BK135.out 2
                                      have hfz71_3 := blk_frozen BK135.out 3
                                      go_wp2_with (first | (go_at_call 50; (with_reducible refine (spec_l2Value.calls ((rd_T86 l0 x22_1).f3) true _ A63.out).mono ?_); rintro e w' ⟨rfl, ⟨nd, rfl⟩⟩))
                                      go_roundg k3
                                      case measure => have := HK1.out; have := HJ12.out; have := HK3.out; omega
                                      case rel => exact ⟨(x3_3), (x4_3), (x5_1), (wrap64 (x22_1 + 1)), (by first | rfl | (simp; done) | (simp [*]; done)), (by first | rfl | (simp; done) | (simp [*]; done)), H', ⟨by have := HK1.out; have := HJ12.out; have := HK3.out; omega⟩, ⟨by (with_reducible repeat (first | apply Kd.R_alloc | apply Kd.R_drewN | apply Kd.R_drew)); exact Kd.R_mono HO_3.out (fun _ hk => hk.1)⟩, ⟨by (with_reducible repeat (first | apply Kd.R_alloc | apply Kd.R_drewN | apply Kd.R_drew)); exact Kd.R_mono HO_4.out (fun _ hk => hk.1)⟩, ⟨by repeat (first | (with_reducible first | exact HB.out | apply below_alloc | apply pw_below_drewN | apply below_drew1 | refine below_set ?_ GE135.out) | exact HB.out)⟩⟩
                                  · replace c64 := Bool.eq_false_iff.mpr c64
                                    subst c64
                                    have H1 : (some false) = some r := by rw [if_neg (show ¬ (false = true) by decide)] at H; exact H
                                    clear H
                                    have H := H1
                                    clear H1
                                    obtain rfl := Option.some.inj H
                                    have hcz72_0 : wr.cell? ⟨gb135, 0, none⟩ = some (.int .i64 ((rd_T86 l0 x22_1).f0)) := (blk_cell BK135.out 0).trans rfl
                                    have hcz72_1 : wr.cell? ⟨gb135, 1, none⟩ = some (.int .i64 ((rd_T86 l0 x22_1).f1)) := (blk_cell BK135.out 1).trans rfl
                                    have hcz72_2 : wr.cell? ⟨gb135, 2, none⟩ = some (.bool ((rd_T86 l0 x22_1).f2)) := (blk_cell BK135.out 2).trans rfl
                                    have hcz72_3 : wr.cell? ⟨gb135, 3, none⟩ = some (.int .i64 ((rd_T86 l0 x22_1).f3)) := (blk_cell BK135.out 3).trans rfl
                                    have hfz72_0 := blk_frozen BK135.out 0
                                    have hfz72_1 := blk_frozen BK135.out 1
                                    have hfz72_2 := blk_frozen BK135.out 2
                                    have hfz72_3 := blk_frozen BK135.out 3
                                    go_wp2_with (first | (go_at_call 50; (with_reducible refine (spec_l2Value.calls ((rd_T86 l0 x22_1).f3) false _ A63.out).mono ?_); rintro e w' ⟨rfl, ⟨nd, rfl⟩⟩))
                                    go_ret
                                    exact ⟨by first | rfl | (simp [errW_none, errW_some] <;> rfl) | (simp [*, errW_none, errW_some] <;> rfl), by repeat (first | (with_reducible first | exact HB.out | apply below_alloc | apply pw_below_drewN | apply below_drew1 | refine below_set ?_ GE135.out) | exact HB.out)⟩
                                · rw [if_neg c62] at H
                                  have c62b0 : (((rd_T86 l0 x22_1).f3) == 0) = false := beq_eq_false_iff_ne.mpr c62
                                  have c62b1 : (((rd_T86 l0 x22_1).f3) != 0) = true := bne_iff_ne.mpr c62
                                  obtain rfl := Option.some.inj H
                                  have hcz73_0 : wr.cell? ⟨gb135, 0, none⟩ = some (.int .i64 ((rd_T86 l0 x22_1).f0)) := (blk_cell BK135.out 0).trans rfl
                                  have hcz73_1 : wr.cell? ⟨gb135, 1, none⟩ = some (.int .i64 ((rd_T86 l0 x22_1).f1)) := (blk_cell BK135.out 1).trans rfl
                                  have hcz73_2 : wr.cell? ⟨gb135, 2, none⟩ = some (.bool ((rd_T86 l0 x22_1).f2)) := (blk_cell BK135.out 2).trans rfl
                                  have hcz73_3 : wr.cell? ⟨gb135, 3, none⟩ = some (.int .i64 ((rd_T86 l0 x22_1).f3)) := (blk_cell BK135.out 3).trans rfl
                                  have hfz73_0 := blk_frozen BK135.out 0
                                  have hfz73_1 := blk_frozen BK135.out 1
                                  have hfz73_2 := blk_frozen BK135.out 2
                                  have hfz73_3 := blk_frozen BK135.out 3
                                  go_wp2
                                  go_ret
                                  exact ⟨by first | rfl | (simp [errW_none, errW_some] <;> rfl) | (simp [*, errW_none, errW_some] <;> rfl), by repeat (first | (with_reducible first | exact HB.out | apply below_alloc | apply pw_below_drewN | apply below_drew1 | refine below_set ?_ GE135.out) | exact HB.out)⟩
                · rw [if_neg c12] at H
                  exact absurd H (by simp)
              · rw [if_neg c11] at H
                exact absurd H (by simp)
            · rw [if_neg c10] at H
              have c10b0 : decide (x22_1 < (l0.length : Int)) = false := decide_eq_false c10
              clear c10
              obtain rfl := Option.some.inj H
              go_wp2
              go_ret
              exact ⟨by first | rfl | (simp [errW_none, errW_some] <;> rfl) | (simp [*, errW_none, errW_some] <;> rfl), by repeat (first | (with_reducible first | exact HB.out | apply below_alloc | apply pw_below_drewN | apply below_drew1) | exact HB.out)⟩
      · rw [if_neg c5] at H
        exact absurd H (by simp)
    · rw [if_neg c4] at H
      exact absurd H (by simp)
  · replace c3 := Bool.eq_false_iff.mpr c3
    subst c3
    have H1 : (some false) = some r := by rw [if_neg (show ¬ (false = true) by decide)] at H; exact H
    clear H
    have H := H1
    clear H1
    obtain rfl := Option.some.inj H
    go_enter Try.func19, Try.ntmps19
    go_wp2_with (first | ((with_reducible refine gate_callee (f := 58) rfl ?_); refine goesL_ (some 12) rfl rfl Try.func58 (by kernel_rfl) rfl #[.int .i64 (l0.length : Int), .int .i64 1, .int .i64 2000] rfl (by (try simp only [List.map_toArray, List.map_cons, List.map_nil]); first | done | rfl | (simp only [List.length_drop, List.length_take]; rfl)) ?_; (with_reducible refine (spec_l1In.calls (l0.length : Int) 1 2000 false _ A2.out).mono ?_); rintro e w' ⟨rfl, ⟨nd, rfl⟩⟩; refine ⟨_, rfl, ?_⟩))
    go_ret
    exact ⟨by first | rfl | (simp [errW_none, errW_some] <;> rfl) | (simp [*, errW_none, errW_some] <;> rfl), by repeat (first | (with_reducible first | exact HB.out | apply below_alloc | apply pw_below_drewN | apply below_drew1) | exact HB.out)⟩

end Go.Proofs.Ytakoaogbkajkcaa.PFnExactTrieEntries
