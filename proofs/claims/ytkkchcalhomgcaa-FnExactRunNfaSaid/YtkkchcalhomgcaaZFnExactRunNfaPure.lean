/- The pure statement of FnExactRunNfa: what the printed functions tell is what the reference tells. No condition but the arguments' own bounds. -/
import Derived.Test.YtkkchcalhomgcaaYFnExactRunNfax8
import Derived.Test.YtkkchcalhomgcaaQFnExactRunNfa
namespace Go.Proofs.Ytkkchcalhomgcaa.Pure
namespace FnExactRunNfaUses
open Go.RowKit Go.Proofs.Ytkkchcalhomgcaa.PFnExactRunNfa Go.Proofs.YtkkchcalhomgcaaW.PrintWords Go.Proofs.YtkkchcalhomgcaaW.PrintLast Go.Proofs.YtkkchcalhomgcaaW.PrintMore Go.Proofs.Ytkkchcalhomgcaa.Pfx Go.Proofs.Ytkkchcalhomgcaa.Loop Go.Proofs.Ytkkchcalhomgcaa.Tbl
set_option linter.unusedVariables false
set_option linter.unusedSimpArgs false

theorem spec_l1In_is (a lo hi : Int) : spec_l1In.f a lo hi = some (decide (lo ≤ a ∧ a ≤ hi)) := by
  unfold spec_l1In.f
  by_cases h : lo ≤ a
  · rw [if_pos h]; simp [h]
  · rw [if_neg h]; simp [h]
theorem impl_within_is (a lo hi : Int) : impl_within.f a lo hi = some (decide (lo ≤ a ∧ a ≤ hi)) := by
  unfold impl_within.f
  by_cases h : lo ≤ a
  · rw [if_pos h]; simp [h]
  · rw [if_neg h]; simp [h]
theorem laws_toIntS_is (k : Nat) (l : List Int) (hl : l.length ≤ 1048576) (hk : l.length < k) : laws_toIntS.f k l = some l := by
  unfold laws_toIntS.f
  rw [if_pos (len_nn _), if_pos (by simp; omega)]
  have key : ∀ (rest pre : List Int) (k : Nat), l = pre ++ rest → rest.length < k →
      laws_toIntS.l0 k l (pre ++ List.replicate rest.length 0) (pre.length : Int) = some l := by
    intro rest
    induction rest with
    | nil =>
      intro pre k e hk
      obtain ⟨k, rfl⟩ : ∃ m, k = m + 1 := ⟨k - 1, by omega⟩
      simp only [laws_toIntS.l0]
      rw [if_neg (by rw [e]; simp)]
      simp [e]
    | cons a rest ih =>
      intro pre k e hk
      obtain ⟨k, rfl⟩ : ∃ m, k = m + 1 := ⟨k - 1, by omega⟩
      simp only [laws_toIntS.l0]
      rw [if_pos (by rw [e]; exact lt_mid _ _ _), if_pos (len_nn _), if_pos (by simp; omega), wrap_mid (rest := rest) (by rw [← e]; simp only [maxLen]; omega)]
      have h1 : rd l (pre.length : Int) = a := by rw [e]; exact rd_mid _ _ _
      rw [h1, List.length_cons, List.replicate_succ, set_mid]
      have h2 := ih (pre ++ [a]) k (by rw [e]; simp) (by simp at hk; omega)
      rw [List.append_assoc] at h2
      exact h2
  have := key l [] k rfl hk
  simpa using this
theorem laws_eqIntS_refl (k : Nat) (l : List Int) (hl : l.length ≤ maxLen) (hk : l.length < k) : laws_eqIntS.f k l l = some true := by
  unfold laws_eqIntS.f
  rw [if_pos rfl]
  have key : ∀ (rest pre : List Int) (k : Nat), l = pre ++ rest → rest.length < k → laws_eqIntS.l0 k l l (pre.length : Int) = some true := by
    intro rest
    induction rest with
    | nil =>
      intro pre k e hk
      obtain ⟨k, rfl⟩ : ∃ m, k = m + 1 := ⟨k - 1, by omega⟩
      simp only [laws_eqIntS.l0]
      rw [if_neg (by rw [e]; simp)]
    | cons a rest ih =>
      intro pre k e hk
      obtain ⟨k, rfl⟩ : ∃ m, k = m + 1 := ⟨k - 1, by omega⟩
      simp only [laws_eqIntS.l0]
      rw [if_pos (by rw [e]; exact lt_mid _ _ _), if_pos (len_nn _), if_pos (by rw [e]; exact lt_mid _ _ _)]
      simp only [if_true]
      rw [wrap_mid (rest := rest) (by rw [← e]; exact hl)]
      exact ih (pre ++ [a]) k (by rw [e]; simp) (by simp at hk; omega)
  exact key l [] k rfl hk
def pathOk (l : List Int) : Bool := l.all fun a => decide (1 ≤ a ∧ a ≤ 65535)
theorem idx_Path (l : List Int) (hl : l.length ≤ maxLen) : ∀ (rest pre : List Int), l = pre ++ rest →
    ∃ r : Int, Ev (fun k => slices_IndexFunc_int_int.l0 k l (l.length : Int) (pre.length : Int)) r ∧ (decide (r ≥ 0) = !pathOk rest) := by
  intro rest
  induction rest with
  | nil =>
    intro pre e
    refine ⟨-1, Ev.step (f := fun _ => some (-1)) (fun k => ?_) (Ev.now _), by simp [pathOk]⟩
    simp only [slices_IndexFunc_int_int.l0]
    rw [if_neg (by rw [e]; simp)]
  | cons a rest ih =>
    intro pre e
    have hlt : (pre.length : Int) < (l.length : Int) := by rw [e]; exact lt_mid _ _ _
    have h1 : rd l (pre.length : Int) = a := by rw [e]; exact rd_mid _ _ _
    by_cases hm : 1 ≤ a ∧ a ≤ 65535
    · obtain ⟨r, hr, hb⟩ := ih (pre ++ [a]) (by rw [e]; simp)
      refine ⟨r, Ev.step (fun k => ?_) hr, by rw [hb]; simp [pathOk, hm]⟩
      simp only [slices_IndexFunc_int_int.l0, impl_isPath_1.f, impl_isAsn.f]
      rw [if_pos hlt, if_pos (len_nn _), if_pos hlt, h1, impl_within_is]
      simp only [Option.bind_some]
      rw [if_neg (by simp [hm]), wrap_mid (rest := rest) (by rw [← e]; exact hl)]
    · refine ⟨(pre.length : Int), Ev.step (f := fun _ => some (pre.length : Int)) (fun k => ?_) (Ev.now _), ?_⟩
      · simp only [slices_IndexFunc_int_int.l0, impl_isPath_1.f, impl_isAsn.f]
        rw [if_pos hlt, if_pos (len_nn _), if_pos hlt, h1, impl_within_is]
        simp only [Option.bind_some]
        rw [if_pos (by simp; omega)]
      · have : pathOk (a :: rest) = false := by
          unfold pathOk
          rw [List.all_cons, decide_eq_false hm, Bool.false_and]
        rw [this]; simp
theorem impl_isPath_is (l : List Int) (hl : l.length ≤ maxLen) : Ev (fun k => impl_isPath.f k l) (decide (l.length ≤ 10) && pathOk l) := by
  by_cases h : (l.length : Int) ≤ 10
  · have h' : l.length ≤ 10 := by omega
    obtain ⟨r, hr, hb⟩ := idx_Path l hl l [] rfl
    refine Ev.congr (fun k => by unfold impl_isPath.f slices_ContainsFunc_int_int.f; rw [if_pos h]) (Ev.bind (f := fun _ b => some (!b)) (Ev.bind (g := fun k => slices_IndexFunc_int_int.f k l) (f := fun _ t => some (decide (t ≥ 0))) hr (Ev.now _)) ?_)
    rw [hb]
    simp only [h', decide_true, Bool.true_and, Bool.not_not]
    exact Ev.now _
  · have h' : ¬ l.length ≤ 10 := by omega
    rw [show (decide (l.length ≤ 10) && pathOk l) = false by simp [h']]
    exact Ev.congr (fun k => by unfold impl_isPath.f; rw [if_neg h]) (Ev.now _)
theorem rdm_Edge (pre : List S97) (a : S97) (rest : List S97) : rd_T97 (pre ++ a :: rest) (pre.length : Int) = a := by unfold rd_T97; simp
def edgeOk (s : Int) (e : S97) : Bool := decide (0 ≤ e.f0 ∧ e.f0 < s) && (decide (0 ≤ e.f1 ∧ e.f1 < s) && (if (e.f2 || e.f3) = true then ((e.f2 != e.f3) && (e.f4 == 0)) else decide (1 ≤ e.f4 ∧ e.f4 ≤ 65535)))
def nfaOk (s a b : Int) (l : List S97) : Bool := decide (1 ≤ s ∧ s ≤ 80) && (decide (0 ≤ a ∧ a < s) && (decide (0 ≤ b ∧ b < s) && (decide (l.length ≤ 200) && l.all (edgeOk s))))
theorem impl_GoodNfa_1_is (k s : Int) (h0 : 1 ≤ s) (h1 : s ≤ 80) : impl_GoodNfa_1.f k s = some (decide (0 ≤ k ∧ k < s)) := by
  unfold impl_GoodNfa_1.f
  rw [impl_within_is, wrap_id (by omega) (by omega)]
  exact congrArg some (decide_eq_decide.mpr (by omega))
theorem impl_GoodNfa_2_is (e : S97) (s : Int) (h0 : 1 ≤ s) (h1 : s ≤ 80) : impl_GoodNfa_2.f e.f0 e.f1 e.f2 e.f3 e.f4 s = some (!edgeOk s e) := by
  unfold impl_GoodNfa_2.f edgeOk nfaRight
  have ha : impl_isAsn.f e.f4 = some (decide (1 ≤ e.f4 ∧ e.f4 ≤ 65535)) := by unfold impl_isAsn.f; rw [impl_within_is]; rfl
  rw [ha, impl_GoodNfa_1_is _ _ h0 h1, impl_GoodNfa_1_is _ _ h0 h1]
  simp only [Option.bind_some]
  generalize decide (0 ≤ e.f0 ∧ e.f0 < s) = x1
  generalize decide (0 ≤ e.f1 ∧ e.f1 < s) = x2
  cases x1 <;> cases x2 <;> simp
theorem impl_GoodNfa_is (s a b : Int) (l : List S97) (hl : l.length ≤ 1048576) (k : Nat) (hk : l.length < k) : impl_GoodNfa.f k s a b l = some (nfaOk s a b l) := by
  unfold impl_GoodNfa.f nfaOk
  rw [impl_within_is, Option.bind_some]
  have el : ((l.length : Int) > 200) ↔ ¬ l.length ≤ 200 := by omega
  by_cases hs : 1 ≤ s ∧ s ≤ 80
  · rw [if_pos (decide_eq_true hs), decide_eq_true hs, Bool.true_and]
    have hct : impl_GoodNfa_ct.f k l s = some (l.any fun e => !edgeOk s e) := by
      unfold impl_GoodNfa_ct.f impl_GoodNfa_ix.f
      exact any_gen (fun k i => impl_GoodNfa_ix.l0 s k l (l.length : Int) i) l (fun e => !edgeOk s e) (fun k => by
        show impl_GoodNfa_ix.l0 s (k + 1) l (l.length : Int) (l.length : Int) = _
        rw [impl_GoodNfa_ix.l0, if_neg (not_lt_end l)]) (fun k pre x rest e => by
        show impl_GoodNfa_ix.l0 s (k + 1) l (l.length : Int) (pre.length : Int) = _
        have h1 : rd_T97 l (pre.length : Int) = x := by rw [e]; exact rdm_Edge _ _ _
        rw [impl_GoodNfa_ix.l0, if_pos (by rw [e]; exact lt_mid _ _ _), if_pos (len_nn _), if_pos (by rw [e]; exact lt_mid _ _ _), h1, impl_GoodNfa_2_is x s hs.1 hs.2, Option.bind_some, wrap_mid (rest := rest) (by rw [← e]; simp only [maxLen]; omega)]) k hk
    rw [impl_GoodNfa_1_is _ _ hs.1 hs.2, impl_GoodNfa_1_is _ _ hs.1 hs.2, hct]
    simp only [Option.bind_some]
    rw [List.not_any_eq_all_not]
    simp only [Bool.not_not]
    by_cases h2 : l.length ≤ 200
    · rw [if_neg (fun h => el.1 h h2), decide_eq_true h2, Bool.true_and]
      generalize decide (0 ≤ a ∧ a < s) = x1
      generalize decide (0 ≤ b ∧ b < s) = x2
      cases x1 <;> cases x2 <;> rfl
    · rw [if_pos (el.2 h2), decide_eq_false h2]
      simp
  · rw [if_neg (by simpa using hs), decide_eq_false hs, Bool.false_and]
theorem spec_GoodNfa_is (s a b : Int) (l : List S97) (hl : l.length ≤ 1048576) (k : Nat) (hk : 2 * l.length + 4 < k) : spec_GoodNfa.f k s a b l = some (nfaOk s a b l) := by
  obtain ⟨k, rfl⟩ : ∃ m, k = m + 1 := ⟨k - 1, by omega⟩
  have bad : spec_GoodNfa.j0 (k + 1) true s a b l = some false := by rw [spec_GoodNfa.j0, if_pos rfl]
  unfold spec_GoodNfa.f nfaOk
  rw [spec_l1In_is, Option.bind_some]
  by_cases hs : 1 ≤ s ∧ s ≤ 80
  · rw [if_pos (decide_eq_true hs), decide_eq_true hs, Bool.true_and]
    by_cases ha : 0 ≤ a ∧ a < s
    · rw [if_neg (by omega), if_neg (by omega), decide_eq_true ha, Bool.true_and]
      by_cases hb : 0 ≤ b ∧ b < s
      · rw [if_neg (by omega), if_neg (by omega), decide_eq_true hb, Bool.true_and]
        by_cases h2 : l.length ≤ 200
        · have h2' : ¬ ((l.length : Int) > 200) := by omega
          rw [decide_eq_false h2', decide_eq_true h2, Bool.true_and, spec_GoodNfa.j0, if_neg (by decide)]
          have key : ∀ (rest pre : List S97) (k : Nat), l = pre ++ rest → 2 * rest.length < k → spec_GoodNfa.l0 k l (l.length : Int) (pre.length : Int) s a b l = some (rest.all (edgeOk s)) := by
            intro rest
            induction rest with
            | nil =>
              intro pre k e hk
              obtain ⟨k, rfl⟩ : ∃ m, k = m + 1 := ⟨k - 1, by omega⟩
              rw [spec_GoodNfa.l0, if_neg (by rw [e]; simp)]
              rfl
            | cons x rest ih =>
              intro pre k e hk
              simp only [List.length_cons] at hk
              obtain ⟨k, rfl⟩ : ∃ m, k = m + 1 + 1 := ⟨k - 2, by omega⟩
              have h1 : rd_T97 l (pre.length : Int) = x := by rw [e]; exact rdm_Edge _ _ _
              rw [spec_GoodNfa.l0, if_pos (by rw [e]; exact lt_mid _ _ _), if_pos (len_nn _), if_pos (by rw [e]; exact lt_mid _ _ _), h1]
              have bad2 : spec_GoodNfa.j2 (k + 1) l (l.length : Int) (pre.length : Int) true s a b l x.f0 x.f1 x.f2 x.f3 x.f4 = some false := by rw [spec_GoodNfa.j2, if_pos rfl]
              rw [List.all_cons]
              by_cases g0 : 0 ≤ x.f0 ∧ x.f0 < s
              · rw [if_neg (by omega), if_neg (by omega)]
                by_cases g1 : 0 ≤ x.f1 ∧ x.f1 < s
                · have g1' : ¬ x.f1 ≥ s := by omega
                  rw [if_neg (by omega), decide_eq_false g1', spec_GoodNfa.j2, if_neg (by decide), wrap_mid (rest := rest) (by rw [← e]; simp only [maxLen]; omega), ih (pre ++ [x]) k (by rw [e]; simp) (by omega), spec_l1In_is]
                  unfold edgeOk
                  rw [decide_eq_true g0, decide_eq_true g1]
                  simp only [Bool.true_and, Option.bind_some]
                  generalize rest.all _ = q
                  cases hf : x.f2 <;> cases ha : x.f3
                  · simp only [Bool.false_eq_true, if_false, Bool.or_self]
                    by_cases g2 : 1 ≤ x.f4 ∧ x.f4 ≤ 65535
                    · rw [if_pos (decide_eq_true g2), decide_eq_true g2, Bool.true_and]
                    · rw [if_neg (by simpa using g2), decide_eq_false g2, Bool.false_and]
                  · simp only [Bool.false_eq_true, if_false, if_true, Bool.false_or]
                    by_cases g2 : x.f4 = 0
                    · rw [if_pos g2]; simp [g2]
                    · rw [if_neg g2]; simp [g2]
                  · simp only [Bool.false_eq_true, if_false, if_true, Bool.or_false]
                    by_cases g2 : x.f4 = 0
                    · rw [if_pos g2]; simp [g2]
                    · rw [if_neg g2]; simp [g2]
                  · simp
                · have e1 : edgeOk s x = false := by unfold edgeOk; rw [decide_eq_false g1]; simp
                  rw [e1, Bool.false_and]
                  by_cases g2 : x.f1 < 0
                  · rw [if_pos g2]; exact bad2
                  · have g3 : x.f1 ≥ s := by omega
                    rw [if_neg g2, decide_eq_true g3]; exact bad2
              · have e1 : edgeOk s x = false := by unfold edgeOk; rw [decide_eq_false g0]; simp
                rw [e1, Bool.false_and]
                by_cases g2 : x.f0 < 0
                · rw [if_pos g2]; exact bad2
                · rw [if_neg g2, if_pos (by omega)]; exact bad2
          exact key l [] k rfl (by omega)
        · have h2' : (l.length : Int) > 200 := by omega
          rw [decide_eq_true h2', decide_eq_false h2, Bool.false_and]; exact bad
      · rw [decide_eq_false hb, Bool.false_and]
        by_cases g : b < 0
        · rw [if_pos g]; exact bad
        · rw [if_neg g, if_pos (by omega)]; exact bad
    · rw [decide_eq_false ha, Bool.false_and]
      by_cases g : a < 0
      · rw [if_pos g]; exact bad
      · rw [if_neg g, if_pos (by omega)]; exact bad
  · rw [if_neg (by simpa using hs), decide_eq_false hs, Bool.false_and]; exact bad
theorem laws_szNfa_is (s a b : Int) (l : List S136) (m0 : l.length ≤ maxLen) : ∃ r, laws_szNfa.f s a b l 1048576 = some r ∧ (¬ r < 0 → l.length ≤ 1048576) := by
  unfold laws_szNfa.f laws_szNfaEdgeS.f
  by_cases hc : wrap64 (1048576 - (l.length : Int)) < 0
  · rw [if_pos hc]; exact ⟨_, rfl, fun h => absurd (by omega) h⟩
  · rw [if_neg hc, Option.bind_some, if_neg hc]; exact ⟨_, rfl, fun h => sz_ok m0 (by rw [if_neg hc]) h⟩
theorem laws_toNfaEdgeS_is (k : Nat) (l : List S136) (hl : l.length ≤ 1048576) (hk : l.length < k) : laws_toNfaEdgeS.f k l = some (l.map fun p => (⟨p.f0, p.f1, p.f2, p.f3, p.f4⟩ : S97)) := by
  unfold laws_toNfaEdgeS.f
  rw [if_pos (len_nn _), if_pos (by simp; omega)]
  have key : ∀ (rest pre : List S136) (k : Nat), l = pre ++ rest → rest.length < k →
      laws_toNfaEdgeS.l0 k l (pre.map (fun p => (⟨p.f0, p.f1, p.f2, p.f3, p.f4⟩ : S97)) ++ List.replicate rest.length z97) (pre.length : Int) = some (l.map fun p => (⟨p.f0, p.f1, p.f2, p.f3, p.f4⟩ : S97)) := by
    intro rest
    induction rest with
    | nil =>
      intro pre k e hk
      obtain ⟨k, rfl⟩ : ∃ m, k = m + 1 := ⟨k - 1, by omega⟩
      simp only [laws_toNfaEdgeS.l0]
      rw [if_neg (by rw [e]; simp)]
      simp [e]
    | cons a rest ih =>
      intro pre k e hk
      obtain ⟨k, rfl⟩ : ∃ m, k = m + 1 := ⟨k - 1, by omega⟩
      have h1 : rd_T136 l (pre.length : Int) = a := by rw [e]; unfold rd_T136; simp
      simp only [laws_toNfaEdgeS.l0]
      rw [if_pos (by rw [e]; exact lt_mid _ _ _), if_pos (len_nn _), h1]
      unfold laws_toNfaEdge.f
      rw [Option.bind_some, if_pos (by simp; omega), wrap_mid (rest := rest) (by rw [← e]; simp only [maxLen]; omega)]
      have := ih (pre ++ [a]) k (by rw [e]; simp) (by simp at hk; omega)
      rw [← this]
      congr 1
      have es : ((pre.map (fun p => (⟨p.f0, p.f1, p.f2, p.f3, p.f4⟩ : S97))).length : Int) = (pre.length : Int) := by simp
      rw [← es, List.length_cons, List.replicate_succ, set_mid]
      simp
  have := key l [] k rfl hk
  simpa using this
theorem laws_toNfa_is (k : Nat) (s a b : Int) (l : List S136) (hl : l.length ≤ 1048576) (hk : l.length < k) : laws_toNfa.f k s a b l = some (s, a, b, l.map fun p => (⟨p.f0, p.f1, p.f2, p.f3, p.f4⟩ : S97)) := by
  unfold laws_toNfa.f; rw [laws_toNfaEdgeS_is k l hl hk]; rfl
theorem laws_eqNfaEdge_self (a b : Int) (c d : Bool) (e : Int) : laws_eqNfaEdge.f a b c d e a b c d e = some true := by
  unfold laws_eqNfaEdge.f; simp
theorem laws_eqNfaEdgeS_refl (k : Nat) (l : List S97) (hl : l.length ≤ maxLen) (hk : l.length < k) : laws_eqNfaEdgeS.f k l l = some true := by
  unfold laws_eqNfaEdgeS.f
  rw [if_pos rfl]
  have key : ∀ (rest pre : List S97) (k : Nat), l = pre ++ rest → rest.length < k → laws_eqNfaEdgeS.l0 k l l (pre.length : Int) = some true := by
    intro rest
    induction rest with
    | nil =>
      intro pre k e hk
      obtain ⟨k, rfl⟩ : ∃ m, k = m + 1 := ⟨k - 1, by omega⟩
      simp only [laws_eqNfaEdgeS.l0]
      rw [if_neg (by rw [e]; simp)]
    | cons a rest ih =>
      intro pre k e hk
      obtain ⟨k, rfl⟩ : ∃ m, k = m + 1 := ⟨k - 1, by omega⟩
      simp only [laws_eqNfaEdgeS.l0]
      rw [if_pos (by rw [e]; exact lt_mid _ _ _), if_pos (len_nn _), if_pos (by rw [e]; exact lt_mid _ _ _), laws_eqNfaEdge_self]
      simp only [Option.bind_some, if_true]
      rw [wrap_mid (rest := rest) (by rw [← e]; exact hl)]
      exact ih (pre ++ [a]) k (by rw [e]; simp) (by simp at hk; omega)
  exact key l [] k rfl hk
theorem laws_eqNfa_refl (k : Nat) (s a b : Int) (l : List S97) (hl : l.length ≤ maxLen) (hk : l.length < k) : laws_eqNfa.f k s a b l s a b l = some true := by
  unfold laws_eqNfa.f
  rw [if_pos rfl, if_pos rfl, if_pos rfl, laws_eqNfaEdgeS_refl k l hl hk, Option.bind_some, if_pos rfl]
def putL : List Int → Int → List Int
  | [], x => [x]
  | a :: t, x => if a < x then a :: putL t x else if a = x then a :: t else x :: a :: t
theorem putL_len_le (l : List Int) (x : Int) : l.length ≤ (putL l x).length ∧ (putL l x).length ≤ l.length + 1 := by
  induction l with
  | nil => simp [putL]
  | cons a t ih =>
    rw [putL]
    by_cases h1 : a < x
    · rw [if_pos h1]; simp only [List.length_cons]; omega
    · rw [if_neg h1]
      by_cases h2 : a = x
      · rw [if_pos h2]; simp
      · rw [if_neg h2]; simp
theorem mem_putL {l : List Int} {x y : Int} : y ∈ putL l x ↔ y = x ∨ y ∈ l := by
  induction l with
  | nil => simp [putL]
  | cons a t ih =>
    rw [putL]
    by_cases h1 : a < x
    · rw [if_pos h1, List.mem_cons, ih, List.mem_cons]
      constructor
      · rintro (h | h | h); exact .inr (.inl h); exact .inl h; exact .inr (.inr h)
      · rintro (h | h | h); exact .inr (.inl h); exact .inl h; exact .inr (.inr h)
    · rw [if_neg h1]
      by_cases h2 : a = x
      · rw [if_pos h2, List.mem_cons]
        constructor
        · rintro (h | h); exact .inr (.inl h); exact .inr (.inr h)
        · rintro (h | h | h); exact .inl (h.trans h2.symm); exact .inl h; exact .inr h
      · rw [if_neg h2, List.mem_cons, List.mem_cons]
theorem sorted_putL {l : List Int} (h : l.Pairwise (· < ·)) (x : Int) : (putL l x).Pairwise (· < ·) := by
  induction l with
  | nil => simp [putL]
  | cons a t ih =>
    obtain ⟨h1, h2⟩ := List.pairwise_cons.1 h
    rw [putL]
    by_cases c1 : a < x
    · rw [if_pos c1]
      refine List.pairwise_cons.2 ⟨fun y hy => ?_, ih h2⟩
      rcases mem_putL.1 hy with rfl | hy
      · exact c1
      · exact h1 y hy
    · rw [if_neg c1]
      by_cases c2 : a = x
      · rw [if_pos c2]; exact h
      · rw [if_neg c2]
        refine List.pairwise_cons.2 ⟨fun y hy => ?_, h⟩
        rcases List.mem_cons.1 hy with rfl | hy
        · omega
        · have := h1 y hy; omega
theorem putL_mem {l : List Int} (h : l.Pairwise (· < ·)) {x : Int} (hx : x ∈ l) : putL l x = l := by
  induction l with
  | nil => simp at hx
  | cons a t ih =>
    obtain ⟨h1, h2⟩ := List.pairwise_cons.1 h
    rw [putL]
    rcases List.mem_cons.1 hx with rfl | hx
    · rw [if_neg (by omega), if_pos rfl]
    · rw [if_pos (h1 x hx), ih h2 hx]
theorem putL_new {l : List Int} {x : Int} (hx : x ∉ l) : (putL l x).length = l.length + 1 := by
  induction l with
  | nil => simp [putL]
  | cons a t ih =>
    rw [putL]
    by_cases c1 : a < x
    · rw [if_pos c1, List.length_cons, ih (fun h => hx (List.mem_cons_of_mem _ h)), List.length_cons]
    · rw [if_neg c1, if_neg (fun e => hx (by rw [e]; exact List.mem_cons_self ..))]; simp
theorem spec_l1Put_is (x : Int) (l : List Int) (hl : l.length ≤ 1000000) (k : Nat) (hk : l.length < k) : spec_l1Put.f k l x = some (putL l x) := by
  have key : ∀ (rest pre : List Int) (k : Nat), l = pre ++ rest → rest.length < k → spec_l1Put.l0 k l x (pre.length : Int) = some (pre ++ putL rest x) := by
    intro rest
    induction rest with
    | nil =>
      intro pre k e hk
      obtain ⟨k, rfl⟩ : ∃ m, k = m + 1 := ⟨k - 1, by omega⟩
      have e' : l = pre := by simpa using e
      rw [spec_l1Put.l0, if_neg (by rw [e]; simp), if_pos (len_nn _), if_pos (by rw [e']; omega)]
      simp only [Option.bind_some, List.nil_append, List.length_nil, Int.toNat_natCast]
      rw [← e', List.take_length, List.drop_length, if_pos (by omega), if_pos (by omega), if_pos (by simp; omega)]
      simp [putL]
    | cons a rest ih =>
      intro pre k e hk
      obtain ⟨k, rfl⟩ : ∃ m, k = m + 1 := ⟨k - 1, by omega⟩
      have h1 : rd l (pre.length : Int) = a := by rw [e]; exact rd_mid _ _ _
      have hlen : l.length = pre.length + (rest.length + 1) := by rw [e]; simp
      rw [spec_l1Put.l0, if_pos (by omega), if_pos (len_nn _), h1, putL]
      by_cases c1 : a < x
      · rw [if_pos c1, if_pos c1, wrap_mid (rest := rest) (by rw [← e]; simp only [maxLen]; omega), ih (pre ++ [a]) k (by rw [e]; simp) (by simp at hk; omega)]
        simp
      · rw [if_neg c1, if_neg c1]
        by_cases c2 : a = x
        · rw [if_pos c2, if_pos c2, e]
        · rw [if_neg c2, if_neg c2, if_pos (by omega)]
          have ht : l.take ((pre.length : Int)).toNat = pre := by rw [e]; simp
          have hd : l.drop ((pre.length : Int)).toNat = a :: rest := by rw [e]; simp
          rw [ht, hd]
          simp only [Option.bind_some, List.nil_append, List.length_nil]
          rw [if_pos (by omega), if_pos (by omega), if_pos (by simp; omega)]
          simp
  have := key l [] k rfl hk
  simpa [spec_l1Put.f] using this
theorem spec_l1Has_is (x : Int) (l : List Int) (hl : l.length ≤ 1000000) (k : Nat) (hk : l.length < k) : spec_l1Has.f k l x = some (decide (x ∈ l)) := by
  have key : ∀ (rest pre : List Int) (k : Nat), l = pre ++ rest → rest.length < k → spec_l1Has.l0 k x l (l.length : Int) (pre.length : Int) = some (decide (x ∈ rest)) := by
    intro rest
    induction rest with
    | nil =>
      intro pre k e hk
      obtain ⟨k, rfl⟩ : ∃ m, k = m + 1 := ⟨k - 1, by omega⟩
      rw [spec_l1Has.l0, if_neg (by rw [e]; simp)]
      simp
    | cons a rest ih =>
      intro pre k e hk
      obtain ⟨k, rfl⟩ : ∃ m, k = m + 1 := ⟨k - 1, by omega⟩
      have h1 : rd l (pre.length : Int) = a := by rw [e]; exact rd_mid _ _ _
      rw [spec_l1Has.l0, if_pos (by rw [e]; exact lt_mid _ _ _), if_pos (len_nn _), if_pos (by rw [e]; exact lt_mid _ _ _), h1]
      by_cases c : a = x
      · rw [if_pos c]; simp [c]
      · rw [if_neg c, wrap_mid (rest := rest) (by rw [← e]; simp only [maxLen]; omega), ih (pre ++ [a]) k (by rw [e]; simp) (by simp at hk; omega)]
        have : (x ∈ a :: rest) ↔ x ∈ rest := by
          rw [List.mem_cons]
          exact ⟨fun h => h.elim (fun h => absurd h.symm c) id, .inr⟩
        simp only [this]
  exact key l [] k rfl hk
/-- States told by a row of bools, and by a rising list. -/
structure SR (s : Int) (h : List Bool) (l : List Int) : Prop where
  len : (h.length : Int) = s
  srt : l.Pairwise (· < ·)
  rng : ∀ x, x ∈ l → 0 ≤ x ∧ x < s
  iff : ∀ j : Int, 0 ≤ j → j < s → (rdOf false h j = true ↔ j ∈ l)
theorem rdB_set_ne {D : List Bool} {x y : Int} {v : Bool} (hx : 0 ≤ x) (hy : 0 ≤ y) (h : x ≠ y) : rdOf false (D.set x.toNat v) y = rdOf false D y := by
  unfold rdOf
  have : x.toNat ≠ y.toNat := by omega
  simp only [List.getD_eq_getElem?_getD, List.getElem?_set_ne this]
theorem rdB_set_eq {D : List Bool} {x : Int} {v : Bool} (hx : 0 ≤ x) (h : x < (D.length : Int)) : rdOf false (D.set x.toNat v) x = v := by
  unfold rdOf
  have : x.toNat < D.length := by omega
  simp [List.getD_eq_getElem?_getD, List.getElem?_set, this]
theorem SR.put {s : Int} {h : List Bool} {l : List Int} (r : SR s h l) {x : Int} (h0 : 0 ≤ x) (h1 : x < s) : SR s (h.set x.toNat true) (putL l x) := by
  refine ⟨by simpa using r.len, sorted_putL r.srt x, fun y hy => ?_, fun j j0 j1 => ?_⟩
  · rcases mem_putL.1 hy with rfl | hy
    · exact ⟨h0, h1⟩
    · exact r.rng y hy
  · rw [mem_putL]
    by_cases e : x = j
    · subst e
      rw [rdB_set_eq h0 (by rw [r.len]; exact h1)]
      simp
    · rw [rdB_set_ne h0 j0 e, r.iff j j0 j1]
      exact ⟨.inr, fun h => h.elim (fun h => absurd h.symm e) id⟩
theorem sorted_len : ∀ (l : List Int) (a b : Int), l.Pairwise (· < ·) → (∀ x, x ∈ l → a ≤ x ∧ x < b) → a ≤ b → (l.length : Int) ≤ b - a
  | [], a, b, _, _, h => by simp; omega
  | x :: t, a, b, hs, hr, h => by
    obtain ⟨h1, h2⟩ := List.pairwise_cons.1 hs
    have hx := hr x (by simp)
    have := sorted_len t (x + 1) b h2 (fun y hy => ⟨by have := h1 y hy; omega, (hr y (by simp [hy])).2⟩) (by omega)
    simp only [List.length_cons]
    omega
theorem SR.le {s : Int} {h : List Bool} {l : List Int} (r : SR s h l) : (l.length : Int) ≤ s := by
  have := sorted_len l 0 s r.srt r.rng (by have := r.len; omega)
  omega
theorem cnt_len : ∀ (h : List Bool) (o : Int) (l : List Int), l.Pairwise (· < ·) → (∀ x, x ∈ l → o ≤ x ∧ x < o + h.length) → (∀ j : Nat, j < h.length → (h.getD j false = true ↔ o + j ∈ l)) → (h.filter id).length = l.length
  | [], o, l, _, hr, _ => by
    cases l with
    | nil => rfl
    | cons x t => have := hr x (by simp); simp at this; omega
  | b :: t, o, l, hs, hr, hi => by
    have h0 := hi 0 (by simp)
    simp only [List.getD_cons_zero, Int.natCast_zero, Int.add_zero] at h0
    have hi' : ∀ j : Nat, j < t.length → (t.getD j false = true ↔ o + 1 + j ∈ l) := fun j hj => by
      have := hi (j + 1) (by simp; omega)
      rw [List.getD_cons_succ] at this
      rwa [show o + 1 + (j : Int) = o + ((j + 1 : Nat) : Int) by omega]
    cases b with
    | false =>
      have hn : o ∉ l := fun h => by have := h0.2 h; cases this
      have := cnt_len t (o + 1) l hs (fun x hx => by
        have h1 := hr x hx
        have : x ≠ o := fun e => hn (e ▸ hx)
        simp only [List.length_cons] at h1
        omega) hi'
      simpa using this
    | true =>
      have ho := h0.1 rfl
      cases l with
      | nil => simp at ho
      | cons x l' =>
        obtain ⟨g1, g2⟩ := List.pairwise_cons.1 hs
        have hx : x = o := by
          rcases List.mem_cons.1 ho with e | hm
          · exact e.symm
          · have := g1 o hm
            have := hr x (by simp)
            omega
        subst hx
        have := cnt_len t (x + 1) l' g2 (fun y hy => by
          have h1 := hr y (by simp [hy])
          have := g1 y hy
          simp only [List.length_cons] at h1
          omega) (fun j hj => by
          rw [hi' j hj, List.mem_cons]
          exact ⟨fun h => h.elim (fun h => by omega) id, .inr⟩)
        simpa using this
theorem SR.cnt {s : Int} {h : List Bool} {l : List Int} (r : SR s h l) : (h.filter id).length = l.length := by
  have hl := r.len
  refine cnt_len h 0 l r.srt (fun x hx => ?_) (fun j hj => ?_)
  · have := r.rng x hx; omega
  · have := r.iff (j : Int) (by omega) (by omega)
    unfold rdOf at this
    rw [Int.toNat_natCast] at this
    rwa [Int.zero_add]
/-- One walk over the edges. -/
def closE (l : List Int) (e : S97) : List Int := if e.f2 = true ∧ e.f0 ∈ l then putL l e.f1 else l
def pass (l : List Int) (es : List S97) : List Int := es.foldl closE l
theorem closE_len (l : List Int) (e : S97) : l.length ≤ (closE l e).length := by
  unfold closE
  by_cases h : e.f2 = true ∧ e.f0 ∈ l
  · rw [if_pos h]; exact (putL_len_le l _).1
  · rw [if_neg h]; exact Nat.le_refl _
theorem pass_len : ∀ (es : List S97) (l : List Int), l.length ≤ (pass l es).length
  | [], l => Nat.le_refl _
  | e :: t, l => Nat.le_trans (closE_len l e) (pass_len t (closE l e))
def EdgesIn (s : Int) (es : List S97) : Prop := ∀ e, e ∈ es → (0 ≤ e.f0 ∧ e.f0 < s) ∧ (0 ≤ e.f1 ∧ e.f1 < s)
theorem pass_same {s : Int} (hs : s ≤ 80) (a b c : Int) {es : List S97} (hes : EdgesIn s es) (hn : es.length ≤ 1000000) (m : Int) : ∀ (rest pre : List S97) (h : List Bool) (l : List Int) (ch : Bool), es = pre ++ rest → SR s h l →
    ∃ h', SR s h' (pass l rest) ∧ (∀ r, Ev (fun k => impl_Nfa_spread.l1 k h' (ch || decide (l.length < (pass l rest).length)) es (es.length : Int) (es.length : Int) a b c es) r → Ev (fun k => impl_Nfa_spread.l1 k h ch es (es.length : Int) (pre.length : Int) a b c es) r) ∧
      (∀ r, Ev (fun k => spec_l6Closed.l1 k (pass l rest) m es (es.length : Int) (es.length : Int) a b c es) r → Ev (fun k => spec_l6Closed.l1 k l m es (es.length : Int) (pre.length : Int) a b c es) r) := by
  intro rest
  induction rest with
  | nil =>
    intro pre h l ch e hR
    have e' : pre.length = es.length := by rw [e]; simp
    refine ⟨h, hR, fun r hr => ?_, fun r hr => ?_⟩
    · have hd : (ch || decide (l.length < (pass l ([] : List S97)).length)) = ch := by
        have : ¬ l.length < (pass l ([] : List S97)).length := by show ¬ l.length < l.length; omega
        rw [decide_eq_false this, Bool.or_false]
      rw [hd] at hr
      rw [e']; exact hr
    · rw [e']; exact hr
  | cons x rest ih =>
    intro pre h l ch e hR
    have h1 : rd_T97 es (pre.length : Int) = x := by rw [e]; exact rdm_Edge _ _ _
    have hlt : (pre.length : Int) < (es.length : Int) := by rw [e]; exact lt_mid _ _ _
    have hw : wrap64 ((pre.length : Int) + 1) = ((pre ++ [x]).length : Int) := wrap_mid (rest := rest) (by rw [← e]; simp only [maxLen]; omega)
    have hx := hes x (by rw [e]; simp)
    have hle := hR.le
    have hlen := hR.len
    have hsub : pass l (x :: rest) = pass (closE l x) rest := rfl
    rw [hsub]
    by_cases c1 : x.f2 = true
    · by_cases c2 : x.f0 ∈ l
      · have hc : closE l x = putL l x.f1 := if_pos ⟨c1, c2⟩
        have hfrom : rdOf false h x.f0 = true := (hR.iff _ hx.1.1 hx.1.2).2 c2
        by_cases c3 : x.f1 ∈ l
        · have hcl : closE l x = l := by rw [hc, putL_mem hR.srt c3]
          have hto : rdOf false h x.f1 = true := (hR.iff _ hx.2.1 hx.2.2).2 c3
          rw [hcl]
          obtain ⟨h', g1, g2, g3⟩ := ih (pre ++ [x]) h l ch (by rw [e]; simp) hR
          refine ⟨h', g1, fun r hr => Ev.step (fun k => ?_) (g2 r hr), fun r hr => ?_⟩
          · rw [impl_Nfa_spread.l1, if_pos hlt, if_pos (len_nn _), if_pos hlt, h1, if_pos c1, if_pos hx.1.1, if_pos (by omega), if_pos hfrom, if_pos hx.2.1, if_pos (by omega), if_pos hto, hw]
          · obtain ⟨K, hK⟩ := g3 r hr
            refine ⟨K + l.length + 2, fun k hk => ?_⟩
            obtain ⟨k, rfl⟩ : ∃ m, k = m + 1 := ⟨k - 1, by omega⟩
            show spec_l6Closed.l1 (k + 1) l m es (es.length : Int) (pre.length : Int) a b c es = _
            rw [spec_l6Closed.l1, if_pos hlt, if_pos (len_nn _), if_pos hlt, h1, if_pos c1, spec_l1Has_is _ l (by omega) k (by omega), Option.bind_some, if_pos (decide_eq_true c2), spec_l1Put_is _ l (by omega) k (by omega), Option.bind_some, putL_mem hR.srt c3, hw]
            exact hK k (by omega)
        · have hto : ¬ rdOf false h x.f1 = true := fun h' => c3 ((hR.iff _ hx.2.1 hx.2.2).1 h')
          have hnew := putL_new c3
          rw [hc]
          obtain ⟨h', g1, g2, g3⟩ := ih (pre ++ [x]) (h.set x.f1.toNat true) (putL l x.f1) true (by rw [e]; simp) (hR.put hx.2.1 hx.2.2)
          have hp := pass_len rest (putL l x.f1)
          have hd : (ch || decide (l.length < (pass (putL l x.f1) rest).length)) = (true || decide ((putL l x.f1).length < (pass (putL l x.f1) rest).length)) := by
            rw [decide_eq_true (by omega), Bool.or_true, Bool.true_or]
          rw [hd]
          refine ⟨h', g1, fun r hr => Ev.step (fun k => ?_) (g2 r hr), fun r hr => ?_⟩
          · rw [impl_Nfa_spread.l1, if_pos hlt, if_pos (len_nn _), if_pos hlt, h1, if_pos c1, if_pos hx.1.1, if_pos (by omega), if_pos hfrom, if_pos hx.2.1, if_pos (by omega), if_neg hto, hw]
          · obtain ⟨K, hK⟩ := g3 r hr
            refine ⟨K + l.length + 2, fun k hk => ?_⟩
            obtain ⟨k, rfl⟩ : ∃ m, k = m + 1 := ⟨k - 1, by omega⟩
            show spec_l6Closed.l1 (k + 1) l m es (es.length : Int) (pre.length : Int) a b c es = _
            rw [spec_l6Closed.l1, if_pos hlt, if_pos (len_nn _), if_pos hlt, h1, if_pos c1, spec_l1Has_is _ l (by omega) k (by omega), Option.bind_some, if_pos (decide_eq_true c2), spec_l1Put_is _ l (by omega) k (by omega), Option.bind_some, hw]
            exact hK k (by omega)
      · have hc : closE l x = l := if_neg (fun h' => c2 h'.2)
        have hfrom : ¬ rdOf false h x.f0 = true := fun h' => c2 ((hR.iff _ hx.1.1 hx.1.2).1 h')
        rw [hc]
        obtain ⟨h', g1, g2, g3⟩ := ih (pre ++ [x]) h l ch (by rw [e]; simp) hR
        refine ⟨h', g1, fun r hr => Ev.step (fun k => ?_) (g2 r hr), fun r hr => ?_⟩
        · rw [impl_Nfa_spread.l1, if_pos hlt, if_pos (len_nn _), if_pos hlt, h1, if_pos c1, if_pos hx.1.1, if_pos (by omega), if_neg hfrom, hw]
        · obtain ⟨K, hK⟩ := g3 r hr
          refine ⟨K + l.length + 2, fun k hk => ?_⟩
          obtain ⟨k, rfl⟩ : ∃ m, k = m + 1 := ⟨k - 1, by omega⟩
          show spec_l6Closed.l1 (k + 1) l m es (es.length : Int) (pre.length : Int) a b c es = _
          rw [spec_l6Closed.l1, if_pos hlt, if_pos (len_nn _), if_pos hlt, h1, if_pos c1, spec_l1Has_is _ l (by omega) k (by omega), Option.bind_some, if_neg (by simpa using c2), hw]
          exact hK k (by omega)
    · have hc : closE l x = l := if_neg (fun h' => c1 h'.1)
      rw [hc]
      obtain ⟨h', g1, g2, g3⟩ := ih (pre ++ [x]) h l ch (by rw [e]; simp) hR
      refine ⟨h', g1, fun r hr => Ev.step (fun k => ?_) (g2 r hr), fun r hr => Ev.step (fun k => ?_) (g3 r hr)⟩
      · rw [impl_Nfa_spread.l1, if_pos hlt, if_pos (len_nn _), if_pos hlt, h1, if_neg c1, hw]
      · rw [spec_l6Closed.l1, if_pos hlt, if_pos (len_nn _), if_pos hlt, h1, if_neg c1, hw]
theorem spread_count (h : List Bool) (hh : h.length ≤ 1000000) : ∀ (rest pre : List Bool) (n : Int), h = pre ++ rest → 0 ≤ n → n + rest.length ≤ 10000000 → Ev (fun k => impl_Nfa_spread.l2 k h n h (h.length : Int) (pre.length : Int)) (n + (rest.filter id).length, h) := by
  intro rest
  induction rest with
  | nil =>
    intro pre n e _ _
    refine Ev.step (fun k => ?_) (Ev.now _)
    rw [impl_Nfa_spread.l2, if_neg (by rw [e]; simp)]
    simp
  | cons x rest ih =>
    intro pre n e h0 hn
    simp only [List.length_cons] at hn
    have h1 : rdOf false h (pre.length : Int) = x := by unfold rdOf; rw [e]; simp
    have hlt : (pre.length : Int) < (h.length : Int) := by rw [e]; exact lt_mid _ _ _
    have hw : wrap64 ((pre.length : Int) + 1) = ((pre ++ [x]).length : Int) := wrap_mid (rest := rest) (by rw [← e]; simp only [maxLen]; omega)
    cases x with
    | true =>
      refine Ev.step (fun k => ?_) (by
        have := ih (pre ++ [true]) (n + 1) (by rw [e]; simp) (by omega) (by omega)
        rwa [show n + 1 + ((rest.filter id).length : Int) = n + (((true :: rest).filter id).length : Int) by simp; omega] at this)
      rw [impl_Nfa_spread.l2, if_pos hlt, if_pos (len_nn _), if_pos hlt, h1, if_pos rfl, hw, wrap_id (by omega) (by omega)]
    | false =>
      refine Ev.step (fun k => ?_) (by
        have := ih (pre ++ [false]) n (by rw [e]; simp) (by omega) (by omega)
        rwa [show n + ((rest.filter id).length : Int) = n + (((false :: rest).filter id).length : Int) by simp] at this)
      rw [impl_Nfa_spread.l2, if_pos hlt, if_pos (len_nn _), if_pos hlt, h1, if_neg (by decide), hw]
theorem closed_same {s : Int} (hs : s ≤ 80) (a b c : Int) {es : List S97} (hes : EdgesIn s es) (hn : es.length ≤ 1000000) : ∀ (m : Nat) (h : List Bool) (l : List Int), SR s h l → (s - l.length : Int) ≤ m →
    ∃ h' l', SR s h' l' ∧ Ev (fun k => spec_l6Closed.l0 k l a b c es) l' ∧ Ev (fun k => impl_Nfa_spread.l0 k h true a b c es) ((l'.length : Int), h') := by
  intro m
  induction m with
  | zero =>
    intro h l hR hm
    obtain ⟨h', g1, g2, g3⟩ := pass_same hs a b c hes hn (l.length : Int) es [] h l false rfl hR
    have hp := pass_len es l
    have hle := g1.le
    have he : (pass l es).length = l.length := by omega
    have hd : (false || decide (l.length < (pass l es).length)) = false := by rw [decide_eq_false (by omega)]; rfl
    rw [hd] at g2
    have hl' := g1.len
    refine ⟨h', pass l es, g1, Ev.step (fun k => by rw [spec_l6Closed.l0]; rfl) (g3 _ (Ev.step (fun k => ?_) (Ev.now _))), Ev.step (fun k => by rw [impl_Nfa_spread.l0, if_pos rfl]; rfl) (g2 _ (Ev.step (f := fun k => impl_Nfa_spread.l0 k h' false a b c es) (fun k => ?_) (Ev.step (fun k => ?_) (by
      have := spread_count h' (by omega) h' [] 0 rfl (by omega) (by omega)
      rw [g1.cnt] at this
      simpa using this))))⟩
    · rw [spec_l6Closed.l1, if_neg (by omega), if_pos (by omega)]
    · rw [impl_Nfa_spread.l1, if_neg (by omega)]
    · rw [impl_Nfa_spread.l0, if_neg (by decide)]; first | done | rfl
  | succ m ih =>
    intro h l hR hm
    obtain ⟨h', g1, g2, g3⟩ := pass_same hs a b c hes hn (l.length : Int) es [] h l false rfl hR
    have hp := pass_len es l
    have hle := g1.le
    have hl' := g1.len
    by_cases he : (pass l es).length = l.length
    · have hd : (false || decide (l.length < (pass l es).length)) = false := by rw [decide_eq_false (by omega)]; rfl
      rw [hd] at g2
      refine ⟨h', pass l es, g1, Ev.step (fun k => by rw [spec_l6Closed.l0]; rfl) (g3 _ (Ev.step (fun k => ?_) (Ev.now _))), Ev.step (fun k => by rw [impl_Nfa_spread.l0, if_pos rfl]; rfl) (g2 _ (Ev.step (f := fun k => impl_Nfa_spread.l0 k h' false a b c es) (fun k => ?_) (Ev.step (fun k => ?_) (by
        have := spread_count h' (by omega) h' [] 0 rfl (by omega) (by omega)
        rw [g1.cnt] at this
        simpa using this))))⟩
      · rw [spec_l6Closed.l1, if_neg (by omega), if_pos (by omega)]
      · rw [impl_Nfa_spread.l1, if_neg (by omega)]
      · rw [impl_Nfa_spread.l0, if_neg (by decide)]; first | done | rfl
    · have hd : (false || decide (l.length < (pass l es).length)) = true := by rw [decide_eq_true (by omega)]; rfl
      rw [hd] at g2
      obtain ⟨h2, l2, k1, k2, k3⟩ := ih h' (pass l es) g1 (by omega)
      refine ⟨h2, l2, k1, Ev.step (fun k => by rw [spec_l6Closed.l0]; rfl) (g3 _ (Ev.step (fun k => ?_) k2)), Ev.step (fun k => by rw [impl_Nfa_spread.l0, if_pos rfl]; rfl) (g2 _ (Ev.step (fun k => ?_) k3))⟩
      · rw [spec_l6Closed.l1, if_neg (by omega), if_neg (by omega)]
      · rw [impl_Nfa_spread.l1, if_neg (by omega)]
theorem SR.none {s : Int} (h0 : 0 ≤ s) : SR s (List.replicate s.toNat false) [] := by
  refine ⟨by simp; omega, List.Pairwise.nil, fun x hx => by simp at hx, fun j j0 j1 => ?_⟩
  unfold rdOf
  rw [List.getD_eq_getElem?_getD, List.getElem?_replicate]
  by_cases h : j.toNat < s.toNat
  · rw [if_pos h]; simp
  · rw [if_neg h]; simp
theorem step_same {s : Int} (hs : s ≤ 80) (a b : Int) {es : List S97} (hes : EdgesIn s es) (hn : es.length ≤ 1000000) (path : List Int) (pl pi x most : Int) {h : List Bool} {l : List Int} (hR : SR s h l) : ∀ (rest pre : List S97) (g : List Bool) (q : List Int), es = pre ++ rest → SR s g q →
    ∃ g' q', SR s g' q' ∧ (∀ r, Ev (fun k => impl_RunNfa.l1 k h most x g' path pl pi es (es.length : Int) (es.length : Int) s a b es) r → Ev (fun k => impl_RunNfa.l1 k h most x g path pl pi es (es.length : Int) (pre.length : Int) s a b es) r) ∧
      (∀ r, Ev (fun k => spec_RunNfa.l1 k l most x q' path pl pi es (es.length : Int) (es.length : Int) s a b es) r → Ev (fun k => spec_RunNfa.l1 k l most x q path pl pi es (es.length : Int) (pre.length : Int) s a b es) r) := by
  intro rest
  induction rest with
  | nil =>
    intro pre g q e hQ
    have e' : pre.length = es.length := by rw [e]; simp
    exact ⟨g, q, hQ, fun r hr => by rw [e']; exact hr, fun r hr => by rw [e']; exact hr⟩
  | cons y rest ih =>
    intro pre g q e hQ
    have h1 : rd_T97 es (pre.length : Int) = y := by rw [e]; exact rdm_Edge _ _ _
    have hlt : (pre.length : Int) < (es.length : Int) := by rw [e]; exact lt_mid _ _ _
    have hw : wrap64 ((pre.length : Int) + 1) = ((pre ++ [y]).length : Int) := wrap_mid (rest := rest) (by rw [← e]; simp only [maxLen]; omega)
    have hy := hes y (by rw [e]; simp)
    have hle := hR.le
    have hlen := hR.len
    have hql := hQ.len
    have hqe := hQ.le
    -- nothing is put
    have stay : (∀ k, impl_RunNfa.l1 (k + 1) h most x g path pl pi es (es.length : Int) (pre.length : Int) s a b es = impl_RunNfa.l1 k h most x g path pl pi es (es.length : Int) ((pre ++ [y]).length : Int) s a b es) → (∃ K0, ∀ k, K0 ≤ k → spec_RunNfa.l1 (k + 1) l most x q path pl pi es (es.length : Int) (pre.length : Int) s a b es = spec_RunNfa.l1 k l most x q path pl pi es (es.length : Int) ((pre ++ [y]).length : Int) s a b es) →
        ∃ g' q', SR s g' q' ∧ (∀ r, Ev (fun k => impl_RunNfa.l1 k h most x g' path pl pi es (es.length : Int) (es.length : Int) s a b es) r → Ev (fun k => impl_RunNfa.l1 k h most x g path pl pi es (es.length : Int) (pre.length : Int) s a b es) r) ∧
          (∀ r, Ev (fun k => spec_RunNfa.l1 k l most x q' path pl pi es (es.length : Int) (es.length : Int) s a b es) r → Ev (fun k => spec_RunNfa.l1 k l most x q path pl pi es (es.length : Int) (pre.length : Int) s a b es) r) := by
      intro hi ⟨K0, hK0⟩
      obtain ⟨g', q', k1, k2, k3⟩ := ih (pre ++ [y]) g q (by rw [e]; simp) hQ
      refine ⟨g', q', k1, fun r hr => Ev.step hi (k2 r hr), fun r hr => ?_⟩
      obtain ⟨K, hK⟩ := k3 r hr
      refine ⟨K + K0 + 1, fun k hk => ?_⟩
      obtain ⟨k, rfl⟩ : ∃ m, k = m + 1 := ⟨k - 1, by omega⟩
      exact (hK0 k (by omega)).trans (hK k (by omega))
    have move : (∀ k, impl_RunNfa.l1 (k + 1) h most x g path pl pi es (es.length : Int) (pre.length : Int) s a b es = impl_RunNfa.l1 k h most x (g.set y.f1.toNat true) path pl pi es (es.length : Int) ((pre ++ [y]).length : Int) s a b es) → (∃ K0, ∀ k, K0 ≤ k → spec_RunNfa.l1 (k + 1) l most x q path pl pi es (es.length : Int) (pre.length : Int) s a b es = spec_RunNfa.l1 k l most x (putL q y.f1) path pl pi es (es.length : Int) ((pre ++ [y]).length : Int) s a b es) →
        ∃ g' q', SR s g' q' ∧ (∀ r, Ev (fun k => impl_RunNfa.l1 k h most x g' path pl pi es (es.length : Int) (es.length : Int) s a b es) r → Ev (fun k => impl_RunNfa.l1 k h most x g path pl pi es (es.length : Int) (pre.length : Int) s a b es) r) ∧
          (∀ r, Ev (fun k => spec_RunNfa.l1 k l most x q' path pl pi es (es.length : Int) (es.length : Int) s a b es) r → Ev (fun k => spec_RunNfa.l1 k l most x q path pl pi es (es.length : Int) (pre.length : Int) s a b es) r) := by
      intro hi ⟨K0, hK0⟩
      obtain ⟨g', q', k1, k2, k3⟩ := ih (pre ++ [y]) (g.set y.f1.toNat true) (putL q y.f1) (by rw [e]; simp) (hQ.put hy.2.1 hy.2.2)
      refine ⟨g', q', k1, fun r hr => Ev.step hi (k2 r hr), fun r hr => ?_⟩
      obtain ⟨K, hK⟩ := k3 r hr
      refine ⟨K + K0 + 1, fun k hk => ?_⟩
      obtain ⟨k, rfl⟩ : ∃ m, k = m + 1 := ⟨k - 1, by omega⟩
      exact (hK0 k (by omega)).trans (hK k (by omega))
    by_cases c1 : y.f2 = true
    · refine stay (fun k => ?_) ⟨0, fun k _ => ?_⟩
      · rw [impl_RunNfa.l1, if_pos hlt, if_pos (len_nn _), if_pos hlt, h1, if_pos hy.1.1, if_pos (by omega), hw]
        by_cases c2 : rdOf false h y.f0 = true
        · rw [if_pos c2, if_pos c1]
        · rw [if_neg c2]
      · rw [spec_RunNfa.l1, if_pos hlt, if_pos (len_nn _), if_pos hlt, h1, if_pos c1, hw]
    · by_cases c2 : y.f0 ∈ l
      · have hf : rdOf false h y.f0 = true := (hR.iff _ hy.1.1 hy.1.2).2 c2
        by_cases c3 : y.f3 = true
        · refine move (fun k => ?_) ⟨l.length + q.length + 2, fun k hk => ?_⟩
          · rw [impl_RunNfa.l1, if_pos hlt, if_pos (len_nn _), if_pos hlt, h1, if_pos hy.1.1, if_pos (by omega), if_pos hf, if_neg c1, if_pos c3, if_pos hy.2.1, if_pos (by omega), hw]
          · rw [spec_RunNfa.l1, if_pos hlt, if_pos (len_nn _), if_pos hlt, h1, if_neg c1, spec_l1Has_is _ l (by omega) k (by omega), Option.bind_some, if_pos (decide_eq_true c2), if_pos c3, spec_l1Put_is _ q (by omega) k (by omega), Option.bind_some, hw]
        · by_cases c4 : y.f4 = x
          · refine move (fun k => ?_) ⟨l.length + q.length + 2, fun k hk => ?_⟩
            · rw [impl_RunNfa.l1, if_pos hlt, if_pos (len_nn _), if_pos hlt, h1, if_pos hy.1.1, if_pos (by omega), if_pos hf, if_neg c1, if_neg c3, if_pos c4, if_pos hy.2.1, if_pos (by omega), hw]
            · rw [spec_RunNfa.l1, if_pos hlt, if_pos (len_nn _), if_pos hlt, h1, if_neg c1, spec_l1Has_is _ l (by omega) k (by omega), Option.bind_some, if_pos (decide_eq_true c2), if_neg c3, if_pos c4, spec_l1Put_is _ q (by omega) k (by omega), Option.bind_some, hw]
          · refine stay (fun k => ?_) ⟨l.length + q.length + 2, fun k hk => ?_⟩
            · rw [impl_RunNfa.l1, if_pos hlt, if_pos (len_nn _), if_pos hlt, h1, if_pos hy.1.1, if_pos (by omega), if_pos hf, if_neg c1, if_neg c3, if_neg c4, hw]
            · rw [spec_RunNfa.l1, if_pos hlt, if_pos (len_nn _), if_pos hlt, h1, if_neg c1, spec_l1Has_is _ l (by omega) k (by omega), Option.bind_some, if_pos (decide_eq_true c2), if_neg c3, if_neg c4, hw]
      · have hf : ¬ rdOf false h y.f0 = true := fun h' => c2 ((hR.iff _ hy.1.1 hy.1.2).1 h')
        refine stay (fun k => ?_) ⟨l.length + q.length + 2, fun k hk => ?_⟩
        · rw [impl_RunNfa.l1, if_pos hlt, if_pos (len_nn _), if_pos hlt, h1, if_pos hy.1.1, if_pos (by omega), if_neg hf, hw]
        · rw [spec_RunNfa.l1, if_pos hlt, if_pos (len_nn _), if_pos hlt, h1, if_neg c1, spec_l1Has_is _ l (by omega) k (by omega), Option.bind_some, if_neg (by simpa using c2), hw]
theorem walk_same {s : Int} (h1s : 1 ≤ s) (hs : s ≤ 80) (a b : Int) (hb0 : 0 ≤ b) (hb1 : b < s) {es : List S97} (hes : EdgesIn s es) (hn : es.length ≤ 1000000) (path : List Int) (hp : path.length ≤ 1000000) : ∀ (rest pre : List Int) (h : List Bool) (l : List Int) (most : Int), path = pre ++ rest → SR s h l →
    ∃ r, Ev (fun k => spec_RunNfa.l0 k l most path (path.length : Int) (pre.length : Int) s a b es) r ∧ Ev (fun k => impl_RunNfa.l0 k h most path (path.length : Int) (pre.length : Int) s a b es) r := by
  intro rest
  induction rest with
  | nil =>
    intro pre h l most e hR
    have hle := hR.le
    have hlen := hR.len
    refine ⟨(decide (b ∈ l), most, true), ⟨l.length + 3, fun k hk => ?_⟩, Ev.step (fun k => ?_) (Ev.now _)⟩
    · obtain ⟨k, rfl⟩ : ∃ m, k = m + 1 := ⟨k - 1, by omega⟩
      show spec_RunNfa.l0 (k + 1) l most path (path.length : Int) (pre.length : Int) s a b es = _
      rw [spec_RunNfa.l0, if_neg (by rw [e]; simp), spec_l1Has_is _ l (by omega) k (by omega)]
      rfl
    · rw [impl_RunNfa.l0, if_neg (by rw [e]; simp), if_pos hb0, if_pos (by omega)]
      have : rdOf false h b = decide (b ∈ l) := by
        have := hR.iff b hb0 hb1
        by_cases c : b ∈ l
        · rw [this.2 c, decide_eq_true c]
        · rw [decide_eq_false c]
          cases hq : rdOf false h b
          · rfl
          · exact absurd (this.1 hq) c
      rw [this]
  | cons x rest ih =>
    intro pre h l most e hR
    have h1 : rd path (pre.length : Int) = x := by rw [e]; exact rd_mid _ _ _
    have hlt : (pre.length : Int) < (path.length : Int) := by rw [e]; exact lt_mid _ _ _
    have hw : wrap64 ((pre.length : Int) + 1) = ((pre ++ [x]).length : Int) := wrap_mid (rest := rest) (by rw [← e]; simp only [maxLen]; omega)
    obtain ⟨g', q', k1, k2, k3⟩ := step_same hs a b hes hn path (path.length : Int) (pre.length : Int) x most hR es [] _ [] rfl (SR.none (by omega))
    obtain ⟨h2, l2, m1, ⟨K2, m2⟩, ⟨K3, m3⟩⟩ := closed_same hs s a b hes hn 80 g' q' k1 (by omega)
    replace m2 : ∀ k, K2 ≤ k → spec_l6Closed.l0 k q' s a b es = _ := m2
    replace m3 : ∀ k, K3 ≤ k → impl_Nfa_spread.l0 k g' true s a b es = _ := m3
    obtain ⟨r, ⟨K4, r1⟩, ⟨K5, r2⟩⟩ := ih (pre ++ [x]) h2 l2 (if (l2.length : Int) > most then (l2.length : Int) else most) (by rw [e]; simp) m1
    replace r1 : ∀ k, K4 ≤ k → spec_RunNfa.l0 k l2 _ path (path.length : Int) ((pre ++ [x]).length : Int) s a b es = _ := r1
    replace r2 : ∀ k, K5 ≤ k → impl_RunNfa.l0 k h2 _ path (path.length : Int) ((pre ++ [x]).length : Int) s a b es = _ := r2
    have hle := hR.le
    have hlen := hR.len
    refine ⟨r, Ev.step (f := fun k => spec_RunNfa.l1 k l most x [] path (path.length : Int) (pre.length : Int) es (es.length : Int) ((([] : List S97).length : Nat) : Int) s a b es) (fun k => ?_) (k3 r ⟨K2 + K4 + 1, fun k hk => ?_⟩), Ev.step (f := fun k => impl_RunNfa.l1 k h most x (List.replicate s.toNat false) path (path.length : Int) (pre.length : Int) es (es.length : Int) ((([] : List S97).length : Nat) : Int) s a b es) (fun k => ?_) (k2 r ⟨K3 + K5 + 1, fun k hk => ?_⟩)⟩
    · rw [spec_RunNfa.l0, if_pos hlt, if_pos (len_nn _), if_pos hlt, h1]; rfl
    · obtain ⟨k, rfl⟩ : ∃ m, k = m + 1 := ⟨k - 1, by omega⟩
      show spec_RunNfa.l1 (k + 1) l most x q' path (path.length : Int) (pre.length : Int) es (es.length : Int) (es.length : Int) s a b es = _
      rw [spec_RunNfa.l1, if_neg (by omega)]
      unfold spec_l6Closed.f
      rw [m2 _ (by omega), Option.bind_some, hw]
      have := r1 k (by omega)
      by_cases c : (l2.length : Int) > most
      · rw [if_pos c]; rw [if_pos c] at this; exact this
      · rw [if_neg c]; rw [if_neg c] at this; exact this
    · rw [impl_RunNfa.l0, if_pos hlt, if_pos (len_nn _), if_pos hlt, if_pos (by omega), if_pos (by omega), h1]; rfl
    · obtain ⟨k, rfl⟩ : ∃ m, k = m + 1 := ⟨k - 1, by omega⟩
      show impl_RunNfa.l1 (k + 1) h most x g' path (path.length : Int) (pre.length : Int) es (es.length : Int) (es.length : Int) s a b es = _
      rw [impl_RunNfa.l1, if_neg (by omega)]
      unfold impl_Nfa_spread.f
      rw [m3 _ (by omega), Option.bind_some, hw]
      have := r2 k (by omega)
      have hm : mx most (l2.length : Int) = if (l2.length : Int) > most then (l2.length : Int) else most := by
        unfold mx
        by_cases c : (l2.length : Int) > most
        · rw [if_pos c]; first | done | (split <;> omega)
        · rw [if_neg c]; first | done | (split <;> omega)
      rw [hm]
      exact this
theorem spec_l6Path_is (l : List Int) (hl : l.length ≤ 1048576) (k : Nat) (hk : l.length < k) : spec_l6Path.f k l = some (decide (l.length ≤ 10) && pathOk l) := by
  have key : ∀ (rest pre : List Int) (k : Nat), l = pre ++ rest → rest.length < k → spec_l6Path.l0 k l l (l.length : Int) (pre.length : Int) = some (decide (l.length ≤ 10) && pathOk rest) := by
    intro rest
    induction rest with
    | nil =>
      intro pre k e hk
      obtain ⟨k, rfl⟩ : ∃ m, k = m + 1 := ⟨k - 1, by omega⟩
      rw [spec_l6Path.l0, if_neg (by rw [e]; simp)]
      have : decide ((l.length : Int) ≤ 10) = decide (l.length ≤ 10) := decide_eq_decide.mpr (by omega)
      rw [this]
      simp [pathOk]
    | cons a rest ih =>
      intro pre k e hk
      obtain ⟨k, rfl⟩ : ∃ m, k = m + 1 := ⟨k - 1, by omega⟩
      have h1 : rd l (pre.length : Int) = a := by rw [e]; exact rd_mid _ _ _
      rw [spec_l6Path.l0, if_pos (by rw [e]; exact lt_mid _ _ _), if_pos (len_nn _), if_pos (by rw [e]; exact lt_mid _ _ _), h1, spec_l1In_is, Option.bind_some, wrap_mid (rest := rest) (by rw [← e]; simp only [maxLen]; omega), ih (pre ++ [a]) k (by rw [e]; simp) (by simp at hk; omega)]
      by_cases c : 1 ≤ a ∧ a ≤ 65535
      · rw [if_pos (decide_eq_true c)]; simp [pathOk, c]
      · rw [if_neg (by simpa using c)]
        have : decide (1 ≤ a ∧ a ≤ 65535) = false := decide_eq_false c
        simp only [pathOk, List.all_cons, this, Bool.false_and, Bool.and_false]
  exact key l [] k rfl hk
theorem nfaOk_facts {s a b : Int} {l : List S97} (h : nfaOk s a b l = true) : (1 ≤ s ∧ s ≤ 80) ∧ (0 ≤ a ∧ a < s) ∧ (0 ≤ b ∧ b < s) ∧ EdgesIn s l := by
  unfold nfaOk at h
  simp only [Bool.and_eq_true, decide_eq_true_eq, List.all_eq_true] at h
  obtain ⟨h1, h2, h3, h4, h5⟩ := h
  refine ⟨h1, h2, h3, fun e he => ?_⟩
  have := h5 e he
  unfold edgeOk at this
  simp only [Bool.and_eq_true, decide_eq_true_eq] at this
  exact ⟨this.1, this.2.1⟩
theorem RunNfa_same (s a b : Int) (es : List S97) (path : List Int) (hn : es.length ≤ 1048576) (hp : path.length ≤ 1048576) : ∃ r, Ev (fun k => spec_RunNfa.f k s a b es path) r ∧ Ev (fun k => impl_RunNfa.f k s a b es path) r := by
  obtain ⟨K0, hP⟩ := impl_isPath_is path (by simp only [maxLen]; omega)
  replace hP : ∀ k, K0 ≤ k → impl_isPath.f k path = _ := hP
  by_cases hN : nfaOk s a b es = true
  · by_cases hQ : (decide (path.length ≤ 10) && pathOk path) = true
    · obtain ⟨h1, h2, h3, hes⟩ := nfaOk_facts hN
      have hn2 : es.length ≤ 200 := by
        unfold nfaOk at hN
        simp only [Bool.and_eq_true, decide_eq_true_eq] at hN
        exact hN.2.2.2.1
      have hp2 : path.length ≤ 10 := by
        simp only [Bool.and_eq_true, decide_eq_true_eq] at hQ
        exact hQ.1
      have hR0 := (SR.none (s := s) (by omega)).put h2.1 h2.2
      obtain ⟨g, l, g1, ⟨K1, g2⟩, ⟨K2, g3⟩⟩ := closed_same h1.2 s a b hes (by omega) 80 _ _ hR0 (by omega)
      replace g2 : ∀ k, K1 ≤ k → spec_l6Closed.l0 k _ s a b es = _ := g2
      replace g3 : ∀ k, K2 ≤ k → impl_Nfa_spread.l0 k _ true s a b es = _ := g3
      obtain ⟨r, ⟨K3, r1⟩, ⟨K4, r2⟩⟩ := walk_same h1.1 h1.2 a b h3.1 h3.2 hes (by omega) path (by omega) path [] g l (l.length : Int) rfl g1
      replace r1 : ∀ k, K3 ≤ k → spec_RunNfa.l0 k l (l.length : Int) path (path.length : Int) 0 s a b es = _ := r1
      replace r2 : ∀ k, K4 ≤ k → impl_RunNfa.l0 k g (l.length : Int) path (path.length : Int) 0 s a b es = _ := r2
      refine ⟨r, ⟨K1 + K3 + 2 * es.length + path.length + 10, fun k hk => ?_⟩, ⟨K0 + K2 + K4 + 2 * es.length + path.length + 10, fun k hk => ?_⟩⟩
      · obtain ⟨k, rfl⟩ : ∃ m, k = m + 1 := ⟨k - 1, by omega⟩
        show spec_RunNfa.f (k + 1) s a b es path = _
        unfold spec_RunNfa.f
        rw [spec_GoodNfa_is _ _ _ _ hn _ (by omega), Option.bind_some, if_pos hN, spec_l6Path_is _ hp _ (by omega), Option.bind_some, hQ, spec_RunNfa.j0, if_neg (by decide)]
        unfold spec_l6Closed.f
        have e1 : putL [] a = [a] := rfl
        rw [e1] at g2
        rw [g2 _ (by omega), Option.bind_some, r1 _ (by omega)]
      · obtain ⟨k, rfl⟩ : ∃ m, k = m + 1 := ⟨k - 1, by omega⟩
        show impl_RunNfa.f (k + 1) s a b es path = _
        unfold impl_RunNfa.f
        rw [impl_GoodNfa_is _ _ _ _ hn _ (by omega), Option.bind_some, if_pos hN, hP _ (by omega), Option.bind_some, hQ, impl_RunNfa.j0, if_neg (by decide), if_pos (by omega), if_pos (by omega), Option.bind_some, if_pos h2.1, if_pos (by simp; omega)]
        unfold impl_Nfa_spread.f
        rw [g3 _ (by omega), Option.bind_some, r2 _ (by omega)]
    · have hQ' : (decide (path.length ≤ 10) && pathOk path) = false := by simpa using hQ
      refine ⟨(false, 0, false), ⟨2 * es.length + path.length + 10, fun k hk => ?_⟩, ⟨K0 + 2 * es.length + path.length + 10, fun k hk => ?_⟩⟩
      · obtain ⟨k, rfl⟩ : ∃ m, k = m + 1 := ⟨k - 1, by omega⟩
        show spec_RunNfa.f (k + 1) s a b es path = _
        unfold spec_RunNfa.f
        rw [spec_GoodNfa_is _ _ _ _ hn _ (by omega), Option.bind_some, if_pos hN, spec_l6Path_is _ hp _ (by omega), Option.bind_some, hQ', spec_RunNfa.j0, if_pos (by rfl)]
      · obtain ⟨k, rfl⟩ : ∃ m, k = m + 1 := ⟨k - 1, by omega⟩
        show impl_RunNfa.f (k + 1) s a b es path = _
        unfold impl_RunNfa.f
        rw [impl_GoodNfa_is _ _ _ _ hn _ (by omega), Option.bind_some, if_pos hN, hP _ (by omega), Option.bind_some, hQ', impl_RunNfa.j0, if_pos (by rfl)]
  · refine ⟨(false, 0, false), ⟨2 * es.length + path.length + 10, fun k hk => ?_⟩, ⟨K0 + 2 * es.length + path.length + 10, fun k hk => ?_⟩⟩
    · obtain ⟨k, rfl⟩ : ∃ m, k = m + 1 := ⟨k - 1, by omega⟩
      show spec_RunNfa.f (k + 1) s a b es path = _
      unfold spec_RunNfa.f
      rw [spec_GoodNfa_is _ _ _ _ hn _ (by omega), Option.bind_some, if_neg hN, spec_RunNfa.j0, if_pos rfl]
    · obtain ⟨k, rfl⟩ : ∃ m, k = m + 1 := ⟨k - 1, by omega⟩
      show impl_RunNfa.f (k + 1) s a b es path = _
      unfold impl_RunNfa.f
      rw [impl_GoodNfa_is _ _ _ _ hn _ (by omega), Option.bind_some, if_neg hN, impl_RunNfa.j0, if_pos rfl]

end FnExactRunNfaUses
open Go.RowKit Go.Proofs.Ytkkchcalhomgcaa.PFnExactRunNfa Go.Proofs.YtkkchcalhomgcaaW.PrintWords Go.Proofs.YtkkchcalhomgcaaW.PrintLast Go.Proofs.YtkkchcalhomgcaaW.PrintMore Go.Proofs.Ytkkchcalhomgcaa.Pfx Go.Proofs.Ytkkchcalhomgcaa.Loop Go.Proofs.Ytkkchcalhomgcaa.Tbl FnExactRunNfaUses
set_option linter.unusedVariables false
theorem FnExactRunNfa (a0_0 : Int) (a0_1 : Int) (a0_2 : Int) (l0_3 : List S136) (l1 : List Int) (w0_0 : (Lit.int .i64 a0_0).wf = true) (w0_1 : (Lit.int .i64 a0_1).wf = true) (w0_2 : (Lit.int .i64 a0_2).wf = true) (m0_3 : l0_3.length ≤ maxLen) (w0_3 : ∀ a, a ∈ l0_3 → ((Lit.int .i64 a.f0).wf = true ∧ ((Lit.int .i64 a.f1).wf = true ∧ (True ∧ (True ∧ (Lit.int .i64 a.f4).wf = true))))) (m1 : l1.length ≤ maxLen) (w1 : ∀ a, a ∈ l1 → (Lit.int .i64 a).wf = true) : ∃ k, laws_FnExactRunNfa.f k a0_0 a0_1 a0_2 l0_3 l1 = some true := by
  by_cases hlp : (l1.length : Int) > 1048576
  · exact ⟨0, by unfold laws_FnExactRunNfa.f; rw [if_pos hlp]⟩
  obtain ⟨r, hr, hb⟩ := laws_szNfa_is a0_0 a0_1 a0_2 l0_3 m0_3
  by_cases h : r < 0
  · exact ⟨0, by unfold laws_FnExactRunNfa.f; rw [if_neg hlp, hr, Option.bind_some, if_pos h]⟩
  · have hl := hb h
    have el : (l0_3.map fun p => (⟨p.f0, p.f1, p.f2, p.f3, p.f4⟩ : S97)).length = l0_3.length := List.length_map ..
    obtain ⟨q, ⟨K1, h1⟩, ⟨K2, h2⟩⟩ := RunNfa_same a0_0 a0_1 a0_2 (l0_3.map fun p => (⟨p.f0, p.f1, p.f2, p.f3, p.f4⟩ : S97)) l1 (by omega) (by omega)
    replace h1 : ∀ k, K1 ≤ k → spec_RunNfa.f k _ _ _ _ _ = _ := h1
    replace h2 : ∀ k, K2 ≤ k → impl_RunNfa.f k _ _ _ _ _ = _ := h2
    obtain ⟨K, hK⟩ : ∃ K : Nat, K1 + K2 + l0_3.length + l1.length + 5 ≤ K := ⟨_, Nat.le_refl _⟩
    refine ⟨K + 1, ?_⟩
    unfold laws_FnExactRunNfa.f
    rw [if_neg hlp, hr, Option.bind_some, if_neg h, laws_toNfa_is _ _ _ _ _ hl (by omega), laws_toIntS_is _ l1 (by omega) (by omega)]
    simp only [Option.bind_some]
    rw [h1 _ (by omega), h2 _ (by omega)]
    simp only [Option.bind_some, bne_self_eq_false, Bool.false_eq_true, if_false, if_true]
    rw [laws_FnExactRunNfa.j0, if_neg (by simp), laws_toNfa_is _ _ _ _ _ hl (by omega), laws_toIntS_is _ l1 (by omega) (by omega)]
    simp only [Option.bind_some]
    rw [laws_eqNfa_refl _ _ _ _ _ (by simp only [maxLen]; omega) (by omega), laws_eqIntS_refl _ _ (by simp only [maxLen]; omega) (by omega)]
    simp
end Go.Proofs.Ytkkchcalhomgcaa.Pure
