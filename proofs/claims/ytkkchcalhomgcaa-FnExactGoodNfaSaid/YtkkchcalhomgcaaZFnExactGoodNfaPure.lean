/- The pure statement of FnExactGoodNfa: what the printed functions tell is what the reference tells. No condition but the arguments' own bounds. -/
import Derived.Test.YtkkchcalhomgcaaYFnExactGoodNfax4
import Derived.Test.YtkkchcalhomgcaaQFnExactGoodNfa
namespace Go.Proofs.Ytkkchcalhomgcaa.Pure
namespace FnExactGoodNfaUses
open Go.RowKit Go.Proofs.Ytkkchcalhomgcaa.PFnExactGoodNfa Go.Proofs.YtkkchcalhomgcaaW.PrintWords Go.Proofs.YtkkchcalhomgcaaW.PrintLast Go.Proofs.YtkkchcalhomgcaaW.PrintMore Go.Proofs.Ytkkchcalhomgcaa.Pfx Go.Proofs.Ytkkchcalhomgcaa.Loop Go.Proofs.Ytkkchcalhomgcaa.Tbl
set_option linter.unusedVariables false
set_option linter.unusedSimpArgs false

theorem spec_l1In_is (a lo hi : Int) : spec_l1In.f a lo hi = some (decide (lo ≤ a ∧ a ≤ hi)) := by
  unfold spec_l1In.f
  by_cases h : lo ≤ a
  · rw [if_pos h]; simp [h]
  · rw [if_neg h]; simp [h]
theorem impl_within_is (a lo hi : Int) : impl_within.f a lo hi = some (decide (lo ≤ a ∧ a ≤ hi)) := by
  unfold impl_within.f
  by_cases h : lo ≤ a
  · rw [if_pos h]; simp [h]
  · rw [if_neg h]; simp [h]
theorem rdm_Edge (pre : List S97) (a : S97) (rest : List S97) : rd_T97 (pre ++ a :: rest) (pre.length : Int) = a := by unfold rd_T97; simp
def edgeOk (s : Int) (e : S97) : Bool := decide (0 ≤ e.f0 ∧ e.f0 < s) && (decide (0 ≤ e.f1 ∧ e.f1 < s) && (if (e.f2 || e.f3) = true then ((e.f2 != e.f3) && (e.f4 == 0)) else decide (1 ≤ e.f4 ∧ e.f4 ≤ 65535)))
def nfaOk (s a b : Int) (l : List S97) : Bool := decide (1 ≤ s ∧ s ≤ 80) && (decide (0 ≤ a ∧ a < s) && (decide (0 ≤ b ∧ b < s) && (decide (l.length ≤ 200) && l.all (edgeOk s))))
theorem impl_GoodNfa_1_is (k s : Int) (h0 : 1 ≤ s) (h1 : s ≤ 80) : impl_GoodNfa_1.f k s = some (decide (0 ≤ k ∧ k < s)) := by
  unfold impl_GoodNfa_1.f
  rw [impl_within_is, wrap_id (by omega) (by omega)]
  exact congrArg some (decide_eq_decide.mpr (by omega))
theorem impl_GoodNfa_2_is (e : S97) (s : Int) (h0 : 1 ≤ s) (h1 : s ≤ 80) : impl_GoodNfa_2.f e.f0 e.f1 e.f2 e.f3 e.f4 s = some (!edgeOk s e) := by
  unfold impl_GoodNfa_2.f edgeOk nfaRight
  have ha : impl_isAsn.f e.f4 = some (decide (1 ≤ e.f4 ∧ e.f4 ≤ 65535)) := by unfold impl_isAsn.f; rw [impl_within_is]; rfl
  rw [ha, impl_GoodNfa_1_is _ _ h0 h1, impl_GoodNfa_1_is _ _ h0 h1]
  simp only [Option.bind_some]
  generalize decide (0 ≤ e.f0 ∧ e.f0 < s) = x1
  generalize decide (0 ≤ e.f1 ∧ e.f1 < s) = x2
  cases x1 <;> cases x2 <;> simp
theorem impl_GoodNfa_is (s a b : Int) (l : List S97) (hl : l.length ≤ 1048576) (k : Nat) (hk : l.length < k) : impl_GoodNfa.f k s a b l = some (nfaOk s a b l) := by
  unfold impl_GoodNfa.f nfaOk
  rw [impl_within_is, Option.bind_some]
  have el : ((l.length : Int) > 200) ↔ ¬ l.length ≤ 200 := by omega
  by_cases hs : 1 ≤ s ∧ s ≤ 80
  · rw [if_pos (decide_eq_true hs), decide_eq_true hs, Bool.true_and]
    have hct : impl_GoodNfa_ct.f k l s = some (l.any fun e => !edgeOk s e) := by
      unfold impl_GoodNfa_ct.f impl_GoodNfa_ix.f
      exact any_gen (fun k i => impl_GoodNfa_ix.l0 s k l (l.length : Int) i) l (fun e => !edgeOk s e) (fun k => by
        show impl_GoodNfa_ix.l0 s (k + 1) l (l.length : Int) (l.length : Int) = _
        rw [impl_GoodNfa_ix.l0, if_neg (not_lt_end l)]) (fun k pre x rest e => by
        show impl_GoodNfa_ix.l0 s (k + 1) l (l.length : Int) (pre.length : Int) = _
        have h1 : rd_T97 l (pre.length : Int) = x := by rw [e]; exact rdm_Edge _ _ _
        rw [impl_GoodNfa_ix.l0, if_pos (by rw [e]; exact lt_mid _ _ _), if_pos (len_nn _), if_pos (by rw [e]; exact lt_mid _ _ _), h1, impl_GoodNfa_2_is x s hs.1 hs.2, Option.bind_some, wrap_mid (rest := rest) (by rw [← e]; simp only [maxLen]; omega)]) k hk
    rw [impl_GoodNfa_1_is _ _ hs.1 hs.2, impl_GoodNfa_1_is _ _ hs.1 hs.2, hct]
    simp only [Option.bind_some]
    rw [List.not_any_eq_all_not]
    simp only [Bool.not_not]
    by_cases h2 : l.length ≤ 200
    · rw [if_neg (fun h => el.1 h h2), decide_eq_true h2, Bool.true_and]
      generalize decide (0 ≤ a ∧ a < s) = x1
      generalize decide (0 ≤ b ∧ b < s) = x2
      cases x1 <;> cases x2 <;> rfl
    · rw [if_pos (el.2 h2), decide_eq_false h2]
      simp
  · rw [if_neg (by simpa using hs), decide_eq_false hs, Bool.false_and]
theorem spec_GoodNfa_is (s a b : Int) (l : List S97) (hl : l.length ≤ 1048576) (k : Nat) (hk : 2 * l.length + 4 < k) : spec_GoodNfa.f k s a b l = some (nfaOk s a b l) := by
  obtain ⟨k, rfl⟩ : ∃ m, k = m + 1 := ⟨k - 1, by omega⟩
  have bad : spec_GoodNfa.j0 (k + 1) true s a b l = some false := by rw [spec_GoodNfa.j0, if_pos rfl]
  unfold spec_GoodNfa.f nfaOk
  rw [spec_l1In_is, Option.bind_some]
  by_cases hs : 1 ≤ s ∧ s ≤ 80
  · rw [if_pos (decide_eq_true hs), decide_eq_true hs, Bool.true_and]
    by_cases ha : 0 ≤ a ∧ a < s
    · rw [if_neg (by omega), if_neg (by omega), decide_eq_true ha, Bool.true_and]
      by_cases hb : 0 ≤ b ∧ b < s
      · rw [if_neg (by omega), if_neg (by omega), decide_eq_true hb, Bool.true_and]
        by_cases h2 : l.length ≤ 200
        · have h2' : ¬ ((l.length : Int) > 200) := by omega
          rw [decide_eq_false h2', decide_eq_true h2, Bool.true_and, spec_GoodNfa.j0, if_neg (by decide)]
          have key : ∀ (rest pre : List S97) (k : Nat), l = pre ++ rest → 2 * rest.length < k → spec_GoodNfa.l0 k l (l.length : Int) (pre.length : Int) s a b l = some (rest.all (edgeOk s)) := by
            intro rest
            induction rest with
            | nil =>
              intro pre k e hk
              obtain ⟨k, rfl⟩ : ∃ m, k = m + 1 := ⟨k - 1, by omega⟩
              rw [spec_GoodNfa.l0, if_neg (by rw [e]; simp)]
              rfl
            | cons x rest ih =>
              intro pre k e hk
              simp only [List.length_cons] at hk
              obtain ⟨k, rfl⟩ : ∃ m, k = m + 1 + 1 := ⟨k - 2, by omega⟩
              have h1 : rd_T97 l (pre.length : Int) = x := by rw [e]; exact rdm_Edge _ _ _
              rw [spec_GoodNfa.l0, if_pos (by rw [e]; exact lt_mid _ _ _), if_pos (len_nn _), if_pos (by rw [e]; exact lt_mid _ _ _), h1]
              have bad2 : spec_GoodNfa.j2 (k + 1) l (l.length : Int) (pre.length : Int) true s a b l x.f0 x.f1 x.f2 x.f3 x.f4 = some false := by rw [spec_GoodNfa.j2, if_pos rfl]
              rw [List.all_cons]
              by_cases g0 : 0 ≤ x.f0 ∧ x.f0 < s
              · rw [if_neg (by omega), if_neg (by omega)]
                by_cases g1 : 0 ≤ x.f1 ∧ x.f1 < s
                · have g1' : ¬ x.f1 ≥ s := by omega
                  rw [if_neg (by omega), decide_eq_false g1', spec_GoodNfa.j2, if_neg (by decide), wrap_mid (rest := rest) (by rw [← e]; simp only [maxLen]; omega), ih (pre ++ [x]) k (by rw [e]; simp) (by omega), spec_l1In_is]
                  unfold edgeOk
                  rw [decide_eq_true g0, decide_eq_true g1]
                  simp only [Bool.true_and, Option.bind_some]
                  generalize rest.all _ = q
                  cases hf : x.f2 <;> cases ha : x.f3
                  · simp only [Bool.false_eq_true, if_false, Bool.or_self]
                    by_cases g2 : 1 ≤ x.f4 ∧ x.f4 ≤ 65535
                    · rw [if_pos (decide_eq_true g2), decide_eq_true g2, Bool.true_and]
                    · rw [if_neg (by simpa using g2), decide_eq_false g2, Bool.false_and]
                  · simp only [Bool.false_eq_true, if_false, if_true, Bool.false_or]
                    by_cases g2 : x.f4 = 0
                    · rw [if_pos g2]; simp [g2]
                    · rw [if_neg g2]; simp [g2]
                  · simp only [Bool.false_eq_true, if_false, if_true, Bool.or_false]
                    by_cases g2 : x.f4 = 0
                    · rw [if_pos g2]; simp [g2]
                    · rw [if_neg g2]; simp [g2]
                  · simp
                · have e1 : edgeOk s x = false := by unfold edgeOk; rw [decide_eq_false g1]; simp
                  rw [e1, Bool.false_and]
                  by_cases g2 : x.f1 < 0
                  · rw [if_pos g2]; exact bad2
                  · have g3 : x.f1 ≥ s := by omega
                    rw [if_neg g2, decide_eq_true g3]; exact bad2
              · have e1 : edgeOk s x = false := by unfold edgeOk; rw [decide_eq_false g0]; simp
                rw [e1, Bool.false_and]
                by_cases g2 : x.f0 < 0
                · rw [if_pos g2]; exact bad2
                · rw [if_neg g2, if_pos (by omega)]; exact bad2
          exact key l [] k rfl (by omega)
        · have h2' : (l.length : Int) > 200 := by omega
          rw [decide_eq_true h2', decide_eq_false h2, Bool.false_and]; exact bad
      · rw [decide_eq_false hb, Bool.false_and]
        by_cases g : b < 0
        · rw [if_pos g]; exact bad
        · rw [if_neg g, if_pos (by omega)]; exact bad
    · rw [decide_eq_false ha, Bool.false_and]
      by_cases g : a < 0
      · rw [if_pos g]; exact bad
      · rw [if_neg g, if_pos (by omega)]; exact bad
  · rw [if_neg (by simpa using hs), decide_eq_false hs, Bool.false_and]; exact bad
theorem laws_szNfa_is (s a b : Int) (l : List S136) (m0 : l.length ≤ maxLen) : ∃ r, laws_szNfa.f s a b l 1048576 = some r ∧ (¬ r < 0 → l.length ≤ 1048576) := by
  unfold laws_szNfa.f laws_szNfaEdgeS.f
  by_cases hc : wrap64 (1048576 - (l.length : Int)) < 0
  · rw [if_pos hc]; exact ⟨_, rfl, fun h => absurd (by omega) h⟩
  · rw [if_neg hc, Option.bind_some, if_neg hc]; exact ⟨_, rfl, fun h => sz_ok m0 (by rw [if_neg hc]) h⟩
theorem laws_toNfaEdgeS_is (k : Nat) (l : List S136) (hl : l.length ≤ 1048576) (hk : l.length < k) : laws_toNfaEdgeS.f k l = some (l.map fun p => (⟨p.f0, p.f1, p.f2, p.f3, p.f4⟩ : S97)) := by
  unfold laws_toNfaEdgeS.f
  rw [if_pos (len_nn _), if_pos (by simp; omega)]
  have key : ∀ (rest pre : List S136) (k : Nat), l = pre ++ rest → rest.length < k →
      laws_toNfaEdgeS.l0 k l (pre.map (fun p => (⟨p.f0, p.f1, p.f2, p.f3, p.f4⟩ : S97)) ++ List.replicate rest.length z97) (pre.length : Int) = some (l.map fun p => (⟨p.f0, p.f1, p.f2, p.f3, p.f4⟩ : S97)) := by
    intro rest
    induction rest with
    | nil =>
      intro pre k e hk
      obtain ⟨k, rfl⟩ : ∃ m, k = m + 1 := ⟨k - 1, by omega⟩
      simp only [laws_toNfaEdgeS.l0]
      rw [if_neg (by rw [e]; simp)]
      simp [e]
    | cons a rest ih =>
      intro pre k e hk
      obtain ⟨k, rfl⟩ : ∃ m, k = m + 1 := ⟨k - 1, by omega⟩
      have h1 : rd_T136 l (pre.length : Int) = a := by rw [e]; unfold rd_T136; simp
      simp only [laws_toNfaEdgeS.l0]
      rw [if_pos (by rw [e]; exact lt_mid _ _ _), if_pos (len_nn _), h1]
      unfold laws_toNfaEdge.f
      rw [Option.bind_some, if_pos (by simp; omega), wrap_mid (rest := rest) (by rw [← e]; simp only [maxLen]; omega)]
      have := ih (pre ++ [a]) k (by rw [e]; simp) (by simp at hk; omega)
      rw [← this]
      congr 1
      have es : ((pre.map (fun p => (⟨p.f0, p.f1, p.f2, p.f3, p.f4⟩ : S97))).length : Int) = (pre.length : Int) := by simp
      rw [← es, List.length_cons, List.replicate_succ, set_mid]
      simp
  have := key l [] k rfl hk
  simpa using this
theorem laws_toNfa_is (k : Nat) (s a b : Int) (l : List S136) (hl : l.length ≤ 1048576) (hk : l.length < k) : laws_toNfa.f k s a b l = some (s, a, b, l.map fun p => (⟨p.f0, p.f1, p.f2, p.f3, p.f4⟩ : S97)) := by
  unfold laws_toNfa.f; rw [laws_toNfaEdgeS_is k l hl hk]; rfl
theorem laws_eqNfaEdge_self (a b : Int) (c d : Bool) (e : Int) : laws_eqNfaEdge.f a b c d e a b c d e = some true := by
  unfold laws_eqNfaEdge.f; simp
theorem laws_eqNfaEdgeS_refl (k : Nat) (l : List S97) (hl : l.length ≤ maxLen) (hk : l.length < k) : laws_eqNfaEdgeS.f k l l = some true := by
  unfold laws_eqNfaEdgeS.f
  rw [if_pos rfl]
  have key : ∀ (rest pre : List S97) (k : Nat), l = pre ++ rest → rest.length < k → laws_eqNfaEdgeS.l0 k l l (pre.length : Int) = some true := by
    intro rest
    induction rest with
    | nil =>
      intro pre k e hk
      obtain ⟨k, rfl⟩ : ∃ m, k = m + 1 := ⟨k - 1, by omega⟩
      simp only [laws_eqNfaEdgeS.l0]
      rw [if_neg (by rw [e]; simp)]
    | cons a rest ih =>
      intro pre k e hk
      obtain ⟨k, rfl⟩ : ∃ m, k = m + 1 := ⟨k - 1, by omega⟩
      simp only [laws_eqNfaEdgeS.l0]
      rw [if_pos (by rw [e]; exact lt_mid _ _ _), if_pos (len_nn _), if_pos (by rw [e]; exact lt_mid _ _ _), laws_eqNfaEdge_self]
      simp only [Option.bind_some, if_true]
      rw [wrap_mid (rest := rest) (by rw [← e]; exact hl)]
      exact ih (pre ++ [a]) k (by rw [e]; simp) (by simp at hk; omega)
  exact key l [] k rfl hk
theorem laws_eqNfa_refl (k : Nat) (s a b : Int) (l : List S97) (hl : l.length ≤ maxLen) (hk : l.length < k) : laws_eqNfa.f k s a b l s a b l = some true := by
  unfold laws_eqNfa.f
  rw [if_pos rfl, if_pos rfl, if_pos rfl, laws_eqNfaEdgeS_refl k l hl hk, Option.bind_some, if_pos rfl]

end FnExactGoodNfaUses
open Go.RowKit Go.Proofs.Ytkkchcalhomgcaa.PFnExactGoodNfa Go.Proofs.YtkkchcalhomgcaaW.PrintWords Go.Proofs.YtkkchcalhomgcaaW.PrintLast Go.Proofs.YtkkchcalhomgcaaW.PrintMore Go.Proofs.Ytkkchcalhomgcaa.Pfx Go.Proofs.Ytkkchcalhomgcaa.Loop Go.Proofs.Ytkkchcalhomgcaa.Tbl FnExactGoodNfaUses
set_option linter.unusedVariables false
theorem FnExactGoodNfa (a0_0 : Int) (a0_1 : Int) (a0_2 : Int) (l0_3 : List S136) (w0_0 : (Lit.int .i64 a0_0).wf = true) (w0_1 : (Lit.int .i64 a0_1).wf = true) (w0_2 : (Lit.int .i64 a0_2).wf = true) (m0_3 : l0_3.length ≤ maxLen) (w0_3 : ∀ a, a ∈ l0_3 → ((Lit.int .i64 a.f0).wf = true ∧ ((Lit.int .i64 a.f1).wf = true ∧ (True ∧ (True ∧ (Lit.int .i64 a.f4).wf = true))))) : ∃ k, laws_FnExactGoodNfa.f k a0_0 a0_1 a0_2 l0_3 = some true := by
  obtain ⟨r, hr, hb⟩ := laws_szNfa_is a0_0 a0_1 a0_2 l0_3 m0_3
  by_cases h : r < 0
  · exact ⟨0, by unfold laws_FnExactGoodNfa.f; rw [hr, Option.bind_some, if_pos h]⟩
  · have hl := hb h
    have el : (l0_3.map fun p => (⟨p.f0, p.f1, p.f2, p.f3, p.f4⟩ : S97)).length = l0_3.length := List.length_map ..
    refine ⟨2 * l0_3.length + 5, ?_⟩
    unfold laws_FnExactGoodNfa.f
    rw [hr, Option.bind_some, if_neg h, laws_toNfa_is _ _ _ _ _ hl (by omega)]
    simp only [Option.bind_some]
    rw [spec_GoodNfa_is _ _ _ _ (by omega) _ (by omega), impl_GoodNfa_is _ _ _ _ (by omega) _ (by omega)]
    simp only [Option.bind_some, bne_self_eq_false, Bool.false_eq_true, if_false]
    rw [laws_eqNfa_refl _ _ _ _ _ (by simp only [maxLen]; omega) (by omega)]
    simp
end Go.Proofs.Ytkkchcalhomgcaa.Pure
