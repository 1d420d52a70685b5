/- Loops over a list by its places: what a round reads and where it goes on. Plain words; no condition but what each lemma states. -/
import Derived.Test.YtkkchcalhomgcaaPfx
namespace Go.Proofs.Ytkkchcalhomgcaa.Loop
open Go.RowKit Go.Proofs.YtkkchcalhomgcaaW.PrintWords Go.Proofs.YtkkchcalhomgcaaW.PrintLast Go.Proofs.YtkkchcalhomgcaaW.PrintMore Go.Proofs.Ytkkchcalhomgcaa.Pfx
variable {α : Type}
theorem lt_mid (pre : List α) (a : α) (rest : List α) : (pre.length : Int) < ((pre ++ a :: rest).length : Int) := by simp; omega
theorem not_lt_end (l : List α) : ¬ ((l.length : Int) < (l.length : Int)) := by omega
theorem wrap_mid {pre : List α} {a : α} {rest : List α} (h : (pre ++ a :: rest).length ≤ maxLen) : wrap64 ((pre.length : Int) + 1) = ((pre ++ [a]).length : Int) := by
  have h2 : maxLen = 9223372036854775807 := rfl
  rw [h2] at h
  simp at h
  rw [wrap_id (by omega) (by omega)]
  simp
theorem snoc_cons (pre : List α) (a : α) (rest : List α) : pre ++ a :: rest = (pre ++ [a]) ++ rest := by simp
theorem len_nn (l : List α) : (0 : Int) ≤ (l.length : Int) := Int.natCast_nonneg _
theorem getD_mid (pre : List α) (a : α) (rest : List α) (z : α) : (pre ++ a :: rest).getD ((pre.length : Int)).toNat z = a := by simp
theorem set_mid (pre : List α) (a b : α) (rest : List α) : (pre ++ a :: rest).set ((pre.length : Int)).toNat b = pre ++ b :: rest := by simp
theorem rd_mid (pre : List Int) (a : Int) (rest : List Int) : rd (pre ++ a :: rest) (pre.length : Int) = a := by unfold rd; simp
theorem snoc_cases (l : List α) : l = [] ∨ ∃ p q, l = p ++ [q] := by
  rcases List.eq_nil_or_concat l with h | ⟨p, q, h⟩
  · exact .inl h
  · exact .inr ⟨p, q, by rw [h, List.concat_eq_append]⟩
/-- sz's answer. -/
theorem sz_ok {n : Nat} {r : Int} (hn : n ≤ maxLen) (h : (if wrap64 (1048576 - (n : Int)) < 0 then some (-1) else some (wrap64 (1048576 - (n : Int)))) = some r) (hr : ¬ r < 0) : n ≤ 1048576 := by
  have h2 : maxLen = 9223372036854775807 := rfl
  rw [h2] at hn
  rw [wrap_id (by omega) (by omega)] at h
  by_cases hc : (1048576 : Int) - (n : Int) < 0
  · rw [if_pos hc] at h; cases h; omega
  · omega
end Go.Proofs.Ytkkchcalhomgcaa.Loop
