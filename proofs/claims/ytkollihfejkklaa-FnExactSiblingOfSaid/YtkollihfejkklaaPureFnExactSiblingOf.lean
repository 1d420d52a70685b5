/- The pure statement of FnExactSiblingOf: what the printed functions tell is what the reference tells. No condition but the arguments' own bounds. -/
import Derived.Test.YtkollihfejkklaaPFnExactSiblingOfx3
import Derived.Test.YtkollihfejkklaaPfx
namespace Go.Proofs.Ytkollihfejkklaa.Pure
namespace FnExactSiblingOfUses
open Go.RowKit Go.Proofs.Ytkollihfejkklaa.PFnExactSiblingOf Go.Proofs.YtkollihfejkklaaW.PrintWords Go.Proofs.YtkollihfejkklaaW.PrintLast Go.Proofs.YtkollihfejkklaaW.PrintMore Go.Proofs.Ytkollihfejkklaa.Pfx
set_option linter.unusedVariables false
set_option linter.unusedSimpArgs false

theorem spec_l1In_is (a lo hi : Int) : spec_l1In.f a lo hi = some (decide (lo ≤ a ∧ a ≤ hi)) := by
  unfold spec_l1In.f
  by_cases h : lo ≤ a
  · rw [if_pos h]; simp [h]
  · rw [if_neg h]; simp [h]
theorem impl_within_is (a lo hi : Int) : impl_within.f a lo hi = some (decide (lo ≤ a ∧ a ≤ hi)) := by
  unfold impl_within.f
  by_cases h : lo ≤ a
  · rw [if_pos h]; simp [h]
  · rw [if_neg h]; simp [h]
theorem spec_l1Addr_is (a : Int) : spec_l1Addr.f a = some (decide (0 ≤ a ∧ a ≤ 4294967295)) := by
  unfold spec_l1Addr.f; rw [spec_l1In_is]; rfl
theorem impl_isAddr_is (a : Int) : impl_isAddr.f a = some (decide (0 ≤ a ∧ a ≤ 4294967295)) := by
  unfold impl_isAddr.f; rw [impl_within_is]; rfl
theorem impl_sizeOf_is {n : Int} (h0 : 0 ≤ n) (h1 : n ≤ 32) : impl_sizeOf.f n = some (sz n) := by
  unfold impl_sizeOf.f
  rw [shl_sz h0 h1, if_pos (by rw [wrap_id (by omega) (by omega)]; omega)]
theorem spec_l1Size_is (a : Int) {n : Int} (h0 : 0 ≤ n) (h1 : n ≤ 32) : spec_l1Size.f a n = some (sz n) := by
  unfold spec_l1Size.f
  have e : IntKind.u64.wrap (wrap64 (32 - n)) = wrap64 (32 - n) := by rw [wrap_id (by omega) (by omega), u64_id (by omega) (by omega)]
  rw [e, shl_sz h0 h1, if_pos (by rw [wrap_id (by omega) (by omega)]; omega)]
theorem impl_GoodPrefix_is (a n : Int) : impl_GoodPrefix.f a n = some (good a n) := by
  unfold impl_GoodPrefix.f
  rw [impl_within_is, Option.bind_some]
  by_cases h : 0 ≤ n ∧ n ≤ 32
  · rw [if_pos (decide_eq_true h), impl_isAddr_is, Option.bind_some]
    by_cases h' : 0 ≤ a ∧ a ≤ 4294967295
    · rw [if_pos (decide_eq_true h'), impl_sizeOf_is h.1 h.2, Option.bind_some, if_neg (by have := sz_pos n; omega), Int.tmod_eq_emod_of_nonneg h'.1]
      simp [good, h.1, h.2, h'.1, h'.2, beq_dec]
    · rw [if_neg (by simpa using h')]
      have : good a n = false := by simp [good]; omega
      rw [this]
  · rw [if_neg (by simpa using h)]
    have : good a n = false := by simp [good]; omega
    rw [this]
theorem spec_GoodPrefix_is (a n : Int) : spec_GoodPrefix.f a n = some (good a n) := by
  unfold spec_GoodPrefix.f
  rw [spec_l1In_is, Option.bind_some]
  by_cases h : 0 ≤ n ∧ n ≤ 32
  · rw [if_pos (decide_eq_true h), spec_l1Addr_is, Option.bind_some]
    by_cases h' : 0 ≤ a ∧ a ≤ 4294967295
    · rw [if_pos (decide_eq_true h'), spec_l1Size_is a h.1 h.2, Option.bind_some, if_neg (by have := sz_pos n; omega), Int.tmod_eq_emod_of_nonneg h'.1]
      simp [good, h.1, h.2, h'.1, h'.2, beq_dec]
    · rw [if_neg (by simpa using h')]
      have : good a n = false := by simp [good]; omega
      rw [this]
  · rw [if_neg (by simpa using h)]
    have : good a n = false := by simp [good]; omega
    rw [this]
theorem spec_l1Parent_is {a n : Int} (h : good a n = true) (hn : 0 < n) : spec_l1Parent.f a n = some (a - a % (2 * sz n), n - 1) := by
  obtain ⟨h0, h1, h2, h3, h4⟩ := good_iff.1 h
  have hs := sz_pos n
  have h9 := sz_le h0
  have h7 := Int.emod_nonneg a (show 2 * sz n ≠ 0 by omega)
  have h8 := Int.emod_lt_of_pos a (show 0 < 2 * sz n by omega)
  unfold spec_l1Parent.f
  rw [spec_l1Size_is a h0 h1, Option.bind_some, wrap_id (x := 2 * sz n) (by omega) (by omega), if_neg (by omega), Int.tmod_eq_emod_of_nonneg h2, wrap_id (by omega) (by omega), wrap_id (by omega) (by omega)]
theorem spec_l1Halves_is {a n : Int} (h0 : 0 ≤ n) (h1 : n < 32) (h2 : 0 ≤ a) (h3 : a ≤ 4294967295) : spec_l1Halves.f a n = some (a, n + 1, a + sz (n + 1), n + 1) := by
  have hs := sz_pos (n + 1)
  have h9 := sz_le (n := n + 1) (by omega)
  unfold spec_l1Halves.f
  rw [wrap_id (x := n + 1) (by omega) (by omega), spec_l1Size_is a (by omega) (by omega), Option.bind_some, wrap_id (by omega) (by omega)]
theorem spec_l1Sibling_is {a n : Int} (h : good a n = true) (hn : 0 < n) : spec_l1Sibling.f a n = some (sib a n, n) := by
  obtain ⟨h0, h1, h2, h3, h4⟩ := good_iff.1 h
  have hs := sz_pos n
  have hr := parent_rest (a := a) (s := sz n) (by omega) h4
  have h7 := Int.emod_nonneg a (show 2 * sz n ≠ 0 by omega)
  have h8 : a % (2 * sz n) ≤ a := by
    obtain h | h := hr
    · omega
    · have := Int.mul_ediv_add_emod a (2 * sz n)
      have := Int.ediv_nonneg h2 (show 0 ≤ 2 * sz n by omega)
      have := Int.mul_nonneg (show 0 ≤ 2 * sz n by omega) this
      omega
  unfold spec_l1Sibling.f
  rw [spec_l1Parent_is h hn, Option.bind_some]
  simp only []
  rw [spec_l1Halves_is (by omega) (by omega) (by omega) (by omega), Option.bind_some]
  simp only [show n - 1 + 1 = n by omega, beq_self_eq_true, Bool.and_true]
  unfold sib
  rcases hr with hr | hr
  · rw [hr, if_pos (by simp)]; simp
  · rw [hr, if_neg (by simp; omega), if_neg (by omega)]
theorem impl_Prefix_sibling_is {a n : Int} (h : good a n = true) : impl_Prefix_sibling.f a n = some (sib a n, n) := by
  obtain ⟨h0, h1, h2, h3, h4⟩ := good_iff.1 h
  unfold impl_Prefix_sibling.f
  rw [impl_sizeOf_is h0 h1, Option.bind_some, xor_sz h0 h1 h2 h3 h4]; rfl
theorem impl_SiblingOf_is (a n : Int) : impl_SiblingOf.f a n = some (siblingOf a n) := by
  unfold impl_SiblingOf.f siblingOf
  rw [impl_GoodPrefix_is, Option.bind_some]
  by_cases h : good a n = true
  · rw [if_pos h]
    by_cases h' : n = 0
    · rw [if_pos h', if_neg (fun hh => hh.2 h')]
    · rw [if_neg h', impl_Prefix_sibling_is h, Option.bind_some, if_pos ⟨h, h'⟩]
  · rw [if_neg h, if_neg (fun hh => h hh.1)]
theorem spec_SiblingOf_is (a n : Int) : spec_SiblingOf.f a n = some (siblingOf a n) := by
  unfold spec_SiblingOf.f siblingOf
  rw [spec_GoodPrefix_is, Option.bind_some]
  by_cases h : good a n = true
  · obtain ⟨h0, h1, h2, h3, h4⟩ := good_iff.1 h
    rw [if_pos h]
    by_cases h' : n = 0
    · rw [if_pos h', if_neg (fun hh => hh.2 h')]
    · rw [if_neg h', spec_l1Sibling_is h (by omega), Option.bind_some, if_pos ⟨h, h'⟩]
  · rw [if_neg h, if_neg (fun hh => h hh.1)]
theorem laws_eqPrefix_is (a n b m : Int) : laws_eqPrefix.f a n b m = some (decide (a = b ∧ n = m)) := by
  unfold laws_eqPrefix.f
  by_cases h : a = b
  · by_cases h' : n = m
    · rw [if_pos h, if_pos h']; simp [h, h']
    · rw [if_pos h, if_neg h']; simp [h']
  · rw [if_neg h]; simp [h]

end FnExactSiblingOfUses
open Go.RowKit Go.Proofs.Ytkollihfejkklaa.PFnExactSiblingOf Go.Proofs.YtkollihfejkklaaW.PrintWords Go.Proofs.YtkollihfejkklaaW.PrintLast Go.Proofs.YtkollihfejkklaaW.PrintMore Go.Proofs.Ytkollihfejkklaa.Pfx FnExactSiblingOfUses
set_option linter.unusedVariables false
theorem FnExactSiblingOf (a0_0 : Int) (a0_1 : Int) (w0_0 : (Lit.int .i64 a0_0).wf = true) (w0_1 : (Lit.int .i64 a0_1).wf = true) : laws_FnExactSiblingOf.f a0_0 a0_1 = some true := by
  unfold laws_FnExactSiblingOf.f
  simp [laws_toPrefix.f, impl_SiblingOf_is, spec_SiblingOf_is, laws_eqPrefix_is]
end Go.Proofs.Ytkollihfejkklaa.Pure
