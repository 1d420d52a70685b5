/- The pure statement of FnExactHalvesOf: what the printed functions tell is what the reference tells. No condition but the arguments' own bounds. -/
import Derived.Test.YtkollihfejkklaaPFnExactHalvesOfx3
import Derived.Test.YtkollihfejkklaaPfx
namespace Go.Proofs.Ytkollihfejkklaa.Pure
namespace FnExactHalvesOfUses
open Go.RowKit Go.Proofs.Ytkollihfejkklaa.PFnExactHalvesOf Go.Proofs.YtkollihfejkklaaW.PrintWords Go.Proofs.YtkollihfejkklaaW.PrintLast Go.Proofs.YtkollihfejkklaaW.PrintMore Go.Proofs.Ytkollihfejkklaa.Pfx
set_option linter.unusedVariables false
set_option linter.unusedSimpArgs false

theorem spec_l1In_is (a lo hi : Int) : spec_l1In.f a lo hi = some (decide (lo ≤ a ∧ a ≤ hi)) := by
  unfold spec_l1In.f
  by_cases h : lo ≤ a
  · rw [if_pos h]; simp [h]
  · rw [if_neg h]; simp [h]
theorem impl_within_is (a lo hi : Int) : impl_within.f a lo hi = some (decide (lo ≤ a ∧ a ≤ hi)) := by
  unfold impl_within.f
  by_cases h : lo ≤ a
  · rw [if_pos h]; simp [h]
  · rw [if_neg h]; simp [h]
theorem spec_l1Addr_is (a : Int) : spec_l1Addr.f a = some (decide (0 ≤ a ∧ a ≤ 4294967295)) := by
  unfold spec_l1Addr.f; rw [spec_l1In_is]; rfl
theorem impl_isAddr_is (a : Int) : impl_isAddr.f a = some (decide (0 ≤ a ∧ a ≤ 4294967295)) := by
  unfold impl_isAddr.f; rw [impl_within_is]; rfl
theorem impl_sizeOf_is {n : Int} (h0 : 0 ≤ n) (h1 : n ≤ 32) : impl_sizeOf.f n = some (sz n) := by
  unfold impl_sizeOf.f
  rw [shl_sz h0 h1, if_pos (by rw [wrap_id (by omega) (by omega)]; omega)]
theorem spec_l1Size_is (a : Int) {n : Int} (h0 : 0 ≤ n) (h1 : n ≤ 32) : spec_l1Size.f a n = some (sz n) := by
  unfold spec_l1Size.f
  have e : IntKind.u64.wrap (wrap64 (32 - n)) = wrap64 (32 - n) := by rw [wrap_id (by omega) (by omega), u64_id (by omega) (by omega)]
  rw [e, shl_sz h0 h1, if_pos (by rw [wrap_id (by omega) (by omega)]; omega)]
theorem impl_GoodPrefix_is (a n : Int) : impl_GoodPrefix.f a n = some (good a n) := by
  unfold impl_GoodPrefix.f
  rw [impl_within_is, Option.bind_some]
  by_cases h : 0 ≤ n ∧ n ≤ 32
  · rw [if_pos (decide_eq_true h), impl_isAddr_is, Option.bind_some]
    by_cases h' : 0 ≤ a ∧ a ≤ 4294967295
    · rw [if_pos (decide_eq_true h'), impl_sizeOf_is h.1 h.2, Option.bind_some, if_neg (by have := sz_pos n; omega), Int.tmod_eq_emod_of_nonneg h'.1]
      simp [good, h.1, h.2, h'.1, h'.2, beq_dec]
    · rw [if_neg (by simpa using h')]
      have : good a n = false := by simp [good]; omega
      rw [this]
  · rw [if_neg (by simpa using h)]
    have : good a n = false := by simp [good]; omega
    rw [this]
theorem spec_GoodPrefix_is (a n : Int) : spec_GoodPrefix.f a n = some (good a n) := by
  unfold spec_GoodPrefix.f
  rw [spec_l1In_is, Option.bind_some]
  by_cases h : 0 ≤ n ∧ n ≤ 32
  · rw [if_pos (decide_eq_true h), spec_l1Addr_is, Option.bind_some]
    by_cases h' : 0 ≤ a ∧ a ≤ 4294967295
    · rw [if_pos (decide_eq_true h'), spec_l1Size_is a h.1 h.2, Option.bind_some, if_neg (by have := sz_pos n; omega), Int.tmod_eq_emod_of_nonneg h'.1]
      simp [good, h.1, h.2, h'.1, h'.2, beq_dec]
    · rw [if_neg (by simpa using h')]
      have : good a n = false := by simp [good]; omega
      rw [this]
  · rw [if_neg (by simpa using h)]
    have : good a n = false := by simp [good]; omega
    rw [this]
theorem spec_l1Halves_is {a n : Int} (h0 : 0 ≤ n) (h1 : n < 32) (h2 : 0 ≤ a) (h3 : a ≤ 4294967295) : spec_l1Halves.f a n = some (a, n + 1, a + sz (n + 1), n + 1) := by
  have hs := sz_pos (n + 1)
  have h9 := sz_le (n := n + 1) (by omega)
  unfold spec_l1Halves.f
  rw [wrap_id (x := n + 1) (by omega) (by omega), spec_l1Size_is a (by omega) (by omega), Option.bind_some, wrap_id (by omega) (by omega)]
theorem impl_Prefix_halves_is {a n : Int} (h0 : 0 ≤ n) (h1 : n < 32) (h2 : 0 ≤ a) (h3 : a ≤ 4294967295) : impl_Prefix_halves.f a n = some (a, n + 1, a + sz (n + 1), n + 1) := by
  have hs := sz_pos (n + 1)
  have h9 := sz_le (n := n + 1) (by omega)
  unfold impl_Prefix_halves.f
  rw [wrap_id (x := n + 1) (by omega) (by omega), impl_sizeOf_is (by omega) (by omega), Option.bind_some, wrap_id (by omega) (by omega)]
theorem impl_HalvesOf_is (a n : Int) : impl_HalvesOf.f a n = some (halvesOf a n) := by
  unfold impl_HalvesOf.f halvesOf
  rw [impl_GoodPrefix_is, Option.bind_some]
  by_cases h : good a n = true
  · obtain ⟨h0, h1, h2, h3, h4⟩ := good_iff.1 h
    rw [if_pos h]
    by_cases h' : n = 32
    · rw [if_pos h', if_neg (fun hh => hh.2 h')]
    · rw [if_neg h', impl_Prefix_halves_is h0 (by omega) h2 h3, Option.bind_some, if_pos ⟨h, h'⟩]
  · rw [if_neg h, if_neg (fun hh => h hh.1)]
theorem spec_HalvesOf_is (a n : Int) : spec_HalvesOf.f a n = some (halvesOf a n) := by
  unfold spec_HalvesOf.f halvesOf
  rw [spec_GoodPrefix_is, Option.bind_some]
  by_cases h : good a n = true
  · obtain ⟨h0, h1, h2, h3, h4⟩ := good_iff.1 h
    rw [if_pos h]
    by_cases h' : n = 32
    · rw [if_pos h', if_neg (fun hh => hh.2 h')]
    · rw [if_neg h', spec_l1Halves_is h0 (by omega) h2 h3, Option.bind_some, if_pos ⟨h, h'⟩]
  · rw [if_neg h, if_neg (fun hh => h hh.1)]
theorem laws_eqPrefix_is (a n b m : Int) : laws_eqPrefix.f a n b m = some (decide (a = b ∧ n = m)) := by
  unfold laws_eqPrefix.f
  by_cases h : a = b
  · by_cases h' : n = m
    · rw [if_pos h, if_pos h']; simp [h, h']
    · rw [if_pos h, if_neg h']; simp [h']
  · rw [if_neg h]; simp [h]

end FnExactHalvesOfUses
open Go.RowKit Go.Proofs.Ytkollihfejkklaa.PFnExactHalvesOf Go.Proofs.YtkollihfejkklaaW.PrintWords Go.Proofs.YtkollihfejkklaaW.PrintLast Go.Proofs.YtkollihfejkklaaW.PrintMore Go.Proofs.Ytkollihfejkklaa.Pfx FnExactHalvesOfUses
set_option linter.unusedVariables false
theorem FnExactHalvesOf (a0_0 : Int) (a0_1 : Int) (w0_0 : (Lit.int .i64 a0_0).wf = true) (w0_1 : (Lit.int .i64 a0_1).wf = true) : laws_FnExactHalvesOf.f a0_0 a0_1 = some true := by
  unfold laws_FnExactHalvesOf.f
  simp [laws_toPrefix.f, impl_HalvesOf_is, spec_HalvesOf_is, laws_eqPrefix_is]
end Go.Proofs.Ytkollihfejkklaa.Pure
