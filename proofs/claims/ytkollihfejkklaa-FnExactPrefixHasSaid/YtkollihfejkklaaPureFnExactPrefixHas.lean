/- The pure statement of FnExactPrefixHas: what the printed functions tell is what the reference tells. No condition but the arguments' own bounds. -/
import Derived.Test.YtkollihfejkklaaPFnExactPrefixHasx3
import Derived.Test.YtkollihfejkklaaPfx
namespace Go.Proofs.Ytkollihfejkklaa.Pure
namespace FnExactPrefixHasUses
open Go.RowKit Go.Proofs.Ytkollihfejkklaa.PFnExactPrefixHas Go.Proofs.YtkollihfejkklaaW.PrintWords Go.Proofs.YtkollihfejkklaaW.PrintLast Go.Proofs.YtkollihfejkklaaW.PrintMore Go.Proofs.Ytkollihfejkklaa.Pfx
set_option linter.unusedVariables false
set_option linter.unusedSimpArgs false

theorem spec_l1In_is (a lo hi : Int) : spec_l1In.f a lo hi = some (decide (lo ≤ a ∧ a ≤ hi)) := by
  unfold spec_l1In.f
  by_cases h : lo ≤ a
  · rw [if_pos h]; simp [h]
  · rw [if_neg h]; simp [h]
theorem impl_within_is (a lo hi : Int) : impl_within.f a lo hi = some (decide (lo ≤ a ∧ a ≤ hi)) := by
  unfold impl_within.f
  by_cases h : lo ≤ a
  · rw [if_pos h]; simp [h]
  · rw [if_neg h]; simp [h]
theorem spec_l1Addr_is (a : Int) : spec_l1Addr.f a = some (decide (0 ≤ a ∧ a ≤ 4294967295)) := by
  unfold spec_l1Addr.f; rw [spec_l1In_is]; rfl
theorem impl_isAddr_is (a : Int) : impl_isAddr.f a = some (decide (0 ≤ a ∧ a ≤ 4294967295)) := by
  unfold impl_isAddr.f; rw [impl_within_is]; rfl
theorem impl_sizeOf_is {n : Int} (h0 : 0 ≤ n) (h1 : n ≤ 32) : impl_sizeOf.f n = some (sz n) := by
  unfold impl_sizeOf.f
  rw [shl_sz h0 h1, if_pos (by rw [wrap_id (by omega) (by omega)]; omega)]
theorem spec_l1Size_is (a : Int) {n : Int} (h0 : 0 ≤ n) (h1 : n ≤ 32) : spec_l1Size.f a n = some (sz n) := by
  unfold spec_l1Size.f
  have e : IntKind.u64.wrap (wrap64 (32 - n)) = wrap64 (32 - n) := by rw [wrap_id (by omega) (by omega), u64_id (by omega) (by omega)]
  rw [e, shl_sz h0 h1, if_pos (by rw [wrap_id (by omega) (by omega)]; omega)]
theorem impl_GoodPrefix_is (a n : Int) : impl_GoodPrefix.f a n = some (good a n) := by
  unfold impl_GoodPrefix.f
  rw [impl_within_is, Option.bind_some]
  by_cases h : 0 ≤ n ∧ n ≤ 32
  · rw [if_pos (decide_eq_true h), impl_isAddr_is, Option.bind_some]
    by_cases h' : 0 ≤ a ∧ a ≤ 4294967295
    · rw [if_pos (decide_eq_true h'), impl_sizeOf_is h.1 h.2, Option.bind_some, if_neg (by have := sz_pos n; omega), Int.tmod_eq_emod_of_nonneg h'.1]
      simp [good, h.1, h.2, h'.1, h'.2, beq_dec]
    · rw [if_neg (by simpa using h')]
      have : good a n = false := by simp [good]; omega
      rw [this]
  · rw [if_neg (by simpa using h)]
    have : good a n = false := by simp [good]; omega
    rw [this]
theorem spec_GoodPrefix_is (a n : Int) : spec_GoodPrefix.f a n = some (good a n) := by
  unfold spec_GoodPrefix.f
  rw [spec_l1In_is, Option.bind_some]
  by_cases h : 0 ≤ n ∧ n ≤ 32
  · rw [if_pos (decide_eq_true h), spec_l1Addr_is, Option.bind_some]
    by_cases h' : 0 ≤ a ∧ a ≤ 4294967295
    · rw [if_pos (decide_eq_true h'), spec_l1Size_is a h.1 h.2, Option.bind_some, if_neg (by have := sz_pos n; omega), Int.tmod_eq_emod_of_nonneg h'.1]
      simp [good, h.1, h.2, h'.1, h'.2, beq_dec]
    · rw [if_neg (by simpa using h')]
      have : good a n = false := by simp [good]; omega
      rw [this]
  · rw [if_neg (by simpa using h)]
    have : good a n = false := by simp [good]; omega
    rw [this]
theorem impl_Prefix_end_is {a n : Int} (h : good a n = true) : impl_Prefix_end.f a n = some (a + sz n - 1) := by
  obtain ⟨h0, h1, h2, h3, h4⟩ := good_iff.1 h
  have := sz_pos n
  have := sz_le h0
  unfold impl_Prefix_end.f
  rw [impl_sizeOf_is h0 h1, Option.bind_some, wrap_id (x := a + sz n) (by omega) (by omega), wrap_id (by omega) (by omega)]
theorem impl_Prefix_has_is {a n : Int} (x : Int) (h : good a n = true) : impl_Prefix_has.f a n x = some (decide (a ≤ x ∧ x ≤ a + sz n - 1)) := by
  unfold impl_Prefix_has.f
  rw [impl_Prefix_end_is h, Option.bind_some, impl_within_is]; rfl
theorem spec_l1HasAddr_is {a n x : Int} (h : good a n = true) (h5 : 0 ≤ x) (h6 : x ≤ 4294967295) : spec_l1HasAddr.f a n x = some (decide (a ≤ x ∧ x ≤ a + sz n - 1)) := by
  obtain ⟨h0, h1, h2, h3, h4⟩ := good_iff.1 h
  have hs := sz_pos n
  have h7 := Int.emod_nonneg x (show sz n ≠ 0 by omega)
  have h8 := Int.emod_lt_of_pos x (show 0 < sz n by omega)
  have h9 := sz_le h0
  unfold spec_l1HasAddr.f
  rw [spec_l1Size_is a h0 h1, Option.bind_some, if_neg (by omega), Int.tmod_eq_emod_of_nonneg h5, wrap_id (by omega) (by omega), beq_dec]
  congr 1
  exact decide_eq_decide.2 (in_row (by omega) h4)
theorem impl_Prefix_covers_is {a n : Int} (b m : Int) (h : good a n = true) : impl_Prefix_covers.f a n b m = some (decide (n ≤ m ∧ a ≤ b ∧ b ≤ a + sz n - 1)) := by
  unfold impl_Prefix_covers.f
  by_cases h' : n ≤ m
  · rw [if_pos h', impl_Prefix_has_is b h]; simp [h']
  · rw [if_neg h']; simp [h']
theorem spec_l1Covers_is {a n b m : Int} (h : good a n = true) (hb : good b m = true) : spec_l1Covers.f a n b m = some (decide (n ≤ m ∧ a ≤ b ∧ b ≤ a + sz n - 1)) := by
  obtain ⟨h0, h1, h2, h3, h4⟩ := good_iff.1 hb
  unfold spec_l1Covers.f
  by_cases h' : n ≤ m
  · rw [if_pos h', spec_l1HasAddr_is h h2 h3]; simp [h']
  · rw [if_neg h']; simp [h']
theorem impl_PrefixHas_is (a n b m : Int) : impl_PrefixHas.f a n b m = some (prefixHas a n b m) := by
  unfold impl_PrefixHas.f prefixHas
  rw [impl_GoodPrefix_is, Option.bind_some]
  by_cases h : good a n = true
  · rw [if_pos h, impl_GoodPrefix_is, Option.bind_some]
    by_cases h' : good b m = true
    · rw [if_pos h', impl_Prefix_covers_is b m h, if_pos ⟨h, h'⟩]; rfl
    · rw [if_neg h', if_neg (fun hh => h' hh.2)]
  · rw [if_neg h, if_neg (fun hh => h hh.1)]
theorem spec_PrefixHas_is (a n b m : Int) : spec_PrefixHas.f a n b m = some (prefixHas a n b m) := by
  unfold spec_PrefixHas.f prefixHas
  rw [spec_GoodPrefix_is, Option.bind_some]
  by_cases h : good a n = true
  · rw [if_pos h, spec_GoodPrefix_is, Option.bind_some]
    by_cases h' : good b m = true
    · rw [if_pos h', spec_l1Covers_is h h', if_pos ⟨h, h'⟩]; rfl
    · rw [if_neg h', if_neg (fun hh => h' hh.2)]
  · rw [if_neg h, if_neg (fun hh => h hh.1)]

end FnExactPrefixHasUses
open Go.RowKit Go.Proofs.Ytkollihfejkklaa.PFnExactPrefixHas Go.Proofs.YtkollihfejkklaaW.PrintWords Go.Proofs.YtkollihfejkklaaW.PrintLast Go.Proofs.YtkollihfejkklaaW.PrintMore Go.Proofs.Ytkollihfejkklaa.Pfx FnExactPrefixHasUses
set_option linter.unusedVariables false
theorem FnExactPrefixHas (a0_0 : Int) (a0_1 : Int) (a1_0 : Int) (a1_1 : Int) (w0_0 : (Lit.int .i64 a0_0).wf = true) (w0_1 : (Lit.int .i64 a0_1).wf = true) (w1_0 : (Lit.int .i64 a1_0).wf = true) (w1_1 : (Lit.int .i64 a1_1).wf = true) : laws_FnExactPrefixHas.f a0_0 a0_1 a1_0 a1_1 = some true := by
  unfold laws_FnExactPrefixHas.f
  simp [laws_toPrefix.f, impl_PrefixHas_is, spec_PrefixHas_is]
end Go.Proofs.Ytkollihfejkklaa.Pure
