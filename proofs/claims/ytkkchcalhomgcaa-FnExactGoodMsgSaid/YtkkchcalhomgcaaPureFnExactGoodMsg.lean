/- The pure statement of FnExactGoodMsg: what the printed functions tell is what the reference tells. No condition but the arguments' own bounds. -/
import Derived.Test.YtkkchcalhomgcaaPFnExactGoodMsgx1
import Derived.Test.YtkkchcalhomgcaaPfx
import Derived.Test.YtkkchcalhomgcaaMsg
namespace Go.Proofs.Ytkkchcalhomgcaa.Pure
namespace FnExactGoodMsgUses
open Go.RowKit Go.Proofs.Ytkkchcalhomgcaa.PFnExactGoodMsg Go.Proofs.YtkkchcalhomgcaaW.PrintWords Go.Proofs.YtkkchcalhomgcaaW.PrintLast Go.Proofs.YtkkchcalhomgcaaW.PrintMore Go.Proofs.Ytkkchcalhomgcaa.Pfx Go.Proofs.Ytkkchcalhomgcaa.Msg
set_option linter.unusedVariables false
set_option linter.unusedSimpArgs false

theorem spec_l1In_is (a lo hi : Int) : spec_l1In.f a lo hi = some (decide (lo ≤ a ∧ a ≤ hi)) := by
  unfold spec_l1In.f
  by_cases h : lo ≤ a
  · rw [if_pos h]; simp [h]
  · rw [if_neg h]; simp [h]
theorem impl_within_is (a lo hi : Int) : impl_within.f a lo hi = some (decide (lo ≤ a ∧ a ≤ hi)) := by
  unfold impl_within.f
  by_cases h : lo ≤ a
  · rw [if_pos h]; simp [h]
  · rw [if_neg h]; simp [h]
theorem spec_GoodMsg_is (a : Int) (b : ByteArray) : spec_GoodMsg.f a b = some (goodMsg a b) := by
  unfold spec_GoodMsg.f goodMsg
  rw [spec_l1In_is, Option.bind_some]
  by_cases h : 1 ≤ a ∧ a ≤ 4
  · rw [if_pos (decide_eq_true h), if_pos h]
    by_cases h2 : (b.size : Int) ≤ 60
    · rw [if_pos h2, if_pos h2]
      by_cases h3 : a = 4
      · rw [if_pos h3, if_pos h3]
      · rw [if_neg h3, if_neg h3]
    · rw [if_neg h2, if_neg h2]
  · rw [if_neg (by simpa using h), if_neg h]
theorem impl_GoodMsg_is (a : Int) (b : ByteArray) : impl_GoodMsg.f a b = some (goodMsg a b) := by
  unfold impl_GoodMsg.f goodMsg
  rw [impl_within_is, Option.bind_some]
  by_cases h : 1 ≤ a ∧ a ≤ 4
  · rw [if_pos (decide_eq_true h), if_pos h]
    by_cases h2 : (b.size : Int) ≤ 60
    · rw [if_pos h2, if_pos h2]
      by_cases h3 : a = 4
      · rw [if_pos h3, if_pos h3]
      · rw [if_neg h3, if_neg h3]
    · rw [if_neg h2, if_neg h2]
  · rw [if_neg (by simpa using h), if_neg h]
theorem laws_szMsg_is (a : Int) (b : ByteArray) (n : Int) : ∃ r, laws_szMsg.f a b n = some r := by
  unfold laws_szMsg.f
  by_cases h : wrap64 (n - (b.size : Int)) < 0
  · exact ⟨_, if_pos h⟩
  · exact ⟨_, if_neg h⟩

end FnExactGoodMsgUses
open Go.RowKit Go.Proofs.Ytkkchcalhomgcaa.PFnExactGoodMsg Go.Proofs.YtkkchcalhomgcaaW.PrintWords Go.Proofs.YtkkchcalhomgcaaW.PrintLast Go.Proofs.YtkkchcalhomgcaaW.PrintMore Go.Proofs.Ytkkchcalhomgcaa.Pfx Go.Proofs.Ytkkchcalhomgcaa.Msg FnExactGoodMsgUses
set_option linter.unusedVariables false
theorem FnExactGoodMsg (a0_0 : Int) (a0_1 : ByteArray) (w0_0 : (Lit.int .i64 a0_0).wf = true) (w0_1 : a0_1.size ≤ maxLen) : laws_FnExactGoodMsg.f a0_0 a0_1 = some true := by
  obtain ⟨r, hr⟩ := laws_szMsg_is a0_0 a0_1 1048576
  unfold laws_FnExactGoodMsg.f
  rw [hr, Option.bind_some]
  by_cases h : r < 0
  · rw [if_pos h]
  · rw [if_neg h]
    simp [laws_toMsg.f, spec_GoodMsg_is, impl_GoodMsg_is]
end Go.Proofs.Ytkkchcalhomgcaa.Pure
