/- The pure statement of FnExactMsgBytes: what the printed functions tell is what the reference tells. No condition but the arguments' own bounds. -/
import Derived.Test.YtkkchcalhomgcaaPFnExactMsgBytesx1
import Derived.Test.YtkkchcalhomgcaaPfx
import Derived.Test.YtkkchcalhomgcaaMsg
namespace Go.Proofs.Ytkkchcalhomgcaa.Pure
namespace FnExactMsgBytesUses
open Go.RowKit Go.Proofs.Ytkkchcalhomgcaa.PFnExactMsgBytes Go.Proofs.YtkkchcalhomgcaaW.PrintWords Go.Proofs.YtkkchcalhomgcaaW.PrintLast Go.Proofs.YtkkchcalhomgcaaW.PrintMore Go.Proofs.Ytkkchcalhomgcaa.Pfx Go.Proofs.Ytkkchcalhomgcaa.Msg
set_option linter.unusedVariables false
set_option linter.unusedSimpArgs false

theorem spec_l1In_is (a lo hi : Int) : spec_l1In.f a lo hi = some (decide (lo ≤ a ∧ a ≤ hi)) := by
  unfold spec_l1In.f
  by_cases h : lo ≤ a
  · rw [if_pos h]; simp [h]
  · rw [if_neg h]; simp [h]
theorem impl_within_is (a lo hi : Int) : impl_within.f a lo hi = some (decide (lo ≤ a ∧ a ≤ hi)) := by
  unfold impl_within.f
  by_cases h : lo ≤ a
  · rw [if_pos h]; simp [h]
  · rw [if_neg h]; simp [h]
theorem spec_GoodMsg_is (a : Int) (b : ByteArray) : spec_GoodMsg.f a b = some (goodMsg a b) := by
  unfold spec_GoodMsg.f goodMsg
  rw [spec_l1In_is, Option.bind_some]
  by_cases h : 1 ≤ a ∧ a ≤ 4
  · rw [if_pos (decide_eq_true h), if_pos h]
    by_cases h2 : (b.size : Int) ≤ 60
    · rw [if_pos h2, if_pos h2]
      by_cases h3 : a = 4
      · rw [if_pos h3, if_pos h3]
      · rw [if_neg h3, if_neg h3]
    · rw [if_neg h2, if_neg h2]
  · rw [if_neg (by simpa using h), if_neg h]
theorem impl_GoodMsg_is (a : Int) (b : ByteArray) : impl_GoodMsg.f a b = some (goodMsg a b) := by
  unfold impl_GoodMsg.f goodMsg
  rw [impl_within_is, Option.bind_some]
  by_cases h : 1 ≤ a ∧ a ≤ 4
  · rw [if_pos (decide_eq_true h), if_pos h]
    by_cases h2 : (b.size : Int) ≤ 60
    · rw [if_pos h2, if_pos h2]
      by_cases h3 : a = 4
      · rw [if_pos h3, if_pos h3]
      · rw [if_neg h3, if_neg h3]
    · rw [if_neg h2, if_neg h2]
  · rw [if_neg (by simpa using h), if_neg h]
theorem laws_szMsg_is (a : Int) (b : ByteArray) (n : Int) : ∃ r, laws_szMsg.f a b n = some r := by
  unfold laws_szMsg.f
  by_cases h : wrap64 (n - (b.size : Int)) < 0
  · exact ⟨_, if_pos h⟩
  · exact ⟨_, if_neg h⟩
theorem spec_MsgBytes_is (a : Int) (b : ByteArray) : ∃ r, spec_MsgBytes.f a b = some r := by
  unfold spec_MsgBytes.f spec_l5Bytes.f
  rw [spec_GoodMsg_is, Option.bind_some]
  by_cases h : goodMsg a b = true
  · have hs := goodMsg_size h
    rw [if_pos h]
    simp only [Option.bind_some]
    rw [if_pos (by simp only [strOfNums_size]; simp; omega)]
    exact ⟨_, rfl⟩
  · rw [if_neg h]; exact ⟨_, rfl⟩
theorem impl_MsgBytes_is (a : Int) (b : ByteArray) : impl_MsgBytes.f a b = spec_MsgBytes.f a b := by
  unfold spec_MsgBytes.f spec_l5Bytes.f impl_MsgBytes.f
  rw [spec_GoodMsg_is, impl_GoodMsg_is]
  simp only [Option.bind_some]
  by_cases h : goodMsg a b = true
  · have hs := goodMsg_size h
    have hb : (strOfNums [255, 255, wrap64 (5 + (b.size : Int)) % 256, 0, a % 256]).size + b.size ≤ 9223372036854775807 := by rw [strOfNums_size]; simp; omega
    simp only [h, hb, if_true, Option.bind_some]
  · simp only [h, if_false]
    simp

end FnExactMsgBytesUses
open Go.RowKit Go.Proofs.Ytkkchcalhomgcaa.PFnExactMsgBytes Go.Proofs.YtkkchcalhomgcaaW.PrintWords Go.Proofs.YtkkchcalhomgcaaW.PrintLast Go.Proofs.YtkkchcalhomgcaaW.PrintMore Go.Proofs.Ytkkchcalhomgcaa.Pfx Go.Proofs.Ytkkchcalhomgcaa.Msg FnExactMsgBytesUses
set_option linter.unusedVariables false
theorem FnExactMsgBytes (a0_0 : Int) (a0_1 : ByteArray) (w0_0 : (Lit.int .i64 a0_0).wf = true) (w0_1 : a0_1.size ≤ maxLen) : laws_FnExactMsgBytes.f a0_0 a0_1 = some true := by
  obtain ⟨r, hr⟩ := laws_szMsg_is a0_0 a0_1 1048576
  obtain ⟨s, hs⟩ := spec_MsgBytes_is a0_0 a0_1
  unfold laws_FnExactMsgBytes.f
  rw [hr, Option.bind_some]
  by_cases h : r < 0
  · rw [if_pos h]
  · rw [if_neg h]
    simp only [laws_toMsg.f, Option.bind_some, impl_MsgBytes_is, hs]
    simp
end Go.Proofs.Ytkkchcalhomgcaa.Pure
