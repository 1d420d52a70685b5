/- Messages: when one is good. Plain words; no condition. -/
import Derived.Test.YtkkchcalhomgcaaPfx
namespace Go.Proofs.Ytkkchcalhomgcaa.Msg
open Go.RowKit Go.Proofs.YtkkchcalhomgcaaW.PrintWords Go.Proofs.YtkkchcalhomgcaaW.PrintLast Go.Proofs.YtkkchcalhomgcaaW.PrintMore
def goodMsg (a : Int) (b : ByteArray) : Bool := if 1 ≤ a ∧ a ≤ 4 then if (b.size : Int) ≤ 60 then if a = 4 then (b.toList == ([] : List UInt8)) else true else false else false
theorem goodMsg_size {a : Int} {b : ByteArray} (h : goodMsg a b = true) : b.size ≤ 60 := by
  unfold goodMsg at h
  by_cases h1 : 1 ≤ a ∧ a ≤ 4
  · rw [if_pos h1] at h
    by_cases h2 : (b.size : Int) ≤ 60
    · omega
    · rw [if_neg h2] at h; cases h
  · rw [if_neg h1] at h; cases h
theorem strOfNums_size (xs : List Int) : (strOfNums xs).size = xs.length := by simp [strOfNums, ByteArray.size]
end Go.Proofs.Ytkkchcalhomgcaa.Msg
