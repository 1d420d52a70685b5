/- Rising prefixes and good tables as plain functions on lists. No condition. -/
import Derived.Test.YtakoaogbkajkcaaLoop
namespace Go.Proofs.Ytakoaogbkajkcaa.Tbl
open Go.Proofs.Ytakoaogbkajkcaa.Pfx
abbrev Pr2 := Int × Int
/-- Prefixes are good and rise, behind one. -/
def risingFrom : Option Pr2 → List Pr2 → Bool
  | _, [] => true
  | prev, p :: t => good p.1 p.2 && (match prev with | none => true | some q => decide (cmpP q.1 q.2 p.1 p.2 < 0)) && risingFrom (some p) t
def rising (l : List Pr2) : Bool := risingFrom none l
def isVal (n : Int) : Bool := decide (0 ≤ n ∧ n ≤ 1000000)
theorem risingFrom_good : ∀ (l : List Pr2) (o : Option Pr2), risingFrom o l = true → ∀ p, p ∈ l → good p.1 p.2 = true
  | [], _, _, p, hp => by simp at hp
  | q :: t, o, h, p, hp => by
    simp only [risingFrom, Bool.and_eq_true] at h
    rcases List.mem_cons.1 hp with rfl | hp
    · exact h.1.1
    · exact risingFrom_good t _ h.2 p hp
theorem rising_good {l : List Pr2} (h : rising l = true) : ∀ p, p ∈ l → good p.1 p.2 = true := risingFrom_good l none h
end Go.Proofs.Ytakoaogbkajkcaa.Tbl
