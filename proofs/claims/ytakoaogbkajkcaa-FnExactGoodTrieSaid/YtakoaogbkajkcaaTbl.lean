/- Rising prefixes and good tables as plain functions on lists. No condition. -/
import Derived.Test.YtakoaogbkajkcaaLoop
namespace Go.Proofs.Ytakoaogbkajkcaa.Tbl
open Go.Proofs.Ytakoaogbkajkcaa.Pfx
abbrev Pr2 := Int × Int
/-- Prefixes are good and rise, behind one. -/
def risingFrom : Option Pr2 → List Pr2 → Bool
  | _, [] => true
  | prev, p :: t => good p.1 p.2 && (match prev with | none => true | some q => decide (cmpP q.1 q.2 p.1 p.2 < 0)) && risingFrom (some p) t
def rising (l : List Pr2) : Bool := risingFrom none l
def isVal (n : Int) : Bool := decide (0 ≤ n ∧ n ≤ 1000000)
theorem risingFrom_good : ∀ (l : List Pr2) (o : Option Pr2), risingFrom o l = true → ∀ p, p ∈ l → good p.1 p.2 = true
  | [], _, _, p, hp => by simp at hp
  | q :: t, o, h, p, hp => by
    simp only [risingFrom, Bool.and_eq_true] at h
    rcases List.mem_cons.1 hp with rfl | hp
    · exact h.1.1
    · exact risingFrom_good t _ h.2 p hp
theorem rising_good {l : List Pr2} (h : rising l = true) : ∀ p, p ∈ l → good p.1 p.2 = true := risingFrom_good l none h
/-- Is one of these, other than the i-th one, covered by p or its sibling? k: the place of the first of them. -/
def badAt (i : Nat) (p : Pr2) : Nat → List Pr2 → Bool
  | _, [] => false
  | k, q :: t => (!decide (i = k) && (decide (p.2 ≤ q.2 ∧ p.1 ≤ q.1 ∧ q.1 ≤ p.1 + sz p.2 - 1) || (decide (0 < p.2) && (q.1 == sib p.1 p.2 && q.2 == p.2)))) || badAt i p (k + 1) t
def outI (l : List Pr2) : Nat → List Pr2 → Bool
  | _, [] => true
  | i, p :: t => !badAt i p 0 l && outI l (i + 1) t
def outS (l : List Pr2) : Option Pr2 → Nat → List Pr2 → Bool
  | _, _, [] => true
  | prev, i, p :: t => !badAt i p 0 l && (match prev with | none => true | some q => decide (cmpP q.1 q.2 p.1 p.2 < 0)) && outS l (some p) (i + 1) t
theorem out_same (l : List Pr2) : ∀ (t : List Pr2) (prev : Option Pr2) (i : Nat), (t.all (fun p => good p.1 p.2) && outS l prev i t) = (risingFrom prev t && outI l i t)
  | [], _, _ => rfl
  | p :: t, prev, i => by
    simp only [List.all_cons, outS, risingFrom, outI]
    have ih := out_same l t (some p) (i + 1)
    cases h1 : good p.1 p.2 <;> cases h2 : badAt i p 0 l <;> simp
    have e : ∀ x y z w u : Bool, (y && z) = (w && u) → (y && (x && z)) = ((x && w) && u) := by decide
    exact e _ _ _ _ _ ih
def goodSet (l : List Pr2) : Bool := decide (l.length ≤ 64) && rising l && outI l 0 l
end Go.Proofs.Ytakoaogbkajkcaa.Tbl
