/-
  No cell of these rows narrows 'for every input' (looked for: loops, veiled, ifaces, maps, wideKeys, modest, calm, conditions, laid).
  DERIVED. THE GIVEN ROWS OF THIS SEAT. 9 by the template 'for every input the law returns true; each argument reads behind the call as it read before'; 0 by the template 'total and deterministic' (their statements: YtkollihfejkklaaTotals.lean).
  GIVEN WITH THE SEED: the statements are not yours to turn. If you find one false, say at which input.
  Laid BY PROGRAM, IN A SANDBOX (cutbox-rows.mjs): the forced cells as the released guide's own fill.sh prints them over the translation 383ed64529338288… (all of the seat's roots in one cut). By AI agents, Wed Nov 11 2026. No macro, syntax, notation, axiom, sorry.
-/
import Derived.Test.YtkollihfejkklaaChecked
import GoSem.Claim
import GoSem.ClaimJoined
import GoSem.ClaimMapViews
import Derived.JoinedTies
import Derived.KernelRfl
namespace Go.Proofs.Ytkollihfejkklaa
/- THE CELL 'sum', in the pinned program and in every row, IS THE sha256 OF THE DUMP (.gsa) THAT YtkollihfejkklaaProg.lean LOADS. Nothing in Lean hashes anything: it is a label: what it is worth is what the hold of that sum in a sandbox is worth. -/
noncomputable def Try.pinned : Pinned := { name := "ytkollihfejkklaa", sum := "383ed64529338288fcd0ce5253b5006110ac3ad537ea6e0e48dd0a200913b22e", checked := Try.checked }
namespace Rows
def none {H : Type} : Left H := { results := [], args := [] }

/-- 'laws.FnExactConstants': WHATEVER THE INPUT: true; the input reads as it did. -/
def fnExactConstantsSpec : ChangeSpec := { name := "fnExactConstants", fn := fun _ => fun
  | [] => { results := [.lit (.bool true)], args := [] }
  | _ => none }
def fnExactConstantsRow : OpenClaim := { program := "ytkollihfejkklaa", sum := "383ed64529338288fcd0ce5253b5006110ac3ad537ea6e0e48dd0a200913b22e", func := "loop.example/g00344/laws.FnExactConstants", spec := "fnExactConstants", apart := false }
def FnExactConstantsSaid : Prop := fnExactConstantsRow.holds Try.pinned (OpenSpec.ofChange fnExactConstantsSpec)

/-- ITS FALSE NEIGHBOUR: 'it returns false'. Refute it at one input. -/
def fnExactConstantsWrong : ChangeSpec := { name := "fnExactConstants", fn := fun _ => fun
  | [] => { results := [.lit (.bool false)], args := [] }
  | _ => none }
def FnExactConstantsWrongFalsely : Prop := fnExactConstantsRow.holds Try.pinned (OpenSpec.ofChange fnExactConstantsWrong)

/-- 'laws.FnExactGoodPrefix': WHATEVER THE INPUT: true; the input reads as it did. -/
def fnExactGoodPrefixSpec : ChangeSpec := { name := "fnExactGoodPrefix", fn := fun _ => fun
  | [d] => { results := [.lit (.bool true)], args := [d] }
  | _ => none }
def fnExactGoodPrefixRow : OpenClaim := { program := "ytkollihfejkklaa", sum := "383ed64529338288fcd0ce5253b5006110ac3ad537ea6e0e48dd0a200913b22e", func := "loop.example/g00344/laws.FnExactGoodPrefix", spec := "fnExactGoodPrefix", apart := false }
def FnExactGoodPrefixSaid : Prop := fnExactGoodPrefixRow.holds Try.pinned (OpenSpec.ofChange fnExactGoodPrefixSpec)

/-- ITS FALSE NEIGHBOUR: 'it returns false'. Refute it at one input. -/
def fnExactGoodPrefixWrong : ChangeSpec := { name := "fnExactGoodPrefix", fn := fun _ => fun
  | [d] => { results := [.lit (.bool false)], args := [d] }
  | _ => none }
def FnExactGoodPrefixWrongFalsely : Prop := fnExactGoodPrefixRow.holds Try.pinned (OpenSpec.ofChange fnExactGoodPrefixWrong)

/-- 'laws.FnExactHasAddr': WHATEVER THE INPUT: true; the input reads as it did. -/
def fnExactHasAddrSpec : ChangeSpec := { name := "fnExactHasAddr", fn := fun _ => fun
  | [d1, d2] => { results := [.lit (.bool true)], args := [d1, d2] }
  | _ => none }
def fnExactHasAddrRow : OpenClaim := { program := "ytkollihfejkklaa", sum := "383ed64529338288fcd0ce5253b5006110ac3ad537ea6e0e48dd0a200913b22e", func := "loop.example/g00344/laws.FnExactHasAddr", spec := "fnExactHasAddr", apart := false }
def FnExactHasAddrSaid : Prop := fnExactHasAddrRow.holds Try.pinned (OpenSpec.ofChange fnExactHasAddrSpec)

/-- ITS FALSE NEIGHBOUR: 'it returns false'. Refute it at one input. -/
def fnExactHasAddrWrong : ChangeSpec := { name := "fnExactHasAddr", fn := fun _ => fun
  | [d1, d2] => { results := [.lit (.bool false)], args := [d1, d2] }
  | _ => none }
def FnExactHasAddrWrongFalsely : Prop := fnExactHasAddrRow.holds Try.pinned (OpenSpec.ofChange fnExactHasAddrWrong)

/-- 'laws.FnExactPrefixHas': WHATEVER THE INPUT: true; the input reads as it did. -/
def fnExactPrefixHasSpec : ChangeSpec := { name := "fnExactPrefixHas", fn := fun _ => fun
  | [d1, d2] => { results := [.lit (.bool true)], args := [d1, d2] }
  | _ => none }
def fnExactPrefixHasRow : OpenClaim := { program := "ytkollihfejkklaa", sum := "383ed64529338288fcd0ce5253b5006110ac3ad537ea6e0e48dd0a200913b22e", func := "loop.example/g00344/laws.FnExactPrefixHas", spec := "fnExactPrefixHas", apart := false }
def FnExactPrefixHasSaid : Prop := fnExactPrefixHasRow.holds Try.pinned (OpenSpec.ofChange fnExactPrefixHasSpec)

/-- ITS FALSE NEIGHBOUR: 'it returns false'. Refute it at one input. -/
def fnExactPrefixHasWrong : ChangeSpec := { name := "fnExactPrefixHas", fn := fun _ => fun
  | [d1, d2] => { results := [.lit (.bool false)], args := [d1, d2] }
  | _ => none }
def FnExactPrefixHasWrongFalsely : Prop := fnExactPrefixHasRow.holds Try.pinned (OpenSpec.ofChange fnExactPrefixHasWrong)

/-- 'laws.FnExactParentOf': WHATEVER THE INPUT: true; the input reads as it did. -/
def fnExactParentOfSpec : ChangeSpec := { name := "fnExactParentOf", fn := fun _ => fun
  | [d] => { results := [.lit (.bool true)], args := [d] }
  | _ => none }
def fnExactParentOfRow : OpenClaim := { program := "ytkollihfejkklaa", sum := "383ed64529338288fcd0ce5253b5006110ac3ad537ea6e0e48dd0a200913b22e", func := "loop.example/g00344/laws.FnExactParentOf", spec := "fnExactParentOf", apart := false }
def FnExactParentOfSaid : Prop := fnExactParentOfRow.holds Try.pinned (OpenSpec.ofChange fnExactParentOfSpec)

/-- ITS FALSE NEIGHBOUR: 'it returns false'. Refute it at one input. -/
def fnExactParentOfWrong : ChangeSpec := { name := "fnExactParentOf", fn := fun _ => fun
  | [d] => { results := [.lit (.bool false)], args := [d] }
  | _ => none }
def FnExactParentOfWrongFalsely : Prop := fnExactParentOfRow.holds Try.pinned (OpenSpec.ofChange fnExactParentOfWrong)

/-- 'laws.FnExactHalvesOf': WHATEVER THE INPUT: true; the input reads as it did. -/
def fnExactHalvesOfSpec : ChangeSpec := { name := "fnExactHalvesOf", fn := fun _ => fun
  | [d] => { results := [.lit (.bool true)], args := [d] }
  | _ => none }
def fnExactHalvesOfRow : OpenClaim := { program := "ytkollihfejkklaa", sum := "383ed64529338288fcd0ce5253b5006110ac3ad537ea6e0e48dd0a200913b22e", func := "loop.example/g00344/laws.FnExactHalvesOf", spec := "fnExactHalvesOf", apart := false }
def FnExactHalvesOfSaid : Prop := fnExactHalvesOfRow.holds Try.pinned (OpenSpec.ofChange fnExactHalvesOfSpec)

/-- ITS FALSE NEIGHBOUR: 'it returns false'. Refute it at one input. -/
def fnExactHalvesOfWrong : ChangeSpec := { name := "fnExactHalvesOf", fn := fun _ => fun
  | [d] => { results := [.lit (.bool false)], args := [d] }
  | _ => none }
def FnExactHalvesOfWrongFalsely : Prop := fnExactHalvesOfRow.holds Try.pinned (OpenSpec.ofChange fnExactHalvesOfWrong)

/-- 'laws.FnExactSiblingOf': WHATEVER THE INPUT: true; the input reads as it did. -/
def fnExactSiblingOfSpec : ChangeSpec := { name := "fnExactSiblingOf", fn := fun _ => fun
  | [d] => { results := [.lit (.bool true)], args := [d] }
  | _ => none }
def fnExactSiblingOfRow : OpenClaim := { program := "ytkollihfejkklaa", sum := "383ed64529338288fcd0ce5253b5006110ac3ad537ea6e0e48dd0a200913b22e", func := "loop.example/g00344/laws.FnExactSiblingOf", spec := "fnExactSiblingOf", apart := false }
def FnExactSiblingOfSaid : Prop := fnExactSiblingOfRow.holds Try.pinned (OpenSpec.ofChange fnExactSiblingOfSpec)

/-- ITS FALSE NEIGHBOUR: 'it returns false'. Refute it at one input. -/
def fnExactSiblingOfWrong : ChangeSpec := { name := "fnExactSiblingOf", fn := fun _ => fun
  | [d] => { results := [.lit (.bool false)], args := [d] }
  | _ => none }
def FnExactSiblingOfWrongFalsely : Prop := fnExactSiblingOfRow.holds Try.pinned (OpenSpec.ofChange fnExactSiblingOfWrong)

/-- 'laws.FnExactComparePrefixes': WHATEVER THE INPUT: true; the input reads as it did. -/
def fnExactComparePrefixesSpec : ChangeSpec := { name := "fnExactComparePrefixes", fn := fun _ => fun
  | [d1, d2] => { results := [.lit (.bool true)], args := [d1, d2] }
  | _ => none }
def fnExactComparePrefixesRow : OpenClaim := { program := "ytkollihfejkklaa", sum := "383ed64529338288fcd0ce5253b5006110ac3ad537ea6e0e48dd0a200913b22e", func := "loop.example/g00344/laws.FnExactComparePrefixes", spec := "fnExactComparePrefixes", apart := false }
def FnExactComparePrefixesSaid : Prop := fnExactComparePrefixesRow.holds Try.pinned (OpenSpec.ofChange fnExactComparePrefixesSpec)

/-- ITS FALSE NEIGHBOUR: 'it returns false'. Refute it at one input. -/
def fnExactComparePrefixesWrong : ChangeSpec := { name := "fnExactComparePrefixes", fn := fun _ => fun
  | [d1, d2] => { results := [.lit (.bool false)], args := [d1, d2] }
  | _ => none }
def FnExactComparePrefixesWrongFalsely : Prop := fnExactComparePrefixesRow.holds Try.pinned (OpenSpec.ofChange fnExactComparePrefixesWrong)

/-- 'laws.FnHalves': WHATEVER THE INPUT: true; the input reads as it did. -/
def fnHalvesSpec : ChangeSpec := { name := "fnHalves", fn := fun _ => fun
  | [d1, d2] => { results := [.lit (.bool true)], args := [d1, d2] }
  | _ => none }
def fnHalvesRow : OpenClaim := { program := "ytkollihfejkklaa", sum := "383ed64529338288fcd0ce5253b5006110ac3ad537ea6e0e48dd0a200913b22e", func := "loop.example/g00344/laws.FnHalves", spec := "fnHalves", apart := false }
def FnHalvesSaid : Prop := fnHalvesRow.holds Try.pinned (OpenSpec.ofChange fnHalvesSpec)

/-- ITS FALSE NEIGHBOUR: 'it returns false'. Refute it at one input. -/
def fnHalvesWrong : ChangeSpec := { name := "fnHalves", fn := fun _ => fun
  | [d1, d2] => { results := [.lit (.bool false)], args := [d1, d2] }
  | _ => none }
def FnHalvesWrongFalsely : Prop := fnHalvesRow.holds Try.pinned (OpenSpec.ofChange fnHalvesWrong)

/- THE SECOND FORM. 'bulk': how many values and letters a reading holds, each counted each time it is reached (what is shared counts as often as it is met; a slice's spare places count too). A statement '..UptoSaid' is the law's where the arguments, and the package variables that the reading takes, are together of bulk at most 1048576: NARROWER than '..Said'. Prove '..Said' where nothing that the law and all that it calls make is longer than what came in: it says more and counts as full. Else prove '..UptoSaid'. A law counts once. -/
mutual
def uptoBulk {H : Type} : DataW H → Nat
  | .lit (.string bytes) => bytes.length + 1
  | .lit _ => 1
  | .nil => 1
  | .ptr d => uptoBulk d + 1
  | .slice elems spare => uptoBulkAll elems + uptoBulkAll spare + 1
  | .agg parts => uptoBulkAll parts + 1
  | .iface _ d => uptoBulk d + 1
  | .map entries => uptoBulkEntries entries + 1
  | .held _ => 1
def uptoBulkAll {H : Type} : List (DataW H) → Nat
  | [] => 0
  | d :: r => uptoBulk d + uptoBulkAll r
def uptoBulkEntries {H : Type} : List (Lit × DataW H) → Nat
  | [] => 0
  | x :: r => uptoBulkEntry x + uptoBulkEntries r
def uptoBulkEntry {H : Type} : Lit × DataW H → Nat
  | (.string bytes, d) => bytes.length + uptoBulk d + 1
  | (_, d) => uptoBulk d + 1
 end
def uptoSmall : (H : Type) → List (DataW H) → Bool := fun _ ds => decide (uptoBulkAll ds ≤ 1048576)
def OpenSpec.upto (s : _root_.Go.ChangeSpec) : _root_.Go.OpenSpec := { _root_.Go.OpenSpec.ofChange s with cond := some uptoSmall }

/-- 'laws.FnExactConstants', WHERE WHAT IT READS IS OF BULK AT MOST 1048576: true; the input reads as it did. -/
def fnExactConstantsUptoRow : OpenClaim := { program := "ytkollihfejkklaa", sum := "383ed64529338288fcd0ce5253b5006110ac3ad537ea6e0e48dd0a200913b22e", func := "loop.example/g00344/laws.FnExactConstants", spec := "fnExactConstants", apart := false, narrowed := true }
def FnExactConstantsUptoSaid : Prop := fnExactConstantsUptoRow.holds Try.pinned (OpenSpec.upto fnExactConstantsSpec)

/-- 'laws.FnExactGoodPrefix', WHERE WHAT IT READS IS OF BULK AT MOST 1048576: true; the input reads as it did. -/
def fnExactGoodPrefixUptoRow : OpenClaim := { program := "ytkollihfejkklaa", sum := "383ed64529338288fcd0ce5253b5006110ac3ad537ea6e0e48dd0a200913b22e", func := "loop.example/g00344/laws.FnExactGoodPrefix", spec := "fnExactGoodPrefix", apart := false, narrowed := true }
def FnExactGoodPrefixUptoSaid : Prop := fnExactGoodPrefixUptoRow.holds Try.pinned (OpenSpec.upto fnExactGoodPrefixSpec)

/-- 'laws.FnExactHasAddr', WHERE WHAT IT READS IS OF BULK AT MOST 1048576: true; the input reads as it did. -/
def fnExactHasAddrUptoRow : OpenClaim := { program := "ytkollihfejkklaa", sum := "383ed64529338288fcd0ce5253b5006110ac3ad537ea6e0e48dd0a200913b22e", func := "loop.example/g00344/laws.FnExactHasAddr", spec := "fnExactHasAddr", apart := false, narrowed := true }
def FnExactHasAddrUptoSaid : Prop := fnExactHasAddrUptoRow.holds Try.pinned (OpenSpec.upto fnExactHasAddrSpec)

/-- 'laws.FnExactPrefixHas', WHERE WHAT IT READS IS OF BULK AT MOST 1048576: true; the input reads as it did. -/
def fnExactPrefixHasUptoRow : OpenClaim := { program := "ytkollihfejkklaa", sum := "383ed64529338288fcd0ce5253b5006110ac3ad537ea6e0e48dd0a200913b22e", func := "loop.example/g00344/laws.FnExactPrefixHas", spec := "fnExactPrefixHas", apart := false, narrowed := true }
def FnExactPrefixHasUptoSaid : Prop := fnExactPrefixHasUptoRow.holds Try.pinned (OpenSpec.upto fnExactPrefixHasSpec)

/-- 'laws.FnExactParentOf', WHERE WHAT IT READS IS OF BULK AT MOST 1048576: true; the input reads as it did. -/
def fnExactParentOfUptoRow : OpenClaim := { program := "ytkollihfejkklaa", sum := "383ed64529338288fcd0ce5253b5006110ac3ad537ea6e0e48dd0a200913b22e", func := "loop.example/g00344/laws.FnExactParentOf", spec := "fnExactParentOf", apart := false, narrowed := true }
def FnExactParentOfUptoSaid : Prop := fnExactParentOfUptoRow.holds Try.pinned (OpenSpec.upto fnExactParentOfSpec)

/-- 'laws.FnExactHalvesOf', WHERE WHAT IT READS IS OF BULK AT MOST 1048576: true; the input reads as it did. -/
def fnExactHalvesOfUptoRow : OpenClaim := { program := "ytkollihfejkklaa", sum := "383ed64529338288fcd0ce5253b5006110ac3ad537ea6e0e48dd0a200913b22e", func := "loop.example/g00344/laws.FnExactHalvesOf", spec := "fnExactHalvesOf", apart := false, narrowed := true }
def FnExactHalvesOfUptoSaid : Prop := fnExactHalvesOfUptoRow.holds Try.pinned (OpenSpec.upto fnExactHalvesOfSpec)

/-- 'laws.FnExactSiblingOf', WHERE WHAT IT READS IS OF BULK AT MOST 1048576: true; the input reads as it did. -/
def fnExactSiblingOfUptoRow : OpenClaim := { program := "ytkollihfejkklaa", sum := "383ed64529338288fcd0ce5253b5006110ac3ad537ea6e0e48dd0a200913b22e", func := "loop.example/g00344/laws.FnExactSiblingOf", spec := "fnExactSiblingOf", apart := false, narrowed := true }
def FnExactSiblingOfUptoSaid : Prop := fnExactSiblingOfUptoRow.holds Try.pinned (OpenSpec.upto fnExactSiblingOfSpec)

/-- 'laws.FnExactComparePrefixes', WHERE WHAT IT READS IS OF BULK AT MOST 1048576: true; the input reads as it did. -/
def fnExactComparePrefixesUptoRow : OpenClaim := { program := "ytkollihfejkklaa", sum := "383ed64529338288fcd0ce5253b5006110ac3ad537ea6e0e48dd0a200913b22e", func := "loop.example/g00344/laws.FnExactComparePrefixes", spec := "fnExactComparePrefixes", apart := false, narrowed := true }
def FnExactComparePrefixesUptoSaid : Prop := fnExactComparePrefixesUptoRow.holds Try.pinned (OpenSpec.upto fnExactComparePrefixesSpec)

/-- 'laws.FnHalves', WHERE WHAT IT READS IS OF BULK AT MOST 1048576: true; the input reads as it did. -/
def fnHalvesUptoRow : OpenClaim := { program := "ytkollihfejkklaa", sum := "383ed64529338288fcd0ce5253b5006110ac3ad537ea6e0e48dd0a200913b22e", func := "loop.example/g00344/laws.FnHalves", spec := "fnHalves", apart := false, narrowed := true }
def FnHalvesUptoSaid : Prop := fnHalvesUptoRow.holds Try.pinned (OpenSpec.upto fnHalvesSpec)

end Rows
end Go.Proofs.Ytkollihfejkklaa
