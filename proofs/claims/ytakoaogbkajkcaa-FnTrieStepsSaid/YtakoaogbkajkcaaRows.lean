/-
  No cell of these rows narrows 'for every input' (looked for: loops, veiled, ifaces, maps, wideKeys, modest, calm, conditions, laid).
  DERIVED. THE GIVEN ROWS OF THIS SEAT. 10 by the template 'for every input the law returns true; each argument reads behind the call as it read before'; 0 by the template 'total and deterministic' (their statements: YtakoaogbkajkcaaTotals.lean).
  GIVEN WITH THE SEED: the statements are not yours to turn. If you find one false, say at which input.
  Laid BY PROGRAM, IN A SANDBOX (cutbox-rows.mjs): the forced cells as the released guide's own fill.sh prints them over the translation 047e23267455587d… (all of the seat's roots in one cut). By AI agents, Wed Nov 11 2026. No macro, syntax, notation, axiom, sorry.
-/
import Derived.Test.YtakoaogbkajkcaaChecked
import GoSem.Claim
import GoSem.ClaimJoined
import GoSem.ClaimMapViews
import Derived.JoinedTies
import Derived.KernelRfl
namespace Go.Proofs.Ytakoaogbkajkcaa
/- THE CELL 'sum', in the pinned program and in every row, IS THE sha256 OF THE DUMP (.gsa) THAT YtakoaogbkajkcaaProg.lean LOADS. Nothing in Lean hashes anything: it is a label: what it is worth is what the hold of that sum in a sandbox is worth. -/
noncomputable def Try.pinned : Pinned := { name := "ytakoaogbkajkcaa", sum := "047e23267455587d2ff84178eb220bb761180e7b89bcbeaf8252772e73cc0b29", checked := Try.checked }
namespace Rows
def none {H : Type} : Left H := { results := [], args := [] }

/-- 'laws.FnExactGoodTable': WHATEVER THE INPUT: true; the input reads as it did. -/
def fnExactGoodTableSpec : ChangeSpec := { name := "fnExactGoodTable", fn := fun _ => fun
  | [d] => { results := [.lit (.bool true)], args := [d] }
  | _ => none }
def fnExactGoodTableRow : OpenClaim := { program := "ytakoaogbkajkcaa", sum := "047e23267455587d2ff84178eb220bb761180e7b89bcbeaf8252772e73cc0b29", func := "loop.example/g00344/laws.FnExactGoodTable", spec := "fnExactGoodTable", unfollowed := true, recurses := true, apart := false }
def FnExactGoodTableSaid : Prop := fnExactGoodTableRow.holds Try.pinned (OpenSpec.ofChange fnExactGoodTableSpec)

/-- ITS FALSE NEIGHBOUR: 'it returns false'. Refute it at one input. -/
def fnExactGoodTableWrong : ChangeSpec := { name := "fnExactGoodTable", fn := fun _ => fun
  | [d] => { results := [.lit (.bool false)], args := [d] }
  | _ => none }
def FnExactGoodTableWrongFalsely : Prop := fnExactGoodTableRow.holds Try.pinned (OpenSpec.ofChange fnExactGoodTableWrong)

/-- 'laws.FnExactGoodTrie': WHATEVER THE INPUT: true; the input reads as it did. -/
def fnExactGoodTrieSpec : ChangeSpec := { name := "fnExactGoodTrie", fn := fun _ => fun
  | [d] => { results := [.lit (.bool true)], args := [d] }
  | _ => none }
def fnExactGoodTrieRow : OpenClaim := { program := "ytakoaogbkajkcaa", sum := "047e23267455587d2ff84178eb220bb761180e7b89bcbeaf8252772e73cc0b29", func := "loop.example/g00344/laws.FnExactGoodTrie", spec := "fnExactGoodTrie", apart := false }
def FnExactGoodTrieSaid : Prop := fnExactGoodTrieRow.holds Try.pinned (OpenSpec.ofChange fnExactGoodTrieSpec)

/-- ITS FALSE NEIGHBOUR: 'it returns false'. Refute it at one input. -/
def fnExactGoodTrieWrong : ChangeSpec := { name := "fnExactGoodTrie", fn := fun _ => fun
  | [d] => { results := [.lit (.bool false)], args := [d] }
  | _ => none }
def FnExactGoodTrieWrongFalsely : Prop := fnExactGoodTrieRow.holds Try.pinned (OpenSpec.ofChange fnExactGoodTrieWrong)

/-- 'laws.FnExactLongestIn': WHATEVER THE INPUT: true; the input reads as it did. -/
def fnExactLongestInSpec : ChangeSpec := { name := "fnExactLongestIn", fn := fun _ => fun
  | [d1, d2] => { results := [.lit (.bool true)], args := [d1, d2] }
  | _ => none }
def fnExactLongestInRow : OpenClaim := { program := "ytakoaogbkajkcaa", sum := "047e23267455587d2ff84178eb220bb761180e7b89bcbeaf8252772e73cc0b29", func := "loop.example/g00344/laws.FnExactLongestIn", spec := "fnExactLongestIn", unfollowed := true, recurses := true, apart := false }
def FnExactLongestInSaid : Prop := fnExactLongestInRow.holds Try.pinned (OpenSpec.ofChange fnExactLongestInSpec)

/-- ITS FALSE NEIGHBOUR: 'it returns false'. Refute it at one input. -/
def fnExactLongestInWrong : ChangeSpec := { name := "fnExactLongestIn", fn := fun _ => fun
  | [d1, d2] => { results := [.lit (.bool false)], args := [d1, d2] }
  | _ => none }
def FnExactLongestInWrongFalsely : Prop := fnExactLongestInRow.holds Try.pinned (OpenSpec.ofChange fnExactLongestInWrong)

/-- 'laws.FnExactLookUp': WHATEVER THE INPUT: true; the input reads as it did. -/
def fnExactLookUpSpec : ChangeSpec := { name := "fnExactLookUp", fn := fun _ => fun
  | [d1, d2] => { results := [.lit (.bool true)], args := [d1, d2] }
  | _ => none }
def fnExactLookUpRow : OpenClaim := { program := "ytakoaogbkajkcaa", sum := "047e23267455587d2ff84178eb220bb761180e7b89bcbeaf8252772e73cc0b29", func := "loop.example/g00344/laws.FnExactLookUp", spec := "fnExactLookUp", apart := false }
def FnExactLookUpSaid : Prop := fnExactLookUpRow.holds Try.pinned (OpenSpec.ofChange fnExactLookUpSpec)

/-- ITS FALSE NEIGHBOUR: 'it returns false'. Refute it at one input. -/
def fnExactLookUpWrong : ChangeSpec := { name := "fnExactLookUp", fn := fun _ => fun
  | [d1, d2] => { results := [.lit (.bool false)], args := [d1, d2] }
  | _ => none }
def FnExactLookUpWrongFalsely : Prop := fnExactLookUpRow.holds Try.pinned (OpenSpec.ofChange fnExactLookUpWrong)

/-- 'laws.FnExactTrieEntries': WHATEVER THE INPUT: true; the input reads as it did. -/
def fnExactTrieEntriesSpec : ChangeSpec := { name := "fnExactTrieEntries", fn := fun _ => fun
  | [d] => { results := [.lit (.bool true)], args := [d] }
  | _ => none }
def fnExactTrieEntriesRow : OpenClaim := { program := "ytakoaogbkajkcaa", sum := "047e23267455587d2ff84178eb220bb761180e7b89bcbeaf8252772e73cc0b29", func := "loop.example/g00344/laws.FnExactTrieEntries", spec := "fnExactTrieEntries", recurses := true, apart := false }
def FnExactTrieEntriesSaid : Prop := fnExactTrieEntriesRow.holds Try.pinned (OpenSpec.ofChange fnExactTrieEntriesSpec)

/-- ITS FALSE NEIGHBOUR: 'it returns false'. Refute it at one input. -/
def fnExactTrieEntriesWrong : ChangeSpec := { name := "fnExactTrieEntries", fn := fun _ => fun
  | [d] => { results := [.lit (.bool false)], args := [d] }
  | _ => none }
def FnExactTrieEntriesWrongFalsely : Prop := fnExactTrieEntriesRow.holds Try.pinned (OpenSpec.ofChange fnExactTrieEntriesWrong)

/-- 'laws.FnExactInsertIn': WHATEVER THE INPUT: true; the input reads as it did. -/
def fnExactInsertInSpec : ChangeSpec := { name := "fnExactInsertIn", fn := fun _ => fun
  | [d1, d2, d3] => { results := [.lit (.bool true)], args := [d1, d2, d3] }
  | _ => none }
def fnExactInsertInRow : OpenClaim := { program := "ytakoaogbkajkcaa", sum := "047e23267455587d2ff84178eb220bb761180e7b89bcbeaf8252772e73cc0b29", func := "loop.example/g00344/laws.FnExactInsertIn", spec := "fnExactInsertIn", apart := false }
def FnExactInsertInSaid : Prop := fnExactInsertInRow.holds Try.pinned (OpenSpec.ofChange fnExactInsertInSpec)

/-- ITS FALSE NEIGHBOUR: 'it returns false'. Refute it at one input. -/
def fnExactInsertInWrong : ChangeSpec := { name := "fnExactInsertIn", fn := fun _ => fun
  | [d1, d2, d3] => { results := [.lit (.bool false)], args := [d1, d2, d3] }
  | _ => none }
def FnExactInsertInWrongFalsely : Prop := fnExactInsertInRow.holds Try.pinned (OpenSpec.ofChange fnExactInsertInWrong)

/-- 'laws.FnExactBuildTrie': WHATEVER THE INPUT: true; the input reads as it did. -/
def fnExactBuildTrieSpec : ChangeSpec := { name := "fnExactBuildTrie", fn := fun _ => fun
  | [d] => { results := [.lit (.bool true)], args := [d] }
  | _ => none }
def fnExactBuildTrieRow : OpenClaim := { program := "ytakoaogbkajkcaa", sum := "047e23267455587d2ff84178eb220bb761180e7b89bcbeaf8252772e73cc0b29", func := "loop.example/g00344/laws.FnExactBuildTrie", spec := "fnExactBuildTrie", unfollowed := true, recurses := true, apart := false }
def FnExactBuildTrieSaid : Prop := fnExactBuildTrieRow.holds Try.pinned (OpenSpec.ofChange fnExactBuildTrieSpec)

/-- ITS FALSE NEIGHBOUR: 'it returns false'. Refute it at one input. -/
def fnExactBuildTrieWrong : ChangeSpec := { name := "fnExactBuildTrie", fn := fun _ => fun
  | [d] => { results := [.lit (.bool false)], args := [d] }
  | _ => none }
def FnExactBuildTrieWrongFalsely : Prop := fnExactBuildTrieRow.holds Try.pinned (OpenSpec.ofChange fnExactBuildTrieWrong)

/-- 'laws.FnExactRemoveFrom': WHATEVER THE INPUT: true; the input reads as it did. -/
def fnExactRemoveFromSpec : ChangeSpec := { name := "fnExactRemoveFrom", fn := fun _ => fun
  | [d1, d2] => { results := [.lit (.bool true)], args := [d1, d2] }
  | _ => none }
def fnExactRemoveFromRow : OpenClaim := { program := "ytakoaogbkajkcaa", sum := "047e23267455587d2ff84178eb220bb761180e7b89bcbeaf8252772e73cc0b29", func := "loop.example/g00344/laws.FnExactRemoveFrom", spec := "fnExactRemoveFrom", unfollowed := true, recurses := true, apart := false }
def FnExactRemoveFromSaid : Prop := fnExactRemoveFromRow.holds Try.pinned (OpenSpec.ofChange fnExactRemoveFromSpec)

/-- ITS FALSE NEIGHBOUR: 'it returns false'. Refute it at one input. -/
def fnExactRemoveFromWrong : ChangeSpec := { name := "fnExactRemoveFrom", fn := fun _ => fun
  | [d1, d2] => { results := [.lit (.bool false)], args := [d1, d2] }
  | _ => none }
def FnExactRemoveFromWrongFalsely : Prop := fnExactRemoveFromRow.holds Try.pinned (OpenSpec.ofChange fnExactRemoveFromWrong)

/-- 'laws.FnLongest': WHATEVER THE INPUT: true; the input reads as it did. -/
def fnLongestSpec : ChangeSpec := { name := "fnLongest", fn := fun _ => fun
  | [d1, d2] => { results := [.lit (.bool true)], args := [d1, d2] }
  | _ => none }
def fnLongestRow : OpenClaim := { program := "ytakoaogbkajkcaa", sum := "047e23267455587d2ff84178eb220bb761180e7b89bcbeaf8252772e73cc0b29", func := "loop.example/g00344/laws.FnLongest", spec := "fnLongest", unfollowed := true, recurses := true, apart := false }
def FnLongestSaid : Prop := fnLongestRow.holds Try.pinned (OpenSpec.ofChange fnLongestSpec)

/-- ITS FALSE NEIGHBOUR: 'it returns false'. Refute it at one input. -/
def fnLongestWrong : ChangeSpec := { name := "fnLongest", fn := fun _ => fun
  | [d1, d2] => { results := [.lit (.bool false)], args := [d1, d2] }
  | _ => none }
def FnLongestWrongFalsely : Prop := fnLongestRow.holds Try.pinned (OpenSpec.ofChange fnLongestWrong)

/-- 'laws.FnTrieSteps': WHATEVER THE INPUT: true; the input reads as it did. -/
def fnTrieStepsSpec : ChangeSpec := { name := "fnTrieSteps", fn := fun _ => fun
  | [d1, d2] => { results := [.lit (.bool true)], args := [d1, d2] }
  | _ => none }
def fnTrieStepsRow : OpenClaim := { program := "ytakoaogbkajkcaa", sum := "047e23267455587d2ff84178eb220bb761180e7b89bcbeaf8252772e73cc0b29", func := "loop.example/g00344/laws.FnTrieSteps", spec := "fnTrieSteps", unfollowed := true, recurses := true, apart := false }
def FnTrieStepsSaid : Prop := fnTrieStepsRow.holds Try.pinned (OpenSpec.ofChange fnTrieStepsSpec)

/-- ITS FALSE NEIGHBOUR: 'it returns false'. Refute it at one input. -/
def fnTrieStepsWrong : ChangeSpec := { name := "fnTrieSteps", fn := fun _ => fun
  | [d1, d2] => { results := [.lit (.bool false)], args := [d1, d2] }
  | _ => none }
def FnTrieStepsWrongFalsely : Prop := fnTrieStepsRow.holds Try.pinned (OpenSpec.ofChange fnTrieStepsWrong)

/- THE SECOND FORM. 'bulk': how many values and letters a reading holds, each counted each time it is reached (what is shared counts as often as it is met; a slice's spare places count too). A statement '..UptoSaid' is the law's where the arguments, and the package variables that the reading takes, are together of bulk at most 1048576: NARROWER than '..Said'. Prove '..Said' where nothing that the law and all that it calls make is longer than what came in: it says more and counts as full. Else prove '..UptoSaid'. A law counts once. -/
mutual
def uptoBulk {H : Type} : DataW H → Nat
  | .lit (.string bytes) => bytes.length + 1
  | .lit _ => 1
  | .nil => 1
  | .ptr d => uptoBulk d + 1
  | .slice elems spare => uptoBulkAll elems + uptoBulkAll spare + 1
  | .agg parts => uptoBulkAll parts + 1
  | .iface _ d => uptoBulk d + 1
  | .map entries => uptoBulkEntries entries + 1
  | .held _ => 1
def uptoBulkAll {H : Type} : List (DataW H) → Nat
  | [] => 0
  | d :: r => uptoBulk d + uptoBulkAll r
def uptoBulkEntries {H : Type} : List (Lit × DataW H) → Nat
  | [] => 0
  | x :: r => uptoBulkEntry x + uptoBulkEntries r
def uptoBulkEntry {H : Type} : Lit × DataW H → Nat
  | (.string bytes, d) => bytes.length + uptoBulk d + 1
  | (_, d) => uptoBulk d + 1
 end
def uptoSmall : (H : Type) → List (DataW H) → Bool := fun _ ds => decide (uptoBulkAll ds ≤ 1048576)
def OpenSpec.upto (s : _root_.Go.ChangeSpec) : _root_.Go.OpenSpec := { _root_.Go.OpenSpec.ofChange s with cond := some uptoSmall }

/-- 'laws.FnExactGoodTable', WHERE WHAT IT READS IS OF BULK AT MOST 1048576: true; the input reads as it did. -/
def fnExactGoodTableUptoRow : OpenClaim := { program := "ytakoaogbkajkcaa", sum := "047e23267455587d2ff84178eb220bb761180e7b89bcbeaf8252772e73cc0b29", func := "loop.example/g00344/laws.FnExactGoodTable", spec := "fnExactGoodTable", unfollowed := true, recurses := true, apart := false, narrowed := true }
def FnExactGoodTableUptoSaid : Prop := fnExactGoodTableUptoRow.holds Try.pinned (OpenSpec.upto fnExactGoodTableSpec)

/-- 'laws.FnExactGoodTrie', WHERE WHAT IT READS IS OF BULK AT MOST 1048576: true; the input reads as it did. -/
def fnExactGoodTrieUptoRow : OpenClaim := { program := "ytakoaogbkajkcaa", sum := "047e23267455587d2ff84178eb220bb761180e7b89bcbeaf8252772e73cc0b29", func := "loop.example/g00344/laws.FnExactGoodTrie", spec := "fnExactGoodTrie", apart := false, narrowed := true }
def FnExactGoodTrieUptoSaid : Prop := fnExactGoodTrieUptoRow.holds Try.pinned (OpenSpec.upto fnExactGoodTrieSpec)

/-- 'laws.FnExactLongestIn', WHERE WHAT IT READS IS OF BULK AT MOST 1048576: true; the input reads as it did. -/
def fnExactLongestInUptoRow : OpenClaim := { program := "ytakoaogbkajkcaa", sum := "047e23267455587d2ff84178eb220bb761180e7b89bcbeaf8252772e73cc0b29", func := "loop.example/g00344/laws.FnExactLongestIn", spec := "fnExactLongestIn", unfollowed := true, recurses := true, apart := false, narrowed := true }
def FnExactLongestInUptoSaid : Prop := fnExactLongestInUptoRow.holds Try.pinned (OpenSpec.upto fnExactLongestInSpec)

/-- 'laws.FnExactLookUp', WHERE WHAT IT READS IS OF BULK AT MOST 1048576: true; the input reads as it did. -/
def fnExactLookUpUptoRow : OpenClaim := { program := "ytakoaogbkajkcaa", sum := "047e23267455587d2ff84178eb220bb761180e7b89bcbeaf8252772e73cc0b29", func := "loop.example/g00344/laws.FnExactLookUp", spec := "fnExactLookUp", apart := false, narrowed := true }
def FnExactLookUpUptoSaid : Prop := fnExactLookUpUptoRow.holds Try.pinned (OpenSpec.upto fnExactLookUpSpec)

/-- 'laws.FnExactTrieEntries', WHERE WHAT IT READS IS OF BULK AT MOST 1048576: true; the input reads as it did. -/
def fnExactTrieEntriesUptoRow : OpenClaim := { program := "ytakoaogbkajkcaa", sum := "047e23267455587d2ff84178eb220bb761180e7b89bcbeaf8252772e73cc0b29", func := "loop.example/g00344/laws.FnExactTrieEntries", spec := "fnExactTrieEntries", recurses := true, apart := false, narrowed := true }
def FnExactTrieEntriesUptoSaid : Prop := fnExactTrieEntriesUptoRow.holds Try.pinned (OpenSpec.upto fnExactTrieEntriesSpec)

/-- 'laws.FnExactInsertIn', WHERE WHAT IT READS IS OF BULK AT MOST 1048576: true; the input reads as it did. -/
def fnExactInsertInUptoRow : OpenClaim := { program := "ytakoaogbkajkcaa", sum := "047e23267455587d2ff84178eb220bb761180e7b89bcbeaf8252772e73cc0b29", func := "loop.example/g00344/laws.FnExactInsertIn", spec := "fnExactInsertIn", apart := false, narrowed := true }
def FnExactInsertInUptoSaid : Prop := fnExactInsertInUptoRow.holds Try.pinned (OpenSpec.upto fnExactInsertInSpec)

/-- 'laws.FnExactBuildTrie', WHERE WHAT IT READS IS OF BULK AT MOST 1048576: true; the input reads as it did. -/
def fnExactBuildTrieUptoRow : OpenClaim := { program := "ytakoaogbkajkcaa", sum := "047e23267455587d2ff84178eb220bb761180e7b89bcbeaf8252772e73cc0b29", func := "loop.example/g00344/laws.FnExactBuildTrie", spec := "fnExactBuildTrie", unfollowed := true, recurses := true, apart := false, narrowed := true }
def FnExactBuildTrieUptoSaid : Prop := fnExactBuildTrieUptoRow.holds Try.pinned (OpenSpec.upto fnExactBuildTrieSpec)

/-- 'laws.FnExactRemoveFrom', WHERE WHAT IT READS IS OF BULK AT MOST 1048576: true; the input reads as it did. -/
def fnExactRemoveFromUptoRow : OpenClaim := { program := "ytakoaogbkajkcaa", sum := "047e23267455587d2ff84178eb220bb761180e7b89bcbeaf8252772e73cc0b29", func := "loop.example/g00344/laws.FnExactRemoveFrom", spec := "fnExactRemoveFrom", unfollowed := true, recurses := true, apart := false, narrowed := true }
def FnExactRemoveFromUptoSaid : Prop := fnExactRemoveFromUptoRow.holds Try.pinned (OpenSpec.upto fnExactRemoveFromSpec)

/-- 'laws.FnLongest', WHERE WHAT IT READS IS OF BULK AT MOST 1048576: true; the input reads as it did. -/
def fnLongestUptoRow : OpenClaim := { program := "ytakoaogbkajkcaa", sum := "047e23267455587d2ff84178eb220bb761180e7b89bcbeaf8252772e73cc0b29", func := "loop.example/g00344/laws.FnLongest", spec := "fnLongest", unfollowed := true, recurses := true, apart := false, narrowed := true }
def FnLongestUptoSaid : Prop := fnLongestUptoRow.holds Try.pinned (OpenSpec.upto fnLongestSpec)

/-- 'laws.FnTrieSteps', WHERE WHAT IT READS IS OF BULK AT MOST 1048576: true; the input reads as it did. -/
def fnTrieStepsUptoRow : OpenClaim := { program := "ytakoaogbkajkcaa", sum := "047e23267455587d2ff84178eb220bb761180e7b89bcbeaf8252772e73cc0b29", func := "loop.example/g00344/laws.FnTrieSteps", spec := "fnTrieSteps", unfollowed := true, recurses := true, apart := false, narrowed := true }
def FnTrieStepsUptoSaid : Prop := fnTrieStepsUptoRow.holds Try.pinned (OpenSpec.upto fnTrieStepsSpec)

end Rows
end Go.Proofs.Ytakoaogbkajkcaa
