/-
  No cell of these rows narrows 'for every input' (looked for: loops, veiled, ifaces, maps, wideKeys, modest, calm, conditions, laid).
  DERIVED. THE GIVEN ROWS OF THIS SEAT. 10 by the template 'for every input the law returns true; each argument reads behind the call as it read before'; 0 by the template 'total and deterministic' (their statements: YtabejlfejlpkeaaTotals.lean).
  GIVEN WITH THE SEED: the statements are not yours to turn. If you find one false, say at which input.
  Laid BY PROGRAM, IN A SANDBOX (cutbox-rows.mjs): the forced cells as the released guide's own fill.sh prints them over the translation 97644aeb1eb15768… (all of the seat's roots in one cut). By AI agents, Wed Nov 11 2026. No macro, syntax, notation, axiom, sorry.
-/
import Derived.Test.YtabejlfejlpkeaaChecked
import GoSem.Claim
import GoSem.ClaimJoined
import GoSem.ClaimMapViews
import Derived.JoinedTies
import Derived.KernelRfl
namespace Go.Proofs.Ytabejlfejlpkeaa
/- THE CELL 'sum', in the pinned program and in every row, IS THE sha256 OF THE DUMP (.gsa) THAT YtabejlfejlpkeaaProg.lean LOADS. Nothing in Lean hashes anything: it is a label: what it is worth is what the hold of that sum in a sandbox is worth. -/
noncomputable def Try.pinned : Pinned := { name := "ytabejlfejlpkeaa", sum := "97644aeb1eb15768be4828b70d3a991ea9144c2b8235df6412366e66ce5ba869", checked := Try.checked }
namespace Rows
def none {H : Type} : Left H := { results := [], args := [] }

/-- 'laws.FnExactGoodSet': WHATEVER THE INPUT: true; the input reads as it did. -/
def fnExactGoodSetSpec : ChangeSpec := { name := "fnExactGoodSet", fn := fun _ => fun
  | [d] => { results := [.lit (.bool true)], args := [d] }
  | _ => none }
def fnExactGoodSetRow : OpenClaim := { program := "ytabejlfejlpkeaa", sum := "97644aeb1eb15768be4828b70d3a991ea9144c2b8235df6412366e66ce5ba869", func := "loop.example/g00344/laws.FnExactGoodSet", spec := "fnExactGoodSet", apart := false }
def FnExactGoodSetSaid : Prop := fnExactGoodSetRow.holds Try.pinned (OpenSpec.ofChange fnExactGoodSetSpec)

/-- ITS FALSE NEIGHBOUR: 'it returns false'. Refute it at one input. -/
def fnExactGoodSetWrong : ChangeSpec := { name := "fnExactGoodSet", fn := fun _ => fun
  | [d] => { results := [.lit (.bool false)], args := [d] }
  | _ => none }
def FnExactGoodSetWrongFalsely : Prop := fnExactGoodSetRow.holds Try.pinned (OpenSpec.ofChange fnExactGoodSetWrong)

/-- 'laws.FnExactSetHas': WHATEVER THE INPUT: true; the input reads as it did. -/
def fnExactSetHasSpec : ChangeSpec := { name := "fnExactSetHas", fn := fun _ => fun
  | [d1, d2] => { results := [.lit (.bool true)], args := [d1, d2] }
  | _ => none }
def fnExactSetHasRow : OpenClaim := { program := "ytabejlfejlpkeaa", sum := "97644aeb1eb15768be4828b70d3a991ea9144c2b8235df6412366e66ce5ba869", func := "loop.example/g00344/laws.FnExactSetHas", spec := "fnExactSetHas", unfollowed := true, recurses := true, apart := false }
def FnExactSetHasSaid : Prop := fnExactSetHasRow.holds Try.pinned (OpenSpec.ofChange fnExactSetHasSpec)

/-- ITS FALSE NEIGHBOUR: 'it returns false'. Refute it at one input. -/
def fnExactSetHasWrong : ChangeSpec := { name := "fnExactSetHas", fn := fun _ => fun
  | [d1, d2] => { results := [.lit (.bool false)], args := [d1, d2] }
  | _ => none }
def FnExactSetHasWrongFalsely : Prop := fnExactSetHasRow.holds Try.pinned (OpenSpec.ofChange fnExactSetHasWrong)

/-- 'laws.FnExactRangeOf': WHATEVER THE INPUT: true; the input reads as it did. -/
def fnExactRangeOfSpec : ChangeSpec := { name := "fnExactRangeOf", fn := fun _ => fun
  | [d1, d2] => { results := [.lit (.bool true)], args := [d1, d2] }
  | _ => none }
def fnExactRangeOfRow : OpenClaim := { program := "ytabejlfejlpkeaa", sum := "97644aeb1eb15768be4828b70d3a991ea9144c2b8235df6412366e66ce5ba869", func := "loop.example/g00344/laws.FnExactRangeOf", spec := "fnExactRangeOf", recurses := true, apart := false }
def FnExactRangeOfSaid : Prop := fnExactRangeOfRow.holds Try.pinned (OpenSpec.ofChange fnExactRangeOfSpec)

/-- ITS FALSE NEIGHBOUR: 'it returns false'. Refute it at one input. -/
def fnExactRangeOfWrong : ChangeSpec := { name := "fnExactRangeOf", fn := fun _ => fun
  | [d1, d2] => { results := [.lit (.bool false)], args := [d1, d2] }
  | _ => none }
def FnExactRangeOfWrongFalsely : Prop := fnExactRangeOfRow.holds Try.pinned (OpenSpec.ofChange fnExactRangeOfWrong)

/-- 'laws.FnExactCountAddrs': WHATEVER THE INPUT: true; the input reads as it did. -/
def fnExactCountAddrsSpec : ChangeSpec := { name := "fnExactCountAddrs", fn := fun _ => fun
  | [d] => { results := [.lit (.bool true)], args := [d] }
  | _ => none }
def fnExactCountAddrsRow : OpenClaim := { program := "ytabejlfejlpkeaa", sum := "97644aeb1eb15768be4828b70d3a991ea9144c2b8235df6412366e66ce5ba869", func := "loop.example/g00344/laws.FnExactCountAddrs", spec := "fnExactCountAddrs", unfollowed := true, recurses := true, apart := false }
def FnExactCountAddrsSaid : Prop := fnExactCountAddrsRow.holds Try.pinned (OpenSpec.ofChange fnExactCountAddrsSpec)

/-- ITS FALSE NEIGHBOUR: 'it returns false'. Refute it at one input. -/
def fnExactCountAddrsWrong : ChangeSpec := { name := "fnExactCountAddrs", fn := fun _ => fun
  | [d] => { results := [.lit (.bool false)], args := [d] }
  | _ => none }
def FnExactCountAddrsWrongFalsely : Prop := fnExactCountAddrsRow.holds Try.pinned (OpenSpec.ofChange fnExactCountAddrsWrong)

/-- 'laws.FnExactSameAddrs': WHATEVER THE INPUT: true; the input reads as it did. -/
def fnExactSameAddrsSpec : ChangeSpec := { name := "fnExactSameAddrs", fn := fun _ => fun
  | [d1, d2] => { results := [.lit (.bool true)], args := [d1, d2] }
  | _ => none }
def fnExactSameAddrsRow : OpenClaim := { program := "ytabejlfejlpkeaa", sum := "97644aeb1eb15768be4828b70d3a991ea9144c2b8235df6412366e66ce5ba869", func := "loop.example/g00344/laws.FnExactSameAddrs", spec := "fnExactSameAddrs", unfollowed := true, recurses := true, apart := false }
def FnExactSameAddrsSaid : Prop := fnExactSameAddrsRow.holds Try.pinned (OpenSpec.ofChange fnExactSameAddrsSpec)

/-- ITS FALSE NEIGHBOUR: 'it returns false'. Refute it at one input. -/
def fnExactSameAddrsWrong : ChangeSpec := { name := "fnExactSameAddrs", fn := fun _ => fun
  | [d1, d2] => { results := [.lit (.bool false)], args := [d1, d2] }
  | _ => none }
def FnExactSameAddrsWrongFalsely : Prop := fnExactSameAddrsRow.holds Try.pinned (OpenSpec.ofChange fnExactSameAddrsWrong)

/-- 'laws.FnExactFewestOf': WHATEVER THE INPUT: true; the input reads as it did. -/
def fnExactFewestOfSpec : ChangeSpec := { name := "fnExactFewestOf", fn := fun _ => fun
  | [d] => { results := [.lit (.bool true)], args := [d] }
  | _ => none }
def fnExactFewestOfRow : OpenClaim := { program := "ytabejlfejlpkeaa", sum := "97644aeb1eb15768be4828b70d3a991ea9144c2b8235df6412366e66ce5ba869", func := "loop.example/g00344/laws.FnExactFewestOf", spec := "fnExactFewestOf", unfollowed := true, recurses := true, apart := false }
def FnExactFewestOfSaid : Prop := fnExactFewestOfRow.holds Try.pinned (OpenSpec.ofChange fnExactFewestOfSpec)

/-- ITS FALSE NEIGHBOUR: 'it returns false'. Refute it at one input. -/
def fnExactFewestOfWrong : ChangeSpec := { name := "fnExactFewestOf", fn := fun _ => fun
  | [d] => { results := [.lit (.bool false)], args := [d] }
  | _ => none }
def FnExactFewestOfWrongFalsely : Prop := fnExactFewestOfRow.holds Try.pinned (OpenSpec.ofChange fnExactFewestOfWrong)

/-- 'laws.FnExactMeetSets': WHATEVER THE INPUT: true; the input reads as it did. -/
def fnExactMeetSetsSpec : ChangeSpec := { name := "fnExactMeetSets", fn := fun _ => fun
  | [d1, d2] => { results := [.lit (.bool true)], args := [d1, d2] }
  | _ => none }
def fnExactMeetSetsRow : OpenClaim := { program := "ytabejlfejlpkeaa", sum := "97644aeb1eb15768be4828b70d3a991ea9144c2b8235df6412366e66ce5ba869", func := "loop.example/g00344/laws.FnExactMeetSets", spec := "fnExactMeetSets", unfollowed := true, recurses := true, apart := false }
def FnExactMeetSetsSaid : Prop := fnExactMeetSetsRow.holds Try.pinned (OpenSpec.ofChange fnExactMeetSetsSpec)

/-- ITS FALSE NEIGHBOUR: 'it returns false'. Refute it at one input. -/
def fnExactMeetSetsWrong : ChangeSpec := { name := "fnExactMeetSets", fn := fun _ => fun
  | [d1, d2] => { results := [.lit (.bool false)], args := [d1, d2] }
  | _ => none }
def FnExactMeetSetsWrongFalsely : Prop := fnExactMeetSetsRow.holds Try.pinned (OpenSpec.ofChange fnExactMeetSetsWrong)

/-- 'laws.FnExactCutPrefix': WHATEVER THE INPUT: true; the input reads as it did. -/
def fnExactCutPrefixSpec : ChangeSpec := { name := "fnExactCutPrefix", fn := fun _ => fun
  | [d1, d2] => { results := [.lit (.bool true)], args := [d1, d2] }
  | _ => none }
def fnExactCutPrefixRow : OpenClaim := { program := "ytabejlfejlpkeaa", sum := "97644aeb1eb15768be4828b70d3a991ea9144c2b8235df6412366e66ce5ba869", func := "loop.example/g00344/laws.FnExactCutPrefix", spec := "fnExactCutPrefix", unfollowed := true, recurses := true, apart := false }
def FnExactCutPrefixSaid : Prop := fnExactCutPrefixRow.holds Try.pinned (OpenSpec.ofChange fnExactCutPrefixSpec)

/-- ITS FALSE NEIGHBOUR: 'it returns false'. Refute it at one input. -/
def fnExactCutPrefixWrong : ChangeSpec := { name := "fnExactCutPrefix", fn := fun _ => fun
  | [d1, d2] => { results := [.lit (.bool false)], args := [d1, d2] }
  | _ => none }
def FnExactCutPrefixWrongFalsely : Prop := fnExactCutPrefixRow.holds Try.pinned (OpenSpec.ofChange fnExactCutPrefixWrong)

/-- 'laws.FnFewest': WHATEVER THE INPUT: true; the input reads as it did. -/
def fnFewestSpec : ChangeSpec := { name := "fnFewest", fn := fun _ => fun
  | [d1, d2] => { results := [.lit (.bool true)], args := [d1, d2] }
  | _ => none }
def fnFewestRow : OpenClaim := { program := "ytabejlfejlpkeaa", sum := "97644aeb1eb15768be4828b70d3a991ea9144c2b8235df6412366e66ce5ba869", func := "loop.example/g00344/laws.FnFewest", spec := "fnFewest", unfollowed := true, recurses := true, apart := false }
def FnFewestSaid : Prop := fnFewestRow.holds Try.pinned (OpenSpec.ofChange fnFewestSpec)

/-- ITS FALSE NEIGHBOUR: 'it returns false'. Refute it at one input. -/
def fnFewestWrong : ChangeSpec := { name := "fnFewest", fn := fun _ => fun
  | [d1, d2] => { results := [.lit (.bool false)], args := [d1, d2] }
  | _ => none }
def FnFewestWrongFalsely : Prop := fnFewestRow.holds Try.pinned (OpenSpec.ofChange fnFewestWrong)

/-- 'laws.FnRanges': WHATEVER THE INPUT: true; the input reads as it did. -/
def fnRangesSpec : ChangeSpec := { name := "fnRanges", fn := fun _ => fun
  | [d1, d2] => { results := [.lit (.bool true)], args := [d1, d2] }
  | _ => none }
def fnRangesRow : OpenClaim := { program := "ytabejlfejlpkeaa", sum := "97644aeb1eb15768be4828b70d3a991ea9144c2b8235df6412366e66ce5ba869", func := "loop.example/g00344/laws.FnRanges", spec := "fnRanges", unfollowed := true, recurses := true, apart := false }
def FnRangesSaid : Prop := fnRangesRow.holds Try.pinned (OpenSpec.ofChange fnRangesSpec)

/-- ITS FALSE NEIGHBOUR: 'it returns false'. Refute it at one input. -/
def fnRangesWrong : ChangeSpec := { name := "fnRanges", fn := fun _ => fun
  | [d1, d2] => { results := [.lit (.bool false)], args := [d1, d2] }
  | _ => none }
def FnRangesWrongFalsely : Prop := fnRangesRow.holds Try.pinned (OpenSpec.ofChange fnRangesWrong)

/- THE SECOND FORM. 'bulk': how many values and letters a reading holds, each counted each time it is reached (what is shared counts as often as it is met; a slice's spare places count too). A statement '..UptoSaid' is the law's where the arguments, and the package variables that the reading takes, are together of bulk at most 1048576: NARROWER than '..Said'. Prove '..Said' where nothing that the law and all that it calls make is longer than what came in: it says more and counts as full. Else prove '..UptoSaid'. A law counts once. -/
mutual
def uptoBulk {H : Type} : DataW H → Nat
  | .lit (.string bytes) => bytes.length + 1
  | .lit _ => 1
  | .nil => 1
  | .ptr d => uptoBulk d + 1
  | .slice elems spare => uptoBulkAll elems + uptoBulkAll spare + 1
  | .agg parts => uptoBulkAll parts + 1
  | .iface _ d => uptoBulk d + 1
  | .map entries => uptoBulkEntries entries + 1
  | .held _ => 1
def uptoBulkAll {H : Type} : List (DataW H) → Nat
  | [] => 0
  | d :: r => uptoBulk d + uptoBulkAll r
def uptoBulkEntries {H : Type} : List (Lit × DataW H) → Nat
  | [] => 0
  | x :: r => uptoBulkEntry x + uptoBulkEntries r
def uptoBulkEntry {H : Type} : Lit × DataW H → Nat
  | (.string bytes, d) => bytes.length + uptoBulk d + 1
  | (_, d) => uptoBulk d + 1
 end
def uptoSmall : (H : Type) → List (DataW H) → Bool := fun _ ds => decide (uptoBulkAll ds ≤ 1048576)
def OpenSpec.upto (s : _root_.Go.ChangeSpec) : _root_.Go.OpenSpec := { _root_.Go.OpenSpec.ofChange s with cond := some uptoSmall }

/-- 'laws.FnExactGoodSet', WHERE WHAT IT READS IS OF BULK AT MOST 1048576: true; the input reads as it did. -/
def fnExactGoodSetUptoRow : OpenClaim := { program := "ytabejlfejlpkeaa", sum := "97644aeb1eb15768be4828b70d3a991ea9144c2b8235df6412366e66ce5ba869", func := "loop.example/g00344/laws.FnExactGoodSet", spec := "fnExactGoodSet", apart := false, narrowed := true }
def FnExactGoodSetUptoSaid : Prop := fnExactGoodSetUptoRow.holds Try.pinned (OpenSpec.upto fnExactGoodSetSpec)

/-- 'laws.FnExactSetHas', WHERE WHAT IT READS IS OF BULK AT MOST 1048576: true; the input reads as it did. -/
def fnExactSetHasUptoRow : OpenClaim := { program := "ytabejlfejlpkeaa", sum := "97644aeb1eb15768be4828b70d3a991ea9144c2b8235df6412366e66ce5ba869", func := "loop.example/g00344/laws.FnExactSetHas", spec := "fnExactSetHas", unfollowed := true, recurses := true, apart := false, narrowed := true }
def FnExactSetHasUptoSaid : Prop := fnExactSetHasUptoRow.holds Try.pinned (OpenSpec.upto fnExactSetHasSpec)

/-- 'laws.FnExactRangeOf', WHERE WHAT IT READS IS OF BULK AT MOST 1048576: true; the input reads as it did. -/
def fnExactRangeOfUptoRow : OpenClaim := { program := "ytabejlfejlpkeaa", sum := "97644aeb1eb15768be4828b70d3a991ea9144c2b8235df6412366e66ce5ba869", func := "loop.example/g00344/laws.FnExactRangeOf", spec := "fnExactRangeOf", recurses := true, apart := false, narrowed := true }
def FnExactRangeOfUptoSaid : Prop := fnExactRangeOfUptoRow.holds Try.pinned (OpenSpec.upto fnExactRangeOfSpec)

/-- 'laws.FnExactCountAddrs', WHERE WHAT IT READS IS OF BULK AT MOST 1048576: true; the input reads as it did. -/
def fnExactCountAddrsUptoRow : OpenClaim := { program := "ytabejlfejlpkeaa", sum := "97644aeb1eb15768be4828b70d3a991ea9144c2b8235df6412366e66ce5ba869", func := "loop.example/g00344/laws.FnExactCountAddrs", spec := "fnExactCountAddrs", unfollowed := true, recurses := true, apart := false, narrowed := true }
def FnExactCountAddrsUptoSaid : Prop := fnExactCountAddrsUptoRow.holds Try.pinned (OpenSpec.upto fnExactCountAddrsSpec)

/-- 'laws.FnExactSameAddrs', WHERE WHAT IT READS IS OF BULK AT MOST 1048576: true; the input reads as it did. -/
def fnExactSameAddrsUptoRow : OpenClaim := { program := "ytabejlfejlpkeaa", sum := "97644aeb1eb15768be4828b70d3a991ea9144c2b8235df6412366e66ce5ba869", func := "loop.example/g00344/laws.FnExactSameAddrs", spec := "fnExactSameAddrs", unfollowed := true, recurses := true, apart := false, narrowed := true }
def FnExactSameAddrsUptoSaid : Prop := fnExactSameAddrsUptoRow.holds Try.pinned (OpenSpec.upto fnExactSameAddrsSpec)

/-- 'laws.FnExactFewestOf', WHERE WHAT IT READS IS OF BULK AT MOST 1048576: true; the input reads as it did. -/
def fnExactFewestOfUptoRow : OpenClaim := { program := "ytabejlfejlpkeaa", sum := "97644aeb1eb15768be4828b70d3a991ea9144c2b8235df6412366e66ce5ba869", func := "loop.example/g00344/laws.FnExactFewestOf", spec := "fnExactFewestOf", unfollowed := true, recurses := true, apart := false, narrowed := true }
def FnExactFewestOfUptoSaid : Prop := fnExactFewestOfUptoRow.holds Try.pinned (OpenSpec.upto fnExactFewestOfSpec)

/-- 'laws.FnExactMeetSets', WHERE WHAT IT READS IS OF BULK AT MOST 1048576: true; the input reads as it did. -/
def fnExactMeetSetsUptoRow : OpenClaim := { program := "ytabejlfejlpkeaa", sum := "97644aeb1eb15768be4828b70d3a991ea9144c2b8235df6412366e66ce5ba869", func := "loop.example/g00344/laws.FnExactMeetSets", spec := "fnExactMeetSets", unfollowed := true, recurses := true, apart := false, narrowed := true }
def FnExactMeetSetsUptoSaid : Prop := fnExactMeetSetsUptoRow.holds Try.pinned (OpenSpec.upto fnExactMeetSetsSpec)

/-- 'laws.FnExactCutPrefix', WHERE WHAT IT READS IS OF BULK AT MOST 1048576: true; the input reads as it did. -/
def fnExactCutPrefixUptoRow : OpenClaim := { program := "ytabejlfejlpkeaa", sum := "97644aeb1eb15768be4828b70d3a991ea9144c2b8235df6412366e66ce5ba869", func := "loop.example/g00344/laws.FnExactCutPrefix", spec := "fnExactCutPrefix", unfollowed := true, recurses := true, apart := false, narrowed := true }
def FnExactCutPrefixUptoSaid : Prop := fnExactCutPrefixUptoRow.holds Try.pinned (OpenSpec.upto fnExactCutPrefixSpec)

/-- 'laws.FnFewest', WHERE WHAT IT READS IS OF BULK AT MOST 1048576: true; the input reads as it did. -/
def fnFewestUptoRow : OpenClaim := { program := "ytabejlfejlpkeaa", sum := "97644aeb1eb15768be4828b70d3a991ea9144c2b8235df6412366e66ce5ba869", func := "loop.example/g00344/laws.FnFewest", spec := "fnFewest", unfollowed := true, recurses := true, apart := false, narrowed := true }
def FnFewestUptoSaid : Prop := fnFewestUptoRow.holds Try.pinned (OpenSpec.upto fnFewestSpec)

/-- 'laws.FnRanges', WHERE WHAT IT READS IS OF BULK AT MOST 1048576: true; the input reads as it did. -/
def fnRangesUptoRow : OpenClaim := { program := "ytabejlfejlpkeaa", sum := "97644aeb1eb15768be4828b70d3a991ea9144c2b8235df6412366e66ce5ba869", func := "loop.example/g00344/laws.FnRanges", spec := "fnRanges", unfollowed := true, recurses := true, apart := false, narrowed := true }
def FnRangesUptoSaid : Prop := fnRangesUptoRow.holds Try.pinned (OpenSpec.upto fnRangesSpec)

end Rows
end Go.Proofs.Ytabejlfejlpkeaa
