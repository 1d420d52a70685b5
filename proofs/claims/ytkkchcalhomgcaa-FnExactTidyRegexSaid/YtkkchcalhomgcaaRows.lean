/-
  No cell of these rows narrows 'for every input' (looked for: loops, veiled, ifaces, maps, wideKeys, modest, calm, conditions, laid).
  DERIVED. THE GIVEN ROWS OF THIS SEAT. 12 by the template 'for every input the law returns true; each argument reads behind the call as it read before'; 0 by the template 'total and deterministic' (their statements: YtkkchcalhomgcaaTotals.lean).
  GIVEN WITH THE SEED: the statements are not yours to turn. If you find one false, say at which input.
  Laid BY PROGRAM, IN A SANDBOX (cutbox-rows.mjs): the forced cells as the released guide's own fill.sh prints them over the translation 1b9200835d7fe1d6… (all of the seat's roots in one cut). By AI agents, Wed Nov 11 2026. No macro, syntax, notation, axiom, sorry.
-/
import Derived.Test.YtkkchcalhomgcaaChecked
import GoSem.Claim
import GoSem.ClaimJoined
import GoSem.ClaimMapViews
import Derived.JoinedTies
import Derived.KernelRfl
namespace Go.Proofs.Ytkkchcalhomgcaa
/- THE CELL 'sum', in the pinned program and in every row, IS THE sha256 OF THE DUMP (.gsa) THAT YtkkchcalhomgcaaProg.lean LOADS. Nothing in Lean hashes anything: it is a label: what it is worth is what the hold of that sum in a sandbox is worth. -/
noncomputable def Try.pinned : Pinned := { name := "ytkkchcalhomgcaa", sum := "1b9200835d7fe1d6124d77e042464ef4734772feb8edb154d79c76431ab2e93b", checked := Try.checked }
namespace Rows
def none {H : Type} : Left H := { results := [], args := [] }

/-- 'laws.FnExactGoodMsg': WHATEVER THE INPUT: true; the input reads as it did. -/
def fnExactGoodMsgSpec : ChangeSpec := { name := "fnExactGoodMsg", fn := fun _ => fun
  | [d] => { results := [.lit (.bool true)], args := [d] }
  | _ => none }
def fnExactGoodMsgRow : OpenClaim := { program := "ytkkchcalhomgcaa", sum := "1b9200835d7fe1d6124d77e042464ef4734772feb8edb154d79c76431ab2e93b", func := "loop.example/g00344/laws.FnExactGoodMsg", spec := "fnExactGoodMsg", apart := false }
def FnExactGoodMsgSaid : Prop := fnExactGoodMsgRow.holds Try.pinned (OpenSpec.ofChange fnExactGoodMsgSpec)

/-- ITS FALSE NEIGHBOUR: 'it returns false'. Refute it at one input. -/
def fnExactGoodMsgWrong : ChangeSpec := { name := "fnExactGoodMsg", fn := fun _ => fun
  | [d] => { results := [.lit (.bool false)], args := [d] }
  | _ => none }
def FnExactGoodMsgWrongFalsely : Prop := fnExactGoodMsgRow.holds Try.pinned (OpenSpec.ofChange fnExactGoodMsgWrong)

/-- 'laws.FnExactMsgBytes': WHATEVER THE INPUT: true; the input reads as it did. -/
def fnExactMsgBytesSpec : ChangeSpec := { name := "fnExactMsgBytes", fn := fun _ => fun
  | [d] => { results := [.lit (.bool true)], args := [d] }
  | _ => none }
def fnExactMsgBytesRow : OpenClaim := { program := "ytkkchcalhomgcaa", sum := "1b9200835d7fe1d6124d77e042464ef4734772feb8edb154d79c76431ab2e93b", func := "loop.example/g00344/laws.FnExactMsgBytes", spec := "fnExactMsgBytes", apart := false }
def FnExactMsgBytesSaid : Prop := fnExactMsgBytesRow.holds Try.pinned (OpenSpec.ofChange fnExactMsgBytesSpec)

/-- ITS FALSE NEIGHBOUR: 'it returns false'. Refute it at one input. -/
def fnExactMsgBytesWrong : ChangeSpec := { name := "fnExactMsgBytes", fn := fun _ => fun
  | [d] => { results := [.lit (.bool false)], args := [d] }
  | _ => none }
def FnExactMsgBytesWrongFalsely : Prop := fnExactMsgBytesRow.holds Try.pinned (OpenSpec.ofChange fnExactMsgBytesWrong)

/-- 'laws.FnExactNewReader': WHATEVER THE INPUT: true; the input reads as it did. -/
def fnExactNewReaderSpec : ChangeSpec := { name := "fnExactNewReader", fn := fun _ => fun
  | [] => { results := [.lit (.bool true)], args := [] }
  | _ => none }
def fnExactNewReaderRow : OpenClaim := { program := "ytkkchcalhomgcaa", sum := "1b9200835d7fe1d6124d77e042464ef4734772feb8edb154d79c76431ab2e93b", func := "loop.example/g00344/laws.FnExactNewReader", spec := "fnExactNewReader", apart := false }
def FnExactNewReaderSaid : Prop := fnExactNewReaderRow.holds Try.pinned (OpenSpec.ofChange fnExactNewReaderSpec)

/-- ITS FALSE NEIGHBOUR: 'it returns false'. Refute it at one input. -/
def fnExactNewReaderWrong : ChangeSpec := { name := "fnExactNewReader", fn := fun _ => fun
  | [] => { results := [.lit (.bool false)], args := [] }
  | _ => none }
def FnExactNewReaderWrongFalsely : Prop := fnExactNewReaderRow.holds Try.pinned (OpenSpec.ofChange fnExactNewReaderWrong)

/-- 'laws.FnExactCutAll': WHATEVER THE INPUT: true; the input reads as it did. -/
def fnExactCutAllSpec : ChangeSpec := { name := "fnExactCutAll", fn := fun _ => fun
  | [d] => { results := [.lit (.bool true)], args := [d] }
  | _ => none }
def fnExactCutAllRow : OpenClaim := { program := "ytkkchcalhomgcaa", sum := "1b9200835d7fe1d6124d77e042464ef4734772feb8edb154d79c76431ab2e93b", func := "loop.example/g00344/laws.FnExactCutAll", spec := "fnExactCutAll", apart := false }
def FnExactCutAllSaid : Prop := fnExactCutAllRow.holds Try.pinned (OpenSpec.ofChange fnExactCutAllSpec)

/-- ITS FALSE NEIGHBOUR: 'it returns false'. Refute it at one input. -/
def fnExactCutAllWrong : ChangeSpec := { name := "fnExactCutAll", fn := fun _ => fun
  | [d] => { results := [.lit (.bool false)], args := [d] }
  | _ => none }
def FnExactCutAllWrongFalsely : Prop := fnExactCutAllRow.holds Try.pinned (OpenSpec.ofChange fnExactCutAllWrong)

/-- 'laws.FnExactGoodReader': WHATEVER THE INPUT: true; the input reads as it did. -/
def fnExactGoodReaderSpec : ChangeSpec := { name := "fnExactGoodReader", fn := fun _ => fun
  | [d] => { results := [.lit (.bool true)], args := [d] }
  | _ => none }
def fnExactGoodReaderRow : OpenClaim := { program := "ytkkchcalhomgcaa", sum := "1b9200835d7fe1d6124d77e042464ef4734772feb8edb154d79c76431ab2e93b", func := "loop.example/g00344/laws.FnExactGoodReader", spec := "fnExactGoodReader", unfollowed := true, recurses := true, apart := false }
def FnExactGoodReaderSaid : Prop := fnExactGoodReaderRow.holds Try.pinned (OpenSpec.ofChange fnExactGoodReaderSpec)

/-- ITS FALSE NEIGHBOUR: 'it returns false'. Refute it at one input. -/
def fnExactGoodReaderWrong : ChangeSpec := { name := "fnExactGoodReader", fn := fun _ => fun
  | [d] => { results := [.lit (.bool false)], args := [d] }
  | _ => none }
def FnExactGoodReaderWrongFalsely : Prop := fnExactGoodReaderRow.holds Try.pinned (OpenSpec.ofChange fnExactGoodReaderWrong)

/-- 'laws.FnExactTakeMsg': WHATEVER THE INPUT: true; the input reads as it did. -/
def fnExactTakeMsgSpec : ChangeSpec := { name := "fnExactTakeMsg", fn := fun _ => fun
  | [d] => { results := [.lit (.bool true)], args := [d] }
  | _ => none }
def fnExactTakeMsgRow : OpenClaim := { program := "ytkkchcalhomgcaa", sum := "1b9200835d7fe1d6124d77e042464ef4734772feb8edb154d79c76431ab2e93b", func := "loop.example/g00344/laws.FnExactTakeMsg", spec := "fnExactTakeMsg", unfollowed := true, recurses := true, apart := false }
def FnExactTakeMsgSaid : Prop := fnExactTakeMsgRow.holds Try.pinned (OpenSpec.ofChange fnExactTakeMsgSpec)

/-- ITS FALSE NEIGHBOUR: 'it returns false'. Refute it at one input. -/
def fnExactTakeMsgWrong : ChangeSpec := { name := "fnExactTakeMsg", fn := fun _ => fun
  | [d] => { results := [.lit (.bool false)], args := [d] }
  | _ => none }
def FnExactTakeMsgWrongFalsely : Prop := fnExactTakeMsgRow.holds Try.pinned (OpenSpec.ofChange fnExactTakeMsgWrong)

/-- 'laws.FnExactGoodNfa': WHATEVER THE INPUT: true; the input reads as it did. -/
def fnExactGoodNfaSpec : ChangeSpec := { name := "fnExactGoodNfa", fn := fun _ => fun
  | [d] => { results := [.lit (.bool true)], args := [d] }
  | _ => none }
def fnExactGoodNfaRow : OpenClaim := { program := "ytkkchcalhomgcaa", sum := "1b9200835d7fe1d6124d77e042464ef4734772feb8edb154d79c76431ab2e93b", func := "loop.example/g00344/laws.FnExactGoodNfa", spec := "fnExactGoodNfa", unfollowed := true, recurses := true, apart := false }
def FnExactGoodNfaSaid : Prop := fnExactGoodNfaRow.holds Try.pinned (OpenSpec.ofChange fnExactGoodNfaSpec)

/-- ITS FALSE NEIGHBOUR: 'it returns false'. Refute it at one input. -/
def fnExactGoodNfaWrong : ChangeSpec := { name := "fnExactGoodNfa", fn := fun _ => fun
  | [d] => { results := [.lit (.bool false)], args := [d] }
  | _ => none }
def FnExactGoodNfaWrongFalsely : Prop := fnExactGoodNfaRow.holds Try.pinned (OpenSpec.ofChange fnExactGoodNfaWrong)

/-- 'laws.FnExactGoodRegex': WHATEVER THE INPUT: true; the input reads as it did. -/
def fnExactGoodRegexSpec : ChangeSpec := { name := "fnExactGoodRegex", fn := fun _ => fun
  | [d] => { results := [.lit (.bool true)], args := [d] }
  | _ => none }
def fnExactGoodRegexRow : OpenClaim := { program := "ytkkchcalhomgcaa", sum := "1b9200835d7fe1d6124d77e042464ef4734772feb8edb154d79c76431ab2e93b", func := "loop.example/g00344/laws.FnExactGoodRegex", spec := "fnExactGoodRegex", unfollowed := true, recurses := true, apart := false }
def FnExactGoodRegexSaid : Prop := fnExactGoodRegexRow.holds Try.pinned (OpenSpec.ofChange fnExactGoodRegexSpec)

/-- ITS FALSE NEIGHBOUR: 'it returns false'. Refute it at one input. -/
def fnExactGoodRegexWrong : ChangeSpec := { name := "fnExactGoodRegex", fn := fun _ => fun
  | [d] => { results := [.lit (.bool false)], args := [d] }
  | _ => none }
def FnExactGoodRegexWrongFalsely : Prop := fnExactGoodRegexRow.holds Try.pinned (OpenSpec.ofChange fnExactGoodRegexWrong)

/-- 'laws.FnExactTakesEmpty': WHATEVER THE INPUT: true; the input reads as it did. -/
def fnExactTakesEmptySpec : ChangeSpec := { name := "fnExactTakesEmpty", fn := fun _ => fun
  | [d] => { results := [.lit (.bool true)], args := [d] }
  | _ => none }
def fnExactTakesEmptyRow : OpenClaim := { program := "ytkkchcalhomgcaa", sum := "1b9200835d7fe1d6124d77e042464ef4734772feb8edb154d79c76431ab2e93b", func := "loop.example/g00344/laws.FnExactTakesEmpty", spec := "fnExactTakesEmpty", unfollowed := true, recurses := true, apart := false }
def FnExactTakesEmptySaid : Prop := fnExactTakesEmptyRow.holds Try.pinned (OpenSpec.ofChange fnExactTakesEmptySpec)

/-- ITS FALSE NEIGHBOUR: 'it returns false'. Refute it at one input. -/
def fnExactTakesEmptyWrong : ChangeSpec := { name := "fnExactTakesEmpty", fn := fun _ => fun
  | [d] => { results := [.lit (.bool false)], args := [d] }
  | _ => none }
def FnExactTakesEmptyWrongFalsely : Prop := fnExactTakesEmptyRow.holds Try.pinned (OpenSpec.ofChange fnExactTakesEmptyWrong)

/-- 'laws.FnExactRunNfa': WHATEVER THE INPUT: true; the input reads as it did. -/
def fnExactRunNfaSpec : ChangeSpec := { name := "fnExactRunNfa", fn := fun _ => fun
  | [d1, d2] => { results := [.lit (.bool true)], args := [d1, d2] }
  | _ => none }
def fnExactRunNfaRow : OpenClaim := { program := "ytkkchcalhomgcaa", sum := "1b9200835d7fe1d6124d77e042464ef4734772feb8edb154d79c76431ab2e93b", func := "loop.example/g00344/laws.FnExactRunNfa", spec := "fnExactRunNfa", unfollowed := true, recurses := true, apart := false }
def FnExactRunNfaSaid : Prop := fnExactRunNfaRow.holds Try.pinned (OpenSpec.ofChange fnExactRunNfaSpec)

/-- ITS FALSE NEIGHBOUR: 'it returns false'. Refute it at one input. -/
def fnExactRunNfaWrong : ChangeSpec := { name := "fnExactRunNfa", fn := fun _ => fun
  | [d1, d2] => { results := [.lit (.bool false)], args := [d1, d2] }
  | _ => none }
def FnExactRunNfaWrongFalsely : Prop := fnExactRunNfaRow.holds Try.pinned (OpenSpec.ofChange fnExactRunNfaWrong)

/-- 'laws.FnExactTidyRegex': WHATEVER THE INPUT: true; the input reads as it did. -/
def fnExactTidyRegexSpec : ChangeSpec := { name := "fnExactTidyRegex", fn := fun _ => fun
  | [d] => { results := [.lit (.bool true)], args := [d] }
  | _ => none }
def fnExactTidyRegexRow : OpenClaim := { program := "ytkkchcalhomgcaa", sum := "1b9200835d7fe1d6124d77e042464ef4734772feb8edb154d79c76431ab2e93b", func := "loop.example/g00344/laws.FnExactTidyRegex", spec := "fnExactTidyRegex", unfollowed := true, recurses := true, apart := false }
def FnExactTidyRegexSaid : Prop := fnExactTidyRegexRow.holds Try.pinned (OpenSpec.ofChange fnExactTidyRegexSpec)

/-- ITS FALSE NEIGHBOUR: 'it returns false'. Refute it at one input. -/
def fnExactTidyRegexWrong : ChangeSpec := { name := "fnExactTidyRegex", fn := fun _ => fun
  | [d] => { results := [.lit (.bool false)], args := [d] }
  | _ => none }
def FnExactTidyRegexWrongFalsely : Prop := fnExactTidyRegexRow.holds Try.pinned (OpenSpec.ofChange fnExactTidyRegexWrong)

/-- 'laws.FnExactBuildNfa': WHATEVER THE INPUT: true; the input reads as it did. -/
def fnExactBuildNfaSpec : ChangeSpec := { name := "fnExactBuildNfa", fn := fun _ => fun
  | [d] => { results := [.lit (.bool true)], args := [d] }
  | _ => none }
def fnExactBuildNfaRow : OpenClaim := { program := "ytkkchcalhomgcaa", sum := "1b9200835d7fe1d6124d77e042464ef4734772feb8edb154d79c76431ab2e93b", func := "loop.example/g00344/laws.FnExactBuildNfa", spec := "fnExactBuildNfa", unfollowed := true, recurses := true, apart := false }
def FnExactBuildNfaSaid : Prop := fnExactBuildNfaRow.holds Try.pinned (OpenSpec.ofChange fnExactBuildNfaSpec)

/-- ITS FALSE NEIGHBOUR: 'it returns false'. Refute it at one input. -/
def fnExactBuildNfaWrong : ChangeSpec := { name := "fnExactBuildNfa", fn := fun _ => fun
  | [d] => { results := [.lit (.bool false)], args := [d] }
  | _ => none }
def FnExactBuildNfaWrongFalsely : Prop := fnExactBuildNfaRow.holds Try.pinned (OpenSpec.ofChange fnExactBuildNfaWrong)

/- THE SECOND FORM. 'bulk': how many values and letters a reading holds, each counted each time it is reached (what is shared counts as often as it is met; a slice's spare places count too). A statement '..UptoSaid' is the law's where the arguments, and the package variables that the reading takes, are together of bulk at most 1048576: NARROWER than '..Said'. Prove '..Said' where nothing that the law and all that it calls make is longer than what came in: it says more and counts as full. Else prove '..UptoSaid'. A law counts once. -/
mutual
def uptoBulk {H : Type} : DataW H → Nat
  | .lit (.string bytes) => bytes.length + 1
  | .lit _ => 1
  | .nil => 1
  | .ptr d => uptoBulk d + 1
  | .slice elems spare => uptoBulkAll elems + uptoBulkAll spare + 1
  | .agg parts => uptoBulkAll parts + 1
  | .iface _ d => uptoBulk d + 1
  | .map entries => uptoBulkEntries entries + 1
  | .held _ => 1
def uptoBulkAll {H : Type} : List (DataW H) → Nat
  | [] => 0
  | d :: r => uptoBulk d + uptoBulkAll r
def uptoBulkEntries {H : Type} : List (Lit × DataW H) → Nat
  | [] => 0
  | x :: r => uptoBulkEntry x + uptoBulkEntries r
def uptoBulkEntry {H : Type} : Lit × DataW H → Nat
  | (.string bytes, d) => bytes.length + uptoBulk d + 1
  | (_, d) => uptoBulk d + 1
 end
def uptoSmall : (H : Type) → List (DataW H) → Bool := fun _ ds => decide (uptoBulkAll ds ≤ 1048576)
def OpenSpec.upto (s : _root_.Go.ChangeSpec) : _root_.Go.OpenSpec := { _root_.Go.OpenSpec.ofChange s with cond := some uptoSmall }

/-- 'laws.FnExactGoodMsg', WHERE WHAT IT READS IS OF BULK AT MOST 1048576: true; the input reads as it did. -/
def fnExactGoodMsgUptoRow : OpenClaim := { program := "ytkkchcalhomgcaa", sum := "1b9200835d7fe1d6124d77e042464ef4734772feb8edb154d79c76431ab2e93b", func := "loop.example/g00344/laws.FnExactGoodMsg", spec := "fnExactGoodMsg", apart := false, narrowed := true }
def FnExactGoodMsgUptoSaid : Prop := fnExactGoodMsgUptoRow.holds Try.pinned (OpenSpec.upto fnExactGoodMsgSpec)

/-- 'laws.FnExactMsgBytes', WHERE WHAT IT READS IS OF BULK AT MOST 1048576: true; the input reads as it did. -/
def fnExactMsgBytesUptoRow : OpenClaim := { program := "ytkkchcalhomgcaa", sum := "1b9200835d7fe1d6124d77e042464ef4734772feb8edb154d79c76431ab2e93b", func := "loop.example/g00344/laws.FnExactMsgBytes", spec := "fnExactMsgBytes", apart := false, narrowed := true }
def FnExactMsgBytesUptoSaid : Prop := fnExactMsgBytesUptoRow.holds Try.pinned (OpenSpec.upto fnExactMsgBytesSpec)

/-- 'laws.FnExactNewReader', WHERE WHAT IT READS IS OF BULK AT MOST 1048576: true; the input reads as it did. -/
def fnExactNewReaderUptoRow : OpenClaim := { program := "ytkkchcalhomgcaa", sum := "1b9200835d7fe1d6124d77e042464ef4734772feb8edb154d79c76431ab2e93b", func := "loop.example/g00344/laws.FnExactNewReader", spec := "fnExactNewReader", apart := false, narrowed := true }
def FnExactNewReaderUptoSaid : Prop := fnExactNewReaderUptoRow.holds Try.pinned (OpenSpec.upto fnExactNewReaderSpec)

/-- 'laws.FnExactCutAll', WHERE WHAT IT READS IS OF BULK AT MOST 1048576: true; the input reads as it did. -/
def fnExactCutAllUptoRow : OpenClaim := { program := "ytkkchcalhomgcaa", sum := "1b9200835d7fe1d6124d77e042464ef4734772feb8edb154d79c76431ab2e93b", func := "loop.example/g00344/laws.FnExactCutAll", spec := "fnExactCutAll", apart := false, narrowed := true }
def FnExactCutAllUptoSaid : Prop := fnExactCutAllUptoRow.holds Try.pinned (OpenSpec.upto fnExactCutAllSpec)

/-- 'laws.FnExactGoodReader', WHERE WHAT IT READS IS OF BULK AT MOST 1048576: true; the input reads as it did. -/
def fnExactGoodReaderUptoRow : OpenClaim := { program := "ytkkchcalhomgcaa", sum := "1b9200835d7fe1d6124d77e042464ef4734772feb8edb154d79c76431ab2e93b", func := "loop.example/g00344/laws.FnExactGoodReader", spec := "fnExactGoodReader", unfollowed := true, recurses := true, apart := false, narrowed := true }
def FnExactGoodReaderUptoSaid : Prop := fnExactGoodReaderUptoRow.holds Try.pinned (OpenSpec.upto fnExactGoodReaderSpec)

/-- 'laws.FnExactTakeMsg', WHERE WHAT IT READS IS OF BULK AT MOST 1048576: true; the input reads as it did. -/
def fnExactTakeMsgUptoRow : OpenClaim := { program := "ytkkchcalhomgcaa", sum := "1b9200835d7fe1d6124d77e042464ef4734772feb8edb154d79c76431ab2e93b", func := "loop.example/g00344/laws.FnExactTakeMsg", spec := "fnExactTakeMsg", unfollowed := true, recurses := true, apart := false, narrowed := true }
def FnExactTakeMsgUptoSaid : Prop := fnExactTakeMsgUptoRow.holds Try.pinned (OpenSpec.upto fnExactTakeMsgSpec)

/-- 'laws.FnExactGoodNfa', WHERE WHAT IT READS IS OF BULK AT MOST 1048576: true; the input reads as it did. -/
def fnExactGoodNfaUptoRow : OpenClaim := { program := "ytkkchcalhomgcaa", sum := "1b9200835d7fe1d6124d77e042464ef4734772feb8edb154d79c76431ab2e93b", func := "loop.example/g00344/laws.FnExactGoodNfa", spec := "fnExactGoodNfa", unfollowed := true, recurses := true, apart := false, narrowed := true }
def FnExactGoodNfaUptoSaid : Prop := fnExactGoodNfaUptoRow.holds Try.pinned (OpenSpec.upto fnExactGoodNfaSpec)

/-- 'laws.FnExactGoodRegex', WHERE WHAT IT READS IS OF BULK AT MOST 1048576: true; the input reads as it did. -/
def fnExactGoodRegexUptoRow : OpenClaim := { program := "ytkkchcalhomgcaa", sum := "1b9200835d7fe1d6124d77e042464ef4734772feb8edb154d79c76431ab2e93b", func := "loop.example/g00344/laws.FnExactGoodRegex", spec := "fnExactGoodRegex", unfollowed := true, recurses := true, apart := false, narrowed := true }
def FnExactGoodRegexUptoSaid : Prop := fnExactGoodRegexUptoRow.holds Try.pinned (OpenSpec.upto fnExactGoodRegexSpec)

/-- 'laws.FnExactTakesEmpty', WHERE WHAT IT READS IS OF BULK AT MOST 1048576: true; the input reads as it did. -/
def fnExactTakesEmptyUptoRow : OpenClaim := { program := "ytkkchcalhomgcaa", sum := "1b9200835d7fe1d6124d77e042464ef4734772feb8edb154d79c76431ab2e93b", func := "loop.example/g00344/laws.FnExactTakesEmpty", spec := "fnExactTakesEmpty", unfollowed := true, recurses := true, apart := false, narrowed := true }
def FnExactTakesEmptyUptoSaid : Prop := fnExactTakesEmptyUptoRow.holds Try.pinned (OpenSpec.upto fnExactTakesEmptySpec)

/-- 'laws.FnExactRunNfa', WHERE WHAT IT READS IS OF BULK AT MOST 1048576: true; the input reads as it did. -/
def fnExactRunNfaUptoRow : OpenClaim := { program := "ytkkchcalhomgcaa", sum := "1b9200835d7fe1d6124d77e042464ef4734772feb8edb154d79c76431ab2e93b", func := "loop.example/g00344/laws.FnExactRunNfa", spec := "fnExactRunNfa", unfollowed := true, recurses := true, apart := false, narrowed := true }
def FnExactRunNfaUptoSaid : Prop := fnExactRunNfaUptoRow.holds Try.pinned (OpenSpec.upto fnExactRunNfaSpec)

/-- 'laws.FnExactTidyRegex', WHERE WHAT IT READS IS OF BULK AT MOST 1048576: true; the input reads as it did. -/
def fnExactTidyRegexUptoRow : OpenClaim := { program := "ytkkchcalhomgcaa", sum := "1b9200835d7fe1d6124d77e042464ef4734772feb8edb154d79c76431ab2e93b", func := "loop.example/g00344/laws.FnExactTidyRegex", spec := "fnExactTidyRegex", unfollowed := true, recurses := true, apart := false, narrowed := true }
def FnExactTidyRegexUptoSaid : Prop := fnExactTidyRegexUptoRow.holds Try.pinned (OpenSpec.upto fnExactTidyRegexSpec)

/-- 'laws.FnExactBuildNfa', WHERE WHAT IT READS IS OF BULK AT MOST 1048576: true; the input reads as it did. -/
def fnExactBuildNfaUptoRow : OpenClaim := { program := "ytkkchcalhomgcaa", sum := "1b9200835d7fe1d6124d77e042464ef4734772feb8edb154d79c76431ab2e93b", func := "loop.example/g00344/laws.FnExactBuildNfa", spec := "fnExactBuildNfa", unfollowed := true, recurses := true, apart := false, narrowed := true }
def FnExactBuildNfaUptoSaid : Prop := fnExactBuildNfaUptoRow.holds Try.pinned (OpenSpec.upto fnExactBuildNfaSpec)

end Rows
end Go.Proofs.Ytkkchcalhomgcaa
