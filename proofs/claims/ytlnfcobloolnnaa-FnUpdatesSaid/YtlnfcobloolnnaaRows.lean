/-
  No cell of these rows narrows 'for every input' (looked for: loops, veiled, ifaces, maps, wideKeys, modest, calm, conditions, laid).
  DERIVED. THE GIVEN ROWS OF THIS SEAT. 9 by the template 'for every input the law returns true; each argument reads behind the call as it read before'; 0 by the template 'total and deterministic' (their statements: YtlnfcobloolnnaaTotals.lean).
  GIVEN WITH THE SEED: the statements are not yours to turn. If you find one false, say at which input.
  Laid BY PROGRAM, IN A SANDBOX (cutbox-rows.mjs): the forced cells as the released guide's own fill.sh prints them over the translation ec9236b5dd287a41… (all of the seat's roots in one cut). By AI agents, Wed Nov 11 2026. No macro, syntax, notation, axiom, sorry.
-/
import Derived.Test.YtlnfcobloolnnaaChecked
import GoSem.Claim
import GoSem.ClaimJoined
import GoSem.ClaimMapViews
import Derived.JoinedTies
import Derived.KernelRfl
namespace Go.Proofs.Ytlnfcobloolnnaa
/- THE CELL 'sum', in the pinned program and in every row, IS THE sha256 OF THE DUMP (.gsa) THAT YtlnfcobloolnnaaProg.lean LOADS. Nothing in Lean hashes anything: it is a label: what it is worth is what the hold of that sum in a sandbox is worth. -/
noncomputable def Try.pinned : Pinned := { name := "ytlnfcobloolnnaa", sum := "ec9236b5dd287a4164b3220c0f6946f68a0ffb0ab859693b9840d081fca6efe4", checked := Try.checked }
namespace Rows
def none {H : Type} : Left H := { results := [], args := [] }

/-- 'laws.FnExactGoodAttrs': WHATEVER THE INPUT: true; the input reads as it did. -/
def fnExactGoodAttrsSpec : ChangeSpec := { name := "fnExactGoodAttrs", fn := fun _ => fun
  | [d] => { results := [.lit (.bool true)], args := [d] }
  | _ => none }
def fnExactGoodAttrsRow : OpenClaim := { program := "ytlnfcobloolnnaa", sum := "ec9236b5dd287a4164b3220c0f6946f68a0ffb0ab859693b9840d081fca6efe4", func := "loop.example/g00344/laws.FnExactGoodAttrs", spec := "fnExactGoodAttrs", unfollowed := true, recurses := true, apart := false }
def FnExactGoodAttrsSaid : Prop := fnExactGoodAttrsRow.holds Try.pinned (OpenSpec.ofChange fnExactGoodAttrsSpec)

/-- ITS FALSE NEIGHBOUR: 'it returns false'. Refute it at one input. -/
def fnExactGoodAttrsWrong : ChangeSpec := { name := "fnExactGoodAttrs", fn := fun _ => fun
  | [d] => { results := [.lit (.bool false)], args := [d] }
  | _ => none }
def FnExactGoodAttrsWrongFalsely : Prop := fnExactGoodAttrsRow.holds Try.pinned (OpenSpec.ofChange fnExactGoodAttrsWrong)

/-- 'laws.FnExactPrefixBytes': WHATEVER THE INPUT: true; the input reads as it did. -/
def fnExactPrefixBytesSpec : ChangeSpec := { name := "fnExactPrefixBytes", fn := fun _ => fun
  | [d] => { results := [.lit (.bool true)], args := [d] }
  | _ => none }
def fnExactPrefixBytesRow : OpenClaim := { program := "ytlnfcobloolnnaa", sum := "ec9236b5dd287a4164b3220c0f6946f68a0ffb0ab859693b9840d081fca6efe4", func := "loop.example/g00344/laws.FnExactPrefixBytes", spec := "fnExactPrefixBytes", apart := false }
def FnExactPrefixBytesSaid : Prop := fnExactPrefixBytesRow.holds Try.pinned (OpenSpec.ofChange fnExactPrefixBytesSpec)

/-- ITS FALSE NEIGHBOUR: 'it returns false'. Refute it at one input. -/
def fnExactPrefixBytesWrong : ChangeSpec := { name := "fnExactPrefixBytes", fn := fun _ => fun
  | [d] => { results := [.lit (.bool false)], args := [d] }
  | _ => none }
def FnExactPrefixBytesWrongFalsely : Prop := fnExactPrefixBytesRow.holds Try.pinned (OpenSpec.ofChange fnExactPrefixBytesWrong)

/-- 'laws.FnExactTakePrefix': WHATEVER THE INPUT: true; the input reads as it did. -/
def fnExactTakePrefixSpec : ChangeSpec := { name := "fnExactTakePrefix", fn := fun _ => fun
  | [d1, d2] => { results := [.lit (.bool true)], args := [d1, d2] }
  | _ => none }
def fnExactTakePrefixRow : OpenClaim := { program := "ytlnfcobloolnnaa", sum := "ec9236b5dd287a4164b3220c0f6946f68a0ffb0ab859693b9840d081fca6efe4", func := "loop.example/g00344/laws.FnExactTakePrefix", spec := "fnExactTakePrefix", apart := false }
def FnExactTakePrefixSaid : Prop := fnExactTakePrefixRow.holds Try.pinned (OpenSpec.ofChange fnExactTakePrefixSpec)

/-- ITS FALSE NEIGHBOUR: 'it returns false'. Refute it at one input. -/
def fnExactTakePrefixWrong : ChangeSpec := { name := "fnExactTakePrefix", fn := fun _ => fun
  | [d1, d2] => { results := [.lit (.bool false)], args := [d1, d2] }
  | _ => none }
def FnExactTakePrefixWrongFalsely : Prop := fnExactTakePrefixRow.holds Try.pinned (OpenSpec.ofChange fnExactTakePrefixWrong)

/-- 'laws.FnExactPrependPath': WHATEVER THE INPUT: true; the input reads as it did. -/
def fnExactPrependPathSpec : ChangeSpec := { name := "fnExactPrependPath", fn := fun _ => fun
  | [d1, d2, d3] => { results := [.lit (.bool true)], args := [d1, d2, d3] }
  | _ => none }
def fnExactPrependPathRow : OpenClaim := { program := "ytlnfcobloolnnaa", sum := "ec9236b5dd287a4164b3220c0f6946f68a0ffb0ab859693b9840d081fca6efe4", func := "loop.example/g00344/laws.FnExactPrependPath", spec := "fnExactPrependPath", unfollowed := true, recurses := true, apart := false }
def FnExactPrependPathSaid : Prop := fnExactPrependPathRow.holds Try.pinned (OpenSpec.ofChange fnExactPrependPathSpec)

/-- ITS FALSE NEIGHBOUR: 'it returns false'. Refute it at one input. -/
def fnExactPrependPathWrong : ChangeSpec := { name := "fnExactPrependPath", fn := fun _ => fun
  | [d1, d2, d3] => { results := [.lit (.bool false)], args := [d1, d2, d3] }
  | _ => none }
def FnExactPrependPathWrongFalsely : Prop := fnExactPrependPathRow.holds Try.pinned (OpenSpec.ofChange fnExactPrependPathWrong)

/-- 'laws.FnExactGoodUpdate': WHATEVER THE INPUT: true; the input reads as it did. -/
def fnExactGoodUpdateSpec : ChangeSpec := { name := "fnExactGoodUpdate", fn := fun _ => fun
  | [d] => { results := [.lit (.bool true)], args := [d] }
  | _ => none }
def fnExactGoodUpdateRow : OpenClaim := { program := "ytlnfcobloolnnaa", sum := "ec9236b5dd287a4164b3220c0f6946f68a0ffb0ab859693b9840d081fca6efe4", func := "loop.example/g00344/laws.FnExactGoodUpdate", spec := "fnExactGoodUpdate", unfollowed := true, recurses := true, apart := false }
def FnExactGoodUpdateSaid : Prop := fnExactGoodUpdateRow.holds Try.pinned (OpenSpec.ofChange fnExactGoodUpdateSpec)

/-- ITS FALSE NEIGHBOUR: 'it returns false'. Refute it at one input. -/
def fnExactGoodUpdateWrong : ChangeSpec := { name := "fnExactGoodUpdate", fn := fun _ => fun
  | [d] => { results := [.lit (.bool false)], args := [d] }
  | _ => none }
def FnExactGoodUpdateWrongFalsely : Prop := fnExactGoodUpdateRow.holds Try.pinned (OpenSpec.ofChange fnExactGoodUpdateWrong)

/-- 'laws.FnExactUpdateBytes': WHATEVER THE INPUT: true; the input reads as it did. -/
def fnExactUpdateBytesSpec : ChangeSpec := { name := "fnExactUpdateBytes", fn := fun _ => fun
  | [d] => { results := [.lit (.bool true)], args := [d] }
  | _ => none }
def fnExactUpdateBytesRow : OpenClaim := { program := "ytlnfcobloolnnaa", sum := "ec9236b5dd287a4164b3220c0f6946f68a0ffb0ab859693b9840d081fca6efe4", func := "loop.example/g00344/laws.FnExactUpdateBytes", spec := "fnExactUpdateBytes", unfollowed := true, recurses := true, apart := false }
def FnExactUpdateBytesSaid : Prop := fnExactUpdateBytesRow.holds Try.pinned (OpenSpec.ofChange fnExactUpdateBytesSpec)

/-- ITS FALSE NEIGHBOUR: 'it returns false'. Refute it at one input. -/
def fnExactUpdateBytesWrong : ChangeSpec := { name := "fnExactUpdateBytes", fn := fun _ => fun
  | [d] => { results := [.lit (.bool false)], args := [d] }
  | _ => none }
def FnExactUpdateBytesWrongFalsely : Prop := fnExactUpdateBytesRow.holds Try.pinned (OpenSpec.ofChange fnExactUpdateBytesWrong)

/-- 'laws.FnExactReadUpdate': WHATEVER THE INPUT: true; the input reads as it did. -/
def fnExactReadUpdateSpec : ChangeSpec := { name := "fnExactReadUpdate", fn := fun _ => fun
  | [d] => { results := [.lit (.bool true)], args := [d] }
  | _ => none }
def fnExactReadUpdateRow : OpenClaim := { program := "ytlnfcobloolnnaa", sum := "ec9236b5dd287a4164b3220c0f6946f68a0ffb0ab859693b9840d081fca6efe4", func := "loop.example/g00344/laws.FnExactReadUpdate", spec := "fnExactReadUpdate", unfollowed := true, recurses := true, apart := false }
def FnExactReadUpdateSaid : Prop := fnExactReadUpdateRow.holds Try.pinned (OpenSpec.ofChange fnExactReadUpdateSpec)

/-- ITS FALSE NEIGHBOUR: 'it returns false'. Refute it at one input. -/
def fnExactReadUpdateWrong : ChangeSpec := { name := "fnExactReadUpdate", fn := fun _ => fun
  | [d] => { results := [.lit (.bool false)], args := [d] }
  | _ => none }
def FnExactReadUpdateWrongFalsely : Prop := fnExactReadUpdateRow.holds Try.pinned (OpenSpec.ofChange fnExactReadUpdateWrong)

/-- 'laws.FnPrepend': WHATEVER THE INPUT: true; the input reads as it did. -/
def fnPrependSpec : ChangeSpec := { name := "fnPrepend", fn := fun _ => fun
  | [d1, d2] => { results := [.lit (.bool true)], args := [d1, d2] }
  | _ => none }
def fnPrependRow : OpenClaim := { program := "ytlnfcobloolnnaa", sum := "ec9236b5dd287a4164b3220c0f6946f68a0ffb0ab859693b9840d081fca6efe4", func := "loop.example/g00344/laws.FnPrepend", spec := "fnPrepend", unfollowed := true, recurses := true, apart := false }
def FnPrependSaid : Prop := fnPrependRow.holds Try.pinned (OpenSpec.ofChange fnPrependSpec)

/-- ITS FALSE NEIGHBOUR: 'it returns false'. Refute it at one input. -/
def fnPrependWrong : ChangeSpec := { name := "fnPrepend", fn := fun _ => fun
  | [d1, d2] => { results := [.lit (.bool false)], args := [d1, d2] }
  | _ => none }
def FnPrependWrongFalsely : Prop := fnPrependRow.holds Try.pinned (OpenSpec.ofChange fnPrependWrong)

/-- 'laws.FnUpdates': WHATEVER THE INPUT: true; the input reads as it did. -/
def fnUpdatesSpec : ChangeSpec := { name := "fnUpdates", fn := fun _ => fun
  | [d1, d2] => { results := [.lit (.bool true)], args := [d1, d2] }
  | _ => none }
def fnUpdatesRow : OpenClaim := { program := "ytlnfcobloolnnaa", sum := "ec9236b5dd287a4164b3220c0f6946f68a0ffb0ab859693b9840d081fca6efe4", func := "loop.example/g00344/laws.FnUpdates", spec := "fnUpdates", unfollowed := true, recurses := true, apart := false }
def FnUpdatesSaid : Prop := fnUpdatesRow.holds Try.pinned (OpenSpec.ofChange fnUpdatesSpec)

/-- ITS FALSE NEIGHBOUR: 'it returns false'. Refute it at one input. -/
def fnUpdatesWrong : ChangeSpec := { name := "fnUpdates", fn := fun _ => fun
  | [d1, d2] => { results := [.lit (.bool false)], args := [d1, d2] }
  | _ => none }
def FnUpdatesWrongFalsely : Prop := fnUpdatesRow.holds Try.pinned (OpenSpec.ofChange fnUpdatesWrong)

/- THE SECOND FORM. 'bulk': how many values and letters a reading holds, each counted each time it is reached (what is shared counts as often as it is met; a slice's spare places count too). A statement '..UptoSaid' is the law's where the arguments, and the package variables that the reading takes, are together of bulk at most 1048576: NARROWER than '..Said'. Prove '..Said' where nothing that the law and all that it calls make is longer than what came in: it says more and counts as full. Else prove '..UptoSaid'. A law counts once. -/
mutual
def uptoBulk {H : Type} : DataW H → Nat
  | .lit (.string bytes) => bytes.length + 1
  | .lit _ => 1
  | .nil => 1
  | .ptr d => uptoBulk d + 1
  | .slice elems spare => uptoBulkAll elems + uptoBulkAll spare + 1
  | .agg parts => uptoBulkAll parts + 1
  | .iface _ d => uptoBulk d + 1
  | .map entries => uptoBulkEntries entries + 1
  | .held _ => 1
def uptoBulkAll {H : Type} : List (DataW H) → Nat
  | [] => 0
  | d :: r => uptoBulk d + uptoBulkAll r
def uptoBulkEntries {H : Type} : List (Lit × DataW H) → Nat
  | [] => 0
  | x :: r => uptoBulkEntry x + uptoBulkEntries r
def uptoBulkEntry {H : Type} : Lit × DataW H → Nat
  | (.string bytes, d) => bytes.length + uptoBulk d + 1
  | (_, d) => uptoBulk d + 1
 end
def uptoSmall : (H : Type) → List (DataW H) → Bool := fun _ ds => decide (uptoBulkAll ds ≤ 1048576)
def OpenSpec.upto (s : _root_.Go.ChangeSpec) : _root_.Go.OpenSpec := { _root_.Go.OpenSpec.ofChange s with cond := some uptoSmall }

/-- 'laws.FnExactGoodAttrs', WHERE WHAT IT READS IS OF BULK AT MOST 1048576: true; the input reads as it did. -/
def fnExactGoodAttrsUptoRow : OpenClaim := { program := "ytlnfcobloolnnaa", sum := "ec9236b5dd287a4164b3220c0f6946f68a0ffb0ab859693b9840d081fca6efe4", func := "loop.example/g00344/laws.FnExactGoodAttrs", spec := "fnExactGoodAttrs", unfollowed := true, recurses := true, apart := false, narrowed := true }
def FnExactGoodAttrsUptoSaid : Prop := fnExactGoodAttrsUptoRow.holds Try.pinned (OpenSpec.upto fnExactGoodAttrsSpec)

/-- 'laws.FnExactPrefixBytes', WHERE WHAT IT READS IS OF BULK AT MOST 1048576: true; the input reads as it did. -/
def fnExactPrefixBytesUptoRow : OpenClaim := { program := "ytlnfcobloolnnaa", sum := "ec9236b5dd287a4164b3220c0f6946f68a0ffb0ab859693b9840d081fca6efe4", func := "loop.example/g00344/laws.FnExactPrefixBytes", spec := "fnExactPrefixBytes", apart := false, narrowed := true }
def FnExactPrefixBytesUptoSaid : Prop := fnExactPrefixBytesUptoRow.holds Try.pinned (OpenSpec.upto fnExactPrefixBytesSpec)

/-- 'laws.FnExactTakePrefix', WHERE WHAT IT READS IS OF BULK AT MOST 1048576: true; the input reads as it did. -/
def fnExactTakePrefixUptoRow : OpenClaim := { program := "ytlnfcobloolnnaa", sum := "ec9236b5dd287a4164b3220c0f6946f68a0ffb0ab859693b9840d081fca6efe4", func := "loop.example/g00344/laws.FnExactTakePrefix", spec := "fnExactTakePrefix", apart := false, narrowed := true }
def FnExactTakePrefixUptoSaid : Prop := fnExactTakePrefixUptoRow.holds Try.pinned (OpenSpec.upto fnExactTakePrefixSpec)

/-- 'laws.FnExactPrependPath', WHERE WHAT IT READS IS OF BULK AT MOST 1048576: true; the input reads as it did. -/
def fnExactPrependPathUptoRow : OpenClaim := { program := "ytlnfcobloolnnaa", sum := "ec9236b5dd287a4164b3220c0f6946f68a0ffb0ab859693b9840d081fca6efe4", func := "loop.example/g00344/laws.FnExactPrependPath", spec := "fnExactPrependPath", unfollowed := true, recurses := true, apart := false, narrowed := true }
def FnExactPrependPathUptoSaid : Prop := fnExactPrependPathUptoRow.holds Try.pinned (OpenSpec.upto fnExactPrependPathSpec)

/-- 'laws.FnExactGoodUpdate', WHERE WHAT IT READS IS OF BULK AT MOST 1048576: true; the input reads as it did. -/
def fnExactGoodUpdateUptoRow : OpenClaim := { program := "ytlnfcobloolnnaa", sum := "ec9236b5dd287a4164b3220c0f6946f68a0ffb0ab859693b9840d081fca6efe4", func := "loop.example/g00344/laws.FnExactGoodUpdate", spec := "fnExactGoodUpdate", unfollowed := true, recurses := true, apart := false, narrowed := true }
def FnExactGoodUpdateUptoSaid : Prop := fnExactGoodUpdateUptoRow.holds Try.pinned (OpenSpec.upto fnExactGoodUpdateSpec)

/-- 'laws.FnExactUpdateBytes', WHERE WHAT IT READS IS OF BULK AT MOST 1048576: true; the input reads as it did. -/
def fnExactUpdateBytesUptoRow : OpenClaim := { program := "ytlnfcobloolnnaa", sum := "ec9236b5dd287a4164b3220c0f6946f68a0ffb0ab859693b9840d081fca6efe4", func := "loop.example/g00344/laws.FnExactUpdateBytes", spec := "fnExactUpdateBytes", unfollowed := true, recurses := true, apart := false, narrowed := true }
def FnExactUpdateBytesUptoSaid : Prop := fnExactUpdateBytesUptoRow.holds Try.pinned (OpenSpec.upto fnExactUpdateBytesSpec)

/-- 'laws.FnExactReadUpdate', WHERE WHAT IT READS IS OF BULK AT MOST 1048576: true; the input reads as it did. -/
def fnExactReadUpdateUptoRow : OpenClaim := { program := "ytlnfcobloolnnaa", sum := "ec9236b5dd287a4164b3220c0f6946f68a0ffb0ab859693b9840d081fca6efe4", func := "loop.example/g00344/laws.FnExactReadUpdate", spec := "fnExactReadUpdate", unfollowed := true, recurses := true, apart := false, narrowed := true }
def FnExactReadUpdateUptoSaid : Prop := fnExactReadUpdateUptoRow.holds Try.pinned (OpenSpec.upto fnExactReadUpdateSpec)

/-- 'laws.FnPrepend', WHERE WHAT IT READS IS OF BULK AT MOST 1048576: true; the input reads as it did. -/
def fnPrependUptoRow : OpenClaim := { program := "ytlnfcobloolnnaa", sum := "ec9236b5dd287a4164b3220c0f6946f68a0ffb0ab859693b9840d081fca6efe4", func := "loop.example/g00344/laws.FnPrepend", spec := "fnPrepend", unfollowed := true, recurses := true, apart := false, narrowed := true }
def FnPrependUptoSaid : Prop := fnPrependUptoRow.holds Try.pinned (OpenSpec.upto fnPrependSpec)

/-- 'laws.FnUpdates', WHERE WHAT IT READS IS OF BULK AT MOST 1048576: true; the input reads as it did. -/
def fnUpdatesUptoRow : OpenClaim := { program := "ytlnfcobloolnnaa", sum := "ec9236b5dd287a4164b3220c0f6946f68a0ffb0ab859693b9840d081fca6efe4", func := "loop.example/g00344/laws.FnUpdates", spec := "fnUpdates", unfollowed := true, recurses := true, apart := false, narrowed := true }
def FnUpdatesUptoSaid : Prop := fnUpdatesUptoRow.holds Try.pinned (OpenSpec.upto fnUpdatesSpec)

end Rows
end Go.Proofs.Ytlnfcobloolnnaa
