/- Written by this session's own program over the kit's print: Lean functions that tell what Go functions answer, each with a proof that the call does so. No condition but what each statement says. -/
import Derived.Test.YtlnfcobloolnnaaProg
import Derived.Below
import Derived.Deep.Draws
import Derived.Deep.AppendLies
import Derived.Maps.AppendAt
import Derived.OwnWalk
import Derived.Laws.BytesArg
import Derived.Laws.MakeOwn
import Derived.Laws.OwnMore
import Derived.Deep.OwnRows
import Derived.Tactics
import Derived.Lib.ConvBytes
import Derived.Laws.Slices
import Derived.WalkKit
import Derived.KernelRfl
import Derived.RowKit3
import Derived.Deep.LoopGhost
import Derived.Deep.QuietTactic
import Derived.BigQuiet
import Derived.WideLaws
import Derived.Deep.DeepCutAuto
import Derived.Deep.CutBlock
import Derived.Deep.RegionHeld3
import Derived.Laws.Rows
import Derived.Lib.AppendStr
import Derived.ArgAppend
import Derived.Laws.IdiomCopy
import Derived.OrdersHeld
import Derived.Laws.BitsLemmas
import Derived.Lib.SliceRun
import Derived.Laws.CopyOwn
import Derived.RowKit
import Derived.Test.YtlnfcobloolnnaaWWords
import Derived.Test.YtlnfcobloolnnaaWLast
import Derived.Test.YtlnfcobloolnnaaWTab
import Derived.Test.YtlnfcobloolnnaaWFour
import Derived.Test.YtlnfcobloolnnaaWQPut
import Derived.Test.YtlnfcobloolnnaaWApart
import Derived.Test.YtlnfcobloolnnaaWArr
import Derived.Test.YtlnfcobloolnnaaWZeros
import Derived.Test.YtlnfcobloolnnaaWFoot
import Derived.Test.YtlnfcobloolnnaaWKept
import Derived.Test.YtlnfcobloolnnaaWShare
import Derived.Test.YtlnfcobloolnnaaWN
import Derived.Test.YtlnfcobloolnnaaWFootNe
import Derived.Test.YtlnfcobloolnnaaWAt
import Derived.Test.YtlnfcobloolnnaaWEqStruct
import Derived.Test.YtlnfcobloolnnaaWRepsOne
import Derived.Test.YtlnfcobloolnnaaWInv
import Derived.Test.YtlnfcobloolnnaaWInvWords
import Derived.Test.YtlnfcobloolnnaaWGuard
import Derived.Test.YtlnfcobloolnnaaWNEv
import Derived.Test.YtlnfcobloolnnaaWMore
namespace Go.Proofs.Ytlnfcobloolnnaa.PFnExactPrependPath
open Go.RowKit Go.Proofs.YtlnfcobloolnnaaW.PrintWords Go.Proofs.YtlnfcobloolnnaaW.PrintLast Go.Proofs.YtlnfcobloolnnaaW.PrintMore
attribute [local go_sem] max2_int min2_int max_two min_two max_three min_three max_four min_four   -- for this text's walks alone
set_option linter.unusedVariables false
set_option linter.unusedSimpArgs false



def errW : Option Int → Value
  | none => .nilIface
  | some c => .iface 0 (.int .i64 c)
theorem errW_none : errW none = .nilIface := rfl
theorem errW_some (c : Int) : errW (some c) = .iface 0 (.int .i64 c) := rfl

theorem info3 : (Try.prog.info? 3).map (fun i => (i.zero, i.size, i.bytes)) = some (some (.int .i64 0), 1, 8) := by kernel_rfl
-- the values' own types

end Go.Proofs.Ytlnfcobloolnnaa.PFnExactPrependPath
