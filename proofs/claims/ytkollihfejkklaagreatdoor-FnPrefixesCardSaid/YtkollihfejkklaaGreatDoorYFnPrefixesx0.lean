/- Written by this session's own program over the kit's print: Lean functions that tell what Go functions answer, each with a proof that the call does so. No condition but what each statement says. -/
import Derived.Test.YtkollihfejkklaaGreatDoorProg
import Derived.Deep.RegionLaw
import Derived.Lib.SliceRun
import Derived.Laws.CopyOwn
import Derived.Laws.EntriesVeiled
import Derived.Test.YtkollihfejkklaaGreatDoorQFnPrefixes
namespace Go.Proofs.YtkollihfejkklaaGreatDoor.PFnPrefixes
open Go.RowKit Go.Proofs.YtkollihfejkklaaGreatDoorW.PrintWords Go.Proofs.YtkollihfejkklaaGreatDoorW.PrintLast Go.Proofs.YtkollihfejkklaaGreatDoorW.PrintMore
attribute [local go_sem] max2_int min2_int max_two min_two max_three min_three max_four min_four   -- for this text's walks alone
set_option linter.unusedVariables false
set_option linter.unusedSimpArgs false



def errW : Option Int → Value
  | none => .nilIface
  | some c => .iface 0 (.int .i64 c)
theorem errW_none : errW none = .nilIface := rfl
theorem errW_some (c : Int) : errW (some c) = .iface 0 (.int .i64 c) := rfl

theorem info3 : (Tryz.prog.info? 3).map (fun i => (i.zero, i.size, i.bytes)) = some (some (.int .i64 0), 1, 8) := by kernel_rfl
theorem info5 : (Tryz.prog.info? 5).map (fun i => (i.zero, i.size, i.bytes)) = some (some (.int .u8 0), 1, 1) := by kernel_rfl
theorem info9 : (Tryz.prog.info? 9).map (fun i => (i.zero, i.size, i.bytes)) = some (some (.string ⟨#[]⟩), 1, 16) := by kernel_rfl
-- the values' own types

end Go.Proofs.YtkollihfejkklaaGreatDoor.PFnPrefixes
