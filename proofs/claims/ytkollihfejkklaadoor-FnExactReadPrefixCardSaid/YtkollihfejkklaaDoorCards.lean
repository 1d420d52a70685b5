/-
  DERIVED. GIVEN WITH THE SEED: THE CARDS: each row of YtkollihfejkklaaDoorRows.lean that lists a variable, with what it lists TIED to the program's text (the seventh form; the later family's looks); each row that meets fmt, with fmt's text TOLD by the authors' own Lean function (tested against real Go, not proved from fmt's source: count such statements apart). THE CARD IS WHAT COUNTS. Prove the row's statement (the work); the ties are given (YtkollihfejkklaaDoorTie.lean); close each card by the builder's one call (the guide's Derived/Test/ToyasCard.lean, 'card_holds'). Laid BY PROGRAM, IN A SANDBOX (cutbox-door.mjs). By AI agents, Wed Nov 11 2026. No macro, syntax, notation, axiom, sorry.
-/
import Derived.Test.YtkollihfejkklaaDoorRows
import GoSem.ClaimSeven
namespace Go.Proofs.YtkollihfejkklaaDoor
namespace Rows

/-- THE TIED CARD OF 'laws.FnExactPrefixText'. -/
def fnExactPrefixTextCard : Claim7 := { stood := { row := fnExactPrefixTextRow, standIns := [], harness := (true, "ddd58875f75dd507145d815ada60cd5c075341a3999a5c26c16c3672a603c770"), looks := true }, kinds := [], alts := [], laidByText := true, laidKinds := [.data, .data, .data], laidTests := true, laidLooks := .later }
def FnExactPrefixTextCardSaid : Prop := Claim7.holds Tryd.pinned (.plain (OpenSpec.ofChange fnExactPrefixTextSpec)) fnExactPrefixTextCard

/-- THE TIED CARD OF 'laws.FnExactReadPrefix'. -/
def fnExactReadPrefixCard : Claim7 := { stood := { row := fnExactReadPrefixRow, standIns := [], harness := (true, "ddd58875f75dd507145d815ada60cd5c075341a3999a5c26c16c3672a603c770"), looks := true }, kinds := [], alts := [], laidByText := true, laidKinds := [.data, .data, .data, .data, .sentinel, .sentinel, .pinned], laidTests := true, laidLooks := .later }
def FnExactReadPrefixCardSaid : Prop := Claim7.holds Tryd.pinned (.plain (OpenSpec.ofChange fnExactReadPrefixSpec)) fnExactReadPrefixCard

/-- THE SECOND FORM's CARD OF 'laws.FnExactPrefixText'. -/
def fnExactPrefixTextUptoCard : Claim7 := { stood := { row := fnExactPrefixTextUptoRow, standIns := [], harness := (true, "ddd58875f75dd507145d815ada60cd5c075341a3999a5c26c16c3672a603c770"), looks := true }, kinds := [], alts := [], laidByText := true, laidKinds := [.data, .data, .data], laidTests := true, laidLooks := .later }
def FnExactPrefixTextUptoCardSaid : Prop := Claim7.holds Tryd.pinned (.plain (OpenSpec.upto fnExactPrefixTextSpec)) fnExactPrefixTextUptoCard

/-- THE SECOND FORM's CARD OF 'laws.FnExactReadPrefix'. -/
def fnExactReadPrefixUptoCard : Claim7 := { stood := { row := fnExactReadPrefixUptoRow, standIns := [], harness := (true, "ddd58875f75dd507145d815ada60cd5c075341a3999a5c26c16c3672a603c770"), looks := true }, kinds := [], alts := [], laidByText := true, laidKinds := [.data, .data, .data, .data, .sentinel, .sentinel, .pinned], laidTests := true, laidLooks := .later }
def FnExactReadPrefixUptoCardSaid : Prop := Claim7.holds Tryd.pinned (.plain (OpenSpec.upto fnExactReadPrefixSpec)) fnExactReadPrefixUptoCard
end Rows
end Go.Proofs.YtkollihfejkklaaDoor
