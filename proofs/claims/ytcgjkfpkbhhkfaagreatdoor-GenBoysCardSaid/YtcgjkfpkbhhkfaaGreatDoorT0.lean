import Derived.Test.YtcgjkfpkbhhkfaaGreatDoorRows
import Derived.LaidByTextLater
import Derived.SevenTiedAt
import Derived.KernelRfl
set_option linter.unusedVariables false
set_option linter.unusedSimpArgs false
set_option linter.unusedSectionVars false
namespace Go.Proofs.YtcgjkfpkbhhkfaaGreatDoor
open Go
def tieKinds : List LaidKind := [.data, .listed, .data, .data, .data, .pinned, .data]
/-- the listed variables that are laid by their text: all but the pinned one -/
def tieList : List (String × DataW Unit) := ((Rows.genBoysRow.laid.zip tieKinds).filter (·.2 != .pinned)).map (·.1)
end Go.Proofs.YtcgjkfpkbhhkfaaGreatDoor
