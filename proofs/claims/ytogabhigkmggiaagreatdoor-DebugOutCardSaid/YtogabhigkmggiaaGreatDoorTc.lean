import Derived.Test.YtogabhigkmggiaaGreatDoorT0
set_option linter.unusedVariables false
set_option linter.unusedSimpArgs false
set_option linter.unusedSectionVars false
namespace Go.Proofs.YtogabhigkmggiaaGreatDoor
open Go
theorem tieC : varsNamedLaterB Tryz.prog 768 tieList = true := by kernel_rfl
end Go.Proofs.YtogabhigkmggiaaGreatDoor
