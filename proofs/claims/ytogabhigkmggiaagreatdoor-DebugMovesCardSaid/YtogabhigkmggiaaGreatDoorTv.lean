import Derived.Test.YtogabhigkmggiaaGreatDoorT0
set_option linter.unusedVariables false
set_option linter.unusedSimpArgs false
set_option linter.unusedSectionVars false
namespace Go.Proofs.YtogabhigkmggiaaGreatDoor
open Go
theorem vid : varsId Tryz.prog = 768 := by kernel_rfl
end Go.Proofs.YtogabhigkmggiaaGreatDoor
