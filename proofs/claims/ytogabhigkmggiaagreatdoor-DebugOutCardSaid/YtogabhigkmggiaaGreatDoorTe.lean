import Derived.Test.YtogabhigkmggiaaGreatDoorT0
set_option linter.unusedVariables false
set_option linter.unusedSimpArgs false
set_option linter.unusedSectionVars false
namespace Go.Proofs.YtogabhigkmggiaaGreatDoor
open Go
theorem tieE (os : Os) (tape : Tape) : (DataW.laidRun Tryz.prog (varsWorld Tryz.prog 400 768 os tape).memory 8 (tieList.map (·.1))).map (·.1) = some tieList := by kernel_rfl
end Go.Proofs.YtogabhigkmggiaaGreatDoor
