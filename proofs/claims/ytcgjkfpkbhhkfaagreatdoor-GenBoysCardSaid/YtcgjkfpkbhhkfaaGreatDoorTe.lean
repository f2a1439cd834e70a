import Derived.Test.YtcgjkfpkbhhkfaaGreatDoorT0
set_option linter.unusedVariables false
set_option linter.unusedSimpArgs false
set_option linter.unusedSectionVars false
namespace Go.Proofs.YtcgjkfpkbhhkfaaGreatDoor
open Go
theorem tieE (os : Os) (tape : Tape) : (DataW.laidRun Tryz.prog (varsWorld Tryz.prog 400 631 os tape).memory 8 (tieList.map (·.1))).map (·.1) = some tieList := by kernel_rfl
end Go.Proofs.YtcgjkfpkbhhkfaaGreatDoor
