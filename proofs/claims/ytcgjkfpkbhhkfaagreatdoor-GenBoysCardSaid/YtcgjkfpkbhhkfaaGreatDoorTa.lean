import Derived.Test.YtcgjkfpkbhhkfaaGreatDoorT0
set_option linter.unusedVariables false
set_option linter.unusedSimpArgs false
set_option linter.unusedSectionVars false
namespace Go.Proofs.YtcgjkfpkbhhkfaaGreatDoor
open Go
theorem tieA1 : Tryz.prog.worded (varsWordLater true) = true := by kernel_rfl
theorem tieA2 : Tryz.prog.worded (varsWordLater !true) = false := by kernel_rfl
theorem tieA3 : Tryz.prog.worded rootWordLater = true := by kernel_rfl
end Go.Proofs.YtcgjkfpkbhhkfaaGreatDoor
