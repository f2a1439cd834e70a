import Derived.Test.YtcgjkfpkbhhkfaaGreatDoorT0
set_option linter.unusedVariables false
set_option linter.unusedSimpArgs false
set_option linter.unusedSectionVars false
namespace Go.Proofs.YtcgjkfpkbhhkfaaGreatDoor
open Go
theorem vid : varsId Tryz.prog = 631 := by kernel_rfl
end Go.Proofs.YtcgjkfpkbhhkfaaGreatDoor
