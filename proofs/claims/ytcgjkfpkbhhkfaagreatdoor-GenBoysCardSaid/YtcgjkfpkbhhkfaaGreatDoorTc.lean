import Derived.Test.YtcgjkfpkbhhkfaaGreatDoorT0
set_option linter.unusedVariables false
set_option linter.unusedSimpArgs false
set_option linter.unusedSectionVars false
namespace Go.Proofs.YtcgjkfpkbhhkfaaGreatDoor
open Go
theorem tieC : varsNamedLaterB Tryz.prog 631 tieList = true := by kernel_rfl
end Go.Proofs.YtcgjkfpkbhhkfaaGreatDoor
