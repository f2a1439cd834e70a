import Derived.Test.YtcgjkfpkbhhkfaaGreatDoorT0
set_option linter.unusedVariables false
set_option linter.unusedSimpArgs false
set_option linter.unusedSectionVars false
namespace Go.Proofs.YtcgjkfpkbhhkfaaGreatDoor
open Go
theorem tieD (os : Os) (tape : Tape) : varsDone Tryz.prog 400 631 os tape = true := by kernel_rfl
end Go.Proofs.YtcgjkfpkbhhkfaaGreatDoor
