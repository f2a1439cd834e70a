import Derived.Test.YtcgjkfpkbhhkfaaGreatDoorT0
set_option linter.unusedVariables false
set_option linter.unusedSimpArgs false
set_option linter.unusedSectionVars false
namespace Go.Proofs.YtcgjkfpkbhhkfaaGreatDoor
open Go
theorem tieF (os : Os) (tape : Tape) : (DataW.laidRun Tryz.prog (varsWorld Tryz.prog 400 631 os tape).memory 8 (tieList.map (·.1))).map (fun x => decide x.2.Nodup && laidRowsB Tryz.prog (varsWorld Tryz.prog 400 631 os tape).memory x.2) = some true := by kernel_rfl
end Go.Proofs.YtcgjkfpkbhhkfaaGreatDoor
