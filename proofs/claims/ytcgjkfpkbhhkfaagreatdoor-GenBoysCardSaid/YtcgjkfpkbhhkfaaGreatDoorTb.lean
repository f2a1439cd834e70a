import Derived.Test.YtcgjkfpkbhhkfaaGreatDoorT0
set_option linter.unusedVariables false
set_option linter.unusedSimpArgs false
set_option linter.unusedSectionVars false
namespace Go.Proofs.YtcgjkfpkbhhkfaaGreatDoor
open Go
theorem tieB1 : tieList.map (fun x => Tryz.prog.kindOfLater x.1) = [LaidKind.data, .listed, .data, .data, .data, .data].map some := by kernel_rfl
theorem tieB2 : (Tryz.prog.funcNamed "gosem.cut.vars").isSome = true := by kernel_rfl
end Go.Proofs.YtcgjkfpkbhhkfaaGreatDoor
