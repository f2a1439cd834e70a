import Derived.Test.YtogabhigkmggiaaGreatDoorMx
set_option linter.unusedVariables false
set_option linter.unusedSimpArgs false
set_option linter.unusedSectionVars false
namespace Go.Ev
open Go.Proofs
theorem m48_ok : memoOk Tryz.prog F X7 m48 = true := by kernel_rfl
theorem m48_shut : memoShut m48 = true := by kernel_rfl
end Go.Ev
