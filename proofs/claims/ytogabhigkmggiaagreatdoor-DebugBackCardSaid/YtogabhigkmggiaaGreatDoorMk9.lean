import Derived.Test.YtogabhigkmggiaaGreatDoorMx
set_option linter.unusedVariables false
set_option linter.unusedSimpArgs false
set_option linter.unusedSectionVars false
namespace Go.Ev
open Go.Proofs
theorem m36_ok : memoOk Tryz.prog F X3 m36 = true := by kernel_rfl
theorem m36_shut : memoShut m36 = true := by kernel_rfl
theorem m37_ok : memoOk Tryz.prog F X3 m37 = true := by kernel_rfl
theorem m37_shut : memoShut m37 = true := by kernel_rfl
theorem m38_ok : memoOk Tryz.prog F X3 m38 = true := by kernel_rfl
theorem m38_shut : memoShut m38 = true := by kernel_rfl
theorem m39_ok : memoOk Tryz.prog F X3 m39 = true := by kernel_rfl
theorem m39_shut : memoShut m39 = true := by kernel_rfl
end Go.Ev
