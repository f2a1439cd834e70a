import Derived.Test.YtogabhigkmggiaaGreatDoorMx
set_option linter.unusedVariables false
set_option linter.unusedSimpArgs false
set_option linter.unusedSectionVars false
namespace Go.Ev
open Go.Proofs
theorem m40_ok : memoOk Tryz.prog F X3 m40 = true := by kernel_rfl
theorem m40_shut : memoShut m40 = true := by kernel_rfl
theorem m41_ok : memoOk Tryz.prog F X3 m41 = true := by kernel_rfl
theorem m41_shut : memoShut m41 = true := by kernel_rfl
theorem m42_ok : memoOk Tryz.prog F X3 m42 = true := by kernel_rfl
theorem m42_shut : memoShut m42 = true := by kernel_rfl
theorem m43_ok : memoOk Tryz.prog F X3 m43 = true := by kernel_rfl
theorem m43_shut : memoShut m43 = true := by kernel_rfl
end Go.Ev
