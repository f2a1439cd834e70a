import Derived.Test.YtogabhigkmggiaaGreatDoorMx
set_option linter.unusedVariables false
set_option linter.unusedSimpArgs false
set_option linter.unusedSectionVars false
namespace Go.Ev
open Go.Proofs
theorem m20_ok : memoOk Tryz.prog F X3 m20 = true := by kernel_rfl
theorem m20_shut : memoShut m20 = true := by kernel_rfl
theorem m21_ok : memoOk Tryz.prog F X3 m21 = true := by kernel_rfl
theorem m21_shut : memoShut m21 = true := by kernel_rfl
theorem m22_ok : memoOk Tryz.prog F X3 m22 = true := by kernel_rfl
theorem m22_shut : memoShut m22 = true := by kernel_rfl
theorem m23_ok : memoOk Tryz.prog F X3 m23 = true := by kernel_rfl
theorem m23_shut : memoShut m23 = true := by kernel_rfl
end Go.Ev
