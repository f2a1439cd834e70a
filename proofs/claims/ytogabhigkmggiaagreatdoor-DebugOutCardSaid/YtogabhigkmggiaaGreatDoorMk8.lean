import Derived.Test.YtogabhigkmggiaaGreatDoorMx
set_option linter.unusedVariables false
set_option linter.unusedSimpArgs false
set_option linter.unusedSectionVars false
namespace Go.Ev
open Go.Proofs
theorem m32_ok : memoOk Tryz.prog F X3 m32 = true := by kernel_rfl
theorem m32_shut : memoShut m32 = true := by kernel_rfl
theorem m33_ok : memoOk Tryz.prog F X3 m33 = true := by kernel_rfl
theorem m33_shut : memoShut m33 = true := by kernel_rfl
theorem m34_ok : memoOk Tryz.prog F X3 m34 = true := by kernel_rfl
theorem m34_shut : memoShut m34 = true := by kernel_rfl
theorem m35_ok : memoOk Tryz.prog F X3 m35 = true := by kernel_rfl
theorem m35_shut : memoShut m35 = true := by kernel_rfl
end Go.Ev
