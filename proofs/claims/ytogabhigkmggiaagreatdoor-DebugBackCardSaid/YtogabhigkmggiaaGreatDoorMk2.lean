import Derived.Test.YtogabhigkmggiaaGreatDoorMx
set_option linter.unusedVariables false
set_option linter.unusedSimpArgs false
set_option linter.unusedSectionVars false
namespace Go.Ev
open Go.Proofs
theorem m8_ok : memoOk Tryz.prog F X4 m8 = true := by kernel_rfl
theorem m8_shut : memoShut m8 = true := by kernel_rfl
theorem m9_ok : memoOk Tryz.prog F X0 m9 = true := by kernel_rfl
theorem m9_shut : memoShut m9 = true := by kernel_rfl
theorem m10_ok : memoOk Tryz.prog F X0 m10 = true := by kernel_rfl
theorem m10_shut : memoShut m10 = true := by kernel_rfl
theorem m11_ok : memoOk Tryz.prog F X2 m11 = true := by kernel_rfl
theorem m11_shut : memoShut m11 = true := by kernel_rfl
end Go.Ev
