import Derived.Test.YtogabhigkmggiaaGreatDoorMx
set_option linter.unusedVariables false
set_option linter.unusedSimpArgs false
set_option linter.unusedSectionVars false
namespace Go.Ev
open Go.Proofs
theorem m0_ok : memoOk Tryz.prog F X1 m0 = true := by kernel_rfl
theorem m0_shut : memoShut m0 = true := by kernel_rfl
theorem m1_ok : memoOk Tryz.prog F X1 m1 = true := by kernel_rfl
theorem m1_shut : memoShut m1 = true := by kernel_rfl
theorem m2_ok : memoOk Tryz.prog F X1 m2 = true := by kernel_rfl
theorem m2_shut : memoShut m2 = true := by kernel_rfl
theorem m3_ok : memoOk Tryz.prog F X5 m3 = true := by kernel_rfl
theorem m3_shut : memoShut m3 = true := by kernel_rfl
end Go.Ev
