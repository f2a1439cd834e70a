import Derived.Test.YtogabhigkmggiaaGreatDoorMx
set_option linter.unusedVariables false
set_option linter.unusedSimpArgs false
set_option linter.unusedSectionVars false
namespace Go.Ev
open Go.Proofs
theorem m4_ok : memoOk Tryz.prog F X1 m4 = true := by kernel_rfl
theorem m4_shut : memoShut m4 = true := by kernel_rfl
theorem m5_ok : memoOk Tryz.prog F X6 m5 = true := by kernel_rfl
theorem m5_shut : memoShut m5 = true := by kernel_rfl
theorem m6_ok : memoOk Tryz.prog F X1 m6 = true := by kernel_rfl
theorem m6_shut : memoShut m6 = true := by kernel_rfl
theorem m7_ok : memoOk Tryz.prog F X0 m7 = true := by kernel_rfl
theorem m7_shut : memoShut m7 = true := by kernel_rfl
end Go.Ev
