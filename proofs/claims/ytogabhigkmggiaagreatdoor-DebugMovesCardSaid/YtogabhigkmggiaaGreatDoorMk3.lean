import Derived.Test.YtogabhigkmggiaaGreatDoorMx
set_option linter.unusedVariables false
set_option linter.unusedSimpArgs false
set_option linter.unusedSectionVars false
namespace Go.Ev
open Go.Proofs
theorem m12_ok : memoOk Tryz.prog F X3 m12 = true := by kernel_rfl
theorem m12_shut : memoShut m12 = true := by kernel_rfl
theorem m13_ok : memoOk Tryz.prog F X3 m13 = true := by kernel_rfl
theorem m13_shut : memoShut m13 = true := by kernel_rfl
theorem m14_ok : memoOk Tryz.prog F X3 m14 = true := by kernel_rfl
theorem m14_shut : memoShut m14 = true := by kernel_rfl
theorem m15_ok : memoOk Tryz.prog F X3 m15 = true := by kernel_rfl
theorem m15_shut : memoShut m15 = true := by kernel_rfl
end Go.Ev
