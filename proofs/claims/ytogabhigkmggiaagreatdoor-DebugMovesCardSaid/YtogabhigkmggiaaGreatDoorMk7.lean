import Derived.Test.YtogabhigkmggiaaGreatDoorMx
set_option linter.unusedVariables false
set_option linter.unusedSimpArgs false
set_option linter.unusedSectionVars false
namespace Go.Ev
open Go.Proofs
theorem m28_ok : memoOk Tryz.prog F X3 m28 = true := by kernel_rfl
theorem m28_shut : memoShut m28 = true := by kernel_rfl
theorem m29_ok : memoOk Tryz.prog F X3 m29 = true := by kernel_rfl
theorem m29_shut : memoShut m29 = true := by kernel_rfl
theorem m30_ok : memoOk Tryz.prog F X3 m30 = true := by kernel_rfl
theorem m30_shut : memoShut m30 = true := by kernel_rfl
theorem m31_ok : memoOk Tryz.prog F X3 m31 = true := by kernel_rfl
theorem m31_shut : memoShut m31 = true := by kernel_rfl
end Go.Ev
