import Derived.Test.YtogabhigkmggiaaGreatDoorMx
set_option linter.unusedVariables false
set_option linter.unusedSimpArgs false
set_option linter.unusedSectionVars false
namespace Go.Ev
open Go.Proofs
theorem m44_ok : memoOk Tryz.prog F X3 m44 = true := by kernel_rfl
theorem m44_shut : memoShut m44 = true := by kernel_rfl
theorem m45_ok : memoOk Tryz.prog F X3 m45 = true := by kernel_rfl
theorem m45_shut : memoShut m45 = true := by kernel_rfl
theorem m46_ok : memoOk Tryz.prog F X3 m46 = true := by kernel_rfl
theorem m46_shut : memoShut m46 = true := by kernel_rfl
theorem m47_ok : memoOk Tryz.prog F X3 m47 = true := by kernel_rfl
theorem m47_shut : memoShut m47 = true := by kernel_rfl
end Go.Ev
