import Derived.Test.YtogabhigkmggiaaGreatDoorMx
set_option linter.unusedVariables false
set_option linter.unusedSimpArgs false
set_option linter.unusedSectionVars false
namespace Go.Ev
open Go.Proofs
theorem m24_ok : memoOk Tryz.prog F X3 m24 = true := by kernel_rfl
theorem m24_shut : memoShut m24 = true := by kernel_rfl
theorem m25_ok : memoOk Tryz.prog F X3 m25 = true := by kernel_rfl
theorem m25_shut : memoShut m25 = true := by kernel_rfl
theorem m26_ok : memoOk Tryz.prog F X3 m26 = true := by kernel_rfl
theorem m26_shut : memoShut m26 = true := by kernel_rfl
theorem m27_ok : memoOk Tryz.prog F X3 m27 = true := by kernel_rfl
theorem m27_shut : memoShut m27 = true := by kernel_rfl
end Go.Ev
