import Derived.Test.YtogabhigkmggiaaGreatDoorMx
set_option linter.unusedVariables false
set_option linter.unusedSimpArgs false
set_option linter.unusedSectionVars false
namespace Go.Ev
open Go.Proofs
theorem m16_ok : memoOk Tryz.prog F X3 m16 = true := by kernel_rfl
theorem m16_shut : memoShut m16 = true := by kernel_rfl
theorem m17_ok : memoOk Tryz.prog F X3 m17 = true := by kernel_rfl
theorem m17_shut : memoShut m17 = true := by kernel_rfl
theorem m18_ok : memoOk Tryz.prog F X3 m18 = true := by kernel_rfl
theorem m18_shut : memoShut m18 = true := by kernel_rfl
theorem m19_ok : memoOk Tryz.prog F X3 m19 = true := by kernel_rfl
theorem m19_shut : memoShut m19 = true := by kernel_rfl
end Go.Ev
