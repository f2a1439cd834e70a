import Derived.Test.YtcgjkfpkbhhkfaaGreatDoorGx
import Derived.KernelRfl
set_option linter.unusedVariables false
set_option linter.unusedSimpArgs false
set_option linter.unusedSectionVars false
namespace Go.Ev
open Go.Proofs
theorem m20_run : MemoRun Tryz.prog F X1 m20 := memoRun_of_ok (by kernel_rfl)
theorem m21_shut : memoShut m21 = true := by kernel_rfl
theorem m21_run : MemoRun Tryz.prog F X0 m21 := memoRun_of_ok (by kernel_rfl)
theorem m22_shut : memoShut m22 = true := by kernel_rfl
theorem m22_run : MemoRun Tryz.prog F X2 m22 := memoRun_of_ok (by kernel_rfl)
theorem m23_shut : memoShut m23 = true := by kernel_rfl
theorem m23_run : MemoRun Tryz.prog F X3 m23 := memoRun_of_ok (by kernel_rfl)
theorem m24_shut : memoShut m24 = true := by kernel_rfl
theorem m24_run : MemoRun Tryz.prog F X4 m24 := memoRun_of_ok (by kernel_rfl)
theorem m25_shut : memoShut m25 = true := by kernel_rfl
end Go.Ev
