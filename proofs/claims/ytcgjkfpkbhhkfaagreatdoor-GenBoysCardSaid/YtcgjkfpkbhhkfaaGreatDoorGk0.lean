import Derived.Test.YtcgjkfpkbhhkfaaGreatDoorGx
import Derived.KernelRfl
set_option linter.unusedVariables false
set_option linter.unusedSimpArgs false
set_option linter.unusedSectionVars false
namespace Go.Ev
open Go.Proofs
theorem m0_shut : memoShut m0 = true := by kernel_rfl
theorem m0_run : MemoRun Tryz.prog F X4 m0 := memoRun_of_ok (by kernel_rfl)
theorem m1_shut : memoShut m1 = true := by kernel_rfl
theorem m1_run : MemoRun Tryz.prog F X1 m1 := memoRun_of_ok (by kernel_rfl)
theorem m2_shut : memoShut m2 = true := by kernel_rfl
theorem m2_run : MemoRun Tryz.prog F X0 m2 := memoRun_of_ok (by kernel_rfl)
theorem m3_shut : memoShut m3 = true := by kernel_rfl
theorem m3_run : MemoRun Tryz.prog F X2 m3 := memoRun_of_ok (by kernel_rfl)
theorem m4_shut : memoShut m4 = true := by kernel_rfl
theorem m4_run : MemoRun Tryz.prog F X3 m4 := memoRun_of_ok (by kernel_rfl)
theorem m5_shut : memoShut m5 = true := by kernel_rfl
theorem m5_run : MemoRun Tryz.prog F X1 m5 := memoRun_of_ok (by kernel_rfl)
theorem m6_shut : memoShut m6 = true := by kernel_rfl
theorem m6_run : MemoRun Tryz.prog F X0 m6 := memoRun_of_ok (by kernel_rfl)
theorem m7_shut : memoShut m7 = true := by kernel_rfl
end Go.Ev
