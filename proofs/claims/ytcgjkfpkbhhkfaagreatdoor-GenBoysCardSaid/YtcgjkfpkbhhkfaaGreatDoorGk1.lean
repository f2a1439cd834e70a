import Derived.Test.YtcgjkfpkbhhkfaaGreatDoorGx
import Derived.KernelRfl
set_option linter.unusedVariables false
set_option linter.unusedSimpArgs false
set_option linter.unusedSectionVars false
namespace Go.Ev
open Go.Proofs
theorem m7_run : MemoRun Tryz.prog F X2 m7 := memoRun_of_ok (by kernel_rfl)
theorem m8_shut : memoShut m8 = true := by kernel_rfl
theorem m8_run : MemoRun Tryz.prog F X3 m8 := memoRun_of_ok (by kernel_rfl)
theorem m9_shut : memoShut m9 = true := by kernel_rfl
theorem m9_run : MemoRun Tryz.prog F X4 m9 := memoRun_of_ok (by kernel_rfl)
theorem m10_shut : memoShut m10 = true := by kernel_rfl
theorem m10_run : MemoRun Tryz.prog F X1 m10 := memoRun_of_ok (by kernel_rfl)
theorem m11_shut : memoShut m11 = true := by kernel_rfl
theorem m11_run : MemoRun Tryz.prog F X0 m11 := memoRun_of_ok (by kernel_rfl)
theorem m12_shut : memoShut m12 = true := by kernel_rfl
end Go.Ev
