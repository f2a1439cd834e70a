import Derived.Test.YtcgjkfpkbhhkfaaGreatDoorGx
import Derived.KernelRfl
set_option linter.unusedVariables false
set_option linter.unusedSimpArgs false
set_option linter.unusedSectionVars false
namespace Go.Ev
open Go.Proofs
theorem m31_run : MemoRun Tryz.prog F X0 m31 := memoRun_of_ok (by kernel_rfl)
theorem m32_shut : memoShut m32 = true := by kernel_rfl
theorem s32_0 : firstRun Tryz.prog F X2 m32 101532 (keys s32_0_l) = some (s32_0_fr, Q 5575, s32_0_l) := by kernel_rfl
theorem s32_0_fine : cutFine (keys m32.ks) (keys s32_0_l) s32_0_fr s32_0_l = true := by kernel_rfl
theorem s32_last : lastOk Tryz.prog F X2 m32 33576 ⟨s32_0_fr, [], ⟨setL .leaf s32_0_l, Q 5575⟩⟩ = true := by kernel_rfl
theorem m33_shut : memoShut m33 = true := by kernel_rfl
theorem m33_run : MemoRun Tryz.prog F X3 m33 := memoRun_of_ok (by kernel_rfl)
theorem m34_shut : memoShut m34 = true := by kernel_rfl
theorem m34_run : MemoRun Tryz.prog F X4 m34 := memoRun_of_ok (by kernel_rfl)
theorem m35_shut : memoShut m35 = true := by kernel_rfl
end Go.Ev
