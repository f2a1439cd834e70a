import Derived.Test.YtcgjkfpkbhhkfaaGreatDoorGx
import Derived.KernelRfl
set_option linter.unusedVariables false
set_option linter.unusedSimpArgs false
set_option linter.unusedSectionVars false
namespace Go.Ev
open Go.Proofs
theorem s27_0 : firstRun Tryz.prog F X2 m27 100742 (keys s27_0_l) = some (s27_0_fr, Q 5677, s27_0_l) := by kernel_rfl
theorem s27_0_fine : cutFine (keys m27.ks) (keys s27_0_l) s27_0_fr s27_0_l = true := by kernel_rfl
theorem s27_last : lastOk Tryz.prog F X2 m27 2981 ⟨s27_0_fr, [], ⟨setL .leaf s27_0_l, Q 5677⟩⟩ = true := by kernel_rfl
theorem m28_shut : memoShut m28 = true := by kernel_rfl
theorem m28_run : MemoRun Tryz.prog F X3 m28 := memoRun_of_ok (by kernel_rfl)
theorem m29_shut : memoShut m29 = true := by kernel_rfl
theorem m29_run : MemoRun Tryz.prog F X4 m29 := memoRun_of_ok (by kernel_rfl)
theorem m30_shut : memoShut m30 = true := by kernel_rfl
theorem m30_run : MemoRun Tryz.prog F X1 m30 := memoRun_of_ok (by kernel_rfl)
theorem m31_shut : memoShut m31 = true := by kernel_rfl
end Go.Ev
