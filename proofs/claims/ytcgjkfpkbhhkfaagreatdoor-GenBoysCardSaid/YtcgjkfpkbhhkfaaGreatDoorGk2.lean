import Derived.Test.YtcgjkfpkbhhkfaaGreatDoorGx
import Derived.KernelRfl
set_option linter.unusedVariables false
set_option linter.unusedSimpArgs false
set_option linter.unusedSectionVars false
namespace Go.Ev
open Go.Proofs
theorem s12_0 : firstRun Tryz.prog F X2 m12 101532 (keys s12_0_l) = some (s12_0_fr, Q 5681, s12_0_l) := by kernel_rfl
theorem s12_0_fine : cutFine (keys m12.ks) (keys s12_0_l) s12_0_fr s12_0_l = true := by kernel_rfl
theorem s12_last : lastOk Tryz.prog F X2 m12 33576 ⟨s12_0_fr, [], ⟨setL .leaf s12_0_l, Q 5681⟩⟩ = true := by kernel_rfl
theorem m13_shut : memoShut m13 = true := by kernel_rfl
theorem m13_run : MemoRun Tryz.prog F X3 m13 := memoRun_of_ok (by kernel_rfl)
theorem m14_shut : memoShut m14 = true := by kernel_rfl
theorem m14_run : MemoRun Tryz.prog F X1 m14 := memoRun_of_ok (by kernel_rfl)
theorem m15_shut : memoShut m15 = true := by kernel_rfl
theorem m15_run : MemoRun Tryz.prog F X0 m15 := memoRun_of_ok (by kernel_rfl)
theorem m16_shut : memoShut m16 = true := by kernel_rfl
theorem m16_run : MemoRun Tryz.prog F X2 m16 := memoRun_of_ok (by kernel_rfl)
theorem m17_shut : memoShut m17 = true := by kernel_rfl
theorem m17_run : MemoRun Tryz.prog F X3 m17 := memoRun_of_ok (by kernel_rfl)
theorem m18_shut : memoShut m18 = true := by kernel_rfl
theorem m18_run : MemoRun Tryz.prog F X5 m18 := memoRun_of_ok (by kernel_rfl)
theorem m19_shut : memoShut m19 = true := by kernel_rfl
theorem m19_run : MemoRun Tryz.prog F X4 m19 := memoRun_of_ok (by kernel_rfl)
theorem m20_shut : memoShut m20 = true := by kernel_rfl
end Go.Ev
