import Derived.Test.YtcgjkfpkbhhkfaaGreatDoorGx
import Derived.KernelRfl
set_option linter.unusedVariables false
set_option linter.unusedSimpArgs false
set_option linter.unusedSectionVars false
namespace Go.Ev
open Go.Proofs
theorem s37_last : lastOk Tryz.prog F X2 m37 91862 ⟨s37_1_fr, [], ⟨setL .leaf s37_1_l, Q 8223⟩⟩ = true := by kernel_rfl
theorem m38_shut : memoShut m38 = true := by kernel_rfl
theorem m38_run : MemoRun Tryz.prog F X3 m38 := memoRun_of_ok (by kernel_rfl)
theorem m39_shut : memoShut m39 = true := by kernel_rfl
theorem m39_run : MemoRun Tryz.prog F X4 m39 := memoRun_of_ok (by kernel_rfl)
theorem m40_shut : memoShut m40 = true := by kernel_rfl
theorem m40_run : MemoRun Tryz.prog F X1 m40 := memoRun_of_ok (by kernel_rfl)
theorem m41_shut : memoShut m41 = true := by kernel_rfl
theorem m41_run : MemoRun Tryz.prog F X0 m41 := memoRun_of_ok (by kernel_rfl)
theorem m42_shut : memoShut m42 = true := by kernel_rfl
end Go.Ev
