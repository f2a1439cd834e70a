import Derived.Test.YtcgjkfpkbhhkfaaGreatDoorGx
import Derived.KernelRfl
set_option linter.unusedVariables false
set_option linter.unusedSimpArgs false
set_option linter.unusedSectionVars false
namespace Go.Ev
open Go.Proofs
theorem m25_run : MemoRun Tryz.prog F X1 m25 := memoRun_of_ok (by kernel_rfl)
theorem m26_shut : memoShut m26 = true := by kernel_rfl
theorem m26_run : MemoRun Tryz.prog F X0 m26 := memoRun_of_ok (by kernel_rfl)
theorem m27_shut : memoShut m27 = true := by kernel_rfl
end Go.Ev
