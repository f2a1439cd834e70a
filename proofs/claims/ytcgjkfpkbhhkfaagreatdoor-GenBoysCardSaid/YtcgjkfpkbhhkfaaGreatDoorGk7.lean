import Derived.Test.YtcgjkfpkbhhkfaaGreatDoorGx
import Derived.KernelRfl
set_option linter.unusedVariables false
set_option linter.unusedSimpArgs false
set_option linter.unusedSectionVars false
namespace Go.Ev
open Go.Proofs
theorem m35_run : MemoRun Tryz.prog F X1 m35 := memoRun_of_ok (by kernel_rfl)
theorem m36_shut : memoShut m36 = true := by kernel_rfl
theorem m36_run : MemoRun Tryz.prog F X0 m36 := memoRun_of_ok (by kernel_rfl)
theorem m37_shut : memoShut m37 = true := by kernel_rfl
end Go.Ev
