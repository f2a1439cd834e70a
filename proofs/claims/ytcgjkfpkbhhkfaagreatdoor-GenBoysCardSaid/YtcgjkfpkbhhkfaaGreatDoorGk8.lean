import Derived.Test.YtcgjkfpkbhhkfaaGreatDoorGx
import Derived.KernelRfl
set_option linter.unusedVariables false
set_option linter.unusedSimpArgs false
set_option linter.unusedSectionVars false
namespace Go.Ev
open Go.Proofs
theorem s37_0 : firstRun Tryz.prog F X2 m37 101531 (keys s37_0_l) = some (s37_0_fr, Q 5575, s37_0_l) := by kernel_rfl
theorem s37_0_fine : cutFine (keys m37.ks) (keys s37_0_l) s37_0_fr s37_0_l = true := by kernel_rfl
theorem s37_1 : cutRun Tryz.prog F X2 101254 ⟨s37_0_fr, [], ⟨setL .leaf s37_0_l, Q 5575⟩⟩ (keys s37_1_l) = some (s37_1_fr, Q 8223, s37_1_l) := by kernel_rfl
theorem s37_1_fine : cutFine (keys m37.ks) (keys s37_1_l) s37_1_fr s37_1_l = true := by kernel_rfl
end Go.Ev
