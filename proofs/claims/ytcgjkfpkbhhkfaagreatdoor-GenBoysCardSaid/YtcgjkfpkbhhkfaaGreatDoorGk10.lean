import Derived.Test.YtcgjkfpkbhhkfaaGreatDoorGx
import Derived.KernelRfl
set_option linter.unusedVariables false
set_option linter.unusedSimpArgs false
set_option linter.unusedSectionVars false
namespace Go.Ev
open Go.Proofs
theorem s42_0 : firstRun Tryz.prog F X2 m42 101531 (keys s42_0_l) = some (s42_0_fr, Q 5575, s42_0_l) := by kernel_rfl
theorem s42_0_fine : cutFine (keys m42.ks) (keys s42_0_l) s42_0_fr s42_0_l = true := by kernel_rfl
theorem s42_1 : cutRun Tryz.prog F X2 101254 ⟨s42_0_fr, [], ⟨setL .leaf s42_0_l, Q 5575⟩⟩ (keys s42_1_l) = some (s42_1_fr, Q 8223, s42_1_l) := by kernel_rfl
theorem s42_1_fine : cutFine (keys m42.ks) (keys s42_1_l) s42_1_fr s42_1_l = true := by kernel_rfl
end Go.Ev
