import Derived.Test.YtcgjkfpkbhhkfaaGreatDoorGx
import Derived.KernelRfl
set_option linter.unusedVariables false
set_option linter.unusedSimpArgs false
set_option linter.unusedSectionVars false
namespace Go.Ev
open Go.Proofs
theorem s42_2 : cutRun Tryz.prog F X2 103196 ⟨s42_1_fr, [], ⟨setL .leaf s42_1_l, Q 8223⟩⟩ (keys s42_2_l) = some (s42_2_fr, Q 10520, s42_2_l) := by kernel_rfl
theorem s42_2_fine : cutFine (keys m42.ks) (keys s42_2_l) s42_2_fr s42_2_l = true := by kernel_rfl
theorem s42_3 : cutRun Tryz.prog F X2 102150 ⟨s42_2_fr, [], ⟨setL .leaf s42_2_l, Q 10520⟩⟩ (keys s42_3_l) = some (s42_3_fr, Q 13286, s42_3_l) := by kernel_rfl
theorem s42_3_fine : cutFine (keys m42.ks) (keys s42_3_l) s42_3_fr s42_3_l = true := by kernel_rfl
end Go.Ev
