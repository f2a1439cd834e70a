import Derived.Test.YtcgjkfpkbhhkfaaGreatDoorGx
import Derived.KernelRfl
set_option linter.unusedVariables false
set_option linter.unusedSimpArgs false
set_option linter.unusedSectionVars false
namespace Go.Ev
open Go.Proofs
theorem s42_4 : cutRun Tryz.prog F X2 102608 ⟨s42_3_fr, [], ⟨setL .leaf s42_3_l, Q 13286⟩⟩ (keys s42_4_l) = some (s42_4_fr, Q 15055, s42_4_l) := by kernel_rfl
theorem s42_4_fine : cutFine (keys m42.ks) (keys s42_4_l) s42_4_fr s42_4_l = true := by kernel_rfl
theorem s42_5 : cutRun Tryz.prog F X2 100159 ⟨s42_4_fr, [], ⟨setL .leaf s42_4_l, Q 15055⟩⟩ (keys s42_5_l) = some (s42_5_fr, Q 18324, s42_5_l) := by kernel_rfl
theorem s42_5_fine : cutFine (keys m42.ks) (keys s42_5_l) s42_5_fr s42_5_l = true := by kernel_rfl
end Go.Ev
