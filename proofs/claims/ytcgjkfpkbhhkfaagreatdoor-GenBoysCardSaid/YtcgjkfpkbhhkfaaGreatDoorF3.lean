import Derived.Test.YtcgjkfpkbhhkfaaGreatDoorF1
import Derived.Test.YtcgjkfpkbhhkfaaGreatDoorClo
set_option linter.unusedVariables false
set_option linter.unusedSimpArgs false
set_option linter.unusedSectionVars false
namespace Go.Proofs.YtcgjkfpkbhhkfaaGreatDoor
open Go Go.Clo
theorem reach3 : Tryz.prog.closure 3 = reach 3 := reach_eq (by kernel_rfl)
theorem known3 : known (reach 3) = true := by kernel_rfl
theorem inPlace3 : (Rows.genBoysRow.inPlace == Tryz.prog.inPlace 3) = true := by rw [inPlace_of reach3 known3]; kernel_rfl
theorem unf3 : Tryz.prog.unfollowed 3 = true := by rw [unfollowed_of reach3 known3]; kernel_rfl
theorem rec_of {f : Nat} (h : Tryz.prog.unfollowed f = true) : (true == Tryz.prog.recurses f) = true := by unfold Program.recurses; rw [h]; rfl
theorem vars3 : (Rows.genBoysRow.named == Tryz.prog.varsNamed 3) = true := by rw [varsNamed_of reach3 known3]; kernel_rfl
end Go.Proofs.YtcgjkfpkbhhkfaaGreatDoor
