import Derived.Test.YtogabhigkmggiaaGreatDoorF1
import Derived.Test.YtogabhigkmggiaaGreatDoorClo
set_option linter.unusedVariables false
set_option linter.unusedSimpArgs false
set_option linter.unusedSectionVars false
namespace Go.Proofs.YtogabhigkmggiaaGreatDoor
open Go Go.Clo
theorem reach3 : Tryz.prog.closure 3 = reach 3 := reach_eq (by kernel_rfl)
theorem reach4 : Tryz.prog.closure 4 = reach 4 := reach_eq (by kernel_rfl)
theorem reach5 : Tryz.prog.closure 5 = reach 5 := reach_eq (by kernel_rfl)
theorem known3 : known (reach 3) = true := by kernel_rfl
theorem known4 : known (reach 4) = true := by kernel_rfl
theorem known5 : known (reach 5) = true := by kernel_rfl
theorem inPlace3 : (Rows.debugMovesRow.inPlace == Tryz.prog.inPlace 3) = true := by rw [inPlace_of reach3 known3]; kernel_rfl
theorem inPlace4 : (Rows.debugBackRow.inPlace == Tryz.prog.inPlace 4) = true := by rw [inPlace_of reach4 known4]; kernel_rfl
theorem inPlace5 : (Rows.debugOutRow.inPlace == Tryz.prog.inPlace 5) = true := by rw [inPlace_of reach5 known5]; kernel_rfl
theorem unf3 : Tryz.prog.unfollowed 3 = true := by rw [unfollowed_of reach3 known3]; kernel_rfl
theorem unf4 : Tryz.prog.unfollowed 4 = true := by rw [unfollowed_of reach4 known4]; kernel_rfl
theorem unf5 : Tryz.prog.unfollowed 5 = true := by rw [unfollowed_of reach5 known5]; kernel_rfl
theorem rec_of {f : Nat} (h : Tryz.prog.unfollowed f = true) : (true == Tryz.prog.recurses f) = true := by unfold Program.recurses; rw [h]; rfl
theorem vars3 : (Rows.debugMovesRow.named == Tryz.prog.varsNamed 3) = true := by rw [varsNamed_of reach3 known3]; kernel_rfl
theorem vars4 : (Rows.debugBackRow.named == Tryz.prog.varsNamed 4) = true := by rw [varsNamed_of reach4 known4]; kernel_rfl
theorem vars5 : (Rows.debugOutRow.named == Tryz.prog.varsNamed 5) = true := by rw [varsNamed_of reach5 known5]; kernel_rfl
end Go.Proofs.YtogabhigkmggiaaGreatDoor
