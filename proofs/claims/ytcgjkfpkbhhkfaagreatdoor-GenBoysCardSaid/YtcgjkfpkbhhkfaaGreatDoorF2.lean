import Derived.Test.YtcgjkfpkbhhkfaaGreatDoorF1
set_option linter.unusedVariables false
set_option linter.unusedSimpArgs false
set_option linter.unusedSectionVars false
namespace Go.Proofs.YtcgjkfpkbhhkfaaGreatDoor
open Go
theorem fact_stops : (Tryz.prog.stops == []) = true := by kernel_rfl
theorem fact_stopKnobs : (Tryz.prog.stopKnobs == []) = true := by kernel_rfl
theorem fact_plainKeys : (false == Tryz.prog.plainKeys) = true := by kernel_rfl
theorem fact_stopsHeard : Tryz.prog.stopsHeard = true := by kernel_rfl
theorem fact_mayEnter : Tryz.prog.mayEnter = true := by kernel_rfl
theorem fact_lifted : (Rows.genBoysRow.lifted == Tryz.prog.liftsFinal) = true := by kernel_rfl
theorem fact_make : (Tryz.prog.make == some Rows.genBoysRow.make) = true := by kernel_rfl
end Go.Proofs.YtcgjkfpkbhhkfaaGreatDoor
