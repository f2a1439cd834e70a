import Derived.Test.YtogabhigkmggiaaGreatDoorRows
import Derived.Test.YtogabhigkmggiaaGreatDoorF1
import Derived.Lay
import Derived.MakeChecks
import Derived.KernelRfl
set_option linter.unusedVariables false
set_option linter.unusedSimpArgs false
set_option linter.unusedSectionVars false
set_option maxRecDepth 100000
namespace Go.Proofs.YtogabhigkmggiaaGreatDoor
open Go
theorem lay_fits (os : Os) : (World.holding Tryz.prog os ⟨#[], #[], []⟩).layFits Tryz.prog Rows.debugMovesRow.laid [] = true := by kernel_rfl
theorem lay_ifaces (os : Os) : (World.holding Tryz.prog os ⟨#[], #[], []⟩).layIfaces Tryz.prog Rows.debugMovesRow.laid (World.laidAll Tryz.prog os Rows.debugMovesRow.laid) = true := by kernel_rfl
theorem wit_zip3 (os : Os) : ((World.laidAll Tryz.prog os Rows.debugMovesRow.laid).forCall (fun _ _ => 0) ⟨#[], #[.slice none 0 0, .int .i64 0, .int .i64 0], []⟩).variablesZipB Tryz.prog = true := by kernel_rfl
theorem wit_rest3 (os : Os) : (((World.laidAll Tryz.prog os Rows.debugMovesRow.laid).forCall (fun _ _ => 0) ⟨#[], #[.slice none 0 0, .int .i64 0, .int .i64 0], []⟩).heap.toList.drop Tryz.prog.globals.size).take ((begin Tryz.prog (fun _ _ => 0) default).world.heap.size - Tryz.prog.globals.size) = (begin Tryz.prog (fun _ _ => 0) default).world.heap.toList.drop Tryz.prog.globals.size := by kernel_rfl
theorem wit_ok3 (os : Os) : Input.okWideB Tryz.prog ((World.laidAll Tryz.prog os Rows.debugMovesRow.laid).forCall (fun _ _ => 0) ⟨#[], #[.slice none 0 0, .int .i64 0, .int .i64 0], []⟩) 3 ⟨#[], #[.slice none 0 0, .int .i64 0, .int .i64 0], []⟩ = true := by kernel_rfl
theorem wit_pre3 {H : Type} (enc : TypeId × Value → H) (os : Os) : Rows.debugMovesSpec.preB enc Tryz.prog Tryz.f3 [] false ((World.laidAll Tryz.prog os Rows.debugMovesRow.laid).forCall (fun _ _ => 0) ⟨#[], #[.slice none 0 0, .int .i64 0, .int .i64 0], []⟩).memory #[.slice none 0 0, .int .i64 0, .int .i64 0] 8 = true := by kernel_rfl
theorem wit_sized3 {H : Type} (enc : TypeId × Value → H) (os : Os) : Rows.debugMovesSpec.sizedB enc Tryz.prog Tryz.f3 false ((World.laidAll Tryz.prog os Rows.debugMovesRow.laid).forCall (fun _ _ => 0) ⟨#[], #[.slice none 0 0, .int .i64 0, .int .i64 0], []⟩).memory #[.slice none 0 0, .int .i64 0, .int .i64 0] 8 = true := by kernel_rfl
theorem wit_laid3 (os : Os) : laidMetH Tryz.prog Rows.debugMovesRow.laid ((World.laidAll Tryz.prog os Rows.debugMovesRow.laid).forCall (fun _ _ => 0) ⟨#[], #[.slice none 0 0, .int .i64 0, .int .i64 0], []⟩).memory := by
  rw [MakeChecks.laidMetH_plain _ _ _ (by kernel_rfl)]
  exact laidMet_laidAll _ (lay_fits os) (lay_ifaces os)
theorem wit_zip4 (os : Os) : ((World.laidAll Tryz.prog os Rows.debugMovesRow.laid).forCall (fun _ _ => 0) ⟨#[], #[.slice none 0 0, .int .i64 0, .int .i64 0], []⟩).variablesZipB Tryz.prog = true := by kernel_rfl
theorem wit_rest4 (os : Os) : (((World.laidAll Tryz.prog os Rows.debugMovesRow.laid).forCall (fun _ _ => 0) ⟨#[], #[.slice none 0 0, .int .i64 0, .int .i64 0], []⟩).heap.toList.drop Tryz.prog.globals.size).take ((begin Tryz.prog (fun _ _ => 0) default).world.heap.size - Tryz.prog.globals.size) = (begin Tryz.prog (fun _ _ => 0) default).world.heap.toList.drop Tryz.prog.globals.size := by kernel_rfl
theorem wit_ok4 (os : Os) : Input.okWideB Tryz.prog ((World.laidAll Tryz.prog os Rows.debugMovesRow.laid).forCall (fun _ _ => 0) ⟨#[], #[.slice none 0 0, .int .i64 0, .int .i64 0], []⟩) 4 ⟨#[], #[.slice none 0 0, .int .i64 0, .int .i64 0], []⟩ = true := by kernel_rfl
theorem wit_pre4 {H : Type} (enc : TypeId × Value → H) (os : Os) : Rows.debugBackSpec.preB enc Tryz.prog Tryz.f4 [] false ((World.laidAll Tryz.prog os Rows.debugMovesRow.laid).forCall (fun _ _ => 0) ⟨#[], #[.slice none 0 0, .int .i64 0, .int .i64 0], []⟩).memory #[.slice none 0 0, .int .i64 0, .int .i64 0] 8 = true := by kernel_rfl
theorem wit_sized4 {H : Type} (enc : TypeId × Value → H) (os : Os) : Rows.debugBackSpec.sizedB enc Tryz.prog Tryz.f4 false ((World.laidAll Tryz.prog os Rows.debugMovesRow.laid).forCall (fun _ _ => 0) ⟨#[], #[.slice none 0 0, .int .i64 0, .int .i64 0], []⟩).memory #[.slice none 0 0, .int .i64 0, .int .i64 0] 8 = true := by kernel_rfl
theorem wit_laid4 (os : Os) : laidMetH Tryz.prog Rows.debugMovesRow.laid ((World.laidAll Tryz.prog os Rows.debugMovesRow.laid).forCall (fun _ _ => 0) ⟨#[], #[.slice none 0 0, .int .i64 0, .int .i64 0], []⟩).memory := by
  rw [MakeChecks.laidMetH_plain _ _ _ (by kernel_rfl)]
  exact laidMet_laidAll _ (lay_fits os) (lay_ifaces os)
theorem wit_zip5 (os : Os) : ((World.laidAll Tryz.prog os Rows.debugMovesRow.laid).forCall (fun _ _ => 0) ⟨#[], #[.slice none 0 0, .int .i64 0], []⟩).variablesZipB Tryz.prog = true := by kernel_rfl
theorem wit_rest5 (os : Os) : (((World.laidAll Tryz.prog os Rows.debugMovesRow.laid).forCall (fun _ _ => 0) ⟨#[], #[.slice none 0 0, .int .i64 0], []⟩).heap.toList.drop Tryz.prog.globals.size).take ((begin Tryz.prog (fun _ _ => 0) default).world.heap.size - Tryz.prog.globals.size) = (begin Tryz.prog (fun _ _ => 0) default).world.heap.toList.drop Tryz.prog.globals.size := by kernel_rfl
theorem wit_ok5 (os : Os) : Input.okWideB Tryz.prog ((World.laidAll Tryz.prog os Rows.debugMovesRow.laid).forCall (fun _ _ => 0) ⟨#[], #[.slice none 0 0, .int .i64 0], []⟩) 5 ⟨#[], #[.slice none 0 0, .int .i64 0], []⟩ = true := by kernel_rfl
theorem wit_pre5 {H : Type} (enc : TypeId × Value → H) (os : Os) : Rows.debugOutSpec.preB enc Tryz.prog Tryz.f5 [] false ((World.laidAll Tryz.prog os Rows.debugMovesRow.laid).forCall (fun _ _ => 0) ⟨#[], #[.slice none 0 0, .int .i64 0], []⟩).memory #[.slice none 0 0, .int .i64 0] 8 = true := by kernel_rfl
theorem wit_sized5 {H : Type} (enc : TypeId × Value → H) (os : Os) : Rows.debugOutSpec.sizedB enc Tryz.prog Tryz.f5 false ((World.laidAll Tryz.prog os Rows.debugMovesRow.laid).forCall (fun _ _ => 0) ⟨#[], #[.slice none 0 0, .int .i64 0], []⟩).memory #[.slice none 0 0, .int .i64 0] 8 = true := by kernel_rfl
theorem wit_laid5 (os : Os) : laidMetH Tryz.prog Rows.debugMovesRow.laid ((World.laidAll Tryz.prog os Rows.debugMovesRow.laid).forCall (fun _ _ => 0) ⟨#[], #[.slice none 0 0, .int .i64 0], []⟩).memory := by
  rw [MakeChecks.laidMetH_plain _ _ _ (by kernel_rfl)]
  exact laidMet_laidAll _ (lay_fits os) (lay_ifaces os)
end Go.Proofs.YtogabhigkmggiaaGreatDoor
