import Derived.Test.YtcgjkfpkbhhkfaaGreatDoorRows
import Derived.Test.YtcgjkfpkbhhkfaaGreatDoorF1
import Derived.Lay
import Derived.MakeChecks
import Derived.KernelRfl
set_option linter.unusedVariables false
set_option linter.unusedSimpArgs false
set_option linter.unusedSectionVars false
set_option maxRecDepth 100000
namespace Go.Proofs.YtcgjkfpkbhhkfaaGreatDoor
open Go
theorem lay_fits (os : Os) : (World.holding Tryz.prog os ⟨#[], #[], []⟩).layFits Tryz.prog Rows.genBoysRow.laid [] = true := by kernel_rfl
theorem lay_ifaces (os : Os) : (World.holding Tryz.prog os ⟨#[], #[], []⟩).layIfaces Tryz.prog Rows.genBoysRow.laid (World.laidAll Tryz.prog os Rows.genBoysRow.laid) = true := by kernel_rfl
theorem wit_zip3 (os : Os) : ((World.laidAll Tryz.prog os Rows.genBoysRow.laid).forCall (fun _ _ => 0) ⟨#[], #[.int .u8 0], []⟩).variablesZipB Tryz.prog = true := by kernel_rfl
theorem wit_rest3 (os : Os) : (((World.laidAll Tryz.prog os Rows.genBoysRow.laid).forCall (fun _ _ => 0) ⟨#[], #[.int .u8 0], []⟩).heap.toList.drop Tryz.prog.globals.size).take ((begin Tryz.prog (fun _ _ => 0) default).world.heap.size - Tryz.prog.globals.size) = (begin Tryz.prog (fun _ _ => 0) default).world.heap.toList.drop Tryz.prog.globals.size := by kernel_rfl
theorem wit_ok3 (os : Os) : Input.okWideB Tryz.prog ((World.laidAll Tryz.prog os Rows.genBoysRow.laid).forCall (fun _ _ => 0) ⟨#[], #[.int .u8 0], []⟩) 3 ⟨#[], #[.int .u8 0], []⟩ = true := by kernel_rfl
theorem wit_pre3 {H : Type} (enc : TypeId × Value → H) (os : Os) : Rows.genBoysSpec.preB enc Tryz.prog Tryz.f3 [] false ((World.laidAll Tryz.prog os Rows.genBoysRow.laid).forCall (fun _ _ => 0) ⟨#[], #[.int .u8 0], []⟩).memory #[.int .u8 0] 8 = true := by kernel_rfl
theorem wit_sized3 {H : Type} (enc : TypeId × Value → H) (os : Os) : Rows.genBoysSpec.sizedB enc Tryz.prog Tryz.f3 false ((World.laidAll Tryz.prog os Rows.genBoysRow.laid).forCall (fun _ _ => 0) ⟨#[], #[.int .u8 0], []⟩).memory #[.int .u8 0] 8 = true := by kernel_rfl
theorem wit_laid3 (os : Os) : laidMetH Tryz.prog Rows.genBoysRow.laid ((World.laidAll Tryz.prog os Rows.genBoysRow.laid).forCall (fun _ _ => 0) ⟨#[], #[.int .u8 0], []⟩).memory := by
  rw [MakeChecks.laidMetH_plain _ _ _ (by kernel_rfl)]
  exact laidMet_laidAll _ (lay_fits os) (lay_ifaces os)
end Go.Proofs.YtcgjkfpkbhhkfaaGreatDoor
