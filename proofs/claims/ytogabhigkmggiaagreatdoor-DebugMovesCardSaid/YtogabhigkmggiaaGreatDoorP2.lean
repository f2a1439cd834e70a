import Derived.Test.YtogabhigkmggiaaGreatDoorRows
import Derived.Test.YtogabhigkmggiaaGreatDoorFl
import Derived.Test.YtogabhigkmggiaaGreatDoorW1
import Derived.Lay
import Derived.MakeChecks
import Derived.Lib.LaidTab
set_option linter.unusedVariables false
set_option linter.unusedSimpArgs false
set_option linter.unusedSectionVars false
set_option maxRecDepth 100000
namespace Go.Proofs.YtogabhigkmggiaaGreatDoor
open Go
noncomputable def spaceZ : List Int := (List.range 256).map fun c => if Lib.isSp (UInt8.ofNat c) then 1 else 0
theorem spaceZ_at (c : Nat) (h : c < 256) : spaceZ[c]? = some (if Lib.isSp (UInt8.ofNat c) then 1 else 0) := by
  unfold spaceZ
  rw [List.getElem?_map, List.getElem?_range h]; rfl
theorem space_data : (Rows.laid_strings_asciiSpace : DataW Unit) = Lib.tabData .u8 spaceZ := by kernel_rfl
theorem laid_plain : (Rows.debugMovesRow.laid.all fun x => x.2.handleName?.isNone) = true := by kernel_rfl
theorem gSpace : Tryz.prog.globalNamed "strings.asciiSpace" = some 2 := by kernel_rfl
theorem tSpace : (Tryz.prog.globals[2]?).map (·.type) = some 780 := by kernel_rfl
theorem c780 : Tryz.prog.cellsOf 780 = 256 := by kernel_rfl
theorem c5 : Tryz.prog.cellsOf 5 = 1 := by kernel_rfl
/-- the table of blanks, out of the row's condition -/
theorem tabW_of {W : World} (h : laidMetH Tryz.prog Rows.debugMovesRow.laid W) : Ev.TabW W := by
  rw [MakeChecks.laidMetH_plain _ _ _ laid_plain] at h
  obtain ⟨ps, ⟨g, t, cs, fuel, p, q, hg, ht, hv, hd, _, _⟩, _, _⟩ := h
  obtain rfl := Option.some.inj (gSpace.symm.trans hg)
  obtain rfl := Option.some.inj (tSpace.symm.trans ht)
  rw [space_data] at hd
  have hcs := Lib.cells_of_tab Tryz.underlying780 Tryz.underlying5 c5 c780 hd
  have hcell : ∀ c : Nat, c < 256 → W.cell? ⟨2, c, none⟩ = some (.int .u8 (if Lib.isSp (UInt8.ofNat c) then 1 else 0)) := by
    intro c hc
    rw [World.var?_cell gSpace hv c, ← Array.getElem?_toList, hcs, List.getElem?_map, spaceZ_at c hc]; rfl
  exact ⟨cell_lt (hcell 0 (by decide)), hcell⟩
end Go.Proofs.YtogabhigkmggiaaGreatDoor
