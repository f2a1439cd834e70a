import Derived.Test.YtcgjkfpkbhhkfaaGreatDoorRows
import Derived.Test.YtcgjkfpkbhhkfaaGreatDoorIt
import Derived.Lay
import Derived.MakeChecks
import Derived.Lib.LaidTab
set_option linter.unusedVariables false
set_option linter.unusedSimpArgs false
set_option linter.unusedSectionVars false
set_option maxRecDepth 100000
namespace Go.Proofs.YtcgjkfpkbhhkfaaGreatDoor
open Go
noncomputable def spaceZ : List Int := (List.range 256).map fun c => if Lib.isSp (UInt8.ofNat c) then 1 else 0
theorem spaceZ_at (c : Nat) (h : c < 256) : spaceZ[c]? = some (if Lib.isSp (UInt8.ofNat c) then 1 else 0) := by
  unfold spaceZ
  rw [List.getElem?_map, List.getElem?_range h]; rfl
theorem space_data : (Rows.laid_strings_asciiSpace : DataW Unit) = Lib.tabData .u8 spaceZ := by kernel_rfl
theorem pow_data : (Rows.laid_internal_strconv_uint64pow10 : DataW Unit) = Lib.tabData .u64 Lib.pow10Tab := by kernel_rfl
theorem laid_plain : (Rows.genBoysRow.laid.all fun x => x.2.handleName?.isNone) = true := by kernel_rfl
theorem gSpace : Tryz.prog.globalNamed "strings.asciiSpace" = some 0 := by kernel_rfl
theorem tSpace : (Tryz.prog.globals[0]?).map (·.type) = some 578 := by kernel_rfl
theorem tPow : (Tryz.prog.globals[2]?).map (·.type) = some 614 := by kernel_rfl
theorem c578 : Tryz.prog.cellsOf 578 = 256 := by kernel_rfl
theorem c614 : Tryz.prog.cellsOf 614 = 20 := by kernel_rfl
theorem c5 : Tryz.prog.cellsOf 5 = 1 := by kernel_rfl
theorem u614 : ∃ e, Tryz.prog.underlying 614 = some (.array 20 e) ∧ Tryz.prog.underlying e = some (.int .u64) ∧ Tryz.prog.cellsOf e = 1 := ⟨_, Tryz.underlying614, Tryz.underlying360, by kernel_rfl⟩
theorem cell_some {w : World} {a : Addr} {v : Value} (h : w.cell? a = some v) : a.block < w.heap.size := by
  unfold World.cell? at h
  rcases Nat.lt_or_ge a.block w.heap.size with h1 | h1
  · exact h1
  · rw [Array.getElem?_eq_none h1] at h
    simp at h
/-- the tables, out of the row's condition -/
theorem tabs_of {W : World} (h : laidMetH Tryz.prog Rows.genBoysRow.laid W) : Ev.TabsW W := by
  rw [MakeChecks.laidMetH_plain _ _ _ laid_plain] at h
  obtain ⟨ps, ⟨g, t, cs, fuel, p, q, hg, ht, hv, hd, hr, _⟩, _, _⟩ := h
  obtain ⟨g1, t1, cs1, fuel1, p1, q1, _, _, _, _, hr1, _⟩ := hr
  obtain ⟨g2, t2, cs2, fuel2, p2, q2, hg2, ht2, hv2, hd2, _, _⟩ := hr1
  obtain rfl := Option.some.inj (gSpace.symm.trans hg)
  obtain rfl := Option.some.inj (tSpace.symm.trans ht)
  obtain rfl := Option.some.inj (Ev.gPow.symm.trans hg2)
  obtain rfl := Option.some.inj (tPow.symm.trans ht2)
  rw [space_data] at hd
  rw [pow_data] at hd2
  have hcs := Lib.cells_of_tab Tryz.underlying578 Tryz.underlying5 c5 c578 hd
  obtain ⟨e, u1, u2, u3⟩ := u614
  have hcs2 := Lib.cells_of_tab u1 u2 u3 c614 hd2
  have hcell : ∀ c : Nat, c < 256 → W.cell? ⟨0, c, none⟩ = some (.int .u8 (if Lib.isSp (UInt8.ofNat c) then 1 else 0)) := by
    intro c hc
    rw [World.var?_cell gSpace hv c, ← Array.getElem?_toList, hcs, List.getElem?_map, spaceZ_at c hc]; rfl
  have htab : Lib.TabIs Tryz.prog W "internal/strconv.uint64pow10" .u64 Lib.pow10Tab := by
    show W.var? Tryz.prog "internal/strconv.uint64pow10" = some (Lib.pow10Tab.map fun z => Value.int .u64 z).toArray
    rw [← hcs2]
    exact hv2
  have hpow : W.cell? ⟨2, 0, none⟩ = some (.int .u64 1) := by
    rw [World.var?_cell Ev.gPow hv2 0, ← Array.getElem?_toList, hcs2]; rfl
  exact ⟨⟨cell_some (hcell 0 (by decide)), hcell⟩, cell_some hpow, htab⟩
end Go.Proofs.YtcgjkfpkbhhkfaaGreatDoor
