import Derived.Test.YtcgjkfpkbhhkfaaGreatDoorF2
import Derived.Test.YtcgjkfpkbhhkfaaGreatDoorF3
set_option linter.unusedVariables false
set_option linter.unusedSimpArgs false
set_option linter.unusedSectionVars false
set_option maxRecDepth 100000
namespace Go.Proofs.YtcgjkfpkbhhkfaaGreatDoor
open Go Go.Clo
theorem fact_named : namedTie Tryz.prog Rows.genBoysRow.named [] = true := by kernel_rfl
theorem size_of4 : decide (4 < Tryz.prog.types.size) = true := by kernel_rfl
theorem fact_out : Tryz.prog.mapsAmong [4] = false := by kernel_rfl
theorem laid_types : (Rows.genBoysRow.laid.filterMap fun x => (Tryz.prog.globalNamed x.1).bind fun g => (Tryz.prog.globals[g]?).map (·.type)) = [578, 605, 614, 646, 647, 578, 650] := by kernel_rfl
theorem vt3 : Rows.genBoysSpec.plain.varTypes Tryz.prog = [] := rfl
theorem pl3 : Tryz.f3.params.toList = [5] := by rw [Tryz.params3]
theorem rt3 : Tryz.f3.resultTypes.toList = [4] := by kernel_rfl
theorem ra3 : Tryz.f3.resultTypes = #[4] := by kernel_rfl
theorem wf3 : Rows.genBoysRow.wf (OpenSpec.ofChange Rows.genBoysSpec) = true := by kernel_rfl
theorem veils3 : Rows.genBoysRow.veiledFits Tryz.prog [5] ([5] ++ [] ++ [4]) = true := by
  unfold OpenClaim.veiledFits
  rw [laid_types]
  show (true && (([5, 4, 578, 605, 614, 646, 647, 578, 650] : List TypeId).all (Tryz.prog.veiledOwn ·) || _)) = true
  simp only [List.all_cons, List.all_nil, own_of veil5, own_of veil4, own_of veil578, own_of veil605, own_of veil614, own_of veil646, own_of veil647, own_of veil650, Bool.and_self, Bool.true_or]
theorem joined3 (h1 : laidOutB Tryz.prog = true) (h2 : mapsRowed Tryz.prog = true) : joinedFacts Tryz.prog 3 Tryz.f3 Rows.genBoysSpec Rows.genBoysRow = true := by
  simp only [joinedFacts, Bool.and_eq_true]
  rw [vt3, pl3, rt3, ra3, Tryz.params3]
  refine ⟨⟨⟨⟨⟨⟨⟨⟨⟨⟨⟨⟨⟨⟨⟨⟨⟨⟨⟨⟨⟨⟨⟨⟨⟨⟨⟨⟨⟨⟨⟨wf3, h1⟩, h2⟩, ?_⟩, fact_named⟩, rfl⟩, fact_stops⟩, rfl⟩, fact_stopKnobs⟩, inPlace3⟩, ?_⟩, rec_of unf3⟩, vars3⟩, ?_⟩, ?_⟩, ?_⟩, ?_⟩, ?_⟩, rfl⟩, ?_⟩, ?_⟩, ?_⟩, fact_plainKeys⟩, rfl⟩, fact_stopsHeard⟩, fact_mayEnter⟩, fact_lifted⟩, fact_make⟩, rfl⟩, rfl⟩, ?_⟩, veils3⟩
  · simp [read5]
  · rw [unf3]; rfl
  · simp only [List.append_nil, List.any_cons, List.any_nil, maps5, Bool.or_self]; rfl
  · simp only [List.append_nil, List.any_cons, List.any_nil, ifs5, Bool.or_self]; rfl
  · rw [fact_out]; rfl
  · simp only [List.append_nil, List.any_cons, List.any_nil, loops5, Bool.or_self]; rfl
  · simp only [List.append_nil, List.cons_append, List.nil_append, List.any_cons, List.any_nil, wide5, wide4, Bool.or_self]; rfl
  · simp [read4, size_of4]
  · simp only [List.any_cons, List.any_nil, ifs4, Bool.or_self]; rfl
  · simp only [List.any_cons, List.any_nil, loops4, Bool.or_self]; rfl
  · simp only [List.append_nil, List.cons_append, List.nil_append, List.any_cons, List.any_nil, veil5, veil4, Bool.or_self]; rfl
end Go.Proofs.YtcgjkfpkbhhkfaaGreatDoor
