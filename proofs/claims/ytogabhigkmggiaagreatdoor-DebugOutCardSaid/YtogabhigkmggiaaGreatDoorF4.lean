import Derived.Test.YtogabhigkmggiaaGreatDoorF2
import Derived.Test.YtogabhigkmggiaaGreatDoorF3
set_option linter.unusedVariables false
set_option linter.unusedSimpArgs false
set_option linter.unusedSectionVars false
set_option maxRecDepth 100000
namespace Go.Proofs.YtogabhigkmggiaaGreatDoor
open Go Go.Clo
theorem fact_named (c : OpenClaim) (h : c.named = Rows.debugMovesRow.named) : namedTie Tryz.prog c.named [] = true := by
  rw [h]; kernel_rfl
theorem size_of4 : decide (4 < Tryz.prog.types.size) = true := by kernel_rfl
theorem fact_out : Tryz.prog.mapsAmong [4] = false := by kernel_rfl
theorem laid_types : (Rows.debugMovesRow.laid.filterMap fun x => (Tryz.prog.globalNamed x.1).bind fun g => (Tryz.prog.globals[g]?).map (·.type)) = [780, 819, 784, 865, 866, 780, 869, 322, 418] := by kernel_rfl
theorem vt3 : Rows.debugMovesSpec.plain.varTypes Tryz.prog = [] := rfl
theorem pl3 : Tryz.f3.params.toList = [22, 3, 3] := by rw [Tryz.params3]
theorem rt3 : Tryz.f3.resultTypes.toList = [4] := by kernel_rfl
theorem ra3 : Tryz.f3.resultTypes = #[4] := by kernel_rfl
theorem wf3 : Rows.debugMovesRow.wf (OpenSpec.ofChange Rows.debugMovesSpec) = true := by kernel_rfl
theorem veils3 : Rows.debugMovesRow.veiledFits Tryz.prog [22, 3, 3] ([22, 3, 3] ++ [] ++ [4]) = true := by
  have h : (Rows.debugMovesRow.laid.filterMap fun x => (Tryz.prog.globalNamed x.1).bind fun g => (Tryz.prog.globals[g]?).map (·.type)) = [780, 819, 784, 865, 866, 780, 869, 322, 418] := laid_types
  unfold OpenClaim.veiledFits
  rw [h]
  show (true && (([22, 3, 3, 4, 780, 819, 784, 865, 866, 780, 869, 322, 418] : List TypeId).all (Tryz.prog.veiledOwn ·) || _)) = true
  simp only [List.all_cons, List.all_nil, own_of veil22, own_of veil3, own_of veil4, own_of veil780, own_of veil819, own_of veil784, own_of veil865, own_of veil866, own_of veil869, own_of veil322, own_of veil418, Bool.and_self, Bool.true_or]
theorem joined3 (h1 : laidOutB Tryz.prog = true) (h2 : mapsRowed Tryz.prog = true) : joinedFacts Tryz.prog 3 Tryz.f3 Rows.debugMovesSpec Rows.debugMovesRow = true := by
  simp only [joinedFacts, Bool.and_eq_true]
  rw [vt3, pl3, rt3, ra3, Tryz.params3]
  refine ⟨⟨⟨⟨⟨⟨⟨⟨⟨⟨⟨⟨⟨⟨⟨⟨⟨⟨⟨⟨⟨⟨⟨⟨⟨⟨⟨⟨⟨⟨⟨wf3, h1⟩, h2⟩, ?_⟩, fact_named Rows.debugMovesRow rfl⟩, rfl⟩, fact_stops⟩, rfl⟩, fact_stopKnobs⟩, inPlace3⟩, ?_⟩, rec_of unf3⟩, vars3⟩, ?_⟩, ?_⟩, ?_⟩, ?_⟩, ?_⟩, rfl⟩, ?_⟩, ?_⟩, ?_⟩, fact_plainKeys⟩, rfl⟩, fact_stopsHeard⟩, fact_mayEnter⟩, fact_lifted⟩, fact_make⟩, rfl⟩, rfl⟩, ?_⟩, veils3⟩
  · simp [read22, read3]
  · rw [unf3]; rfl
  · simp only [List.append_nil, List.any_cons, List.any_nil, maps22, maps3, Bool.or_self]; rfl
  · simp only [List.append_nil, List.any_cons, List.any_nil, ifs22, ifs3, Bool.or_self]; rfl
  · rw [fact_out]; rfl
  · simp only [List.append_nil, List.any_cons, List.any_nil, loops22, loops3, Bool.or_self]; rfl
  · simp only [List.append_nil, List.cons_append, List.nil_append, List.any_cons, List.any_nil, wide22, wide3, wide4, Bool.or_self]; rfl
  · simp [read4, size_of4]
  · simp only [List.any_cons, List.any_nil, ifs4, Bool.or_self]; rfl
  · simp only [List.any_cons, List.any_nil, loops4, Bool.or_self]; rfl
  · simp only [List.append_nil, List.cons_append, List.nil_append, List.any_cons, List.any_nil, veil22, veil3, veil4, Bool.or_self]; rfl
theorem vt4 : Rows.debugBackSpec.plain.varTypes Tryz.prog = [] := rfl
theorem pl4 : Tryz.f4.params.toList = [22, 3, 3] := by rw [Tryz.params4]
theorem rt4 : Tryz.f4.resultTypes.toList = [4] := by kernel_rfl
theorem ra4 : Tryz.f4.resultTypes = #[4] := by kernel_rfl
theorem wf4 : Rows.debugBackRow.wf (OpenSpec.ofChange Rows.debugBackSpec) = true := by kernel_rfl
theorem veils4 : Rows.debugBackRow.veiledFits Tryz.prog [22, 3, 3] ([22, 3, 3] ++ [] ++ [4]) = true := by
  have h : (Rows.debugBackRow.laid.filterMap fun x => (Tryz.prog.globalNamed x.1).bind fun g => (Tryz.prog.globals[g]?).map (·.type)) = [780, 819, 784, 865, 866, 780, 869, 322, 418] := laid_types
  unfold OpenClaim.veiledFits
  rw [h]
  show (true && (([22, 3, 3, 4, 780, 819, 784, 865, 866, 780, 869, 322, 418] : List TypeId).all (Tryz.prog.veiledOwn ·) || _)) = true
  simp only [List.all_cons, List.all_nil, own_of veil22, own_of veil3, own_of veil4, own_of veil780, own_of veil819, own_of veil784, own_of veil865, own_of veil866, own_of veil869, own_of veil322, own_of veil418, Bool.and_self, Bool.true_or]
theorem joined4 (h1 : laidOutB Tryz.prog = true) (h2 : mapsRowed Tryz.prog = true) : joinedFacts Tryz.prog 4 Tryz.f4 Rows.debugBackSpec Rows.debugBackRow = true := by
  simp only [joinedFacts, Bool.and_eq_true]
  rw [vt4, pl4, rt4, ra4, Tryz.params4]
  refine ⟨⟨⟨⟨⟨⟨⟨⟨⟨⟨⟨⟨⟨⟨⟨⟨⟨⟨⟨⟨⟨⟨⟨⟨⟨⟨⟨⟨⟨⟨⟨wf4, h1⟩, h2⟩, ?_⟩, fact_named Rows.debugBackRow rfl⟩, rfl⟩, fact_stops⟩, rfl⟩, fact_stopKnobs⟩, inPlace4⟩, ?_⟩, rec_of unf4⟩, vars4⟩, ?_⟩, ?_⟩, ?_⟩, ?_⟩, ?_⟩, rfl⟩, ?_⟩, ?_⟩, ?_⟩, fact_plainKeys⟩, rfl⟩, fact_stopsHeard⟩, fact_mayEnter⟩, fact_lifted⟩, fact_make⟩, rfl⟩, rfl⟩, ?_⟩, veils4⟩
  · simp [read22, read3]
  · rw [unf4]; rfl
  · simp only [List.append_nil, List.any_cons, List.any_nil, maps22, maps3, Bool.or_self]; rfl
  · simp only [List.append_nil, List.any_cons, List.any_nil, ifs22, ifs3, Bool.or_self]; rfl
  · rw [fact_out]; rfl
  · simp only [List.append_nil, List.any_cons, List.any_nil, loops22, loops3, Bool.or_self]; rfl
  · simp only [List.append_nil, List.cons_append, List.nil_append, List.any_cons, List.any_nil, wide22, wide3, wide4, Bool.or_self]; rfl
  · simp [read4, size_of4]
  · simp only [List.any_cons, List.any_nil, ifs4, Bool.or_self]; rfl
  · simp only [List.any_cons, List.any_nil, loops4, Bool.or_self]; rfl
  · simp only [List.append_nil, List.cons_append, List.nil_append, List.any_cons, List.any_nil, veil22, veil3, veil4, Bool.or_self]; rfl
theorem vt5 : Rows.debugOutSpec.plain.varTypes Tryz.prog = [] := rfl
theorem pl5 : Tryz.f5.params.toList = [22, 3] := by rw [Tryz.params5]
theorem rt5 : Tryz.f5.resultTypes.toList = [4] := by kernel_rfl
theorem ra5 : Tryz.f5.resultTypes = #[4] := by kernel_rfl
theorem wf5 : Rows.debugOutRow.wf (OpenSpec.ofChange Rows.debugOutSpec) = true := by kernel_rfl
theorem veils5 : Rows.debugOutRow.veiledFits Tryz.prog [22, 3] ([22, 3] ++ [] ++ [4]) = true := by
  have h : (Rows.debugOutRow.laid.filterMap fun x => (Tryz.prog.globalNamed x.1).bind fun g => (Tryz.prog.globals[g]?).map (·.type)) = [780, 819, 784, 865, 866, 780, 869, 322, 418] := laid_types
  unfold OpenClaim.veiledFits
  rw [h]
  show (true && (([22, 3, 4, 780, 819, 784, 865, 866, 780, 869, 322, 418] : List TypeId).all (Tryz.prog.veiledOwn ·) || _)) = true
  simp only [List.all_cons, List.all_nil, own_of veil22, own_of veil3, own_of veil4, own_of veil780, own_of veil819, own_of veil784, own_of veil865, own_of veil866, own_of veil869, own_of veil322, own_of veil418, Bool.and_self, Bool.true_or]
theorem joined5 (h1 : laidOutB Tryz.prog = true) (h2 : mapsRowed Tryz.prog = true) : joinedFacts Tryz.prog 5 Tryz.f5 Rows.debugOutSpec Rows.debugOutRow = true := by
  simp only [joinedFacts, Bool.and_eq_true]
  rw [vt5, pl5, rt5, ra5, Tryz.params5]
  refine ⟨⟨⟨⟨⟨⟨⟨⟨⟨⟨⟨⟨⟨⟨⟨⟨⟨⟨⟨⟨⟨⟨⟨⟨⟨⟨⟨⟨⟨⟨⟨wf5, h1⟩, h2⟩, ?_⟩, fact_named Rows.debugOutRow rfl⟩, rfl⟩, fact_stops⟩, rfl⟩, fact_stopKnobs⟩, inPlace5⟩, ?_⟩, rec_of unf5⟩, vars5⟩, ?_⟩, ?_⟩, ?_⟩, ?_⟩, ?_⟩, rfl⟩, ?_⟩, ?_⟩, ?_⟩, fact_plainKeys⟩, rfl⟩, fact_stopsHeard⟩, fact_mayEnter⟩, fact_lifted⟩, fact_make⟩, rfl⟩, rfl⟩, ?_⟩, veils5⟩
  · simp [read22, read3]
  · rw [unf5]; rfl
  · simp only [List.append_nil, List.any_cons, List.any_nil, maps22, maps3, Bool.or_self]; rfl
  · simp only [List.append_nil, List.any_cons, List.any_nil, ifs22, ifs3, Bool.or_self]; rfl
  · rw [fact_out]; rfl
  · simp only [List.append_nil, List.any_cons, List.any_nil, loops22, loops3, Bool.or_self]; rfl
  · simp only [List.append_nil, List.cons_append, List.nil_append, List.any_cons, List.any_nil, wide22, wide3, wide4, Bool.or_self]; rfl
  · simp [read4, size_of4]
  · simp only [List.any_cons, List.any_nil, ifs4, Bool.or_self]; rfl
  · simp only [List.any_cons, List.any_nil, loops4, Bool.or_self]; rfl
  · simp only [List.append_nil, List.cons_append, List.nil_append, List.any_cons, List.any_nil, veil22, veil3, veil4, Bool.or_self]; rfl
end Go.Proofs.YtogabhigkmggiaaGreatDoor
