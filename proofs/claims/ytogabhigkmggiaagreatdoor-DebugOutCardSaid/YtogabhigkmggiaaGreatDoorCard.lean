/-
  Proved: for every list of moments and all numbers, the three laws DebugMoves, DebugBack and DebugOut of layer 27 return true, and the arguments read behind the call as they read before (the tied cards of the three rows).
  Conditions: none beside those of the given rows (the listed library tables hold what the program's text lays, which the tie proves).
  The closed self-test that each law calls is run by a small machine over closed data, which is proved to do what the model does (texts E1 to E4), and whose run the kernel checks (texts Mm, Mk0 to Mk12, San); the loops over moments are walked (texts W1 to W4).
-/
import Derived.Test.YtogabhigkmggiaaGreatDoorTa
import Derived.Test.YtogabhigkmggiaaGreatDoorTb
import Derived.Test.YtogabhigkmggiaaGreatDoorTc
import Derived.Test.YtogabhigkmggiaaGreatDoorTd
import Derived.Test.YtogabhigkmggiaaGreatDoorTe
import Derived.Test.YtogabhigkmggiaaGreatDoorTf
import Derived.Test.YtogabhigkmggiaaGreatDoorTv
import Derived.Test.YtogabhigkmggiaaGreatDoorP4
import Derived.Test.YtogabhigkmggiaaGreatDoorCards
import Derived.SevenTiedAt
set_option linter.unusedVariables false
set_option linter.unusedSimpArgs false
set_option linter.unusedSectionVars false
namespace Go.Proofs.YtogabhigkmggiaaGreatDoor
open Go
theorem tie_plain : (tieList.all fun x => x.2.handleName?.isNone) = true := by kernel_rfl
theorem own_tie : Tryz.prog.laidByTextLater tieList [.data, .listed, .data, .data, .data, .data, .data, .data] true :=
  Program.laidByTextLater_by_run 400 8 tieA1 tieA2 tieA3 tieB1 tieB2 (by rw [vid]; exact tieC) (fun os tape => by rw [vid]; exact tieD os tape)
    (fun os tape => by rw [vid]; exact tieE os tape) (fun os tape => by rw [vid]; exact tieF os tape) tie_plain
theorem no_own : Tryz.pinned.checked.prog.headLifts.contains "ownunsafe" = false := by kernel_rfl
theorem own_fits : Tryz.pinned.checked.prog.listedFits Rows.debugMovesRow.laid = true := by
  unfold Program.listedFits
  rw [no_own]
  kernel_rfl
theorem own_pins : ∀ y ∈ Rows.debugMovesRow.laid.zip tieKinds, y.2 = .pinned → Tryz.pinned.checked.prog.pinnedFits y.1.1 = true ∧ Pinned.datum y.1.1 = some y.1.2 := fun y hy e => by
  simp only [Rows.debugMovesRow, tieKinds, List.zip_cons_cons, List.zip_nil_right, List.mem_cons, List.mem_nil_iff, or_false] at hy
  rcases hy with rfl | rfl | rfl | rfl | rfl | rfl | rfl | rfl | rfl
  · cases e
  · cases e
  · cases e
  · cases e
  · cases e
  · exact ⟨by kernel_rfl, by kernel_rfl⟩
  · cases e
  · cases e
  · cases e
theorem tieMoves : Rows.debugMovesRow.laidByTextAt .later Tryz.pinned [.data, .listed, .data, .data, .data, .pinned, .data, .data, .data] true :=
  OpenClaim.laidByTextAt_pinned rfl rfl own_tie rfl rfl rfl rfl own_pins own_fits
theorem tieBack : Rows.debugBackRow.laidByTextAt .later Tryz.pinned [.data, .listed, .data, .data, .data, .pinned, .data, .data, .data] true :=
  OpenClaim.laidByTextAt_pinned rfl rfl own_tie rfl rfl rfl rfl own_pins own_fits
theorem tieOut : Rows.debugOutRow.laidByTextAt .later Tryz.pinned [.data, .listed, .data, .data, .data, .pinned, .data, .data, .data] true :=
  OpenClaim.laidByTextAt_pinned rfl rfl own_tie rfl rfl rfl rfl own_pins own_fits
end Go.Proofs.YtogabhigkmggiaaGreatDoor
set_option maxRecDepth 100000
namespace Go.Proofs.YtogabhigkmggiaaGreatDoor
open Go
theorem main_is : Tryz.prog.mainIs = some (true, "255c0ceabbdad6f3da2bcbafd265d9a90b468db278582605c1c6715c5bc2a286".toList) := by kernel_rfl
theorem has_looks : true = Tryz.prog.looks [] := by kernel_rfl
theorem stand22 : Tryz.prog.wantsStandIn 22 = false := by kernel_rfl
theorem stand3 : Tryz.prog.wantsStandIn 3 = false := by kernel_rfl
theorem named3 : Tryz.prog.funcNamed Rows.debugMovesRow.func = some 3 := by kernel_rfl
theorem text3 : Rows.debugMovesRow.wfByText (OpenSpec.ofChange Rows.debugMovesSpec) = true := by kernel_rfl
theorem goes3 : false = Rows.debugMovesRow.goesBy Tryz.prog := by
  show false = ((Tryz.prog.funcNamed Rows.debugMovesRow.func).any Tryz.prog.goes || false)
  rw [named3, Option.any_some, Clo.goes_of 3]; rfl
set_option maxHeartbeats 1000000 in
theorem plain3 (f : FuncId) (fn : Func) (hf : Tryz.prog.funcNamed Rows.debugMovesRow.func = some f) (hfn : Tryz.prog.funcs[f]? = some fn) : true = Tryz.prog.looks [] ∧ ∀ (j : Nat) t, fn.params[j]? = some t → Tryz.prog.wantsStandIn t = false := by
  have e1 : f = 3 := (Option.some.inj (named3.symm.trans hf)).symm
  rw [e1] at hfn
  have e2 : fn = Tryz.f3 := (Option.some.inj (Tryz.func3.symm.trans hfn)).symm
  rw [e2]
  refine ⟨has_looks, fun j t ht => ?_⟩
  rw [Tryz.params3] at ht
  have hm : t ∈ [22, 3, 3] := by simpa using Array.mem_of_getElem? ht
  simp only [List.mem_cons, List.not_mem_nil, or_false] at hm
  rcases hm with rfl | rfl | rfl
  · exact stand22
  · exact stand3
  · exact stand3
theorem debugMoves_card : Rows.DebugMovesCardSaid :=
  Claim7.holds_tied_plain_at .later [] [.data, .listed, .data, .data, .data, .pinned, .data, .data, .data] true (true, "255c0ceabbdad6f3da2bcbafd265d9a90b468db278582605c1c6715c5bc2a286") true
    debugMoves_holds (fun _ h => by cases h) text3 (fun _ h => by cases h) tieMoves rfl ⟨rfl, rfl⟩ main_is rfl plain3 goes3
#print axioms debugMoves_card
theorem named4 : Tryz.prog.funcNamed Rows.debugBackRow.func = some 4 := by kernel_rfl
theorem text4 : Rows.debugBackRow.wfByText (OpenSpec.ofChange Rows.debugBackSpec) = true := by kernel_rfl
theorem goes4 : false = Rows.debugBackRow.goesBy Tryz.prog := by
  show false = ((Tryz.prog.funcNamed Rows.debugBackRow.func).any Tryz.prog.goes || false)
  rw [named4, Option.any_some, Clo.goes_of 4]; rfl
set_option maxHeartbeats 1000000 in
theorem plain4 (f : FuncId) (fn : Func) (hf : Tryz.prog.funcNamed Rows.debugBackRow.func = some f) (hfn : Tryz.prog.funcs[f]? = some fn) : true = Tryz.prog.looks [] ∧ ∀ (j : Nat) t, fn.params[j]? = some t → Tryz.prog.wantsStandIn t = false := by
  have e1 : f = 4 := (Option.some.inj (named4.symm.trans hf)).symm
  rw [e1] at hfn
  have e2 : fn = Tryz.f4 := (Option.some.inj (Tryz.func4.symm.trans hfn)).symm
  rw [e2]
  refine ⟨has_looks, fun j t ht => ?_⟩
  rw [Tryz.params4] at ht
  have hm : t ∈ [22, 3, 3] := by simpa using Array.mem_of_getElem? ht
  simp only [List.mem_cons, List.not_mem_nil, or_false] at hm
  rcases hm with rfl | rfl | rfl
  · exact stand22
  · exact stand3
  · exact stand3
theorem debugBack_card : Rows.DebugBackCardSaid :=
  Claim7.holds_tied_plain_at .later [] [.data, .listed, .data, .data, .data, .pinned, .data, .data, .data] true (true, "255c0ceabbdad6f3da2bcbafd265d9a90b468db278582605c1c6715c5bc2a286") true
    debugBack_holds (fun _ h => by cases h) text4 (fun _ h => by cases h) tieBack rfl ⟨rfl, rfl⟩ main_is rfl plain4 goes4
#print axioms debugBack_card
theorem named5 : Tryz.prog.funcNamed Rows.debugOutRow.func = some 5 := by kernel_rfl
theorem text5 : Rows.debugOutRow.wfByText (OpenSpec.ofChange Rows.debugOutSpec) = true := by kernel_rfl
theorem goes5 : false = Rows.debugOutRow.goesBy Tryz.prog := by
  show false = ((Tryz.prog.funcNamed Rows.debugOutRow.func).any Tryz.prog.goes || false)
  rw [named5, Option.any_some, Clo.goes_of 5]; rfl
set_option maxHeartbeats 1000000 in
theorem plain5 (f : FuncId) (fn : Func) (hf : Tryz.prog.funcNamed Rows.debugOutRow.func = some f) (hfn : Tryz.prog.funcs[f]? = some fn) : true = Tryz.prog.looks [] ∧ ∀ (j : Nat) t, fn.params[j]? = some t → Tryz.prog.wantsStandIn t = false := by
  have e1 : f = 5 := (Option.some.inj (named5.symm.trans hf)).symm
  rw [e1] at hfn
  have e2 : fn = Tryz.f5 := (Option.some.inj (Tryz.func5.symm.trans hfn)).symm
  rw [e2]
  refine ⟨has_looks, fun j t ht => ?_⟩
  rw [Tryz.params5] at ht
  have hm : t ∈ [22, 3] := by simpa using Array.mem_of_getElem? ht
  simp only [List.mem_cons, List.not_mem_nil, or_false] at hm
  rcases hm with rfl | rfl
  · exact stand22
  · exact stand3
theorem debugOut_card : Rows.DebugOutCardSaid :=
  Claim7.holds_tied_plain_at .later [] [.data, .listed, .data, .data, .data, .pinned, .data, .data, .data] true (true, "255c0ceabbdad6f3da2bcbafd265d9a90b468db278582605c1c6715c5bc2a286") true
    debugOut_holds (fun _ h => by cases h) text5 (fun _ h => by cases h) tieOut rfl ⟨rfl, rfl⟩ main_is rfl plain5 goes5
#print axioms debugOut_card
end Go.Proofs.YtogabhigkmggiaaGreatDoor
