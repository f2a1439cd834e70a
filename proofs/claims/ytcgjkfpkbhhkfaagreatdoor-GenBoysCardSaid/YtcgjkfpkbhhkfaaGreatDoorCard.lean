/-
  Proved: for every k, the law GenBoys of layer 16 returns true, and the argument reads behind the call as it read before (the tied card of the row).
  Conditions: none beside those of the given row (the listed library tables hold what the program's text lays, which the tie proves).
  The call is closed but for k: it is run by a small machine over closed data, which is proved to do what the model does (texts E1 to E4), and whose run the kernel checks in pieces (texts Gm, Gk0 to Gk13, Boys).
-/
import Derived.Test.YtcgjkfpkbhhkfaaGreatDoorTa
import Derived.Test.YtcgjkfpkbhhkfaaGreatDoorTb
import Derived.Test.YtcgjkfpkbhhkfaaGreatDoorTc
import Derived.Test.YtcgjkfpkbhhkfaaGreatDoorTd
import Derived.Test.YtcgjkfpkbhhkfaaGreatDoorTe
import Derived.Test.YtcgjkfpkbhhkfaaGreatDoorTf
import Derived.Test.YtcgjkfpkbhhkfaaGreatDoorTv
import Derived.Test.YtcgjkfpkbhhkfaaGreatDoorP4
import Derived.Test.YtcgjkfpkbhhkfaaGreatDoorCards
import Derived.SevenTiedAt
set_option linter.unusedVariables false
set_option linter.unusedSimpArgs false
set_option linter.unusedSectionVars false
set_option maxRecDepth 100000
namespace Go.Proofs.YtcgjkfpkbhhkfaaGreatDoor
open Go
theorem tie_plain : (tieList.all fun x => x.2.handleName?.isNone) = true := by kernel_rfl
theorem own_tie : Tryz.prog.laidByTextLater tieList [.data, .listed, .data, .data, .data, .data] true :=
  Program.laidByTextLater_by_run 400 8 tieA1 tieA2 tieA3 tieB1 tieB2 (by rw [vid]; exact tieC) (fun os tape => by rw [vid]; exact tieD os tape)
    (fun os tape => by rw [vid]; exact tieE os tape) (fun os tape => by rw [vid]; exact tieF os tape) tie_plain
theorem no_own : Tryz.pinned.checked.prog.headLifts.contains "ownunsafe" = false := by kernel_rfl
theorem own_fits : Tryz.pinned.checked.prog.listedFits Rows.genBoysRow.laid = true := by
  unfold Program.listedFits
  rw [no_own]
  kernel_rfl
theorem own_pins : ∀ y ∈ Rows.genBoysRow.laid.zip tieKinds, y.2 = .pinned → Tryz.pinned.checked.prog.pinnedFits y.1.1 = true ∧ Pinned.datum y.1.1 = some y.1.2 := fun y hy e => by
  simp only [Rows.genBoysRow, tieKinds, List.zip_cons_cons, List.zip_nil_right, List.mem_cons, List.mem_nil_iff, or_false] at hy
  rcases hy with rfl | rfl | rfl | rfl | rfl | rfl | rfl
  · cases e
  · cases e
  · cases e
  · cases e
  · cases e
  · exact ⟨by kernel_rfl, by kernel_rfl⟩
  · cases e
theorem tieBoys : Rows.genBoysRow.laidByTextAt .later Tryz.pinned [.data, .listed, .data, .data, .data, .pinned, .data] true :=
  OpenClaim.laidByTextAt_pinned rfl rfl own_tie rfl rfl rfl rfl own_pins own_fits
theorem main_is : Tryz.prog.mainIs = some (true, "4b96ecd5e37f57358f9799c1caa7b718a8c7c1ab3ab84df5d2787016a577a5f6".toList) := by kernel_rfl
theorem has_looks : true = Tryz.prog.looks [] := by kernel_rfl
theorem stand5 : Tryz.prog.wantsStandIn 5 = false := by kernel_rfl
theorem named3 : Tryz.prog.funcNamed Rows.genBoysRow.func = some 3 := by kernel_rfl
theorem text3 : Rows.genBoysRow.wfByText (OpenSpec.ofChange Rows.genBoysSpec) = true := by kernel_rfl
theorem goes3 : false = Rows.genBoysRow.goesBy Tryz.prog := by
  show false = ((Tryz.prog.funcNamed Rows.genBoysRow.func).any Tryz.prog.goes || false)
  rw [named3, Option.any_some, Clo.goes_of 3]; rfl
set_option maxHeartbeats 1000000 in
theorem plain3 (f : FuncId) (fn : Func) (hf : Tryz.prog.funcNamed Rows.genBoysRow.func = some f) (hfn : Tryz.prog.funcs[f]? = some fn) : true = Tryz.prog.looks [] ∧ ∀ (j : Nat) t, fn.params[j]? = some t → Tryz.prog.wantsStandIn t = false := by
  have e1 : f = 3 := (Option.some.inj (named3.symm.trans hf)).symm
  rw [e1] at hfn
  have e2 : fn = Tryz.f3 := (Option.some.inj (Tryz.func3.symm.trans hfn)).symm
  rw [e2]
  refine ⟨has_looks, fun j t ht => ?_⟩
  rw [Tryz.params3] at ht
  have hm : t ∈ [5] := by simpa using Array.mem_of_getElem? ht
  simp only [List.mem_cons, List.not_mem_nil, or_false] at hm
  subst hm
  exact stand5
theorem genBoys_card : Rows.GenBoysCardSaid :=
  Claim7.holds_tied_plain_at .later [] [.data, .listed, .data, .data, .data, .pinned, .data] true (true, "4b96ecd5e37f57358f9799c1caa7b718a8c7c1ab3ab84df5d2787016a577a5f6") true
    genBoys_holds (fun _ h => by cases h) text3 (fun _ h => by cases h) tieBoys rfl ⟨rfl, rfl⟩ main_is rfl plain3 goes3
#print axioms genBoys_card
end Go.Proofs.YtcgjkfpkbhhkfaaGreatDoor
