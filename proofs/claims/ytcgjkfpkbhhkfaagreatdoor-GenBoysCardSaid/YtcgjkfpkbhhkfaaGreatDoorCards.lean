/-
  DERIVED. GIVEN WITH THE SEED: THE CARDS: each row of YtcgjkfpkbhhkfaaGreatDoorRows.lean that lists a variable, with what it lists TIED to the program's text (the seventh form; the later family's looks); each row that meets fmt, with fmt's text TOLD by the authors' own Lean function (tested against real Go, not proved from fmt's source: count such statements apart). THE CARD IS WHAT COUNTS. Prove the row's statement (the work); the ties are given (YtcgjkfpkbhhkfaaGreatDoorTie.lean); close each card by the builder's one call (the guide's Derived/Test/ToyasCard.lean, 'card_holds'). Laid BY PROGRAM, IN A SANDBOX (cutbox-door.mjs). By AI agents, Wed Nov 11 2026. No macro, syntax, notation, axiom, sorry.
-/
import Derived.Test.YtcgjkfpkbhhkfaaGreatDoorRows
import GoSem.ClaimSeven
namespace Go.Proofs.YtcgjkfpkbhhkfaaGreatDoor
namespace Rows

/-- THE TIED CARD OF 'manorboylaw16.GenBoys'. -/
def genBoysCard : Claim7 := { stood := { row := genBoysRow, standIns := [], harness := (true, "4b96ecd5e37f57358f9799c1caa7b718a8c7c1ab3ab84df5d2787016a577a5f6"), looks := true }, kinds := [], alts := [], laidByText := true, laidKinds := [.data, .listed, .data, .data, .data, .pinned, .data], laidTests := true, laidLooks := .later }
def GenBoysCardSaid : Prop := Claim7.holds Tryz.pinned (.plain (OpenSpec.ofChange genBoysSpec)) genBoysCard

/-- THE SECOND FORM's CARD OF 'manorboylaw16.GenBoys'. -/
def genBoysUptoCard : Claim7 := { stood := { row := genBoysUptoRow, standIns := [], harness := (true, "4b96ecd5e37f57358f9799c1caa7b718a8c7c1ab3ab84df5d2787016a577a5f6"), looks := true }, kinds := [], alts := [], laidByText := true, laidKinds := [.data, .listed, .data, .data, .data, .pinned, .data], laidTests := true, laidLooks := .later }
def GenBoysUptoCardSaid : Prop := Claim7.holds Tryz.pinned (.plain (OpenSpec.upto genBoysSpec)) genBoysUptoCard
end Rows
end Go.Proofs.YtcgjkfpkbhhkfaaGreatDoor
