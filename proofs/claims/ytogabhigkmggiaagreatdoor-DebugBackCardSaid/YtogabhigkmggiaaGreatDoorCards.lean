/-
  DERIVED. GIVEN WITH THE SEED: THE CARDS: each row of YtogabhigkmggiaaGreatDoorRows.lean that lists a variable, with what it lists TIED to the program's text (the seventh form; the later family's looks); each row that meets fmt, with fmt's text TOLD by the authors' own Lean function (tested against real Go, not proved from fmt's source: count such statements apart). THE CARD IS WHAT COUNTS. Prove the row's statement (the work); the ties are given (YtogabhigkmggiaaGreatDoorTie.lean); close each card by the builder's one call (the guide's Derived/Test/ToyasCard.lean, 'card_holds'). Laid BY PROGRAM, IN A SANDBOX (cutbox-door.mjs). By AI agents, Wed Nov 11 2026. No macro, syntax, notation, axiom, sorry.
-/
import Derived.Test.YtogabhigkmggiaaGreatDoorRows
import GoSem.ClaimSeven
namespace Go.Proofs.YtogabhigkmggiaaGreatDoor
namespace Rows

/-- THE TIED CARD OF 'manorboylaw27.DebugMoves'. -/
def debugMovesCard : Claim7 := { stood := { row := debugMovesRow, standIns := [], harness := (true, "255c0ceabbdad6f3da2bcbafd265d9a90b468db278582605c1c6715c5bc2a286"), looks := true }, kinds := [], alts := [], laidByText := true, laidKinds := [.data, .listed, .data, .data, .data, .pinned, .data, .data, .data], laidTests := true, laidLooks := .later }
def DebugMovesCardSaid : Prop := Claim7.holds Tryz.pinned (.plain (OpenSpec.ofChange debugMovesSpec)) debugMovesCard

/-- THE TIED CARD OF 'manorboylaw27.DebugBack'. -/
def debugBackCard : Claim7 := { stood := { row := debugBackRow, standIns := [], harness := (true, "255c0ceabbdad6f3da2bcbafd265d9a90b468db278582605c1c6715c5bc2a286"), looks := true }, kinds := [], alts := [], laidByText := true, laidKinds := [.data, .listed, .data, .data, .data, .pinned, .data, .data, .data], laidTests := true, laidLooks := .later }
def DebugBackCardSaid : Prop := Claim7.holds Tryz.pinned (.plain (OpenSpec.ofChange debugBackSpec)) debugBackCard

/-- THE TIED CARD OF 'manorboylaw27.DebugOut'. -/
def debugOutCard : Claim7 := { stood := { row := debugOutRow, standIns := [], harness := (true, "255c0ceabbdad6f3da2bcbafd265d9a90b468db278582605c1c6715c5bc2a286"), looks := true }, kinds := [], alts := [], laidByText := true, laidKinds := [.data, .listed, .data, .data, .data, .pinned, .data, .data, .data], laidTests := true, laidLooks := .later }
def DebugOutCardSaid : Prop := Claim7.holds Tryz.pinned (.plain (OpenSpec.ofChange debugOutSpec)) debugOutCard

/-- THE SECOND FORM's CARD OF 'manorboylaw27.DebugMoves'. -/
def debugMovesUptoCard : Claim7 := { stood := { row := debugMovesUptoRow, standIns := [], harness := (true, "255c0ceabbdad6f3da2bcbafd265d9a90b468db278582605c1c6715c5bc2a286"), looks := true }, kinds := [], alts := [], laidByText := true, laidKinds := [.data, .listed, .data, .data, .data, .pinned, .data, .data, .data], laidTests := true, laidLooks := .later }
def DebugMovesUptoCardSaid : Prop := Claim7.holds Tryz.pinned (.plain (OpenSpec.upto debugMovesSpec)) debugMovesUptoCard

/-- THE SECOND FORM's CARD OF 'manorboylaw27.DebugBack'. -/
def debugBackUptoCard : Claim7 := { stood := { row := debugBackUptoRow, standIns := [], harness := (true, "255c0ceabbdad6f3da2bcbafd265d9a90b468db278582605c1c6715c5bc2a286"), looks := true }, kinds := [], alts := [], laidByText := true, laidKinds := [.data, .listed, .data, .data, .data, .pinned, .data, .data, .data], laidTests := true, laidLooks := .later }
def DebugBackUptoCardSaid : Prop := Claim7.holds Tryz.pinned (.plain (OpenSpec.upto debugBackSpec)) debugBackUptoCard

/-- THE SECOND FORM's CARD OF 'manorboylaw27.DebugOut'. -/
def debugOutUptoCard : Claim7 := { stood := { row := debugOutUptoRow, standIns := [], harness := (true, "255c0ceabbdad6f3da2bcbafd265d9a90b468db278582605c1c6715c5bc2a286"), looks := true }, kinds := [], alts := [], laidByText := true, laidKinds := [.data, .listed, .data, .data, .data, .pinned, .data, .data, .data], laidTests := true, laidLooks := .later }
def DebugOutUptoCardSaid : Prop := Claim7.holds Tryz.pinned (.plain (OpenSpec.upto debugOutSpec)) debugOutUptoCard
end Rows
end Go.Proofs.YtogabhigkmggiaaGreatDoor
