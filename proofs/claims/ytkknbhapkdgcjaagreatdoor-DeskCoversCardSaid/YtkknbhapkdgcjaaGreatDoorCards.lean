/-
  DERIVED. GIVEN WITH THE SEED: THE CARDS: each row of YtkknbhapkdgcjaaGreatDoorRows.lean that lists a variable, with what it lists TIED to the program's text (the seventh form; the later family's looks); each row that meets fmt, with fmt's text TOLD by the authors' own Lean function (tested against real Go, not proved from fmt's source: count such statements apart). THE CARD IS WHAT COUNTS. Prove the row's statement (the work); the ties are given (YtkknbhapkdgcjaaGreatDoorTie.lean); close each card by the builder's one call (the guide's Derived/Test/ToyasCard.lean, 'card_holds'). Laid BY PROGRAM, IN A SANDBOX (cutbox-door.mjs). By AI agents, Wed Nov 11 2026. No macro, syntax, notation, axiom, sorry.
-/
import Derived.Test.YtkknbhapkdgcjaaGreatDoorRows
import GoSem.ClaimSeven
namespace Go.Proofs.YtkknbhapkdgcjaaGreatDoor
namespace Rows

/-- THE TIED CARD OF 'quaestorlaw12.DeskNonces'. -/
def deskNoncesCard : Claim7 := { stood := { row := deskNoncesRow, standIns := [], harness := (true, "114b0f3114e8b9731fbadd0b2ef39c3b82fe5f1b296fe9fdf95d8440a305e9b9"), looks := true }, kinds := [], alts := [], laidByText := true, laidKinds := [.handle, .data, .data, .data, .sentinel, .sentinel, .sentinel, .sentinel], laidTests := true, laidLooks := .later }
def DeskNoncesCardSaid : Prop := Claim7.holds Tryz.pinned (.plain (OpenSpec.ofChange deskNoncesSpec)) deskNoncesCard

/-- THE TIED CARD OF 'quaestorlaw12.DeskCovers'. -/
def deskCoversCard : Claim7 := { stood := { row := deskCoversRow, standIns := [], harness := (true, "114b0f3114e8b9731fbadd0b2ef39c3b82fe5f1b296fe9fdf95d8440a305e9b9"), looks := true }, kinds := [], alts := [], laidByText := true, laidKinds := [.handle, .data, .data, .data, .sentinel, .sentinel, .sentinel, .sentinel], laidTests := true, laidLooks := .later }
def DeskCoversCardSaid : Prop := Claim7.holds Tryz.pinned (.plain (OpenSpec.ofChange deskCoversSpec)) deskCoversCard

/-- THE SECOND FORM's CARD OF 'quaestorlaw12.DeskNonces'. -/
def deskNoncesUptoCard : Claim7 := { stood := { row := deskNoncesUptoRow, standIns := [], harness := (true, "114b0f3114e8b9731fbadd0b2ef39c3b82fe5f1b296fe9fdf95d8440a305e9b9"), looks := true }, kinds := [], alts := [], laidByText := true, laidKinds := [.handle, .data, .data, .data, .sentinel, .sentinel, .sentinel, .sentinel], laidTests := true, laidLooks := .later }
def DeskNoncesUptoCardSaid : Prop := Claim7.holds Tryz.pinned (.plain (OpenSpec.upto deskNoncesSpec)) deskNoncesUptoCard

/-- THE SECOND FORM's CARD OF 'quaestorlaw12.DeskCovers'. -/
def deskCoversUptoCard : Claim7 := { stood := { row := deskCoversUptoRow, standIns := [], harness := (true, "114b0f3114e8b9731fbadd0b2ef39c3b82fe5f1b296fe9fdf95d8440a305e9b9"), looks := true }, kinds := [], alts := [], laidByText := true, laidKinds := [.handle, .data, .data, .data, .sentinel, .sentinel, .sentinel, .sentinel], laidTests := true, laidLooks := .later }
def DeskCoversUptoCardSaid : Prop := Claim7.holds Tryz.pinned (.plain (OpenSpec.upto deskCoversSpec)) deskCoversUptoCard
end Rows
end Go.Proofs.YtkknbhapkdgcjaaGreatDoor
