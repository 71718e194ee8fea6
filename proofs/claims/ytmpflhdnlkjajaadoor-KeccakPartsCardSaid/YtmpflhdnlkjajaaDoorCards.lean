/-
  DERIVED. GIVEN WITH THE SEED: THE CARDS: each row of YtmpflhdnlkjajaaDoorRows.lean that lists a variable, with what it lists TIED to the program's text (the seventh form; the later family's looks); each row that meets fmt, with fmt's text TOLD by the authors' own Lean function (tested against real Go, not proved from fmt's source: count such statements apart). THE CARD IS WHAT COUNTS. Prove the row's statement (the work); the ties are given (YtmpflhdnlkjajaaDoorTie.lean); close each card by the builder's one call (the guide's Derived/Test/ToyasCard.lean, 'card_holds'). Laid BY PROGRAM, IN A SANDBOX (cutbox-door.mjs). By AI agents, Wed Nov 11 2026. No macro, syntax, notation, axiom, sorry.
-/
import Derived.Test.YtmpflhdnlkjajaaDoorRows
import GoSem.ClaimSeven
namespace Go.Proofs.YtmpflhdnlkjajaaDoor
namespace Rows

/-- THE TIED CARD OF 'quaestorlaw02.KeccakSums'. -/
def keccakSumsCard : Claim7 := { stood := { row := keccakSumsRow, standIns := [], harness := (true, "1723ce0b03ce6712b84afb7681f4f297f9b2cf96198afd303efa85ef45587184"), looks := false }, kinds := [], alts := [], laidByText := true, laidKinds := [.data, .data, .data], laidTests := true, laidLooks := .later }
def KeccakSumsCardSaid : Prop := Claim7.holds Tryd.pinned (.plain (OpenSpec.ofChange keccakSumsSpec)) keccakSumsCard

/-- THE TIED CARD OF 'quaestorlaw02.KeccakJoins'. -/
def keccakJoinsCard : Claim7 := { stood := { row := keccakJoinsRow, standIns := [], harness := (true, "1723ce0b03ce6712b84afb7681f4f297f9b2cf96198afd303efa85ef45587184"), looks := false }, kinds := [], alts := [], laidByText := true, laidKinds := [.data, .data, .data], laidTests := true, laidLooks := .later }
def KeccakJoinsCardSaid : Prop := Claim7.holds Tryd.pinned (.plain (OpenSpec.ofChange keccakJoinsSpec)) keccakJoinsCard

/-- THE TIED CARD OF 'quaestorlaw02.KeccakParts'. -/
def keccakPartsCard : Claim7 := { stood := { row := keccakPartsRow, standIns := [], harness := (true, "1723ce0b03ce6712b84afb7681f4f297f9b2cf96198afd303efa85ef45587184"), looks := false }, kinds := [], alts := [], laidByText := true, laidKinds := [.data, .data, .data], laidTests := true, laidLooks := .later }
def KeccakPartsCardSaid : Prop := Claim7.holds Tryd.pinned (.plain (OpenSpec.ofChange keccakPartsSpec)) keccakPartsCard

/-- THE SECOND FORM's CARD OF 'quaestorlaw02.KeccakSums'. -/
def keccakSumsUptoCard : Claim7 := { stood := { row := keccakSumsUptoRow, standIns := [], harness := (true, "1723ce0b03ce6712b84afb7681f4f297f9b2cf96198afd303efa85ef45587184"), looks := false }, kinds := [], alts := [], laidByText := true, laidKinds := [.data, .data, .data], laidTests := true, laidLooks := .later }
def KeccakSumsUptoCardSaid : Prop := Claim7.holds Tryd.pinned (.plain (OpenSpec.upto keccakSumsSpec)) keccakSumsUptoCard

/-- THE SECOND FORM's CARD OF 'quaestorlaw02.KeccakJoins'. -/
def keccakJoinsUptoCard : Claim7 := { stood := { row := keccakJoinsUptoRow, standIns := [], harness := (true, "1723ce0b03ce6712b84afb7681f4f297f9b2cf96198afd303efa85ef45587184"), looks := false }, kinds := [], alts := [], laidByText := true, laidKinds := [.data, .data, .data], laidTests := true, laidLooks := .later }
def KeccakJoinsUptoCardSaid : Prop := Claim7.holds Tryd.pinned (.plain (OpenSpec.upto keccakJoinsSpec)) keccakJoinsUptoCard

/-- THE SECOND FORM's CARD OF 'quaestorlaw02.KeccakParts'. -/
def keccakPartsUptoCard : Claim7 := { stood := { row := keccakPartsUptoRow, standIns := [], harness := (true, "1723ce0b03ce6712b84afb7681f4f297f9b2cf96198afd303efa85ef45587184"), looks := false }, kinds := [], alts := [], laidByText := true, laidKinds := [.data, .data, .data], laidTests := true, laidLooks := .later }
def KeccakPartsUptoCardSaid : Prop := Claim7.holds Tryd.pinned (.plain (OpenSpec.upto keccakPartsSpec)) keccakPartsUptoCard
end Rows
end Go.Proofs.YtmpflhdnlkjajaaDoor
