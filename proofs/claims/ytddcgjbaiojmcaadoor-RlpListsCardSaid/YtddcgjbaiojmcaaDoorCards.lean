/-
  DERIVED. GIVEN WITH THE SEED: THE CARDS: each row of YtddcgjbaiojmcaaDoorRows.lean that lists a variable, with what it lists TIED to the program's text (the seventh form; the later family's looks); each row that meets fmt, with fmt's text TOLD by the authors' own Lean function (tested against real Go, not proved from fmt's source: count such statements apart). THE CARD IS WHAT COUNTS. Prove the row's statement (the work); the ties are given (YtddcgjbaiojmcaaDoorTie.lean); close each card by the builder's one call (the guide's Derived/Test/ToyasCard.lean, 'card_holds'). Laid BY PROGRAM, IN A SANDBOX (cutbox-door.mjs). By AI agents, Wed Nov 11 2026. No macro, syntax, notation, axiom, sorry.
-/
import Derived.Test.YtddcgjbaiojmcaaDoorRows
import GoSem.ClaimSeven
namespace Go.Proofs.YtddcgjbaiojmcaaDoor
namespace Rows

/-- THE TIED CARD OF 'quaestorlaw04.RlpEncodes'. -/
def rlpEncodesCard : Claim7 := { stood := { row := rlpEncodesRow, standIns := [], harness := (true, "cb79f52a2001134c984bf87e7843f333d62a290fad45d9cfe1ed96bc0e7b30f3"), looks := true }, kinds := [], alts := [], laidByText := true, laidKinds := [.sentinel, .sentinel, .sentinel], laidTests := true, laidLooks := .later }
def RlpEncodesCardSaid : Prop := Claim7.holds Tryd.pinned (.plain (OpenSpec.ofChange rlpEncodesSpec)) rlpEncodesCard

/-- THE TIED CARD OF 'quaestorlaw04.RlpDecodes'. -/
def rlpDecodesCard : Claim7 := { stood := { row := rlpDecodesRow, standIns := [], harness := (true, "cb79f52a2001134c984bf87e7843f333d62a290fad45d9cfe1ed96bc0e7b30f3"), looks := true }, kinds := [], alts := [], laidByText := true, laidKinds := [.sentinel, .sentinel, .sentinel], laidTests := true, laidLooks := .later }
def RlpDecodesCardSaid : Prop := Claim7.holds Tryd.pinned (.plain (OpenSpec.ofChange rlpDecodesSpec)) rlpDecodesCard

/-- THE TIED CARD OF 'quaestorlaw04.RlpBack'. -/
def rlpBackCard : Claim7 := { stood := { row := rlpBackRow, standIns := [], harness := (true, "cb79f52a2001134c984bf87e7843f333d62a290fad45d9cfe1ed96bc0e7b30f3"), looks := true }, kinds := [], alts := [], laidByText := true, laidKinds := [.sentinel, .sentinel, .sentinel], laidTests := true, laidLooks := .later }
def RlpBackCardSaid : Prop := Claim7.holds Tryd.pinned (.plain (OpenSpec.ofChange rlpBackSpec)) rlpBackCard

/-- THE TIED CARD OF 'quaestorlaw04.RlpOne'. -/
def rlpOneCard : Claim7 := { stood := { row := rlpOneRow, standIns := [], harness := (true, "cb79f52a2001134c984bf87e7843f333d62a290fad45d9cfe1ed96bc0e7b30f3"), looks := true }, kinds := [], alts := [], laidByText := true, laidKinds := [.sentinel, .sentinel, .sentinel], laidTests := true, laidLooks := .later }
def RlpOneCardSaid : Prop := Claim7.holds Tryd.pinned (.plain (OpenSpec.ofChange rlpOneSpec)) rlpOneCard

/-- THE TIED CARD OF 'quaestorlaw04.RlpLists'. -/
def rlpListsCard : Claim7 := { stood := { row := rlpListsRow, standIns := [], harness := (true, "cb79f52a2001134c984bf87e7843f333d62a290fad45d9cfe1ed96bc0e7b30f3"), looks := true }, kinds := [], alts := [], laidByText := true, laidKinds := [.sentinel, .sentinel, .sentinel], laidTests := true, laidLooks := .later }
def RlpListsCardSaid : Prop := Claim7.holds Tryd.pinned (.plain (OpenSpec.ofChange rlpListsSpec)) rlpListsCard

/-- THE TIED CARD OF 'quaestorlaw04.RlpNumbers'. -/
def rlpNumbersCard : Claim7 := { stood := { row := rlpNumbersRow, standIns := [], harness := (true, "cb79f52a2001134c984bf87e7843f333d62a290fad45d9cfe1ed96bc0e7b30f3"), looks := true }, kinds := [], alts := [], laidByText := true, laidKinds := [.sentinel, .sentinel, .sentinel], laidTests := true, laidLooks := .later }
def RlpNumbersCardSaid : Prop := Claim7.holds Tryd.pinned (.plain (OpenSpec.ofChange rlpNumbersSpec)) rlpNumbersCard

/-- THE SECOND FORM's CARD OF 'quaestorlaw04.RlpEncodes'. -/
def rlpEncodesUptoCard : Claim7 := { stood := { row := rlpEncodesUptoRow, standIns := [], harness := (true, "cb79f52a2001134c984bf87e7843f333d62a290fad45d9cfe1ed96bc0e7b30f3"), looks := true }, kinds := [], alts := [], laidByText := true, laidKinds := [.sentinel, .sentinel, .sentinel], laidTests := true, laidLooks := .later }
def RlpEncodesUptoCardSaid : Prop := Claim7.holds Tryd.pinned (.plain (OpenSpec.upto rlpEncodesSpec)) rlpEncodesUptoCard

/-- THE SECOND FORM's CARD OF 'quaestorlaw04.RlpDecodes'. -/
def rlpDecodesUptoCard : Claim7 := { stood := { row := rlpDecodesUptoRow, standIns := [], harness := (true, "cb79f52a2001134c984bf87e7843f333d62a290fad45d9cfe1ed96bc0e7b30f3"), looks := true }, kinds := [], alts := [], laidByText := true, laidKinds := [.sentinel, .sentinel, .sentinel], laidTests := true, laidLooks := .later }
def RlpDecodesUptoCardSaid : Prop := Claim7.holds Tryd.pinned (.plain (OpenSpec.upto rlpDecodesSpec)) rlpDecodesUptoCard

/-- THE SECOND FORM's CARD OF 'quaestorlaw04.RlpBack'. -/
def rlpBackUptoCard : Claim7 := { stood := { row := rlpBackUptoRow, standIns := [], harness := (true, "cb79f52a2001134c984bf87e7843f333d62a290fad45d9cfe1ed96bc0e7b30f3"), looks := true }, kinds := [], alts := [], laidByText := true, laidKinds := [.sentinel, .sentinel, .sentinel], laidTests := true, laidLooks := .later }
def RlpBackUptoCardSaid : Prop := Claim7.holds Tryd.pinned (.plain (OpenSpec.upto rlpBackSpec)) rlpBackUptoCard

/-- THE SECOND FORM's CARD OF 'quaestorlaw04.RlpOne'. -/
def rlpOneUptoCard : Claim7 := { stood := { row := rlpOneUptoRow, standIns := [], harness := (true, "cb79f52a2001134c984bf87e7843f333d62a290fad45d9cfe1ed96bc0e7b30f3"), looks := true }, kinds := [], alts := [], laidByText := true, laidKinds := [.sentinel, .sentinel, .sentinel], laidTests := true, laidLooks := .later }
def RlpOneUptoCardSaid : Prop := Claim7.holds Tryd.pinned (.plain (OpenSpec.upto rlpOneSpec)) rlpOneUptoCard

/-- THE SECOND FORM's CARD OF 'quaestorlaw04.RlpLists'. -/
def rlpListsUptoCard : Claim7 := { stood := { row := rlpListsUptoRow, standIns := [], harness := (true, "cb79f52a2001134c984bf87e7843f333d62a290fad45d9cfe1ed96bc0e7b30f3"), looks := true }, kinds := [], alts := [], laidByText := true, laidKinds := [.sentinel, .sentinel, .sentinel], laidTests := true, laidLooks := .later }
def RlpListsUptoCardSaid : Prop := Claim7.holds Tryd.pinned (.plain (OpenSpec.upto rlpListsSpec)) rlpListsUptoCard

/-- THE SECOND FORM's CARD OF 'quaestorlaw04.RlpNumbers'. -/
def rlpNumbersUptoCard : Claim7 := { stood := { row := rlpNumbersUptoRow, standIns := [], harness := (true, "cb79f52a2001134c984bf87e7843f333d62a290fad45d9cfe1ed96bc0e7b30f3"), looks := true }, kinds := [], alts := [], laidByText := true, laidKinds := [.sentinel, .sentinel, .sentinel], laidTests := true, laidLooks := .later }
def RlpNumbersUptoCardSaid : Prop := Claim7.holds Tryd.pinned (.plain (OpenSpec.upto rlpNumbersSpec)) rlpNumbersUptoCard
end Rows
end Go.Proofs.YtddcgjbaiojmcaaDoor
