/-
  DERIVED. GIVEN WITH THE SEED: THE CARDS: each row of YtehhocoldpdijaaDoorRows.lean that lists a variable, with what it lists TIED to the program's text (the seventh form; the later family's looks); each row that meets fmt, with fmt's text TOLD by the authors' own Lean function (tested against real Go, not proved from fmt's source: count such statements apart). THE CARD IS WHAT COUNTS. Prove the row's statement (the work); the ties are given (YtehhocoldpdijaaDoorTie.lean); close each card by the builder's one call (the guide's Derived/Test/ToyasCard.lean, 'card_holds'). Laid BY PROGRAM, IN A SANDBOX (cutbox-door.mjs). By AI agents, Wed Nov 11 2026. No macro, syntax, notation, axiom, sorry.
-/
import Derived.Test.YtehhocoldpdijaaDoorRows
import GoSem.ClaimSeven
namespace Go.Proofs.YtehhocoldpdijaaDoor
namespace Rows

/-- THE TIED CARD OF 'quaestorlaw05.AbiEncodes'. -/
def abiEncodesCard : Claim7 := { stood := { row := abiEncodesRow, standIns := [], harness := (true, "c51760bd8f969763d386844ba8af162d84ed9ffb862fc9d378e5688836d4c569"), looks := true }, kinds := [], alts := [], laidByText := true, laidKinds := [.data, .data, .data], laidTests := true, laidLooks := .later }
def AbiEncodesCardSaid : Prop := Claim7.holds Tryd.pinned (.plain (OpenSpec.ofChange abiEncodesSpec)) abiEncodesCard

/-- THE TIED CARD OF 'quaestorlaw15.UseropSpans'. -/
def useropSpansCard : Claim7 := { stood := { row := useropSpansRow, standIns := [], harness := (true, "c51760bd8f969763d386844ba8af162d84ed9ffb862fc9d378e5688836d4c569"), looks := true }, kinds := [], alts := [], laidByText := true, laidKinds := [.data, .data, .data], laidTests := true, laidLooks := .later }
def UseropSpansCardSaid : Prop := Claim7.holds Tryd.pinned (.plain (OpenSpec.ofChange useropSpansSpec)) useropSpansCard

/-- THE TIED CARD OF 'quaestorlaw15.UseropCalls'. -/
def useropCallsCard : Claim7 := { stood := { row := useropCallsRow, standIns := [], harness := (true, "c51760bd8f969763d386844ba8af162d84ed9ffb862fc9d378e5688836d4c569"), looks := true }, kinds := [], alts := [], laidByText := true, laidKinds := [.data, .data, .data], laidTests := true, laidLooks := .later }
def UseropCallsCardSaid : Prop := Claim7.holds Tryd.pinned (.plain (OpenSpec.ofChange useropCallsSpec)) useropCallsCard

/-- THE TIED CARD OF 'quaestorlaw15.UseropHashes'. -/
def useropHashesCard : Claim7 := { stood := { row := useropHashesRow, standIns := [], harness := (true, "c51760bd8f969763d386844ba8af162d84ed9ffb862fc9d378e5688836d4c569"), looks := true }, kinds := [], alts := [], laidByText := true, laidKinds := [.data, .data, .data], laidTests := true, laidLooks := .later }
def UseropHashesCardSaid : Prop := Claim7.holds Tryd.pinned (.plain (OpenSpec.ofChange useropHashesSpec)) useropHashesCard

/-- THE TIED CARD OF 'quaestorlaw15.UseropSigned'. -/
def useropSignedCard : Claim7 := { stood := { row := useropSignedRow, standIns := [], harness := (true, "c51760bd8f969763d386844ba8af162d84ed9ffb862fc9d378e5688836d4c569"), looks := true }, kinds := [], alts := [], laidByText := true, laidKinds := [.data, .data, .data], laidTests := true, laidLooks := .later }
def UseropSignedCardSaid : Prop := Claim7.holds Tryd.pinned (.plain (OpenSpec.ofChange useropSignedSpec)) useropSignedCard

/-- THE TIED CARD OF 'quaestorlaw15.UseropNumbers'. -/
def useropNumbersCard : Claim7 := { stood := { row := useropNumbersRow, standIns := [], harness := (true, "c51760bd8f969763d386844ba8af162d84ed9ffb862fc9d378e5688836d4c569"), looks := true }, kinds := [], alts := [], laidByText := true, laidKinds := [.data, .data, .data], laidTests := true, laidLooks := .later }
def UseropNumbersCardSaid : Prop := Claim7.holds Tryd.pinned (.plain (OpenSpec.ofChange useropNumbersSpec)) useropNumbersCard

/-- THE TIED CARD OF 'quaestorlaw15.UseropPrices'. -/
def useropPricesCard : Claim7 := { stood := { row := useropPricesRow, standIns := [], harness := (true, "c51760bd8f969763d386844ba8af162d84ed9ffb862fc9d378e5688836d4c569"), looks := true }, kinds := [], alts := [], laidByText := true, laidKinds := [.data, .data, .data], laidTests := true, laidLooks := .later }
def UseropPricesCardSaid : Prop := Claim7.holds Tryd.pinned (.plain (OpenSpec.ofChange useropPricesSpec)) useropPricesCard

/-- THE TIED CARD OF 'quaestorlaw05.AbiDecodes'. -/
def abiDecodesCard : Claim7 := { stood := { row := abiDecodesRow, standIns := [], harness := (true, "c51760bd8f969763d386844ba8af162d84ed9ffb862fc9d378e5688836d4c569"), looks := true }, kinds := [], alts := [], laidByText := true, laidKinds := [.handle, .data, .data, .data, .sentinel], laidTests := true, laidLooks := .later }
def AbiDecodesCardSaid : Prop := Claim7.holds Tryd.pinned (.plain (OpenSpec.ofChange abiDecodesSpec)) abiDecodesCard

/-- THE TIED CARD OF 'quaestorlaw05.AbiBack'. -/
def abiBackCard : Claim7 := { stood := { row := abiBackRow, standIns := [], harness := (true, "c51760bd8f969763d386844ba8af162d84ed9ffb862fc9d378e5688836d4c569"), looks := true }, kinds := [], alts := [], laidByText := true, laidKinds := [.handle, .data, .data, .data, .sentinel], laidTests := true, laidLooks := .later }
def AbiBackCardSaid : Prop := Claim7.holds Tryd.pinned (.plain (OpenSpec.ofChange abiBackSpec)) abiBackCard

/-- THE TIED CARD OF 'quaestorlaw05.AbiWords'. -/
def abiWordsCard : Claim7 := { stood := { row := abiWordsRow, standIns := [], harness := (true, "c51760bd8f969763d386844ba8af162d84ed9ffb862fc9d378e5688836d4c569"), looks := true }, kinds := [], alts := [], laidByText := true, laidKinds := [.handle, .data, .data, .data, .sentinel], laidTests := true, laidLooks := .later }
def AbiWordsCardSaid : Prop := Claim7.holds Tryd.pinned (.plain (OpenSpec.ofChange abiWordsSpec)) abiWordsCard

/-- THE TIED CARD OF 'quaestorlaw05.AbiBounds'. -/
def abiBoundsCard : Claim7 := { stood := { row := abiBoundsRow, standIns := [], harness := (true, "c51760bd8f969763d386844ba8af162d84ed9ffb862fc9d378e5688836d4c569"), looks := true }, kinds := [], alts := [], laidByText := true, laidKinds := [.handle, .data, .data, .data, .sentinel], laidTests := true, laidLooks := .later }
def AbiBoundsCardSaid : Prop := Claim7.holds Tryd.pinned (.plain (OpenSpec.ofChange abiBoundsSpec)) abiBoundsCard

/-- THE TIED CARD OF 'quaestorlaw05.AbiSelectors'. -/
def abiSelectorsCard : Claim7 := { stood := { row := abiSelectorsRow, standIns := [], harness := (true, "c51760bd8f969763d386844ba8af162d84ed9ffb862fc9d378e5688836d4c569"), looks := true }, kinds := [], alts := [], laidByText := true, laidKinds := [.handle, .data, .data, .data, .sentinel], laidTests := true, laidLooks := .later }
def AbiSelectorsCardSaid : Prop := Claim7.holds Tryd.pinned (.plain (OpenSpec.ofChange abiSelectorsSpec)) abiSelectorsCard

/-- THE TIED CARD OF 'quaestorlaw15.UseropChecks'. -/
def useropChecksCard : Claim7 := { stood := { row := useropChecksRow, standIns := [], harness := (true, "c51760bd8f969763d386844ba8af162d84ed9ffb862fc9d378e5688836d4c569"), looks := true }, kinds := [], alts := [], laidByText := true, laidKinds := [.data, .data, .data], laidTests := true, laidLooks := .later }
def UseropChecksCardSaid : Prop := Claim7.holds Tryd.pinned (.plain (OpenSpec.ofChange useropChecksSpec)) useropChecksCard

/-- THE TIED CARD OF 'quaestorlaw15.UseropReads'. -/
def useropReadsCard : Claim7 := { stood := { row := useropReadsRow, standIns := [], harness := (true, "c51760bd8f969763d386844ba8af162d84ed9ffb862fc9d378e5688836d4c569"), looks := true }, kinds := [], alts := [], laidByText := true, laidKinds := [.handle, .data, .data, .data, .sentinel], laidTests := true, laidLooks := .later }
def UseropReadsCardSaid : Prop := Claim7.holds Tryd.pinned (.plain (OpenSpec.ofChange useropReadsSpec)) useropReadsCard

/-- THE SECOND FORM's CARD OF 'quaestorlaw05.AbiEncodes'. -/
def abiEncodesUptoCard : Claim7 := { stood := { row := abiEncodesUptoRow, standIns := [], harness := (true, "c51760bd8f969763d386844ba8af162d84ed9ffb862fc9d378e5688836d4c569"), looks := true }, kinds := [], alts := [], laidByText := true, laidKinds := [.data, .data, .data], laidTests := true, laidLooks := .later }
def AbiEncodesUptoCardSaid : Prop := Claim7.holds Tryd.pinned (.plain (OpenSpec.upto abiEncodesSpec)) abiEncodesUptoCard

/-- THE SECOND FORM's CARD OF 'quaestorlaw15.UseropSpans'. -/
def useropSpansUptoCard : Claim7 := { stood := { row := useropSpansUptoRow, standIns := [], harness := (true, "c51760bd8f969763d386844ba8af162d84ed9ffb862fc9d378e5688836d4c569"), looks := true }, kinds := [], alts := [], laidByText := true, laidKinds := [.data, .data, .data], laidTests := true, laidLooks := .later }
def UseropSpansUptoCardSaid : Prop := Claim7.holds Tryd.pinned (.plain (OpenSpec.upto useropSpansSpec)) useropSpansUptoCard

/-- THE SECOND FORM's CARD OF 'quaestorlaw15.UseropCalls'. -/
def useropCallsUptoCard : Claim7 := { stood := { row := useropCallsUptoRow, standIns := [], harness := (true, "c51760bd8f969763d386844ba8af162d84ed9ffb862fc9d378e5688836d4c569"), looks := true }, kinds := [], alts := [], laidByText := true, laidKinds := [.data, .data, .data], laidTests := true, laidLooks := .later }
def UseropCallsUptoCardSaid : Prop := Claim7.holds Tryd.pinned (.plain (OpenSpec.upto useropCallsSpec)) useropCallsUptoCard

/-- THE SECOND FORM's CARD OF 'quaestorlaw15.UseropHashes'. -/
def useropHashesUptoCard : Claim7 := { stood := { row := useropHashesUptoRow, standIns := [], harness := (true, "c51760bd8f969763d386844ba8af162d84ed9ffb862fc9d378e5688836d4c569"), looks := true }, kinds := [], alts := [], laidByText := true, laidKinds := [.data, .data, .data], laidTests := true, laidLooks := .later }
def UseropHashesUptoCardSaid : Prop := Claim7.holds Tryd.pinned (.plain (OpenSpec.upto useropHashesSpec)) useropHashesUptoCard

/-- THE SECOND FORM's CARD OF 'quaestorlaw15.UseropSigned'. -/
def useropSignedUptoCard : Claim7 := { stood := { row := useropSignedUptoRow, standIns := [], harness := (true, "c51760bd8f969763d386844ba8af162d84ed9ffb862fc9d378e5688836d4c569"), looks := true }, kinds := [], alts := [], laidByText := true, laidKinds := [.data, .data, .data], laidTests := true, laidLooks := .later }
def UseropSignedUptoCardSaid : Prop := Claim7.holds Tryd.pinned (.plain (OpenSpec.upto useropSignedSpec)) useropSignedUptoCard

/-- THE SECOND FORM's CARD OF 'quaestorlaw15.UseropNumbers'. -/
def useropNumbersUptoCard : Claim7 := { stood := { row := useropNumbersUptoRow, standIns := [], harness := (true, "c51760bd8f969763d386844ba8af162d84ed9ffb862fc9d378e5688836d4c569"), looks := true }, kinds := [], alts := [], laidByText := true, laidKinds := [.data, .data, .data], laidTests := true, laidLooks := .later }
def UseropNumbersUptoCardSaid : Prop := Claim7.holds Tryd.pinned (.plain (OpenSpec.upto useropNumbersSpec)) useropNumbersUptoCard

/-- THE SECOND FORM's CARD OF 'quaestorlaw15.UseropPrices'. -/
def useropPricesUptoCard : Claim7 := { stood := { row := useropPricesUptoRow, standIns := [], harness := (true, "c51760bd8f969763d386844ba8af162d84ed9ffb862fc9d378e5688836d4c569"), looks := true }, kinds := [], alts := [], laidByText := true, laidKinds := [.data, .data, .data], laidTests := true, laidLooks := .later }
def UseropPricesUptoCardSaid : Prop := Claim7.holds Tryd.pinned (.plain (OpenSpec.upto useropPricesSpec)) useropPricesUptoCard

/-- THE SECOND FORM's CARD OF 'quaestorlaw05.AbiDecodes'. -/
def abiDecodesUptoCard : Claim7 := { stood := { row := abiDecodesUptoRow, standIns := [], harness := (true, "c51760bd8f969763d386844ba8af162d84ed9ffb862fc9d378e5688836d4c569"), looks := true }, kinds := [], alts := [], laidByText := true, laidKinds := [.handle, .data, .data, .data, .sentinel], laidTests := true, laidLooks := .later }
def AbiDecodesUptoCardSaid : Prop := Claim7.holds Tryd.pinned (.plain (OpenSpec.upto abiDecodesSpec)) abiDecodesUptoCard

/-- THE SECOND FORM's CARD OF 'quaestorlaw05.AbiBack'. -/
def abiBackUptoCard : Claim7 := { stood := { row := abiBackUptoRow, standIns := [], harness := (true, "c51760bd8f969763d386844ba8af162d84ed9ffb862fc9d378e5688836d4c569"), looks := true }, kinds := [], alts := [], laidByText := true, laidKinds := [.handle, .data, .data, .data, .sentinel], laidTests := true, laidLooks := .later }
def AbiBackUptoCardSaid : Prop := Claim7.holds Tryd.pinned (.plain (OpenSpec.upto abiBackSpec)) abiBackUptoCard

/-- THE SECOND FORM's CARD OF 'quaestorlaw05.AbiWords'. -/
def abiWordsUptoCard : Claim7 := { stood := { row := abiWordsUptoRow, standIns := [], harness := (true, "c51760bd8f969763d386844ba8af162d84ed9ffb862fc9d378e5688836d4c569"), looks := true }, kinds := [], alts := [], laidByText := true, laidKinds := [.handle, .data, .data, .data, .sentinel], laidTests := true, laidLooks := .later }
def AbiWordsUptoCardSaid : Prop := Claim7.holds Tryd.pinned (.plain (OpenSpec.upto abiWordsSpec)) abiWordsUptoCard

/-- THE SECOND FORM's CARD OF 'quaestorlaw05.AbiBounds'. -/
def abiBoundsUptoCard : Claim7 := { stood := { row := abiBoundsUptoRow, standIns := [], harness := (true, "c51760bd8f969763d386844ba8af162d84ed9ffb862fc9d378e5688836d4c569"), looks := true }, kinds := [], alts := [], laidByText := true, laidKinds := [.handle, .data, .data, .data, .sentinel], laidTests := true, laidLooks := .later }
def AbiBoundsUptoCardSaid : Prop := Claim7.holds Tryd.pinned (.plain (OpenSpec.upto abiBoundsSpec)) abiBoundsUptoCard

/-- THE SECOND FORM's CARD OF 'quaestorlaw05.AbiSelectors'. -/
def abiSelectorsUptoCard : Claim7 := { stood := { row := abiSelectorsUptoRow, standIns := [], harness := (true, "c51760bd8f969763d386844ba8af162d84ed9ffb862fc9d378e5688836d4c569"), looks := true }, kinds := [], alts := [], laidByText := true, laidKinds := [.handle, .data, .data, .data, .sentinel], laidTests := true, laidLooks := .later }
def AbiSelectorsUptoCardSaid : Prop := Claim7.holds Tryd.pinned (.plain (OpenSpec.upto abiSelectorsSpec)) abiSelectorsUptoCard

/-- THE SECOND FORM's CARD OF 'quaestorlaw15.UseropChecks'. -/
def useropChecksUptoCard : Claim7 := { stood := { row := useropChecksUptoRow, standIns := [], harness := (true, "c51760bd8f969763d386844ba8af162d84ed9ffb862fc9d378e5688836d4c569"), looks := true }, kinds := [], alts := [], laidByText := true, laidKinds := [.data, .data, .data], laidTests := true, laidLooks := .later }
def UseropChecksUptoCardSaid : Prop := Claim7.holds Tryd.pinned (.plain (OpenSpec.upto useropChecksSpec)) useropChecksUptoCard

/-- THE SECOND FORM's CARD OF 'quaestorlaw15.UseropReads'. -/
def useropReadsUptoCard : Claim7 := { stood := { row := useropReadsUptoRow, standIns := [], harness := (true, "c51760bd8f969763d386844ba8af162d84ed9ffb862fc9d378e5688836d4c569"), looks := true }, kinds := [], alts := [], laidByText := true, laidKinds := [.handle, .data, .data, .data, .sentinel], laidTests := true, laidLooks := .later }
def UseropReadsUptoCardSaid : Prop := Claim7.holds Tryd.pinned (.plain (OpenSpec.upto useropReadsSpec)) useropReadsUptoCard
end Rows
end Go.Proofs.YtehhocoldpdijaaDoor
