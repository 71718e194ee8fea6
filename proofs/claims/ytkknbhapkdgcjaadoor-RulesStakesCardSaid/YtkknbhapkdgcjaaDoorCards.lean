/-
  DERIVED. GIVEN WITH THE SEED: THE CARDS: each row of YtkknbhapkdgcjaaDoorRows.lean that lists a variable, with what it lists TIED to the program's text (the seventh form; the later family's looks); each row that meets fmt, with fmt's text TOLD by the authors' own Lean function (tested against real Go, not proved from fmt's source: count such statements apart). THE CARD IS WHAT COUNTS. Prove the row's statement (the work); the ties are given (YtkknbhapkdgcjaaDoorTie.lean); close each card by the builder's one call (the guide's Derived/Test/ToyasCard.lean, 'card_holds'). Laid BY PROGRAM, IN A SANDBOX (cutbox-door.mjs). By AI agents, Wed Nov 11 2026. No macro, syntax, notation, axiom, sorry.
-/
import Derived.Test.YtkknbhapkdgcjaaDoorRows
import GoSem.ClaimSeven
namespace Go.Proofs.YtkknbhapkdgcjaaDoor
namespace Rows

/-- THE TIED CARD OF 'quaestorlaw17.RulesMore'. -/
def rulesMoreCard : Claim7 := { stood := { row := rulesMoreRow, standIns := [], harness := (true, "1736bc1c7ef0d21acd9bd10f9bdbc25cba89b77da8890352548dd748e989ef91"), looks := false }, kinds := [], alts := [], laidByText := true, laidKinds := [.data, .data, .data], laidTests := true, laidLooks := .later }
def RulesMoreCardSaid : Prop := Claim7.holds Tryd.pinned (.plain (OpenSpec.ofChange rulesMoreSpec)) rulesMoreCard

/-- THE TIED CARD OF 'quaestorlaw17.RulesQuiet'. -/
def rulesQuietCard : Claim7 := { stood := { row := rulesQuietRow, standIns := [], harness := (true, "1736bc1c7ef0d21acd9bd10f9bdbc25cba89b77da8890352548dd748e989ef91"), looks := false }, kinds := [], alts := [], laidByText := true, laidKinds := [.data, .data, .data], laidTests := true, laidLooks := .later }
def RulesQuietCardSaid : Prop := Claim7.holds Tryd.pinned (.plain (OpenSpec.ofChange rulesQuietSpec)) rulesQuietCard

/-- THE TIED CARD OF 'quaestorlaw17.RulesEach'. -/
def rulesEachCard : Claim7 := { stood := { row := rulesEachRow, standIns := [], harness := (true, "1736bc1c7ef0d21acd9bd10f9bdbc25cba89b77da8890352548dd748e989ef91"), looks := false }, kinds := [], alts := [], laidByText := true, laidKinds := [.data, .data, .data], laidTests := true, laidLooks := .later }
def RulesEachCardSaid : Prop := Claim7.holds Tryd.pinned (.plain (OpenSpec.ofChange rulesEachSpec)) rulesEachCard

/-- THE TIED CARD OF 'quaestorlaw17.RulesStakes'. -/
def rulesStakesCard : Claim7 := { stood := { row := rulesStakesRow, standIns := [], harness := (true, "1736bc1c7ef0d21acd9bd10f9bdbc25cba89b77da8890352548dd748e989ef91"), looks := false }, kinds := [], alts := [], laidByText := true, laidKinds := [.data, .data, .data], laidTests := true, laidLooks := .later }
def RulesStakesCardSaid : Prop := Claim7.holds Tryd.pinned (.plain (OpenSpec.ofChange rulesStakesSpec)) rulesStakesCard

/-- THE SECOND FORM's CARD OF 'quaestorlaw17.RulesMore'. -/
def rulesMoreUptoCard : Claim7 := { stood := { row := rulesMoreUptoRow, standIns := [], harness := (true, "1736bc1c7ef0d21acd9bd10f9bdbc25cba89b77da8890352548dd748e989ef91"), looks := false }, kinds := [], alts := [], laidByText := true, laidKinds := [.data, .data, .data], laidTests := true, laidLooks := .later }
def RulesMoreUptoCardSaid : Prop := Claim7.holds Tryd.pinned (.plain (OpenSpec.upto rulesMoreSpec)) rulesMoreUptoCard

/-- THE SECOND FORM's CARD OF 'quaestorlaw17.RulesQuiet'. -/
def rulesQuietUptoCard : Claim7 := { stood := { row := rulesQuietUptoRow, standIns := [], harness := (true, "1736bc1c7ef0d21acd9bd10f9bdbc25cba89b77da8890352548dd748e989ef91"), looks := false }, kinds := [], alts := [], laidByText := true, laidKinds := [.data, .data, .data], laidTests := true, laidLooks := .later }
def RulesQuietUptoCardSaid : Prop := Claim7.holds Tryd.pinned (.plain (OpenSpec.upto rulesQuietSpec)) rulesQuietUptoCard

/-- THE SECOND FORM's CARD OF 'quaestorlaw17.RulesEach'. -/
def rulesEachUptoCard : Claim7 := { stood := { row := rulesEachUptoRow, standIns := [], harness := (true, "1736bc1c7ef0d21acd9bd10f9bdbc25cba89b77da8890352548dd748e989ef91"), looks := false }, kinds := [], alts := [], laidByText := true, laidKinds := [.data, .data, .data], laidTests := true, laidLooks := .later }
def RulesEachUptoCardSaid : Prop := Claim7.holds Tryd.pinned (.plain (OpenSpec.upto rulesEachSpec)) rulesEachUptoCard

/-- THE SECOND FORM's CARD OF 'quaestorlaw17.RulesStakes'. -/
def rulesStakesUptoCard : Claim7 := { stood := { row := rulesStakesUptoRow, standIns := [], harness := (true, "1736bc1c7ef0d21acd9bd10f9bdbc25cba89b77da8890352548dd748e989ef91"), looks := false }, kinds := [], alts := [], laidByText := true, laidKinds := [.data, .data, .data], laidTests := true, laidLooks := .later }
def RulesStakesUptoCardSaid : Prop := Claim7.holds Tryd.pinned (.plain (OpenSpec.upto rulesStakesSpec)) rulesStakesUptoCard
end Rows
end Go.Proofs.YtkknbhapkdgcjaaDoor
