/-
  DERIVED. GIVEN WITH THE SEED: THE PROGRAM's TIES (one call each: nine closed facts by the kernel) AND EACH ROW's TIE, after the 31st guide's Derived/Test/Toyas{Tie, Card}.lean. No idea stands in it: it is a product of the set-up. Laid BY PROGRAM, IN A SANDBOX (cutbox-door.mjs). By AI agents, Wed Nov 11 2026. No macro, syntax, notation, axiom, sorry.
-/
import Derived.Test.YtkknbhapkdgcjaaGreatDoorRows
import Derived.LaidByTextLater
import Derived.SevenTiedAt
import Derived.LaidSub
import Derived.LaidOnce
namespace Go.Proofs.YtkknbhapkdgcjaaGreatDoor
open Go
set_option maxRecDepth 100000
theorem seatTie1 : Tryz.prog.laidByTextLater [("errors.errorType", Rows.laid_errors_errorType), ("quaestor/keccak.keys", Rows.laid_quaestor_keccak_keys), ("quaestor/keccak.turns", Rows.laid_quaestor_keccak_turns), ("quaestor/keccak.to", Rows.laid_quaestor_keccak_to), ("quaestor/abi.errEnd", Rows.laid_quaestor_abi_errEnd), ("quaestor/desk.errArgs", Rows.laid_quaestor_desk_errArgs), ("quaestor/desk.errValue", Rows.laid_quaestor_desk_errValue), ("quaestor/desk.errBook", Rows.laid_quaestor_desk_errBook)] [.handle, .data, .data, .data, .sentinel, .sentinel, .sentinel, .sentinel] true :=
  Program.laidByTextLater_by_one 107 8 25 (by kernel_rfl) (by kernel_rfl) (by kernel_rfl) (by kernel_rfl) (by kernel_rfl) (by kernel_rfl) (fun _ _ => by kernel_rfl)
theorem noOwnUnsafe : Tryz.pinned.checked.prog.headLifts.contains "ownunsafe" = false := by kernel_rfl
theorem tie : Tryz.prog.laidByTextLater [("errors.errorType", Rows.laid_errors_errorType), ("quaestor/keccak.keys", Rows.laid_quaestor_keccak_keys), ("quaestor/keccak.turns", Rows.laid_quaestor_keccak_turns), ("quaestor/keccak.to", Rows.laid_quaestor_keccak_to), ("quaestor/abi.errEnd", Rows.laid_quaestor_abi_errEnd), ("quaestor/desk.errArgs", Rows.laid_quaestor_desk_errArgs), ("quaestor/desk.errValue", Rows.laid_quaestor_desk_errValue), ("quaestor/desk.errBook", Rows.laid_quaestor_desk_errBook)] [.handle, .data, .data, .data, .sentinel, .sentinel, .sentinel, .sentinel] true :=
  Program.laidByTextLater.sub seatTie1 ["errors.errorType", "quaestor/keccak.keys", "quaestor/keccak.turns", "quaestor/keccak.to", "quaestor/abi.errEnd", "quaestor/desk.errArgs", "quaestor/desk.errValue", "quaestor/desk.errBook"] (by kernel_rfl) (by kernel_rfl)
theorem deskNonces_row_tie : Rows.deskNoncesRow.laidByTextAt .later Tryz.pinned [.handle, .data, .data, .data, .sentinel, .sentinel, .sentinel, .sentinel] true :=
  OpenClaim.laidByTextAt_later rfl rfl tie noOwnUnsafe
theorem deskCovers_row_tie : Rows.deskCoversRow.laidByTextAt .later Tryz.pinned [.handle, .data, .data, .data, .sentinel, .sentinel, .sentinel, .sentinel] true :=
  OpenClaim.laidByTextAt_later rfl rfl tie noOwnUnsafe
theorem deskNoncesUpto_row_tie : Rows.deskNoncesUptoRow.laidByTextAt .later Tryz.pinned [.handle, .data, .data, .data, .sentinel, .sentinel, .sentinel, .sentinel] true :=
  OpenClaim.laidByTextAt_later rfl rfl tie noOwnUnsafe
theorem deskCoversUpto_row_tie : Rows.deskCoversUptoRow.laidByTextAt .later Tryz.pinned [.handle, .data, .data, .data, .sentinel, .sentinel, .sentinel, .sentinel] true :=
  OpenClaim.laidByTextAt_later rfl rfl tie noOwnUnsafe
end Go.Proofs.YtkknbhapkdgcjaaGreatDoor
