/-
  NARROWER THAN 'FOR EVERY INPUT', by the rows' own cells (each row's printed sentence says how): DeskNonces: laid · DeskCovers: laid.
  DERIVED. THE GIVEN ROWS OF THIS SEAT. 2 by the template 'for every input the law returns true; each argument reads behind the call as it read before'; 0 by the template 'total and deterministic' (their statements: YtkknbhapkdgcjaaGreatDoorTotals.lean).
  GIVEN WITH THE SEED: the statements are not yours to turn. If you find one false, say at which input.
  Laid BY PROGRAM, IN A SANDBOX (cutbox-rows.mjs): the forced cells as the released guide's own fill.sh prints them over the translation d065a89fba69ac42… (all of the seat's roots in one cut). By AI agents, Wed Nov 11 2026. No macro, syntax, notation, axiom, sorry.
-/
import Derived.Test.YtkknbhapkdgcjaaGreatDoorChecked
import GoSem.Claim
import GoSem.ClaimJoined
import GoSem.ClaimMapViews
import Derived.JoinedTies
import Derived.KernelRfl
namespace Go.Proofs.YtkknbhapkdgcjaaGreatDoor
/- THE CELL 'sum', in the pinned program and in every row, IS THE sha256 OF THE DUMP (.gsa) THAT YtkknbhapkdgcjaaGreatDoorProg.lean LOADS. Nothing in Lean hashes anything: it is a label: what it is worth is what the hold of that sum in a sandbox is worth. -/
noncomputable def Tryz.pinned : Pinned := { name := "ytkknbhapkdgcjaagreatdoor", sum := "d065a89fba69ac4266df2c005635bc9689095b209335d3a418093093780ff466", checked := Tryz.checked }
namespace Rows
def none {H : Type} : Left H := { results := [], args := [] }

/- WHAT THE LISTED PACKAGE-LEVEL VARIABLES READ AS WHEN THE CALL BEGINS. Each datum BY PROGRAM (the guide's laid-datum.mjs) off the statement by which the dump's own 'gosem.cut.vars' lays the variable. In a bare row this is a premise. The card (YtkknbhapkdgcjaaGreatDoorCards.lean) ties it to the program's text. -/
def laid_errors_errorType {H : Type} : DataW H := .iface "internal/reflectlite.rtype" (.agg [.ptr (.lit (.string [101, 114, 114, 111, 114]))])
def laid_quaestor_keccak_keys {H : Type} : DataW H := .agg [.lit (.int .u64 1), .lit (.int .u64 32898), .lit (.int .u64 9223372036854808714), .lit (.int .u64 9223372039002292224), .lit (.int .u64 32907), .lit (.int .u64 2147483649), .lit (.int .u64 9223372039002292353), .lit (.int .u64 9223372036854808585), .lit (.int .u64 138), .lit (.int .u64 136), .lit (.int .u64 2147516425), .lit (.int .u64 2147483658), .lit (.int .u64 2147516555), .lit (.int .u64 9223372036854775947), .lit (.int .u64 9223372036854808713), .lit (.int .u64 9223372036854808579), .lit (.int .u64 9223372036854808578), .lit (.int .u64 9223372036854775936), .lit (.int .u64 32778), .lit (.int .u64 9223372039002259466), .lit (.int .u64 9223372039002292353), .lit (.int .u64 9223372036854808704), .lit (.int .u64 2147483649), .lit (.int .u64 9223372039002292232)]
def laid_quaestor_keccak_turns {H : Type} : DataW H := .agg [.lit (.int .i64 1), .lit (.int .i64 3), .lit (.int .i64 6), .lit (.int .i64 10), .lit (.int .i64 15), .lit (.int .i64 21), .lit (.int .i64 28), .lit (.int .i64 36), .lit (.int .i64 45), .lit (.int .i64 55), .lit (.int .i64 2), .lit (.int .i64 14), .lit (.int .i64 27), .lit (.int .i64 41), .lit (.int .i64 56), .lit (.int .i64 8), .lit (.int .i64 25), .lit (.int .i64 43), .lit (.int .i64 62), .lit (.int .i64 18), .lit (.int .i64 39), .lit (.int .i64 61), .lit (.int .i64 20), .lit (.int .i64 44)]
def laid_quaestor_keccak_to {H : Type} : DataW H := .agg [.lit (.int .i64 10), .lit (.int .i64 7), .lit (.int .i64 11), .lit (.int .i64 17), .lit (.int .i64 18), .lit (.int .i64 3), .lit (.int .i64 5), .lit (.int .i64 16), .lit (.int .i64 8), .lit (.int .i64 21), .lit (.int .i64 24), .lit (.int .i64 4), .lit (.int .i64 15), .lit (.int .i64 23), .lit (.int .i64 19), .lit (.int .i64 13), .lit (.int .i64 12), .lit (.int .i64 2), .lit (.int .i64 20), .lit (.int .i64 14), .lit (.int .i64 22), .lit (.int .i64 9), .lit (.int .i64 6), .lit (.int .i64 1)]
def laid_quaestor_abi_errEnd {H : Type} : DataW H := .iface "*errors.errorString" (.ptr (.agg [.lit (.string [98, 101, 121, 111, 110, 100, 32, 116, 104, 101, 32, 101, 110, 100])]))
def laid_quaestor_desk_errArgs {H : Type} : DataW H := .iface "*errors.errorString" (.ptr (.agg [.lit (.string [97, 114, 103, 117, 109, 101, 110, 116, 115])]))
def laid_quaestor_desk_errValue {H : Type} : DataW H := .iface "*errors.errorString" (.ptr (.agg [.lit (.string [118, 97, 108, 117, 101, 44, 32, 111, 114, 32, 97, 32, 115, 116, 97, 116, 105, 99, 32, 99, 97, 108, 108])]))
def laid_quaestor_desk_errBook {H : Type} : DataW H := .iface "*errors.errorString" (.ptr (.agg [.lit (.string [110, 111, 116, 32, 98, 121, 32, 116, 104, 101, 32, 98, 111, 111, 107, 115])]))

/-- 'quaestorlaw12.DeskNonces': WHATEVER THE INPUT: true; the input reads as it did. -/
def deskNoncesSpec : ChangeSpec := { name := "deskNonces", fn := fun _ => fun
  | [d1, d2, d3, d4, d5] => { results := [.lit (.bool true)], args := [d1, d2, d3, d4, d5] }
  | _ => none }
def deskNoncesRow : OpenClaim := { program := "ytkknbhapkdgcjaagreatdoor", sum := "d065a89fba69ac4266df2c005635bc9689095b209335d3a418093093780ff466", func := "quaestor/quaestorlaw12.DeskNonces", spec := "deskNonces", inPlace := ["math/bits.Add64", "internal/reflectlite.ValueOf", "(internal/reflectlite.Value).Type", "(internal/reflectlite.Value).IsNil", "internal/reflectlite.TypeOf", "(internal/reflectlite.Value).Elem", "(internal/reflectlite.Value).Set", "math/bits.Sub64"], unfollowed := true, recurses := true, named := ["quaestor/desk.errArgs", "quaestor/desk.errValue", "quaestor/desk.errBook", "quaestor/keccak.keys", "quaestor/keccak.to", "quaestor/keccak.turns", "quaestor/abi.errEnd", "errors.errorType"], plainKeys := false, apart := false, laid := [("errors.errorType", laid_errors_errorType), ("quaestor/keccak.keys", laid_quaestor_keccak_keys), ("quaestor/keccak.turns", laid_quaestor_keccak_turns), ("quaestor/keccak.to", laid_quaestor_keccak_to), ("quaestor/abi.errEnd", laid_quaestor_abi_errEnd), ("quaestor/desk.errArgs", laid_quaestor_desk_errArgs), ("quaestor/desk.errValue", laid_quaestor_desk_errValue), ("quaestor/desk.errBook", laid_quaestor_desk_errBook)] }
def DeskNoncesSaid : Prop := deskNoncesRow.holds Tryz.pinned (OpenSpec.ofChange deskNoncesSpec)

/-- ITS FALSE NEIGHBOUR: 'it returns false'. Refute it at one input. -/
def deskNoncesWrong : ChangeSpec := { name := "deskNonces", fn := fun _ => fun
  | [d1, d2, d3, d4, d5] => { results := [.lit (.bool false)], args := [d1, d2, d3, d4, d5] }
  | _ => none }
def DeskNoncesWrongFalsely : Prop := deskNoncesRow.holds Tryz.pinned (OpenSpec.ofChange deskNoncesWrong)

/-- 'quaestorlaw12.DeskCovers': WHATEVER THE INPUT: true; the input reads as it did. -/
def deskCoversSpec : ChangeSpec := { name := "deskCovers", fn := fun _ => fun
  | [d] => { results := [.lit (.bool true)], args := [d] }
  | _ => none }
def deskCoversRow : OpenClaim := { program := "ytkknbhapkdgcjaagreatdoor", sum := "d065a89fba69ac4266df2c005635bc9689095b209335d3a418093093780ff466", func := "quaestor/quaestorlaw12.DeskCovers", spec := "deskCovers", inPlace := ["math/bits.Add64", "internal/reflectlite.ValueOf", "(internal/reflectlite.Value).Type", "(internal/reflectlite.Value).IsNil", "internal/reflectlite.TypeOf", "(internal/reflectlite.Value).Elem", "(internal/reflectlite.Value).Set", "math/bits.Sub64"], unfollowed := true, recurses := true, named := ["quaestor/desk.errArgs", "quaestor/desk.errValue", "quaestor/desk.errBook", "quaestor/keccak.keys", "quaestor/keccak.to", "quaestor/keccak.turns", "quaestor/abi.errEnd", "errors.errorType"], plainKeys := false, apart := false, laid := [("errors.errorType", laid_errors_errorType), ("quaestor/keccak.keys", laid_quaestor_keccak_keys), ("quaestor/keccak.turns", laid_quaestor_keccak_turns), ("quaestor/keccak.to", laid_quaestor_keccak_to), ("quaestor/abi.errEnd", laid_quaestor_abi_errEnd), ("quaestor/desk.errArgs", laid_quaestor_desk_errArgs), ("quaestor/desk.errValue", laid_quaestor_desk_errValue), ("quaestor/desk.errBook", laid_quaestor_desk_errBook)] }
def DeskCoversSaid : Prop := deskCoversRow.holds Tryz.pinned (OpenSpec.ofChange deskCoversSpec)

/-- ITS FALSE NEIGHBOUR: 'it returns false'. Refute it at one input. -/
def deskCoversWrong : ChangeSpec := { name := "deskCovers", fn := fun _ => fun
  | [d] => { results := [.lit (.bool false)], args := [d] }
  | _ => none }
def DeskCoversWrongFalsely : Prop := deskCoversRow.holds Tryz.pinned (OpenSpec.ofChange deskCoversWrong)

/- THE SECOND FORM. 'bulk': how many values and letters a reading holds, each counted each time it is reached (what is shared counts as often as it is met; a slice's spare places count too). A statement '..UptoSaid' is the law's where the arguments, and the package variables that the reading takes, are together of bulk at most 1048576: NARROWER than '..Said'. Prove '..Said' where nothing that the law and all that it calls make is longer than what came in: it says more and counts as full. Else prove '..UptoSaid'. A law counts once. -/
mutual
def uptoBulk {H : Type} : DataW H → Nat
  | .lit (.string bytes) => bytes.length + 1
  | .lit _ => 1
  | .nil => 1
  | .ptr d => uptoBulk d + 1
  | .slice elems spare => uptoBulkAll elems + uptoBulkAll spare + 1
  | .agg parts => uptoBulkAll parts + 1
  | .iface _ d => uptoBulk d + 1
  | .map entries => uptoBulkEntries entries + 1
  | .held _ => 1
def uptoBulkAll {H : Type} : List (DataW H) → Nat
  | [] => 0
  | d :: r => uptoBulk d + uptoBulkAll r
def uptoBulkEntries {H : Type} : List (Lit × DataW H) → Nat
  | [] => 0
  | x :: r => uptoBulkEntry x + uptoBulkEntries r
def uptoBulkEntry {H : Type} : Lit × DataW H → Nat
  | (.string bytes, d) => bytes.length + uptoBulk d + 1
  | (_, d) => uptoBulk d + 1
 end
def uptoSmall : (H : Type) → List (DataW H) → Bool := fun _ ds => decide (uptoBulkAll ds ≤ 1048576)
def OpenSpec.upto (s : _root_.Go.ChangeSpec) : _root_.Go.OpenSpec := { _root_.Go.OpenSpec.ofChange s with cond := some uptoSmall }

/-- 'quaestorlaw12.DeskNonces', WHERE WHAT IT READS IS OF BULK AT MOST 1048576: true; the input reads as it did. -/
def deskNoncesUptoRow : OpenClaim := { program := "ytkknbhapkdgcjaagreatdoor", sum := "d065a89fba69ac4266df2c005635bc9689095b209335d3a418093093780ff466", func := "quaestor/quaestorlaw12.DeskNonces", spec := "deskNonces", inPlace := ["math/bits.Add64", "internal/reflectlite.ValueOf", "(internal/reflectlite.Value).Type", "(internal/reflectlite.Value).IsNil", "internal/reflectlite.TypeOf", "(internal/reflectlite.Value).Elem", "(internal/reflectlite.Value).Set", "math/bits.Sub64"], unfollowed := true, recurses := true, named := ["quaestor/desk.errArgs", "quaestor/desk.errValue", "quaestor/desk.errBook", "quaestor/keccak.keys", "quaestor/keccak.to", "quaestor/keccak.turns", "quaestor/abi.errEnd", "errors.errorType"], plainKeys := false, apart := false, laid := [("errors.errorType", laid_errors_errorType), ("quaestor/keccak.keys", laid_quaestor_keccak_keys), ("quaestor/keccak.turns", laid_quaestor_keccak_turns), ("quaestor/keccak.to", laid_quaestor_keccak_to), ("quaestor/abi.errEnd", laid_quaestor_abi_errEnd), ("quaestor/desk.errArgs", laid_quaestor_desk_errArgs), ("quaestor/desk.errValue", laid_quaestor_desk_errValue), ("quaestor/desk.errBook", laid_quaestor_desk_errBook)], narrowed := true }
def DeskNoncesUptoSaid : Prop := deskNoncesUptoRow.holds Tryz.pinned (OpenSpec.upto deskNoncesSpec)

/-- 'quaestorlaw12.DeskCovers', WHERE WHAT IT READS IS OF BULK AT MOST 1048576: true; the input reads as it did. -/
def deskCoversUptoRow : OpenClaim := { program := "ytkknbhapkdgcjaagreatdoor", sum := "d065a89fba69ac4266df2c005635bc9689095b209335d3a418093093780ff466", func := "quaestor/quaestorlaw12.DeskCovers", spec := "deskCovers", inPlace := ["math/bits.Add64", "internal/reflectlite.ValueOf", "(internal/reflectlite.Value).Type", "(internal/reflectlite.Value).IsNil", "internal/reflectlite.TypeOf", "(internal/reflectlite.Value).Elem", "(internal/reflectlite.Value).Set", "math/bits.Sub64"], unfollowed := true, recurses := true, named := ["quaestor/desk.errArgs", "quaestor/desk.errValue", "quaestor/desk.errBook", "quaestor/keccak.keys", "quaestor/keccak.to", "quaestor/keccak.turns", "quaestor/abi.errEnd", "errors.errorType"], plainKeys := false, apart := false, laid := [("errors.errorType", laid_errors_errorType), ("quaestor/keccak.keys", laid_quaestor_keccak_keys), ("quaestor/keccak.turns", laid_quaestor_keccak_turns), ("quaestor/keccak.to", laid_quaestor_keccak_to), ("quaestor/abi.errEnd", laid_quaestor_abi_errEnd), ("quaestor/desk.errArgs", laid_quaestor_desk_errArgs), ("quaestor/desk.errValue", laid_quaestor_desk_errValue), ("quaestor/desk.errBook", laid_quaestor_desk_errBook)], narrowed := true }
def DeskCoversUptoSaid : Prop := deskCoversUptoRow.holds Tryz.pinned (OpenSpec.upto deskCoversSpec)

end Rows
end Go.Proofs.YtkknbhapkdgcjaaGreatDoor
