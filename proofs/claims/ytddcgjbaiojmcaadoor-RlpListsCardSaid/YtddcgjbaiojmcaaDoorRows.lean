/-
  NARROWER THAN 'FOR EVERY INPUT', by the rows' own cells (each row's printed sentence says how): RlpEncodes: loops, laid · RlpDecodes: laid · RlpBack: loops, laid · RlpOne: laid · RlpLists: loops, laid · RlpNumbers: laid.
  DERIVED. THE GIVEN ROWS OF THIS SEAT. 6 by the template 'for every input the law returns true; each argument reads behind the call as it read before'; 0 by the template 'total and deterministic' (their statements: YtddcgjbaiojmcaaDoorTotals.lean).
  GIVEN WITH THE SEED: the statements are not yours to turn. If you find one false, say at which input.
  Laid BY PROGRAM, IN A SANDBOX (cutbox-rows.mjs): the forced cells as the released guide's own fill.sh prints them over the translation 0e57d045cf4cab4d… (all of the seat's roots in one cut). By AI agents, Wed Nov 11 2026. No macro, syntax, notation, axiom, sorry.
-/
import Derived.Test.YtddcgjbaiojmcaaDoorChecked
import GoSem.Claim
import GoSem.ClaimJoined
import GoSem.ClaimMapViews
import Derived.JoinedTies
import Derived.KernelRfl
namespace Go.Proofs.YtddcgjbaiojmcaaDoor
/- THE CELL 'sum', in the pinned program and in every row, IS THE sha256 OF THE DUMP (.gsa) THAT YtddcgjbaiojmcaaDoorProg.lean LOADS. Nothing in Lean hashes anything: it is a label: what it is worth is what the hold of that sum in a sandbox is worth. -/
noncomputable def Tryd.pinned : Pinned := { name := "ytddcgjbaiojmcaadoor", sum := "0e57d045cf4cab4d029dd7ebb52a37ab8357170291392c57610d96deac567a28", checked := Tryd.checked }
namespace Rows
def none {H : Type} : Left H := { results := [], args := [] }

/- WHAT THE LISTED PACKAGE-LEVEL VARIABLES READ AS WHEN THE CALL BEGINS. Each datum BY PROGRAM (the guide's laid-datum.mjs) off the statement by which the dump's own 'gosem.cut.vars' lays the variable. In a bare row this is a premise. The card (YtddcgjbaiojmcaaDoorCards.lean) ties it to the program's text. -/
def laid_quaestor_rlp_errShort {H : Type} : DataW H := .iface "*errors.errorString" (.ptr (.agg [.lit (.string [105, 116, 32, 101, 110, 100, 115, 32, 116, 111, 111, 32, 101, 97, 114, 108, 121])]))
def laid_quaestor_rlp_errForm {H : Type} : DataW H := .iface "*errors.errorString" (.ptr (.agg [.lit (.string [105, 116, 32, 104, 97, 115, 32, 97, 110, 111, 116, 104, 101, 114, 32, 102, 111, 114, 109])]))
def laid_quaestor_rlp_errDeep {H : Type} : DataW H := .iface "*errors.errorString" (.ptr (.agg [.lit (.string [105, 116, 32, 105, 115, 32, 116, 111, 111, 32, 100, 101, 101, 112])]))

/-- 'quaestorlaw04.RlpEncodes': WHATEVER THE INPUT: true; the input reads as it did. -/
def rlpEncodesSpec : ChangeSpec := { name := "rlpEncodes", fn := fun _ => fun
  | [d1, d2] => { results := [.lit (.bool true)], args := [d1, d2] }
  | _ => none }
def rlpEncodesRow : OpenClaim := { program := "ytddcgjbaiojmcaadoor", sum := "0e57d045cf4cab4d029dd7ebb52a37ab8357170291392c57610d96deac567a28", func := "quaestor/quaestorlaw04.RlpEncodes", spec := "rlpEncodes", inPlace := ["internal/reflectlite.TypeOf"], unfollowed := true, recurses := true, named := ["quaestor/rlp.errShort", "quaestor/rlp.errForm", "quaestor/rlp.errDeep"], loops := true, apart := false, laid := [("quaestor/rlp.errShort", laid_quaestor_rlp_errShort), ("quaestor/rlp.errForm", laid_quaestor_rlp_errForm), ("quaestor/rlp.errDeep", laid_quaestor_rlp_errDeep)] }
def RlpEncodesSaid : Prop := rlpEncodesRow.holds Tryd.pinned (OpenSpec.ofChange rlpEncodesSpec)

/-- ITS FALSE NEIGHBOUR: 'it returns false'. Refute it at one input. -/
def rlpEncodesWrong : ChangeSpec := { name := "rlpEncodes", fn := fun _ => fun
  | [d1, d2] => { results := [.lit (.bool false)], args := [d1, d2] }
  | _ => none }
def RlpEncodesWrongFalsely : Prop := rlpEncodesRow.holds Tryd.pinned (OpenSpec.ofChange rlpEncodesWrong)

/-- 'quaestorlaw04.RlpDecodes': WHATEVER THE INPUT: true; the input reads as it did. -/
def rlpDecodesSpec : ChangeSpec := { name := "rlpDecodes", fn := fun _ => fun
  | [d] => { results := [.lit (.bool true)], args := [d] }
  | _ => none }
def rlpDecodesRow : OpenClaim := { program := "ytddcgjbaiojmcaadoor", sum := "0e57d045cf4cab4d029dd7ebb52a37ab8357170291392c57610d96deac567a28", func := "quaestor/quaestorlaw04.RlpDecodes", spec := "rlpDecodes", inPlace := ["internal/reflectlite.TypeOf"], unfollowed := true, recurses := true, named := ["quaestor/rlp.errShort", "quaestor/rlp.errForm", "quaestor/rlp.errDeep"], apart := false, laid := [("quaestor/rlp.errShort", laid_quaestor_rlp_errShort), ("quaestor/rlp.errForm", laid_quaestor_rlp_errForm), ("quaestor/rlp.errDeep", laid_quaestor_rlp_errDeep)] }
def RlpDecodesSaid : Prop := rlpDecodesRow.holds Tryd.pinned (OpenSpec.ofChange rlpDecodesSpec)

/-- ITS FALSE NEIGHBOUR: 'it returns false'. Refute it at one input. -/
def rlpDecodesWrong : ChangeSpec := { name := "rlpDecodes", fn := fun _ => fun
  | [d] => { results := [.lit (.bool false)], args := [d] }
  | _ => none }
def RlpDecodesWrongFalsely : Prop := rlpDecodesRow.holds Tryd.pinned (OpenSpec.ofChange rlpDecodesWrong)

/-- 'quaestorlaw04.RlpBack': WHATEVER THE INPUT: true; the input reads as it did. -/
def rlpBackSpec : ChangeSpec := { name := "rlpBack", fn := fun _ => fun
  | [d1, d2] => { results := [.lit (.bool true)], args := [d1, d2] }
  | _ => none }
def rlpBackRow : OpenClaim := { program := "ytddcgjbaiojmcaadoor", sum := "0e57d045cf4cab4d029dd7ebb52a37ab8357170291392c57610d96deac567a28", func := "quaestor/quaestorlaw04.RlpBack", spec := "rlpBack", inPlace := ["internal/reflectlite.TypeOf"], unfollowed := true, recurses := true, named := ["quaestor/rlp.errShort", "quaestor/rlp.errForm", "quaestor/rlp.errDeep"], loops := true, apart := false, laid := [("quaestor/rlp.errShort", laid_quaestor_rlp_errShort), ("quaestor/rlp.errForm", laid_quaestor_rlp_errForm), ("quaestor/rlp.errDeep", laid_quaestor_rlp_errDeep)] }
def RlpBackSaid : Prop := rlpBackRow.holds Tryd.pinned (OpenSpec.ofChange rlpBackSpec)

/-- ITS FALSE NEIGHBOUR: 'it returns false'. Refute it at one input. -/
def rlpBackWrong : ChangeSpec := { name := "rlpBack", fn := fun _ => fun
  | [d1, d2] => { results := [.lit (.bool false)], args := [d1, d2] }
  | _ => none }
def RlpBackWrongFalsely : Prop := rlpBackRow.holds Tryd.pinned (OpenSpec.ofChange rlpBackWrong)

/-- 'quaestorlaw04.RlpOne': WHATEVER THE INPUT: true; the input reads as it did. -/
def rlpOneSpec : ChangeSpec := { name := "rlpOne", fn := fun _ => fun
  | [d] => { results := [.lit (.bool true)], args := [d] }
  | _ => none }
def rlpOneRow : OpenClaim := { program := "ytddcgjbaiojmcaadoor", sum := "0e57d045cf4cab4d029dd7ebb52a37ab8357170291392c57610d96deac567a28", func := "quaestor/quaestorlaw04.RlpOne", spec := "rlpOne", inPlace := ["internal/reflectlite.TypeOf"], unfollowed := true, recurses := true, named := ["quaestor/rlp.errShort", "quaestor/rlp.errForm", "quaestor/rlp.errDeep"], apart := false, laid := [("quaestor/rlp.errShort", laid_quaestor_rlp_errShort), ("quaestor/rlp.errForm", laid_quaestor_rlp_errForm), ("quaestor/rlp.errDeep", laid_quaestor_rlp_errDeep)] }
def RlpOneSaid : Prop := rlpOneRow.holds Tryd.pinned (OpenSpec.ofChange rlpOneSpec)

/-- ITS FALSE NEIGHBOUR: 'it returns false'. Refute it at one input. -/
def rlpOneWrong : ChangeSpec := { name := "rlpOne", fn := fun _ => fun
  | [d] => { results := [.lit (.bool false)], args := [d] }
  | _ => none }
def RlpOneWrongFalsely : Prop := rlpOneRow.holds Tryd.pinned (OpenSpec.ofChange rlpOneWrong)

/-- 'quaestorlaw04.RlpLists': WHATEVER THE INPUT: true; the input reads as it did. -/
def rlpListsSpec : ChangeSpec := { name := "rlpLists", fn := fun _ => fun
  | [d1, d2] => { results := [.lit (.bool true)], args := [d1, d2] }
  | _ => none }
def rlpListsRow : OpenClaim := { program := "ytddcgjbaiojmcaadoor", sum := "0e57d045cf4cab4d029dd7ebb52a37ab8357170291392c57610d96deac567a28", func := "quaestor/quaestorlaw04.RlpLists", spec := "rlpLists", inPlace := ["internal/reflectlite.TypeOf"], unfollowed := true, recurses := true, named := ["quaestor/rlp.errShort", "quaestor/rlp.errForm", "quaestor/rlp.errDeep"], loops := true, apart := false, laid := [("quaestor/rlp.errShort", laid_quaestor_rlp_errShort), ("quaestor/rlp.errForm", laid_quaestor_rlp_errForm), ("quaestor/rlp.errDeep", laid_quaestor_rlp_errDeep)] }
def RlpListsSaid : Prop := rlpListsRow.holds Tryd.pinned (OpenSpec.ofChange rlpListsSpec)

/-- ITS FALSE NEIGHBOUR: 'it returns false'. Refute it at one input. -/
def rlpListsWrong : ChangeSpec := { name := "rlpLists", fn := fun _ => fun
  | [d1, d2] => { results := [.lit (.bool false)], args := [d1, d2] }
  | _ => none }
def RlpListsWrongFalsely : Prop := rlpListsRow.holds Tryd.pinned (OpenSpec.ofChange rlpListsWrong)

/-- 'quaestorlaw04.RlpNumbers': WHATEVER THE INPUT: true; the input reads as it did. -/
def rlpNumbersSpec : ChangeSpec := { name := "rlpNumbers", fn := fun _ => fun
  | [d] => { results := [.lit (.bool true)], args := [d] }
  | _ => none }
def rlpNumbersRow : OpenClaim := { program := "ytddcgjbaiojmcaadoor", sum := "0e57d045cf4cab4d029dd7ebb52a37ab8357170291392c57610d96deac567a28", func := "quaestor/quaestorlaw04.RlpNumbers", spec := "rlpNumbers", inPlace := ["internal/reflectlite.TypeOf"], unfollowed := true, recurses := true, named := ["quaestor/rlp.errShort", "quaestor/rlp.errForm", "quaestor/rlp.errDeep"], apart := false, laid := [("quaestor/rlp.errShort", laid_quaestor_rlp_errShort), ("quaestor/rlp.errForm", laid_quaestor_rlp_errForm), ("quaestor/rlp.errDeep", laid_quaestor_rlp_errDeep)] }
def RlpNumbersSaid : Prop := rlpNumbersRow.holds Tryd.pinned (OpenSpec.ofChange rlpNumbersSpec)

/-- ITS FALSE NEIGHBOUR: 'it returns false'. Refute it at one input. -/
def rlpNumbersWrong : ChangeSpec := { name := "rlpNumbers", fn := fun _ => fun
  | [d] => { results := [.lit (.bool false)], args := [d] }
  | _ => none }
def RlpNumbersWrongFalsely : Prop := rlpNumbersRow.holds Tryd.pinned (OpenSpec.ofChange rlpNumbersWrong)

/- THE SECOND FORM. 'bulk': how many values and letters a reading holds, each counted each time it is reached (what is shared counts as often as it is met; a slice's spare places count too). A statement '..UptoSaid' is the law's where the arguments, and the package variables that the reading takes, are together of bulk at most 1048576: NARROWER than '..Said'. Prove '..Said' where nothing that the law and all that it calls make is longer than what came in: it says more and counts as full. Else prove '..UptoSaid'. A law counts once. -/
mutual
def uptoBulk {H : Type} : DataW H → Nat
  | .lit (.string bytes) => bytes.length + 1
  | .lit _ => 1
  | .nil => 1
  | .ptr d => uptoBulk d + 1
  | .slice elems spare => uptoBulkAll elems + uptoBulkAll spare + 1
  | .agg parts => uptoBulkAll parts + 1
  | .iface _ d => uptoBulk d + 1
  | .map entries => uptoBulkEntries entries + 1
  | .held _ => 1
def uptoBulkAll {H : Type} : List (DataW H) → Nat
  | [] => 0
  | d :: r => uptoBulk d + uptoBulkAll r
def uptoBulkEntries {H : Type} : List (Lit × DataW H) → Nat
  | [] => 0
  | x :: r => uptoBulkEntry x + uptoBulkEntries r
def uptoBulkEntry {H : Type} : Lit × DataW H → Nat
  | (.string bytes, d) => bytes.length + uptoBulk d + 1
  | (_, d) => uptoBulk d + 1
 end
def uptoSmall : (H : Type) → List (DataW H) → Bool := fun _ ds => decide (uptoBulkAll ds ≤ 1048576)
def OpenSpec.upto (s : _root_.Go.ChangeSpec) : _root_.Go.OpenSpec := { _root_.Go.OpenSpec.ofChange s with cond := some uptoSmall }

/-- 'quaestorlaw04.RlpEncodes', WHERE WHAT IT READS IS OF BULK AT MOST 1048576: true; the input reads as it did. -/
def rlpEncodesUptoRow : OpenClaim := { program := "ytddcgjbaiojmcaadoor", sum := "0e57d045cf4cab4d029dd7ebb52a37ab8357170291392c57610d96deac567a28", func := "quaestor/quaestorlaw04.RlpEncodes", spec := "rlpEncodes", inPlace := ["internal/reflectlite.TypeOf"], unfollowed := true, recurses := true, named := ["quaestor/rlp.errShort", "quaestor/rlp.errForm", "quaestor/rlp.errDeep"], loops := true, apart := false, laid := [("quaestor/rlp.errShort", laid_quaestor_rlp_errShort), ("quaestor/rlp.errForm", laid_quaestor_rlp_errForm), ("quaestor/rlp.errDeep", laid_quaestor_rlp_errDeep)], narrowed := true }
def RlpEncodesUptoSaid : Prop := rlpEncodesUptoRow.holds Tryd.pinned (OpenSpec.upto rlpEncodesSpec)

/-- 'quaestorlaw04.RlpDecodes', WHERE WHAT IT READS IS OF BULK AT MOST 1048576: true; the input reads as it did. -/
def rlpDecodesUptoRow : OpenClaim := { program := "ytddcgjbaiojmcaadoor", sum := "0e57d045cf4cab4d029dd7ebb52a37ab8357170291392c57610d96deac567a28", func := "quaestor/quaestorlaw04.RlpDecodes", spec := "rlpDecodes", inPlace := ["internal/reflectlite.TypeOf"], unfollowed := true, recurses := true, named := ["quaestor/rlp.errShort", "quaestor/rlp.errForm", "quaestor/rlp.errDeep"], apart := false, laid := [("quaestor/rlp.errShort", laid_quaestor_rlp_errShort), ("quaestor/rlp.errForm", laid_quaestor_rlp_errForm), ("quaestor/rlp.errDeep", laid_quaestor_rlp_errDeep)], narrowed := true }
def RlpDecodesUptoSaid : Prop := rlpDecodesUptoRow.holds Tryd.pinned (OpenSpec.upto rlpDecodesSpec)

/-- 'quaestorlaw04.RlpBack', WHERE WHAT IT READS IS OF BULK AT MOST 1048576: true; the input reads as it did. -/
def rlpBackUptoRow : OpenClaim := { program := "ytddcgjbaiojmcaadoor", sum := "0e57d045cf4cab4d029dd7ebb52a37ab8357170291392c57610d96deac567a28", func := "quaestor/quaestorlaw04.RlpBack", spec := "rlpBack", inPlace := ["internal/reflectlite.TypeOf"], unfollowed := true, recurses := true, named := ["quaestor/rlp.errShort", "quaestor/rlp.errForm", "quaestor/rlp.errDeep"], loops := true, apart := false, laid := [("quaestor/rlp.errShort", laid_quaestor_rlp_errShort), ("quaestor/rlp.errForm", laid_quaestor_rlp_errForm), ("quaestor/rlp.errDeep", laid_quaestor_rlp_errDeep)], narrowed := true }
def RlpBackUptoSaid : Prop := rlpBackUptoRow.holds Tryd.pinned (OpenSpec.upto rlpBackSpec)

/-- 'quaestorlaw04.RlpOne', WHERE WHAT IT READS IS OF BULK AT MOST 1048576: true; the input reads as it did. -/
def rlpOneUptoRow : OpenClaim := { program := "ytddcgjbaiojmcaadoor", sum := "0e57d045cf4cab4d029dd7ebb52a37ab8357170291392c57610d96deac567a28", func := "quaestor/quaestorlaw04.RlpOne", spec := "rlpOne", inPlace := ["internal/reflectlite.TypeOf"], unfollowed := true, recurses := true, named := ["quaestor/rlp.errShort", "quaestor/rlp.errForm", "quaestor/rlp.errDeep"], apart := false, laid := [("quaestor/rlp.errShort", laid_quaestor_rlp_errShort), ("quaestor/rlp.errForm", laid_quaestor_rlp_errForm), ("quaestor/rlp.errDeep", laid_quaestor_rlp_errDeep)], narrowed := true }
def RlpOneUptoSaid : Prop := rlpOneUptoRow.holds Tryd.pinned (OpenSpec.upto rlpOneSpec)

/-- 'quaestorlaw04.RlpLists', WHERE WHAT IT READS IS OF BULK AT MOST 1048576: true; the input reads as it did. -/
def rlpListsUptoRow : OpenClaim := { program := "ytddcgjbaiojmcaadoor", sum := "0e57d045cf4cab4d029dd7ebb52a37ab8357170291392c57610d96deac567a28", func := "quaestor/quaestorlaw04.RlpLists", spec := "rlpLists", inPlace := ["internal/reflectlite.TypeOf"], unfollowed := true, recurses := true, named := ["quaestor/rlp.errShort", "quaestor/rlp.errForm", "quaestor/rlp.errDeep"], loops := true, apart := false, laid := [("quaestor/rlp.errShort", laid_quaestor_rlp_errShort), ("quaestor/rlp.errForm", laid_quaestor_rlp_errForm), ("quaestor/rlp.errDeep", laid_quaestor_rlp_errDeep)], narrowed := true }
def RlpListsUptoSaid : Prop := rlpListsUptoRow.holds Tryd.pinned (OpenSpec.upto rlpListsSpec)

/-- 'quaestorlaw04.RlpNumbers', WHERE WHAT IT READS IS OF BULK AT MOST 1048576: true; the input reads as it did. -/
def rlpNumbersUptoRow : OpenClaim := { program := "ytddcgjbaiojmcaadoor", sum := "0e57d045cf4cab4d029dd7ebb52a37ab8357170291392c57610d96deac567a28", func := "quaestor/quaestorlaw04.RlpNumbers", spec := "rlpNumbers", inPlace := ["internal/reflectlite.TypeOf"], unfollowed := true, recurses := true, named := ["quaestor/rlp.errShort", "quaestor/rlp.errForm", "quaestor/rlp.errDeep"], apart := false, laid := [("quaestor/rlp.errShort", laid_quaestor_rlp_errShort), ("quaestor/rlp.errForm", laid_quaestor_rlp_errForm), ("quaestor/rlp.errDeep", laid_quaestor_rlp_errDeep)], narrowed := true }
def RlpNumbersUptoSaid : Prop := rlpNumbersUptoRow.holds Tryd.pinned (OpenSpec.upto rlpNumbersSpec)

end Rows
end Go.Proofs.YtddcgjbaiojmcaaDoor
