/-
  NARROWER THAN 'FOR EVERY INPUT', by the rows' own cells (each row's printed sentence says how): AbiEncodes: laid · UseropSpans: laid · UseropCalls: laid · UseropHashes: laid · UseropSigned: laid · UseropNumbers: laid · UseropPrices: laid · AbiDecodes: laid · AbiBack: laid · AbiWords: laid · AbiBounds: laid · AbiSelectors: laid · UseropChecks: laid · UseropReads: laid.
  DERIVED. THE GIVEN ROWS OF THIS SEAT. 14 by the template 'for every input the law returns true; each argument reads behind the call as it read before'; 0 by the template 'total and deterministic' (their statements: YtehhocoldpdijaaDoorTotals.lean).
  GIVEN WITH THE SEED: the statements are not yours to turn. If you find one false, say at which input.
  Laid BY PROGRAM, IN A SANDBOX (cutbox-rows.mjs): the forced cells as the released guide's own fill.sh prints them over the translation 46d3c0fba2d39415… (all of the seat's roots in one cut). By AI agents, Wed Nov 11 2026. No macro, syntax, notation, axiom, sorry.
-/
import Derived.Test.YtehhocoldpdijaaDoorChecked
import GoSem.Claim
import GoSem.ClaimJoined
import GoSem.ClaimMapViews
import Derived.JoinedTies
import Derived.KernelRfl
namespace Go.Proofs.YtehhocoldpdijaaDoor
/- THE CELL 'sum', in the pinned program and in every row, IS THE sha256 OF THE DUMP (.gsa) THAT YtehhocoldpdijaaDoorProg.lean LOADS. Nothing in Lean hashes anything: it is a label: what it is worth is what the hold of that sum in a sandbox is worth. -/
noncomputable def Tryd.pinned : Pinned := { name := "ytehhocoldpdijaadoor", sum := "46d3c0fba2d394151b1fc8da2170ec0ec52661a4a878490b777272674150ed05", checked := Tryd.checked }
namespace Rows
def none {H : Type} : Left H := { results := [], args := [] }

/- WHAT THE LISTED PACKAGE-LEVEL VARIABLES READ AS WHEN THE CALL BEGINS. Each datum BY PROGRAM (the guide's laid-datum.mjs) off the statement by which the dump's own 'gosem.cut.vars' lays the variable. In a bare row this is a premise. The card (YtehhocoldpdijaaDoorCards.lean) ties it to the program's text. -/
def laid_quaestor_keccak_keys {H : Type} : DataW H := .agg [.lit (.int .u64 1), .lit (.int .u64 32898), .lit (.int .u64 9223372036854808714), .lit (.int .u64 9223372039002292224), .lit (.int .u64 32907), .lit (.int .u64 2147483649), .lit (.int .u64 9223372039002292353), .lit (.int .u64 9223372036854808585), .lit (.int .u64 138), .lit (.int .u64 136), .lit (.int .u64 2147516425), .lit (.int .u64 2147483658), .lit (.int .u64 2147516555), .lit (.int .u64 9223372036854775947), .lit (.int .u64 9223372036854808713), .lit (.int .u64 9223372036854808579), .lit (.int .u64 9223372036854808578), .lit (.int .u64 9223372036854775936), .lit (.int .u64 32778), .lit (.int .u64 9223372039002259466), .lit (.int .u64 9223372039002292353), .lit (.int .u64 9223372036854808704), .lit (.int .u64 2147483649), .lit (.int .u64 9223372039002292232)]
def laid_quaestor_keccak_turns {H : Type} : DataW H := .agg [.lit (.int .i64 1), .lit (.int .i64 3), .lit (.int .i64 6), .lit (.int .i64 10), .lit (.int .i64 15), .lit (.int .i64 21), .lit (.int .i64 28), .lit (.int .i64 36), .lit (.int .i64 45), .lit (.int .i64 55), .lit (.int .i64 2), .lit (.int .i64 14), .lit (.int .i64 27), .lit (.int .i64 41), .lit (.int .i64 56), .lit (.int .i64 8), .lit (.int .i64 25), .lit (.int .i64 43), .lit (.int .i64 62), .lit (.int .i64 18), .lit (.int .i64 39), .lit (.int .i64 61), .lit (.int .i64 20), .lit (.int .i64 44)]
def laid_quaestor_keccak_to {H : Type} : DataW H := .agg [.lit (.int .i64 10), .lit (.int .i64 7), .lit (.int .i64 11), .lit (.int .i64 17), .lit (.int .i64 18), .lit (.int .i64 3), .lit (.int .i64 5), .lit (.int .i64 16), .lit (.int .i64 8), .lit (.int .i64 21), .lit (.int .i64 24), .lit (.int .i64 4), .lit (.int .i64 15), .lit (.int .i64 23), .lit (.int .i64 19), .lit (.int .i64 13), .lit (.int .i64 12), .lit (.int .i64 2), .lit (.int .i64 20), .lit (.int .i64 14), .lit (.int .i64 22), .lit (.int .i64 9), .lit (.int .i64 6), .lit (.int .i64 1)]
def laid_errors_errorType {H : Type} : DataW H := .iface "internal/reflectlite.rtype" (.agg [.ptr (.lit (.string [101, 114, 114, 111, 114]))])
def laid_quaestor_abi_errEnd {H : Type} : DataW H := .iface "*errors.errorString" (.ptr (.agg [.lit (.string [98, 101, 121, 111, 110, 100, 32, 116, 104, 101, 32, 101, 110, 100])]))

/-- 'quaestorlaw05.AbiEncodes': WHATEVER THE INPUT: true; the input reads as it did. -/
def abiEncodesSpec : ChangeSpec := { name := "abiEncodes", fn := fun _ => fun
  | [d1, d2] => { results := [.lit (.bool true)], args := [d1, d2] }
  | _ => none }
def abiEncodesRow : OpenClaim := { program := "ytehhocoldpdijaadoor", sum := "46d3c0fba2d394151b1fc8da2170ec0ec52661a4a878490b777272674150ed05", func := "quaestor/quaestorlaw05.AbiEncodes", spec := "abiEncodes", named := ["quaestor/keccak.keys", "quaestor/keccak.to", "quaestor/keccak.turns"], apart := false, laid := [("quaestor/keccak.keys", laid_quaestor_keccak_keys), ("quaestor/keccak.turns", laid_quaestor_keccak_turns), ("quaestor/keccak.to", laid_quaestor_keccak_to)] }
def AbiEncodesSaid : Prop := abiEncodesRow.holds Tryd.pinned (OpenSpec.ofChange abiEncodesSpec)

/-- ITS FALSE NEIGHBOUR: 'it returns false'. Refute it at one input. -/
def abiEncodesWrong : ChangeSpec := { name := "abiEncodes", fn := fun _ => fun
  | [d1, d2] => { results := [.lit (.bool false)], args := [d1, d2] }
  | _ => none }
def AbiEncodesWrongFalsely : Prop := abiEncodesRow.holds Tryd.pinned (OpenSpec.ofChange abiEncodesWrong)

/-- 'quaestorlaw15.UseropSpans': WHATEVER THE INPUT: true; the input reads as it did. -/
def useropSpansSpec : ChangeSpec := { name := "useropSpans", fn := fun _ => fun
  | [d1, d2, d3] => { results := [.lit (.bool true)], args := [d1, d2, d3] }
  | _ => none }
def useropSpansRow : OpenClaim := { program := "ytehhocoldpdijaadoor", sum := "46d3c0fba2d394151b1fc8da2170ec0ec52661a4a878490b777272674150ed05", func := "quaestor/quaestorlaw15.UseropSpans", spec := "useropSpans", inPlace := ["math/bits.Add64"], named := ["quaestor/keccak.keys", "quaestor/keccak.to", "quaestor/keccak.turns"], apart := false, laid := [("quaestor/keccak.keys", laid_quaestor_keccak_keys), ("quaestor/keccak.turns", laid_quaestor_keccak_turns), ("quaestor/keccak.to", laid_quaestor_keccak_to)] }
def UseropSpansSaid : Prop := useropSpansRow.holds Tryd.pinned (OpenSpec.ofChange useropSpansSpec)

/-- ITS FALSE NEIGHBOUR: 'it returns false'. Refute it at one input. -/
def useropSpansWrong : ChangeSpec := { name := "useropSpans", fn := fun _ => fun
  | [d1, d2, d3] => { results := [.lit (.bool false)], args := [d1, d2, d3] }
  | _ => none }
def UseropSpansWrongFalsely : Prop := useropSpansRow.holds Tryd.pinned (OpenSpec.ofChange useropSpansWrong)

/-- 'quaestorlaw15.UseropCalls': WHATEVER THE INPUT: true; the input reads as it did. -/
def useropCallsSpec : ChangeSpec := { name := "useropCalls", fn := fun _ => fun
  | [d1, d2, d3, d4, d5] => { results := [.lit (.bool true)], args := [d1, d2, d3, d4, d5] }
  | _ => none }
def useropCallsRow : OpenClaim := { program := "ytehhocoldpdijaadoor", sum := "46d3c0fba2d394151b1fc8da2170ec0ec52661a4a878490b777272674150ed05", func := "quaestor/quaestorlaw15.UseropCalls", spec := "useropCalls", inPlace := ["math/bits.Add64"], named := ["quaestor/keccak.keys", "quaestor/keccak.to", "quaestor/keccak.turns"], apart := false, laid := [("quaestor/keccak.keys", laid_quaestor_keccak_keys), ("quaestor/keccak.turns", laid_quaestor_keccak_turns), ("quaestor/keccak.to", laid_quaestor_keccak_to)] }
def UseropCallsSaid : Prop := useropCallsRow.holds Tryd.pinned (OpenSpec.ofChange useropCallsSpec)

/-- ITS FALSE NEIGHBOUR: 'it returns false'. Refute it at one input. -/
def useropCallsWrong : ChangeSpec := { name := "useropCalls", fn := fun _ => fun
  | [d1, d2, d3, d4, d5] => { results := [.lit (.bool false)], args := [d1, d2, d3, d4, d5] }
  | _ => none }
def UseropCallsWrongFalsely : Prop := useropCallsRow.holds Tryd.pinned (OpenSpec.ofChange useropCallsWrong)

/-- 'quaestorlaw15.UseropHashes': WHATEVER THE INPUT: true; the input reads as it did. -/
def useropHashesSpec : ChangeSpec := { name := "useropHashes", fn := fun _ => fun
  | [d1, d2] => { results := [.lit (.bool true)], args := [d1, d2] }
  | _ => none }
def useropHashesRow : OpenClaim := { program := "ytehhocoldpdijaadoor", sum := "46d3c0fba2d394151b1fc8da2170ec0ec52661a4a878490b777272674150ed05", func := "quaestor/quaestorlaw15.UseropHashes", spec := "useropHashes", inPlace := ["math/bits.Add64"], named := ["quaestor/keccak.keys", "quaestor/keccak.to", "quaestor/keccak.turns"], apart := false, laid := [("quaestor/keccak.keys", laid_quaestor_keccak_keys), ("quaestor/keccak.turns", laid_quaestor_keccak_turns), ("quaestor/keccak.to", laid_quaestor_keccak_to)] }
def UseropHashesSaid : Prop := useropHashesRow.holds Tryd.pinned (OpenSpec.ofChange useropHashesSpec)

/-- ITS FALSE NEIGHBOUR: 'it returns false'. Refute it at one input. -/
def useropHashesWrong : ChangeSpec := { name := "useropHashes", fn := fun _ => fun
  | [d1, d2] => { results := [.lit (.bool false)], args := [d1, d2] }
  | _ => none }
def UseropHashesWrongFalsely : Prop := useropHashesRow.holds Tryd.pinned (OpenSpec.ofChange useropHashesWrong)

/-- 'quaestorlaw15.UseropSigned': WHATEVER THE INPUT: true; the input reads as it did. -/
def useropSignedSpec : ChangeSpec := { name := "useropSigned", fn := fun _ => fun
  | [d1, d2, d3] => { results := [.lit (.bool true)], args := [d1, d2, d3] }
  | _ => none }
def useropSignedRow : OpenClaim := { program := "ytehhocoldpdijaadoor", sum := "46d3c0fba2d394151b1fc8da2170ec0ec52661a4a878490b777272674150ed05", func := "quaestor/quaestorlaw15.UseropSigned", spec := "useropSigned", inPlace := ["math/bits.Add64"], named := ["quaestor/keccak.keys", "quaestor/keccak.to", "quaestor/keccak.turns"], apart := false, laid := [("quaestor/keccak.keys", laid_quaestor_keccak_keys), ("quaestor/keccak.turns", laid_quaestor_keccak_turns), ("quaestor/keccak.to", laid_quaestor_keccak_to)] }
def UseropSignedSaid : Prop := useropSignedRow.holds Tryd.pinned (OpenSpec.ofChange useropSignedSpec)

/-- ITS FALSE NEIGHBOUR: 'it returns false'. Refute it at one input. -/
def useropSignedWrong : ChangeSpec := { name := "useropSigned", fn := fun _ => fun
  | [d1, d2, d3] => { results := [.lit (.bool false)], args := [d1, d2, d3] }
  | _ => none }
def UseropSignedWrongFalsely : Prop := useropSignedRow.holds Tryd.pinned (OpenSpec.ofChange useropSignedWrong)

/-- 'quaestorlaw15.UseropNumbers': WHATEVER THE INPUT: true; the input reads as it did. -/
def useropNumbersSpec : ChangeSpec := { name := "useropNumbers", fn := fun _ => fun
  | [d1, d2] => { results := [.lit (.bool true)], args := [d1, d2] }
  | _ => none }
def useropNumbersRow : OpenClaim := { program := "ytehhocoldpdijaadoor", sum := "46d3c0fba2d394151b1fc8da2170ec0ec52661a4a878490b777272674150ed05", func := "quaestor/quaestorlaw15.UseropNumbers", spec := "useropNumbers", inPlace := ["math/bits.Add64", "math/bits.Sub64"], named := ["quaestor/keccak.keys", "quaestor/keccak.to", "quaestor/keccak.turns"], apart := false, laid := [("quaestor/keccak.keys", laid_quaestor_keccak_keys), ("quaestor/keccak.turns", laid_quaestor_keccak_turns), ("quaestor/keccak.to", laid_quaestor_keccak_to)] }
def UseropNumbersSaid : Prop := useropNumbersRow.holds Tryd.pinned (OpenSpec.ofChange useropNumbersSpec)

/-- ITS FALSE NEIGHBOUR: 'it returns false'. Refute it at one input. -/
def useropNumbersWrong : ChangeSpec := { name := "useropNumbers", fn := fun _ => fun
  | [d1, d2] => { results := [.lit (.bool false)], args := [d1, d2] }
  | _ => none }
def UseropNumbersWrongFalsely : Prop := useropNumbersRow.holds Tryd.pinned (OpenSpec.ofChange useropNumbersWrong)

/-- 'quaestorlaw15.UseropPrices': WHATEVER THE INPUT: true; the input reads as it did. -/
def useropPricesSpec : ChangeSpec := { name := "useropPrices", fn := fun _ => fun
  | [d1, d2] => { results := [.lit (.bool true)], args := [d1, d2] }
  | _ => none }
def useropPricesRow : OpenClaim := { program := "ytehhocoldpdijaadoor", sum := "46d3c0fba2d394151b1fc8da2170ec0ec52661a4a878490b777272674150ed05", func := "quaestor/quaestorlaw15.UseropPrices", spec := "useropPrices", inPlace := ["math/bits.Add64", "math/bits.Sub64"], named := ["quaestor/keccak.keys", "quaestor/keccak.to", "quaestor/keccak.turns"], apart := false, laid := [("quaestor/keccak.keys", laid_quaestor_keccak_keys), ("quaestor/keccak.turns", laid_quaestor_keccak_turns), ("quaestor/keccak.to", laid_quaestor_keccak_to)] }
def UseropPricesSaid : Prop := useropPricesRow.holds Tryd.pinned (OpenSpec.ofChange useropPricesSpec)

/-- ITS FALSE NEIGHBOUR: 'it returns false'. Refute it at one input. -/
def useropPricesWrong : ChangeSpec := { name := "useropPrices", fn := fun _ => fun
  | [d1, d2] => { results := [.lit (.bool false)], args := [d1, d2] }
  | _ => none }
def UseropPricesWrongFalsely : Prop := useropPricesRow.holds Tryd.pinned (OpenSpec.ofChange useropPricesWrong)

/-- 'quaestorlaw05.AbiDecodes': WHATEVER THE INPUT: true; the input reads as it did. -/
def abiDecodesSpec : ChangeSpec := { name := "abiDecodes", fn := fun _ => fun
  | [d1, d2] => { results := [.lit (.bool true)], args := [d1, d2] }
  | _ => none }
def abiDecodesRow : OpenClaim := { program := "ytehhocoldpdijaadoor", sum := "46d3c0fba2d394151b1fc8da2170ec0ec52661a4a878490b777272674150ed05", func := "quaestor/quaestorlaw05.AbiDecodes", spec := "abiDecodes", inPlace := ["internal/reflectlite.ValueOf", "(internal/reflectlite.Value).Type", "(internal/reflectlite.Value).IsNil", "internal/reflectlite.TypeOf", "(internal/reflectlite.Value).Elem", "(internal/reflectlite.Value).Set"], unfollowed := true, recurses := true, named := ["quaestor/abi.errEnd", "errors.errorType", "quaestor/keccak.keys", "quaestor/keccak.to", "quaestor/keccak.turns"], apart := false, laid := [("errors.errorType", laid_errors_errorType), ("quaestor/keccak.keys", laid_quaestor_keccak_keys), ("quaestor/keccak.turns", laid_quaestor_keccak_turns), ("quaestor/keccak.to", laid_quaestor_keccak_to), ("quaestor/abi.errEnd", laid_quaestor_abi_errEnd)] }
def AbiDecodesSaid : Prop := abiDecodesRow.holds Tryd.pinned (OpenSpec.ofChange abiDecodesSpec)

/-- ITS FALSE NEIGHBOUR: 'it returns false'. Refute it at one input. -/
def abiDecodesWrong : ChangeSpec := { name := "abiDecodes", fn := fun _ => fun
  | [d1, d2] => { results := [.lit (.bool false)], args := [d1, d2] }
  | _ => none }
def AbiDecodesWrongFalsely : Prop := abiDecodesRow.holds Tryd.pinned (OpenSpec.ofChange abiDecodesWrong)

/-- 'quaestorlaw05.AbiBack': WHATEVER THE INPUT: true; the input reads as it did. -/
def abiBackSpec : ChangeSpec := { name := "abiBack", fn := fun _ => fun
  | [d1, d2] => { results := [.lit (.bool true)], args := [d1, d2] }
  | _ => none }
def abiBackRow : OpenClaim := { program := "ytehhocoldpdijaadoor", sum := "46d3c0fba2d394151b1fc8da2170ec0ec52661a4a878490b777272674150ed05", func := "quaestor/quaestorlaw05.AbiBack", spec := "abiBack", inPlace := ["internal/reflectlite.ValueOf", "(internal/reflectlite.Value).Type", "(internal/reflectlite.Value).IsNil", "internal/reflectlite.TypeOf", "(internal/reflectlite.Value).Elem", "(internal/reflectlite.Value).Set"], unfollowed := true, recurses := true, named := ["quaestor/keccak.keys", "quaestor/keccak.to", "quaestor/keccak.turns", "quaestor/abi.errEnd", "errors.errorType"], apart := false, laid := [("errors.errorType", laid_errors_errorType), ("quaestor/keccak.keys", laid_quaestor_keccak_keys), ("quaestor/keccak.turns", laid_quaestor_keccak_turns), ("quaestor/keccak.to", laid_quaestor_keccak_to), ("quaestor/abi.errEnd", laid_quaestor_abi_errEnd)] }
def AbiBackSaid : Prop := abiBackRow.holds Tryd.pinned (OpenSpec.ofChange abiBackSpec)

/-- ITS FALSE NEIGHBOUR: 'it returns false'. Refute it at one input. -/
def abiBackWrong : ChangeSpec := { name := "abiBack", fn := fun _ => fun
  | [d1, d2] => { results := [.lit (.bool false)], args := [d1, d2] }
  | _ => none }
def AbiBackWrongFalsely : Prop := abiBackRow.holds Tryd.pinned (OpenSpec.ofChange abiBackWrong)

/-- 'quaestorlaw05.AbiWords': WHATEVER THE INPUT: true; the input reads as it did. -/
def abiWordsSpec : ChangeSpec := { name := "abiWords", fn := fun _ => fun
  | [d] => { results := [.lit (.bool true)], args := [d] }
  | _ => none }
def abiWordsRow : OpenClaim := { program := "ytehhocoldpdijaadoor", sum := "46d3c0fba2d394151b1fc8da2170ec0ec52661a4a878490b777272674150ed05", func := "quaestor/quaestorlaw05.AbiWords", spec := "abiWords", inPlace := ["internal/reflectlite.ValueOf", "(internal/reflectlite.Value).Type", "(internal/reflectlite.Value).IsNil", "internal/reflectlite.TypeOf", "(internal/reflectlite.Value).Elem", "(internal/reflectlite.Value).Set"], unfollowed := true, recurses := true, named := ["quaestor/keccak.keys", "quaestor/keccak.to", "quaestor/keccak.turns", "quaestor/abi.errEnd", "errors.errorType"], apart := false, laid := [("errors.errorType", laid_errors_errorType), ("quaestor/keccak.keys", laid_quaestor_keccak_keys), ("quaestor/keccak.turns", laid_quaestor_keccak_turns), ("quaestor/keccak.to", laid_quaestor_keccak_to), ("quaestor/abi.errEnd", laid_quaestor_abi_errEnd)] }
def AbiWordsSaid : Prop := abiWordsRow.holds Tryd.pinned (OpenSpec.ofChange abiWordsSpec)

/-- ITS FALSE NEIGHBOUR: 'it returns false'. Refute it at one input. -/
def abiWordsWrong : ChangeSpec := { name := "abiWords", fn := fun _ => fun
  | [d] => { results := [.lit (.bool false)], args := [d] }
  | _ => none }
def AbiWordsWrongFalsely : Prop := abiWordsRow.holds Tryd.pinned (OpenSpec.ofChange abiWordsWrong)

/-- 'quaestorlaw05.AbiBounds': WHATEVER THE INPUT: true; the input reads as it did. -/
def abiBoundsSpec : ChangeSpec := { name := "abiBounds", fn := fun _ => fun
  | [d1, d2] => { results := [.lit (.bool true)], args := [d1, d2] }
  | _ => none }
def abiBoundsRow : OpenClaim := { program := "ytehhocoldpdijaadoor", sum := "46d3c0fba2d394151b1fc8da2170ec0ec52661a4a878490b777272674150ed05", func := "quaestor/quaestorlaw05.AbiBounds", spec := "abiBounds", inPlace := ["internal/reflectlite.ValueOf", "(internal/reflectlite.Value).Type", "(internal/reflectlite.Value).IsNil", "internal/reflectlite.TypeOf", "(internal/reflectlite.Value).Elem", "(internal/reflectlite.Value).Set"], unfollowed := true, recurses := true, named := ["quaestor/keccak.keys", "quaestor/keccak.to", "quaestor/keccak.turns", "quaestor/abi.errEnd", "errors.errorType"], apart := false, laid := [("errors.errorType", laid_errors_errorType), ("quaestor/keccak.keys", laid_quaestor_keccak_keys), ("quaestor/keccak.turns", laid_quaestor_keccak_turns), ("quaestor/keccak.to", laid_quaestor_keccak_to), ("quaestor/abi.errEnd", laid_quaestor_abi_errEnd)] }
def AbiBoundsSaid : Prop := abiBoundsRow.holds Tryd.pinned (OpenSpec.ofChange abiBoundsSpec)

/-- ITS FALSE NEIGHBOUR: 'it returns false'. Refute it at one input. -/
def abiBoundsWrong : ChangeSpec := { name := "abiBounds", fn := fun _ => fun
  | [d1, d2] => { results := [.lit (.bool false)], args := [d1, d2] }
  | _ => none }
def AbiBoundsWrongFalsely : Prop := abiBoundsRow.holds Tryd.pinned (OpenSpec.ofChange abiBoundsWrong)

/-- 'quaestorlaw05.AbiSelectors': WHATEVER THE INPUT: true; the input reads as it did. -/
def abiSelectorsSpec : ChangeSpec := { name := "abiSelectors", fn := fun _ => fun
  | [d1, d2] => { results := [.lit (.bool true)], args := [d1, d2] }
  | _ => none }
def abiSelectorsRow : OpenClaim := { program := "ytehhocoldpdijaadoor", sum := "46d3c0fba2d394151b1fc8da2170ec0ec52661a4a878490b777272674150ed05", func := "quaestor/quaestorlaw05.AbiSelectors", spec := "abiSelectors", inPlace := ["internal/reflectlite.ValueOf", "(internal/reflectlite.Value).Type", "(internal/reflectlite.Value).IsNil", "internal/reflectlite.TypeOf", "(internal/reflectlite.Value).Elem", "(internal/reflectlite.Value).Set"], unfollowed := true, recurses := true, named := ["quaestor/keccak.keys", "quaestor/keccak.to", "quaestor/keccak.turns", "quaestor/abi.errEnd", "errors.errorType"], apart := false, laid := [("errors.errorType", laid_errors_errorType), ("quaestor/keccak.keys", laid_quaestor_keccak_keys), ("quaestor/keccak.turns", laid_quaestor_keccak_turns), ("quaestor/keccak.to", laid_quaestor_keccak_to), ("quaestor/abi.errEnd", laid_quaestor_abi_errEnd)] }
def AbiSelectorsSaid : Prop := abiSelectorsRow.holds Tryd.pinned (OpenSpec.ofChange abiSelectorsSpec)

/-- ITS FALSE NEIGHBOUR: 'it returns false'. Refute it at one input. -/
def abiSelectorsWrong : ChangeSpec := { name := "abiSelectors", fn := fun _ => fun
  | [d1, d2] => { results := [.lit (.bool false)], args := [d1, d2] }
  | _ => none }
def AbiSelectorsWrongFalsely : Prop := abiSelectorsRow.holds Tryd.pinned (OpenSpec.ofChange abiSelectorsWrong)

/-- 'quaestorlaw15.UseropChecks': WHATEVER THE INPUT: true; the input reads as it did. -/
def useropChecksSpec : ChangeSpec := { name := "useropChecks", fn := fun _ => fun
  | [d] => { results := [.lit (.bool true)], args := [d] }
  | _ => none }
def useropChecksRow : OpenClaim := { program := "ytehhocoldpdijaadoor", sum := "46d3c0fba2d394151b1fc8da2170ec0ec52661a4a878490b777272674150ed05", func := "quaestor/quaestorlaw15.UseropChecks", spec := "useropChecks", inPlace := ["math/bits.Add64", "math/bits.Sub64"], unfollowed := true, recurses := true, named := ["quaestor/keccak.keys", "quaestor/keccak.to", "quaestor/keccak.turns"], apart := false, laid := [("quaestor/keccak.keys", laid_quaestor_keccak_keys), ("quaestor/keccak.turns", laid_quaestor_keccak_turns), ("quaestor/keccak.to", laid_quaestor_keccak_to)] }
def UseropChecksSaid : Prop := useropChecksRow.holds Tryd.pinned (OpenSpec.ofChange useropChecksSpec)

/-- ITS FALSE NEIGHBOUR: 'it returns false'. Refute it at one input. -/
def useropChecksWrong : ChangeSpec := { name := "useropChecks", fn := fun _ => fun
  | [d] => { results := [.lit (.bool false)], args := [d] }
  | _ => none }
def UseropChecksWrongFalsely : Prop := useropChecksRow.holds Tryd.pinned (OpenSpec.ofChange useropChecksWrong)

/-- 'quaestorlaw15.UseropReads': WHATEVER THE INPUT: true; the input reads as it did. -/
def useropReadsSpec : ChangeSpec := { name := "useropReads", fn := fun _ => fun
  | [d1, d2, d3] => { results := [.lit (.bool true)], args := [d1, d2, d3] }
  | _ => none }
def useropReadsRow : OpenClaim := { program := "ytehhocoldpdijaadoor", sum := "46d3c0fba2d394151b1fc8da2170ec0ec52661a4a878490b777272674150ed05", func := "quaestor/quaestorlaw15.UseropReads", spec := "useropReads", inPlace := ["math/bits.Add64", "internal/reflectlite.ValueOf", "(internal/reflectlite.Value).Type", "(internal/reflectlite.Value).IsNil", "internal/reflectlite.TypeOf", "(internal/reflectlite.Value).Elem", "(internal/reflectlite.Value).Set"], unfollowed := true, recurses := true, named := ["quaestor/keccak.keys", "quaestor/keccak.to", "quaestor/keccak.turns", "quaestor/abi.errEnd", "errors.errorType"], apart := false, laid := [("errors.errorType", laid_errors_errorType), ("quaestor/keccak.keys", laid_quaestor_keccak_keys), ("quaestor/keccak.turns", laid_quaestor_keccak_turns), ("quaestor/keccak.to", laid_quaestor_keccak_to), ("quaestor/abi.errEnd", laid_quaestor_abi_errEnd)] }
def UseropReadsSaid : Prop := useropReadsRow.holds Tryd.pinned (OpenSpec.ofChange useropReadsSpec)

/-- ITS FALSE NEIGHBOUR: 'it returns false'. Refute it at one input. -/
def useropReadsWrong : ChangeSpec := { name := "useropReads", fn := fun _ => fun
  | [d1, d2, d3] => { results := [.lit (.bool false)], args := [d1, d2, d3] }
  | _ => none }
def UseropReadsWrongFalsely : Prop := useropReadsRow.holds Tryd.pinned (OpenSpec.ofChange useropReadsWrong)

/- THE SECOND FORM. 'bulk': how many values and letters a reading holds, each counted each time it is reached (what is shared counts as often as it is met; a slice's spare places count too). A statement '..UptoSaid' is the law's where the arguments, and the package variables that the reading takes, are together of bulk at most 1048576: NARROWER than '..Said'. Prove '..Said' where nothing that the law and all that it calls make is longer than what came in: it says more and counts as full. Else prove '..UptoSaid'. A law counts once. -/
mutual
def uptoBulk {H : Type} : DataW H → Nat
  | .lit (.string bytes) => bytes.length + 1
  | .lit _ => 1
  | .nil => 1
  | .ptr d => uptoBulk d + 1
  | .slice elems spare => uptoBulkAll elems + uptoBulkAll spare + 1
  | .agg parts => uptoBulkAll parts + 1
  | .iface _ d => uptoBulk d + 1
  | .map entries => uptoBulkEntries entries + 1
  | .held _ => 1
def uptoBulkAll {H : Type} : List (DataW H) → Nat
  | [] => 0
  | d :: r => uptoBulk d + uptoBulkAll r
def uptoBulkEntries {H : Type} : List (Lit × DataW H) → Nat
  | [] => 0
  | x :: r => uptoBulkEntry x + uptoBulkEntries r
def uptoBulkEntry {H : Type} : Lit × DataW H → Nat
  | (.string bytes, d) => bytes.length + uptoBulk d + 1
  | (_, d) => uptoBulk d + 1
 end
def uptoSmall : (H : Type) → List (DataW H) → Bool := fun _ ds => decide (uptoBulkAll ds ≤ 1048576)
def OpenSpec.upto (s : _root_.Go.ChangeSpec) : _root_.Go.OpenSpec := { _root_.Go.OpenSpec.ofChange s with cond := some uptoSmall }

/-- 'quaestorlaw05.AbiEncodes', WHERE WHAT IT READS IS OF BULK AT MOST 1048576: true; the input reads as it did. -/
def abiEncodesUptoRow : OpenClaim := { program := "ytehhocoldpdijaadoor", sum := "46d3c0fba2d394151b1fc8da2170ec0ec52661a4a878490b777272674150ed05", func := "quaestor/quaestorlaw05.AbiEncodes", spec := "abiEncodes", named := ["quaestor/keccak.keys", "quaestor/keccak.to", "quaestor/keccak.turns"], apart := false, laid := [("quaestor/keccak.keys", laid_quaestor_keccak_keys), ("quaestor/keccak.turns", laid_quaestor_keccak_turns), ("quaestor/keccak.to", laid_quaestor_keccak_to)], narrowed := true }
def AbiEncodesUptoSaid : Prop := abiEncodesUptoRow.holds Tryd.pinned (OpenSpec.upto abiEncodesSpec)

/-- 'quaestorlaw15.UseropSpans', WHERE WHAT IT READS IS OF BULK AT MOST 1048576: true; the input reads as it did. -/
def useropSpansUptoRow : OpenClaim := { program := "ytehhocoldpdijaadoor", sum := "46d3c0fba2d394151b1fc8da2170ec0ec52661a4a878490b777272674150ed05", func := "quaestor/quaestorlaw15.UseropSpans", spec := "useropSpans", inPlace := ["math/bits.Add64"], named := ["quaestor/keccak.keys", "quaestor/keccak.to", "quaestor/keccak.turns"], apart := false, laid := [("quaestor/keccak.keys", laid_quaestor_keccak_keys), ("quaestor/keccak.turns", laid_quaestor_keccak_turns), ("quaestor/keccak.to", laid_quaestor_keccak_to)], narrowed := true }
def UseropSpansUptoSaid : Prop := useropSpansUptoRow.holds Tryd.pinned (OpenSpec.upto useropSpansSpec)

/-- 'quaestorlaw15.UseropCalls', WHERE WHAT IT READS IS OF BULK AT MOST 1048576: true; the input reads as it did. -/
def useropCallsUptoRow : OpenClaim := { program := "ytehhocoldpdijaadoor", sum := "46d3c0fba2d394151b1fc8da2170ec0ec52661a4a878490b777272674150ed05", func := "quaestor/quaestorlaw15.UseropCalls", spec := "useropCalls", inPlace := ["math/bits.Add64"], named := ["quaestor/keccak.keys", "quaestor/keccak.to", "quaestor/keccak.turns"], apart := false, laid := [("quaestor/keccak.keys", laid_quaestor_keccak_keys), ("quaestor/keccak.turns", laid_quaestor_keccak_turns), ("quaestor/keccak.to", laid_quaestor_keccak_to)], narrowed := true }
def UseropCallsUptoSaid : Prop := useropCallsUptoRow.holds Tryd.pinned (OpenSpec.upto useropCallsSpec)

/-- 'quaestorlaw15.UseropHashes', WHERE WHAT IT READS IS OF BULK AT MOST 1048576: true; the input reads as it did. -/
def useropHashesUptoRow : OpenClaim := { program := "ytehhocoldpdijaadoor", sum := "46d3c0fba2d394151b1fc8da2170ec0ec52661a4a878490b777272674150ed05", func := "quaestor/quaestorlaw15.UseropHashes", spec := "useropHashes", inPlace := ["math/bits.Add64"], named := ["quaestor/keccak.keys", "quaestor/keccak.to", "quaestor/keccak.turns"], apart := false, laid := [("quaestor/keccak.keys", laid_quaestor_keccak_keys), ("quaestor/keccak.turns", laid_quaestor_keccak_turns), ("quaestor/keccak.to", laid_quaestor_keccak_to)], narrowed := true }
def UseropHashesUptoSaid : Prop := useropHashesUptoRow.holds Tryd.pinned (OpenSpec.upto useropHashesSpec)

/-- 'quaestorlaw15.UseropSigned', WHERE WHAT IT READS IS OF BULK AT MOST 1048576: true; the input reads as it did. -/
def useropSignedUptoRow : OpenClaim := { program := "ytehhocoldpdijaadoor", sum := "46d3c0fba2d394151b1fc8da2170ec0ec52661a4a878490b777272674150ed05", func := "quaestor/quaestorlaw15.UseropSigned", spec := "useropSigned", inPlace := ["math/bits.Add64"], named := ["quaestor/keccak.keys", "quaestor/keccak.to", "quaestor/keccak.turns"], apart := false, laid := [("quaestor/keccak.keys", laid_quaestor_keccak_keys), ("quaestor/keccak.turns", laid_quaestor_keccak_turns), ("quaestor/keccak.to", laid_quaestor_keccak_to)], narrowed := true }
def UseropSignedUptoSaid : Prop := useropSignedUptoRow.holds Tryd.pinned (OpenSpec.upto useropSignedSpec)

/-- 'quaestorlaw15.UseropNumbers', WHERE WHAT IT READS IS OF BULK AT MOST 1048576: true; the input reads as it did. -/
def useropNumbersUptoRow : OpenClaim := { program := "ytehhocoldpdijaadoor", sum := "46d3c0fba2d394151b1fc8da2170ec0ec52661a4a878490b777272674150ed05", func := "quaestor/quaestorlaw15.UseropNumbers", spec := "useropNumbers", inPlace := ["math/bits.Add64", "math/bits.Sub64"], named := ["quaestor/keccak.keys", "quaestor/keccak.to", "quaestor/keccak.turns"], apart := false, laid := [("quaestor/keccak.keys", laid_quaestor_keccak_keys), ("quaestor/keccak.turns", laid_quaestor_keccak_turns), ("quaestor/keccak.to", laid_quaestor_keccak_to)], narrowed := true }
def UseropNumbersUptoSaid : Prop := useropNumbersUptoRow.holds Tryd.pinned (OpenSpec.upto useropNumbersSpec)

/-- 'quaestorlaw15.UseropPrices', WHERE WHAT IT READS IS OF BULK AT MOST 1048576: true; the input reads as it did. -/
def useropPricesUptoRow : OpenClaim := { program := "ytehhocoldpdijaadoor", sum := "46d3c0fba2d394151b1fc8da2170ec0ec52661a4a878490b777272674150ed05", func := "quaestor/quaestorlaw15.UseropPrices", spec := "useropPrices", inPlace := ["math/bits.Add64", "math/bits.Sub64"], named := ["quaestor/keccak.keys", "quaestor/keccak.to", "quaestor/keccak.turns"], apart := false, laid := [("quaestor/keccak.keys", laid_quaestor_keccak_keys), ("quaestor/keccak.turns", laid_quaestor_keccak_turns), ("quaestor/keccak.to", laid_quaestor_keccak_to)], narrowed := true }
def UseropPricesUptoSaid : Prop := useropPricesUptoRow.holds Tryd.pinned (OpenSpec.upto useropPricesSpec)

/-- 'quaestorlaw05.AbiDecodes', WHERE WHAT IT READS IS OF BULK AT MOST 1048576: true; the input reads as it did. -/
def abiDecodesUptoRow : OpenClaim := { program := "ytehhocoldpdijaadoor", sum := "46d3c0fba2d394151b1fc8da2170ec0ec52661a4a878490b777272674150ed05", func := "quaestor/quaestorlaw05.AbiDecodes", spec := "abiDecodes", inPlace := ["internal/reflectlite.ValueOf", "(internal/reflectlite.Value).Type", "(internal/reflectlite.Value).IsNil", "internal/reflectlite.TypeOf", "(internal/reflectlite.Value).Elem", "(internal/reflectlite.Value).Set"], unfollowed := true, recurses := true, named := ["quaestor/abi.errEnd", "errors.errorType", "quaestor/keccak.keys", "quaestor/keccak.to", "quaestor/keccak.turns"], apart := false, laid := [("errors.errorType", laid_errors_errorType), ("quaestor/keccak.keys", laid_quaestor_keccak_keys), ("quaestor/keccak.turns", laid_quaestor_keccak_turns), ("quaestor/keccak.to", laid_quaestor_keccak_to), ("quaestor/abi.errEnd", laid_quaestor_abi_errEnd)], narrowed := true }
def AbiDecodesUptoSaid : Prop := abiDecodesUptoRow.holds Tryd.pinned (OpenSpec.upto abiDecodesSpec)

/-- 'quaestorlaw05.AbiBack', WHERE WHAT IT READS IS OF BULK AT MOST 1048576: true; the input reads as it did. -/
def abiBackUptoRow : OpenClaim := { program := "ytehhocoldpdijaadoor", sum := "46d3c0fba2d394151b1fc8da2170ec0ec52661a4a878490b777272674150ed05", func := "quaestor/quaestorlaw05.AbiBack", spec := "abiBack", inPlace := ["internal/reflectlite.ValueOf", "(internal/reflectlite.Value).Type", "(internal/reflectlite.Value).IsNil", "internal/reflectlite.TypeOf", "(internal/reflectlite.Value).Elem", "(internal/reflectlite.Value).Set"], unfollowed := true, recurses := true, named := ["quaestor/keccak.keys", "quaestor/keccak.to", "quaestor/keccak.turns", "quaestor/abi.errEnd", "errors.errorType"], apart := false, laid := [("errors.errorType", laid_errors_errorType), ("quaestor/keccak.keys", laid_quaestor_keccak_keys), ("quaestor/keccak.turns", laid_quaestor_keccak_turns), ("quaestor/keccak.to", laid_quaestor_keccak_to), ("quaestor/abi.errEnd", laid_quaestor_abi_errEnd)], narrowed := true }
def AbiBackUptoSaid : Prop := abiBackUptoRow.holds Tryd.pinned (OpenSpec.upto abiBackSpec)

/-- 'quaestorlaw05.AbiWords', WHERE WHAT IT READS IS OF BULK AT MOST 1048576: true; the input reads as it did. -/
def abiWordsUptoRow : OpenClaim := { program := "ytehhocoldpdijaadoor", sum := "46d3c0fba2d394151b1fc8da2170ec0ec52661a4a878490b777272674150ed05", func := "quaestor/quaestorlaw05.AbiWords", spec := "abiWords", inPlace := ["internal/reflectlite.ValueOf", "(internal/reflectlite.Value).Type", "(internal/reflectlite.Value).IsNil", "internal/reflectlite.TypeOf", "(internal/reflectlite.Value).Elem", "(internal/reflectlite.Value).Set"], unfollowed := true, recurses := true, named := ["quaestor/keccak.keys", "quaestor/keccak.to", "quaestor/keccak.turns", "quaestor/abi.errEnd", "errors.errorType"], apart := false, laid := [("errors.errorType", laid_errors_errorType), ("quaestor/keccak.keys", laid_quaestor_keccak_keys), ("quaestor/keccak.turns", laid_quaestor_keccak_turns), ("quaestor/keccak.to", laid_quaestor_keccak_to), ("quaestor/abi.errEnd", laid_quaestor_abi_errEnd)], narrowed := true }
def AbiWordsUptoSaid : Prop := abiWordsUptoRow.holds Tryd.pinned (OpenSpec.upto abiWordsSpec)

/-- 'quaestorlaw05.AbiBounds', WHERE WHAT IT READS IS OF BULK AT MOST 1048576: true; the input reads as it did. -/
def abiBoundsUptoRow : OpenClaim := { program := "ytehhocoldpdijaadoor", sum := "46d3c0fba2d394151b1fc8da2170ec0ec52661a4a878490b777272674150ed05", func := "quaestor/quaestorlaw05.AbiBounds", spec := "abiBounds", inPlace := ["internal/reflectlite.ValueOf", "(internal/reflectlite.Value).Type", "(internal/reflectlite.Value).IsNil", "internal/reflectlite.TypeOf", "(internal/reflectlite.Value).Elem", "(internal/reflectlite.Value).Set"], unfollowed := true, recurses := true, named := ["quaestor/keccak.keys", "quaestor/keccak.to", "quaestor/keccak.turns", "quaestor/abi.errEnd", "errors.errorType"], apart := false, laid := [("errors.errorType", laid_errors_errorType), ("quaestor/keccak.keys", laid_quaestor_keccak_keys), ("quaestor/keccak.turns", laid_quaestor_keccak_turns), ("quaestor/keccak.to", laid_quaestor_keccak_to), ("quaestor/abi.errEnd", laid_quaestor_abi_errEnd)], narrowed := true }
def AbiBoundsUptoSaid : Prop := abiBoundsUptoRow.holds Tryd.pinned (OpenSpec.upto abiBoundsSpec)

/-- 'quaestorlaw05.AbiSelectors', WHERE WHAT IT READS IS OF BULK AT MOST 1048576: true; the input reads as it did. -/
def abiSelectorsUptoRow : OpenClaim := { program := "ytehhocoldpdijaadoor", sum := "46d3c0fba2d394151b1fc8da2170ec0ec52661a4a878490b777272674150ed05", func := "quaestor/quaestorlaw05.AbiSelectors", spec := "abiSelectors", inPlace := ["internal/reflectlite.ValueOf", "(internal/reflectlite.Value).Type", "(internal/reflectlite.Value).IsNil", "internal/reflectlite.TypeOf", "(internal/reflectlite.Value).Elem", "(internal/reflectlite.Value).Set"], unfollowed := true, recurses := true, named := ["quaestor/keccak.keys", "quaestor/keccak.to", "quaestor/keccak.turns", "quaestor/abi.errEnd", "errors.errorType"], apart := false, laid := [("errors.errorType", laid_errors_errorType), ("quaestor/keccak.keys", laid_quaestor_keccak_keys), ("quaestor/keccak.turns", laid_quaestor_keccak_turns), ("quaestor/keccak.to", laid_quaestor_keccak_to), ("quaestor/abi.errEnd", laid_quaestor_abi_errEnd)], narrowed := true }
def AbiSelectorsUptoSaid : Prop := abiSelectorsUptoRow.holds Tryd.pinned (OpenSpec.upto abiSelectorsSpec)

/-- 'quaestorlaw15.UseropChecks', WHERE WHAT IT READS IS OF BULK AT MOST 1048576: true; the input reads as it did. -/
def useropChecksUptoRow : OpenClaim := { program := "ytehhocoldpdijaadoor", sum := "46d3c0fba2d394151b1fc8da2170ec0ec52661a4a878490b777272674150ed05", func := "quaestor/quaestorlaw15.UseropChecks", spec := "useropChecks", inPlace := ["math/bits.Add64", "math/bits.Sub64"], unfollowed := true, recurses := true, named := ["quaestor/keccak.keys", "quaestor/keccak.to", "quaestor/keccak.turns"], apart := false, laid := [("quaestor/keccak.keys", laid_quaestor_keccak_keys), ("quaestor/keccak.turns", laid_quaestor_keccak_turns), ("quaestor/keccak.to", laid_quaestor_keccak_to)], narrowed := true }
def UseropChecksUptoSaid : Prop := useropChecksUptoRow.holds Tryd.pinned (OpenSpec.upto useropChecksSpec)

/-- 'quaestorlaw15.UseropReads', WHERE WHAT IT READS IS OF BULK AT MOST 1048576: true; the input reads as it did. -/
def useropReadsUptoRow : OpenClaim := { program := "ytehhocoldpdijaadoor", sum := "46d3c0fba2d394151b1fc8da2170ec0ec52661a4a878490b777272674150ed05", func := "quaestor/quaestorlaw15.UseropReads", spec := "useropReads", inPlace := ["math/bits.Add64", "internal/reflectlite.ValueOf", "(internal/reflectlite.Value).Type", "(internal/reflectlite.Value).IsNil", "internal/reflectlite.TypeOf", "(internal/reflectlite.Value).Elem", "(internal/reflectlite.Value).Set"], unfollowed := true, recurses := true, named := ["quaestor/keccak.keys", "quaestor/keccak.to", "quaestor/keccak.turns", "quaestor/abi.errEnd", "errors.errorType"], apart := false, laid := [("errors.errorType", laid_errors_errorType), ("quaestor/keccak.keys", laid_quaestor_keccak_keys), ("quaestor/keccak.turns", laid_quaestor_keccak_turns), ("quaestor/keccak.to", laid_quaestor_keccak_to), ("quaestor/abi.errEnd", laid_quaestor_abi_errEnd)], narrowed := true }
def UseropReadsUptoSaid : Prop := useropReadsUptoRow.holds Tryd.pinned (OpenSpec.upto useropReadsSpec)

end Rows
end Go.Proofs.YtehhocoldpdijaaDoor
