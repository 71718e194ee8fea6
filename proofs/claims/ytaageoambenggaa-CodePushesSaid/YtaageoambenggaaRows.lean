/-
  No cell of these rows narrows 'for every input' (looked for: loops, veiled, ifaces, maps, wideKeys, modest, calm, conditions, laid).
  DERIVED. THE GIVEN ROWS OF THIS SEAT. 16 by the template 'for every input the law returns true; each argument reads behind the call as it read before'; 0 by the template 'total and deterministic' (their statements: YtaageoambenggaaTotals.lean).
  GIVEN WITH THE SEED: the statements are not yours to turn. If you find one false, say at which input.
  Laid BY PROGRAM, IN A SANDBOX (cutbox-rows.mjs): the forced cells as the released guide's own fill.sh prints them over the translation 1d63dfd1878c16b0… (all of the seat's roots in one cut). By AI agents, Wed Nov 11 2026. No macro, syntax, notation, axiom, sorry.
-/
import Derived.Test.YtaageoambenggaaChecked
import GoSem.Claim
import GoSem.ClaimJoined
import GoSem.ClaimMapViews
import Derived.JoinedTies
import Derived.KernelRfl
namespace Go.Proofs.Ytaageoambenggaa
/- THE CELL 'sum', in the pinned program and in every row, IS THE sha256 OF THE DUMP (.gsa) THAT YtaageoambenggaaProg.lean LOADS. Nothing in Lean hashes anything: it is a label: what it is worth is what the hold of that sum in a sandbox is worth. -/
noncomputable def Try.pinned : Pinned := { name := "ytaageoambenggaa", sum := "1d63dfd1878c16b01f8b3e80516e55cac7cae90ae1084cda6df1b6e5b256e0a3", checked := Try.checked }
namespace Rows
def none {H : Type} : Left H := { results := [], args := [] }

/-- 'quaestorlaw08.CodeInfo': WHATEVER THE INPUT: true; the input reads as it did. -/
def codeInfoSpec : ChangeSpec := { name := "codeInfo", fn := fun _ => fun
  | [d] => { results := [.lit (.bool true)], args := [d] }
  | _ => none }
def codeInfoRow : OpenClaim := { program := "ytaageoambenggaa", sum := "1d63dfd1878c16b01f8b3e80516e55cac7cae90ae1084cda6df1b6e5b256e0a3", func := "quaestor/quaestorlaw08.CodeInfo", spec := "codeInfo", unfollowed := true, recurses := true, apart := false }
def CodeInfoSaid : Prop := codeInfoRow.holds Try.pinned (OpenSpec.ofChange codeInfoSpec)

/-- ITS FALSE NEIGHBOUR: 'it returns false'. Refute it at one input. -/
def codeInfoWrong : ChangeSpec := { name := "codeInfo", fn := fun _ => fun
  | [d] => { results := [.lit (.bool false)], args := [d] }
  | _ => none }
def CodeInfoWrongFalsely : Prop := codeInfoRow.holds Try.pinned (OpenSpec.ofChange codeInfoWrong)

/-- 'quaestorlaw08.CodeAhead': WHATEVER THE INPUT: true; the input reads as it did. -/
def codeAheadSpec : ChangeSpec := { name := "codeAhead", fn := fun _ => fun
  | [d1, d2] => { results := [.lit (.bool true)], args := [d1, d2] }
  | _ => none }
def codeAheadRow : OpenClaim := { program := "ytaageoambenggaa", sum := "1d63dfd1878c16b01f8b3e80516e55cac7cae90ae1084cda6df1b6e5b256e0a3", func := "quaestor/quaestorlaw08.CodeAhead", spec := "codeAhead", unfollowed := true, recurses := true, apart := false }
def CodeAheadSaid : Prop := codeAheadRow.holds Try.pinned (OpenSpec.ofChange codeAheadSpec)

/-- ITS FALSE NEIGHBOUR: 'it returns false'. Refute it at one input. -/
def codeAheadWrong : ChangeSpec := { name := "codeAhead", fn := fun _ => fun
  | [d1, d2] => { results := [.lit (.bool false)], args := [d1, d2] }
  | _ => none }
def CodeAheadWrongFalsely : Prop := codeAheadRow.holds Try.pinned (OpenSpec.ofChange codeAheadWrong)

/-- 'quaestorlaw08.CodeShifts': WHATEVER THE INPUT: true; the input reads as it did. -/
def codeShiftsSpec : ChangeSpec := { name := "codeShifts", fn := fun _ => fun
  | [d1, d2] => { results := [.lit (.bool true)], args := [d1, d2] }
  | _ => none }
def codeShiftsRow : OpenClaim := { program := "ytaageoambenggaa", sum := "1d63dfd1878c16b01f8b3e80516e55cac7cae90ae1084cda6df1b6e5b256e0a3", func := "quaestor/quaestorlaw08.CodeShifts", spec := "codeShifts", unfollowed := true, recurses := true, apart := false }
def CodeShiftsSaid : Prop := codeShiftsRow.holds Try.pinned (OpenSpec.ofChange codeShiftsSpec)

/-- ITS FALSE NEIGHBOUR: 'it returns false'. Refute it at one input. -/
def codeShiftsWrong : ChangeSpec := { name := "codeShifts", fn := fun _ => fun
  | [d1, d2] => { results := [.lit (.bool false)], args := [d1, d2] }
  | _ => none }
def CodeShiftsWrongFalsely : Prop := codeShiftsRow.holds Try.pinned (OpenSpec.ofChange codeShiftsWrong)

/-- 'quaestorlaw08.CodePushes': WHATEVER THE INPUT: true; the input reads as it did. -/
def codePushesSpec : ChangeSpec := { name := "codePushes", fn := fun _ => fun
  | [d1, d2, d3] => { results := [.lit (.bool true)], args := [d1, d2, d3] }
  | _ => none }
def codePushesRow : OpenClaim := { program := "ytaageoambenggaa", sum := "1d63dfd1878c16b01f8b3e80516e55cac7cae90ae1084cda6df1b6e5b256e0a3", func := "quaestor/quaestorlaw08.CodePushes", spec := "codePushes", unfollowed := true, recurses := true, apart := false }
def CodePushesSaid : Prop := codePushesRow.holds Try.pinned (OpenSpec.ofChange codePushesSpec)

/-- ITS FALSE NEIGHBOUR: 'it returns false'. Refute it at one input. -/
def codePushesWrong : ChangeSpec := { name := "codePushes", fn := fun _ => fun
  | [d1, d2, d3] => { results := [.lit (.bool false)], args := [d1, d2, d3] }
  | _ => none }
def CodePushesWrongFalsely : Prop := codePushesRow.holds Try.pinned (OpenSpec.ofChange codePushesWrong)

/-- 'quaestorlaw08.CodeLooks': WHATEVER THE INPUT: true; the input reads as it did. -/
def codeLooksSpec : ChangeSpec := { name := "codeLooks", fn := fun _ => fun
  | [d1, d2, d3] => { results := [.lit (.bool true)], args := [d1, d2, d3] }
  | _ => none }
def codeLooksRow : OpenClaim := { program := "ytaageoambenggaa", sum := "1d63dfd1878c16b01f8b3e80516e55cac7cae90ae1084cda6df1b6e5b256e0a3", func := "quaestor/quaestorlaw08.CodeLooks", spec := "codeLooks", unfollowed := true, recurses := true, apart := false }
def CodeLooksSaid : Prop := codeLooksRow.holds Try.pinned (OpenSpec.ofChange codeLooksSpec)

/-- ITS FALSE NEIGHBOUR: 'it returns false'. Refute it at one input. -/
def codeLooksWrong : ChangeSpec := { name := "codeLooks", fn := fun _ => fun
  | [d1, d2, d3] => { results := [.lit (.bool false)], args := [d1, d2, d3] }
  | _ => none }
def CodeLooksWrongFalsely : Prop := codeLooksRow.holds Try.pinned (OpenSpec.ofChange codeLooksWrong)

/-- 'quaestorlaw08.CodeJumps': WHATEVER THE INPUT: true; the input reads as it did. -/
def codeJumpsSpec : ChangeSpec := { name := "codeJumps", fn := fun _ => fun
  | [d] => { results := [.lit (.bool true)], args := [d] }
  | _ => none }
def codeJumpsRow : OpenClaim := { program := "ytaageoambenggaa", sum := "1d63dfd1878c16b01f8b3e80516e55cac7cae90ae1084cda6df1b6e5b256e0a3", func := "quaestor/quaestorlaw08.CodeJumps", spec := "codeJumps", unfollowed := true, recurses := true, apart := false }
def CodeJumpsSaid : Prop := codeJumpsRow.holds Try.pinned (OpenSpec.ofChange codeJumpsSpec)

/-- ITS FALSE NEIGHBOUR: 'it returns false'. Refute it at one input. -/
def codeJumpsWrong : ChangeSpec := { name := "codeJumps", fn := fun _ => fun
  | [d] => { results := [.lit (.bool false)], args := [d] }
  | _ => none }
def CodeJumpsWrongFalsely : Prop := codeJumpsRow.holds Try.pinned (OpenSpec.ofChange codeJumpsWrong)

/-- 'quaestorlaw09.FeesTables': WHATEVER THE INPUT: true; the input reads as it did. -/
def feesTablesSpec : ChangeSpec := { name := "feesTables", fn := fun _ => fun
  | [d1, d2, d3] => { results := [.lit (.bool true)], args := [d1, d2, d3] }
  | _ => none }
def feesTablesRow : OpenClaim := { program := "ytaageoambenggaa", sum := "1d63dfd1878c16b01f8b3e80516e55cac7cae90ae1084cda6df1b6e5b256e0a3", func := "quaestor/quaestorlaw09.FeesTables", spec := "feesTables", apart := false }
def FeesTablesSaid : Prop := feesTablesRow.holds Try.pinned (OpenSpec.ofChange feesTablesSpec)

/-- ITS FALSE NEIGHBOUR: 'it returns false'. Refute it at one input. -/
def feesTablesWrong : ChangeSpec := { name := "feesTables", fn := fun _ => fun
  | [d1, d2, d3] => { results := [.lit (.bool false)], args := [d1, d2, d3] }
  | _ => none }
def FeesTablesWrongFalsely : Prop := feesTablesRow.holds Try.pinned (OpenSpec.ofChange feesTablesWrong)

/-- 'quaestorlaw09.FeesStores': WHATEVER THE INPUT: true; the input reads as it did. -/
def feesStoresSpec : ChangeSpec := { name := "feesStores", fn := fun _ => fun
  | [d1, d2, d3, d4] => { results := [.lit (.bool true)], args := [d1, d2, d3, d4] }
  | _ => none }
def feesStoresRow : OpenClaim := { program := "ytaageoambenggaa", sum := "1d63dfd1878c16b01f8b3e80516e55cac7cae90ae1084cda6df1b6e5b256e0a3", func := "quaestor/quaestorlaw09.FeesStores", spec := "feesStores", apart := false }
def FeesStoresSaid : Prop := feesStoresRow.holds Try.pinned (OpenSpec.ofChange feesStoresSpec)

/-- ITS FALSE NEIGHBOUR: 'it returns false'. Refute it at one input. -/
def feesStoresWrong : ChangeSpec := { name := "feesStores", fn := fun _ => fun
  | [d1, d2, d3, d4] => { results := [.lit (.bool false)], args := [d1, d2, d3, d4] }
  | _ => none }
def FeesStoresWrongFalsely : Prop := feesStoresRow.holds Try.pinned (OpenSpec.ofChange feesStoresWrong)

/-- 'quaestorlaw09.FeesGrow': WHATEVER THE INPUT: true; the input reads as it did. -/
def feesGrowSpec : ChangeSpec := { name := "feesGrow", fn := fun _ => fun
  | [d1, d2, d3, d4] => { results := [.lit (.bool true)], args := [d1, d2, d3, d4] }
  | _ => none }
def feesGrowRow : OpenClaim := { program := "ytaageoambenggaa", sum := "1d63dfd1878c16b01f8b3e80516e55cac7cae90ae1084cda6df1b6e5b256e0a3", func := "quaestor/quaestorlaw09.FeesGrow", spec := "feesGrow", apart := false }
def FeesGrowSaid : Prop := feesGrowRow.holds Try.pinned (OpenSpec.ofChange feesGrowSpec)

/-- ITS FALSE NEIGHBOUR: 'it returns false'. Refute it at one input. -/
def feesGrowWrong : ChangeSpec := { name := "feesGrow", fn := fun _ => fun
  | [d1, d2, d3, d4] => { results := [.lit (.bool false)], args := [d1, d2, d3, d4] }
  | _ => none }
def FeesGrowWrongFalsely : Prop := feesGrowRow.holds Try.pinned (OpenSpec.ofChange feesGrowWrong)

/-- 'quaestorlaw09.FeesRound': WHATEVER THE INPUT: true; the input reads as it did. -/
def feesRoundSpec : ChangeSpec := { name := "feesRound", fn := fun _ => fun
  | [d1, d2] => { results := [.lit (.bool true)], args := [d1, d2] }
  | _ => none }
def feesRoundRow : OpenClaim := { program := "ytaageoambenggaa", sum := "1d63dfd1878c16b01f8b3e80516e55cac7cae90ae1084cda6df1b6e5b256e0a3", func := "quaestor/quaestorlaw09.FeesRound", spec := "feesRound", apart := false }
def FeesRoundSaid : Prop := feesRoundRow.holds Try.pinned (OpenSpec.ofChange feesRoundSpec)

/-- ITS FALSE NEIGHBOUR: 'it returns false'. Refute it at one input. -/
def feesRoundWrong : ChangeSpec := { name := "feesRound", fn := fun _ => fun
  | [d1, d2] => { results := [.lit (.bool false)], args := [d1, d2] }
  | _ => none }
def FeesRoundWrongFalsely : Prop := feesRoundRow.holds Try.pinned (OpenSpec.ofChange feesRoundWrong)

/-- 'quaestorlaw09.FeesSum': WHATEVER THE INPUT: true; the input reads as it did. -/
def feesSumSpec : ChangeSpec := { name := "feesSum", fn := fun _ => fun
  | [d1, d2] => { results := [.lit (.bool true)], args := [d1, d2] }
  | _ => none }
def feesSumRow : OpenClaim := { program := "ytaageoambenggaa", sum := "1d63dfd1878c16b01f8b3e80516e55cac7cae90ae1084cda6df1b6e5b256e0a3", func := "quaestor/quaestorlaw09.FeesSum", spec := "feesSum", apart := false }
def FeesSumSaid : Prop := feesSumRow.holds Try.pinned (OpenSpec.ofChange feesSumSpec)

/-- ITS FALSE NEIGHBOUR: 'it returns false'. Refute it at one input. -/
def feesSumWrong : ChangeSpec := { name := "feesSum", fn := fun _ => fun
  | [d1, d2] => { results := [.lit (.bool false)], args := [d1, d2] }
  | _ => none }
def FeesSumWrongFalsely : Prop := feesSumRow.holds Try.pinned (OpenSpec.ofChange feesSumWrong)

/-- 'quaestorlaw09.FeesGas': WHATEVER THE INPUT: true; the input reads as it did. -/
def feesGasSpec : ChangeSpec := { name := "feesGas", fn := fun _ => fun
  | [d1, d2, d3, d4, d5] => { results := [.lit (.bool true)], args := [d1, d2, d3, d4, d5] }
  | _ => none }
def feesGasRow : OpenClaim := { program := "ytaageoambenggaa", sum := "1d63dfd1878c16b01f8b3e80516e55cac7cae90ae1084cda6df1b6e5b256e0a3", func := "quaestor/quaestorlaw09.FeesGas", spec := "feesGas", apart := false }
def FeesGasSaid : Prop := feesGasRow.holds Try.pinned (OpenSpec.ofChange feesGasSpec)

/-- ITS FALSE NEIGHBOUR: 'it returns false'. Refute it at one input. -/
def feesGasWrong : ChangeSpec := { name := "feesGas", fn := fun _ => fun
  | [d1, d2, d3, d4, d5] => { results := [.lit (.bool false)], args := [d1, d2, d3, d4, d5] }
  | _ => none }
def FeesGasWrongFalsely : Prop := feesGasRow.holds Try.pinned (OpenSpec.ofChange feesGasWrong)

/-- 'quaestorlaw11.CalcDoes': WHATEVER THE INPUT: true; the input reads as it did. -/
def calcDoesSpec : ChangeSpec := { name := "calcDoes", fn := fun _ => fun
  | [d1, d2] => { results := [.lit (.bool true)], args := [d1, d2] }
  | _ => none }
def calcDoesRow : OpenClaim := { program := "ytaageoambenggaa", sum := "1d63dfd1878c16b01f8b3e80516e55cac7cae90ae1084cda6df1b6e5b256e0a3", func := "quaestor/quaestorlaw11.CalcDoes", spec := "calcDoes", inPlace := ["math/bits.Sub64", "math/bits.Add64"], unfollowed := true, recurses := true, apart := false }
def CalcDoesSaid : Prop := calcDoesRow.holds Try.pinned (OpenSpec.ofChange calcDoesSpec)

/-- ITS FALSE NEIGHBOUR: 'it returns false'. Refute it at one input. -/
def calcDoesWrong : ChangeSpec := { name := "calcDoes", fn := fun _ => fun
  | [d1, d2] => { results := [.lit (.bool false)], args := [d1, d2] }
  | _ => none }
def CalcDoesWrongFalsely : Prop := calcDoesRow.holds Try.pinned (OpenSpec.ofChange calcDoesWrong)

/-- 'quaestorlaw11.CalcPairs': WHATEVER THE INPUT: true; the input reads as it did. -/
def calcPairsSpec : ChangeSpec := { name := "calcPairs", fn := fun _ => fun
  | [d1, d2, d3, d4] => { results := [.lit (.bool true)], args := [d1, d2, d3, d4] }
  | _ => none }
def calcPairsRow : OpenClaim := { program := "ytaageoambenggaa", sum := "1d63dfd1878c16b01f8b3e80516e55cac7cae90ae1084cda6df1b6e5b256e0a3", func := "quaestor/quaestorlaw11.CalcPairs", spec := "calcPairs", inPlace := ["math/bits.Sub64", "math/bits.Add64"], unfollowed := true, recurses := true, apart := false }
def CalcPairsSaid : Prop := calcPairsRow.holds Try.pinned (OpenSpec.ofChange calcPairsSpec)

/-- ITS FALSE NEIGHBOUR: 'it returns false'. Refute it at one input. -/
def calcPairsWrong : ChangeSpec := { name := "calcPairs", fn := fun _ => fun
  | [d1, d2, d3, d4] => { results := [.lit (.bool false)], args := [d1, d2, d3, d4] }
  | _ => none }
def CalcPairsWrongFalsely : Prop := calcPairsRow.holds Try.pinned (OpenSpec.ofChange calcPairsWrong)

/-- 'quaestorlaw11.CalcTruths': WHATEVER THE INPUT: true; the input reads as it did. -/
def calcTruthsSpec : ChangeSpec := { name := "calcTruths", fn := fun _ => fun
  | [d1, d2] => { results := [.lit (.bool true)], args := [d1, d2] }
  | _ => none }
def calcTruthsRow : OpenClaim := { program := "ytaageoambenggaa", sum := "1d63dfd1878c16b01f8b3e80516e55cac7cae90ae1084cda6df1b6e5b256e0a3", func := "quaestor/quaestorlaw11.CalcTruths", spec := "calcTruths", inPlace := ["math/bits.Sub64", "math/bits.Add64"], unfollowed := true, recurses := true, apart := false }
def CalcTruthsSaid : Prop := calcTruthsRow.holds Try.pinned (OpenSpec.ofChange calcTruthsSpec)

/-- ITS FALSE NEIGHBOUR: 'it returns false'. Refute it at one input. -/
def calcTruthsWrong : ChangeSpec := { name := "calcTruths", fn := fun _ => fun
  | [d1, d2] => { results := [.lit (.bool false)], args := [d1, d2] }
  | _ => none }
def CalcTruthsWrongFalsely : Prop := calcTruthsRow.holds Try.pinned (OpenSpec.ofChange calcTruthsWrong)

/-- 'quaestorlaw11.CalcSides': WHATEVER THE INPUT: true; the input reads as it did. -/
def calcSidesSpec : ChangeSpec := { name := "calcSides", fn := fun _ => fun
  | [d1, d2] => { results := [.lit (.bool true)], args := [d1, d2] }
  | _ => none }
def calcSidesRow : OpenClaim := { program := "ytaageoambenggaa", sum := "1d63dfd1878c16b01f8b3e80516e55cac7cae90ae1084cda6df1b6e5b256e0a3", func := "quaestor/quaestorlaw11.CalcSides", spec := "calcSides", inPlace := ["math/bits.Sub64", "math/bits.Add64"], unfollowed := true, recurses := true, apart := false }
def CalcSidesSaid : Prop := calcSidesRow.holds Try.pinned (OpenSpec.ofChange calcSidesSpec)

/-- ITS FALSE NEIGHBOUR: 'it returns false'. Refute it at one input. -/
def calcSidesWrong : ChangeSpec := { name := "calcSides", fn := fun _ => fun
  | [d1, d2] => { results := [.lit (.bool false)], args := [d1, d2] }
  | _ => none }
def CalcSidesWrongFalsely : Prop := calcSidesRow.holds Try.pinned (OpenSpec.ofChange calcSidesWrong)

/- THE SECOND FORM. 'bulk': how many values and letters a reading holds, each counted each time it is reached (what is shared counts as often as it is met; a slice's spare places count too). A statement '..UptoSaid' is the law's where the arguments, and the package variables that the reading takes, are together of bulk at most 1048576: NARROWER than '..Said'. Prove '..Said' where nothing that the law and all that it calls make is longer than what came in: it says more and counts as full. Else prove '..UptoSaid'. A law counts once. -/
mutual
def uptoBulk {H : Type} : DataW H → Nat
  | .lit (.string bytes) => bytes.length + 1
  | .lit _ => 1
  | .nil => 1
  | .ptr d => uptoBulk d + 1
  | .slice elems spare => uptoBulkAll elems + uptoBulkAll spare + 1
  | .agg parts => uptoBulkAll parts + 1
  | .iface _ d => uptoBulk d + 1
  | .map entries => uptoBulkEntries entries + 1
  | .held _ => 1
def uptoBulkAll {H : Type} : List (DataW H) → Nat
  | [] => 0
  | d :: r => uptoBulk d + uptoBulkAll r
def uptoBulkEntries {H : Type} : List (Lit × DataW H) → Nat
  | [] => 0
  | x :: r => uptoBulkEntry x + uptoBulkEntries r
def uptoBulkEntry {H : Type} : Lit × DataW H → Nat
  | (.string bytes, d) => bytes.length + uptoBulk d + 1
  | (_, d) => uptoBulk d + 1
 end
def uptoSmall : (H : Type) → List (DataW H) → Bool := fun _ ds => decide (uptoBulkAll ds ≤ 1048576)
def OpenSpec.upto (s : _root_.Go.ChangeSpec) : _root_.Go.OpenSpec := { _root_.Go.OpenSpec.ofChange s with cond := some uptoSmall }

/-- 'quaestorlaw08.CodeInfo', WHERE WHAT IT READS IS OF BULK AT MOST 1048576: true; the input reads as it did. -/
def codeInfoUptoRow : OpenClaim := { program := "ytaageoambenggaa", sum := "1d63dfd1878c16b01f8b3e80516e55cac7cae90ae1084cda6df1b6e5b256e0a3", func := "quaestor/quaestorlaw08.CodeInfo", spec := "codeInfo", unfollowed := true, recurses := true, apart := false, narrowed := true }
def CodeInfoUptoSaid : Prop := codeInfoUptoRow.holds Try.pinned (OpenSpec.upto codeInfoSpec)

/-- 'quaestorlaw08.CodeAhead', WHERE WHAT IT READS IS OF BULK AT MOST 1048576: true; the input reads as it did. -/
def codeAheadUptoRow : OpenClaim := { program := "ytaageoambenggaa", sum := "1d63dfd1878c16b01f8b3e80516e55cac7cae90ae1084cda6df1b6e5b256e0a3", func := "quaestor/quaestorlaw08.CodeAhead", spec := "codeAhead", unfollowed := true, recurses := true, apart := false, narrowed := true }
def CodeAheadUptoSaid : Prop := codeAheadUptoRow.holds Try.pinned (OpenSpec.upto codeAheadSpec)

/-- 'quaestorlaw08.CodeShifts', WHERE WHAT IT READS IS OF BULK AT MOST 1048576: true; the input reads as it did. -/
def codeShiftsUptoRow : OpenClaim := { program := "ytaageoambenggaa", sum := "1d63dfd1878c16b01f8b3e80516e55cac7cae90ae1084cda6df1b6e5b256e0a3", func := "quaestor/quaestorlaw08.CodeShifts", spec := "codeShifts", unfollowed := true, recurses := true, apart := false, narrowed := true }
def CodeShiftsUptoSaid : Prop := codeShiftsUptoRow.holds Try.pinned (OpenSpec.upto codeShiftsSpec)

/-- 'quaestorlaw08.CodePushes', WHERE WHAT IT READS IS OF BULK AT MOST 1048576: true; the input reads as it did. -/
def codePushesUptoRow : OpenClaim := { program := "ytaageoambenggaa", sum := "1d63dfd1878c16b01f8b3e80516e55cac7cae90ae1084cda6df1b6e5b256e0a3", func := "quaestor/quaestorlaw08.CodePushes", spec := "codePushes", unfollowed := true, recurses := true, apart := false, narrowed := true }
def CodePushesUptoSaid : Prop := codePushesUptoRow.holds Try.pinned (OpenSpec.upto codePushesSpec)

/-- 'quaestorlaw08.CodeLooks', WHERE WHAT IT READS IS OF BULK AT MOST 1048576: true; the input reads as it did. -/
def codeLooksUptoRow : OpenClaim := { program := "ytaageoambenggaa", sum := "1d63dfd1878c16b01f8b3e80516e55cac7cae90ae1084cda6df1b6e5b256e0a3", func := "quaestor/quaestorlaw08.CodeLooks", spec := "codeLooks", unfollowed := true, recurses := true, apart := false, narrowed := true }
def CodeLooksUptoSaid : Prop := codeLooksUptoRow.holds Try.pinned (OpenSpec.upto codeLooksSpec)

/-- 'quaestorlaw08.CodeJumps', WHERE WHAT IT READS IS OF BULK AT MOST 1048576: true; the input reads as it did. -/
def codeJumpsUptoRow : OpenClaim := { program := "ytaageoambenggaa", sum := "1d63dfd1878c16b01f8b3e80516e55cac7cae90ae1084cda6df1b6e5b256e0a3", func := "quaestor/quaestorlaw08.CodeJumps", spec := "codeJumps", unfollowed := true, recurses := true, apart := false, narrowed := true }
def CodeJumpsUptoSaid : Prop := codeJumpsUptoRow.holds Try.pinned (OpenSpec.upto codeJumpsSpec)

/-- 'quaestorlaw09.FeesTables', WHERE WHAT IT READS IS OF BULK AT MOST 1048576: true; the input reads as it did. -/
def feesTablesUptoRow : OpenClaim := { program := "ytaageoambenggaa", sum := "1d63dfd1878c16b01f8b3e80516e55cac7cae90ae1084cda6df1b6e5b256e0a3", func := "quaestor/quaestorlaw09.FeesTables", spec := "feesTables", apart := false, narrowed := true }
def FeesTablesUptoSaid : Prop := feesTablesUptoRow.holds Try.pinned (OpenSpec.upto feesTablesSpec)

/-- 'quaestorlaw09.FeesStores', WHERE WHAT IT READS IS OF BULK AT MOST 1048576: true; the input reads as it did. -/
def feesStoresUptoRow : OpenClaim := { program := "ytaageoambenggaa", sum := "1d63dfd1878c16b01f8b3e80516e55cac7cae90ae1084cda6df1b6e5b256e0a3", func := "quaestor/quaestorlaw09.FeesStores", spec := "feesStores", apart := false, narrowed := true }
def FeesStoresUptoSaid : Prop := feesStoresUptoRow.holds Try.pinned (OpenSpec.upto feesStoresSpec)

/-- 'quaestorlaw09.FeesGrow', WHERE WHAT IT READS IS OF BULK AT MOST 1048576: true; the input reads as it did. -/
def feesGrowUptoRow : OpenClaim := { program := "ytaageoambenggaa", sum := "1d63dfd1878c16b01f8b3e80516e55cac7cae90ae1084cda6df1b6e5b256e0a3", func := "quaestor/quaestorlaw09.FeesGrow", spec := "feesGrow", apart := false, narrowed := true }
def FeesGrowUptoSaid : Prop := feesGrowUptoRow.holds Try.pinned (OpenSpec.upto feesGrowSpec)

/-- 'quaestorlaw09.FeesRound', WHERE WHAT IT READS IS OF BULK AT MOST 1048576: true; the input reads as it did. -/
def feesRoundUptoRow : OpenClaim := { program := "ytaageoambenggaa", sum := "1d63dfd1878c16b01f8b3e80516e55cac7cae90ae1084cda6df1b6e5b256e0a3", func := "quaestor/quaestorlaw09.FeesRound", spec := "feesRound", apart := false, narrowed := true }
def FeesRoundUptoSaid : Prop := feesRoundUptoRow.holds Try.pinned (OpenSpec.upto feesRoundSpec)

/-- 'quaestorlaw09.FeesSum', WHERE WHAT IT READS IS OF BULK AT MOST 1048576: true; the input reads as it did. -/
def feesSumUptoRow : OpenClaim := { program := "ytaageoambenggaa", sum := "1d63dfd1878c16b01f8b3e80516e55cac7cae90ae1084cda6df1b6e5b256e0a3", func := "quaestor/quaestorlaw09.FeesSum", spec := "feesSum", apart := false, narrowed := true }
def FeesSumUptoSaid : Prop := feesSumUptoRow.holds Try.pinned (OpenSpec.upto feesSumSpec)

/-- 'quaestorlaw09.FeesGas', WHERE WHAT IT READS IS OF BULK AT MOST 1048576: true; the input reads as it did. -/
def feesGasUptoRow : OpenClaim := { program := "ytaageoambenggaa", sum := "1d63dfd1878c16b01f8b3e80516e55cac7cae90ae1084cda6df1b6e5b256e0a3", func := "quaestor/quaestorlaw09.FeesGas", spec := "feesGas", apart := false, narrowed := true }
def FeesGasUptoSaid : Prop := feesGasUptoRow.holds Try.pinned (OpenSpec.upto feesGasSpec)

/-- 'quaestorlaw11.CalcDoes', WHERE WHAT IT READS IS OF BULK AT MOST 1048576: true; the input reads as it did. -/
def calcDoesUptoRow : OpenClaim := { program := "ytaageoambenggaa", sum := "1d63dfd1878c16b01f8b3e80516e55cac7cae90ae1084cda6df1b6e5b256e0a3", func := "quaestor/quaestorlaw11.CalcDoes", spec := "calcDoes", inPlace := ["math/bits.Sub64", "math/bits.Add64"], unfollowed := true, recurses := true, apart := false, narrowed := true }
def CalcDoesUptoSaid : Prop := calcDoesUptoRow.holds Try.pinned (OpenSpec.upto calcDoesSpec)

/-- 'quaestorlaw11.CalcPairs', WHERE WHAT IT READS IS OF BULK AT MOST 1048576: true; the input reads as it did. -/
def calcPairsUptoRow : OpenClaim := { program := "ytaageoambenggaa", sum := "1d63dfd1878c16b01f8b3e80516e55cac7cae90ae1084cda6df1b6e5b256e0a3", func := "quaestor/quaestorlaw11.CalcPairs", spec := "calcPairs", inPlace := ["math/bits.Sub64", "math/bits.Add64"], unfollowed := true, recurses := true, apart := false, narrowed := true }
def CalcPairsUptoSaid : Prop := calcPairsUptoRow.holds Try.pinned (OpenSpec.upto calcPairsSpec)

/-- 'quaestorlaw11.CalcTruths', WHERE WHAT IT READS IS OF BULK AT MOST 1048576: true; the input reads as it did. -/
def calcTruthsUptoRow : OpenClaim := { program := "ytaageoambenggaa", sum := "1d63dfd1878c16b01f8b3e80516e55cac7cae90ae1084cda6df1b6e5b256e0a3", func := "quaestor/quaestorlaw11.CalcTruths", spec := "calcTruths", inPlace := ["math/bits.Sub64", "math/bits.Add64"], unfollowed := true, recurses := true, apart := false, narrowed := true }
def CalcTruthsUptoSaid : Prop := calcTruthsUptoRow.holds Try.pinned (OpenSpec.upto calcTruthsSpec)

/-- 'quaestorlaw11.CalcSides', WHERE WHAT IT READS IS OF BULK AT MOST 1048576: true; the input reads as it did. -/
def calcSidesUptoRow : OpenClaim := { program := "ytaageoambenggaa", sum := "1d63dfd1878c16b01f8b3e80516e55cac7cae90ae1084cda6df1b6e5b256e0a3", func := "quaestor/quaestorlaw11.CalcSides", spec := "calcSides", inPlace := ["math/bits.Sub64", "math/bits.Add64"], unfollowed := true, recurses := true, apart := false, narrowed := true }
def CalcSidesUptoSaid : Prop := calcSidesUptoRow.holds Try.pinned (OpenSpec.upto calcSidesSpec)

end Rows
end Go.Proofs.Ytaageoambenggaa
