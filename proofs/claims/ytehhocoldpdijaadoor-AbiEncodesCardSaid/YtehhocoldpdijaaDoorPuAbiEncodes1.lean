/- Plain laws about what the functions compute. Conditions: the arguments' bounds, as each theorem says. -/
import Derived.Test.YtehhocoldpdijaaDoorFnAbiEncodes1
import Derived.Test.YtehhocoldpdijaaDoorBinF1
import Derived.Test.YtehhocoldpdijaaDoorFnAbiEncodes2
import Derived.Test.YtehhocoldpdijaaDoorAbsF6
import Derived.Test.YtehhocoldpdijaaDoorFnAbiEncodes3
section
set_option linter.unusedVariables false
set_option linter.unusedSimpArgs false
set_option maxRecDepth 100000
namespace Go.Abs.Pure
open Go Go.Abs
def xor64 (x y : Int) : Int := ibits .xor .u64 x y
def rotl (x : Int) (k : Int) : Int := ibits .or .u64 (ishl .u64 x k) (ishr .u64 x (64 - k))
def col (s : List Int) (i : Nat) : Int := xor64 (xor64 (xor64 (xor64 (s.getD i 0) (s.getD (5 + i) 0)) (s.getD (10 + i) 0)) (s.getD (15 + i) 0)) (s.getD (20 + i) 0)
def cols (s : List Int) : List Int := [col s 0, col s 1, col s 2, col s 3, col s 4]
def col0 (s : List Int) (i : Nat) : Int := xor64 (xor64 (xor64 (xor64 (xor64 0 (s.getD i 0)) (s.getD (5 + i) 0)) (s.getD (10 + i) 0)) (s.getD (15 + i) 0)) (s.getD (20 + i) 0)
def cols0 (s : List Int) : List Int := [col0 s 0, col0 s 1, col0 s 2, col0 s 3, col0 s 4]
theorem spread_cols (a0 a1 a2 a3 a4 a5 a6 a7 a8 a9 b0 b1 b2 b3 b4 b5 b6 b7 b8 b9 c0 c1 c2 c3 c4 : Int) :
    keccak_state_spread.l2_0.m 200000 200000 (0, [a0, a1, a2, a3, a4, a5, a6, a7, a8, a9, b0, b1, b2, b3, b4, b5, b6, b7, b8, b9, c0, c1, c2, c3, c4], [0, 0, 0, 0, 0]) = some ([a0, a1, a2, a3, a4, a5, a6, a7, a8, a9, b0, b1, b2, b3, b4, b5, b6, b7, b8, b9, c0, c1, c2, c3, c4], cols0 [a0, a1, a2, a3, a4, a5, a6, a7, a8, a9, b0, b1, b2, b3, b4, b5, b6, b7, b8, b9, c0, c1, c2, c3, c4]) := by kernel_rfl
def mixC (s c : List Int) : List Int := (List.range 25).map fun i => xor64 (s.getD i 0) (xor64 (c.getD ((i + 4) % 5) 0) (rotl (c.getD ((i + 1) % 5) 0) 1))
theorem spread_mix (d0 d1 d2 d3 d4 a0 a1 a2 a3 a4 a5 a6 a7 a8 a9 b0 b1 b2 b3 b4 b5 b6 b7 b8 b9 c0 c1 c2 c3 c4 : Int) :
    keccak_state_spread.l7_0.m 200000 200000 (0, [a0, a1, a2, a3, a4, a5, a6, a7, a8, a9, b0, b1, b2, b3, b4, b5, b6, b7, b8, b9, c0, c1, c2, c3, c4], [d0, d1, d2, d3, d4]) = some (mixC [a0, a1, a2, a3, a4, a5, a6, a7, a8, a9, b0, b1, b2, b3, b4, b5, b6, b7, b8, b9, c0, c1, c2, c3, c4] [d0, d1, d2, d3, d4]) := by kernel_rfl
def turnL (s : List Int) : List Int :=
  [s.getD 0 0, rotl (s.getD 6 0) 44, rotl (s.getD 12 0) 43, rotl (s.getD 18 0) 21, rotl (s.getD 24 0) 14,
   rotl (s.getD 3 0) 28, rotl (s.getD 9 0) 20, rotl (s.getD 10 0) 3, rotl (s.getD 16 0) 45, rotl (s.getD 22 0) 61,
   rotl (s.getD 1 0) 1, rotl (s.getD 7 0) 6, rotl (s.getD 13 0) 25, rotl (s.getD 19 0) 8, rotl (s.getD 20 0) 18,
   rotl (s.getD 4 0) 27, rotl (s.getD 5 0) 36, rotl (s.getD 11 0) 10, rotl (s.getD 17 0) 15, rotl (s.getD 23 0) 56,
   rotl (s.getD 2 0) 62, rotl (s.getD 8 0) 55, rotl (s.getD 14 0) 39, rotl (s.getD 15 0) 41, rotl (s.getD 21 0) 2]
theorem turn_ok (a0 a1 a2 a3 a4 a5 a6 a7 a8 a9 b0 b1 b2 b3 b4 b5 b6 b7 b8 b9 c0 c1 c2 c3 c4 : Int) :
    keccak_state_turn.m 200000 [a0, a1, a2, a3, a4, a5, a6, a7, a8, a9, b0, b1, b2, b3, b4, b5, b6, b7, b8, b9, c0, c1, c2, c3, c4] = some (turnL [a0, a1, a2, a3, a4, a5, a6, a7, a8, a9, b0, b1, b2, b3, b4, b5, b6, b7, b8, b9, c0, c1, c2, c3, c4]) := by kernel_rfl
def rowAt (s : List Int) (y x : Nat) : Int := xor64 (s.getD (5 * y + x) 0) (ibits .and .u64 (xor64 18446744073709551615 (s.getD (5 * y + (x + 1) % 5) 0)) (s.getD (5 * y + (x + 2) % 5) 0))
def rowL (s : List Int) : List Int := (List.range 25).map fun i => rowAt s (i / 5) (i % 5)
theorem row_ok (a0 a1 a2 a3 a4 a5 a6 a7 a8 a9 b0 b1 b2 b3 b4 b5 b6 b7 b8 b9 c0 c1 c2 c3 c4 : Int) :
    keccak_state_row.m 200000 [a0, a1, a2, a3, a4, a5, a6, a7, a8, a9, b0, b1, b2, b3, b4, b5, b6, b7, b8, b9, c0, c1, c2, c3, c4] = some (rowL [a0, a1, a2, a3, a4, a5, a6, a7, a8, a9, b0, b1, b2, b3, b4, b5, b6, b7, b8, b9, c0, c1, c2, c3, c4]) := by kernel_rfl
end Go.Abs.Pure
end
section
set_option linter.unusedVariables false
set_option linter.unusedSimpArgs false
set_option maxRecDepth 100000
namespace Go.Abs.Pure
open Go Go.Abs
def turnsT : List Int := [0, 1, 62, 28, 27, 36, 44, 6, 55, 20, 3, 10, 43, 25, 39, 41, 45, 15, 21, 8, 18, 2, 61, 56, 14]
theorem turns_ok : q02_turns.m 200000 () = some turnsT := by kernel_rfl
theorem keys_ok : q02_keys.m 200000 () = some kecKeys := by kernel_rfl
theorem ref_cols (a0 a1 a2 a3 a4 a5 a6 a7 a8 a9 b0 b1 b2 b3 b4 b5 b6 b7 b8 b9 c0 c1 c2 c3 c4 : Int) (r k : List Int) (i : Int) : q02_mix.l6_0.m 200000 200000 (0, [a0, a1, a2, a3, a4, a5, a6, a7, a8, a9, b0, b1, b2, b3, b4, b5, b6, b7, b8, b9, c0, c1, c2, c3, c4], r, k, i, []) = some ([a0, a1, a2, a3, a4, a5, a6, a7, a8, a9, b0, b1, b2, b3, b4, b5, b6, b7, b8, b9, c0, c1, c2, c3, c4], r, k, i, cols [a0, a1, a2, a3, a4, a5, a6, a7, a8, a9, b0, b1, b2, b3, b4, b5, b6, b7, b8, b9, c0, c1, c2, c3, c4]) := by kernel_rfl
theorem ref_cols1 (a0 a1 a2 a3 a4 a5 a6 a7 a8 a9 b0 b1 b2 b3 b4 b5 b6 b7 b8 b9 c0 c1 c2 c3 c4 : Int) (r k : List Int) (i : Int) : q02_mix.l6v1_0.m 200000 200000 (0, r, k, i, [], [a0, a1, a2, a3, a4, a5, a6, a7, a8, a9, b0, b1, b2, b3, b4, b5, b6, b7, b8, b9, c0, c1, c2, c3, c4]) = some (r, k, i, cols [a0, a1, a2, a3, a4, a5, a6, a7, a8, a9, b0, b1, b2, b3, b4, b5, b6, b7, b8, b9, c0, c1, c2, c3, c4], [a0, a1, a2, a3, a4, a5, a6, a7, a8, a9, b0, b1, b2, b3, b4, b5, b6, b7, b8, b9, c0, c1, c2, c3, c4]) := by kernel_rfl
theorem ref_mix (d0 d1 d2 d3 d4 a0 a1 a2 a3 a4 a5 a6 a7 a8 a9 b0 b1 b2 b3 b4 b5 b6 b7 b8 b9 c0 c1 c2 c3 c4 : Int) (k : List Int) (i : Int) : q02_mix.l11_0.m 200000 200000 (0, [a0, a1, a2, a3, a4, a5, a6, a7, a8, a9, b0, b1, b2, b3, b4, b5, b6, b7, b8, b9, c0, c1, c2, c3, c4], turnsT, k, i, [d0, d1, d2, d3, d4], [0, 0, 0, 0, 0, 0, 0, 0, 0, 0, 0, 0, 0, 0, 0, 0, 0, 0, 0, 0, 0, 0, 0, 0, 0]) = some (k, i, turnsT, turnL (mixC [a0, a1, a2, a3, a4, a5, a6, a7, a8, a9, b0, b1, b2, b3, b4, b5, b6, b7, b8, b9, c0, c1, c2, c3, c4] [d0, d1, d2, d3, d4])) := by kernel_rfl
theorem ref_mix1 (d0 d1 d2 d3 d4 a0 a1 a2 a3 a4 a5 a6 a7 a8 a9 b0 b1 b2 b3 b4 b5 b6 b7 b8 b9 c0 c1 c2 c3 c4 : Int) (k : List Int) (i : Int) : q02_mix.l11v1_0.m 200000 200000 (0, turnsT, k, i, [d0, d1, d2, d3, d4], [0, 0, 0, 0, 0, 0, 0, 0, 0, 0, 0, 0, 0, 0, 0, 0, 0, 0, 0, 0, 0, 0, 0, 0, 0], [a0, a1, a2, a3, a4, a5, a6, a7, a8, a9, b0, b1, b2, b3, b4, b5, b6, b7, b8, b9, c0, c1, c2, c3, c4]) = some (k, i, turnsT, turnL (mixC [a0, a1, a2, a3, a4, a5, a6, a7, a8, a9, b0, b1, b2, b3, b4, b5, b6, b7, b8, b9, c0, c1, c2, c3, c4] [d0, d1, d2, d3, d4])) := by kernel_rfl
theorem ref_row (a0 a1 a2 a3 a4 a5 a6 a7 a8 a9 b0 b1 b2 b3 b4 b5 b6 b7 b8 b9 c0 c1 c2 c3 c4 : Int) (k r : List Int) (i : Int) : q02_mix.l20_0.m 200000 200000 (0, k, i, r, [], [a0, a1, a2, a3, a4, a5, a6, a7, a8, a9, b0, b1, b2, b3, b4, b5, b6, b7, b8, b9, c0, c1, c2, c3, c4]) = some (k, i, r, rowL [a0, a1, a2, a3, a4, a5, a6, a7, a8, a9, b0, b1, b2, b3, b4, b5, b6, b7, b8, b9, c0, c1, c2, c3, c4]) := by kernel_rfl
end Go.Abs.Pure
end
section
set_option linter.unusedVariables false
set_option linter.unusedSimpArgs false
set_option maxRecDepth 100000
namespace Go.Abs.Pure
open Go Go.Abs
theorem cons_of {n : Nat} {s : List Int} (h : s.length = n + 1) : ∃ x r, s = x :: r ∧ r.length = n := by
  cases s with
  | nil => simp at h
  | cons x r => exact ⟨x, r, rfl, by simpa using h⟩
theorem nil_of {s : List Int} (h : s.length = 0) : s = [] := List.eq_nil_of_length_eq_zero h
def R64 (s : List Int) : Prop := ∀ x ∈ s, 0 ≤ x ∧ x < 18446744073709551616
theorem R64.getD {s : List Int} (h : R64 s) (i : Nat) : 0 ≤ s.getD i 0 ∧ s.getD i 0 < 18446744073709551616 := by
  rw [List.getD_eq_getElem?_getD]
  cases hi : s[i]? with
  | none => simp
  | some x => exact h x (List.mem_of_getElem? hi)
theorem xor64_range (x y : Int) : 0 ≤ xor64 x y ∧ xor64 x y < 18446744073709551616 := by
  show 0 ≤ IntKind.wrap .u64 _ ∧ IntKind.wrap .u64 _ < _
  rw [wu64]
  omega
theorem xor64_zero {x : Int} (h : 0 ≤ x ∧ x < 18446744073709551616) : xor64 0 x = x := by
  show IntKind.wrap .u64 (BitVec.ofInt 64 0 ^^^ BitVec.ofInt 64 x).toNat = x
  rw [show BitVec.ofInt 64 0 = 0#64 from rfl, BitVec.zero_xor, wu64, BitVec.toNat_ofInt]
  omega
theorem cols_same {s : List Int} (h : R64 s) : cols0 s = cols s := by
  simp only [cols0, cols, col0, col, xor64_zero (h.getD _)]
def coreL (s : List Int) : List Int := rowL (turnL (mixC s (cols s)))
def roundL (s : List Int) (k : Int) : List Int := (coreL s).set 0 (xor64 ((coreL s).getD 0 0) k)
theorem core_length (s : List Int) : (coreL s).length = 25 := by simp [coreL, rowL]
theorem core_R (s : List Int) : R64 (coreL s) := fun x hx => by
  obtain ⟨i, _, rfl⟩ := List.mem_map.1 hx
  exact xor64_range _ _
theorem round_length (s : List Int) (k : Int) : (roundL s k).length = 25 := by rw [roundL, List.length_set, core_length]
theorem round_R (s : List Int) (k : Int) : R64 (roundL s k) := fun x hx => by
  rcases List.mem_or_eq_of_mem_set hx with hx | rfl
  · exact core_R s x hx
  · exact xor64_range _ _
def roundsL : Nat → Nat → List Int → List Int
  | 0, _, s => s
  | r + 1, i, s => roundsL r (i + 1) (roundL s (kecKeys.getD i 0))
theorem rounds_length : ∀ (r i : Nat) {s : List Int}, s.length = 25 → (roundsL r i s).length = 25
  | 0, _, _, h => h
  | r + 1, i, s, h => rounds_length r (i + 1) (round_length s _)
theorem rounds_R : ∀ (r i : Nat) {s : List Int}, R64 s → R64 (roundsL r i s)
  | 0, _, _, h => h
  | r + 1, i, s, h => rounds_R r (i + 1) (round_R s _)
theorem spread_ok {s : List Int} (h : s.length = 25) : keccak_state_spread.m 200000 s = some (mixC s (cols0 s)) := by
  obtain ⟨a0, s0, rfl, h0⟩ := cons_of h
  obtain ⟨a1, s1, rfl, h1⟩ := cons_of h0
  obtain ⟨a2, s2, rfl, h2⟩ := cons_of h1
  obtain ⟨a3, s3, rfl, h3⟩ := cons_of h2
  obtain ⟨a4, s4, rfl, h4⟩ := cons_of h3
  obtain ⟨a5, s5, rfl, h5⟩ := cons_of h4
  obtain ⟨a6, s6, rfl, h6⟩ := cons_of h5
  obtain ⟨a7, s7, rfl, h7⟩ := cons_of h6
  obtain ⟨a8, s8, rfl, h8⟩ := cons_of h7
  obtain ⟨a9, s9, rfl, h9⟩ := cons_of h8
  obtain ⟨b0, s10, rfl, h10⟩ := cons_of h9
  obtain ⟨b1, s11, rfl, h11⟩ := cons_of h10
  obtain ⟨b2, s12, rfl, h12⟩ := cons_of h11
  obtain ⟨b3, s13, rfl, h13⟩ := cons_of h12
  obtain ⟨b4, s14, rfl, h14⟩ := cons_of h13
  obtain ⟨b5, s15, rfl, h15⟩ := cons_of h14
  obtain ⟨b6, s16, rfl, h16⟩ := cons_of h15
  obtain ⟨b7, s17, rfl, h17⟩ := cons_of h16
  obtain ⟨b8, s18, rfl, h18⟩ := cons_of h17
  obtain ⟨b9, s19, rfl, h19⟩ := cons_of h18
  obtain ⟨c0, s20, rfl, h20⟩ := cons_of h19
  obtain ⟨c1, s21, rfl, h21⟩ := cons_of h20
  obtain ⟨c2, s22, rfl, h22⟩ := cons_of h21
  obtain ⟨c3, s23, rfl, h23⟩ := cons_of h22
  obtain ⟨c4, s24, rfl, h24⟩ := cons_of h23
  obtain rfl := nil_of h24
  simp only [keccak_state_spread.m, keccak_state_spread.g, spread_cols, bindO, Option.bind_some]
  rw [show cols0 [a0, a1, a2, a3, a4, a5, a6, a7, a8, a9, b0, b1, b2, b3, b4, b5, b6, b7, b8, b9, c0, c1, c2, c3, c4] = [col0 [a0, a1, a2, a3, a4, a5, a6, a7, a8, a9, b0, b1, b2, b3, b4, b5, b6, b7, b8, b9, c0, c1, c2, c3, c4] 0, col0 [a0, a1, a2, a3, a4, a5, a6, a7, a8, a9, b0, b1, b2, b3, b4, b5, b6, b7, b8, b9, c0, c1, c2, c3, c4] 1, col0 [a0, a1, a2, a3, a4, a5, a6, a7, a8, a9, b0, b1, b2, b3, b4, b5, b6, b7, b8, b9, c0, c1, c2, c3, c4] 2, col0 [a0, a1, a2, a3, a4, a5, a6, a7, a8, a9, b0, b1, b2, b3, b4, b5, b6, b7, b8, b9, c0, c1, c2, c3, c4] 3, col0 [a0, a1, a2, a3, a4, a5, a6, a7, a8, a9, b0, b1, b2, b3, b4, b5, b6, b7, b8, b9, c0, c1, c2, c3, c4] 4] from rfl, spread_mix]
  rfl
theorem turn_all {s : List Int} (h : s.length = 25) : keccak_state_turn.m 200000 s = some (turnL s) := by
  obtain ⟨a0, s0, rfl, h0⟩ := cons_of h
  obtain ⟨a1, s1, rfl, h1⟩ := cons_of h0
  obtain ⟨a2, s2, rfl, h2⟩ := cons_of h1
  obtain ⟨a3, s3, rfl, h3⟩ := cons_of h2
  obtain ⟨a4, s4, rfl, h4⟩ := cons_of h3
  obtain ⟨a5, s5, rfl, h5⟩ := cons_of h4
  obtain ⟨a6, s6, rfl, h6⟩ := cons_of h5
  obtain ⟨a7, s7, rfl, h7⟩ := cons_of h6
  obtain ⟨a8, s8, rfl, h8⟩ := cons_of h7
  obtain ⟨a9, s9, rfl, h9⟩ := cons_of h8
  obtain ⟨b0, s10, rfl, h10⟩ := cons_of h9
  obtain ⟨b1, s11, rfl, h11⟩ := cons_of h10
  obtain ⟨b2, s12, rfl, h12⟩ := cons_of h11
  obtain ⟨b3, s13, rfl, h13⟩ := cons_of h12
  obtain ⟨b4, s14, rfl, h14⟩ := cons_of h13
  obtain ⟨b5, s15, rfl, h15⟩ := cons_of h14
  obtain ⟨b6, s16, rfl, h16⟩ := cons_of h15
  obtain ⟨b7, s17, rfl, h17⟩ := cons_of h16
  obtain ⟨b8, s18, rfl, h18⟩ := cons_of h17
  obtain ⟨b9, s19, rfl, h19⟩ := cons_of h18
  obtain ⟨c0, s20, rfl, h20⟩ := cons_of h19
  obtain ⟨c1, s21, rfl, h21⟩ := cons_of h20
  obtain ⟨c2, s22, rfl, h22⟩ := cons_of h21
  obtain ⟨c3, s23, rfl, h23⟩ := cons_of h22
  obtain ⟨c4, s24, rfl, h24⟩ := cons_of h23
  obtain rfl := nil_of h24
  exact turn_ok a0 a1 a2 a3 a4 a5 a6 a7 a8 a9 b0 b1 b2 b3 b4 b5 b6 b7 b8 b9 c0 c1 c2 c3 c4
theorem row_all {s : List Int} (h : s.length = 25) : keccak_state_row.m 200000 s = some (rowL s) := by
  obtain ⟨a0, s0, rfl, h0⟩ := cons_of h
  obtain ⟨a1, s1, rfl, h1⟩ := cons_of h0
  obtain ⟨a2, s2, rfl, h2⟩ := cons_of h1
  obtain ⟨a3, s3, rfl, h3⟩ := cons_of h2
  obtain ⟨a4, s4, rfl, h4⟩ := cons_of h3
  obtain ⟨a5, s5, rfl, h5⟩ := cons_of h4
  obtain ⟨a6, s6, rfl, h6⟩ := cons_of h5
  obtain ⟨a7, s7, rfl, h7⟩ := cons_of h6
  obtain ⟨a8, s8, rfl, h8⟩ := cons_of h7
  obtain ⟨a9, s9, rfl, h9⟩ := cons_of h8
  obtain ⟨b0, s10, rfl, h10⟩ := cons_of h9
  obtain ⟨b1, s11, rfl, h11⟩ := cons_of h10
  obtain ⟨b2, s12, rfl, h12⟩ := cons_of h11
  obtain ⟨b3, s13, rfl, h13⟩ := cons_of h12
  obtain ⟨b4, s14, rfl, h14⟩ := cons_of h13
  obtain ⟨b5, s15, rfl, h15⟩ := cons_of h14
  obtain ⟨b6, s16, rfl, h16⟩ := cons_of h15
  obtain ⟨b7, s17, rfl, h17⟩ := cons_of h16
  obtain ⟨b8, s18, rfl, h18⟩ := cons_of h17
  obtain ⟨b9, s19, rfl, h19⟩ := cons_of h18
  obtain ⟨c0, s20, rfl, h20⟩ := cons_of h19
  obtain ⟨c1, s21, rfl, h21⟩ := cons_of h20
  obtain ⟨c2, s22, rfl, h22⟩ := cons_of h21
  obtain ⟨c3, s23, rfl, h23⟩ := cons_of h22
  obtain ⟨c4, s24, rfl, h24⟩ := cons_of h23
  obtain rfl := nil_of h24
  exact row_ok a0 a1 a2 a3 a4 a5 a6 a7 a8 a9 b0 b1 b2 b3 b4 b5 b6 b7 b8 b9 c0 c1 c2 c3 c4
theorem mixC_length (s c : List Int) : (mixC s c).length = 25 := by simp [mixC]
theorem turnL_length (s : List Int) : (turnL s).length = 25 := rfl
theorem rowL_length (s : List Int) : (rowL s).length = 25 := by simp [rowL]
theorem next24 {i : Nat} (h : i < 24) : IntKind.wrap .i64 ((i : Int) + 1) = ((i + 1 : Nat) : Int) := by rw [wi64]; omega
theorem prog_rounds : ∀ (r i fuel : Nat) (s : List Int), i + r = 24 → r + 1 ≤ fuel → s.length = 25 → R64 s → keccak_state_mix.l1_0.g (fun a0 => a0) 200000 fuel (i : Int) s = some (roundsL r i s)
  | 0, i, fuel + 1, s, hi, hf, hl, hs => by
    have : i = 24 := by omega
    subst this
    rfl
  | r + 1, i, fuel + 1, s, hi, hf, hl, hs => by
    have g0 : decide ((i : Int) < 24) = true := decide_eq_true (by omega)
    have g1 : (0 : Int) ≤ (i : Int) := by omega
    have g2 : (i : Int) < 24 := by omega
    show keccak_state_mix.l1_0.r _ _ _ _ _ = _
    simp only [keccak_state_mix.l1_0.r, g0, if_true, spread_ok hl, turn_all (mixC_length _ _), row_all (turnL_length _), bindO, Option.bind_some, if_pos g1, if_pos g2, Int.toNat_natCast, next24 (show i < 24 by omega), cols_same hs]
    exact prog_rounds r (i + 1) fuel (roundL s (kecKeys.getD i 0)) (by omega) (by omega) (round_length _ _) (round_R _ _)
theorem mix_ok {s : List Int} (hl : s.length = 25) (hs : R64 s) : keccak_state_mix.m 200000 s = some (roundsL 24 0 s) := by
  have := prog_rounds 24 0 200000 s rfl (by omega) hl hs
  rw [show ((0 : Nat) : Int) = 0 from rfl] at this
  simp only [keccak_state_mix.m, keccak_state_mix.g, keccak_state_mix.l1_0.m, this, bindO, Option.bind_some]
theorem ref_core {s : List Int} (h : s.length = 25) (i : Int) : q02_mix.l6_0.m 200000 200000 (0, s, turnsT, kecKeys, i, []) = some (s, turnsT, kecKeys, i, cols s) ∧
    q02_mix.l11_0.m 200000 200000 (0, s, turnsT, kecKeys, i, cols s, [0, 0, 0, 0, 0, 0, 0, 0, 0, 0, 0, 0, 0, 0, 0, 0, 0, 0, 0, 0, 0, 0, 0, 0, 0]) = some (kecKeys, i, turnsT, turnL (mixC s (cols s))) ∧
    q02_mix.l6v1_0.m 200000 200000 (0, turnsT, kecKeys, i, [], s) = some (turnsT, kecKeys, i, cols s, s) ∧
    q02_mix.l11v1_0.m 200000 200000 (0, turnsT, kecKeys, i, cols s, [0, 0, 0, 0, 0, 0, 0, 0, 0, 0, 0, 0, 0, 0, 0, 0, 0, 0, 0, 0, 0, 0, 0, 0, 0], s) = some (kecKeys, i, turnsT, turnL (mixC s (cols s))) := by
  obtain ⟨a0, s0, rfl, h0⟩ := cons_of h
  obtain ⟨a1, s1, rfl, h1⟩ := cons_of h0
  obtain ⟨a2, s2, rfl, h2⟩ := cons_of h1
  obtain ⟨a3, s3, rfl, h3⟩ := cons_of h2
  obtain ⟨a4, s4, rfl, h4⟩ := cons_of h3
  obtain ⟨a5, s5, rfl, h5⟩ := cons_of h4
  obtain ⟨a6, s6, rfl, h6⟩ := cons_of h5
  obtain ⟨a7, s7, rfl, h7⟩ := cons_of h6
  obtain ⟨a8, s8, rfl, h8⟩ := cons_of h7
  obtain ⟨a9, s9, rfl, h9⟩ := cons_of h8
  obtain ⟨b0, s10, rfl, h10⟩ := cons_of h9
  obtain ⟨b1, s11, rfl, h11⟩ := cons_of h10
  obtain ⟨b2, s12, rfl, h12⟩ := cons_of h11
  obtain ⟨b3, s13, rfl, h13⟩ := cons_of h12
  obtain ⟨b4, s14, rfl, h14⟩ := cons_of h13
  obtain ⟨b5, s15, rfl, h15⟩ := cons_of h14
  obtain ⟨b6, s16, rfl, h16⟩ := cons_of h15
  obtain ⟨b7, s17, rfl, h17⟩ := cons_of h16
  obtain ⟨b8, s18, rfl, h18⟩ := cons_of h17
  obtain ⟨b9, s19, rfl, h19⟩ := cons_of h18
  obtain ⟨c0, s20, rfl, h20⟩ := cons_of h19
  obtain ⟨c1, s21, rfl, h21⟩ := cons_of h20
  obtain ⟨c2, s22, rfl, h22⟩ := cons_of h21
  obtain ⟨c3, s23, rfl, h23⟩ := cons_of h22
  obtain ⟨c4, s24, rfl, h24⟩ := cons_of h23
  obtain rfl := nil_of h24
  refine ⟨ref_cols a0 a1 a2 a3 a4 a5 a6 a7 a8 a9 b0 b1 b2 b3 b4 b5 b6 b7 b8 b9 c0 c1 c2 c3 c4 _ _ _, ?_, ref_cols1 a0 a1 a2 a3 a4 a5 a6 a7 a8 a9 b0 b1 b2 b3 b4 b5 b6 b7 b8 b9 c0 c1 c2 c3 c4 _ _ _, ?_⟩
  · exact ref_mix _ _ _ _ _ a0 a1 a2 a3 a4 a5 a6 a7 a8 a9 b0 b1 b2 b3 b4 b5 b6 b7 b8 b9 c0 c1 c2 c3 c4 _ _
  · exact ref_mix1 _ _ _ _ _ a0 a1 a2 a3 a4 a5 a6 a7 a8 a9 b0 b1 b2 b3 b4 b5 b6 b7 b8 b9 c0 c1 c2 c3 c4 _ _
theorem ref_row_all {s : List Int} (h : s.length = 25) (k r : List Int) (i : Int) : q02_mix.l20_0.m 200000 200000 (0, k, i, r, [], s) = some (k, i, r, rowL s) := by
  obtain ⟨a0, s0, rfl, h0⟩ := cons_of h
  obtain ⟨a1, s1, rfl, h1⟩ := cons_of h0
  obtain ⟨a2, s2, rfl, h2⟩ := cons_of h1
  obtain ⟨a3, s3, rfl, h3⟩ := cons_of h2
  obtain ⟨a4, s4, rfl, h4⟩ := cons_of h3
  obtain ⟨a5, s5, rfl, h5⟩ := cons_of h4
  obtain ⟨a6, s6, rfl, h6⟩ := cons_of h5
  obtain ⟨a7, s7, rfl, h7⟩ := cons_of h6
  obtain ⟨a8, s8, rfl, h8⟩ := cons_of h7
  obtain ⟨a9, s9, rfl, h9⟩ := cons_of h8
  obtain ⟨b0, s10, rfl, h10⟩ := cons_of h9
  obtain ⟨b1, s11, rfl, h11⟩ := cons_of h10
  obtain ⟨b2, s12, rfl, h12⟩ := cons_of h11
  obtain ⟨b3, s13, rfl, h13⟩ := cons_of h12
  obtain ⟨b4, s14, rfl, h14⟩ := cons_of h13
  obtain ⟨b5, s15, rfl, h15⟩ := cons_of h14
  obtain ⟨b6, s16, rfl, h16⟩ := cons_of h15
  obtain ⟨b7, s17, rfl, h17⟩ := cons_of h16
  obtain ⟨b8, s18, rfl, h18⟩ := cons_of h17
  obtain ⟨b9, s19, rfl, h19⟩ := cons_of h18
  obtain ⟨c0, s20, rfl, h20⟩ := cons_of h19
  obtain ⟨c1, s21, rfl, h21⟩ := cons_of h20
  obtain ⟨c2, s22, rfl, h22⟩ := cons_of h21
  obtain ⟨c3, s23, rfl, h23⟩ := cons_of h22
  obtain ⟨c4, s24, rfl, h24⟩ := cons_of h23
  obtain rfl := nil_of h24
  exact ref_row a0 a1 a2 a3 a4 a5 a6 a7 a8 a9 b0 b1 b2 b3 b4 b5 b6 b7 b8 b9 c0 c1 c2 c3 c4 k r i
theorem keys_length : kecKeys.length = 24 := rfl
theorem ref_rounds : ∀ (r i fuel : Nat) (s : List Int), i + r = 24 → r + 1 ≤ fuel → s.length = 25 → q02_mix.l2_1.g (α := List Int ⊕ List Int) (fun a0 => .inl a0) (fun a0 => .inr a0) 200000 fuel (i : Int) turnsT kecKeys s = some (.inl (roundsL r i s))
  | 0, i, fuel + 1, s, hi, hf, hl => by
    have : i = 24 := by omega
    subst this
    rfl
  | r + 1, i, fuel + 1, s, hi, hf, hl => by
    have g0 : decide ((i : Int) < 24) = true := decide_eq_true (by omega)
    have g1 : (0 : Int) ≤ (i : Int) := by omega
    have g2 : (i : Int) < ((24 : Nat) : Int) := by omega
    have g3 : (0 : Int) < ((25 : Nat) : Int) := by omega
    obtain ⟨_, _, e1, e2⟩ := ref_core hl (i : Int)
    show q02_mix.l2_1.r _ _ _ _ _ _ _ _ = _
    simp only [q02_mix.l2_1.r, g0, if_true, e1, bindO, Option.bind_some, e2, ref_row_all (turnL_length _), rowL_length, keys_length, if_pos g1, if_pos g2, if_pos g3, Int.toNat_natCast, next24 (show i < 24 by omega)]
    exact ref_rounds r (i + 1) fuel (roundL s (kecKeys.getD i 0)) (by omega) (by omega) (round_length _ _)
theorem ref_mix_ok {s : List Int} (hl : s.length = 25) : q02_mix.m 200000 (s, turnsT, kecKeys) = some (.inl (roundsL 24 0 s)) := by
  have g3 : (0 : Int) < ((25 : Nat) : Int) := by omega
  have g2 : (0 : Int) < ((24 : Nat) : Int) := by omega
  have g1 : (0 : Int) ≤ 0 := by omega
  obtain ⟨e1, e2, _, _⟩ := ref_core hl 0
  have h := ref_rounds 23 1 199999 (roundL s (kecKeys.getD 0 0)) rfl (by omega) (round_length _ _)
  have first : q02_mix.l2_0.m 200000 200000 (0, s, turnsT, kecKeys) = some (.inl (roundsL 24 0 s)) := by
    show q02_mix.l2_0.r (α := List Int ⊕ List Int) (fun a0 => .inl a0) (fun a0 => .inr a0) 200000 (fun y0 y1 y2 y3 => q02_mix.l2_0.g (fun a0 => .inl a0) (fun a0 => .inr a0) 200000 199999 y0 y1 y2 y3) (fun y0 y1 y2 y3 => q02_mix.l2_1.g (fun a0 => .inl a0) (fun a0 => .inr a0) 200000 199999 y0 y1 y2 y3) 0 s turnsT kecKeys = _
    simp only [q02_mix.l2_0.r, show decide ((0 : Int) < 24) = true from rfl, if_true, e1, bindO, Option.bind_some, e2, ref_row_all (turnL_length _), rowL_length, keys_length, if_pos g1, if_pos g2, if_pos g3]
    exact h
  simp only [q02_mix.m, q02_mix.g, first, bindO, Option.bind_some]
end Go.Abs.Pure
end
section
set_option linter.unusedVariables false
set_option linter.unusedSimpArgs false
set_option maxRecDepth 100000
namespace Go.Abs.Pure
open Go Go.Abs
def xorB (f : Nat → Int) : Nat → Nat → List Int → List Int
  | 0, _, s => s
  | r + 1, i, s => xorB f r (i + 1) (s.set (i / 8) (xor64 (s.getD (i / 8) 0) (ishl .u64 (IntKind.wrap .u64 (f i)) ((i % 8 * 8 : Nat) : Int))))
theorem xorB_length (f : Nat → Int) : ∀ (r i : Nat) (s : List Int), (xorB f r i s).length = s.length
  | 0, _, _ => rfl
  | r + 1, i, s => by rw [xorB, xorB_length]; simp
theorem xorB_R (f : Nat → Int) : ∀ (r i : Nat) {s : List Int}, R64 s → R64 (xorB f r i s)
  | 0, _, _, h => h
  | r + 1, i, s, h => xorB_R f r (i + 1) fun x hx => by
    rcases List.mem_or_eq_of_mem_set hx with hx | rfl
    · exact h x hx
    · exact xor64_range _ _
theorem xorB_congr {f g : Nat → Int} : ∀ (r i : Nat) (s : List Int), (∀ t, i ≤ t → t < i + r → f t = g t) → xorB f r i s = xorB g r i s
  | 0, _, _, _ => rfl
  | r + 1, i, s, h => by
    rw [xorB, xorB, h i (by omega) (by omega)]
    exact xorB_congr r (i + 1) _ fun t h1 h2 => h t (by omega) (by omega)
theorem xorB_add (f : Nat → Int) : ∀ (a b i : Nat) (s : List Int), xorB f b (i + a) (xorB f a i s) = xorB f (a + b) i s
  | 0, b, i, s => by rw [xorB, Nat.zero_add, Nat.add_zero]
  | a + 1, b, i, s => by
    rw [xorB, show a + 1 + b = (a + b) + 1 by omega, xorB, show i + (a + 1) = (i + 1) + a by omega]
    exact xorB_add f a b (i + 1) _
theorem at_div' (i : Nat) (h : i < 136) : IntKind.wrap .i64 (Int.tdiv (i : Int) 8) = ((i / 8 : Nat) : Int) := by rw [tdiv_nonneg' (by omega), wi64]; omega
theorem at_mod'' (i : Nat) (h : i < 136) : IntKind.wrap .i64 (Int.tmod (i : Int) 8 * 8) = ((i % 8 * 8 : Nat) : Int) := by rw [tmod_nonneg' (by omega), wi64]; omega
theorem next136 (i : Nat) (h : i < 136) : IntKind.wrap .i64 ((i : Int) + 1) = ((i + 1 : Nat) : Int) := by rw [wi64]; omega
theorem take_loop {b : List Int} (hb : b.length = 136) : ∀ (r i fuel : Nat) (s : List Int), i + r = 136 → r + 1 ≤ fuel → keccak_state_take.l1_0.g (fun a0 => a0) 200000 fuel (i : Int) ((136 : Nat) : Int) b s = some (xorB (fun t => b.getD t 0) r i s)
  | 0, i, fuel + 1, s, hi, hf => by
    have : i = 136 := by omega
    subst this
    rfl
  | r + 1, i, fuel + 1, s, hi, hf => by
    have hlt : i < 136 := by omega
    have g0 : decide ((i : Int) < ((136 : Nat) : Int)) = true := decide_eq_true (by omega)
    have g1 : (0 : Int) ≤ (i : Int) := by omega
    have g2 : (i : Int) < ((136 : Nat) : Int) := by omega
    have g3 : (0 : Int) ≤ ((i / 8 : Nat) : Int) := by omega
    have g4 : ((i / 8 : Nat) : Int) < 25 := by omega
    have g5 : (0 : Int) ≤ ((i % 8 * 8 : Nat) : Int) := by omega
    show keccak_state_take.l1_0.r _ _ _ _ _ _ _ = _
    simp only [keccak_state_take.l1_0.r, g0, if_true, hb, at_div' i hlt, at_mod'' i hlt, next136 i hlt, if_pos g1, if_pos g2, if_pos g3, if_pos g4, if_pos g5, Int.toNat_natCast]
    exact take_loop hb r (i + 1) fuel _ (by omega) (by omega)
def stepB (f : Nat → Int) (s : List Int) : List Int := roundsL 24 0 (xorB f 136 0 s)
theorem stepB_length (f : Nat → Int) {s : List Int} (h : s.length = 25) : (stepB f s).length = 25 := rounds_length _ _ (by rw [xorB_length, h])
theorem stepB_R (f : Nat → Int) {s : List Int} (h : R64 s) : R64 (stepB f s) := rounds_R _ _ (xorB_R f _ _ h)
theorem stepB_congr {f g : Nat → Int} (s : List Int) (h : ∀ t, t < 136 → f t = g t) : stepB f s = stepB g s := by
  rw [stepB, stepB, xorB_congr 136 0 s fun t _ h2 => h t (by omega)]
theorem take_ok {b s : List Int} (hb : b.length = 136) (hl : s.length = 25) (hs : R64 s) : keccak_state_take.m 200000 (b, s) = some (stepB (fun t => b.getD t 0) s) := by
  have := take_loop hb 136 0 200000 s rfl (by omega)
  rw [show ((0 : Nat) : Int) = 0 from rfl] at this
  have hm := mix_ok (s := xorB (fun t => b.getD t 0) 136 0 s) (by rw [xorB_length, hl]) (xorB_R _ _ _ hs)
  simp only [keccak_state_take.m, keccak_state_take.g, keccak_state_take.l1_0.m, hb, this, bindO, Option.bind_some, hm, stepB]
def spongeB (p : List Int) : Nat → Nat → List Int → List Int
  | 0, _, s => s
  | q + 1, i, s => spongeB p q (i + 136) (stepB (fun t => p.getD (i + t) 0) s)
theorem spongeB_length (p : List Int) : ∀ (q i : Nat) {s : List Int}, s.length = 25 → (spongeB p q i s).length = 25
  | 0, _, _, h => h
  | q + 1, i, s, h => spongeB_length p q _ (stepB_length _ h)
theorem spongeB_R (p : List Int) : ∀ (q i : Nat) {s : List Int}, R64 s → R64 (spongeB p q i s)
  | 0, _, _, h => h
  | q + 1, i, s, h => spongeB_R p q _ (stepB_R _ h)
theorem spongeB_congr {p p' : List Int} : ∀ (q i : Nat) (s : List Int), (∀ t, i ≤ t → t < i + 136 * q → p.getD t 0 = p'.getD t 0) → spongeB p q i s = spongeB p' q i s
  | 0, _, _, _ => rfl
  | q + 1, i, s, h => by
    rw [spongeB, spongeB, stepB_congr (g := fun t => p'.getD (i + t) 0) s fun t ht => h (i + t) (by omega) (by omega)]
    exact spongeB_congr q (i + 136) _ fun t h1 h2 => h t (by omega) (by omega)
theorem spongeB_last (p : List Int) : ∀ (q i : Nat) (s : List Int), spongeB p (q + 1) i s = stepB (fun t => p.getD (i + 136 * q + t) 0) (spongeB p q i s)
  | 0, i, s => by simp only [spongeB, Nat.mul_zero, Nat.add_zero]
  | q + 1, i, s => by
    rw [spongeB, spongeB_last p q (i + 136), spongeB]
    rw [show i + 136 + 136 * q = i + 136 * (q + 1) by omega]
theorem prog_blocks {b z : List Int} : ∀ (q i fuel : Nat) {s : List Int}, i + 136 * q ≤ b.length → b.length < i + 136 * q + 136 → q + 1 ≤ fuel → s.length = 25 → R64 s →
    keccak_Sum.l2_0.g (fun a0 a1 a2 => (a0, a1, a2)) 200000 fuel (b.drop i) s z = some (b.drop (i + 136 * q), spongeB b q i s, z)
  | 0, i, fuel + 1, s, h1, h2, hf, hl, hs => by
    have g0 : decide ((((b.drop i).length : Nat) : Int) ≥ 136) = false := decide_eq_false (by simp only [List.length_drop]; omega)
    show keccak_Sum.l2_0.r _ _ _ _ _ _ = _
    simp only [keccak_Sum.l2_0.r, g0, Bool.false_eq_true, if_false]
    rfl
  | q + 1, i, fuel + 1, s, h1, h2, hf, hl, hs => by
    have g1 : (136 : Int) ≤ (((b.drop i).length : Nat) : Int) := by simp only [List.length_drop]; omega
    have g0 : decide ((((b.drop i).length : Nat) : Int) ≥ 136) = true := decide_eq_true g1
    have hc : (cut (b.drop i) 0 (some 136)).length = 136 := by simp only [cut, List.length_take, List.length_drop]; omega
    have hg : ∀ t, t < 136 → (cut (b.drop i) 0 (some 136)).getD t 0 = b.getD (i + t) 0 := fun t ht => by
      simp only [cut, List.getD_eq_getElem?_getD, List.getElem?_take, List.getElem?_drop]
      rw [if_pos (by omega)]
      simp
    show keccak_Sum.l2_0.r _ _ _ _ _ _ = _
    simp only [keccak_Sum.l2_0.r, g0, if_true, if_pos g1, take_ok hc hl hs, bindO, Option.bind_some, stepB_congr s hg]
    rw [show cut (b.drop i) 136 none = b.drop (i + 136) by simp only [cut, List.drop_drop]]
    have := prog_blocks (b := b) (z := z) q (i + 136) fuel (s := stepB (fun t => b.getD (i + t) 0) s) (by omega) (by omega) (by omega) (stepB_length _ hl) (stepB_R _ hs)
    rw [show i + 136 + 136 * q = i + 136 * (q + 1) by omega] at this
    exact this
def lastP (r : List Int) : List Int := (List.take 136 (List.drop 0 (List.set (List.set ([] ++ ((List.take 136 r) ++ (List.drop (0 + (Min.min (List.length r) 136)) ([0, 0, 0, 0, 0, 0, 0, 0, 0, 0, 0, 0, 0, 0, 0, 0, 0, 0, 0, 0, 0, 0, 0, 0, 0, 0, 0, 0, 0, 0, 0, 0, 0, 0, 0, 0, 0, 0, 0, 0, 0, 0, 0, 0, 0, 0, 0, 0, 0, 0, 0, 0, 0, 0, 0, 0, 0, 0, 0, 0, 0, 0, 0, 0, 0, 0, 0, 0, 0, 0, 0, 0, 0, 0, 0, 0, 0, 0, 0, 0, 0, 0, 0, 0, 0, 0, 0, 0, 0, 0, 0, 0, 0, 0, 0, 0, 0, 0, 0, 0, 0, 0, 0, 0, 0, 0, 0, 0, 0, 0, 0, 0, 0, 0, 0, 0, 0, 0, 0, 0, 0, 0, 0, 0, 0, 0, 0, 0, 0, 0, 0, 0, 0, 0, 0, 0] : List Int)))) (Int.toNat (((List.length r) : Nat) : Int)) (Go.Abs.ibits Go.BinOp.xor .u8 (List.getD ([] ++ ((List.take 136 r) ++ (List.drop (0 + (Min.min (List.length r) 136)) ([0, 0, 0, 0, 0, 0, 0, 0, 0, 0, 0, 0, 0, 0, 0, 0, 0, 0, 0, 0, 0, 0, 0, 0, 0, 0, 0, 0, 0, 0, 0, 0, 0, 0, 0, 0, 0, 0, 0, 0, 0, 0, 0, 0, 0, 0, 0, 0, 0, 0, 0, 0, 0, 0, 0, 0, 0, 0, 0, 0, 0, 0, 0, 0, 0, 0, 0, 0, 0, 0, 0, 0, 0, 0, 0, 0, 0, 0, 0, 0, 0, 0, 0, 0, 0, 0, 0, 0, 0, 0, 0, 0, 0, 0, 0, 0, 0, 0, 0, 0, 0, 0, 0, 0, 0, 0, 0, 0, 0, 0, 0, 0, 0, 0, 0, 0, 0, 0, 0, 0, 0, 0, 0, 0, 0, 0, 0, 0, 0, 0, 0, 0, 0, 0, 0, 0] : List Int)))) (Int.toNat (((List.length r) : Nat) : Int)) 0) 1)) 135 (Go.Abs.ibits Go.BinOp.xor .u8 (List.getD (List.set ([] ++ ((List.take 136 r) ++ (List.drop (0 + (Min.min (List.length r) 136)) ([0, 0, 0, 0, 0, 0, 0, 0, 0, 0, 0, 0, 0, 0, 0, 0, 0, 0, 0, 0, 0, 0, 0, 0, 0, 0, 0, 0, 0, 0, 0, 0, 0, 0, 0, 0, 0, 0, 0, 0, 0, 0, 0, 0, 0, 0, 0, 0, 0, 0, 0, 0, 0, 0, 0, 0, 0, 0, 0, 0, 0, 0, 0, 0, 0, 0, 0, 0, 0, 0, 0, 0, 0, 0, 0, 0, 0, 0, 0, 0, 0, 0, 0, 0, 0, 0, 0, 0, 0, 0, 0, 0, 0, 0, 0, 0, 0, 0, 0, 0, 0, 0, 0, 0, 0, 0, 0, 0, 0, 0, 0, 0, 0, 0, 0, 0, 0, 0, 0, 0, 0, 0, 0, 0, 0, 0, 0, 0, 0, 0, 0, 0, 0, 0, 0, 0] : List Int)))) (Int.toNat (((List.length r) : Nat) : Int)) (Go.Abs.ibits Go.BinOp.xor .u8 (List.getD ([] ++ ((List.take 136 r) ++ (List.drop (0 + (Min.min (List.length r) 136)) ([0, 0, 0, 0, 0, 0, 0, 0, 0, 0, 0, 0, 0, 0, 0, 0, 0, 0, 0, 0, 0, 0, 0, 0, 0, 0, 0, 0, 0, 0, 0, 0, 0, 0, 0, 0, 0, 0, 0, 0, 0, 0, 0, 0, 0, 0, 0, 0, 0, 0, 0, 0, 0, 0, 0, 0, 0, 0, 0, 0, 0, 0, 0, 0, 0, 0, 0, 0, 0, 0, 0, 0, 0, 0, 0, 0, 0, 0, 0, 0, 0, 0, 0, 0, 0, 0, 0, 0, 0, 0, 0, 0, 0, 0, 0, 0, 0, 0, 0, 0, 0, 0, 0, 0, 0, 0, 0, 0, 0, 0, 0, 0, 0, 0, 0, 0, 0, 0, 0, 0, 0, 0, 0, 0, 0, 0, 0, 0, 0, 0, 0, 0, 0, 0, 0, 0] : List Int)))) (Int.toNat (((List.length r) : Nat) : Int)) 0) 1)) 135 0) 128))))
def padAt (m t : Nat) : Int := if t = 135 then ibits .xor .u8 (if t = m then 1 else 0) 128 else if t = m then 1 else 0
theorem zeros_eq : ([0, 0, 0, 0, 0, 0, 0, 0, 0, 0, 0, 0, 0, 0, 0, 0, 0, 0, 0, 0, 0, 0, 0, 0, 0, 0, 0, 0, 0, 0, 0, 0, 0, 0, 0, 0, 0, 0, 0, 0, 0, 0, 0, 0, 0, 0, 0, 0, 0, 0, 0, 0, 0, 0, 0, 0, 0, 0, 0, 0, 0, 0, 0, 0, 0, 0, 0, 0, 0, 0, 0, 0, 0, 0, 0, 0, 0, 0, 0, 0, 0, 0, 0, 0, 0, 0, 0, 0, 0, 0, 0, 0, 0, 0, 0, 0, 0, 0, 0, 0, 0, 0, 0, 0, 0, 0, 0, 0, 0, 0, 0, 0, 0, 0, 0, 0, 0, 0, 0, 0, 0, 0, 0, 0, 0, 0, 0, 0, 0, 0, 0, 0, 0, 0, 0, 0] : List Int) = List.replicate 136 0 := rfl
theorem one8 : ibits .xor .u8 0 1 = 1 := by decide
theorem lastP_length {r : List Int} (h : r.length < 136) : (lastP r).length = 136 := by
  unfold lastP
  rw [zeros_eq]
  simp only [List.length_take, List.length_drop, List.length_set, List.length_append, List.length_replicate, List.length_nil]
  omega
theorem lastP_getD {r : List Int} (h : r.length < 136) {t : Nat} (ht : t < 136) : (lastP r).getD t 0 = if t < r.length then r.getD t 0 else padAt r.length t := by
  have base : ∀ u, u < 136 → (([] : List Int) ++ (List.take 136 r ++ List.drop (0 + min r.length 136) (List.replicate 136 0))).getD u 0 = if u < r.length then r.getD u 0 else 0 := fun u hu => by
    rw [List.nil_append, List.take_of_length_le (by omega), List.getD_eq_getElem?_getD, List.getElem?_append]
    split
    · rw [List.getD_eq_getElem?_getD]
    · rw [List.getElem?_drop, List.getElem?_replicate]
      split <;> rfl
  have hlen : (([] : List Int) ++ (List.take 136 r ++ List.drop (0 + min r.length 136) (List.replicate 136 0))).length = 136 := by
    simp only [List.length_append, List.length_take, List.length_drop, List.length_replicate, List.length_nil]
    omega
  unfold lastP
  rw [zeros_eq, List.drop_zero]
  generalize ([] : List Int) ++ (List.take 136 r ++ List.drop (0 + min r.length 136) (List.replicate 136 0)) = X at base hlen
  have setD : ∀ (l : List Int) (i : Nat) (d : Int) (u : Nat), l.length = 136 → i < 136 → (l.set i d).getD u 0 = if u = i then d else l.getD u 0 := fun l i d u hl hi => by
    rw [List.getD_eq_getElem?_getD, List.getElem?_set]
    by_cases e : i = u
    · subst e; simp [hl, hi]
    · rw [if_neg e, if_neg (fun h => e h.symm), List.getD_eq_getElem?_getD]
  rw [List.take_of_length_le (by simp [hlen]), Int.toNat_natCast]
  have b0 := base r.length h
  rw [if_neg (Nat.lt_irrefl _)] at b0
  rw [b0, one8]
  have h1 : (X.set r.length 1).length = 136 := by simp [hlen]
  rw [setD _ _ _ _ h1 (by omega), setD _ _ _ _ hlen h, setD _ _ _ _ hlen h, base t ht]
  have b1 := base 135 (by omega)
  unfold padAt
  by_cases e : t = 135
  · subst e
    rw [if_pos rfl, if_pos rfl, b1]
    by_cases k : 135 = r.length
    · rw [if_pos k, if_pos k, if_neg (by omega)]
    · rw [if_neg k, if_neg k]
      by_cases k2 : 135 < r.length
      · omega
      · rw [if_neg k2, if_neg k2]
  · rw [if_neg e, if_neg e]
    by_cases k : t = r.length
    · rw [if_pos k, if_pos k, if_neg (by omega)]
    · rw [if_neg k, if_neg k]
def outE (s : List Int) : List Int := (List.range 32).map fun i => IntKind.wrap .u8 (ishr .u64 (s.getD (i / 8) 0) ((i % 8 * 8 : Nat) : Int))
theorem prog_out {s : List Int} (h : s.length = 25) (z : List Int) : keccak_Sum.l12_0.m 200000 200000 (0, s, [0, 0, 0, 0, 0, 0, 0, 0, 0, 0, 0, 0, 0, 0, 0, 0, 0, 0, 0, 0, 0, 0, 0, 0, 0, 0, 0, 0, 0, 0, 0, 0], z) = some (outE s, z) := by
  obtain ⟨a0, s0, rfl, h0⟩ := cons_of h
  obtain ⟨a1, s1, rfl, h1⟩ := cons_of h0
  obtain ⟨a2, s2, rfl, h2⟩ := cons_of h1
  obtain ⟨a3, s3, rfl, h3⟩ := cons_of h2
  obtain ⟨a4, s4, rfl, h4⟩ := cons_of h3
  obtain ⟨a5, s5, rfl, h5⟩ := cons_of h4
  obtain ⟨a6, s6, rfl, h6⟩ := cons_of h5
  obtain ⟨a7, s7, rfl, h7⟩ := cons_of h6
  obtain ⟨a8, s8, rfl, h8⟩ := cons_of h7
  obtain ⟨a9, s9, rfl, h9⟩ := cons_of h8
  obtain ⟨b0, s10, rfl, h10⟩ := cons_of h9
  obtain ⟨b1, s11, rfl, h11⟩ := cons_of h10
  obtain ⟨b2, s12, rfl, h12⟩ := cons_of h11
  obtain ⟨b3, s13, rfl, h13⟩ := cons_of h12
  obtain ⟨b4, s14, rfl, h14⟩ := cons_of h13
  obtain ⟨b5, s15, rfl, h15⟩ := cons_of h14
  obtain ⟨b6, s16, rfl, h16⟩ := cons_of h15
  obtain ⟨b7, s17, rfl, h17⟩ := cons_of h16
  obtain ⟨b8, s18, rfl, h18⟩ := cons_of h17
  obtain ⟨b9, s19, rfl, h19⟩ := cons_of h18
  obtain ⟨c0, s20, rfl, h20⟩ := cons_of h19
  obtain ⟨c1, s21, rfl, h21⟩ := cons_of h20
  obtain ⟨c2, s22, rfl, h22⟩ := cons_of h21
  obtain ⟨c3, s23, rfl, h23⟩ := cons_of h22
  obtain ⟨c4, s24, rfl, h24⟩ := cons_of h23
  obtain rfl := nil_of h24
  kernel_rfl
theorem ref_out {s : List Int} (h : s.length = 25) (z : List Int) : q02_Sum.l23_0.m 200000 200000 (0, [], s, z) = some (outE s, z) := by
  obtain ⟨a0, s0, rfl, h0⟩ := cons_of h
  obtain ⟨a1, s1, rfl, h1⟩ := cons_of h0
  obtain ⟨a2, s2, rfl, h2⟩ := cons_of h1
  obtain ⟨a3, s3, rfl, h3⟩ := cons_of h2
  obtain ⟨a4, s4, rfl, h4⟩ := cons_of h3
  obtain ⟨a5, s5, rfl, h5⟩ := cons_of h4
  obtain ⟨a6, s6, rfl, h6⟩ := cons_of h5
  obtain ⟨a7, s7, rfl, h7⟩ := cons_of h6
  obtain ⟨a8, s8, rfl, h8⟩ := cons_of h7
  obtain ⟨a9, s9, rfl, h9⟩ := cons_of h8
  obtain ⟨b0, s10, rfl, h10⟩ := cons_of h9
  obtain ⟨b1, s11, rfl, h11⟩ := cons_of h10
  obtain ⟨b2, s12, rfl, h12⟩ := cons_of h11
  obtain ⟨b3, s13, rfl, h13⟩ := cons_of h12
  obtain ⟨b4, s14, rfl, h14⟩ := cons_of h13
  obtain ⟨b5, s15, rfl, h15⟩ := cons_of h14
  obtain ⟨b6, s16, rfl, h16⟩ := cons_of h15
  obtain ⟨b7, s17, rfl, h17⟩ := cons_of h16
  obtain ⟨b8, s18, rfl, h18⟩ := cons_of h17
  obtain ⟨b9, s19, rfl, h19⟩ := cons_of h18
  obtain ⟨c0, s20, rfl, h20⟩ := cons_of h19
  obtain ⟨c1, s21, rfl, h21⟩ := cons_of h20
  obtain ⟨c2, s22, rfl, h22⟩ := cons_of h21
  obtain ⟨c3, s23, rfl, h23⟩ := cons_of h22
  obtain ⟨c4, s24, rfl, h24⟩ := cons_of h23
  obtain rfl := nil_of h24
  kernel_rfl
def orB (b : List Int) : Nat → Nat → List Int → List Int
  | 0, _, s => s
  | r + 1, i, s => orB b r (i + 1) (s.set (i / 8) (ibits .or .u64 (s.getD (i / 8) 0) (ishl .u64 (IntKind.wrap .u64 (b.getD (31 - i) 0)) ((i % 8 * 8 : Nat) : Int))))
theorem last32 (i : Nat) (h : i < 32) : IntKind.wrap .i64 (IntKind.wrap .i64 (((32 : Nat) : Int) - 1) - (i : Int)) = ((31 - i : Nat) : Int) := by
  rw [show IntKind.wrap .i64 (((32 : Nat) : Int) - 1) = 31 from rfl, wi64]; omega
theorem at_mod3 (i : Nat) (h : i < 136) : IntKind.wrap .u64 (IntKind.wrap .i64 (Int.tmod (i : Int) 8 * 8)) = ((i % 8 * 8 : Nat) : Int) := by rw [at_mod'' i h, wu64]; omega
theorem prog_read_loop {b : List Int} (hb : b.length = 32) (z : List Int) : ∀ (r i fuel : Nat) (s : List Int), i + r = 32 → r + 1 ≤ fuel → word_Read.l4_0.g (fun a0 a1 => (a0, a1)) 200000 fuel (i : Int) ((32 : Nat) : Int) b s z = some (orB b r i s, z)
  | 0, i, fuel + 1, s, hi, hf => by
    have : i = 32 := by omega
    subst this
    rfl
  | r + 1, i, fuel + 1, s, hi, hf => by
    have hlt : i < 32 := by omega
    have hlt' : i < 136 := by omega
    have g0 : decide ((i : Int) < ((32 : Nat) : Int)) = true := decide_eq_true (by omega)
    have g1 : (0 : Int) ≤ ((31 - i : Nat) : Int) := by omega
    have g2 : ((31 - i : Nat) : Int) < ((32 : Nat) : Int) := by omega
    have g3 : (0 : Int) ≤ ((i / 8 : Nat) : Int) := by omega
    have g4 : ((i / 8 : Nat) : Int) < 4 := by omega
    have g5 : (0 : Int) ≤ ((i % 8 * 8 : Nat) : Int) := by omega
    show word_Read.l4_0.r _ _ _ _ _ _ _ _ = _
    simp only [word_Read.l4_0.r, g0, if_true, hb, at_div' i hlt', at_mod'' i hlt', next136 i hlt', last32 i hlt, if_pos g1, if_pos g2, if_pos g3, if_pos g4, if_pos g5, Int.toNat_natCast]
    exact prog_read_loop hb z r (i + 1) fuel _ (by omega) (by omega)
theorem ref_read_loop {b : List Int} (hb : b.length = 32) (z : List Int) : ∀ (r i fuel : Nat) (s : List Int), i + r = 32 → r + 1 ≤ fuel → q01_Read.l4_0.g (fun a0 a1 => (a0, a1)) 200000 fuel (i : Int) ((32 : Nat) : Int) b s z = some (orB b r i s, z)
  | 0, i, fuel + 1, s, hi, hf => by
    have : i = 32 := by omega
    subst this
    rfl
  | r + 1, i, fuel + 1, s, hi, hf => by
    have hlt : i < 32 := by omega
    have hlt' : i < 136 := by omega
    have g : decide ((i : Int) < 32) = true := decide_eq_true (by omega)
    have g0 : decide ((i : Int) < ((32 : Nat) : Int)) = true := decide_eq_true (by omega)
    have g1 : (0 : Int) ≤ ((31 - i : Nat) : Int) := by omega
    have g2 : ((31 - i : Nat) : Int) < ((32 : Nat) : Int) := by omega
    have g3 : (0 : Int) ≤ ((i / 8 : Nat) : Int) := by omega
    have g4 : ((i / 8 : Nat) : Int) < 4 := by omega
    have g5 : (0 : Int) ≤ ((i % 8 * 8 : Nat) : Int) := by omega
    show q01_Read.l4_0.r _ _ _ _ _ _ _ _ = _
    simp only [q01_Read.l4_0.r, g, g0, if_true, hb, at_div' i hlt', at_mod3 i hlt', next136 i hlt', last32 i hlt, if_pos g1, if_pos g2, if_pos g3, if_pos g4, if_pos g5, Int.toNat_natCast]
    exact ref_read_loop hb z r (i + 1) fuel _ (by omega) (by omega)
theorem reads_alike {b : List Int} (h : b.length = 32) : ∃ r, word_Read.m 200000 b = some r ∧ q01_Read.m 200000 b = some r := by
  have e := prog_read_loop h [0, 0, 0, 0] 32 0 200000 [0, 0, 0, 0] rfl (by omega)
  have k := ref_read_loop h [0, 0, 0, 0] 32 0 200000 [0, 0, 0, 0] rfl (by omega)
  rw [show ((0 : Nat) : Int) = 0 from rfl] at e k
  have c : (if (0 : Int) > IntKind.wrap .i64 (((32 : Nat) : Int) - 32) then (0 : Int) else IntKind.wrap .i64 (((32 : Nat) : Int) - 32)) = 0 := rfl
  refine ⟨orB b 32 0 [0, 0, 0, 0], ?_, ?_⟩
  · simp only [word_Read.m, word_Read.g, h, c, cut, word_Read.l4_0.m, show Int.toNat 0 = 0 from rfl, List.drop_zero, e, bindO, Option.bind_some]
    rfl
  · simp only [q01_Read.m, q01_Read.g, h, q01_Read.l4_0.m, k, bindO, Option.bind_some]
theorem outE_length (s : List Int) : (outE s).length = 32 := by simp [outE]
def Z25 : List Int := [0, 0, 0, 0, 0, 0, 0, 0, 0, 0, 0, 0, 0, 0, 0, 0, 0, 0, 0, 0, 0, 0, 0, 0, 0]
theorem Z25_R : R64 Z25 := by
  intro x hx
  have : x = 0 := by simpa [Z25] using hx
  omega
def lanesOf (b : List Int) : List Int := stepB (fun t => if t < b.length % 136 then b.getD (136 * (b.length / 136) + t) 0 else padAt (b.length % 136) t) (spongeB b (b.length / 136) 0 Z25)
theorem lanes_length (b : List Int) : (lanesOf b).length = 25 := stepB_length _ (spongeB_length b _ _ rfl)
theorem prog_sum {b : List Int} (h : b.length < 70000) : keccak_Sum.m 200000 b = word_Read.m 200000 (outE (lanesOf b)) := by
  have hm := Nat.div_add_mod b.length 136
  have hlt := Nat.mod_lt b.length (show 136 > 0 by omega)
  have e := prog_blocks (b := b) (z := [0, 0, 0, 0]) (b.length / 136) 0 200000 (s := Z25) (by omega) (by omega) (by omega) rfl Z25_R
  rw [List.drop_zero, Nat.zero_add] at e
  have hr : (b.drop (136 * (b.length / 136))).length = b.length % 136 := by rw [List.length_drop]; omega
  have hr' : (b.drop (136 * (b.length / 136))).length < 136 := by omega
  have g1 : (((b.drop (136 * (b.length / 136))).length : Nat) : Int) < 136 := by omega
  have tk := take_ok (lastP_length hr') (spongeB_length b (b.length / 136) 0 (s := Z25) rfl) (spongeB_R b (b.length / 136) 0 Z25_R)
  rw [stepB_congr (g := fun t => if t < b.length % 136 then b.getD (136 * (b.length / 136) + t) 0 else padAt (b.length % 136) t) _ fun t ht => by
    rw [lastP_getD hr' ht, hr]
    split
    · simp only [List.getD_eq_getElem?_getD, List.getElem?_drop]
    · rfl] at tk
  simp only [keccak_Sum.m, keccak_Sum.g]
  rw [show keccak_Sum.l2_0.m 200000 200000 (b, [0, 0, 0, 0, 0, 0, 0, 0, 0, 0, 0, 0, 0, 0, 0, 0, 0, 0, 0, 0, 0, 0, 0, 0, 0], [0, 0, 0, 0]) = _ from e]
  simp only [bindO, Option.bind_some, if_pos g1]
  change _ = some (lanesOf b) at tk
  unfold lastP at tk
  rw [tk]
  simp only [Option.bind_some]
  rw [show keccak_Sum.l12_0.m 200000 200000 _ = _ from prog_out (lanes_length b) [0, 0, 0, 0]]
  simp only [Option.bind_some]
  rw [List.drop_zero, List.take_of_length_le (by rw [outE_length]; omega)]
  cases word_Read.m 200000 (outE (lanesOf b)) <;> rfl
end Go.Abs.Pure
end
section
set_option linter.unusedVariables false
set_option linter.unusedSimpArgs false
set_option maxRecDepth 100000
namespace Go.Abs.Pure
open Go Go.Abs
theorem ref_at {i j a : Nat} (hi : i < 17) (hj : j < 8) (ha : a < 70000) : IntKind.wrap .i64 (IntKind.wrap .i64 ((a : Int) + IntKind.wrap .i64 (8 * (i : Int))) + (j : Int)) = ((a + (8 * i + j) : Nat) : Int) := by
  rw [show IntKind.wrap .i64 (8 * (i : Int)) = ((8 * i : Nat) : Int) by rw [wi64]; omega, show IntKind.wrap .i64 ((a : Int) + ((8 * i : Nat) : Int)) = ((a + 8 * i : Nat) : Int) by rw [wi64]; omega, wi64]
  omega
theorem ref_sh {j : Nat} (hj : j < 8) : IntKind.wrap .u64 (IntKind.wrap .i64 (8 * (j : Int))) = ((8 * j : Nat) : Int) := by
  rw [show IntKind.wrap .i64 (8 * (j : Int)) = ((8 * j : Nat) : Int) by rw [wi64]; omega, wu64]; omega
theorem inner_loop {p x5 x6 x7 : List Int} {i a : Nat} (hi : i < 17) (ha : a + 136 ≤ p.length) (hp : p.length < 70000) : ∀ (r j fuel : Nat) (l : List Int), j + r = 8 → r + 1 ≤ fuel → l.length = 25 →
    q02_Sum.l17_0.g (fun a0 a1 a2 a3 a4 a5 a6 => (a0, a1, a2, a3, a4, a5, a6)) 200000 fuel (j : Int) (i : Int) (a : Int) l p x5 x6 x7 = some ((i : Int), (a : Int), xorB (fun t => p.getD (a + t) 0) r (8 * i + j) l, p, x5, x6, x7)
  | 0, j, fuel + 1, l, hj, hf, hl => by
    have : j = 8 := by omega
    subst this
    rfl
  | r + 1, j, fuel + 1, l, hj, hf, hl => by
    have hlt : j < 8 := by omega
    have ha' : a < 70000 := by omega
    have g0 : decide ((j : Int) < 8) = true := decide_eq_true (by omega)
    have g1 : (0 : Int) ≤ (i : Int) := by omega
    have g2 : (i : Int) < ((25 : Nat) : Int) := by omega
    have g3 : (0 : Int) ≤ ((a + (8 * i + j) : Nat) : Int) := by omega
    have g4 : ((a + (8 * i + j) : Nat) : Int) < ((p.length : Nat) : Int) := by omega
    have g5 : (0 : Int) ≤ ((8 * j : Nat) : Int) := by omega
    have e1 : (8 * i + j) / 8 = i := by omega
    have e2 : (8 * i + j) % 8 * 8 = 8 * j := by omega
    have ih := inner_loop (p := p) (x5 := x5) (x6 := x6) (x7 := x7) hi ha hp r (j + 1) fuel (l.set i (xor64 (l.getD i 0) (ishl .u64 (IntKind.wrap .u64 (p.getD (a + (8 * i + j)) 0)) ((8 * j : Nat) : Int)))) (by omega) (by omega) (by simp [hl])
    show q02_Sum.l17_0.r _ _ _ _ _ _ _ _ _ _ _ = _
    simp only [q02_Sum.l17_0.r, g0, if_true, hl, ref_at hi hlt ha', ref_sh hlt, next136 j (by omega), if_pos g1, if_pos g2, if_pos g3, if_pos g4, if_pos g5, Int.toNat_natCast]
    refine Eq.trans ih ?_
    rw [xorB, e1, e2, show 8 * i + (j + 1) = 8 * i + j + 1 by omega]
theorem outer_loop {p x4 x5 x6 : List Int} {a : Nat} (ha : a + 136 ≤ p.length) (hp : p.length < 70000) : ∀ (r i fuel : Nat) (l : List Int), i + r = 17 → r + 1 ≤ fuel → l.length = 25 →
    q02_Sum.l14_0.g (fun a0 a1 a2 a3 a4 a5 => (a0, a1, a2, a3, a4, a5)) 200000 fuel (i : Int) (a : Int) l p x4 x5 x6 = some ((a : Int), xorB (fun t => p.getD (a + t) 0) (8 * r) (8 * i) l, x4, x5, p, x6)
  | 0, i, fuel + 1, l, hi, hf, hl => by
    have : i = 17 := by omega
    subst this
    rfl
  | r + 1, i, fuel + 1, l, hi, hf, hl => by
    have hlt : i < 17 := by omega
    have g0 : decide ((i : Int) < 17) = true := decide_eq_true (by omega)
    have inn := inner_loop (p := p) (x5 := x4) (x6 := x5) (x7 := x6) hlt ha hp 8 0 200000 l rfl (by omega) hl
    rw [show ((0 : Nat) : Int) = 0 from rfl, Nat.add_zero] at inn
    have ih := outer_loop (p := p) (x4 := x4) (x5 := x5) (x6 := x6) ha hp r (i + 1) fuel (xorB (fun t => p.getD (a + t) 0) 8 (8 * i) l) (by omega) (by omega) (by rw [xorB_length, hl])
    show q02_Sum.l14_0.r _ _ _ _ _ _ _ _ _ _ = _
    simp only [q02_Sum.l14_0.r, g0, if_true, q02_Sum.l17_0.m, inn, bindO, Option.bind_some, next136 i (by omega)]
    refine Eq.trans ih ?_
    rw [show 8 * (i + 1) = 8 * i + 8 by omega, xorB_add, show 8 + 8 * r = 8 * (r + 1) by omega]
theorem ref_blocks {p z : List Int} (hp : p.length < 70000) : ∀ (q a fuel : Nat) {l : List Int}, a + 136 * q = p.length → q + 1 ≤ fuel → l.length = 25 →
    q02_Sum.l11_0.g (fun a0 a1 => (a0, a1)) 200000 fuel (a : Int) p l turnsT kecKeys z = some (spongeB p q a l, z)
  | 0, a, fuel + 1, l, ha, hf, hl => by
    have g0 : decide ((a : Int) < ((p.length : Nat) : Int)) = false := decide_eq_false (by omega)
    show q02_Sum.l11_0.r _ _ _ _ _ _ _ _ _ = _
    simp only [q02_Sum.l11_0.r, g0, Bool.false_eq_true, if_false]
    rfl
  | q + 1, a, fuel + 1, l, ha, hf, hl => by
    have g0 : decide ((a : Int) < ((p.length : Nat) : Int)) = true := decide_eq_true (by omega)
    have out := outer_loop (p := p) (x4 := turnsT) (x5 := kecKeys) (x6 := z) (a := a) (by omega) hp 17 0 200000 l rfl (by omega) hl
    rw [show ((0 : Nat) : Int) = 0 from rfl] at out
    have w : IntKind.wrap .i64 ((a : Int) + 136) = ((a + 136 : Nat) : Int) := by rw [wi64]; omega
    have ih := ref_blocks (p := p) (z := z) hp q (a + 136) fuel (l := stepB (fun t => p.getD (a + t) 0) l) (by omega) (by omega) (stepB_length _ hl)
    have hm := ref_mix_ok (s := xorB (fun t => p.getD (a + t) 0) (8 * 17) (8 * 0) l) (by rw [xorB_length, hl])
    show q02_Sum.l11_0.r _ _ _ _ _ _ _ _ _ = _
    simp only [q02_Sum.l11_0.r, g0, if_true, q02_Sum.l14_0.m, out, bindO, Option.bind_some, hm, w]
    exact ih
theorem pad_loop {q : Nat} (hq : q < 500) (z : List Int) : ∀ (r fuel : Nat) (x : List Int), x.length + r = 136 * (q + 1) → r ≤ 135 → r + 1 ≤ fuel → q02_Sum.l4_0.g (fun a0 a1 => (a0, a1)) 200000 fuel x z = some (x ++ List.replicate r 0, z)
  | 0, fuel + 1, x, hx, hr, hf => by
    have g0 : (Int.tmod ((x.length : Nat) : Int) 136 != 0) = false := by
      rw [tmod_nonneg' (by omega)]
      have : ((x.length : Nat) : Int) % 136 = 0 := by omega
      rw [this]; rfl
    show q02_Sum.l4_0.r _ _ _ _ _ = _
    simp only [q02_Sum.l4_0.r, g0, Bool.false_eq_true, if_false, List.replicate_zero, List.append_nil]
  | r + 1, fuel + 1, x, hx, hr, hf => by
    have g0 : (Int.tmod ((x.length : Nat) : Int) 136 != 0) = true := by
      rw [tmod_nonneg' (by omega)]
      simp only [bne_iff_ne, ne_eq]
      omega
    have g1 : (x.length + 1) * 1 ≤ 70368744177664 ∧ x.length + 1 ≤ 9223372036854775807 := by omega
    show q02_Sum.l4_0.r _ _ _ _ _ = _
    simp only [q02_Sum.l4_0.r, g0, if_true, if_pos g1]
    refine Eq.trans (pad_loop hq z r fuel (x ++ [0]) (by simp; omega) (by omega) (by omega)) ?_
    rw [List.append_assoc]
    rfl
def padP (b : List Int) : List Int := (b ++ [1]) ++ List.replicate (135 - b.length % 136) 0
def padQ (b : List Int) : List Int := (padP b).set ((padP b).length - 1) (ibits .xor .u8 ((padP b).getD ((padP b).length - 1) 0) 128)
theorem padP_length (b : List Int) : (padP b).length = 136 * (b.length / 136 + 1) := by
  have hm := Nat.div_add_mod b.length 136
  have hlt := Nat.mod_lt b.length (show 136 > 0 by omega)
  simp only [padP, List.length_append, List.length_replicate, List.length_cons, List.length_nil]
  omega
theorem padP_getD (b : List Int) (t : Nat) : (padP b).getD t 0 = if t < b.length then b.getD t 0 else if t = b.length then 1 else 0 := by
  simp only [padP, List.getD_eq_getElem?_getD, List.getElem?_append, List.length_append, List.length_cons, List.length_nil]
  by_cases h : t < b.length
  · rw [if_pos (by omega), if_pos h, if_pos h]
  · by_cases e : t = b.length
    · rw [if_pos (by omega), if_neg h, if_neg h, if_pos e, e]; simp
    · rw [if_neg (by omega), if_neg h, if_neg e, List.getElem?_replicate]
      split <;> rfl
theorem padQ_getD (b : List Int) {t : Nat} (ht : t < 136 * (b.length / 136 + 1)) : (padQ b).getD t 0 = if t = 136 * (b.length / 136 + 1) - 1 then ibits .xor .u8 ((padP b).getD (136 * (b.length / 136 + 1) - 1) 0) 128 else (padP b).getD t 0 := by
  unfold padQ
  rw [padP_length, List.getD_eq_getElem?_getD, List.getElem?_set]
  by_cases e : 136 * (b.length / 136 + 1) - 1 = t
  · subst e
    rw [if_pos rfl, if_pos rfl, if_pos (by rw [padP_length]; omega)]
    rfl
  · rw [if_neg e, if_neg (fun h => e h.symm), List.getD_eq_getElem?_getD]
theorem ref_lanes (b : List Int) : spongeB (padQ b) (b.length / 136 + 1) 0 Z25 = lanesOf b := by
  have hm := Nat.div_add_mod b.length 136
  have hlt := Nat.mod_lt b.length (show 136 > 0 by omega)
  rw [spongeB_last, Nat.zero_add, spongeB_congr (p' := b) (b.length / 136) 0 Z25 fun t _ h2 => by
    rw [padQ_getD b (by omega), if_neg (by omega), padP_getD, if_pos (by omega)]]
  refine stepB_congr _ fun t ht => ?_
  rw [padQ_getD b (by omega), padP_getD, padP_getD]
  by_cases h : t < b.length % 136
  · rw [if_pos h, if_neg (by omega), if_pos (by omega)]
  · rw [if_neg h]
    unfold padAt
    by_cases e : t = 135
    · rw [if_pos e, if_pos (by omega), if_neg (by omega)]
      congr 1
      by_cases k : t = b.length % 136
      · rw [if_pos k, if_pos (by omega)]
      · rw [if_neg k, if_neg (by omega)]
    · rw [if_neg e, if_neg (by omega), if_neg (by omega)]
      by_cases k : t = b.length % 136
      · rw [if_pos k, if_pos (by omega)]
      · rw [if_neg k, if_neg (by omega)]
theorem ref_sum {b : List Int} (h : b.length < 60000) : q02_Sum.m 200000 b = q01_Read.m 200000 (outE (lanesOf b)) := by
  have hm := Nat.div_add_mod b.length 136
  have hlt := Nat.mod_lt b.length (show 136 > 0 by omega)
  have g1 : b.length * 1 ≤ 70368744177664 ∧ b.length ≤ 9223372036854775807 := by omega
  have g2 : (b.length + 1) * 1 ≤ 70368744177664 ∧ b.length + 1 ≤ 9223372036854775807 := by omega
  have pad := pad_loop (q := b.length / 136) (by omega) [0, 0, 0, 0] (135 - b.length % 136) 200000 (b ++ [1]) (by simp; omega) (by omega) (by omega)
  have hl := padP_length b
  have w : IntKind.wrap .i64 ((((padP b).length : Nat) : Int) - 1) = (((padP b).length - 1 : Nat) : Int) := by rw [wi64]; omega
  have g3 : (0 : Int) ≤ (((padP b).length - 1 : Nat) : Int) := by omega
  have g4 : (((padP b).length - 1 : Nat) : Int) < (((padP b).length : Nat) : Int) := by omega
  have hq : (padQ b).length = 136 * (b.length / 136 + 1) := by rw [padQ, List.length_set, hl]
  have bl := ref_blocks (p := padQ b) (z := [0, 0, 0, 0]) (by omega) (b.length / 136 + 1) 0 200000 (l := Z25) (by omega) (by omega) rfl
  rw [ref_lanes] at bl
  simp only [q02_Sum.m, q02_Sum.g, if_pos g1, if_pos g2]
  rw [show q02_Sum.l4_0.m 200000 200000 (b ++ [1], [0, 0, 0, 0]) = some (padP b, [0, 0, 0, 0]) from pad]
  simp only [bindO, Option.bind_some, w, if_pos g3, if_pos g4, turns_ok, keys_ok, Int.toNat_natCast]
  have bl' : q02_Sum.l11_0.m 200000 200000 (0, padQ b, Z25, turnsT, kecKeys, [0, 0, 0, 0]) = some (lanesOf b, [0, 0, 0, 0]) := bl
  change (q02_Sum.l11_0.m 200000 200000 (0, padQ b, Z25, turnsT, kecKeys, [0, 0, 0, 0])).bind _ = _
  rw [bl']
  simp only [Option.bind_some]
  rw [ref_out (lanes_length b)]
  simp only [Option.bind_some]
  cases q01_Read.m 200000 (outE (lanesOf b)) <;> rfl
theorem sums_alike {b : List Int} (h : b.length < 60000) : ∃ r, keccak_Sum.m 200000 b = some r ∧ q02_Sum.m 200000 b = some r := by
  obtain ⟨r, h1, h2⟩ := reads_alike (outE_length (lanesOf b))
  exact ⟨r, by rw [prog_sum (by omega), h1], by rw [ref_sum h, h2]⟩
end Go.Abs.Pure
end
section
set_option linter.unusedVariables false
set_option linter.unusedSimpArgs false
set_option maxRecDepth 100000
namespace Go.Abs.Pure
open Go Go.Abs
abbrev LW (l : List (List Int)) : List AV := l.map (AV.ints .u64 4)
theorem words4_of : ∀ {l : List AV}, (∀ x ∈ l, ∃ r, x = AV.ints .u64 4 r ∧ InA .u64 4 r) → ∃ l' : List (List Int), l = LW l' ∧ ∀ x ∈ l', x.length = 4
  | [], _ => ⟨[], rfl, by simp⟩
  | x :: l, h => by
    obtain ⟨r, rfl, hr⟩ := h x (by simp)
    obtain ⟨l', rfl, hl⟩ := words4_of (l := l) fun y hy => h y (by simp [hy])
    exact ⟨r :: l', rfl, by simpa using ⟨hr.1, hl⟩⟩
def bytesE (w : List Int) : List Int := (List.range 32).map fun i => IntKind.wrap .u8 (ishr .u64 (w.getD ((31 - i) / 8) 0) (((31 - i) % 8 * 8 : Nat) : Int))
theorem bytesE_length (w : List Int) : (bytesE w).length = 32 := by simp [bytesE]
theorem prog_bytes {w : List Int} (h : w.length = 4) : word_Bytes.m 200000 w = some (bytesE w) := by
  obtain ⟨a, s0, rfl, h0⟩ := cons_of h
  obtain ⟨b, s1, rfl, h1⟩ := cons_of h0
  obtain ⟨c, s2, rfl, h2⟩ := cons_of h1
  obtain ⟨d, s3, rfl, h3⟩ := cons_of h2
  obtain rfl := nil_of h3
  kernel_rfl
theorem ref_bytes {w : List Int} (h : w.length = 4) : q01_Bytes.m 200000 w = some (bytesE w) := by
  obtain ⟨a, s0, rfl, h0⟩ := cons_of h
  obtain ⟨b, s1, rfl, h1⟩ := cons_of h0
  obtain ⟨c, s2, rfl, h2⟩ := cons_of h1
  obtain ⟨d, s3, rfl, h3⟩ := cons_of h2
  obtain rfl := nil_of h3
  kernel_rfl
end Go.Abs.Pure
end
section
set_option linter.unusedVariables false
set_option linter.unusedSimpArgs false
set_option maxRecDepth 100000
namespace Go.Abs.Pure
open Go Go.Abs
structure Pt where
  dyn : Bool
  w : List Int
  b : List Int
def Pt.av (p : Pt) : AV := .agg [.bool p.dyn, .ints .u64 4 p.w, .rints .u8 p.b]
abbrev LP (l : List Pt) : List AV := l.map Pt.av
theorem parts_of : ∀ {l : List AV}, (∀ x ∈ l, ∃ d w b, x = AV.agg [.bool d, .ints .u64 4 w, .rints .u8 b] ∧ InA .u64 4 w ∧ InS .u8 b) → ∃ l' : List Pt, l = LP l' ∧ ∀ p ∈ l', p.w.length = 4
  | [], _ => ⟨[], rfl, by simp⟩
  | x :: l, h => by
    obtain ⟨d, w, b, rfl, hw, hb⟩ := h x (by simp)
    obtain ⟨l', rfl, hl⟩ := parts_of (l := l) fun y hy => h y (by simp [hy])
    exact ⟨⟨d, w, b⟩ :: l', rfl, by simpa using ⟨hw.1, hl⟩⟩
theorem LP_length (l : List Pt) : (LP l).length = l.length := by simp [LP]
theorem at_part {l : List Pt} {i : Nat} (h : i < l.length) : List.getD (LP l) i AV.any = (l[i]).av := by
  simp [LP, List.getD_eq_getElem?_getD, h]
def PL (L : List AV) (l : List Pt) : Prop := L.length = l.length ∧ ∀ i (h : i < l.length), ∃ y, List.getD L i AV.any = .agg [.bool (l[i]).dyn, .ints .u64 4 (l[i]).w, y] ∧ tkRints .u8 y = some (l[i]).b
theorem PL.of (l : List Pt) : PL (LP l) l := ⟨LP_length l, fun i h => ⟨_, at_part h, rfl⟩⟩
theorem part_agg (x y z : AV) : tkAgg 3 (.agg [x, y, z]) = some [x, y, z] := rfl
theorem part_bool (d : Bool) (x y : AV) : tkBool (List.getD [.bool d, x, y] 0 AV.any) = some d := rfl
theorem part_word (w : List Int) (x y : AV) : tkInts .u64 4 (List.getD [x, .ints .u64 4 w, y] 1 AV.any) = some w := rfl
theorem part_last (x y z : AV) : List.getD [x, y, z] 2 AV.any = z := rfl
def padL (m : Nat) : Nat := (32 - m % 32) % 32
def cost : List Pt → Nat
  | [] => 0
  | p :: r => 96 + p.b.length + cost r
def numE (m : Nat) : List Int := bytesE [(m : Int), 0, 0, 0]
theorem numE_length (m : Nat) : (numE m).length = 32 := bytesE_length _
def encL (T : Nat) : List Pt → List Int → List Int → List Int × List Int
  | [], h, t => (h, t)
  | p :: r, h, t => if p.dyn = true then encL T r (h ++ numE (T + t.length)) (((t ++ numE p.b.length) ++ p.b) ++ List.replicate (padL p.b.length) (0 : Int)) else encL T r (h ++ bytesE p.w) t
theorem encL_length (T : Nat) : ∀ (l : List Pt) (h t : List Int), (encL T l h t).1.length = h.length + 32 * l.length ∧ (encL T l h t).2.length ≤ t.length + cost l
  | [], h, t => ⟨rfl, Nat.le_refl _⟩
  | p :: r, h, t => by
    unfold encL
    have hp : padL p.b.length < 32 := Nat.mod_lt _ (by omega)
    split
    · have e := encL_length T r (h ++ numE (T + t.length)) (((t ++ numE p.b.length) ++ p.b) ++ List.replicate (padL p.b.length) (0 : Int))
      simp only [List.length_append, numE_length, List.length_replicate, List.length_cons, cost] at e ⊢
      omega
    · have e := encL_length T r (h ++ bytesE p.w) t
      simp only [List.length_append, bytesE_length, List.length_cons, cost] at e ⊢
      omega
theorem next2000 {i : Nat} (h : i < 3000) : IntKind.wrap .i64 ((i : Int) + 1) = ((i + 1 : Nat) : Int) := by rw [wi64]; omega
theorem at_tail {T t : Nat} (h : T ≤ 100000) (h2 : t ≤ 1000000) : IntKind.wrap .u64 (IntKind.wrap .i64 (IntKind.wrap .i64 (32 * (T : Int)) + (t : Int))) = ((32 * T + t : Nat) : Int) := by
  rw [wi64, wi64, wu64]; omega
theorem at_tail' {T t : Nat} (h : T ≤ 100000) (h2 : t ≤ 1000000) : IntKind.wrap .i64 (IntKind.wrap .i64 (32 * (T : Int)) + (t : Int)) = ((32 * T + t : Nat) : Int) := by
  rw [wi64, wi64]; omega
theorem len_u64 {t : Nat} (h2 : t ≤ 1000000) : IntKind.wrap .u64 (t : Int) = (t : Int) := by rw [wu64]; omega
theorem pad_int {m : Nat} (h : m ≤ 1000000) : Int.tmod (IntKind.wrap .i64 (32 - Int.tmod (m : Int) 32)) 32 = (padL m : Int) := by
  have e : IntKind.wrap .i64 (32 - Int.tmod (m : Int) 32) = 32 - (m : Int) % 32 := by
    rw [tmod_nonneg' (by omega), wi64]; omega
  rw [e, tmod_nonneg' (by omega)]
  unfold padL
  omega
theorem number_ok {m : Nat} (h : m ≤ 10000000) : abi_number.m 200000 (m : Int) = some (numE m) := by
  have w : IntKind.wrap .u64 (m : Int) = (m : Int) := by rw [wu64]; omega
  simp only [abi_number.m, abi_number.g, word_From.m, word_From.g, w, bindO, Option.bind_some, prog_bytes (w := [(m : Int), 0, 0, 0]) rfl]
  rfl
theorem ref_number {m : Nat} : q01_Bytes.m 200000 [(m : Int), 0, 0, 0] = some (numE m) := ref_bytes (w := [(m : Int), 0, 0, 0]) rfl
theorem cost_drop {l : List Pt} {i : Nat} (h : i < l.length) : cost (l.drop i) = 96 + (l[i]).b.length + cost (l.drop (i + 1)) := by
  rw [List.drop_eq_getElem_cons h]; rfl
theorem abi_loop {L : List AV} {l : List Pt} (hL : PL L l) (hl : ∀ p ∈ l, p.w.length = 4) (hn : l.length ≤ 2000) : ∀ (r i fuel : Nat) (h t : List Int), i + r = l.length → r + 1 ≤ fuel → h.length = 32 * i → t.length + cost (l.drop i) ≤ 200000 →
    abi_Encode.l3_0.g (fun a b => (a, b)) 200000 fuel (i : Int) ((l.length : Nat) : Int) L L h t = some (encL (32 * l.length) (l.drop i) h t)
  | 0, i, fuel + 1, h, t, hi, hf, hh, ht => by
    have : i = l.length := by omega
    subst this
    have g : decide (((l.length : Nat) : Int) < ((l.length : Nat) : Int)) = false := decide_eq_false (by omega)
    show abi_Encode.l3_0.r _ _ _ _ _ _ _ _ _ = _
    simp only [abi_Encode.l3_0.r, g, Bool.false_eq_true, if_false, List.drop_length, encL]
  | r + 1, i, fuel + 1, h, t, hi, hf, hh, ht => by
    have hlt : i < l.length := by omega
    have g : decide ((i : Int) < ((l.length : Nat) : Int)) = true := decide_eq_true (by omega)
    have g1 : (0 : Int) ≤ (i : Int) := by omega
    have g2 : (i : Int) < ((L.length : Nat) : Int) := by rw [hL.1]; omega
    have hw := hl l[i] (List.getElem_mem hlt)
    rw [cost_drop hlt] at ht
    have hb : (l[i]).b.length ≤ 1000000 := by omega
    obtain ⟨y, hy, hyb⟩ := hL.2 i hlt
    rw [List.drop_eq_getElem_cons hlt]
    show abi_Encode.l3_0.r _ _ _ _ _ _ _ _ _ = _
    simp only [abi_Encode.l3_0.r, g, if_true, if_pos g1, if_pos g2, Int.toNat_natCast, hy, part_agg, part_bool, part_word, part_last, hyb, bindO, Option.bind_some, next2000 (show i < 3000 by omega)]
    generalize l[i] = p at *
    unfold encL
    cases hd : p.dyn with
    | false =>
      have g3 : ((h.length + (bytesE p.w).length) * 1 ≤ 70368744177664 ∧ h.length + (bytesE p.w).length ≤ 9223372036854775807) := by rw [bytesE_length]; omega
      simp only [Bool.not_false, if_true, prog_bytes hw, Option.bind_some, if_pos g3, Bool.false_eq_true, if_false]
      exact abi_loop hL hl hn r (i + 1) fuel _ t (by omega) (by omega) (by rw [List.length_append, bytesE_length]; omega) (by omega)
    | true =>
      have hp : padL p.b.length < 32 := Nat.mod_lt _ (by omega)
      have e1 := at_tail' (T := l.length) (t := t.length) (by omega) (by omega)
      have g3 : ((h.length + (numE (32 * l.length + t.length)).length) * 1 ≤ 70368744177664 ∧ h.length + (numE (32 * l.length + t.length)).length ≤ 9223372036854775807) := by rw [numE_length]; omega
      have g4 : ((t.length + (numE p.b.length).length) * 1 ≤ 70368744177664 ∧ t.length + (numE p.b.length).length ≤ 9223372036854775807) := by rw [numE_length]; omega
      have g5 : (((t ++ numE p.b.length).length + p.b.length) * 1 ≤ 70368744177664 ∧ (t ++ numE p.b.length).length + p.b.length ≤ 9223372036854775807) := by rw [List.length_append, numE_length]; omega
      have g6 : (0 : Int) ≤ (padL p.b.length : Int) := by omega
      have g7 : ((((t ++ numE p.b.length) ++ p.b).length + (List.replicate (padL p.b.length) (0 : Int)).length) * 1 ≤ 70368744177664 ∧ ((t ++ numE p.b.length) ++ p.b).length + (List.replicate (padL p.b.length) (0 : Int)).length ≤ 9223372036854775807) := by
        simp only [List.length_append, numE_length, List.length_replicate]; omega
      simp only [Bool.not_true, Bool.false_eq_true, if_false, hL.1, e1, number_ok (m := 32 * l.length + t.length) (by omega), Option.bind_some, if_pos g3, number_ok (m := p.b.length) (by omega), if_pos g4, if_pos g5, pad_int hb, if_pos g6, Int.toNat_natCast, if_pos g7, if_true]
      exact abi_loop hL hl hn r (i + 1) fuel _ _ (by omega) (by omega) (by rw [List.length_append, numE_length]; omega) (by simp only [List.length_append, numE_length, List.length_replicate]; omega)
theorem pad_ref {x0 : Int} {x1 : List AV} {h : List Int} : ∀ (r fuel : Nat) (t : List Int), (t.length + r) % 32 = 0 → r ≤ 31 → r + 1 ≤ fuel → t.length ≤ 1000000 →
    q05_Encode.l11_0.g (fun a b c d => (a, b, c, d)) 200000 fuel x0 x1 t h = some (x0, x1, h, t ++ List.replicate r (0 : Int))
  | 0, fuel + 1, t, h0, hr, hf, ht => by
    have g : (Int.tmod ((t.length : Nat) : Int) 32 != 0) = false := by
      rw [tmod_nonneg' (by omega)]
      have : ((t.length : Nat) : Int) % 32 = 0 := by omega
      rw [this]; rfl
    show q05_Encode.l11_0.r _ _ _ _ _ _ _ = _
    simp only [q05_Encode.l11_0.r, g, Bool.false_eq_true, if_false, List.replicate_zero, List.append_nil]
  | r + 1, fuel + 1, t, h0, hr, hf, ht => by
    have g : (Int.tmod ((t.length : Nat) : Int) 32 != 0) = true := by
      rw [tmod_nonneg' (by omega)]
      have : ((t.length : Nat) : Int) % 32 ≠ 0 := by omega
      simpa using this
    have g2 : ((t.length + 1) * 1 ≤ 70368744177664 ∧ t.length + 1 ≤ 9223372036854775807) := by omega
    show q05_Encode.l11_0.r _ _ _ _ _ _ _ = _
    simp only [q05_Encode.l11_0.r, g, if_true, if_pos g2]
    rw [pad_ref r fuel (t ++ [0]) (by rw [List.length_append]; simp only [List.length_singleton]; omega) (by omega) (by omega) (by rw [List.length_append]; simp only [List.length_singleton]; omega)]
    rw [List.append_assoc]
    rfl
theorem ref_loop {L : List AV} {l : List Pt} (hL : PL L l) (hl : ∀ p ∈ l, p.w.length = 4) (hn : l.length ≤ 2000) : ∀ (r i fuel : Nat) (h t : List Int), i + r = l.length → r + 1 ≤ fuel → h.length = 32 * i → t.length % 32 = 0 → t.length + cost (l.drop i) ≤ 200000 →
    q05_Encode.l3_0.g (fun a b => (a, b)) 200000 fuel (i : Int) L h t = some (encL (32 * l.length) (l.drop i) h t)
  | 0, i, fuel + 1, h, t, hi, hf, hh, hm, ht => by
    have : i = l.length := by omega
    subst this
    have g : decide (((l.length : Nat) : Int) < ((L.length : Nat) : Int)) = false := decide_eq_false (by rw [hL.1]; omega)
    show q05_Encode.l3_0.r _ _ _ _ _ _ _ = _
    simp only [q05_Encode.l3_0.r, g, Bool.false_eq_true, if_false, List.drop_length, encL]
  | r + 1, i, fuel + 1, h, t, hi, hf, hh, hm, ht => by
    have hlt : i < l.length := by omega
    have g2 : (i : Int) < ((L.length : Nat) : Int) := by rw [hL.1]; omega
    have g : decide ((i : Int) < ((L.length : Nat) : Int)) = true := decide_eq_true g2
    have g1 : (0 : Int) ≤ (i : Int) := by omega
    have hw := hl l[i] (List.getElem_mem hlt)
    rw [cost_drop hlt] at ht
    have hb : (l[i]).b.length ≤ 1000000 := by omega
    obtain ⟨y, hy, hyb⟩ := hL.2 i hlt
    rw [List.drop_eq_getElem_cons hlt]
    show q05_Encode.l3_0.r _ _ _ _ _ _ _ = _
    simp only [q05_Encode.l3_0.r, g, if_true, if_pos g1, if_pos g2, Int.toNat_natCast, hy, part_agg, part_bool, part_word, part_last, hyb, bindO, Option.bind_some, next2000 (show i < 3000 by omega)]
    generalize l[i] = p at *
    unfold encL
    cases hd : p.dyn with
    | false =>
      have g3 : ((h.length + (bytesE p.w).length) * 1 ≤ 70368744177664 ∧ h.length + (bytesE p.w).length ≤ 9223372036854775807) := by rw [bytesE_length]; omega
      simp only [Bool.not_false, if_true, ref_bytes hw, Option.bind_some, if_pos g3, Bool.false_eq_true, if_false]
      exact ref_loop hL hl hn r (i + 1) fuel _ t (by omega) (by omega) (by rw [List.length_append, bytesE_length]; omega) hm (by omega)
    | true =>
      have hp : padL p.b.length < 32 := Nat.mod_lt _ (by omega)
      have e1 := at_tail (T := l.length) (t := t.length) (by omega) (by omega)
      have g3 : ((h.length + (numE (32 * l.length + t.length)).length) * 1 ≤ 70368744177664 ∧ h.length + (numE (32 * l.length + t.length)).length ≤ 9223372036854775807) := by rw [numE_length]; omega
      have g4 : ((t.length + (numE p.b.length).length) * 1 ≤ 70368744177664 ∧ t.length + (numE p.b.length).length ≤ 9223372036854775807) := by rw [numE_length]; omega
      have g5 : (((t ++ numE p.b.length).length + p.b.length) * 1 ≤ 70368744177664 ∧ (t ++ numE p.b.length).length + p.b.length ≤ 9223372036854775807) := by rw [List.length_append, numE_length]; omega
      have hlen : ((t ++ numE p.b.length) ++ p.b).length = t.length + 32 + p.b.length := by simp only [List.length_append, numE_length]
      have pl := pad_ref (x0 := (i : Int)) (x1 := L) (h := h ++ numE (32 * l.length + t.length)) (padL p.b.length) 200000 ((t ++ numE p.b.length) ++ p.b) (by rw [hlen]; unfold padL; omega) (by omega) (by omega) (by rw [hlen]; omega)
      simp only [Bool.not_true, Bool.false_eq_true, if_false, hL.1, e1, q01_From.m, q01_From.g, ref_number, Option.bind_some, if_pos g3, len_u64 hb, if_pos g4, if_pos g5, if_true, q05_Encode.l11_0.m, pl, next2000 (show i < 3000 by omega)]
      exact ref_loop hL hl hn r (i + 1) fuel _ _ (by omega) (by omega) (by rw [List.length_append, numE_length]; omega) (by simp only [List.length_append, numE_length, List.length_replicate]; unfold padL; omega) (by simp only [List.length_append, numE_length, List.length_replicate]; omega)
def encE (l : List Pt) : List Int := (encL (32 * l.length) l [] []).1 ++ (encL (32 * l.length) l [] []).2
theorem abi_Encode_ok {L : List AV} {l : List Pt} (hL : PL L l) (hl : ∀ p ∈ l, p.w.length = 4) (hn : l.length ≤ 2000) (hc : cost l ≤ 200000) : abi_Encode.m 200000 L = some (encE l) := by
  have e := abi_loop hL hl hn l.length 0 200000 [] [] (by omega) (by omega) (by simp) (by simpa using hc)
  rw [List.drop_zero, show ((0 : Nat) : Int) = 0 from rfl] at e
  have k := encL_length (32 * l.length) l [] []
  have g : ((((encL (32 * l.length) l [] []).1.length + (encL (32 * l.length) l [] []).2.length) * 1) ≤ 70368744177664 ∧ ((encL (32 * l.length) l [] []).1.length + (encL (32 * l.length) l [] []).2.length) ≤ 9223372036854775807) := by
    simp only [List.length_nil] at k; omega
  simp only [abi_Encode.m, abi_Encode.g, abi_Encode.l3_0.m, hL.1, e, bindO, Option.bind_some, if_pos g]
  rfl
theorem q05_Encode_ok {L : List AV} {l : List Pt} (hL : PL L l) (hl : ∀ p ∈ l, p.w.length = 4) (hn : l.length ≤ 2000) (hc : cost l ≤ 200000) : q05_Encode.m 200000 L = some (encE l) := by
  have e := ref_loop hL hl hn l.length 0 200000 [] [] (by omega) (by omega) (by simp) rfl (by simpa using hc)
  rw [List.drop_zero, show ((0 : Nat) : Int) = 0 from rfl] at e
  have k := encL_length (32 * l.length) l [] []
  have g : ((((encL (32 * l.length) l [] []).1.length + (encL (32 * l.length) l [] []).2.length) * 1) ≤ 70368744177664 ∧ ((encL (32 * l.length) l [] []).1.length + (encL (32 * l.length) l [] []).2.length) ≤ 9223372036854775807) := by
    simp only [List.length_nil] at k; omega
  simp only [q05_Encode.m, q05_Encode.g, q05_Encode.l3_0.m, e, bindO, Option.bind_some, if_pos g]
  rfl
def muchL : List Pt → Nat → Nat
  | [], n => n
  | p :: r, n => if n ≤ 2000 then muchL r (n + (min p.b.length 2000 + 1)) else n
theorem muchL_ge : ∀ (l : List Pt) (n : Nat), n ≤ muchL l n
  | [], n => Nat.le_refl _
  | p :: r, n => by
    unfold muchL
    split
    · have := muchL_ge r (n + (min p.b.length 2000 + 1)); omega
    · exact Nat.le_refl _
theorem muchL_cost : ∀ (l : List Pt) (n : Nat), muchL l n ≤ 2000 → cost l + 96 * n ≤ 192000
  | [], n, h => by simp only [muchL] at h; simp only [cost]; omega
  | p :: r, n, h => by
    unfold muchL at h
    split at h
    · have k := muchL_ge r (n + (min p.b.length 2000 + 1))
      have e := muchL_cost r _ h
      have : min p.b.length 2000 = p.b.length := by omega
      simp only [cost]
      omega
    · omega
theorem much_loop {L : List AV} {l : List Pt} (hL : PL L l) (hn : l.length ≤ 140737488351232) : ∀ (fuel i n : Nat), 2002 ≤ fuel + n → 1 ≤ fuel → i ≤ l.length → i ≤ n →
    l05_much.l3_0.g (fun a => a) 200000 fuel (i : Int) L (n : Int) = some ((muchL (l.drop i) n : Nat) : Int)
  | fuel + 1, i, n, hf, h1, hi, hin => by
    show l05_much.l3_0.r _ _ _ _ _ _ = _
    rcases Nat.lt_or_ge i l.length with hlt | hge
    · have g2 : (i : Int) < ((L.length : Nat) : Int) := by rw [hL.1]; omega
      have g : decide ((i : Int) < ((L.length : Nat) : Int)) = true := decide_eq_true g2
      have g1 : (0 : Int) ≤ (i : Int) := by omega
      obtain ⟨y, hy, hyb⟩ := hL.2 i hlt
      rw [List.drop_eq_getElem_cons hlt]
      rcases Nat.lt_or_ge 2000 n with hb | hb
      · have g3 : decide ((n : Int) ≤ 2000) = false := decide_eq_false (by omega)
        simp only [l05_much.l3_0.r, g, g3, if_true, Bool.false_eq_true, if_false, muchL, if_neg (show ¬ n ≤ 2000 by omega)]
      · have g3 : decide ((n : Int) ≤ 2000) = true := decide_eq_true (by omega)
        have w1 : IntKind.wrap .i64 ((i : Int) + 1) = ((i + 1 : Nat) : Int) := by rw [wi64]; omega
        have w2 : ∀ m : Nat, IntKind.wrap .i64 ((n : Int) + IntKind.wrap .i64 ((if (2000 : Int) < (m : Int) then 2000 else (m : Int)) + 1)) = ((n + (min m 2000 + 1) : Nat) : Int) := fun m => by
          rw [wi64, wi64]
          split <;> omega
        simp only [l05_much.l3_0.r, g, g3, if_true, if_pos g1, if_pos g2, Int.toNat_natCast, hy, part_agg, part_bool, part_word, part_last, hyb, bindO, Option.bind_some, w1, w2, muchL, if_pos hb]
        exact much_loop hL hn fuel (i + 1) _ (by omega) (by omega) (by omega) (by omega)
    · have : i = l.length := by omega
      subst this
      have g : decide (((l.length : Nat) : Int) < ((L.length : Nat) : Int)) = false := decide_eq_false (by rw [hL.1]; omega)
      simp only [l05_much.l3_0.r, g, Bool.false_eq_true, if_false, List.drop_length, muchL]
theorem much_ok {L : List AV} {l : List Pt} (hL : PL L l) (hn : l.length ≤ 140737488351232) : ∃ b, l05_much.m 200000 L = some b ∧ (b = false → l.length ≤ 2000 ∧ cost l ≤ 200000) := by
  have e := much_loop hL hn 200000 0 l.length (by omega) (by omega) (by omega) (by omega)
  rw [List.drop_zero, show ((0 : Nat) : Int) = 0 from rfl] at e
  refine ⟨decide (((muchL l l.length : Nat) : Int) > 2000), ?_, fun h => ?_⟩
  · simp only [l05_much.m, l05_much.g, l05_much.l3_0.m, hL.1, e, bindO, Option.bind_some]
  · have h' := of_decide_eq_false h
    have h2 : muchL l l.length ≤ 2000 := by omega
    have k := muchL_ge l l.length
    have c := muchL_cost l l.length h2
    omega
end Go.Abs.Pure
end
section
set_option linter.unusedVariables false
set_option linter.unusedSimpArgs false
set_option maxRecDepth 100000
namespace Go.Abs.Pure
open Go Go.Abs
theorem orB_length (b : List Int) : ∀ (r i : Nat) (s : List Int), (orB b r i s).length = s.length
  | 0, _, s => rfl
  | r + 1, i, s => by rw [orB, orB_length b r]; simp
theorem reads4 {b : List Int} (h : b.length = 32) : ∃ r, word_Read.m 200000 b = some r ∧ q01_Read.m 200000 b = some r ∧ r.length = 4 := by
  have e := prog_read_loop h [0, 0, 0, 0] 32 0 200000 [0, 0, 0, 0] rfl (by omega)
  have k := ref_read_loop h [0, 0, 0, 0] 32 0 200000 [0, 0, 0, 0] rfl (by omega)
  rw [show ((0 : Nat) : Int) = 0 from rfl] at e k
  have c : (if (0 : Int) > IntKind.wrap .i64 (((32 : Nat) : Int) - 32) then (0 : Int) else IntKind.wrap .i64 (((32 : Nat) : Int) - 32)) = 0 := rfl
  refine ⟨orB b 32 0 [0, 0, 0, 0], ?_, ?_, orB_length b 32 0 [0, 0, 0, 0]⟩
  · simp only [word_Read.m, word_Read.g, h, c, cut, word_Read.l4_0.m, show Int.toNat 0 = 0 from rfl, List.drop_zero, e, bindO, Option.bind_some]
    rfl
  · simp only [q01_Read.m, q01_Read.g, h, q01_Read.l4_0.m, k, bindO, Option.bind_some]
theorem sums4 {b : List Int} (h : b.length < 60000) : ∃ r, keccak_Sum.m 200000 b = some r ∧ q02_Sum.m 200000 b = some r ∧ r.length = 4 := by
  obtain ⟨r, h1, h2, h3⟩ := reads4 (outE_length (lanesOf b))
  exact ⟨r, by rw [prog_sum (by omega), h1], by rw [ref_sum h, h2], h3⟩
theorem bytesOf_len (s : ByteArray) : (bytesOf s).length = s.size := by
  unfold bytesOf; rw [List.length_map, Array.length_toList]; rfl
theorem selectors {s : ByteArray} (h : s.size < 60000) : ∃ r, abi_Selector.m 200000 s = some r ∧ q05_Selector.m 200000 s = some r ∧ r.length = 4 := by
  obtain ⟨r, h1, h2, h3⟩ := sums4 (b := bytesOf s) (by rw [bytesOf_len]; exact h)
  have g : (4 : Int) ≤ ((32 : Nat) : Int) := by omega
  refine ⟨List.take (span 32 0 (some 4)) (bytesE r), ?_, ?_, ?_⟩
  · simp only [abi_Selector.m, abi_Selector.g, h1, bindO, Option.bind_some, prog_bytes h3, bytesE_length, if_pos g]
  · simp only [q05_Selector.m, q05_Selector.g, h2, bindO, Option.bind_some, ref_bytes h3, bytesE_length, if_pos g]
  · rw [List.length_take, bytesE_length]; rfl
end Go.Abs.Pure
end
section
set_option linter.unusedVariables false
set_option linter.unusedSimpArgs false
set_option maxRecDepth 100000
namespace Go.Abs.Pure
open Go Go.Abs
theorem abi_known : l05_known.m 200000 () = some true := by kernel_rfl
theorem same_bytes (n : Nat) (a : List Int) : q00_SameBytes.m n (a, a) = some true := by
  simp only [q00_SameBytes.m, q00_SameBytes.g, beq_self_eq_true]
theorem AbiEncodes (a : List AV) (ha : a.length ≤ 140737488351232 ∧ ∀ x ∈ a, ∃ d w b, x = AV.agg [.bool d, .ints .u64 4 w, .rints .u8 b] ∧ InA .u64 4 w ∧ InS .u8 b) (s : ByteArray) (hs : s.size ≤ 140737488351232) : ∃ n, l05_AbiEncodes.m n (a, s) = some true := by
  refine ⟨200000, ?_⟩
  obtain ⟨l, rfl, hl⟩ := parts_of ha.2
  have hL := PL.of l
  obtain ⟨b, h1, h2⟩ := much_ok hL (by rw [← LP_length]; exact ha.1)
  simp only [l05_AbiEncodes.m, l05_AbiEncodes.g, h1, bindO, Option.bind_some]
  cases b with
  | true => rfl
  | false =>
    obtain ⟨h3, h4⟩ := h2 rfl
    simp only [Bool.false_eq_true, if_false]
    by_cases h : ((s.size : Nat) : Int) > 2000
    · rw [if_pos (decide_eq_true h)]
    · have h0 : decide (((s.size : Nat) : Int) > 2000) = false := decide_eq_false h
      obtain ⟨r, h5, h6, _⟩ := selectors (s := s) (by omega)
      rw [h0]
      simp only [Bool.false_eq_true, if_false, abi_known, Option.bind_some, if_true, abi_Encode_ok hL hl h3 h4, q05_Encode_ok hL hl h3 h4, same_bytes, h5, h6]
end Go.Abs.Pure
end
