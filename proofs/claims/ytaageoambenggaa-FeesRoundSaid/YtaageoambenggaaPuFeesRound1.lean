/- Plain laws about what the functions compute. Conditions: the arguments' bounds, as each theorem says. -/
import Derived.Test.YtaageoambenggaaBinC1
import Derived.Test.YtaageoambenggaaAbsC5
import Derived.Test.YtaageoambenggaaFnFeesRound1
section
set_option linter.unusedVariables false
set_option linter.unusedSimpArgs false
namespace Go.Abs.Pure
open Go Go.Abs

/-- a word's parts are so. -/
def W4 (l : List Int) : Prop := l.length = 4 ∧ ∀ x ∈ l, 0 ≤ x ∧ x < 18446744073709551616
theorem W4.split {l : List Int} (h : W4 l) : ∃ a b c d, l = [a, b, c, d] ∧ (0 ≤ a ∧ a < 18446744073709551616) ∧ (0 ≤ b ∧ b < 18446744073709551616) ∧ (0 ≤ c ∧ c < 18446744073709551616) ∧ (0 ≤ d ∧ d < 18446744073709551616) := by
  obtain ⟨h1, h2⟩ := h
  match l, h1 with
  | [a, b, c, d], _ => exact ⟨a, b, c, d, rfl, h2 a (by simp), h2 b (by simp), h2 c (by simp), h2 d (by simp)⟩

theorem lo8 {x : Int} (h : InK .u8 x) : 0 ≤ x := h.1
theorem hi8 {x : Int} (h : InK .u8 x) : x < 256 := by have := h.2; simp [IntKind.max, IntKind.bits, IntKind.signed] at this; omega
theorem lo64 {x : Int} (h : InK .u64 x) : 0 ≤ x := h.1
theorem hi64 {x : Int} (h : InK .u64 x) : x < 18446744073709551616 := by have := h.2; simp [IntKind.max, IntKind.bits, IntKind.signed] at this; omega
theorem W4.of {l : List Int} (h : InA .u64 4 l) : W4 l := ⟨h.1, fun x hx => ⟨lo64 (h.2 x hx), hi64 (h.2 x hx)⟩⟩
/-- a word's bytes, the highest first. -/
def bytesW (l : List Int) : List Int := (List.range 32).map fun i => IntKind.wrap .u8 (ishr .u64 (l.getD ((31 - i) / 8) 0) (((31 - i) % 8 * 8 : Nat) : Int))
theorem bytesW_length (l : List Int) : (bytesW l).length = 32 := by simp [bytesW]
theorem word_Bytes_eq (k : Nat) (a b c d : Int) : word_Bytes.m (k + 33) [a, b, c, d] = some (bytesW [a, b, c, d]) := by kernel_rfl
theorem q01_Bytes_eq (k : Nat) (a b c d : Int) : q01_Bytes.m (k + 33) [a, b, c, d] = some (bytesW [a, b, c, d]) := by kernel_rfl
theorem word_Bytes_ok {n : Nat} (hn : 100 ≤ n) {l : List Int} (h : W4 l) : word_Bytes.m n l = some (bytesW l) := by
  obtain ⟨a, b, c, d, rfl, _⟩ := h.split
  obtain ⟨k, rfl⟩ : ∃ k, n = k + 33 := ⟨n - 33, by omega⟩
  exact word_Bytes_eq k a b c d
theorem q01_Bytes_ok {n : Nat} (hn : 100 ≤ n) {l : List Int} (h : W4 l) : q01_Bytes.m n l = some (bytesW l) := by
  obtain ⟨a, b, c, d, rfl, _⟩ := h.split
  obtain ⟨k, rfl⟩ : ∃ k, n = k + 33 := ⟨n - 33, by omega⟩
  exact q01_Bytes_eq k a b c d

/-! ### Words, Memory -/
theorem fees_Words_ok {n : Nat} {x : Int} (h0 : 0 ≤ x) (h1 : x < 18446744073709551616) : fees_Words.m n x = some ((x + 31) / 32) := by
  have e : ibits .and .u64 x 31 = x % 32 := and_mask h0 h1 5 (by omega)
  have s : ishr .u64 x 5 = x / 32 := ishr_ofNat .u64 x 5 (by decide)
  simp only [fees_Words.m, fees_Words.g, e, s]
  clear e s
  congr 1
  rw [wu64]
  split
  · omega
  · rcases (by omega : x % 32 = 0 ∨ x % 32 = 1) with h | h <;> omega
theorem q09_Words_ok {n : Nat} {x : Int} (h0 : 0 ≤ x) (h1 : x < 18446744073709551616) : q09_Words.m n x = some ((x + 31) / 32) := by
  simp only [q09_Words.m, q09_Words.g, tmod_nonneg' h0, tdiv_nonneg' h0, wu64]
  split
  · rename_i h
    simp at h
    congr 1
    omega
  · rename_i h
    simp at h
    congr 1
    omega
def memOf (x : Int) : Int := if x > 4294967296 then 18446744073709551615 else 3 * ((x + 31) / 32) + ((x + 31) / 32) * ((x + 31) / 32) / 512
theorem words_sq {w : Int} (h0 : 0 ≤ w) (h1 : w ≤ 134217728) : 0 ≤ w * w ∧ w * w ≤ 18014398509481984 := by
  refine ⟨Int.mul_nonneg h0 h0, ?_⟩
  have := Int.mul_le_mul h1 h1 h0 (by omega)
  omega
theorem fees_Memory_ok {n : Nat} {x : Int} (h0 : 0 ≤ x) (h1 : x < 18446744073709551616) : fees_Memory.m n x = some (memOf x) := by
  simp only [fees_Memory.m, fees_Memory.g, fees_Words_ok h0 h1, bindO, Option.bind_some, memOf]
  simp only [decide_eq_true_eq]
  split
  · rfl
  · congr 1
    obtain ⟨w0, w1⟩ := words_sq (w := (x + 31) / 32) (by omega) (by omega)
    generalize hw : (x + 31) / 32 = w at *
    have hw1 : 0 ≤ w ∧ w ≤ 134217728 := by omega
    rw [show (9 : Int) = ((9 : Nat) : Int) from rfl, ishr_ofNat _ _ _ (by decide)]
    rw [wu64, wu64, wu64]
    generalize w * w = q at *
    omega
theorem q09_Memory_ok {n : Nat} {x : Int} (h0 : 0 ≤ x) (h1 : x < 18446744073709551616) : q09_Memory.m n x = some (memOf x) := by
  simp only [q09_Memory.m, q09_Memory.g, q09_Words_ok h0 h1, bindO, Option.bind_some, memOf]
  simp only [decide_eq_true_eq]
  split
  · rfl
  · congr 1
    obtain ⟨w0, w1⟩ := words_sq (w := (x + 31) / 32) (by omega) (by omega)
    generalize hw : (x + 31) / 32 = w at *
    have hw1 : 0 ≤ w ∧ w ≤ 134217728 := by omega
    rw [tdiv_nonneg' (by rw [wu64]; omega)]
    simp only [wu64]
    generalize w * w = q at *
    omega

/-! ### Exp -/
/-- how many bytes stand behind the noughts at the front. -/
def behind : List Int → Nat
  | [] => 0
  | x :: r => if x = 0 then behind r else r.length + 1
theorem behind_le (l : List Int) : behind l ≤ l.length := by
  induction l with
  | nil => simp [behind]
  | cons x r ih => simp only [behind, List.length_cons]; split <;> omega
theorem fees_Exp_loop {n : Nat} {L : List Int} (hL : L.length = 32) : ∀ (j : Nat) (m : Nat), j ≤ 32 → 32 - j < m →
    fees_Exp.l3_0.g (fun a => a) n m (j : Int) 32 ((32 - j : Nat) : Int) L = some ((behind (L.drop j) : Nat) : Int) := by
  intro j m hj hm
  induction m generalizing j with
  | zero => omega
  | succ m ih =>
    simp only [fees_Exp.l3_0.g, fees_Exp.l3_0.r]
    by_cases h : j = 32
    · subst h
      rw [List.drop_of_length_le (by omega)]
      simp [behind]
    · have hj' : j < L.length := by omega
      rw [if_pos (by simp; omega), if_pos (by omega), if_pos (by omega)]
      rw [List.drop_eq_getElem_cons hj']
      have hg : L.getD (Int.toNat (j : Int)) 0 = L[j] := by simp [List.getD_eq_getElem?_getD, hj']
      rw [hg]
      by_cases hz : L[j] = 0
      · rw [if_neg (by simp [hz])]
        rw [show IntKind.wrap .i64 ((j : Int) + 1) = ((j + 1 : Nat) : Int) by rw [wi64]; omega, show IntKind.wrap .u64 (((32 - j : Nat) : Int) - 1) = ((32 - (j + 1) : Nat) : Int) by rw [wu64]; omega]
        rw [ih (j + 1) (by omega) (by omega)]
        simp [behind, hz]
      · rw [if_pos (by simpa using hz)]
        simp only [behind, hz, if_false, List.length_drop]
        congr 1
        omega
theorem q09_Exp_loop {n : Nat} {L : List Int} (hL : L.length = 32) : ∀ (j : Nat) (m : Nat), j ≤ 32 → 32 - j < m →
    q09_Exp.l3_0.g (fun a => a) n m ((32 - j : Nat) : Int) L = some ((behind (L.drop j) : Nat) : Int) := by
  intro j m hj hm
  induction m generalizing j with
  | zero => omega
  | succ m ih =>
    simp only [q09_Exp.l3_0.g, q09_Exp.l3_0.r]
    by_cases h : j = 32
    · subst h
      rw [List.drop_of_length_le (by omega)]
      simp [behind]
    · have hj' : j < L.length := by omega
      have e : IntKind.wrap .i64 (32 - ((32 - j : Nat) : Int)) = (j : Int) := by rw [wi64]; omega
      rw [e, if_pos (by simp; omega), if_pos (by omega), if_pos (by omega)]
      rw [List.drop_eq_getElem_cons hj']
      have hg : L.getD (Int.toNat (j : Int)) 0 = L[j] := by simp [List.getD_eq_getElem?_getD, hj']
      rw [hg]
      by_cases hz : L[j] = 0
      · rw [if_pos (by simp [hz])]
        rw [show IntKind.wrap .i64 (((32 - j : Nat) : Int) - 1) = ((32 - (j + 1) : Nat) : Int) by rw [wi64]; omega]
        rw [ih (j + 1) (by omega) (by omega)]
        simp [behind, hz]
      · rw [if_neg (by simpa using hz)]
        simp only [behind, hz, if_false, List.length_drop]
        congr 1
        omega
def expOf (l : List Int) : Int := 50 * ((behind (bytesW l) : Nat) : Int)
theorem fees_Exp_ok {n : Nat} (hn : 100 ≤ n) {l : List Int} (h : W4 l) : fees_Exp.m n l = some (expOf l) := by
  have hb := bytesW_length l
  have key := fees_Exp_loop (n := n) hb 0 n (by omega) (by omega)
  have hle := behind_le (bytesW l)
  simp only [fees_Exp.m, fees_Exp.g, word_Bytes_ok hn h, bindO, Option.bind_some, fees_Exp.l3_0.m, hb]
  rw [show fees_Exp.l3_0.g (fun a0 => a0) n n 0 ((32 : Nat) : Int) 32 (bytesW l) = some ((behind (bytesW l) : Nat) : Int) from key]
  simp only [Option.bind_some, expOf]
  rw [wu64]
  congr 1
  omega
theorem q09_Exp_ok {n : Nat} (hn : 100 ≤ n) {l : List Int} (h : W4 l) : q09_Exp.m n l = some (expOf l) := by
  have hb := bytesW_length l
  have key := q09_Exp_loop (n := n) hb 0 n (by omega) (by omega)
  have hle := behind_le (bytesW l)
  simp only [q09_Exp.m, q09_Exp.g, q01_Bytes_ok hn h, bindO, Option.bind_some, q09_Exp.l3_0.m]
  rw [show q09_Exp.l3_0.g (fun a0 => a0) n n 32 (bytesW l) = some ((behind (bytesW l) : Nat) : Int) from key]
  simp only [Option.bind_some, expOf]
  rw [wu64, wu64]
  congr 1
  omega

/-! ### Base -/
theorem base_all (k : Nat) : ((List.range 256).all fun i => match fees_Base.m (k + 40) (i : Int), q09_Base.m (k + 40) (i : Int) with | some a, some b => a == b | _, _ => false) = true := by kernel_rfl
theorem base_ok {n : Nat} (hn : 100 ≤ n) {x : Int} (h0 : 0 ≤ x) (h1 : x < 256) : ∃ v, fees_Base.m n x = some v ∧ q09_Base.m n x = some v := by
  obtain ⟨k, rfl⟩ : ∃ k, n = k + 40 := ⟨n - 40, by omega⟩
  have := List.all_eq_true.1 (base_all k) x.toNat (List.mem_range.2 (by omega))
  rw [show ((x.toNat : Nat) : Int) = x by omega] at this
  split at this
  · rename_i a b ha hb
    exact ⟨a, ha, by rw [hb, (by simpa using this : a = b)]⟩
  · cases this
end Go.Abs.Pure
end

section
set_option linter.unusedVariables false
set_option linter.unusedSimpArgs false
namespace Go.Abs.Pure
open Go Go.Abs
theorem l09_known_ok {n : Nat} (hn : 100 ≤ n) : l09_known.m n () = some true := by
  obtain ⟨k, rfl⟩ : ∃ k, n = k + 40 := ⟨n - 40, by omega⟩
  exact (show l09_known.m (k + 40) () = some true by kernel_rfl)

/-! ### Store -/
def Z4 : List Int := [0, 0, 0, 0]
def backOf (a b c : List Int) : Int :=
  if b = a then (if a ≠ Z4 ∧ c = Z4 then 4800 else 0)
  else (if a = Z4 then 0 else if b = Z4 then -4800 else if c = Z4 then 4800 else 0) + (if c ≠ a then 0 else if a = Z4 then 19900 else 2800)
def costOf (a b c : List Int) (cold : Bool) : Int :=
  (if cold = true then 2100 else 0) + (if c = b then 100 else if b ≠ a then 100 else if a = Z4 then 20000 else 2900)
def refundOf (a b c : List Int) : Int := if c = b then 0 else backOf a b c
theorem fees_back_ok {n : Nat} (a b c : List Int) : fees_back.m n (a, b, c) = some (backOf a b c) := by
  simp only [fees_back.m, fees_back.g, backOf, Z4]
  by_cases h1 : b = a
  · subst h1
    by_cases h2 : b = [0, 0, 0, 0] <;> by_cases h3 : c = [0, 0, 0, 0] <;> simp [h2, h3]
  · by_cases h2 : a = [0, 0, 0, 0]
    · subst h2
      by_cases h3 : c = [0, 0, 0, 0] <;> simp [h1, h3]
    · by_cases h3 : b = [0, 0, 0, 0]
      · subst h3
        by_cases h4 : c = a <;> simp [h1, h2, h4]
      · by_cases h4 : c = [0, 0, 0, 0]
        · subst h4
          have h5 : ¬ [0, 0, 0, 0] = a := fun e => h2 e.symm
          simp [h1, h2, h3, h5]
        · by_cases h5 : c = a
          · subst h5; simp [h1, h2, h3]
          · simp [h1, h2, h3, h4, h5]
theorem fees_Store_ok {n : Nat} (a b c : List Int) (d : Bool) : fees_Store.m n (a, b, c, d) = some (costOf a b c d, refundOf a b c) := by
  simp only [fees_Store.m, fees_Store.g, fees_back_ok, bindO, Option.bind_some, costOf, refundOf]
  by_cases h1 : c = b
  · cases d <;> simp [h1]
  · by_cases h2 : b = a
    · subst h2
      by_cases h3 : b = [0, 0, 0, 0]
      · subst h3; cases d <;> simp [h1, Z4]
      · cases d <;> simp [h1, h3, Z4]
    · by_cases h3 : a = [0, 0, 0, 0]
      · subst h3; cases d <;> simp [h1, h2, Z4]
      · cases d <;> simp [h1, h2, h3, Z4]
theorem q09_Store_ok {n : Nat} (a b c : List Int) (d : Bool) : q09_Store.m n (a, b, c, d) = some (costOf a b c d, refundOf a b c) := by
  simp only [q09_Store.m, q09_Store.g, costOf, refundOf, backOf, Z4]
  by_cases h1 : c = b
  · subst h1
    cases d <;> (by_cases h2 : c = a <;> by_cases h3 : a = [0, 0, 0, 0] <;> simp [h2, h3])
  · by_cases h2 : b = a
    · subst h2
      by_cases h3 : b = [0, 0, 0, 0]
      · subst h3
        cases d <;> simp [h1]
      · by_cases h4 : c = [0, 0, 0, 0] <;> cases d <;> simp_all
    · by_cases h3 : a = [0, 0, 0, 0]
      · subst h3
        by_cases h4 : c = [0, 0, 0, 0] <;> cases d <;> simp_all
      · by_cases h4 : b = [0, 0, 0, 0]
        · subst h4
          by_cases h5 : c = a <;> cases d <;> simp_all
        · by_cases h5 : c = [0, 0, 0, 0]
          · subst h5
            have h6 : ¬ [0, 0, 0, 0] = a := fun e => h3 e.symm
            cases d <;> simp_all
          · by_cases h6 : c = a <;> cases d <;> simp_all

/-! ### Keep, Back -/
def smallOf (l : List Int) : Int × Bool := if l.getD 1 0 = 0 ∧ l.getD 2 0 = 0 ∧ l.getD 3 0 = 0 then (l.getD 0 0, true) else (0, false)
theorem or3_zero {a b c : Int} (ha : 0 ≤ a ∧ a < 18446744073709551616) (hb : 0 ≤ b ∧ b < 18446744073709551616) (hc : 0 ≤ c ∧ c < 18446744073709551616) :
    ibits .or .u64 (ibits .or .u64 a b) c = 0 ↔ a = 0 ∧ b = 0 ∧ c = 0 := by
  have h2 := Nat.or_lt_two_pow (x := a.toNat) (y := b.toNat) (n := 64) (by omega) (by omega)
  rw [or_u64 ha.1 ha.2 hb.1 hb.2, or_u64 (by omega) (by omega) hc.1 hc.2, Int.toNat_natCast]
  rw [show ((0 : Int)) = ((0 : Nat) : Int) from rfl, Int.ofNat_inj, Nat.or_eq_zero_iff, Nat.or_eq_zero_iff]
  omega
theorem word_Small_ok {n : Nat} {l : List Int} (h : W4 l) : word_Small.m n l = some (smallOf l) := by
  obtain ⟨a, b, c, d, rfl, ha, hb, hc, hd⟩ := h.split
  have := or3_zero hb hc hd
  simp only [word_Small.m, word_Small.g, smallOf, List.getD_cons_zero, List.getD_cons_succ]
  by_cases h : b = 0 ∧ c = 0 ∧ d = 0
  · rw [if_neg (by simpa using this.2 h), if_pos h]
  · rw [if_pos (by simpa using fun e => h (this.1 e)), if_neg h]
theorem q01_Small_ok {n : Nat} {l : List Int} (h : W4 l) : q01_Small.m n l = some (smallOf l) := by
  obtain ⟨a, b, c, d, rfl, ha, hb, hc, hd⟩ := h.split
  simp only [q01_Small.m, q01_Small.g, smallOf, List.getD_cons_zero, List.getD_cons_succ]
  by_cases hb0 : b = 0 <;> by_cases hc0 : c = 0 <;> by_cases hd0 : d = 0 <;> simp [hb0, hc0, hd0]
theorem smallOf_range {l : List Int} (h : W4 l) : 0 ≤ (smallOf l).1 ∧ (smallOf l).1 < 18446744073709551616 := by
  obtain ⟨a, b, c, d, rfl, ha, hb, hc, hd⟩ := h.split
  simp only [smallOf, List.getD_cons_zero, List.getD_cons_succ]
  split
  · exact ha
  · exact ⟨by omega, by omega⟩
def keepOf (x : Int) (l : List Int) : Int := if (smallOf l).2 = true then min (smallOf l).1 (x - x / 64) else x - x / 64
theorem fees_Keep_ok {n : Nat} {x : Int} {l : List Int} (h0 : 0 ≤ x) (h1 : x < 18446744073709551616) (h : W4 l) : fees_Keep.m n (x, l) = some (keepOf x l) := by
  have e : IntKind.wrap .u64 (x - IntKind.wrap .u64 (Int.tdiv x 64)) = x - x / 64 := by rw [tdiv_nonneg' h0, wu64, wu64]; omega
  simp only [fees_Keep.m, fees_Keep.g, word_Small_ok h, bindO, Option.bind_some, keepOf, e]
  split
  · congr 1
    split <;> omega
  · rfl
theorem q09_Keep_ok {n : Nat} {x : Int} {l : List Int} (h0 : 0 ≤ x) (h1 : x < 18446744073709551616) (h : W4 l) : q09_Keep.m n (x, l) = some (keepOf x l) := by
  have e : IntKind.wrap .u64 (x - IntKind.wrap .u64 (Int.tdiv x 64)) = x - x / 64 := by rw [tdiv_nonneg' h0, wu64, wu64]; omega
  simp only [q09_Keep.m, q09_Keep.g, q01_Small_ok h, bindO, Option.bind_some, keepOf, e]
  cases hs : (smallOf l).2
  · simp
  · simp only [Bool.not_true, Bool.false_eq_true, if_false, if_true, decide_eq_true_eq]
    split <;> (congr 1; omega)
theorem back_ok {n : Nat} {x y : Int} : fees_Back.m n (x, y) = q09_Back.m n (x, y) := by
  simp only [fees_Back.m, fees_Back.g, q09_Back.m, q09_Back.g]
  congr 1
  split <;> split <;> omega
theorem back_some {n : Nat} {x y : Int} : ∃ v, fees_Back.m n (x, y) = some v := ⟨_, rfl⟩

/-! ### Intrinsic -/
def dataGas : List Int → Nat
  | [] => 0
  | x :: r => (if x = 0 then 4 else 16) + dataGas r
theorem dataGas_le (l : List Int) : dataGas l ≤ 16 * l.length := by
  induction l with
  | nil => simp [dataGas]
  | cons x r ih => simp only [dataGas, List.length_cons]; split <;> omega
theorem dataGas_append (a b : List Int) : dataGas (a ++ b) = dataGas a + dataGas b := by
  induction a with
  | nil => simp [dataGas]
  | cons x r ih => simp only [List.cons_append, dataGas, ih]; omega
theorem fees_Intrinsic_loop {n : Nat} {L : List Int} (hL : L.length ≤ 1000000) : ∀ (j : Nat) (m : Nat) (s : Nat), j ≤ L.length → L.length - j < m → s + 16 * (L.length - j) ≤ 1000000000000000 →
    fees_Intrinsic.l5_0.g (fun a => a) n m (j : Int) (L.length : Int) L (s : Int) = some ((s + dataGas (L.drop j) : Nat) : Int) := by
  intro j m s hj hm hs
  induction m generalizing j s with
  | zero => omega
  | succ m ih =>
    simp only [fees_Intrinsic.l5_0.g, fees_Intrinsic.l5_0.r]
    by_cases h : j = L.length
    · subst h
      simp [dataGas]
    · have hj' : j < L.length := by omega
      rw [if_pos (by simp; omega), if_pos (by omega), if_pos (by omega)]
      rw [List.drop_eq_getElem_cons hj']
      have hg : L.getD (Int.toNat (j : Int)) 0 = L[j] := by simp [List.getD_eq_getElem?_getD, hj']
      rw [hg, show IntKind.wrap .i64 ((j : Int) + 1) = ((j + 1 : Nat) : Int) by rw [wi64]; omega]
      have hle := dataGas_le (L.drop (j + 1))
      by_cases hz : L[j] = 0
      · rw [if_pos (by simp [hz]), show IntKind.wrap .u64 ((s : Int) + 4) = ((s + 4 : Nat) : Int) by rw [wu64]; omega, ih (j + 1) (s + 4) (by omega) (by omega) (by omega)]
        simp only [dataGas, hz, if_true]
        congr 2
        omega
      · rw [if_neg (by simpa using hz), show IntKind.wrap .u64 ((s : Int) + 16) = ((s + 16 : Nat) : Int) by rw [wu64]; omega, ih (j + 1) (s + 16) (by omega) (by omega) (by omega)]
        simp only [dataGas, hz, if_false]
        congr 2
        omega
theorem q09_Intrinsic_loop {n : Nat} {L : List Int} {b : Bool} (hL : L.length ≤ 1000000) : ∀ (j : Nat) (m : Nat) (s : Nat), j ≤ L.length → L.length - j < m → s + 16 * (L.length - j) ≤ 1000000000000000 →
    q09_Intrinsic.l3_0.g (fun a b c => (a, b, c)) n m (j : Int) L (s : Int) b = some (b, ((s + dataGas (L.drop j) : Nat) : Int), L) := by
  intro j m s hj hm hs
  induction m generalizing j s with
  | zero => omega
  | succ m ih =>
    simp only [q09_Intrinsic.l3_0.g, q09_Intrinsic.l3_0.r]
    by_cases h : j = L.length
    · subst h
      simp [dataGas]
    · have hj' : j < L.length := by omega
      rw [if_pos (by simp; omega), if_pos (by omega), if_pos (by omega)]
      rw [List.drop_eq_getElem_cons hj']
      have hg : L.getD (Int.toNat (j : Int)) 0 = L[j] := by simp [List.getD_eq_getElem?_getD, hj']
      rw [hg, show IntKind.wrap .i64 ((j : Int) + 1) = ((j + 1 : Nat) : Int) by rw [wi64]; omega]
      by_cases hz : L[j] = 0
      · rw [if_pos (by simp [hz]), show IntKind.wrap .u64 ((s : Int) + 4) = ((s + 4 : Nat) : Int) by rw [wu64]; omega, ih (j + 1) (s + 4) (by omega) (by omega) (by omega)]
        simp only [dataGas, hz, if_true]
        congr 4
        omega
      · rw [if_neg (by simpa using hz), show IntKind.wrap .u64 ((s : Int) + 16) = ((s + 16 : Nat) : Int) by rw [wu64]; omega, ih (j + 1) (s + 16) (by omega) (by omega) (by omega)]
        simp only [dataGas, hz, if_false]
        congr 4
        omega
def intrinsicOf (L : List Int) (b : Bool) : Nat := 21000 + dataGas L + if b = true then 32000 + 2 * ((L.length + 31) / 32) else 0
theorem fees_Intrinsic_ok {n : Nat} {L : List Int} {b : Bool} (hL : L.length ≤ 1000000) (hn : L.length < n) : fees_Intrinsic.m n (L, b) = some ((intrinsicOf L b : Nat) : Int) := by
  have hle := dataGas_le L
  simp only [fees_Intrinsic.m, fees_Intrinsic.g, fees_Intrinsic.l5_0.m]
  rw [show IntKind.wrap .u64 ((L.length : Nat) : Int) = ((L.length : Nat) : Int) by rw [wu64]; omega, fees_Words_ok (by omega) (by omega)]
  cases b
  · simp only [Bool.false_eq_true, if_false, bindO]
    have := fees_Intrinsic_loop (n := n) hL 0 n 21000 (by omega) (by omega) (by omega)
    rw [show fees_Intrinsic.l5_0.g (fun a0 => a0) n n 0 ((L.length : Nat) : Int) L 21000 = _ from this]
    simp [intrinsicOf]
  · simp only [if_true, bindO, Option.bind_some]
    rw [show IntKind.wrap .u64 (21000 + IntKind.wrap .u64 (32000 + IntKind.wrap .u64 (2 * ((((L.length : Nat) : Int) + 31) / 32)))) = ((53000 + 2 * ((L.length + 31) / 32) : Nat) : Int) by simp only [wu64]; omega]
    have := fees_Intrinsic_loop (n := n) hL 0 n (53000 + 2 * ((L.length + 31) / 32)) (by omega) (by omega) (by omega)
    rw [show fees_Intrinsic.l5_0.g (fun a0 => a0) n n 0 ((L.length : Nat) : Int) L _ = _ from this]
    simp only [Option.bind_some, intrinsicOf, List.drop_zero, if_true]
    congr 2
    omega
theorem q09_Intrinsic_ok {n : Nat} {L : List Int} {b : Bool} (hL : L.length ≤ 1000000) (hn : L.length < n) : q09_Intrinsic.m n (L, b) = some ((intrinsicOf L b : Nat) : Int) := by
  have hle := dataGas_le L
  have := q09_Intrinsic_loop (n := n) (b := b) hL 0 n 21000 (by omega) (by omega) (by omega)
  simp only [q09_Intrinsic.m, q09_Intrinsic.g, q09_Intrinsic.l3_0.m]
  rw [show q09_Intrinsic.l3_0.g (fun a0 a1 a2 => (a0, a1, a2)) n n 0 L 21000 b = _ from this]
  simp only [bindO, Option.bind_some]
  rw [show IntKind.wrap .u64 ((L.length : Nat) : Int) = ((L.length : Nat) : Int) by rw [wu64]; omega, q09_Words_ok (by omega) (by omega)]
  cases b
  · simp [intrinsicOf]
  · simp only [if_true, Option.bind_some, intrinsicOf, List.drop_zero]
    congr 1
    simp only [wu64]
    omega
end Go.Abs.Pure
end

section
set_option linter.unusedVariables false
set_option linter.unusedSimpArgs false
namespace Go.Abs.Pure
open Go Go.Abs
/-- what a slot has cost, and what was given back of it, so far. -/
def Inv (o c : List Int) (S B : Int) (i : Nat) : Prop :=
  0 ≤ S ∧ S ≤ 22200 * (i : Int) ∧ 0 ≤ B - (if o ≠ Z4 ∧ c = Z4 then 4800 else 0) ∧ (if c = o then 0 else if o = Z4 then 19900 else 2800) ≤ S - (B - (if o ≠ Z4 ∧ c = Z4 then 4800 else 0))
theorem round_step {o c : List Int} (x : List Int) {S B : Int} {i : Nat} (cold : Bool) (h : Inv o c S B i) : Inv o x (S + costOf o c x cold) (B + refundOf o c x) (i + 1) := by
  obtain ⟨h1, h2, h3, h4⟩ := h
  unfold costOf refundOf backOf
  refine ⟨?_, ?_, ?_, ?_⟩
  all_goals
    by_cases e1 : x = c
    · subst e1
      cases cold <;> simp_all <;> omega
    · by_cases e2 : c = o
      · subst e2
        by_cases e3 : c = Z4
        · subst e3
          cases cold <;> simp_all <;> omega
        · by_cases e4 : x = Z4
          · subst e4
            cases cold <;> simp_all <;> omega
          · cases cold <;> simp_all <;> omega
      · by_cases e3 : o = Z4
        · subst e3
          by_cases e4 : x = Z4
          · subst e4
            cases cold <;> simp_all <;> omega
          · cases cold <;> simp_all <;> omega
        · by_cases e4 : c = Z4
          · subst e4
            by_cases e5 : x = o
            · subst e5
              cases cold <;> simp_all <;> omega
            · cases cold <;> simp_all <;> omega
          · by_cases e5 : x = o
            · subst e5
              cases cold <;> simp_all <;> omega
            · by_cases e6 : x = Z4
              · subst e6
                cases cold <;> simp_all <;> omega
              · cases cold <;> simp_all <;> omega

theorem cost_wrap {S x : Int} (h1 : 0 ≤ S + x) (h2 : S + x ≤ 2000000) : IntKind.wrap .u64 (S + x) = S + x := by rw [wu64]; omega
theorem back_wrap {B x : Int} (h1 : 0 ≤ B + x) (h2 : B + x ≤ 2000000) : IntKind.wrap .i64 (B + x) = B + x := by rw [wi64]; omega
theorem next_wrap {i : Nat} (h : i ≤ 60) : IntKind.wrap .i64 ((i : Int) + 1) = ((i + 1 : Nat) : Int) := by rw [wi64]; omega
theorem Inv.bounds {o c : List Int} {S B : Int} {i : Nat} (h : Inv o c S B i) (hi : i ≤ 60) : 0 ≤ S ∧ S ≤ 2000000 ∧ 0 ≤ B ∧ B ≤ 2000000 := by
  obtain ⟨h1, h2, h3, h4⟩ := h
  have q : (0 : Int) ≤ (if o ≠ Z4 ∧ c = Z4 then 4800 else 0) ∧ (if o ≠ Z4 ∧ c = Z4 then (4800 : Int) else 0) ≤ 4800 := by split <;> omega
  have p : (0 : Int) ≤ (if c = o then 0 else if o = Z4 then 19900 else 2800) := by split <;> (try split) <;> omega
  omega
theorem round_loop {n : Nat} {o : List Int} {l : List AV} (hl : ∀ x ∈ l, ∃ r, x = AV.ints .u64 4 r ∧ InA .u64 4 r) (hlen : l.length ≤ 50) : ∀ (r i fuel : Nat) (c : List Int) (S B : Int), i + r = l.length + 1 → r + 1 ≤ fuel → Inv o c S B i → (r = 0 → c = o) →
    ∃ S' B' : Int, l09_FeesRound.l7_0.g (fun a0 a1 => (a0, a1)) n fuel (i : Int) l S B o c = some (B', S') ∧ Inv o o S' B' (l.length + 1)
  | 0, i, fuel + 1, c, S, B, hi, hf, hv, hc => by
    have e : i = l.length + 1 := by omega
    have h1 : decide ((i : Int) ≤ ((l.length : Nat) : Int)) = false := decide_eq_false (by omega)
    refine ⟨S, B, ?_, ?_⟩
    · show l09_FeesRound.l7_0.r _ _ _ _ _ _ _ _ _ = _
      simp only [l09_FeesRound.l7_0.r, h1, Bool.false_eq_true, if_false]
    · rw [hc rfl, e] at hv
      exact hv
  | r + 1, i, fuel + 1, c, S, B, hi, hf, hv, hc => by
    have hle : i ≤ l.length := by omega
    have h1 : decide ((i : Int) ≤ ((l.length : Nat) : Int)) = true := decide_eq_true (by omega)
    have w1 := next_wrap (i := i) (by omega)
    by_cases h : i < l.length
    · have h2 : decide ((i : Int) < ((l.length : Nat) : Int)) = true := decide_eq_true (by omega)
      have g1 : (0 : Int) ≤ (i : Int) := by omega
      have g2 : (i : Int) < ((l.length : Nat) : Int) := by omega
      obtain ⟨x, hx, _⟩ := hl l[i] (List.getElem_mem h)
      have hg : List.getD l (Int.toNat (i : Int)) AV.any = AV.ints .u64 4 x := by rw [Int.toNat_natCast, List.getD_eq_getElem?_getD, List.getElem?_eq_getElem h]; simpa using hx
      have st := round_step x ((i : Int) == 0) hv
      obtain ⟨b1, b2, b3, b4⟩ := st.bounds (by omega)
      obtain ⟨S', B', q1, q2⟩ := round_loop (n := n) hl hlen r (i + 1) fuel x _ _ (by omega) (by omega) st (fun e => by omega)
      refine ⟨S', B', ?_, q2⟩
      show l09_FeesRound.l7_0.r _ _ _ _ _ _ _ _ _ = _
      simp only [l09_FeesRound.l7_0.r, h1, h2, if_true, if_pos g1, if_pos g2, hg, tkInts, bindO, Option.bind_some, fees_Store_ok, w1, cost_wrap b1 b2, back_wrap b3 b4]
      exact q1
    · have h2 : decide ((i : Int) < ((l.length : Nat) : Int)) = false := decide_eq_false (by omega)
      have st := round_step o ((i : Int) == 0) hv
      obtain ⟨b1, b2, b3, b4⟩ := st.bounds (by omega)
      obtain ⟨S', B', q1, q2⟩ := round_loop (n := n) hl hlen r (i + 1) fuel o _ _ (by omega) (by omega) st (fun e => rfl)
      refine ⟨S', B', ?_, q2⟩
      show l09_FeesRound.l7_0.r _ _ _ _ _ _ _ _ _ = _
      simp only [l09_FeesRound.l7_0.r, h1, h2, if_true, Bool.false_eq_true, if_false, bindO, Option.bind_some, fees_Store_ok, w1, cost_wrap b1 b2, back_wrap b3 b4]
      exact q1
theorem FeesRound (o : List Int) (ho : InA .u64 4 o) (l : List AV) (hl : l.length ≤ 140737488351232 ∧ ∀ x ∈ l, ∃ r, x = AV.ints .u64 4 r ∧ InA .u64 4 r) : ∃ n, l09_FeesRound.m n (o, l) = some true := by
  refine ⟨100, ?_⟩
  have k := l09_known_ok (n := 100) (by omega)
  simp only [l09_FeesRound.m, l09_FeesRound.g]
  by_cases h : ((l.length : Nat) : Int) > 50
  · rw [if_pos (decide_eq_true h), k]
    rfl
  · have h0 : decide (((l.length : Nat) : Int) > 50) = false := decide_eq_false h
    have st : Inv o o 0 0 0 := ⟨by omega, by omega, by
      by_cases e : o ≠ Z4 ∧ o = Z4
      · exact absurd e.2 e.1
      · rw [if_neg e]; omega, by
      by_cases e : o ≠ Z4 ∧ o = Z4
      · exact absurd e.2 e.1
      · rw [if_neg e, if_pos rfl]; omega⟩
    obtain ⟨S', B', q1, q2⟩ := round_loop (n := 100) hl.2 (by omega) (l.length + 1) 0 100 o 0 0 (by omega) (by omega) st (fun e => rfl)
    obtain ⟨b1, b2, b3, b4⟩ := q2.bounds (by omega)
    have hBS : B' ≤ S' := by
      obtain ⟨h1, h2, h3, h4⟩ := q2
      have e : ¬ (o ≠ Z4 ∧ o = Z4) := fun e => absurd e.2 e.1
      rw [if_neg e, if_pos rfl] at h4
      omega
    have w : IntKind.wrap .u64 B' = B' := by rw [wu64]; omega
    rw [h0]
    simp only [Bool.false_eq_true, if_false, k, bindO, Option.bind_some, Bool.not_true, l09_FeesRound.l7_0.m]
    rw [show ((0 : Nat) : Int) = 0 from rfl] at q1
    rw [q1]
    simp only [Option.bind_some, w]
    rw [if_pos (decide_eq_true (by omega)), decide_eq_true hBS]
end Go.Abs.Pure
end
