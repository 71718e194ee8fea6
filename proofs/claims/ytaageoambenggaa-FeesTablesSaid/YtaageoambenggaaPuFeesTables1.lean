/- Plain laws about what the functions compute. Conditions: the arguments' bounds, as each theorem says. -/
import Derived.Test.YtaageoambenggaaBin1
import Derived.Test.YtaageoambenggaaAbs5
import Derived.Test.YtaageoambenggaaFnFeesTables1
section
set_option linter.unusedVariables false
namespace Go.Abs.Pure
open Go Go.Abs

/-- a word's parts are so. -/
def W4 (l : List Int) : Prop := l.length = 4 ∧ ∀ x ∈ l, 0 ≤ x ∧ x < 18446744073709551616
theorem W4.split {l : List Int} (h : W4 l) : ∃ a b c d, l = [a, b, c, d] ∧ (0 ≤ a ∧ a < 18446744073709551616) ∧ (0 ≤ b ∧ b < 18446744073709551616) ∧ (0 ≤ c ∧ c < 18446744073709551616) ∧ (0 ≤ d ∧ d < 18446744073709551616) := by
  obtain ⟨h1, h2⟩ := h
  match l, h1 with
  | [a, b, c, d], _ => exact ⟨a, b, c, d, rfl, h2 a (by simp), h2 b (by simp), h2 c (by simp), h2 d (by simp)⟩

theorem lo8 {x : Int} (h : InK .u8 x) : 0 ≤ x := h.1
theorem hi8 {x : Int} (h : InK .u8 x) : x < 256 := by have := h.2; simp [IntKind.max, IntKind.bits, IntKind.signed] at this; omega
theorem lo64 {x : Int} (h : InK .u64 x) : 0 ≤ x := h.1
theorem hi64 {x : Int} (h : InK .u64 x) : x < 18446744073709551616 := by have := h.2; simp [IntKind.max, IntKind.bits, IntKind.signed] at this; omega
theorem W4.of {l : List Int} (h : InA .u64 4 l) : W4 l := ⟨h.1, fun x hx => ⟨lo64 (h.2 x hx), hi64 (h.2 x hx)⟩⟩
/-- a word's bytes, the highest first. -/
def bytesW (l : List Int) : List Int := (List.range 32).map fun i => IntKind.wrap .u8 (ishr .u64 (l.getD ((31 - i) / 8) 0) (((31 - i) % 8 * 8 : Nat) : Int))
theorem bytesW_length (l : List Int) : (bytesW l).length = 32 := by simp [bytesW]
theorem word_Bytes_eq (k : Nat) (a b c d : Int) : word_Bytes.m (k + 33) [a, b, c, d] = some (bytesW [a, b, c, d]) := by kernel_rfl
theorem q01_Bytes_eq (k : Nat) (a b c d : Int) : q01_Bytes.m (k + 33) [a, b, c, d] = some (bytesW [a, b, c, d]) := by kernel_rfl
theorem word_Bytes_ok {n : Nat} (hn : 100 ≤ n) {l : List Int} (h : W4 l) : word_Bytes.m n l = some (bytesW l) := by
  obtain ⟨a, b, c, d, rfl, _⟩ := h.split
  obtain ⟨k, rfl⟩ : ∃ k, n = k + 33 := ⟨n - 33, by omega⟩
  exact word_Bytes_eq k a b c d
theorem q01_Bytes_ok {n : Nat} (hn : 100 ≤ n) {l : List Int} (h : W4 l) : q01_Bytes.m n l = some (bytesW l) := by
  obtain ⟨a, b, c, d, rfl, _⟩ := h.split
  obtain ⟨k, rfl⟩ : ∃ k, n = k + 33 := ⟨n - 33, by omega⟩
  exact q01_Bytes_eq k a b c d

/-! ### Words, Memory -/
theorem fees_Words_ok {n : Nat} {x : Int} (h0 : 0 ≤ x) (h1 : x < 18446744073709551616) : fees_Words.m n x = some ((x + 31) / 32) := by
  have e : ibits .and .u64 x 31 = x % 32 := and_mask h0 h1 5 (by omega)
  have s : ishr .u64 x 5 = x / 32 := ishr_ofNat .u64 x 5 (by decide)
  simp only [fees_Words.m, fees_Words.g, e, s]
  clear e s
  congr 1
  rw [wu64]
  split
  · omega
  · rcases (by omega : x % 32 = 0 ∨ x % 32 = 1) with h | h <;> omega
theorem q09_Words_ok {n : Nat} {x : Int} (h0 : 0 ≤ x) (h1 : x < 18446744073709551616) : q09_Words.m n x = some ((x + 31) / 32) := by
  simp only [q09_Words.m, q09_Words.g, tmod_nonneg' h0, tdiv_nonneg' h0, wu64]
  split
  · rename_i h
    simp at h
    congr 1
    omega
  · rename_i h
    simp at h
    congr 1
    omega
def memOf (x : Int) : Int := if x > 4294967296 then 18446744073709551615 else 3 * ((x + 31) / 32) + ((x + 31) / 32) * ((x + 31) / 32) / 512
theorem words_sq {w : Int} (h0 : 0 ≤ w) (h1 : w ≤ 134217728) : 0 ≤ w * w ∧ w * w ≤ 18014398509481984 := by
  refine ⟨Int.mul_nonneg h0 h0, ?_⟩
  have := Int.mul_le_mul h1 h1 h0 (by omega)
  omega
theorem fees_Memory_ok {n : Nat} {x : Int} (h0 : 0 ≤ x) (h1 : x < 18446744073709551616) : fees_Memory.m n x = some (memOf x) := by
  simp only [fees_Memory.m, fees_Memory.g, fees_Words_ok h0 h1, bindO, Option.bind_some, memOf]
  simp only [decide_eq_true_eq]
  split
  · rfl
  · congr 1
    obtain ⟨w0, w1⟩ := words_sq (w := (x + 31) / 32) (by omega) (by omega)
    generalize hw : (x + 31) / 32 = w at *
    have hw1 : 0 ≤ w ∧ w ≤ 134217728 := by omega
    rw [show (9 : Int) = ((9 : Nat) : Int) from rfl, ishr_ofNat _ _ _ (by decide)]
    rw [wu64, wu64, wu64]
    generalize w * w = q at *
    omega
theorem q09_Memory_ok {n : Nat} {x : Int} (h0 : 0 ≤ x) (h1 : x < 18446744073709551616) : q09_Memory.m n x = some (memOf x) := by
  simp only [q09_Memory.m, q09_Memory.g, q09_Words_ok h0 h1, bindO, Option.bind_some, memOf]
  simp only [decide_eq_true_eq]
  split
  · rfl
  · congr 1
    obtain ⟨w0, w1⟩ := words_sq (w := (x + 31) / 32) (by omega) (by omega)
    generalize hw : (x + 31) / 32 = w at *
    have hw1 : 0 ≤ w ∧ w ≤ 134217728 := by omega
    rw [tdiv_nonneg' (by rw [wu64]; omega)]
    simp only [wu64]
    generalize w * w = q at *
    omega

/-! ### Exp -/
/-- how many bytes stand behind the noughts at the front. -/
def behind : List Int → Nat
  | [] => 0
  | x :: r => if x = 0 then behind r else r.length + 1
theorem behind_le (l : List Int) : behind l ≤ l.length := by
  induction l with
  | nil => simp [behind]
  | cons x r ih => simp only [behind, List.length_cons]; split <;> omega
theorem fees_Exp_loop {n : Nat} {L : List Int} (hL : L.length = 32) : ∀ (j : Nat) (m : Nat), j ≤ 32 → 32 - j < m →
    fees_Exp.l3_0.g (fun a => a) n m (j : Int) 32 ((32 - j : Nat) : Int) L = some ((behind (L.drop j) : Nat) : Int) := by
  intro j m hj hm
  induction m generalizing j with
  | zero => omega
  | succ m ih =>
    simp only [fees_Exp.l3_0.g, fees_Exp.l3_0.r]
    by_cases h : j = 32
    · subst h
      rw [List.drop_of_length_le (by omega)]
      simp [behind]
    · have hj' : j < L.length := by omega
      rw [if_pos (by simp; omega), if_pos (by omega), if_pos (by omega)]
      rw [List.drop_eq_getElem_cons hj']
      have hg : L.getD (Int.toNat (j : Int)) 0 = L[j] := by simp [List.getD_eq_getElem?_getD, hj']
      rw [hg]
      by_cases hz : L[j] = 0
      · rw [if_neg (by simp [hz])]
        rw [show IntKind.wrap .i64 ((j : Int) + 1) = ((j + 1 : Nat) : Int) by rw [wi64]; omega, show IntKind.wrap .u64 (((32 - j : Nat) : Int) - 1) = ((32 - (j + 1) : Nat) : Int) by rw [wu64]; omega]
        rw [ih (j + 1) (by omega) (by omega)]
        simp [behind, hz]
      · rw [if_pos (by simpa using hz)]
        simp only [behind, hz, if_false, List.length_drop]
        congr 1
        omega
theorem q09_Exp_loop {n : Nat} {L : List Int} (hL : L.length = 32) : ∀ (j : Nat) (m : Nat), j ≤ 32 → 32 - j < m →
    q09_Exp.l3_0.g (fun a => a) n m ((32 - j : Nat) : Int) L = some ((behind (L.drop j) : Nat) : Int) := by
  intro j m hj hm
  induction m generalizing j with
  | zero => omega
  | succ m ih =>
    simp only [q09_Exp.l3_0.g, q09_Exp.l3_0.r]
    by_cases h : j = 32
    · subst h
      rw [List.drop_of_length_le (by omega)]
      simp [behind]
    · have hj' : j < L.length := by omega
      have e : IntKind.wrap .i64 (32 - ((32 - j : Nat) : Int)) = (j : Int) := by rw [wi64]; omega
      rw [e, if_pos (by simp; omega), if_pos (by omega), if_pos (by omega)]
      rw [List.drop_eq_getElem_cons hj']
      have hg : L.getD (Int.toNat (j : Int)) 0 = L[j] := by simp [List.getD_eq_getElem?_getD, hj']
      rw [hg]
      by_cases hz : L[j] = 0
      · rw [if_pos (by simp [hz])]
        rw [show IntKind.wrap .i64 (((32 - j : Nat) : Int) - 1) = ((32 - (j + 1) : Nat) : Int) by rw [wi64]; omega]
        rw [ih (j + 1) (by omega) (by omega)]
        simp [behind, hz]
      · rw [if_neg (by simpa using hz)]
        simp only [behind, hz, if_false, List.length_drop]
        congr 1
        omega
def expOf (l : List Int) : Int := 50 * ((behind (bytesW l) : Nat) : Int)
theorem fees_Exp_ok {n : Nat} (hn : 100 ≤ n) {l : List Int} (h : W4 l) : fees_Exp.m n l = some (expOf l) := by
  have hb := bytesW_length l
  have key := fees_Exp_loop (n := n) hb 0 n (by omega) (by omega)
  have hle := behind_le (bytesW l)
  simp only [fees_Exp.m, fees_Exp.g, word_Bytes_ok hn h, bindO, Option.bind_some, fees_Exp.l3_0.m, hb]
  rw [show fees_Exp.l3_0.g (fun a0 => a0) n n 0 ((32 : Nat) : Int) 32 (bytesW l) = some ((behind (bytesW l) : Nat) : Int) from key]
  simp only [Option.bind_some, expOf]
  rw [wu64]
  congr 1
  omega
theorem q09_Exp_ok {n : Nat} (hn : 100 ≤ n) {l : List Int} (h : W4 l) : q09_Exp.m n l = some (expOf l) := by
  have hb := bytesW_length l
  have key := q09_Exp_loop (n := n) hb 0 n (by omega) (by omega)
  have hle := behind_le (bytesW l)
  simp only [q09_Exp.m, q09_Exp.g, q01_Bytes_ok hn h, bindO, Option.bind_some, q09_Exp.l3_0.m]
  rw [show q09_Exp.l3_0.g (fun a0 => a0) n n 32 (bytesW l) = some ((behind (bytesW l) : Nat) : Int) from key]
  simp only [Option.bind_some, expOf]
  rw [wu64, wu64]
  congr 1
  omega

/-! ### Base -/
theorem base_all (k : Nat) : ((List.range 256).all fun i => match fees_Base.m (k + 40) (i : Int), q09_Base.m (k + 40) (i : Int) with | some a, some b => a == b | _, _ => false) = true := by kernel_rfl
theorem base_ok {n : Nat} (hn : 100 ≤ n) {x : Int} (h0 : 0 ≤ x) (h1 : x < 256) : ∃ v, fees_Base.m n x = some v ∧ q09_Base.m n x = some v := by
  obtain ⟨k, rfl⟩ : ∃ k, n = k + 40 := ⟨n - 40, by omega⟩
  have := List.all_eq_true.1 (base_all k) x.toNat (List.mem_range.2 (by omega))
  rw [show ((x.toNat : Nat) : Int) = x by omega] at this
  split at this
  · rename_i a b ha hb
    exact ⟨a, ha, by rw [hb, (by simpa using this : a = b)]⟩
  · cases this
end Go.Abs.Pure
end

section
set_option linter.unusedVariables false
namespace Go.Abs.Pure
open Go Go.Abs
theorem l09_known_ok {n : Nat} (hn : 100 ≤ n) : l09_known.m n () = some true := by
  obtain ⟨k, rfl⟩ : ∃ k, n = k + 40 := ⟨n - 40, by omega⟩
  exact (show l09_known.m (k + 40) () = some true by kernel_rfl)
theorem FeesTables_pure {n : Nat} (hn : 100 ≤ n) {a : Int} (a0 : 0 ≤ a) (a1 : a < 256) {l : List Int} (hl : W4 l) {x : Int} (h0 : 0 ≤ x) (h1 : x < 18446744073709551616) : l09_FeesTables.m n (a, l, x) = some true := by
  obtain ⟨v, b1, b2⟩ := base_ok hn a0 a1
  simp only [l09_FeesTables.m, l09_FeesTables.g, l09_known_ok hn, b1, b2, fees_Exp_ok hn hl, q09_Exp_ok hn hl, fees_Words_ok h0 h1, q09_Words_ok h0 h1, fees_Memory_ok h0 h1, q09_Memory_ok h0 h1, bindO, Option.bind_some, beq_self_eq_true, if_true]
theorem FeesTables_row (a : Int) (h : InK .u8 a) (l : List Int) (hl : InA .u64 4 l) (x : Int) (hx : InK .u64 x) : ∃ n, l09_FeesTables.m n (a, l, x) = some true :=
  ⟨100, FeesTables_pure (Nat.le_refl _) (lo8 h) (hi8 h) (W4.of hl) (lo64 hx) (hi64 hx)⟩
end Go.Abs.Pure
end
