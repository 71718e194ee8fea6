/- Plain laws about what the functions compute. Conditions: the arguments' bounds, as each theorem says. -/
import Derived.Test.YtmpflhdnlkjajaaBinB1
import Derived.Test.YtmpflhdnlkjajaaAbsB5
import Derived.Test.YtmpflhdnlkjajaaFnWordOrder1
import Derived.Test.YtmpflhdnlkjajaaFnWordOrder2
section
set_option linter.unusedVariables false
namespace Go.Abs.Pure
open Go Go.Abs
/-- a word's parts are so. -/
def W4 (l : List Int) : Prop := l.length = 4 ∧ ∀ x ∈ l, 0 ≤ x ∧ x < 18446744073709551616
theorem W4.split {l : List Int} (h : W4 l) : ∃ a b c d, l = [a, b, c, d] ∧ (0 ≤ a ∧ a < 18446744073709551616) ∧ (0 ≤ b ∧ b < 18446744073709551616) ∧ (0 ≤ c ∧ c < 18446744073709551616) ∧ (0 ≤ d ∧ d < 18446744073709551616) := by
  obtain ⟨h1, h2⟩ := h
  match l, h1 with
  | [a, b, c, d], _ => exact ⟨a, b, c, d, rfl, h2 a (by simp), h2 b (by simp), h2 c (by simp), h2 d (by simp)⟩
theorem W4.mk {a b c d : Int} (ha : 0 ≤ a ∧ a < 18446744073709551616) (hb : 0 ≤ b ∧ b < 18446744073709551616) (hc : 0 ≤ c ∧ c < 18446744073709551616) (hd : 0 ≤ d ∧ d < 18446744073709551616) : W4 [a, b, c, d] :=
  ⟨rfl, by simp; exact ⟨ha, hb, hc, hd⟩⟩
theorem lo8 {x : Int} (h : InK .u8 x) : 0 ≤ x := h.1
theorem hi8 {x : Int} (h : InK .u8 x) : x < 256 := by have := h.2; simp [IntKind.max, IntKind.bits, IntKind.signed] at this; omega
theorem lo64 {x : Int} (h : InK .u64 x) : 0 ≤ x := h.1
theorem hi64 {x : Int} (h : InK .u64 x) : x < 18446744073709551616 := by have := h.2; simp [IntKind.max, IntKind.bits, IntKind.signed] at this; omega
theorem W4.of {l : List Int} (h : InA .u64 4 l) : W4 l := ⟨h.1, fun x hx => ⟨lo64 (h.2 x hx), hi64 (h.2 x hx)⟩⟩
/-- a word's number. -/
def V : List Int → Int
  | [a, b, c, d] => a + b * 18446744073709551616 + c * 340282366920938463463374607431768211456 + d * 6277101735386680763835789423207666416102355444464034512896
  | _ => 0
/-- 2 ^ 256. -/
def B : Int := 115792089237316195423570985008687907853269984665640564039457584007913129639936
/-- a number's word, modulo 2 ^ 256. -/
def ofV (x : Int) : List Int := [x % 18446744073709551616, x / 18446744073709551616 % 18446744073709551616, x / 340282366920938463463374607431768211456 % 18446744073709551616, x / 6277101735386680763835789423207666416102355444464034512896 % 18446744073709551616]
theorem ofV_W4 (x : Int) : W4 (ofV x) := .mk (by omega) (by omega) (by omega) (by omega)
theorem V_ofV (x : Int) : V (ofV x) = x % B := by simp only [V, ofV, B]; omega
theorem V_range {l : List Int} (h : W4 l) : 0 ≤ V l ∧ V l < B := by
  obtain ⟨a, b, c, d, rfl, ha, hb, hc, hd⟩ := h.split
  simp only [V, B]; omega
theorem eq_ofV {l : List Int} (h : W4 l) {x : Int} (hx : V l = x % B) : l = ofV x := by
  obtain ⟨a, b, c, d, rfl, ha, hb, hc, hd⟩ := h.split
  simp only [V, B] at hx
  simp only [ofV, List.cons.injEq, and_true]
  refine ⟨?_, ?_, ?_, ?_⟩ <;> omega
theorem digits {a b c d t : Int} (q : Int) (ha : 0 ≤ a ∧ a < 18446744073709551616) (hb : 0 ≤ b ∧ b < 18446744073709551616) (hc : 0 ≤ c ∧ c < 18446744073709551616) (hd : 0 ≤ d ∧ d < 18446744073709551616) (h : t = V [a, b, c, d] + B * q) : [a, b, c, d] = ofV t := by
  have r := V_range (.mk ha hb hc hd)
  refine eq_ofV (.mk ha hb hc hd) ?_
  rw [h, Int.add_mul_emod_self_left, Int.emod_eq_of_lt r.1 r.2]
/-- a sum with carries, part by part. -/
theorem sum_parts {a b c d e f g h : Int} (ha : 0 ≤ a ∧ a < 18446744073709551616) (hb : 0 ≤ b ∧ b < 18446744073709551616) (hc : 0 ≤ c ∧ c < 18446744073709551616) (hd : 0 ≤ d ∧ d < 18446744073709551616) (he : 0 ≤ e ∧ e < 18446744073709551616) (hf : 0 ≤ f ∧ f < 18446744073709551616) (hg : 0 ≤ g ∧ g < 18446744073709551616) (hh : 0 ≤ h ∧ h < 18446744073709551616) :
    ∃ q0 q1 q2 q3 : Int, (a + e + 0) / 18446744073709551616 = q0 ∧ (b + f + q0) / 18446744073709551616 = q1 ∧ (c + g + q1) / 18446744073709551616 = q2 ∧ (d + h + q2) / 18446744073709551616 = q3 ∧ (0 ≤ q0 ∧ q0 ≤ 1) ∧ (0 ≤ q1 ∧ q1 ≤ 1) ∧ (0 ≤ q2 ∧ q2 ≤ 1) ∧ (0 ≤ q3 ∧ q3 ≤ 1) ∧
      [(a + e + 0) % 18446744073709551616, (b + f + q0) % 18446744073709551616, (c + g + q1) % 18446744073709551616, (d + h + q2) % 18446744073709551616] = ofV (V [a, b, c, d] + V [e, f, g, h]) ∧ (q3 = 1 ↔ B ≤ V [a, b, c, d] + V [e, f, g, h]) := by
  refine ⟨_, _, _, _, rfl, rfl, rfl, rfl, ?_⟩
  generalize h0 : (a + e + 0) / 18446744073709551616 = q0
  have k0 : 0 ≤ q0 ∧ q0 ≤ 1 := by omega
  generalize h1 : (b + f + q0) / 18446744073709551616 = q1
  have k1 : 0 ≤ q1 ∧ q1 ≤ 1 := by omega
  generalize h2 : (c + g + q1) / 18446744073709551616 = q2
  have k2 : 0 ≤ q2 ∧ q2 ≤ 1 := by omega
  generalize h3 : (d + h + q2) / 18446744073709551616 = q3
  have k3 : 0 ≤ q3 ∧ q3 ≤ 1 := by omega
  generalize e0 : (a + e + 0) % 18446744073709551616 = d0
  generalize e1 : (b + f + q0) % 18446744073709551616 = d1
  generalize e2 : (c + g + q1) % 18446744073709551616 = d2
  generalize e3 : (d + h + q2) % 18446744073709551616 = d3
  have f0 : a + e = d0 + 18446744073709551616 * q0 ∧ 0 ≤ d0 ∧ d0 < 18446744073709551616 := by omega
  have f1 : b + f + q0 = d1 + 18446744073709551616 * q1 ∧ 0 ≤ d1 ∧ d1 < 18446744073709551616 := by omega
  have f2 : c + g + q1 = d2 + 18446744073709551616 * q2 ∧ 0 ≤ d2 ∧ d2 < 18446744073709551616 := by omega
  have f3 : d + h + q2 = d3 + 18446744073709551616 * q3 ∧ 0 ≤ d3 ∧ d3 < 18446744073709551616 := by omega
  clear h0 h1 h2 h3 e0 e1 e2 e3
  have hs : V [a, b, c, d] + V [e, f, g, h] = V [d0, d1, d2, d3] + B * q3 := by
    simp only [V, B]; omega
  have hr := V_range (.mk f0.2 f1.2 f2.2 f3.2)
  refine ⟨k0, k1, k2, k3, digits q3 f0.2 f1.2 f2.2 f3.2 hs, ?_⟩
  rw [hs]
  generalize V [d0, d1, d2, d3] = v at *
  simp only [B] at *
  omega
theorem ofV_V {l : List Int} (h : W4 l) : ofV (V l) = l := by
  obtain ⟨h0, h1⟩ := V_range h
  exact (eq_ofV h (by rw [Int.emod_eq_of_lt h0 h1])).symm
theorem V_inj {a b : List Int} (ha : W4 a) (hb : W4 b) (h : V a = V b) : a = b := by rw [← ofV_V ha, ← ofV_V hb, h]
theorem ofV_congr {x y : Int} (h : x % B = y % B) : ofV x = ofV y := eq_ofV (ofV_W4 x) (by rw [V_ofV, h])
theorem beq_V {a b : List Int} (ha : W4 a) (hb : W4 b) : (a == b) = decide (V a = V b) := by
  by_cases h : a = b
  · subst h; simp
  · have : V a ≠ V b := fun e => h (V_inj ha hb e)
    simp [h, this]
theorem xAdd64_some {x y c : Int} (hx : 0 ≤ x) (hy : 0 ≤ y) (hc : 0 ≤ c) (hc1 : c ≤ 1) : xAdd64 (x, y, c) = some ((x + y + c) % 18446744073709551616, (x + y + c) / 18446744073709551616) := by
  simp [xAdd64, hx, hy, hc, hc1]
theorem xSub64_some {x y c : Int} (hx : 0 ≤ x) (hy : 0 ≤ y) (hy1 : y < 18446744073709551616) (hc : 0 ≤ c) (hc1 : c ≤ 1) : xSub64 (x, y, c) = some ((x - y - c) % 18446744073709551616, if x < y + c then 1 else 0) := by
  simp [xSub64, hx, hy, hy1, hc, hc1]
theorem not_u64 {x : Int} (h0 : 0 ≤ x) (h1 : x < 18446744073709551616) : ibits .xor .u64 18446744073709551615 x = 18446744073709551615 - x := by
  rw [xor_u64 (by omega) (by omega) h0 h1]
  have key : ∀ m : Nat, m < 2 ^ 64 → (18446744073709551615 ^^^ m : Nat) = 18446744073709551615 - m := by
    intro m hm
    have h3 : (18446744073709551615 ^^^ m : Nat) = ((BitVec.allOnes 64) ^^^ (BitVec.ofNat 64 m)).toNat := by
      rw [BitVec.toNat_xor, BitVec.toNat_allOnes, BitVec.toNat_ofNat, Nat.mod_eq_of_lt hm]
    rw [h3, BitVec.allOnes_xor, BitVec.toNat_not, BitVec.toNat_ofNat, Nat.mod_eq_of_lt hm]
  have := key x.toNat (by omega)
  rw [show Int.toNat 18446744073709551615 = 18446744073709551615 from rfl, this]
  omega
end Go.Abs.Pure
end

section
set_option linter.unusedVariables false
set_option linter.unusedSimpArgs false
namespace Go.Abs.Pure
open Go Go.Abs

theorem word_Add_unroll {α : Type} (mk : Int → List Int → List Int → α) (n k : Nat) (a b c d e f g h : Int) : word_Add.l4_0.g mk n (k + 5) 0 0 [a, b, c, d] [e, f, g, h] [0, 0, 0, 0] [0, 0, 0, 0] = bindO (xAdd64 (a, e, 0)) fun r => bindO (xAdd64 (b, f, r.2)) fun s => bindO (xAdd64 (c, g, s.2)) fun t => bindO (xAdd64 (d, h, t.2)) fun u => some (mk u.2 [r.1, s.1, t.1, u.1] [0, 0, 0, 0]) := by kernel_rfl
theorem word_Sub_unroll {α : Type} (mk : Int → List Int → List Int → α) (n k : Nat) (a b c d e f g h : Int) : word_Sub.l4_0.g mk n (k + 5) 0 0 [a, b, c, d] [e, f, g, h] [0, 0, 0, 0] [0, 0, 0, 0] = bindO (xSub64 (a, e, 0)) fun r => bindO (xSub64 (b, f, r.2)) fun s => bindO (xSub64 (c, g, s.2)) fun t => bindO (xSub64 (d, h, t.2)) fun u => some (mk u.2 [r.1, s.1, t.1, u.1] [0, 0, 0, 0]) := by kernel_rfl

theorem word_Add_ok {n : Nat} (hn : 100 ≤ n) {x y : List Int} (hx : W4 x) (hy : W4 y) : word_Add.m n (x, y) = some (ofV (V x + V y), decide (B ≤ V x + V y)) := by
  obtain ⟨a, b, c, d, rfl, ha, hb, hc, hd⟩ := hx.split
  obtain ⟨e, f, g, h, rfl, he, hf, hg, hh⟩ := hy.split
  obtain ⟨q0, q1, q2, q3, h0, h1, h2, h3, k0, k1, k2, k3, hs, hq⟩ := sum_parts ha hb hc hd he hf hg hh
  obtain ⟨k, rfl⟩ : ∃ k, n = k + 5 := ⟨n - 5, by omega⟩
  simp only [word_Add.m, word_Add.g, word_Add.l4_0.m]
  rw [word_Add_unroll, xAdd64_some ha.1 he.1 (by omega) (by omega)]
  simp only [bindO, Option.bind_some]
  rw [h0, xAdd64_some hb.1 hf.1 (by omega) (by omega)]
  simp only [Option.bind_some]
  rw [h1, xAdd64_some hc.1 hg.1 (by omega) (by omega)]
  simp only [Option.bind_some]
  rw [h2, xAdd64_some hd.1 hh.1 (by omega) (by omega)]
  simp only [Option.bind_some]
  rw [h3, hs]
  have : (q3 != 0) = decide (B ≤ V [a, b, c, d] + V [e, f, g, h]) := by
    rw [Bool.eq_iff_iff]
    simp only [bne_iff_ne, decide_eq_true_eq, ne_eq]
    rw [← hq]
    omega
  rw [this]
theorem word_Sub_ok {n : Nat} (hn : 100 ≤ n) {x y : List Int} (hx : W4 x) (hy : W4 y) : word_Sub.m n (x, y) = some (ofV (V x - V y), decide (V x < V y)) := by
  obtain ⟨a, b, c, d, rfl, ha, hb, hc, hd⟩ := hx.split
  obtain ⟨e, f, g, h, rfl, he, hf, hg, hh⟩ := hy.split
  obtain ⟨k, rfl⟩ : ∃ k, n = k + 5 := ⟨n - 5, by omega⟩
  have bit : ∀ p : Prop, [Decidable p] → 0 ≤ (if p then (1 : Int) else 0) ∧ (if p then (1 : Int) else 0) ≤ 1 := fun p _ => by split <;> omega
  simp only [word_Sub.m, word_Sub.g, word_Sub.l4_0.m]
  rw [word_Sub_unroll, xSub64_some ha.1 he.1 he.2 (by omega) (by omega)]
  simp only [bindO, Option.bind_some]
  rw [xSub64_some hb.1 hf.1 hf.2 (bit _).1 (bit _).2]
  simp only [Option.bind_some]
  rw [xSub64_some hc.1 hg.1 hg.2 (bit _).1 (bit _).2]
  simp only [Option.bind_some]
  rw [xSub64_some hd.1 hh.1 hh.2 (bit _).1 (bit _).2]
  simp only [Option.bind_some]
  generalize hc0 : (if a < e + 0 then (1 : Int) else 0) = c0
  have k0 : (0 ≤ c0 ∧ c0 ≤ 1) ∧ 0 ≤ a - e + 18446744073709551616 * c0 ∧ a - e + 18446744073709551616 * c0 < 18446744073709551616 := by subst hc0; split <;> omega
  generalize hc1 : (if b < f + c0 then (1 : Int) else 0) = c1
  have k1 : (0 ≤ c1 ∧ c1 ≤ 1) ∧ 0 ≤ b - f - c0 + 18446744073709551616 * c1 ∧ b - f - c0 + 18446744073709551616 * c1 < 18446744073709551616 := by subst hc1; split <;> omega
  generalize hc2 : (if c < g + c1 then (1 : Int) else 0) = c2
  have k2 : (0 ≤ c2 ∧ c2 ≤ 1) ∧ 0 ≤ c - g - c1 + 18446744073709551616 * c2 ∧ c - g - c1 + 18446744073709551616 * c2 < 18446744073709551616 := by subst hc2; split <;> omega
  generalize hc3 : (if d < h + c2 then (1 : Int) else 0) = c3
  have k3 : (0 ≤ c3 ∧ c3 ≤ 1) ∧ 0 ≤ d - h - c2 + 18446744073709551616 * c3 ∧ d - h - c2 + 18446744073709551616 * c3 < 18446744073709551616 := by subst hc3; split <;> omega
  clear hc0 hc1 hc2 hc3 bit
  have e0 : (a - e - 0) % 18446744073709551616 = a - e + 18446744073709551616 * c0 := by omega
  have e1 : (b - f - c0) % 18446744073709551616 = b - f - c0 + 18446744073709551616 * c1 := by omega
  have e2 : (c - g - c1) % 18446744073709551616 = c - g - c1 + 18446744073709551616 * c2 := by omega
  have e3 : (d - h - c2) % 18446744073709551616 = d - h - c2 + 18446744073709551616 * c3 := by omega
  rw [e0, e1, e2, e3]
  have hs : V [a, b, c, d] - V [e, f, g, h] = V [a - e + 18446744073709551616 * c0, b - f - c0 + 18446744073709551616 * c1, c - g - c1 + 18446744073709551616 * c2, d - h - c2 + 18446744073709551616 * c3] + B * (- c3) := by
    simp only [V, B]; omega
  have hr := V_range (.mk k0.2 k1.2 k2.2 k3.2)
  rw [digits (- c3) k0.2 k1.2 k2.2 k3.2 hs]
  have : (c3 != 0) = decide (V [a, b, c, d] < V [e, f, g, h]) := by
    rw [Bool.eq_iff_iff]
    simp only [bne_iff_ne, decide_eq_true_eq, ne_eq]
    generalize V [a, b, c, d] = v at *
    generalize V [e, f, g, h] = u at *
    generalize V [a - e + 18446744073709551616 * c0, b - f - c0 + 18446744073709551616 * c1, c - g - c1 + 18446744073709551616 * c2, d - h - c2 + 18446744073709551616 * c3] = z at *
    simp only [B] at *
    omega
  rw [this]

/-! ### The document's -/
theorem q01_Add_step {α : Type} (mk0 : Int → List Int → List Int → α) (n : Nat) (rc : Int → Int → List Int → List Int → List Int → List Int → Option α) (i : Nat) (hi : i < 4) (c : Int) (hc : 0 ≤ c ∧ c ≤ 1) (x y o o' : List Int) (hx : 0 ≤ x.getD i 0 ∧ x.getD i 0 < 18446744073709551616) (hy : 0 ≤ y.getD i 0 ∧ y.getD i 0 < 18446744073709551616) :
    q01_Add.l4_0.r mk0 n rc (i : Int) c x y o o' = rc ((i + 1 : Nat) : Int) ((x.getD i 0 + y.getD i 0 + c) / 18446744073709551616) x y (o.set i ((x.getD i 0 + y.getD i 0 + c) % 18446744073709551616)) o' := by
  have h1 : (decide ((i : Int) < 4)) = true := by simp; omega
  have h2 : (0 : Int) ≤ (i : Int) := by omega
  have h3 : (i : Int) < 4 := by omega
  simp only [q01_Add.l4_0.r, h1, h2, h3, if_true, eq_self_iff_true, Int.toNat_natCast, wu64]
  generalize x.getD i 0 = p at *
  generalize y.getD i 0 = q at *
  rw [show IntKind.wrap .i64 ((i : Int) + 1) = ((i + 1 : Nat) : Int) by rw [wi64]; omega]
  have e : ((p + q) % 18446744073709551616 + c) % 18446744073709551616 = (p + q + c) % 18446744073709551616 := by omega
  rw [e]
  simp only [decide_eq_true_eq]
  by_cases g1 : (p + q) % 18446744073709551616 < p
  · rw [show (p + q + c) / 18446744073709551616 = 1 by omega]
    simp only [g1, if_true, ite_self]
  · by_cases g2 : (p + q + c) % 18446744073709551616 < (p + q) % 18446744073709551616
    · rw [show (p + q + c) / 18446744073709551616 = 1 by omega]
      simp only [g1, g2, if_true, if_false]
    · rw [show (p + q + c) / 18446744073709551616 = 0 by omega]
      simp only [g1, g2, if_false, if_true]
theorem q01_Add_ok {n : Nat} (hn : 100 ≤ n) {x y : List Int} (hx : W4 x) (hy : W4 y) : q01_Add.m n (x, y) = some (ofV (V x + V y), decide (B ≤ V x + V y)) := by
  obtain ⟨a, b, c, d, rfl, ha, hb, hc, hd⟩ := hx.split
  obtain ⟨e, f, g, h, rfl, he, hf, hg, hh⟩ := hy.split
  obtain ⟨q0, q1, q2, q3, h0, h1, h2, h3, k0, k1, k2, k3, hs, hq⟩ := sum_parts ha hb hc hd he hf hg hh
  obtain ⟨k, rfl⟩ : ∃ k, n = k + 5 := ⟨n - 5, by omega⟩
  have key : q01_Add.l4_0.g (fun a0 a1 a2 => (a0, a1, a2)) (k + 5) (k + 5) 0 0 [a, b, c, d] [e, f, g, h] [0, 0, 0, 0] [0, 0, 0, 0] = some (q3, [(a + e + 0) % 18446744073709551616, (b + f + q0) % 18446744073709551616, (c + g + q1) % 18446744073709551616, (d + h + q2) % 18446744073709551616], [0, 0, 0, 0]) := by
    refine (q01_Add_step _ _ _ 0 (by omega) 0 (by omega) [a, b, c, d] [e, f, g, h] _ _ ha he).trans ?_
    simp only [List.getD_cons_zero, List.getD_cons_succ, h0]
    refine (q01_Add_step _ _ _ 1 (by omega) _ k0 [a, b, c, d] [e, f, g, h] _ _ hb hf).trans ?_
    simp only [List.getD_cons_zero, List.getD_cons_succ, h1]
    refine (q01_Add_step _ _ _ 2 (by omega) _ k1 [a, b, c, d] [e, f, g, h] _ _ hc hg).trans ?_
    simp only [List.getD_cons_zero, List.getD_cons_succ, h2]
    refine (q01_Add_step _ _ _ 3 (by omega) _ k2 [a, b, c, d] [e, f, g, h] _ _ hd hh).trans ?_
    simp only [List.getD_cons_zero, List.getD_cons_succ, h3]
    rfl
  simp only [q01_Add.m, q01_Add.g, q01_Add.l4_0.m, key, bindO, Option.bind_some]
  rw [hs]
  have : (q3 == 1) = decide (B ≤ V [a, b, c, d] + V [e, f, g, h]) := by
    rw [Bool.eq_iff_iff]
    simp only [beq_iff_eq, decide_eq_true_eq]
    exact hq
  rw [this]
theorem q01_not_ok {n : Nat} {x : List Int} (hx : W4 x) : q01_not.m n x = some (ofV (B - 1 - V x)) := by
  obtain ⟨a, b, c, d, rfl, ha, hb, hc, hd⟩ := hx.split
  simp only [q01_not.m, q01_not.g, List.getD_cons_zero, List.getD_cons_succ, Bool.false_eq_true, if_false]
  rw [not_u64 ha.1 ha.2, not_u64 hb.1 hb.2, not_u64 hc.1 hc.2, not_u64 hd.1 hd.2]
  congr 1
  refine eq_ofV (.mk (by omega) (by omega) (by omega) (by omega)) ?_
  simp only [V, B]
  omega
theorem q01_Neg_ok {n : Nat} (hn : 100 ≤ n) {x : List Int} (hx : W4 x) : q01_Neg.m n x = some (ofV (- V x)) := by
  have r := V_range hx
  simp only [q01_Neg.m, q01_Neg.g, q01_not_ok hx, bindO, Option.bind_some, q01_From.m, q01_From.g]
  rw [q01_Add_ok hn (ofV_W4 _) (.mk (by omega) (by omega) (by omega) (by omega))]
  simp only [Option.bind_some, V_ofV]
  congr 1
  apply ofV_congr
  simp only [V, B] at *
  omega
def cmpOf (x y : Int) : Int := if x < y then -1 else if x = y then 0 else 1
theorem q01_Cmp_unroll (k : Nat) (a b c d e f g h : Int) : q01_Cmp.m (k + 6) ([a, b, c, d], [e, f, g, h]) =
    if (decide (d < h)) = true then some (-1) else if (decide (d > h)) = true then some 1 else
    if (decide (c < g)) = true then some (-1) else if (decide (c > g)) = true then some 1 else
    if (decide (b < f)) = true then some (-1) else if (decide (b > f)) = true then some 1 else
    if (decide (a < e)) = true then some (-1) else if (decide (a > e)) = true then some 1 else some 0 := by
  simp only [q01_Cmp.m, q01_Cmp.g, q01_Cmp.l2_0.m]
  have u : ∀ (m : Nat) (i : Int) (x y : List Int), q01_Cmp.l2_0.g (fun a0 => Sum.inl a0) (Sum.inr ()) (k + 6) (m + 1) i x y = q01_Cmp.l2_0.r (fun a0 => Sum.inl a0) (Sum.inr ()) (k + 6) (fun y0 y1 y2 => q01_Cmp.l2_0.g (fun a0 => Sum.inl a0) (Sum.inr ()) (k + 6) m y0 y1 y2) i x y := fun _ _ _ _ => rfl
  rw [u (k + 5)]
  simp only [q01_Cmp.l2_0.r, show decide ((3 : Int) ≥ 0) = true from rfl, show (0 : Int) ≤ 3 by omega, show (3 : Int) < 4 by omega, if_true, eq_self_iff_true]
  rw [show IntKind.wrap .i64 (3 - 1) = 2 by rw [wi64]; rfl, u (k + 4)]
  simp only [q01_Cmp.l2_0.r, show decide ((2 : Int) ≥ 0) = true from rfl, show (0 : Int) ≤ 2 by omega, show (2 : Int) < 4 by omega, if_true, eq_self_iff_true]
  rw [show IntKind.wrap .i64 (2 - 1) = 1 by rw [wi64]; rfl, u (k + 3)]
  simp only [q01_Cmp.l2_0.r, show decide ((1 : Int) ≥ 0) = true from rfl, show (0 : Int) ≤ 1 by omega, show (1 : Int) < 4 by omega, if_true, eq_self_iff_true]
  rw [show IntKind.wrap .i64 (1 - 1) = 0 by rw [wi64]; rfl, u (k + 2)]
  simp only [q01_Cmp.l2_0.r, show decide ((0 : Int) ≥ 0) = true from rfl, show (0 : Int) ≤ 0 by omega, show (0 : Int) < 4 by omega, if_true, eq_self_iff_true]
  rw [show IntKind.wrap .i64 (0 - 1) = -1 by rw [wi64]; rfl, u (k + 1)]
  simp only [q01_Cmp.l2_0.r, show decide ((-1 : Int) ≥ 0) = false from rfl, Bool.false_eq_true, if_false]
  simp only [show Int.toNat 3 = 3 from rfl, show Int.toNat 2 = 2 from rfl, show Int.toNat 1 = 1 from rfl, show Int.toNat 0 = 0 from rfl, List.getD_cons_zero, List.getD_cons_succ]
  by_cases h1 : d < h
  · simp [h1, bindO]
  · by_cases h2 : d > h
    · simp [h1, h2, bindO]
    · simp only [h1, h2, decide_false, Bool.false_eq_true, if_false]
      by_cases h3 : c < g
      · simp [h3, bindO]
      · by_cases h4 : c > g
        · simp [h3, h4, bindO]
        · simp only [h3, h4, decide_false, Bool.false_eq_true, if_false]
          by_cases h5 : b < f
          · simp [h5, bindO]
          · by_cases h6 : b > f
            · simp [h5, h6, bindO]
            · simp only [h5, h6, decide_false, Bool.false_eq_true, if_false]
              by_cases h7 : a < e
              · simp [h7, bindO]
              · by_cases h8 : a > e
                · simp [h7, h8, bindO]
                · simp [h7, h8, bindO]
theorem q01_Cmp_ok {n : Nat} (hn : 100 ≤ n) {x y : List Int} (hx : W4 x) (hy : W4 y) : q01_Cmp.m n (x, y) = some (cmpOf (V x) (V y)) := by
  obtain ⟨a, b, c, d, rfl, ha, hb, hc, hd⟩ := hx.split
  obtain ⟨e, f, g, h, rfl, he, hf, hg, hh⟩ := hy.split
  obtain ⟨k, rfl⟩ : ∃ k, n = k + 6 := ⟨n - 6, by omega⟩
  rw [q01_Cmp_unroll]
  simp only [decide_eq_true_eq]
  have lt : V [a, b, c, d] < V [e, f, g, h] → some (-1) = some (cmpOf (V [a, b, c, d]) (V [e, f, g, h])) := fun h => by rw [cmpOf, if_pos h]
  have gt : V [a, b, c, d] > V [e, f, g, h] → some 1 = some (cmpOf (V [a, b, c, d]) (V [e, f, g, h])) := fun h => by rw [cmpOf, if_neg (by omega), if_neg (by omega)]
  have eq : V [a, b, c, d] = V [e, f, g, h] → some 0 = some (cmpOf (V [a, b, c, d]) (V [e, f, g, h])) := fun h => by rw [cmpOf, if_neg (by omega), if_pos h]
  split
  · exact lt (by simp only [V]; omega)
  split
  · exact gt (by simp only [V]; omega)
  split
  · exact lt (by simp only [V]; omega)
  split
  · exact gt (by simp only [V]; omega)
  split
  · exact lt (by simp only [V]; omega)
  split
  · exact gt (by simp only [V]; omega)
  split
  · exact lt (by simp only [V]; omega)
  split
  · exact gt (by simp only [V]; omega)
  · exact eq (by simp only [V]; omega)
end Go.Abs.Pure
end

section
set_option linter.unusedVariables false
set_option linter.unusedSimpArgs false
namespace Go.Abs.Pure
open Go Go.Abs

theorem mul_bound {a b m k : Int} (ha : 0 ≤ a) (ha2 : a ≤ m) (hb : 0 ≤ b) (hb2 : b ≤ k) : 0 ≤ a * b ∧ a * b ≤ m * k :=
  ⟨Int.mul_nonneg ha hb, Int.mul_le_mul ha2 hb2 hb (by omega)⟩
/-- the product of two parts, in two parts. -/
theorem halves_mul {x1 x0 y1 y0 : Int} : (x1 * 4294967296 + x0) * (y1 * 4294967296 + y0) = x1 * y1 * 18446744073709551616 + (x1 * y0 + x0 * y1) * 4294967296 + x0 * y0 := by
  simp only [Int.mul_add, Int.add_mul]
  have e1 : x1 * 4294967296 * (y1 * 4294967296) = x1 * y1 * 18446744073709551616 := by
    rw [Int.mul_assoc, ← Int.mul_assoc 4294967296 y1, Int.mul_comm 4294967296 y1, Int.mul_assoc y1, ← Int.mul_assoc x1]; rfl
  have e2 : x1 * 4294967296 * y0 = x1 * y0 * 4294967296 := by rw [Int.mul_assoc, Int.mul_comm 4294967296 y0, ← Int.mul_assoc]
  have e3 : x0 * (y1 * 4294967296) = x0 * y1 * 4294967296 := by rw [← Int.mul_assoc]
  rw [e1, e2, e3]
  omega
theorem bits_Mul64_ok {n : Nat} {x y : Int} (hx : 0 ≤ x ∧ x < 18446744073709551616) (hy : 0 ≤ y ∧ y < 18446744073709551616) : bits_Mul64.m n (x, y) = some (x * y / 18446744073709551616, x * y % 18446744073709551616) := by
  have sh : ∀ a : Int, ishr .u64 a 32 = a / 4294967296 := fun a => ishr_ofNat .u64 a 32 (by decide)
  have ms : ∀ a : Int, 0 ≤ a → a < 18446744073709551616 → ibits .and .u64 a 4294967295 = a % 4294967296 := fun a h0 h1 => and_mask h0 h1 32 (by omega)
  simp only [bits_Mul64.m, bits_Mul64.g, sh, wu64]
  rw [ms x hx.1 hx.2, ms y hy.1 hy.2]
  rw [ms _ (Int.emod_nonneg _ (by omega)) (Int.emod_lt_of_pos _ (by omega))]
  obtain ⟨x1, x0, rfl, h1, h0⟩ : ∃ x1 x0, x = x1 * 4294967296 + x0 ∧ (0 ≤ x1 ∧ x1 ≤ 4294967295) ∧ 0 ≤ x0 ∧ x0 ≤ 4294967295 := ⟨x / 4294967296, x % 4294967296, by omega, by omega, by omega⟩
  obtain ⟨y1, y0, rfl, g1, g0⟩ : ∃ y1 y0, y = y1 * 4294967296 + y0 ∧ (0 ≤ y1 ∧ y1 ≤ 4294967295) ∧ 0 ≤ y0 ∧ y0 ≤ 4294967295 := ⟨y / 4294967296, y % 4294967296, by omega, by omega, by omega⟩
  rw [show (x1 * 4294967296 + x0) / 4294967296 = x1 by omega, show (x1 * 4294967296 + x0) % 4294967296 = x0 by omega, show (y1 * 4294967296 + y0) / 4294967296 = y1 by omega, show (y1 * 4294967296 + y0) % 4294967296 = y0 by omega]
  rw [halves_mul]
  have b00 := mul_bound h0.1 h0.2 g0.1 g0.2
  have b10 := mul_bound h1.1 h1.2 g0.1 g0.2
  have b01 := mul_bound h0.1 h0.2 g1.1 g1.2
  have b11 := mul_bound h1.1 h1.2 g1.1 g1.2
  generalize x0 * y0 = p00 at *
  generalize x1 * y0 = p10 at *
  generalize x0 * y1 = p01 at *
  generalize x1 * y1 = p11 at *
  clear hx hy h0 h1 g0 g1
  simp only [Option.some.injEq, Prod.mk.injEq, and_true]
  rw [show p00 % 18446744073709551616 = p00 by omega, show p10 % 18446744073709551616 = p10 by omega, show p01 % 18446744073709551616 = p01 by omega, show p11 % 18446744073709551616 = p11 by omega]
  rw [show (p10 + p00 / 4294967296) % 18446744073709551616 = p10 + p00 / 4294967296 by omega]
  generalize ht : p10 + p00 / 4294967296 = t
  have : 0 ≤ t ∧ t ≤ 18446744069414584320 := by omega
  rw [show (t % 4294967296 + p01) % 18446744073709551616 = t % 4294967296 + p01 by omega]
  omega
end Go.Abs.Pure
end

section
set_option linter.unusedVariables false
set_option linter.unusedSimpArgs false
namespace Go.Abs.Pure
open Go Go.Abs
/-- the number that digits tell, the lowest first. -/
def val (b : Int) : List Int → Int
  | [] => 0
  | x :: r => x + b * val b r
/-- are they digits? -/
def Dig (b : Int) (l : List Int) : Prop := ∀ x ∈ l, 0 ≤ x ∧ x < b
theorem Dig.getD {b : Int} {l : List Int} (h : Dig b l) {i : Nat} (hi : i < l.length) : 0 ≤ l.getD i 0 ∧ l.getD i 0 < b := by
  rw [List.getD_eq_getElem?_getD, List.getElem?_eq_getElem hi]
  exact h _ (List.getElem_mem hi)
theorem Dig.set {b : Int} {l : List Int} (h : Dig b l) {i : Nat} {d : Int} (hd : 0 ≤ d ∧ d < b) : Dig b (l.set i d) := fun x hx => by
  rcases List.mem_or_eq_of_mem_set hx with h' | h'
  · exact h x h'
  · rw [h']; exact hd
theorem val_set {b : Int} : ∀ {l : List Int} {k : Nat} {d : Int}, k < l.length → val b (l.set k d) = val b l + (d - l.getD k 0) * b ^ k
  | x :: r, 0, d, _ => by simp only [List.set_cons_zero, val, List.getD_cons_zero]; grind
  | x :: r, k + 1, d, h => by
    have ih := val_set (b := b) (l := r) (k := k) (d := d) (by simpa using h)
    simp only [List.set_cons_succ, val, List.getD_cons_succ, ih]
    grind
theorem val_take {b : Int} : ∀ {l : List Int} {k : Nat}, k < l.length → val b (l.take (k + 1)) = val b (l.take k) + l.getD k 0 * b ^ k
  | x :: r, 0, _ => by simp [val]
  | x :: r, k + 1, h => by
    have ih := val_take (b := b) (l := r) (k := k) (by simpa using h)
    simp only [List.take_succ_cons, val, List.getD_cons_succ] at ih ⊢
    rw [ih]
    grind
theorem val_bound {b : Int} (hb : 0 < b) : ∀ {l : List Int}, Dig b l → 0 ≤ val b l ∧ val b l < b ^ l.length
  | [], _ => by simp [val]
  | x :: r, h => by
    have ih := val_bound hb (l := r) fun y hy => h y (by simp [hy])
    have hx := h x (by simp)
    have h1 : val b r + 1 ≤ b ^ r.length := by omega
    have h2 := Int.mul_le_mul_of_nonneg_left h1 (Int.le_of_lt hb)
    have h3 := Int.mul_nonneg (Int.le_of_lt hb) ih.1
    simp only [val, List.length_cons, Int.pow_succ]
    rw [Int.mul_comm (b ^ r.length) b]
    rw [Int.mul_add, Int.mul_one] at h2
    omega
theorem val_replicate (b : Int) : ∀ n, val b (List.replicate n 0) = 0
  | 0 => rfl
  | n + 1 => by simp [List.replicate_succ, val, val_replicate b n]
theorem getD_set {l : List Int} {i j : Nat} {d : Int} (h : i ≠ j) : (l.set i d).getD j 0 = l.getD j 0 := by
  simp [List.getD_eq_getElem?_getD, h]

/-- a row of the reckoning, up to digit k. -/
structure Row (b x : Int) (y : List Int) (i k : Nat) (o0 o : List Int) (c : Int) : Prop where
  len : o.length = o0.length
  dig : Dig b o
  car : 0 ≤ c ∧ c < b
  eq : val b o + c * b ^ (i + k) = val b o0 + x * val b (y.take k) * b ^ i
  up : ∀ j, i + k ≤ j → o.getD j 0 = o0.getD j 0
theorem Row.start {b x : Int} {y : List Int} {i : Nat} {o : List Int} (hb : 0 < b) (h : Dig b o) : Row b x y i 0 o o 0 := ⟨rfl, h, ⟨by omega, hb⟩, by simp [val], fun _ _ => rfl⟩
theorem Row.step {b x : Int} {y : List Int} {i k : Nat} {o0 o : List Int} {c d c' : Int} (h : Row b x y i k o0 o c) (hk : k < y.length) (hi : i + k < o.length)
    (ht : o.getD (i + k) 0 + x * y.getD k 0 + c = d + b * c') (hd : 0 ≤ d ∧ d < b) (hc : 0 ≤ c' ∧ c' < b) : Row b x y i (k + 1) o0 (o.set (i + k) d) c' := by
  refine ⟨by simp [h.len], h.dig.set hd, hc, ?_, fun j hj => ?_⟩
  · rw [val_set hi, val_take hk]
    have e := h.eq
    rw [show i + (k + 1) = i + k + 1 by omega, Int.pow_succ]
    rw [Int.pow_add] at e ⊢
    generalize val b o = vo at *
    generalize val b o0 = v0 at *
    generalize val b (y.take k) = s at *
    generalize o.getD (i + k) 0 = oo at *
    generalize y.getD k 0 = yk at *
    generalize b ^ i = p at *
    generalize b ^ k = q at *
    grind
  · rw [getD_set (by omega)]
    exact h.up j (by omega)
/-- rows done. -/
structure Rows (b : Int) (x y : List Int) (i : Nat) (o : List Int) : Prop where
  len : o.length = x.length + y.length
  dig : Dig b o
  eq : val b o = val b (x.take i) * val b y
  up : ∀ j, i + y.length ≤ j → o.getD j 0 = 0
theorem Rows.start {b : Int} (hb : 0 < b) {x y : List Int} {n : Nat} (hn : n = x.length + y.length) : Rows b x y 0 (List.replicate n 0) :=
  ⟨by simp [hn], fun z hz => by have := List.eq_of_mem_replicate hz; omega, by simp [val, val_replicate], fun j _ => by
    simp only [List.getD_eq_getElem?_getD, List.getElem?_replicate]; split <;> rfl⟩
theorem Rows.step {b : Int} {x y : List Int} {i : Nat} {o0 o : List Int} {c : Int} (h : Rows b x y i o0) (hi : i < x.length) (r : Row b (x.getD i 0) y i y.length o0 o c) : Rows b x y (i + 1) (o.set (i + y.length) c) := by
  have hl : o.length = x.length + y.length := by rw [r.len, h.len]
  refine ⟨by simpa using hl, r.dig.set r.car, ?_, fun j hj => ?_⟩
  · rw [val_set (by omega), r.up _ (Nat.le_refl _), h.up _ (Nat.le_refl _), val_take hi]
    have e := r.eq
    rw [h.eq, List.take_length] at e
    generalize val b o = vo at *
    generalize val b (x.take i) = s at *
    generalize val b y = vy at *
    generalize b ^ i = p at *
    generalize b ^ (i + y.length) = q at *
    grind
  · rw [getD_set (by omega), r.up j (by omega)]
    exact h.up j (by omega)
theorem Rows.all {b : Int} {x y o : List Int} (h : Rows b x y x.length o) : val b o = val b x * val b y := by rw [h.eq, List.take_length]

theorem V_val {l : List Int} (h : l.length = 4) : V l = val 18446744073709551616 l := by
  match l, h with
  | [a, b, c, d], _ => simp only [V, val]; omega
theorem W4.dig {l : List Int} (h : W4 l) : Dig 18446744073709551616 l := h.2
theorem or_zero {a b : Int} (ha : 0 ≤ a) (ka : a < 18446744073709551616) (hb : 0 ≤ b) (kb : b < 18446744073709551616) : (0 ≤ ibits .or .u64 a b ∧ ibits .or .u64 a b < 18446744073709551616) ∧ (ibits .or .u64 a b = 0 ↔ a = 0 ∧ b = 0) := by
  rw [or_u64 ha ka hb kb]
  have h1 := Nat.or_lt_two_pow (x := a.toNat) (y := b.toNat) (n := 64) (by omega) (by omega)
  refine ⟨by omega, ?_⟩
  have h2 : a.toNat ||| b.toNat = 0 ↔ a.toNat = 0 ∧ b.toNat = 0 := Nat.or_eq_zero_iff
  omega
end Go.Abs.Pure
end

section
set_option linter.unusedVariables false
set_option linter.unusedSimpArgs false
namespace Go.Abs.Pure
open Go Go.Abs

theorem product_step {α : Type} (mk : Int → Int → Int → List Int → List Int → List Int → List Int → α) (n : Nat) (rc : Int → Int → Int → Int → List Int → List Int → List Int → List Int → Option α) (k i : Nat) (hk : k < 4) (hi : i < 4) (c i3 : Int) (x y o o' : List Int)
    (hc : 0 ≤ c ∧ c < 18446744073709551616) (hx : 0 ≤ x.getD i 0 ∧ x.getD i 0 < 18446744073709551616) (hy : 0 ≤ y.getD k 0 ∧ y.getD k 0 < 18446744073709551616) (ho : 0 ≤ o.getD (i + k) 0 ∧ o.getD (i + k) 0 < 18446744073709551616) :
    ∃ d c', (0 ≤ d ∧ d < 18446744073709551616) ∧ (0 ≤ c' ∧ c' < 18446744073709551616) ∧ o.getD (i + k) 0 + x.getD i 0 * y.getD k 0 + c = d + 18446744073709551616 * c' ∧
    word_product.l7_0.r mk n rc (k : Int) (i : Int) c i3 x y o o' = rc ((k + 1 : Nat) : Int) (i : Int) c' i3 x y (o.set (i + k) d) o' := by
  have h1 : (decide ((k : Int) < 4)) = true := by simp; omega
  have g1 : (0 : Int) ≤ (i : Int) := by omega
  have g2 : (i : Int) < 4 := by omega
  have g3 : (0 : Int) ≤ (k : Int) := by omega
  have g4 : (k : Int) < 4 := by omega
  have w : IntKind.wrap .i64 ((i : Int) + (k : Int)) = ((i + k : Nat) : Int) := by rw [wi64]; omega
  have g5 : (0 : Int) ≤ ((i + k : Nat) : Int) := by omega
  have g6 : ((i + k : Nat) : Int) < 8 := by omega
  have w1 : IntKind.wrap .i64 ((k : Int) + 1) = ((k + 1 : Nat) : Int) := by rw [wi64]; omega
  simp only [word_product.l7_0.r, h1, g1, g2, g3, g4, w, g5, g6, w1, if_true, eq_self_iff_true, Int.toNat_natCast]
  rw [bits_Mul64_ok hx hy]
  have hp := mul_bound hx.1 (show x.getD i 0 ≤ 18446744073709551615 by omega) hy.1 (show y.getD k 0 ≤ 18446744073709551615 by omega)
  simp only [bindO, Option.bind_some, bits_Add64.m]
  generalize x.getD i 0 * y.getD k 0 = p at *
  generalize o.getD (i + k) 0 = oo at *
  rw [xAdd64_some (by omega) hc.1 (by omega) (by omega)]
  simp only [Option.bind_some]
  rw [xAdd64_some ho.1 (by omega) (by omega) (by omega)]
  simp only [Option.bind_some, wu64]
  refine ⟨_, _, ?_, ?_, ?_, rfl⟩ <;> omega
theorem product_inner {α : Type} (mk : Int → Int → Int → List Int → List Int → List Int → List Int → α) (n : Nat) {x y : List Int} (hx : W4 x) (hy : W4 y) {i : Nat} (hi : i < 4) (i3 : Int) {o0 : List Int} (hl : o0.length = 8) (o' : List Int) :
    ∀ (r k m : Nat) (o : List Int) (c : Int), k + r = 4 → r + 1 ≤ m → Row 18446744073709551616 (x.getD i 0) y i k o0 o c →
      ∃ o2 c2, Row 18446744073709551616 (x.getD i 0) y i 4 o0 o2 c2 ∧ word_product.l7_0.g mk n m (k : Int) (i : Int) c i3 x y o o' = some (mk (i : Int) c2 i3 o2 x y o')
  | 0, k, m + 1, o, c, hk, hm, R => by
    have : k = 4 := by omega
    subst this
    exact ⟨o, c, R, rfl⟩
  | r + 1, k, m + 1, o, c, hk, hm, R => by
    have hlo : o.length = 8 := by rw [R.len, hl]
    have hxl : x.length = 4 := hx.1
    have hyl : y.length = 4 := hy.1
    obtain ⟨d, c', hd, hc', he, hs⟩ := product_step mk n (fun y0 y1 y2 y3 y4 y5 y6 y7 => word_product.l7_0.g mk n m y0 y1 y2 y3 y4 y5 y6 y7) k i (by omega) hi c i3 x y o o' R.car (hx.dig.getD (by omega)) (hy.dig.getD (by omega)) (R.dig.getD (by omega))
    obtain ⟨o2, c2, h1, h2⟩ := product_inner mk n hx hy hi i3 hl o' r (k + 1) m _ _ (by omega) (by omega) (R.step (by omega) (by omega) he hd hc')
    exact ⟨o2, c2, h1, hs.trans h2⟩
theorem product_outer {n : Nat} (hn : 100 ≤ n) {x y : List Int} (hx : W4 x) (hy : W4 y) (o' : List Int) : ∀ (r i m : Nat) (o : List Int), i + r = 4 → r + 1 ≤ m → Rows 18446744073709551616 x y i o →
      ∃ o2, Rows 18446744073709551616 x y 4 o2 ∧ word_product.l3_0.g (fun a0 a1 => (a0, a1)) n m (i : Int) x y o o' = some (o2, o')
  | 0, i, m + 1, o, hk, hm, R => by
    have : i = 4 := by omega
    subst this
    exact ⟨o, R, rfl⟩
  | r + 1, i, m + 1, o, hk, hm, R => by
    have hxl : x.length = 4 := hx.1
    have hyl : y.length = 4 := hy.1
    obtain ⟨o2, c2, h1, h2⟩ := product_inner (fun a0 a1 a2 a3 a4 a5 a6 => (a0, a1, a2, a3, a4, a5, a6)) n hx hy (i := i) (by omega) (i : Int) (o0 := o) (by rw [R.len]; omega) o' 4 0 n o 0 (by omega) (by omega) (Row.start (by omega) R.dig)
    rw [show (4 : Nat) = y.length from hyl.symm] at h1
    obtain ⟨o3, k1, k2⟩ := product_outer hn hx hy o' r (i + 1) m _ (by omega) (by omega) (R.step (by omega) h1)
    refine ⟨o3, k1, ?_⟩
    rw [← k2]
    have g1 : (decide ((i : Int) < 4)) = true := by simp; omega
    have w : IntKind.wrap .i64 ((i : Int) + 4) = ((i + y.length : Nat) : Int) := by rw [wi64]; omega
    have w1 : IntKind.wrap .i64 ((i : Int) + 1) = ((i + 1 : Nat) : Int) := by rw [wi64]; omega
    have g5 : (0 : Int) ≤ ((i + y.length : Nat) : Int) := by omega
    have g6 : ((i + y.length : Nat) : Int) < 8 := by omega
    show word_product.l3_0.r _ n _ _ _ _ _ _ = _
    simp only [word_product.l3_0.r, g1, if_true, word_product.l7_0.m]
    rw [show ((0 : Nat) : Int) = 0 from rfl] at h2
    rw [h2]
    simp only [bindO, Option.bind_some, w, w1, g5, g6, if_true, Int.toNat_natCast]
/-- the whole product. -/
theorem word_product_ok {n : Nat} (hn : 100 ≤ n) {x y : List Int} (hx : W4 x) (hy : W4 y) : ∃ p, word_product.m n (x, y) = some p ∧ p.length = 8 ∧ Dig 18446744073709551616 p ∧ val 18446744073709551616 p = V x * V y := by
  obtain ⟨o, h1, h2⟩ := product_outer hn hx hy [0, 0, 0, 0, 0, 0, 0, 0] 4 0 n [0, 0, 0, 0, 0, 0, 0, 0] (by omega) (by omega) (Rows.start (n := 8) (by omega) (by rw [hx.1, hy.1]))
  refine ⟨o, ?_, by rw [h1.len, hx.1, hy.1], h1.dig, ?_⟩
  · simp only [word_product.m, word_product.g, word_product.l3_0.m]
    rw [show ((0 : Nat) : Int) = 0 from rfl] at h2
    rw [h2]
    rfl
  · rw [V_val hx.1, V_val hy.1]
    have := h1.eq
    rwa [show (4 : Nat) = x.length from hx.1.symm, List.take_length] at this

theorem wide_split {p : List Int} (hl : p.length = 8) (h : Dig 18446744073709551616 p) : ∃ a b c d e f g k, p = [a, b, c, d, e, f, g, k] ∧ (0 ≤ a ∧ a < 18446744073709551616) ∧ (0 ≤ b ∧ b < 18446744073709551616) ∧ (0 ≤ c ∧ c < 18446744073709551616) ∧ (0 ≤ d ∧ d < 18446744073709551616) ∧
    (0 ≤ e ∧ e < 18446744073709551616) ∧ (0 ≤ f ∧ f < 18446744073709551616) ∧ (0 ≤ g ∧ g < 18446744073709551616) ∧ (0 ≤ k ∧ k < 18446744073709551616) := by
  match p, hl with
  | [a, b, c, d, e, f, g, k], _ => exact ⟨a, b, c, d, e, f, g, k, rfl, h a (by simp), h b (by simp), h c (by simp), h d (by simp), h e (by simp), h f (by simp), h g (by simp), h k (by simp)⟩
theorem wide_val (a b c d e f g k : Int) : val 18446744073709551616 [a, b, c, d, e, f, g, k] = V [a, b, c, d] + B * V [e, f, g, k] := by
  simp only [val, V, B]; omega
theorem word_Mul_ok {n : Nat} (hn : 100 ≤ n) {x y : List Int} (hx : W4 x) (hy : W4 y) : word_Mul.m n (x, y) = some (ofV (V x * V y), decide (B ≤ V x * V y)) := by
  obtain ⟨p, h1, h2, h3, h4⟩ := word_product_ok hn hx hy
  obtain ⟨a, b, c, d, e, f, g, k, rfl, ha, hb, hc, hd, he, hf, hg, hk⟩ := wide_split h2 h3
  rw [wide_val] at h4
  simp only [word_Mul.m, word_Mul.g, h1, bindO, Option.bind_some, List.drop_zero, List.take_succ_cons, List.take_zero, List.getD_cons_zero, List.getD_cons_succ]
  rw [digits (V [e, f, g, k]) ha hb hc hd h4.symm]
  have o1 := or_zero he.1 he.2 hf.1 hf.2
  have o2 := or_zero o1.1.1 o1.1.2 hg.1 hg.2
  have o3 := or_zero o2.1.1 o2.1.2 hk.1 hk.2
  have hr := V_range (.mk ha hb hc hd)
  have : (ibits .or .u64 (ibits .or .u64 (ibits .or .u64 e f) g) k != 0) = decide (B ≤ V x * V y) := by
    rw [Bool.eq_iff_iff]
    simp only [bne_iff_ne, decide_eq_true_eq, ne_eq]
    rw [o3.2, o2.2, o1.2, ← h4]
    generalize V [a, b, c, d] = v at *
    simp only [V, B] at *
    omega
  rw [this]

/-! ### The document's -/
theorem halves_unroll (k : Nat) (a b c d : Int) : q01_halves.m (k + 9) [a, b, c, d] = some [ibits .and .u64 (ishr .u64 a 0) 4294967295, ibits .and .u64 (ishr .u64 a 32) 4294967295, ibits .and .u64 (ishr .u64 b 0) 4294967295, ibits .and .u64 (ishr .u64 b 32) 4294967295,
    ibits .and .u64 (ishr .u64 c 0) 4294967295, ibits .and .u64 (ishr .u64 c 32) 4294967295, ibits .and .u64 (ishr .u64 d 0) 4294967295, ibits .and .u64 (ishr .u64 d 32) 4294967295] := by kernel_rfl
theorem half_lo {a : Int} (h : 0 ≤ a ∧ a < 18446744073709551616) : ibits .and .u64 (ishr .u64 a 0) 4294967295 = a % 4294967296 := by
  rw [show (0 : Int) = ((0 : Nat) : Int) from rfl, ishr_ofNat .u64 a 0 (by decide)]
  have := and_mask (a := a / 2 ^ 0) (by simp; omega) (by simp; omega) 32 (by omega)
  simpa using this
theorem half_hi {a : Int} (h : 0 ≤ a ∧ a < 18446744073709551616) : ibits .and .u64 (ishr .u64 a 32) 4294967295 = a / 4294967296 := by
  rw [show (32 : Int) = ((32 : Nat) : Int) from rfl, ishr_ofNat .u64 a 32 (by decide)]
  have := and_mask (a := a / 2 ^ 32) (by omega) (by omega) 32 (by omega)
  rw [show (4294967295 : Int) = ((2 ^ 32 - 1 : Nat) : Int) from rfl, this]
  omega
theorem q01_halves_ok {n : Nat} (hn : 100 ≤ n) {x : List Int} (hx : W4 x) : ∃ l, q01_halves.m n x = some l ∧ l.length = 8 ∧ Dig 4294967296 l ∧ val 4294967296 l = V x := by
  obtain ⟨a, b, c, d, rfl, ha, hb, hc, hd⟩ := hx.split
  obtain ⟨k, rfl⟩ : ∃ k, n = k + 9 := ⟨n - 9, by omega⟩
  rw [halves_unroll, half_lo ha, half_hi ha, half_lo hb, half_hi hb, half_lo hc, half_hi hc, half_lo hd, half_hi hd]
  refine ⟨_, rfl, rfl, ?_, ?_⟩
  · intro z hz
    simp only [List.mem_cons, List.not_mem_nil, or_false] at hz
    omega
  · simp only [val, V]; omega
theorem q01_Mul_step {α : Type} (mk : Int → Int → List Int → List Int → List Int → List Int → α) (n : Nat) (rc : Int → Int → Int → List Int → List Int → List Int → List Int → Option α) (k i : Nat) (hk : k < 8) (hi : i < 8) (c : Int) (x y o o' : List Int)
    (hc : 0 ≤ c ∧ c < 4294967296) (hx : 0 ≤ x.getD i 0 ∧ x.getD i 0 < 4294967296) (hy : 0 ≤ y.getD k 0 ∧ y.getD k 0 < 4294967296) (ho : 0 ≤ o.getD (i + k) 0 ∧ o.getD (i + k) 0 < 4294967296) :
    ∃ d c', (0 ≤ d ∧ d < 4294967296) ∧ (0 ≤ c' ∧ c' < 4294967296) ∧ o.getD (i + k) 0 + x.getD i 0 * y.getD k 0 + c = d + 4294967296 * c' ∧
    q01_Mul.l9_0.r mk n rc (k : Int) (i : Int) c o x y o' = rc ((k + 1 : Nat) : Int) (i : Int) c' (o.set (i + k) d) x y o' := by
  have h1 : (decide ((k : Int) < 8)) = true := by simp; omega
  have g1 : (0 : Int) ≤ (i : Int) := by omega
  have g2 : (i : Int) < 8 := by omega
  have g3 : (0 : Int) ≤ (k : Int) := by omega
  have g4 : (k : Int) < 8 := by omega
  have w : IntKind.wrap .i64 ((i : Int) + (k : Int)) = ((i + k : Nat) : Int) := by rw [wi64]; omega
  have g5 : (0 : Int) ≤ ((i + k : Nat) : Int) := by omega
  have g6 : ((i + k : Nat) : Int) < 16 := by omega
  have w1 : IntKind.wrap .i64 ((k : Int) + 1) = ((k + 1 : Nat) : Int) := by rw [wi64]; omega
  simp only [q01_Mul.l9_0.r, h1, g1, g2, g3, g4, w, g5, g6, w1, if_true, eq_self_iff_true, Int.toNat_natCast, wu64]
  have hp := mul_bound hx.1 (show x.getD i 0 ≤ 4294967295 by omega) hy.1 (show y.getD k 0 ≤ 4294967295 by omega)
  generalize x.getD i 0 * y.getD k 0 = p at *
  generalize o.getD (i + k) 0 = oo at *
  rw [show ((oo + p % 18446744073709551616) % 18446744073709551616 + c) % 18446744073709551616 = oo + p + c by omega]
  have ms := and_mask (a := oo + p + c) (by omega) (by omega) 32 (by omega)
  have sh := ishr_ofNat .u64 (oo + p + c) 32 (by decide)
  rw [show ((2 ^ 32 - 1 : Nat) : Int) = 4294967295 from rfl] at ms
  rw [show ((32 : Nat) : Int) = 32 from rfl] at sh
  rw [ms, sh]
  refine ⟨_, _, ?_, ?_, ?_, rfl⟩ <;> omega
theorem q01_Mul_inner {α : Type} (mk : Int → Int → List Int → List Int → List Int → List Int → α) (n : Nat) {x y : List Int} (hxl : x.length = 8) (hx : Dig 4294967296 x) (hyl : y.length = 8) (hy : Dig 4294967296 y) {i : Nat} (hi : i < 8) {o0 : List Int} (hl : o0.length = 16) (o' : List Int) :
    ∀ (r k m : Nat) (o : List Int) (c : Int), k + r = 8 → r + 1 ≤ m → Row 4294967296 (x.getD i 0) y i k o0 o c →
      ∃ o2 c2, Row 4294967296 (x.getD i 0) y i 8 o0 o2 c2 ∧ q01_Mul.l9_0.g mk n m (k : Int) (i : Int) c o x y o' = some (mk (i : Int) c2 o2 x y o')
  | 0, k, m + 1, o, c, hk, hm, R => by
    have : k = 8 := by omega
    subst this
    exact ⟨o, c, R, rfl⟩
  | r + 1, k, m + 1, o, c, hk, hm, R => by
    have hlo : o.length = 16 := by rw [R.len, hl]
    obtain ⟨d, c', hd, hc', he, hs⟩ := q01_Mul_step mk n (fun y0 y1 y2 y3 y4 y5 y6 => q01_Mul.l9_0.g mk n m y0 y1 y2 y3 y4 y5 y6) k i (by omega) hi c x y o o' R.car (hx.getD (by omega)) (hy.getD (by omega)) (R.dig.getD (by omega))
    obtain ⟨o2, c2, h1, h2⟩ := q01_Mul_inner mk n hxl hx hyl hy hi hl o' r (k + 1) m _ _ (by omega) (by omega) (R.step (by omega) (by omega) he hd hc')
    exact ⟨o2, c2, h1, hs.trans h2⟩
theorem q01_Mul_outer {n : Nat} (hn : 100 ≤ n) {x y : List Int} (hxl : x.length = 8) (hx : Dig 4294967296 x) (hyl : y.length = 8) (hy : Dig 4294967296 y) (o' : List Int) : ∀ (r i m : Nat) (o : List Int), i + r = 8 → r + 1 ≤ m → Rows 4294967296 x y i o →
      ∃ o2, Rows 4294967296 x y 8 o2 ∧ q01_Mul.l5_0.g (fun a0 a1 => (a0, a1)) n m (i : Int) o x y o' = some (o2, o')
  | 0, i, m + 1, o, hk, hm, R => by
    have : i = 8 := by omega
    subst this
    exact ⟨o, R, rfl⟩
  | r + 1, i, m + 1, o, hk, hm, R => by
    obtain ⟨o2, c2, h1, h2⟩ := q01_Mul_inner (fun a0 a1 a2 a3 a4 a5 => (a0, a1, a2, a3, a4, a5)) n hxl hx hyl hy (i := i) (by omega) (o0 := o) (by rw [R.len]; omega) o' 8 0 n o 0 (by omega) (by omega) (Row.start (by omega) R.dig)
    rw [show (8 : Nat) = y.length from hyl.symm] at h1
    obtain ⟨o3, k1, k2⟩ := q01_Mul_outer hn hxl hx hyl hy o' r (i + 1) m _ (by omega) (by omega) (R.step (by omega) h1)
    refine ⟨o3, k1, ?_⟩
    rw [← k2]
    have g1 : (decide ((i : Int) < 8)) = true := by simp; omega
    have w : IntKind.wrap .i64 ((i : Int) + 8) = ((i + y.length : Nat) : Int) := by rw [wi64]; omega
    have w1 : IntKind.wrap .i64 ((i : Int) + 1) = ((i + 1 : Nat) : Int) := by rw [wi64]; omega
    have g5 : (0 : Int) ≤ ((i + y.length : Nat) : Int) := by omega
    have g6 : ((i + y.length : Nat) : Int) < 16 := by omega
    show q01_Mul.l5_0.r _ n _ _ _ _ _ _ = _
    simp only [q01_Mul.l5_0.r, g1, if_true, q01_Mul.l9_0.m]
    rw [show ((0 : Nat) : Int) = 0 from rfl] at h2
    rw [h2]
    simp only [bindO, Option.bind_some, w, w1, g5, g6, if_true, Int.toNat_natCast]
theorem q01_pack_step {α : Type} (mk : Bool → List Int → List Int → α) (n : Nat) (rc : Int → Bool → List Int → List Int → List Int → Option α) (i : Nat) (hi : i < 8) (g : Bool) (o l o' : List Int) :
    q01_Mul.l18_0.r mk n rc (i : Int) g o l o' = rc ((i + 1 : Nat) : Int) (g || l.getD (i + 8) 0 != 0) (o.set (i / 2) (ibits .or .u64 (o.getD (i / 2) 0) (ishl .u64 (l.getD i 0) ((i % 2 * 32 : Nat) : Int)))) l o' := by
  have h1 : (decide ((i : Int) < 8)) = true := by simp; omega
  have g1 : (0 : Int) ≤ (i : Int) := by omega
  have g2 : (i : Int) < 16 := by omega
  have w : IntKind.wrap .i64 (Int.tdiv (i : Int) 2) = ((i / 2 : Nat) : Int) := by rw [tdiv_nonneg' (by omega), wi64]; omega
  have w2 : IntKind.wrap .u64 (IntKind.wrap .i64 (Int.tmod (i : Int) 2 * 32)) = ((i % 2 * 32 : Nat) : Int) := by rw [tmod_nonneg' (by omega), wi64, wu64]; omega
  have w1 : IntKind.wrap .i64 ((i : Int) + 1) = ((i + 1 : Nat) : Int) := by rw [wi64]; omega
  have w8 : IntKind.wrap .i64 ((i : Int) + 8) = ((i + 8 : Nat) : Int) := by rw [wi64]; omega
  have g3 : (0 : Int) ≤ ((i / 2 : Nat) : Int) := by omega
  have g4 : ((i / 2 : Nat) : Int) < 4 := by omega
  have g5 : (0 : Int) ≤ ((i % 2 * 32 : Nat) : Int) := by omega
  have g6 : (0 : Int) ≤ ((i + 8 : Nat) : Int) := by omega
  have g7 : ((i + 8 : Nat) : Int) < 16 := by omega
  simp only [q01_Mul.l18_0.r, h1, g1, g2, w, w1, w2, w8, g3, g4, g5, g6, g7, if_true, eq_self_iff_true, Int.toNat_natCast]
  cases g with
  | true => simp
  | false => simp
theorem pack_two {a b : Int} (ha : 0 ≤ a ∧ a < 4294967296) (hb : 0 ≤ b ∧ b < 4294967296) : ibits .or .u64 (ibits .or .u64 0 (ishl .u64 a 0)) (ishl .u64 b 32) = a + b * 4294967296 := by
  rw [show (0 : Int) = ((0 : Nat) : Int) from rfl, ishl_ofNat .u64 a 0 (by decide), show (32 : Int) = ((32 : Nat) : Int) from rfl, ishl_ofNat .u64 b 32 (by decide), wu64, wu64]
  rw [show a * 2 ^ 0 % 18446744073709551616 = a by omega, show b * 2 ^ 32 % 18446744073709551616 = b * 4294967296 by omega]
  rw [or_u64 (a := ((0 : Nat) : Int)) (by omega) (by omega) ha.1 (by omega)]
  rw [show (((0 : Nat) : Int).toNat ||| a.toNat : Nat) = a.toNat by simp]
  rw [or_u64 (by omega) (by omega) (by omega) (by omega)]
  have : (b * 4294967296).toNat = b.toNat <<< 32 := by rw [Nat.shiftLeft_eq]; omega
  rw [this, Nat.or_comm, ← Nat.shiftLeft_add_eq_or_of_lt (by omega), Nat.shiftLeft_eq]
  omega
theorem q01_pack {n m : Nat} (hm : 9 ≤ m) {l : List Int} (hl : l.length = 16) (hd : Dig 4294967296 l) : ∃ hi, 0 ≤ hi ∧ q01_Mul.l18_0.g (fun a0 a1 a2 => (a0, a1, a2)) n m 0 false [0, 0, 0, 0] l [0, 0, 0, 0] = some (decide (B ≤ val 4294967296 l), ofV (val 4294967296 l), [0, 0, 0, 0]) := by
  obtain ⟨k, rfl⟩ : ∃ k, m = k + 9 := ⟨m - 9, by omega⟩
  match l, hl with
  | [a0, a1, a2, a3, a4, a5, a6, a7, b0, b1, b2, b3, b4, b5, b6, b7], _ =>
  have d : ∀ x ∈ [a0, a1, a2, a3, a4, a5, a6, a7, b0, b1, b2, b3, b4, b5, b6, b7], 0 ≤ x ∧ x < 4294967296 := hd
  simp only [List.mem_cons, List.not_mem_nil, or_false, forall_eq_or_imp, forall_eq] at d
  obtain ⟨h0, h1, h2, h3, h4, h5, h6, h7, k0, k1, k2, k3, k4, k5, k6, k7⟩ := d
  refine ⟨0, by omega, ?_⟩
  refine (q01_pack_step _ _ _ 0 (by omega) _ _ _ _).trans ?_
  refine (q01_pack_step _ _ _ 1 (by omega) _ _ _ _).trans ?_
  refine (q01_pack_step _ _ _ 2 (by omega) _ _ _ _).trans ?_
  refine (q01_pack_step _ _ _ 3 (by omega) _ _ _ _).trans ?_
  refine (q01_pack_step _ _ _ 4 (by omega) _ _ _ _).trans ?_
  refine (q01_pack_step _ _ _ 5 (by omega) _ _ _ _).trans ?_
  refine (q01_pack_step _ _ _ 6 (by omega) _ _ _ _).trans ?_
  refine (q01_pack_step _ _ _ 7 (by omega) _ _ _ _).trans ?_
  show some _ = some _
  simp only [List.getD_cons_zero, List.getD_cons_succ, List.set_cons_zero, List.set_cons_succ, Nat.reduceDiv, Nat.reduceMod, Nat.reduceMul, Nat.reduceAdd]
  rw [show ((0 : Nat) : Int) = 0 from rfl, show ((32 : Nat) : Int) = 32 from rfl, pack_two h0 h1, pack_two h2 h3, pack_two h4 h5, pack_two h6 h7]
  have hv : val 4294967296 [a0, a1, a2, a3, a4, a5, a6, a7, b0, b1, b2, b3, b4, b5, b6, b7] = V [a0 + a1 * 4294967296, a2 + a3 * 4294967296, a4 + a5 * 4294967296, a6 + a7 * 4294967296] + B * val 4294967296 [b0, b1, b2, b3, b4, b5, b6, b7] := by
    simp only [val, V, B]; omega
  have w4 : W4 [a0 + a1 * 4294967296, a2 + a3 * 4294967296, a4 + a5 * 4294967296, a6 + a7 * 4294967296] := .mk (by omega) (by omega) (by omega) (by omega)
  have hr := V_range w4
  rw [digits (val 4294967296 [b0, b1, b2, b3, b4, b5, b6, b7]) (by omega) (by omega) (by omega) (by omega) hv, hv]
  generalize V [a0 + a1 * 4294967296, a2 + a3 * 4294967296, a4 + a5 * 4294967296, a6 + a7 * 4294967296] = v at *
  have hf : ((((((((false || b0 != 0) || b1 != 0) || b2 != 0) || b3 != 0) || b4 != 0) || b5 != 0) || b6 != 0) || b7 != 0) = decide (B ≤ v + B * val 4294967296 [b0, b1, b2, b3, b4, b5, b6, b7]) := by
    rw [Bool.eq_iff_iff]
    simp only [Bool.false_or, Bool.or_eq_true, bne_iff_ne, decide_eq_true_eq, ne_eq]
    have hw : val 4294967296 [b0, b1, b2, b3, b4, b5, b6, b7] = 0 ↔ b0 = 0 ∧ b1 = 0 ∧ b2 = 0 ∧ b3 = 0 ∧ b4 = 0 ∧ b5 = 0 ∧ b6 = 0 ∧ b7 = 0 := by
      simp only [val]; omega
    have hw0 : 0 ≤ val 4294967296 [b0, b1, b2, b3, b4, b5, b6, b7] := by simp only [val]; omega
    generalize val 4294967296 [b0, b1, b2, b3, b4, b5, b6, b7] = z at *
    have hz : B ≤ v + B * z ↔ z ≠ 0 := by simp only [B] at hr ⊢; omega
    rw [hz]
    constructor
    · intro h hz; have := hw.1 hz; omega
    · intro h; have : ¬ (b0 = 0 ∧ b1 = 0 ∧ b2 = 0 ∧ b3 = 0 ∧ b4 = 0 ∧ b5 = 0 ∧ b6 = 0 ∧ b7 = 0) := fun e => h (hw.2 e)
      omega
  rw [hf]
theorem q01_Mul_ok {n : Nat} (hn : 100 ≤ n) {x y : List Int} (hx : W4 x) (hy : W4 y) : q01_Mul.m n (x, y) = some (ofV (V x * V y), decide (B ≤ V x * V y)) := by
  obtain ⟨u, h1, h2, h3, h4⟩ := q01_halves_ok hn hx
  obtain ⟨v, g1, g2, g3, g4⟩ := q01_halves_ok hn hy
  obtain ⟨o, k1, k2⟩ := q01_Mul_outer hn h2 h3 g2 g3 [0, 0, 0, 0] 8 0 n [0, 0, 0, 0, 0, 0, 0, 0, 0, 0, 0, 0, 0, 0, 0, 0] (by omega) (by omega) (Rows.start (n := 16) (by omega) (by rw [h2, g2]))
  have hl : o.length = 16 := by rw [k1.len, h2, g2]
  have hv : val 4294967296 o = V x * V y := by
    have := k1.eq
    rwa [show (8 : Nat) = u.length from h2.symm, List.take_length, h4, g4] at this
  obtain ⟨_, _, p⟩ := q01_pack (n := n) (m := n) (by omega) hl k1.dig
  simp only [q01_Mul.m, q01_Mul.g, h1, g1, bindO, Option.bind_some, q01_Mul.l5_0.m, q01_Mul.l18_0.m]
  rw [show ((0 : Nat) : Int) = 0 from rfl] at k2
  rw [k2]
  simp only [Option.bind_some]
  rw [p]
  simp only [Option.bind_some, hv]
end Go.Abs.Pure
end

section
set_option linter.unusedVariables false
set_option linter.unusedSimpArgs false
namespace Go.Abs.Pure
open Go Go.Abs
/-- 2 ^ 255. -/
def H : Int := 57896044618658097711785492504343953926634992332820282019728792003956564819968
/-- a signed word's number. -/
def S (x : List Int) : Int := if V x < H then V x else V x - B
theorem cmpOf_shift (x y d : Int) : cmpOf (x + d) (y + d) = cmpOf x y := by
  unfold cmpOf
  repeat' split
  all_goals omega
theorem nat_xor_top {a : Nat} (h : a < 2 ^ 63) : a ^^^ 2 ^ 63 = a + 2 ^ 63 := by
  apply Nat.eq_of_testBit_eq
  intro i
  rw [Nat.testBit_xor, Nat.add_comm]
  rcases Nat.lt_trichotomy i 63 with hi | rfl | hi
  · rw [Nat.testBit_two_pow_add_gt hi, Nat.testBit_two_pow_of_ne (by omega), Bool.xor_false]
  · rw [Nat.testBit_two_pow_add_eq, Nat.testBit_two_pow_self, Bool.xor_true]
  · have h1 : 2 ^ 64 ≤ 2 ^ i := Nat.pow_le_pow_right (by omega) (by omega)
    rw [Nat.testBit_two_pow_of_ne (by omega), Bool.xor_false, Nat.testBit_lt_two_pow (by omega), Nat.testBit_lt_two_pow (by omega)]
theorem xor_top {a : Int} (h : 0 ≤ a ∧ a < 18446744073709551616) : ibits .xor .u64 a 9223372036854775808 = if a < 9223372036854775808 then a + 9223372036854775808 else a - 9223372036854775808 := by
  rw [xor_u64 h.1 h.2 (by omega) (by omega), show Int.toNat 9223372036854775808 = 2 ^ 63 from rfl]
  split
  · rw [nat_xor_top (by omega)]; omega
  · obtain ⟨k, hk, hk2⟩ : ∃ k : Nat, a.toNat = k + 2 ^ 63 ∧ k < 2 ^ 63 := ⟨a.toNat - 2 ^ 63, by omega, by omega⟩
    rw [hk, ← nat_xor_top hk2, Nat.xor_assoc, Nat.xor_self, Nat.xor_zero]
    omega
theorem turn_top {x : List Int} (hx : W4 x) : W4 (List.set x 3 (ibits .xor .u64 (List.getD x 3 0) 9223372036854775808)) ∧ V (List.set x 3 (ibits .xor .u64 (List.getD x 3 0) 9223372036854775808)) = S x + H := by
  obtain ⟨a, b, c, d, rfl, ha, hb, hc, hd⟩ := hx.split
  simp only [List.getD_cons_zero, List.getD_cons_succ, List.set_cons_zero, List.set_cons_succ]
  rw [xor_top hd]
  split
  · refine ⟨.mk ha hb hc (by omega), ?_⟩
    have hh : V [a, b, c, d] < H := by simp only [V, H]; omega
    rw [S, if_pos hh]
    simp only [V, H]
    omega
  · refine ⟨.mk ha hb hc (by omega), ?_⟩
    have hh : ¬ V [a, b, c, d] < H := by simp only [V, H]; omega
    rw [S, if_neg hh]
    simp only [V, H, B]
    omega
theorem word_Cmp_ok {n : Nat} (hn : 100 ≤ n) {x y : List Int} (hx : W4 x) (hy : W4 y) : word_Cmp.m n (x, y) = some (cmpOf (V x) (V y)) := by
  simp only [word_Cmp.m, word_Cmp.g, word_Sub_ok hn hx hy, bindO, Option.bind_some, beq_V hx hy, decide_eq_true_eq]
  unfold cmpOf
  split
  · rfl
  split <;> rfl
theorem word_Scmp_ok {n : Nat} (hn : 100 ≤ n) {x y : List Int} (hx : W4 x) (hy : W4 y) : word_Scmp.m n (x, y) = some (cmpOf (S x) (S y)) := by
  simp only [word_Scmp.m, word_Scmp.g]
  rw [word_Cmp_ok hn (turn_top hx).1 (turn_top hy).1, (turn_top hx).2, (turn_top hy).2, cmpOf_shift]
  rfl
theorem word_negative_ok {n : Nat} {x : List Int} (hx : W4 x) : word_negative.m n x = some (decide (H ≤ V x)) := by
  obtain ⟨a, b, c, d, rfl, ha, hb, hc, hd⟩ := hx.split
  simp only [word_negative.m, word_negative.g, List.getD_cons_zero, List.getD_cons_succ, wi64]
  congr 1
  rw [Bool.eq_iff_iff]
  simp only [decide_eq_true_eq]
  simp only [V, H]
  omega
theorem q01_neg_ok {n : Nat} {x : List Int} (hx : W4 x) : q01_neg.m n x = some (decide (H ≤ V x)) := by
  obtain ⟨a, b, c, d, rfl, ha, hb, hc, hd⟩ := hx.split
  simp only [q01_neg.m, q01_neg.g, List.getD_cons_zero, List.getD_cons_succ]
  congr 1
  rw [show (63 : Int) = ((63 : Nat) : Int) from rfl, ishr_ofNat .u64 d 63 (by decide), Bool.eq_iff_iff]
  simp only [beq_iff_eq, decide_eq_true_eq]
  simp only [V, H]
  omega
theorem word_minus_ok {n : Nat} (hn : 100 ≤ n) {x : List Int} (hx : W4 x) : word_minus.m n x = some (ofV (- V x)) := by
  simp only [word_minus.m, word_minus.g]
  rw [word_Sub_ok hn (.mk (by omega) (by omega) (by omega) (by omega)) hx]
  simp only [bindO, Option.bind_some]
  rw [show V [0, 0, 0, 0] - V x = - V x by simp only [V]; omega]
/-- a signed word without its sign. -/
def absV (x : List Int) : List Int := if H ≤ V x then ofV (- V x) else x
theorem absV_W4 {x : List Int} (hx : W4 x) : W4 (absV x) := by unfold absV; split; exact ofV_W4 _; exact hx
theorem word_abs_ok {n : Nat} (hn : 100 ≤ n) {x : List Int} (hx : W4 x) : word_abs.m n x = some (absV x) := by
  simp only [word_abs.m, word_abs.g, word_negative_ok hx, word_minus_ok hn hx, bindO, Option.bind_some, decide_eq_true_eq, absV]
  split <;> rfl
theorem q01_size_ok {n : Nat} (hn : 100 ≤ n) {x : List Int} (hx : W4 x) : q01_size.m n x = some (absV x) := by
  simp only [q01_size.m, q01_size.g, q01_neg_ok hx, q01_Neg_ok hn hx, bindO, Option.bind_some, decide_eq_true_eq, absV]
  split <;> rfl
theorem q01_Sub_ok {n : Nat} (hn : 100 ≤ n) {x y : List Int} (hx : W4 x) (hy : W4 y) : q01_Sub.m n (x, y) = some (ofV (V x - V y), decide (V x < V y)) := by
  simp only [q01_Sub.m, q01_Sub.g, q01_Neg_ok hn hy, q01_Cmp_ok hn hx hy, bindO, Option.bind_some]
  rw [q01_Add_ok hn hx (ofV_W4 _)]
  simp only [Option.bind_some, V_ofV]
  rw [ofV_congr (x := V x + - V y % B) (y := V x - V y) (by rw [Int.add_emod_emod]; rfl)]
  have : decide (cmpOf (V x) (V y) < 0) = decide (V x < V y) := by
    unfold cmpOf
    rw [Bool.eq_iff_iff]
    simp only [decide_eq_true_eq]
    split
    · omega
    split <;> omega
  rw [this]
theorem q01_Scmp_ok {n : Nat} (hn : 100 ≤ n) {x y : List Int} (hx : W4 x) (hy : W4 y) : q01_Scmp.m n (x, y) = some (cmpOf (S x) (S y)) := by
  have rx := V_range hx
  have ry := V_range hy
  simp only [q01_Scmp.m, q01_Scmp.g, q01_neg_ok hx, q01_neg_ok hy, q01_Cmp_ok hn hx hy, bindO, Option.bind_some]
  by_cases h1 : H ≤ V x <;> by_cases h2 : H ≤ V y
  · simp only [h1, h2, decide_true, if_true, Bool.not_true, Bool.false_eq_true, if_false]
    simp only [S, show ¬ V x < H by omega, show ¬ V y < H by omega, if_false]
    rw [show V x - B = V x + (- B) by omega, show V y - B = V y + (- B) by omega, cmpOf_shift]
  · simp only [h1, h2, decide_true, decide_false, if_true, Bool.not_false, S, show ¬ V x < H by omega, show V y < H by omega, if_false]
    rw [cmpOf, if_pos (by simp only [B] at *; omega)]
  · simp only [h1, h2, decide_true, decide_false, if_true, Bool.not_false, S, show V x < H by omega, show ¬ V y < H by omega, if_false, Bool.false_eq_true]
    rw [cmpOf, if_neg (by simp only [B] at *; omega), if_neg (by simp only [B] at *; omega)]
  · simp only [h1, h2, decide_false, Bool.false_eq_true, if_false, S, show V x < H by omega, show V y < H by omega, if_true]
end Go.Abs.Pure
end

section
set_option maxRecDepth 100000
namespace Go.Abs.Pure
open Go Go.Abs
theorem known_ok : l01_known.m 600 () = some true := by kernel_rfl
end Go.Abs.Pure
end

section
set_option linter.unusedVariables false
set_option linter.unusedSimpArgs false
set_option maxRecDepth 20000
namespace Go.Abs.Pure
open Go Go.Abs
theorem cmp_ge (x y : Int) : (cmpOf x y ≥ 0) = (y ≤ x) := by
  unfold cmpOf
  apply propext
  split
  · omega
  split <;> omega
theorem cmp_lt (x y : Int) : (cmpOf x y < 0) = (x < y) := by
  unfold cmpOf
  apply propext
  split
  · omega
  split <;> omega
theorem cmp_turn (x y : Int) : (cmpOf x y == IntKind.wrap .i64 (0 - cmpOf y x)) = true := by
  have h : -1 ≤ cmpOf y x ∧ cmpOf y x ≤ 1 := by
    unfold cmpOf
    split
    · omega
    split <;> omega
  rw [wi64_id (by omega) (by omega)]
  simp only [beq_iff_eq]
  unfold cmpOf
  repeat' split
  all_goals omega
theorem hi_bit {a : List Int} (ha : W4 a) : ishr .u64 (a.getD 3 0) 63 = if H ≤ V a then 1 else 0 := by
  obtain ⟨a0, a1, a2, a3, rfl, h0, h1, h2, h3⟩ := ha.split
  simp only [List.getD_cons_zero, List.getD_cons_succ]
  rw [show (63 : Int) = ((63 : Nat) : Int) from rfl, ishr_ofNat .u64 a3 63 (by decide)]
  have e : H ≤ V [a0, a1, a2, a3] ↔ 9223372036854775808 ≤ a3 := by simp only [V, H]; omega
  by_cases h : 9223372036854775808 ≤ a3
  · rw [if_pos (e.2 h)]; omega
  · rw [if_neg (fun k => h (e.1 k))]; omega
theorem WordOrder (a : List Int) (ha : InA .u64 4 a) (b : List Int) (hb : InA .u64 4 b) (c : List Int) (hc : InA .u64 4 c) : ∃ n, l01_WordOrder.m n (a, b, c) = some true := by
  have x := W4.of ha
  have y := W4.of hb
  have z := W4.of hc
  have ra := V_range x
  have rb := V_range y
  have n : 100 ≤ 600 := by omega
  refine ⟨600, ?_⟩
  have e3 : ((cmpOf (V a) (V b) == 0) == (a == b)) = true := by
    rw [beq_V x y]
    have : (cmpOf (V a) (V b) == 0) = decide (V a = V b) := by
      rw [Bool.eq_iff_iff]
      simp only [beq_iff_eq, decide_eq_true_eq]
      unfold cmpOf
      split
      · omega
      split <;> omega
    rw [this, beq_self_eq_true]
  have fin : (!((cmpOf (S a) (S b) == cmpOf (V a) (V b)) == (ishr .u64 (a.getD 3 0) 63 != ishr .u64 (b.getD 3 0) 63))) = true := by
    rw [hi_bit x, hi_bit y]
    by_cases h1 : H ≤ V a <;> by_cases h2 : H ≤ V b
    · rw [show S a = V a + (- B) by unfold S; rw [if_neg (by omega)]; omega, show S b = V b + (- B) by unfold S; rw [if_neg (by omega)]; omega, cmpOf_shift]
      simp [h1, h2]
    · have : (cmpOf (S a) (S b) == cmpOf (V a) (V b)) = false := by
        rw [show S a = V a - B by unfold S; rw [if_neg (by omega)], show S b = V b by unfold S; rw [if_pos (by omega)]]
        rw [cmpOf, if_pos (by simp only [B, H] at *; omega), cmpOf, if_neg (by omega), if_neg (by omega)]
        rfl
      rw [this]
      simp [h1, h2]
    · have : (cmpOf (S a) (S b) == cmpOf (V a) (V b)) = false := by
        rw [show S b = V b - B by unfold S; rw [if_neg (by omega)], show S a = V a by unfold S; rw [if_pos (by omega)]]
        rw [cmpOf, if_neg (by simp only [B, H] at *; omega), if_neg (by simp only [B, H] at *; omega), cmpOf, if_pos (by omega)]
        rfl
      rw [this]
      simp [h1, h2]
    · rw [show S a = V a by unfold S; rw [if_pos (by omega)], show S b = V b by unfold S; rw [if_pos (by omega)]]
      simp [h1, h2]
  simp only [l01_WordOrder.m, l01_WordOrder.g, word_Cmp_ok n x y, word_Cmp_ok n y x, word_Scmp_ok n x y, word_Scmp_ok n y x, word_Cmp_ok n y z, word_Cmp_ok n x z, word_Scmp_ok n y z, word_Scmp_ok n x z, known_ok, bindO, Option.bind_some, cmp_turn, e3, fin, cmp_ge, cmp_lt, decide_eq_true_eq, if_true]
  repeat' split
  all_goals first
    | rfl
    | omega
end Go.Abs.Pure
end
