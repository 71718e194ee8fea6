/- Plain laws about what the functions compute. Conditions: the arguments' bounds, as each theorem says. -/
import Derived.Test.YtaageoambenggaaBinD1
import Derived.Test.YtaageoambenggaaAbsD6
import Derived.Test.YtaageoambenggaaFnCalcSides1
import Derived.Test.YtaageoambenggaaFnCalcSides2
import Derived.Test.YtaageoambenggaaFnCalcSides3
import Derived.Test.YtaageoambenggaaFnCalcSides4
section
set_option linter.unusedVariables false
namespace Go.Abs.Pure
open Go Go.Abs
def W4 (l : List Int) : Prop := l.length = 4 ∧ ∀ x ∈ l, 0 ≤ x ∧ x < 18446744073709551616
theorem W4.split {l : List Int} (h : W4 l) : ∃ a b c d, l = [a, b, c, d] ∧ (0 ≤ a ∧ a < 18446744073709551616) ∧ (0 ≤ b ∧ b < 18446744073709551616) ∧ (0 ≤ c ∧ c < 18446744073709551616) ∧ (0 ≤ d ∧ d < 18446744073709551616) := by
  obtain ⟨h1, h2⟩ := h
  match l, h1 with
  | [a, b, c, d], _ => exact ⟨a, b, c, d, rfl, h2 a (by simp), h2 b (by simp), h2 c (by simp), h2 d (by simp)⟩
theorem W4.mk {a b c d : Int} (ha : 0 ≤ a ∧ a < 18446744073709551616) (hb : 0 ≤ b ∧ b < 18446744073709551616) (hc : 0 ≤ c ∧ c < 18446744073709551616) (hd : 0 ≤ d ∧ d < 18446744073709551616) : W4 [a, b, c, d] :=
  ⟨rfl, by simp; exact ⟨ha, hb, hc, hd⟩⟩
theorem lo8 {x : Int} (h : InK .u8 x) : 0 ≤ x := h.1
theorem hi8 {x : Int} (h : InK .u8 x) : x < 256 := by have := h.2; simp [IntKind.max, IntKind.bits, IntKind.signed] at this; omega
theorem lo64 {x : Int} (h : InK .u64 x) : 0 ≤ x := h.1
theorem hi64 {x : Int} (h : InK .u64 x) : x < 18446744073709551616 := by have := h.2; simp [IntKind.max, IntKind.bits, IntKind.signed] at this; omega
theorem W4.of {l : List Int} (h : InA .u64 4 l) : W4 l := ⟨h.1, fun x hx => ⟨lo64 (h.2 x hx), hi64 (h.2 x hx)⟩⟩
def V : List Int → Int
  | [a, b, c, d] => a + b * 18446744073709551616 + c * 340282366920938463463374607431768211456 + d * 6277101735386680763835789423207666416102355444464034512896
  | _ => 0
def B : Int := 115792089237316195423570985008687907853269984665640564039457584007913129639936
def ofV (x : Int) : List Int := [x % 18446744073709551616, x / 18446744073709551616 % 18446744073709551616, x / 340282366920938463463374607431768211456 % 18446744073709551616, x / 6277101735386680763835789423207666416102355444464034512896 % 18446744073709551616]
theorem ofV_W4 (x : Int) : W4 (ofV x) := .mk (by omega) (by omega) (by omega) (by omega)
theorem V_ofV (x : Int) : V (ofV x) = x % B := by simp only [V, ofV, B]; omega
theorem V_range {l : List Int} (h : W4 l) : 0 ≤ V l ∧ V l < B := by
  obtain ⟨a, b, c, d, rfl, ha, hb, hc, hd⟩ := h.split
  simp only [V, B]; omega
theorem eq_ofV {l : List Int} (h : W4 l) {x : Int} (hx : V l = x % B) : l = ofV x := by
  obtain ⟨a, b, c, d, rfl, ha, hb, hc, hd⟩ := h.split
  simp only [V, B] at hx
  simp only [ofV, List.cons.injEq, and_true]
  refine ⟨?_, ?_, ?_, ?_⟩ <;> omega
theorem digits {a b c d t : Int} (q : Int) (ha : 0 ≤ a ∧ a < 18446744073709551616) (hb : 0 ≤ b ∧ b < 18446744073709551616) (hc : 0 ≤ c ∧ c < 18446744073709551616) (hd : 0 ≤ d ∧ d < 18446744073709551616) (h : t = V [a, b, c, d] + B * q) : [a, b, c, d] = ofV t := by
  have r := V_range (.mk ha hb hc hd)
  refine eq_ofV (.mk ha hb hc hd) ?_
  rw [h, Int.add_mul_emod_self_left, Int.emod_eq_of_lt r.1 r.2]
theorem sum_parts {a b c d e f g h : Int} (ha : 0 ≤ a ∧ a < 18446744073709551616) (hb : 0 ≤ b ∧ b < 18446744073709551616) (hc : 0 ≤ c ∧ c < 18446744073709551616) (hd : 0 ≤ d ∧ d < 18446744073709551616) (he : 0 ≤ e ∧ e < 18446744073709551616) (hf : 0 ≤ f ∧ f < 18446744073709551616) (hg : 0 ≤ g ∧ g < 18446744073709551616) (hh : 0 ≤ h ∧ h < 18446744073709551616) :
    ∃ q0 q1 q2 q3 : Int, (a + e + 0) / 18446744073709551616 = q0 ∧ (b + f + q0) / 18446744073709551616 = q1 ∧ (c + g + q1) / 18446744073709551616 = q2 ∧ (d + h + q2) / 18446744073709551616 = q3 ∧ (0 ≤ q0 ∧ q0 ≤ 1) ∧ (0 ≤ q1 ∧ q1 ≤ 1) ∧ (0 ≤ q2 ∧ q2 ≤ 1) ∧ (0 ≤ q3 ∧ q3 ≤ 1) ∧
      [(a + e + 0) % 18446744073709551616, (b + f + q0) % 18446744073709551616, (c + g + q1) % 18446744073709551616, (d + h + q2) % 18446744073709551616] = ofV (V [a, b, c, d] + V [e, f, g, h]) ∧ (q3 = 1 ↔ B ≤ V [a, b, c, d] + V [e, f, g, h]) := by
  refine ⟨_, _, _, _, rfl, rfl, rfl, rfl, ?_⟩
  generalize h0 : (a + e + 0) / 18446744073709551616 = q0
  have k0 : 0 ≤ q0 ∧ q0 ≤ 1 := by omega
  generalize h1 : (b + f + q0) / 18446744073709551616 = q1
  have k1 : 0 ≤ q1 ∧ q1 ≤ 1 := by omega
  generalize h2 : (c + g + q1) / 18446744073709551616 = q2
  have k2 : 0 ≤ q2 ∧ q2 ≤ 1 := by omega
  generalize h3 : (d + h + q2) / 18446744073709551616 = q3
  have k3 : 0 ≤ q3 ∧ q3 ≤ 1 := by omega
  generalize e0 : (a + e + 0) % 18446744073709551616 = d0
  generalize e1 : (b + f + q0) % 18446744073709551616 = d1
  generalize e2 : (c + g + q1) % 18446744073709551616 = d2
  generalize e3 : (d + h + q2) % 18446744073709551616 = d3
  have f0 : a + e = d0 + 18446744073709551616 * q0 ∧ 0 ≤ d0 ∧ d0 < 18446744073709551616 := by omega
  have f1 : b + f + q0 = d1 + 18446744073709551616 * q1 ∧ 0 ≤ d1 ∧ d1 < 18446744073709551616 := by omega
  have f2 : c + g + q1 = d2 + 18446744073709551616 * q2 ∧ 0 ≤ d2 ∧ d2 < 18446744073709551616 := by omega
  have f3 : d + h + q2 = d3 + 18446744073709551616 * q3 ∧ 0 ≤ d3 ∧ d3 < 18446744073709551616 := by omega
  clear h0 h1 h2 h3 e0 e1 e2 e3
  have hs : V [a, b, c, d] + V [e, f, g, h] = V [d0, d1, d2, d3] + B * q3 := by
    simp only [V, B]; omega
  have hr := V_range (.mk f0.2 f1.2 f2.2 f3.2)
  refine ⟨k0, k1, k2, k3, digits q3 f0.2 f1.2 f2.2 f3.2 hs, ?_⟩
  rw [hs]
  generalize V [d0, d1, d2, d3] = v at *
  simp only [B] at *
  omega
theorem ofV_V {l : List Int} (h : W4 l) : ofV (V l) = l := by
  obtain ⟨h0, h1⟩ := V_range h
  exact (eq_ofV h (by rw [Int.emod_eq_of_lt h0 h1])).symm
theorem V_inj {a b : List Int} (ha : W4 a) (hb : W4 b) (h : V a = V b) : a = b := by rw [← ofV_V ha, ← ofV_V hb, h]
theorem ofV_congr {x y : Int} (h : x % B = y % B) : ofV x = ofV y := eq_ofV (ofV_W4 x) (by rw [V_ofV, h])
theorem beq_V {a b : List Int} (ha : W4 a) (hb : W4 b) : (a == b) = decide (V a = V b) := by
  by_cases h : a = b
  · subst h; simp
  · have : V a ≠ V b := fun e => h (V_inj ha hb e)
    simp [h, this]
theorem xAdd64_some {x y c : Int} (hx : 0 ≤ x) (hy : 0 ≤ y) (hc : 0 ≤ c) (hc1 : c ≤ 1) : xAdd64 (x, y, c) = some ((x + y + c) % 18446744073709551616, (x + y + c) / 18446744073709551616) := by
  simp [xAdd64, hx, hy, hc, hc1]
theorem xSub64_some {x y c : Int} (hx : 0 ≤ x) (hy : 0 ≤ y) (hy1 : y < 18446744073709551616) (hc : 0 ≤ c) (hc1 : c ≤ 1) : xSub64 (x, y, c) = some ((x - y - c) % 18446744073709551616, if x < y + c then 1 else 0) := by
  simp [xSub64, hx, hy, hy1, hc, hc1]
theorem not_u64 {x : Int} (h0 : 0 ≤ x) (h1 : x < 18446744073709551616) : ibits .xor .u64 18446744073709551615 x = 18446744073709551615 - x := by
  rw [xor_u64 (by omega) (by omega) h0 h1]
  have key : ∀ m : Nat, m < 2 ^ 64 → (18446744073709551615 ^^^ m : Nat) = 18446744073709551615 - m := by
    intro m hm
    have h3 : (18446744073709551615 ^^^ m : Nat) = ((BitVec.allOnes 64) ^^^ (BitVec.ofNat 64 m)).toNat := by
      rw [BitVec.toNat_xor, BitVec.toNat_allOnes, BitVec.toNat_ofNat, Nat.mod_eq_of_lt hm]
    rw [h3, BitVec.allOnes_xor, BitVec.toNat_not, BitVec.toNat_ofNat, Nat.mod_eq_of_lt hm]
  have := key x.toNat (by omega)
  rw [show Int.toNat 18446744073709551615 = 18446744073709551615 from rfl, this]
  omega
end Go.Abs.Pure
end
section
set_option linter.unusedVariables false
set_option linter.unusedSimpArgs false
namespace Go.Abs.Pure
open Go Go.Abs
theorem word_Add_unroll {α : Type} (mk : Int → List Int → List Int → α) (n k : Nat) (a b c d e f g h : Int) : word_Add.l4_0.g mk n (k + 5) 0 0 [a, b, c, d] [e, f, g, h] [0, 0, 0, 0] [0, 0, 0, 0] = bindO (xAdd64 (a, e, 0)) fun r => bindO (xAdd64 (b, f, r.2)) fun s => bindO (xAdd64 (c, g, s.2)) fun t => bindO (xAdd64 (d, h, t.2)) fun u => some (mk u.2 [r.1, s.1, t.1, u.1] [0, 0, 0, 0]) := by kernel_rfl
theorem word_Sub_unroll {α : Type} (mk : Int → List Int → List Int → α) (n k : Nat) (a b c d e f g h : Int) : word_Sub.l4_0.g mk n (k + 5) 0 0 [a, b, c, d] [e, f, g, h] [0, 0, 0, 0] [0, 0, 0, 0] = bindO (xSub64 (a, e, 0)) fun r => bindO (xSub64 (b, f, r.2)) fun s => bindO (xSub64 (c, g, s.2)) fun t => bindO (xSub64 (d, h, t.2)) fun u => some (mk u.2 [r.1, s.1, t.1, u.1] [0, 0, 0, 0]) := by kernel_rfl
theorem word_Add_ok {n : Nat} (hn : 100 ≤ n) {x y : List Int} (hx : W4 x) (hy : W4 y) : word_Add.m n (x, y) = some (ofV (V x + V y), decide (B ≤ V x + V y)) := by
  obtain ⟨a, b, c, d, rfl, ha, hb, hc, hd⟩ := hx.split
  obtain ⟨e, f, g, h, rfl, he, hf, hg, hh⟩ := hy.split
  obtain ⟨q0, q1, q2, q3, h0, h1, h2, h3, k0, k1, k2, k3, hs, hq⟩ := sum_parts ha hb hc hd he hf hg hh
  obtain ⟨k, rfl⟩ : ∃ k, n = k + 5 := ⟨n - 5, by omega⟩
  simp only [word_Add.m, word_Add.g, word_Add.l4_0.m]
  rw [word_Add_unroll, xAdd64_some ha.1 he.1 (by omega) (by omega)]
  simp only [bindO, Option.bind_some]
  rw [h0, xAdd64_some hb.1 hf.1 (by omega) (by omega)]
  simp only [Option.bind_some]
  rw [h1, xAdd64_some hc.1 hg.1 (by omega) (by omega)]
  simp only [Option.bind_some]
  rw [h2, xAdd64_some hd.1 hh.1 (by omega) (by omega)]
  simp only [Option.bind_some]
  rw [h3, hs]
  have : (q3 != 0) = decide (B ≤ V [a, b, c, d] + V [e, f, g, h]) := by
    rw [Bool.eq_iff_iff]
    simp only [bne_iff_ne, decide_eq_true_eq, ne_eq]
    rw [← hq]
    omega
  rw [this]
theorem word_Sub_ok {n : Nat} (hn : 100 ≤ n) {x y : List Int} (hx : W4 x) (hy : W4 y) : word_Sub.m n (x, y) = some (ofV (V x - V y), decide (V x < V y)) := by
  obtain ⟨a, b, c, d, rfl, ha, hb, hc, hd⟩ := hx.split
  obtain ⟨e, f, g, h, rfl, he, hf, hg, hh⟩ := hy.split
  obtain ⟨k, rfl⟩ : ∃ k, n = k + 5 := ⟨n - 5, by omega⟩
  have bit : ∀ p : Prop, [Decidable p] → 0 ≤ (if p then (1 : Int) else 0) ∧ (if p then (1 : Int) else 0) ≤ 1 := fun p _ => by split <;> omega
  simp only [word_Sub.m, word_Sub.g, word_Sub.l4_0.m]
  rw [word_Sub_unroll, xSub64_some ha.1 he.1 he.2 (by omega) (by omega)]
  simp only [bindO, Option.bind_some]
  rw [xSub64_some hb.1 hf.1 hf.2 (bit _).1 (bit _).2]
  simp only [Option.bind_some]
  rw [xSub64_some hc.1 hg.1 hg.2 (bit _).1 (bit _).2]
  simp only [Option.bind_some]
  rw [xSub64_some hd.1 hh.1 hh.2 (bit _).1 (bit _).2]
  simp only [Option.bind_some]
  generalize hc0 : (if a < e + 0 then (1 : Int) else 0) = c0
  have k0 : (0 ≤ c0 ∧ c0 ≤ 1) ∧ 0 ≤ a - e + 18446744073709551616 * c0 ∧ a - e + 18446744073709551616 * c0 < 18446744073709551616 := by subst hc0; split <;> omega
  generalize hc1 : (if b < f + c0 then (1 : Int) else 0) = c1
  have k1 : (0 ≤ c1 ∧ c1 ≤ 1) ∧ 0 ≤ b - f - c0 + 18446744073709551616 * c1 ∧ b - f - c0 + 18446744073709551616 * c1 < 18446744073709551616 := by subst hc1; split <;> omega
  generalize hc2 : (if c < g + c1 then (1 : Int) else 0) = c2
  have k2 : (0 ≤ c2 ∧ c2 ≤ 1) ∧ 0 ≤ c - g - c1 + 18446744073709551616 * c2 ∧ c - g - c1 + 18446744073709551616 * c2 < 18446744073709551616 := by subst hc2; split <;> omega
  generalize hc3 : (if d < h + c2 then (1 : Int) else 0) = c3
  have k3 : (0 ≤ c3 ∧ c3 ≤ 1) ∧ 0 ≤ d - h - c2 + 18446744073709551616 * c3 ∧ d - h - c2 + 18446744073709551616 * c3 < 18446744073709551616 := by subst hc3; split <;> omega
  clear hc0 hc1 hc2 hc3 bit
  have e0 : (a - e - 0) % 18446744073709551616 = a - e + 18446744073709551616 * c0 := by omega
  have e1 : (b - f - c0) % 18446744073709551616 = b - f - c0 + 18446744073709551616 * c1 := by omega
  have e2 : (c - g - c1) % 18446744073709551616 = c - g - c1 + 18446744073709551616 * c2 := by omega
  have e3 : (d - h - c2) % 18446744073709551616 = d - h - c2 + 18446744073709551616 * c3 := by omega
  rw [e0, e1, e2, e3]
  have hs : V [a, b, c, d] - V [e, f, g, h] = V [a - e + 18446744073709551616 * c0, b - f - c0 + 18446744073709551616 * c1, c - g - c1 + 18446744073709551616 * c2, d - h - c2 + 18446744073709551616 * c3] + B * (- c3) := by
    simp only [V, B]; omega
  have hr := V_range (.mk k0.2 k1.2 k2.2 k3.2)
  rw [digits (- c3) k0.2 k1.2 k2.2 k3.2 hs]
  have : (c3 != 0) = decide (V [a, b, c, d] < V [e, f, g, h]) := by
    rw [Bool.eq_iff_iff]
    simp only [bne_iff_ne, decide_eq_true_eq, ne_eq]
    generalize V [a, b, c, d] = v at *
    generalize V [e, f, g, h] = u at *
    generalize V [a - e + 18446744073709551616 * c0, b - f - c0 + 18446744073709551616 * c1, c - g - c1 + 18446744073709551616 * c2, d - h - c2 + 18446744073709551616 * c3] = z at *
    simp only [B] at *
    omega
  rw [this]
theorem q01_Add_step {α : Type} (mk0 : Int → List Int → List Int → α) (n : Nat) (rc : Int → Int → List Int → List Int → List Int → List Int → Option α) (i : Nat) (hi : i < 4) (c : Int) (hc : 0 ≤ c ∧ c ≤ 1) (x y o o' : List Int) (hx : 0 ≤ x.getD i 0 ∧ x.getD i 0 < 18446744073709551616) (hy : 0 ≤ y.getD i 0 ∧ y.getD i 0 < 18446744073709551616) :
    q01_Add.l4_0.r mk0 n rc (i : Int) c x y o o' = rc ((i + 1 : Nat) : Int) ((x.getD i 0 + y.getD i 0 + c) / 18446744073709551616) x y (o.set i ((x.getD i 0 + y.getD i 0 + c) % 18446744073709551616)) o' := by
  have h1 : (decide ((i : Int) < 4)) = true := by simp; omega
  have h2 : (0 : Int) ≤ (i : Int) := by omega
  have h3 : (i : Int) < 4 := by omega
  simp only [q01_Add.l4_0.r, h1, h2, h3, if_true, eq_self_iff_true, Int.toNat_natCast, wu64]
  generalize x.getD i 0 = p at *
  generalize y.getD i 0 = q at *
  rw [show IntKind.wrap .i64 ((i : Int) + 1) = ((i + 1 : Nat) : Int) by rw [wi64]; omega]
  have e : ((p + q) % 18446744073709551616 + c) % 18446744073709551616 = (p + q + c) % 18446744073709551616 := by omega
  rw [e]
  simp only [decide_eq_true_eq]
  by_cases g1 : (p + q) % 18446744073709551616 < p
  · rw [show (p + q + c) / 18446744073709551616 = 1 by omega]
    simp only [g1, if_true, ite_self]
  · by_cases g2 : (p + q + c) % 18446744073709551616 < (p + q) % 18446744073709551616
    · rw [show (p + q + c) / 18446744073709551616 = 1 by omega]
      simp only [g1, g2, if_true, if_false]
    · rw [show (p + q + c) / 18446744073709551616 = 0 by omega]
      simp only [g1, g2, if_false, if_true]
theorem q01_Add_ok {n : Nat} (hn : 100 ≤ n) {x y : List Int} (hx : W4 x) (hy : W4 y) : q01_Add.m n (x, y) = some (ofV (V x + V y), decide (B ≤ V x + V y)) := by
  obtain ⟨a, b, c, d, rfl, ha, hb, hc, hd⟩ := hx.split
  obtain ⟨e, f, g, h, rfl, he, hf, hg, hh⟩ := hy.split
  obtain ⟨q0, q1, q2, q3, h0, h1, h2, h3, k0, k1, k2, k3, hs, hq⟩ := sum_parts ha hb hc hd he hf hg hh
  obtain ⟨k, rfl⟩ : ∃ k, n = k + 5 := ⟨n - 5, by omega⟩
  have key : q01_Add.l4_0.g (fun a0 a1 a2 => (a0, a1, a2)) (k + 5) (k + 5) 0 0 [a, b, c, d] [e, f, g, h] [0, 0, 0, 0] [0, 0, 0, 0] = some (q3, [(a + e + 0) % 18446744073709551616, (b + f + q0) % 18446744073709551616, (c + g + q1) % 18446744073709551616, (d + h + q2) % 18446744073709551616], [0, 0, 0, 0]) := by
    refine (q01_Add_step _ _ _ 0 (by omega) 0 (by omega) [a, b, c, d] [e, f, g, h] _ _ ha he).trans ?_
    simp only [List.getD_cons_zero, List.getD_cons_succ, h0]
    refine (q01_Add_step _ _ _ 1 (by omega) _ k0 [a, b, c, d] [e, f, g, h] _ _ hb hf).trans ?_
    simp only [List.getD_cons_zero, List.getD_cons_succ, h1]
    refine (q01_Add_step _ _ _ 2 (by omega) _ k1 [a, b, c, d] [e, f, g, h] _ _ hc hg).trans ?_
    simp only [List.getD_cons_zero, List.getD_cons_succ, h2]
    refine (q01_Add_step _ _ _ 3 (by omega) _ k2 [a, b, c, d] [e, f, g, h] _ _ hd hh).trans ?_
    simp only [List.getD_cons_zero, List.getD_cons_succ, h3]
    rfl
  simp only [q01_Add.m, q01_Add.g, q01_Add.l4_0.m, key, bindO, Option.bind_some]
  rw [hs]
  have : (q3 == 1) = decide (B ≤ V [a, b, c, d] + V [e, f, g, h]) := by
    rw [Bool.eq_iff_iff]
    simp only [beq_iff_eq, decide_eq_true_eq]
    exact hq
  rw [this]
theorem q01_not_ok {n : Nat} {x : List Int} (hx : W4 x) : q01_not.m n x = some (ofV (B - 1 - V x)) := by
  obtain ⟨a, b, c, d, rfl, ha, hb, hc, hd⟩ := hx.split
  simp only [q01_not.m, q01_not.g, List.getD_cons_zero, List.getD_cons_succ, Bool.false_eq_true, if_false]
  rw [not_u64 ha.1 ha.2, not_u64 hb.1 hb.2, not_u64 hc.1 hc.2, not_u64 hd.1 hd.2]
  congr 1
  refine eq_ofV (.mk (by omega) (by omega) (by omega) (by omega)) ?_
  simp only [V, B]
  omega
theorem q01_Neg_ok {n : Nat} (hn : 100 ≤ n) {x : List Int} (hx : W4 x) : q01_Neg.m n x = some (ofV (- V x)) := by
  have r := V_range hx
  simp only [q01_Neg.m, q01_Neg.g, q01_not_ok hx, bindO, Option.bind_some, q01_From.m, q01_From.g]
  rw [q01_Add_ok hn (ofV_W4 _) (.mk (by omega) (by omega) (by omega) (by omega))]
  simp only [Option.bind_some, V_ofV]
  congr 1
  apply ofV_congr
  simp only [V, B] at *
  omega
def cmpOf (x y : Int) : Int := if x < y then -1 else if x = y then 0 else 1
theorem q01_Cmp_unroll (k : Nat) (a b c d e f g h : Int) : q01_Cmp.m (k + 6) ([a, b, c, d], [e, f, g, h]) =
    if (decide (d < h)) = true then some (-1) else if (decide (d > h)) = true then some 1 else
    if (decide (c < g)) = true then some (-1) else if (decide (c > g)) = true then some 1 else
    if (decide (b < f)) = true then some (-1) else if (decide (b > f)) = true then some 1 else
    if (decide (a < e)) = true then some (-1) else if (decide (a > e)) = true then some 1 else some 0 := by
  simp only [q01_Cmp.m, q01_Cmp.g, q01_Cmp.l2_0.m]
  have u : ∀ (m : Nat) (i : Int) (x y : List Int), q01_Cmp.l2_0.g (fun a0 => Sum.inl a0) (Sum.inr ()) (k + 6) (m + 1) i x y = q01_Cmp.l2_0.r (fun a0 => Sum.inl a0) (Sum.inr ()) (k + 6) (fun y0 y1 y2 => q01_Cmp.l2_0.g (fun a0 => Sum.inl a0) (Sum.inr ()) (k + 6) m y0 y1 y2) i x y := fun _ _ _ _ => rfl
  rw [u (k + 5)]
  simp only [q01_Cmp.l2_0.r, show decide ((3 : Int) ≥ 0) = true from rfl, show (0 : Int) ≤ 3 by omega, show (3 : Int) < 4 by omega, if_true, eq_self_iff_true]
  rw [show IntKind.wrap .i64 (3 - 1) = 2 by rw [wi64]; rfl, u (k + 4)]
  simp only [q01_Cmp.l2_0.r, show decide ((2 : Int) ≥ 0) = true from rfl, show (0 : Int) ≤ 2 by omega, show (2 : Int) < 4 by omega, if_true, eq_self_iff_true]
  rw [show IntKind.wrap .i64 (2 - 1) = 1 by rw [wi64]; rfl, u (k + 3)]
  simp only [q01_Cmp.l2_0.r, show decide ((1 : Int) ≥ 0) = true from rfl, show (0 : Int) ≤ 1 by omega, show (1 : Int) < 4 by omega, if_true, eq_self_iff_true]
  rw [show IntKind.wrap .i64 (1 - 1) = 0 by rw [wi64]; rfl, u (k + 2)]
  simp only [q01_Cmp.l2_0.r, show decide ((0 : Int) ≥ 0) = true from rfl, show (0 : Int) ≤ 0 by omega, show (0 : Int) < 4 by omega, if_true, eq_self_iff_true]
  rw [show IntKind.wrap .i64 (0 - 1) = -1 by rw [wi64]; rfl, u (k + 1)]
  simp only [q01_Cmp.l2_0.r, show decide ((-1 : Int) ≥ 0) = false from rfl, Bool.false_eq_true, if_false]
  simp only [show Int.toNat 3 = 3 from rfl, show Int.toNat 2 = 2 from rfl, show Int.toNat 1 = 1 from rfl, show Int.toNat 0 = 0 from rfl, List.getD_cons_zero, List.getD_cons_succ]
  by_cases h1 : d < h
  · simp [h1, bindO]
  · by_cases h2 : d > h
    · simp [h1, h2, bindO]
    · simp only [h1, h2, decide_false, Bool.false_eq_true, if_false]
      by_cases h3 : c < g
      · simp [h3, bindO]
      · by_cases h4 : c > g
        · simp [h3, h4, bindO]
        · simp only [h3, h4, decide_false, Bool.false_eq_true, if_false]
          by_cases h5 : b < f
          · simp [h5, bindO]
          · by_cases h6 : b > f
            · simp [h5, h6, bindO]
            · simp only [h5, h6, decide_false, Bool.false_eq_true, if_false]
              by_cases h7 : a < e
              · simp [h7, bindO]
              · by_cases h8 : a > e
                · simp [h7, h8, bindO]
                · simp [h7, h8, bindO]
theorem q01_Cmp_ok {n : Nat} (hn : 100 ≤ n) {x y : List Int} (hx : W4 x) (hy : W4 y) : q01_Cmp.m n (x, y) = some (cmpOf (V x) (V y)) := by
  obtain ⟨a, b, c, d, rfl, ha, hb, hc, hd⟩ := hx.split
  obtain ⟨e, f, g, h, rfl, he, hf, hg, hh⟩ := hy.split
  obtain ⟨k, rfl⟩ : ∃ k, n = k + 6 := ⟨n - 6, by omega⟩
  rw [q01_Cmp_unroll]
  simp only [decide_eq_true_eq]
  have lt : V [a, b, c, d] < V [e, f, g, h] → some (-1) = some (cmpOf (V [a, b, c, d]) (V [e, f, g, h])) := fun h => by rw [cmpOf, if_pos h]
  have gt : V [a, b, c, d] > V [e, f, g, h] → some 1 = some (cmpOf (V [a, b, c, d]) (V [e, f, g, h])) := fun h => by rw [cmpOf, if_neg (by omega), if_neg (by omega)]
  have eq : V [a, b, c, d] = V [e, f, g, h] → some 0 = some (cmpOf (V [a, b, c, d]) (V [e, f, g, h])) := fun h => by rw [cmpOf, if_neg (by omega), if_pos h]
  split
  · exact lt (by simp only [V]; omega)
  split
  · exact gt (by simp only [V]; omega)
  split
  · exact lt (by simp only [V]; omega)
  split
  · exact gt (by simp only [V]; omega)
  split
  · exact lt (by simp only [V]; omega)
  split
  · exact gt (by simp only [V]; omega)
  split
  · exact lt (by simp only [V]; omega)
  split
  · exact gt (by simp only [V]; omega)
  · exact eq (by simp only [V]; omega)
end Go.Abs.Pure
end
section
set_option linter.unusedVariables false
set_option linter.unusedSimpArgs false
namespace Go.Abs.Pure
open Go Go.Abs
theorem mul_bound {a b m k : Int} (ha : 0 ≤ a) (ha2 : a ≤ m) (hb : 0 ≤ b) (hb2 : b ≤ k) : 0 ≤ a * b ∧ a * b ≤ m * k :=
  ⟨Int.mul_nonneg ha hb, Int.mul_le_mul ha2 hb2 hb (by omega)⟩
theorem halves_mul {x1 x0 y1 y0 : Int} : (x1 * 4294967296 + x0) * (y1 * 4294967296 + y0) = x1 * y1 * 18446744073709551616 + (x1 * y0 + x0 * y1) * 4294967296 + x0 * y0 := by
  simp only [Int.mul_add, Int.add_mul]
  have e1 : x1 * 4294967296 * (y1 * 4294967296) = x1 * y1 * 18446744073709551616 := by
    rw [Int.mul_assoc, ← Int.mul_assoc 4294967296 y1, Int.mul_comm 4294967296 y1, Int.mul_assoc y1, ← Int.mul_assoc x1]; rfl
  have e2 : x1 * 4294967296 * y0 = x1 * y0 * 4294967296 := by rw [Int.mul_assoc, Int.mul_comm 4294967296 y0, ← Int.mul_assoc]
  have e3 : x0 * (y1 * 4294967296) = x0 * y1 * 4294967296 := by rw [← Int.mul_assoc]
  rw [e1, e2, e3]
  omega
theorem bits_Mul64_ok {n : Nat} {x y : Int} (hx : 0 ≤ x ∧ x < 18446744073709551616) (hy : 0 ≤ y ∧ y < 18446744073709551616) : bits_Mul64.m n (x, y) = some (x * y / 18446744073709551616, x * y % 18446744073709551616) := by
  have sh : ∀ a : Int, ishr .u64 a 32 = a / 4294967296 := fun a => ishr_ofNat .u64 a 32 (by decide)
  have ms : ∀ a : Int, 0 ≤ a → a < 18446744073709551616 → ibits .and .u64 a 4294967295 = a % 4294967296 := fun a h0 h1 => and_mask h0 h1 32 (by omega)
  simp only [bits_Mul64.m, bits_Mul64.g, sh, wu64]
  rw [ms x hx.1 hx.2, ms y hy.1 hy.2]
  rw [ms _ (Int.emod_nonneg _ (by omega)) (Int.emod_lt_of_pos _ (by omega))]
  obtain ⟨x1, x0, rfl, h1, h0⟩ : ∃ x1 x0, x = x1 * 4294967296 + x0 ∧ (0 ≤ x1 ∧ x1 ≤ 4294967295) ∧ 0 ≤ x0 ∧ x0 ≤ 4294967295 := ⟨x / 4294967296, x % 4294967296, by omega, by omega, by omega⟩
  obtain ⟨y1, y0, rfl, g1, g0⟩ : ∃ y1 y0, y = y1 * 4294967296 + y0 ∧ (0 ≤ y1 ∧ y1 ≤ 4294967295) ∧ 0 ≤ y0 ∧ y0 ≤ 4294967295 := ⟨y / 4294967296, y % 4294967296, by omega, by omega, by omega⟩
  rw [show (x1 * 4294967296 + x0) / 4294967296 = x1 by omega, show (x1 * 4294967296 + x0) % 4294967296 = x0 by omega, show (y1 * 4294967296 + y0) / 4294967296 = y1 by omega, show (y1 * 4294967296 + y0) % 4294967296 = y0 by omega]
  rw [halves_mul]
  have b00 := mul_bound h0.1 h0.2 g0.1 g0.2
  have b10 := mul_bound h1.1 h1.2 g0.1 g0.2
  have b01 := mul_bound h0.1 h0.2 g1.1 g1.2
  have b11 := mul_bound h1.1 h1.2 g1.1 g1.2
  generalize x0 * y0 = p00 at *
  generalize x1 * y0 = p10 at *
  generalize x0 * y1 = p01 at *
  generalize x1 * y1 = p11 at *
  clear hx hy h0 h1 g0 g1
  simp only [Option.some.injEq, Prod.mk.injEq, and_true]
  rw [show p00 % 18446744073709551616 = p00 by omega, show p10 % 18446744073709551616 = p10 by omega, show p01 % 18446744073709551616 = p01 by omega, show p11 % 18446744073709551616 = p11 by omega]
  rw [show (p10 + p00 / 4294967296) % 18446744073709551616 = p10 + p00 / 4294967296 by omega]
  generalize ht : p10 + p00 / 4294967296 = t
  have : 0 ≤ t ∧ t ≤ 18446744069414584320 := by omega
  rw [show (t % 4294967296 + p01) % 18446744073709551616 = t % 4294967296 + p01 by omega]
  omega
end Go.Abs.Pure
end
section
set_option linter.unusedVariables false
set_option linter.unusedSimpArgs false
namespace Go.Abs.Pure
open Go Go.Abs
def val (b : Int) : List Int → Int
  | [] => 0
  | x :: r => x + b * val b r
def Dig (b : Int) (l : List Int) : Prop := ∀ x ∈ l, 0 ≤ x ∧ x < b
theorem Dig.getD {b : Int} {l : List Int} (h : Dig b l) {i : Nat} (hi : i < l.length) : 0 ≤ l.getD i 0 ∧ l.getD i 0 < b := by
  rw [List.getD_eq_getElem?_getD, List.getElem?_eq_getElem hi]
  exact h _ (List.getElem_mem hi)
theorem Dig.set {b : Int} {l : List Int} (h : Dig b l) {i : Nat} {d : Int} (hd : 0 ≤ d ∧ d < b) : Dig b (l.set i d) := fun x hx => by
  rcases List.mem_or_eq_of_mem_set hx with h' | h'
  · exact h x h'
  · rw [h']; exact hd
theorem val_set {b : Int} : ∀ {l : List Int} {k : Nat} {d : Int}, k < l.length → val b (l.set k d) = val b l + (d - l.getD k 0) * b ^ k
  | x :: r, 0, d, _ => by simp only [List.set_cons_zero, val, List.getD_cons_zero]; grind
  | x :: r, k + 1, d, h => by
    have ih := val_set (b := b) (l := r) (k := k) (d := d) (by simpa using h)
    simp only [List.set_cons_succ, val, List.getD_cons_succ, ih]
    grind
theorem val_take {b : Int} : ∀ {l : List Int} {k : Nat}, k < l.length → val b (l.take (k + 1)) = val b (l.take k) + l.getD k 0 * b ^ k
  | x :: r, 0, _ => by simp [val]
  | x :: r, k + 1, h => by
    have ih := val_take (b := b) (l := r) (k := k) (by simpa using h)
    simp only [List.take_succ_cons, val, List.getD_cons_succ] at ih ⊢
    rw [ih]
    grind
theorem val_bound {b : Int} (hb : 0 < b) : ∀ {l : List Int}, Dig b l → 0 ≤ val b l ∧ val b l < b ^ l.length
  | [], _ => by simp [val]
  | x :: r, h => by
    have ih := val_bound hb (l := r) fun y hy => h y (by simp [hy])
    have hx := h x (by simp)
    have h1 : val b r + 1 ≤ b ^ r.length := by omega
    have h2 := Int.mul_le_mul_of_nonneg_left h1 (Int.le_of_lt hb)
    have h3 := Int.mul_nonneg (Int.le_of_lt hb) ih.1
    simp only [val, List.length_cons, Int.pow_succ]
    rw [Int.mul_comm (b ^ r.length) b]
    rw [Int.mul_add, Int.mul_one] at h2
    omega
theorem val_replicate (b : Int) : ∀ n, val b (List.replicate n 0) = 0
  | 0 => rfl
  | n + 1 => by simp [List.replicate_succ, val, val_replicate b n]
theorem getD_set {l : List Int} {i j : Nat} {d : Int} (h : i ≠ j) : (l.set i d).getD j 0 = l.getD j 0 := by
  simp [List.getD_eq_getElem?_getD, h]
structure Row (b x : Int) (y : List Int) (i k : Nat) (o0 o : List Int) (c : Int) : Prop where
  len : o.length = o0.length
  dig : Dig b o
  car : 0 ≤ c ∧ c < b
  eq : val b o + c * b ^ (i + k) = val b o0 + x * val b (y.take k) * b ^ i
  up : ∀ j, i + k ≤ j → o.getD j 0 = o0.getD j 0
theorem Row.start {b x : Int} {y : List Int} {i : Nat} {o : List Int} (hb : 0 < b) (h : Dig b o) : Row b x y i 0 o o 0 := ⟨rfl, h, ⟨by omega, hb⟩, by simp [val], fun _ _ => rfl⟩
theorem Row.step {b x : Int} {y : List Int} {i k : Nat} {o0 o : List Int} {c d c' : Int} (h : Row b x y i k o0 o c) (hk : k < y.length) (hi : i + k < o.length)
    (ht : o.getD (i + k) 0 + x * y.getD k 0 + c = d + b * c') (hd : 0 ≤ d ∧ d < b) (hc : 0 ≤ c' ∧ c' < b) : Row b x y i (k + 1) o0 (o.set (i + k) d) c' := by
  refine ⟨by simp [h.len], h.dig.set hd, hc, ?_, fun j hj => ?_⟩
  · rw [val_set hi, val_take hk]
    have e := h.eq
    rw [show i + (k + 1) = i + k + 1 by omega, Int.pow_succ]
    rw [Int.pow_add] at e ⊢
    generalize val b o = vo at *
    generalize val b o0 = v0 at *
    generalize val b (y.take k) = s at *
    generalize o.getD (i + k) 0 = oo at *
    generalize y.getD k 0 = yk at *
    generalize b ^ i = p at *
    generalize b ^ k = q at *
    grind
  · rw [getD_set (by omega)]
    exact h.up j (by omega)
structure Rows (b : Int) (x y : List Int) (i : Nat) (o : List Int) : Prop where
  len : o.length = x.length + y.length
  dig : Dig b o
  eq : val b o = val b (x.take i) * val b y
  up : ∀ j, i + y.length ≤ j → o.getD j 0 = 0
theorem Rows.start {b : Int} (hb : 0 < b) {x y : List Int} {n : Nat} (hn : n = x.length + y.length) : Rows b x y 0 (List.replicate n 0) :=
  ⟨by simp [hn], fun z hz => by have := List.eq_of_mem_replicate hz; omega, by simp [val, val_replicate], fun j _ => by
    simp only [List.getD_eq_getElem?_getD, List.getElem?_replicate]; split <;> rfl⟩
theorem Rows.step {b : Int} {x y : List Int} {i : Nat} {o0 o : List Int} {c : Int} (h : Rows b x y i o0) (hi : i < x.length) (r : Row b (x.getD i 0) y i y.length o0 o c) : Rows b x y (i + 1) (o.set (i + y.length) c) := by
  have hl : o.length = x.length + y.length := by rw [r.len, h.len]
  refine ⟨by simpa using hl, r.dig.set r.car, ?_, fun j hj => ?_⟩
  · rw [val_set (by omega), r.up _ (Nat.le_refl _), h.up _ (Nat.le_refl _), val_take hi]
    have e := r.eq
    rw [h.eq, List.take_length] at e
    generalize val b o = vo at *
    generalize val b (x.take i) = s at *
    generalize val b y = vy at *
    generalize b ^ i = p at *
    generalize b ^ (i + y.length) = q at *
    grind
  · rw [getD_set (by omega), r.up j (by omega)]
    exact h.up j (by omega)
theorem Rows.all {b : Int} {x y o : List Int} (h : Rows b x y x.length o) : val b o = val b x * val b y := by rw [h.eq, List.take_length]
theorem V_val {l : List Int} (h : l.length = 4) : V l = val 18446744073709551616 l := by
  match l, h with
  | [a, b, c, d], _ => simp only [V, val]; omega
theorem W4.dig {l : List Int} (h : W4 l) : Dig 18446744073709551616 l := h.2
theorem or_zero {a b : Int} (ha : 0 ≤ a) (ka : a < 18446744073709551616) (hb : 0 ≤ b) (kb : b < 18446744073709551616) : (0 ≤ ibits .or .u64 a b ∧ ibits .or .u64 a b < 18446744073709551616) ∧ (ibits .or .u64 a b = 0 ↔ a = 0 ∧ b = 0) := by
  rw [or_u64 ha ka hb kb]
  have h1 := Nat.or_lt_two_pow (x := a.toNat) (y := b.toNat) (n := 64) (by omega) (by omega)
  refine ⟨by omega, ?_⟩
  have h2 : a.toNat ||| b.toNat = 0 ↔ a.toNat = 0 ∧ b.toNat = 0 := Nat.or_eq_zero_iff
  omega
end Go.Abs.Pure
end
section
set_option linter.unusedVariables false
set_option linter.unusedSimpArgs false
namespace Go.Abs.Pure
open Go Go.Abs
theorem product_step {α : Type} (mk : Int → Int → Int → List Int → List Int → List Int → List Int → α) (n : Nat) (rc : Int → Int → Int → Int → List Int → List Int → List Int → List Int → Option α) (k i : Nat) (hk : k < 4) (hi : i < 4) (c i3 : Int) (x y o o' : List Int)
    (hc : 0 ≤ c ∧ c < 18446744073709551616) (hx : 0 ≤ x.getD i 0 ∧ x.getD i 0 < 18446744073709551616) (hy : 0 ≤ y.getD k 0 ∧ y.getD k 0 < 18446744073709551616) (ho : 0 ≤ o.getD (i + k) 0 ∧ o.getD (i + k) 0 < 18446744073709551616) :
    ∃ d c', (0 ≤ d ∧ d < 18446744073709551616) ∧ (0 ≤ c' ∧ c' < 18446744073709551616) ∧ o.getD (i + k) 0 + x.getD i 0 * y.getD k 0 + c = d + 18446744073709551616 * c' ∧
    word_product.l7_0.r mk n rc (k : Int) (i : Int) c i3 x y o o' = rc ((k + 1 : Nat) : Int) (i : Int) c' i3 x y (o.set (i + k) d) o' := by
  have h1 : (decide ((k : Int) < 4)) = true := by simp; omega
  have g1 : (0 : Int) ≤ (i : Int) := by omega
  have g2 : (i : Int) < 4 := by omega
  have g3 : (0 : Int) ≤ (k : Int) := by omega
  have g4 : (k : Int) < 4 := by omega
  have w : IntKind.wrap .i64 ((i : Int) + (k : Int)) = ((i + k : Nat) : Int) := by rw [wi64]; omega
  have g5 : (0 : Int) ≤ ((i + k : Nat) : Int) := by omega
  have g6 : ((i + k : Nat) : Int) < 8 := by omega
  have w1 : IntKind.wrap .i64 ((k : Int) + 1) = ((k + 1 : Nat) : Int) := by rw [wi64]; omega
  simp only [word_product.l7_0.r, h1, g1, g2, g3, g4, w, g5, g6, w1, if_true, eq_self_iff_true, Int.toNat_natCast]
  rw [bits_Mul64_ok hx hy]
  have hp := mul_bound hx.1 (show x.getD i 0 ≤ 18446744073709551615 by omega) hy.1 (show y.getD k 0 ≤ 18446744073709551615 by omega)
  simp only [bindO, Option.bind_some, bits_Add64.m]
  generalize x.getD i 0 * y.getD k 0 = p at *
  generalize o.getD (i + k) 0 = oo at *
  rw [xAdd64_some (by omega) hc.1 (by omega) (by omega)]
  simp only [Option.bind_some]
  rw [xAdd64_some ho.1 (by omega) (by omega) (by omega)]
  simp only [Option.bind_some, wu64]
  refine ⟨_, _, ?_, ?_, ?_, rfl⟩ <;> omega
theorem product_inner {α : Type} (mk : Int → Int → Int → List Int → List Int → List Int → List Int → α) (n : Nat) {x y : List Int} (hx : W4 x) (hy : W4 y) {i : Nat} (hi : i < 4) (i3 : Int) {o0 : List Int} (hl : o0.length = 8) (o' : List Int) :
    ∀ (r k m : Nat) (o : List Int) (c : Int), k + r = 4 → r + 1 ≤ m → Row 18446744073709551616 (x.getD i 0) y i k o0 o c →
      ∃ o2 c2, Row 18446744073709551616 (x.getD i 0) y i 4 o0 o2 c2 ∧ word_product.l7_0.g mk n m (k : Int) (i : Int) c i3 x y o o' = some (mk (i : Int) c2 i3 o2 x y o')
  | 0, k, m + 1, o, c, hk, hm, R => by
    have : k = 4 := by omega
    subst this
    exact ⟨o, c, R, rfl⟩
  | r + 1, k, m + 1, o, c, hk, hm, R => by
    have hlo : o.length = 8 := by rw [R.len, hl]
    have hxl : x.length = 4 := hx.1
    have hyl : y.length = 4 := hy.1
    obtain ⟨d, c', hd, hc', he, hs⟩ := product_step mk n (fun y0 y1 y2 y3 y4 y5 y6 y7 => word_product.l7_0.g mk n m y0 y1 y2 y3 y4 y5 y6 y7) k i (by omega) hi c i3 x y o o' R.car (hx.dig.getD (by omega)) (hy.dig.getD (by omega)) (R.dig.getD (by omega))
    obtain ⟨o2, c2, h1, h2⟩ := product_inner mk n hx hy hi i3 hl o' r (k + 1) m _ _ (by omega) (by omega) (R.step (by omega) (by omega) he hd hc')
    exact ⟨o2, c2, h1, hs.trans h2⟩
theorem product_outer {n : Nat} (hn : 100 ≤ n) {x y : List Int} (hx : W4 x) (hy : W4 y) (o' : List Int) : ∀ (r i m : Nat) (o : List Int), i + r = 4 → r + 1 ≤ m → Rows 18446744073709551616 x y i o →
      ∃ o2, Rows 18446744073709551616 x y 4 o2 ∧ word_product.l3_0.g (fun a0 a1 => (a0, a1)) n m (i : Int) x y o o' = some (o2, o')
  | 0, i, m + 1, o, hk, hm, R => by
    have : i = 4 := by omega
    subst this
    exact ⟨o, R, rfl⟩
  | r + 1, i, m + 1, o, hk, hm, R => by
    have hxl : x.length = 4 := hx.1
    have hyl : y.length = 4 := hy.1
    obtain ⟨o2, c2, h1, h2⟩ := product_inner (fun a0 a1 a2 a3 a4 a5 a6 => (a0, a1, a2, a3, a4, a5, a6)) n hx hy (i := i) (by omega) (i : Int) (o0 := o) (by rw [R.len]; omega) o' 4 0 n o 0 (by omega) (by omega) (Row.start (by omega) R.dig)
    rw [show (4 : Nat) = y.length from hyl.symm] at h1
    obtain ⟨o3, k1, k2⟩ := product_outer hn hx hy o' r (i + 1) m _ (by omega) (by omega) (R.step (by omega) h1)
    refine ⟨o3, k1, ?_⟩
    rw [← k2]
    have g1 : (decide ((i : Int) < 4)) = true := by simp; omega
    have w : IntKind.wrap .i64 ((i : Int) + 4) = ((i + y.length : Nat) : Int) := by rw [wi64]; omega
    have w1 : IntKind.wrap .i64 ((i : Int) + 1) = ((i + 1 : Nat) : Int) := by rw [wi64]; omega
    have g5 : (0 : Int) ≤ ((i + y.length : Nat) : Int) := by omega
    have g6 : ((i + y.length : Nat) : Int) < 8 := by omega
    show word_product.l3_0.r _ n _ _ _ _ _ _ = _
    simp only [word_product.l3_0.r, g1, if_true, word_product.l7_0.m]
    rw [show ((0 : Nat) : Int) = 0 from rfl] at h2
    rw [h2]
    simp only [bindO, Option.bind_some, w, w1, g5, g6, if_true, Int.toNat_natCast]
theorem word_product_ok {n : Nat} (hn : 100 ≤ n) {x y : List Int} (hx : W4 x) (hy : W4 y) : ∃ p, word_product.m n (x, y) = some p ∧ p.length = 8 ∧ Dig 18446744073709551616 p ∧ val 18446744073709551616 p = V x * V y := by
  obtain ⟨o, h1, h2⟩ := product_outer hn hx hy [0, 0, 0, 0, 0, 0, 0, 0] 4 0 n [0, 0, 0, 0, 0, 0, 0, 0] (by omega) (by omega) (Rows.start (n := 8) (by omega) (by rw [hx.1, hy.1]))
  refine ⟨o, ?_, by rw [h1.len, hx.1, hy.1], h1.dig, ?_⟩
  · simp only [word_product.m, word_product.g, word_product.l3_0.m]
    rw [show ((0 : Nat) : Int) = 0 from rfl] at h2
    rw [h2]
    rfl
  · rw [V_val hx.1, V_val hy.1]
    have := h1.eq
    rwa [show (4 : Nat) = x.length from hx.1.symm, List.take_length] at this
theorem wide_split {p : List Int} (hl : p.length = 8) (h : Dig 18446744073709551616 p) : ∃ a b c d e f g k, p = [a, b, c, d, e, f, g, k] ∧ (0 ≤ a ∧ a < 18446744073709551616) ∧ (0 ≤ b ∧ b < 18446744073709551616) ∧ (0 ≤ c ∧ c < 18446744073709551616) ∧ (0 ≤ d ∧ d < 18446744073709551616) ∧
    (0 ≤ e ∧ e < 18446744073709551616) ∧ (0 ≤ f ∧ f < 18446744073709551616) ∧ (0 ≤ g ∧ g < 18446744073709551616) ∧ (0 ≤ k ∧ k < 18446744073709551616) := by
  match p, hl with
  | [a, b, c, d, e, f, g, k], _ => exact ⟨a, b, c, d, e, f, g, k, rfl, h a (by simp), h b (by simp), h c (by simp), h d (by simp), h e (by simp), h f (by simp), h g (by simp), h k (by simp)⟩
theorem wide_val (a b c d e f g k : Int) : val 18446744073709551616 [a, b, c, d, e, f, g, k] = V [a, b, c, d] + B * V [e, f, g, k] := by
  simp only [val, V, B]; omega
theorem word_Mul_ok {n : Nat} (hn : 100 ≤ n) {x y : List Int} (hx : W4 x) (hy : W4 y) : word_Mul.m n (x, y) = some (ofV (V x * V y), decide (B ≤ V x * V y)) := by
  obtain ⟨p, h1, h2, h3, h4⟩ := word_product_ok hn hx hy
  obtain ⟨a, b, c, d, e, f, g, k, rfl, ha, hb, hc, hd, he, hf, hg, hk⟩ := wide_split h2 h3
  rw [wide_val] at h4
  simp only [word_Mul.m, word_Mul.g, h1, bindO, Option.bind_some, List.drop_zero, List.take_succ_cons, List.take_zero, List.getD_cons_zero, List.getD_cons_succ]
  rw [digits (V [e, f, g, k]) ha hb hc hd h4.symm]
  have o1 := or_zero he.1 he.2 hf.1 hf.2
  have o2 := or_zero o1.1.1 o1.1.2 hg.1 hg.2
  have o3 := or_zero o2.1.1 o2.1.2 hk.1 hk.2
  have hr := V_range (.mk ha hb hc hd)
  have : (ibits .or .u64 (ibits .or .u64 (ibits .or .u64 e f) g) k != 0) = decide (B ≤ V x * V y) := by
    rw [Bool.eq_iff_iff]
    simp only [bne_iff_ne, decide_eq_true_eq, ne_eq]
    rw [o3.2, o2.2, o1.2, ← h4]
    generalize V [a, b, c, d] = v at *
    simp only [V, B] at *
    omega
  rw [this]
theorem halves_unroll (k : Nat) (a b c d : Int) : q01_halves.m (k + 9) [a, b, c, d] = some [ibits .and .u64 (ishr .u64 a 0) 4294967295, ibits .and .u64 (ishr .u64 a 32) 4294967295, ibits .and .u64 (ishr .u64 b 0) 4294967295, ibits .and .u64 (ishr .u64 b 32) 4294967295,
    ibits .and .u64 (ishr .u64 c 0) 4294967295, ibits .and .u64 (ishr .u64 c 32) 4294967295, ibits .and .u64 (ishr .u64 d 0) 4294967295, ibits .and .u64 (ishr .u64 d 32) 4294967295] := by kernel_rfl
theorem half_lo {a : Int} (h : 0 ≤ a ∧ a < 18446744073709551616) : ibits .and .u64 (ishr .u64 a 0) 4294967295 = a % 4294967296 := by
  rw [show (0 : Int) = ((0 : Nat) : Int) from rfl, ishr_ofNat .u64 a 0 (by decide)]
  have := and_mask (a := a / 2 ^ 0) (by simp; omega) (by simp; omega) 32 (by omega)
  simpa using this
theorem half_hi {a : Int} (h : 0 ≤ a ∧ a < 18446744073709551616) : ibits .and .u64 (ishr .u64 a 32) 4294967295 = a / 4294967296 := by
  rw [show (32 : Int) = ((32 : Nat) : Int) from rfl, ishr_ofNat .u64 a 32 (by decide)]
  have := and_mask (a := a / 2 ^ 32) (by omega) (by omega) 32 (by omega)
  rw [show (4294967295 : Int) = ((2 ^ 32 - 1 : Nat) : Int) from rfl, this]
  omega
theorem q01_halves_ok {n : Nat} (hn : 100 ≤ n) {x : List Int} (hx : W4 x) : ∃ l, q01_halves.m n x = some l ∧ l.length = 8 ∧ Dig 4294967296 l ∧ val 4294967296 l = V x := by
  obtain ⟨a, b, c, d, rfl, ha, hb, hc, hd⟩ := hx.split
  obtain ⟨k, rfl⟩ : ∃ k, n = k + 9 := ⟨n - 9, by omega⟩
  rw [halves_unroll, half_lo ha, half_hi ha, half_lo hb, half_hi hb, half_lo hc, half_hi hc, half_lo hd, half_hi hd]
  refine ⟨_, rfl, rfl, ?_, ?_⟩
  · intro z hz
    simp only [List.mem_cons, List.not_mem_nil, or_false] at hz
    omega
  · simp only [val, V]; omega
theorem q01_Mul_step {α : Type} (mk : Int → Int → List Int → List Int → List Int → List Int → α) (n : Nat) (rc : Int → Int → Int → List Int → List Int → List Int → List Int → Option α) (k i : Nat) (hk : k < 8) (hi : i < 8) (c : Int) (x y o o' : List Int)
    (hc : 0 ≤ c ∧ c < 4294967296) (hx : 0 ≤ x.getD i 0 ∧ x.getD i 0 < 4294967296) (hy : 0 ≤ y.getD k 0 ∧ y.getD k 0 < 4294967296) (ho : 0 ≤ o.getD (i + k) 0 ∧ o.getD (i + k) 0 < 4294967296) :
    ∃ d c', (0 ≤ d ∧ d < 4294967296) ∧ (0 ≤ c' ∧ c' < 4294967296) ∧ o.getD (i + k) 0 + x.getD i 0 * y.getD k 0 + c = d + 4294967296 * c' ∧
    q01_Mul.l9_0.r mk n rc (k : Int) (i : Int) c o x y o' = rc ((k + 1 : Nat) : Int) (i : Int) c' (o.set (i + k) d) x y o' := by
  have h1 : (decide ((k : Int) < 8)) = true := by simp; omega
  have g1 : (0 : Int) ≤ (i : Int) := by omega
  have g2 : (i : Int) < 8 := by omega
  have g3 : (0 : Int) ≤ (k : Int) := by omega
  have g4 : (k : Int) < 8 := by omega
  have w : IntKind.wrap .i64 ((i : Int) + (k : Int)) = ((i + k : Nat) : Int) := by rw [wi64]; omega
  have g5 : (0 : Int) ≤ ((i + k : Nat) : Int) := by omega
  have g6 : ((i + k : Nat) : Int) < 16 := by omega
  have w1 : IntKind.wrap .i64 ((k : Int) + 1) = ((k + 1 : Nat) : Int) := by rw [wi64]; omega
  simp only [q01_Mul.l9_0.r, h1, g1, g2, g3, g4, w, g5, g6, w1, if_true, eq_self_iff_true, Int.toNat_natCast, wu64]
  have hp := mul_bound hx.1 (show x.getD i 0 ≤ 4294967295 by omega) hy.1 (show y.getD k 0 ≤ 4294967295 by omega)
  generalize x.getD i 0 * y.getD k 0 = p at *
  generalize o.getD (i + k) 0 = oo at *
  rw [show ((oo + p % 18446744073709551616) % 18446744073709551616 + c) % 18446744073709551616 = oo + p + c by omega]
  have ms := and_mask (a := oo + p + c) (by omega) (by omega) 32 (by omega)
  have sh := ishr_ofNat .u64 (oo + p + c) 32 (by decide)
  rw [show ((2 ^ 32 - 1 : Nat) : Int) = 4294967295 from rfl] at ms
  rw [show ((32 : Nat) : Int) = 32 from rfl] at sh
  rw [ms, sh]
  refine ⟨_, _, ?_, ?_, ?_, rfl⟩ <;> omega
theorem q01_Mul_inner {α : Type} (mk : Int → Int → List Int → List Int → List Int → List Int → α) (n : Nat) {x y : List Int} (hxl : x.length = 8) (hx : Dig 4294967296 x) (hyl : y.length = 8) (hy : Dig 4294967296 y) {i : Nat} (hi : i < 8) {o0 : List Int} (hl : o0.length = 16) (o' : List Int) :
    ∀ (r k m : Nat) (o : List Int) (c : Int), k + r = 8 → r + 1 ≤ m → Row 4294967296 (x.getD i 0) y i k o0 o c →
      ∃ o2 c2, Row 4294967296 (x.getD i 0) y i 8 o0 o2 c2 ∧ q01_Mul.l9_0.g mk n m (k : Int) (i : Int) c o x y o' = some (mk (i : Int) c2 o2 x y o')
  | 0, k, m + 1, o, c, hk, hm, R => by
    have : k = 8 := by omega
    subst this
    exact ⟨o, c, R, rfl⟩
  | r + 1, k, m + 1, o, c, hk, hm, R => by
    have hlo : o.length = 16 := by rw [R.len, hl]
    obtain ⟨d, c', hd, hc', he, hs⟩ := q01_Mul_step mk n (fun y0 y1 y2 y3 y4 y5 y6 => q01_Mul.l9_0.g mk n m y0 y1 y2 y3 y4 y5 y6) k i (by omega) hi c x y o o' R.car (hx.getD (by omega)) (hy.getD (by omega)) (R.dig.getD (by omega))
    obtain ⟨o2, c2, h1, h2⟩ := q01_Mul_inner mk n hxl hx hyl hy hi hl o' r (k + 1) m _ _ (by omega) (by omega) (R.step (by omega) (by omega) he hd hc')
    exact ⟨o2, c2, h1, hs.trans h2⟩
theorem q01_Mul_outer {n : Nat} (hn : 100 ≤ n) {x y : List Int} (hxl : x.length = 8) (hx : Dig 4294967296 x) (hyl : y.length = 8) (hy : Dig 4294967296 y) (o' : List Int) : ∀ (r i m : Nat) (o : List Int), i + r = 8 → r + 1 ≤ m → Rows 4294967296 x y i o →
      ∃ o2, Rows 4294967296 x y 8 o2 ∧ q01_Mul.l5_0.g (fun a0 a1 => (a0, a1)) n m (i : Int) o x y o' = some (o2, o')
  | 0, i, m + 1, o, hk, hm, R => by
    have : i = 8 := by omega
    subst this
    exact ⟨o, R, rfl⟩
  | r + 1, i, m + 1, o, hk, hm, R => by
    obtain ⟨o2, c2, h1, h2⟩ := q01_Mul_inner (fun a0 a1 a2 a3 a4 a5 => (a0, a1, a2, a3, a4, a5)) n hxl hx hyl hy (i := i) (by omega) (o0 := o) (by rw [R.len]; omega) o' 8 0 n o 0 (by omega) (by omega) (Row.start (by omega) R.dig)
    rw [show (8 : Nat) = y.length from hyl.symm] at h1
    obtain ⟨o3, k1, k2⟩ := q01_Mul_outer hn hxl hx hyl hy o' r (i + 1) m _ (by omega) (by omega) (R.step (by omega) h1)
    refine ⟨o3, k1, ?_⟩
    rw [← k2]
    have g1 : (decide ((i : Int) < 8)) = true := by simp; omega
    have w : IntKind.wrap .i64 ((i : Int) + 8) = ((i + y.length : Nat) : Int) := by rw [wi64]; omega
    have w1 : IntKind.wrap .i64 ((i : Int) + 1) = ((i + 1 : Nat) : Int) := by rw [wi64]; omega
    have g5 : (0 : Int) ≤ ((i + y.length : Nat) : Int) := by omega
    have g6 : ((i + y.length : Nat) : Int) < 16 := by omega
    show q01_Mul.l5_0.r _ n _ _ _ _ _ _ = _
    simp only [q01_Mul.l5_0.r, g1, if_true, q01_Mul.l9_0.m]
    rw [show ((0 : Nat) : Int) = 0 from rfl] at h2
    rw [h2]
    simp only [bindO, Option.bind_some, w, w1, g5, g6, if_true, Int.toNat_natCast]
theorem q01_pack_step {α : Type} (mk : Bool → List Int → List Int → α) (n : Nat) (rc : Int → Bool → List Int → List Int → List Int → Option α) (i : Nat) (hi : i < 8) (g : Bool) (o l o' : List Int) :
    q01_Mul.l18_0.r mk n rc (i : Int) g o l o' = rc ((i + 1 : Nat) : Int) (g || l.getD (i + 8) 0 != 0) (o.set (i / 2) (ibits .or .u64 (o.getD (i / 2) 0) (ishl .u64 (l.getD i 0) ((i % 2 * 32 : Nat) : Int)))) l o' := by
  have h1 : (decide ((i : Int) < 8)) = true := by simp; omega
  have g1 : (0 : Int) ≤ (i : Int) := by omega
  have g2 : (i : Int) < 16 := by omega
  have w : IntKind.wrap .i64 (Int.tdiv (i : Int) 2) = ((i / 2 : Nat) : Int) := by rw [tdiv_nonneg' (by omega), wi64]; omega
  have w2 : IntKind.wrap .u64 (IntKind.wrap .i64 (Int.tmod (i : Int) 2 * 32)) = ((i % 2 * 32 : Nat) : Int) := by rw [tmod_nonneg' (by omega), wi64, wu64]; omega
  have w1 : IntKind.wrap .i64 ((i : Int) + 1) = ((i + 1 : Nat) : Int) := by rw [wi64]; omega
  have w8 : IntKind.wrap .i64 ((i : Int) + 8) = ((i + 8 : Nat) : Int) := by rw [wi64]; omega
  have g3 : (0 : Int) ≤ ((i / 2 : Nat) : Int) := by omega
  have g4 : ((i / 2 : Nat) : Int) < 4 := by omega
  have g5 : (0 : Int) ≤ ((i % 2 * 32 : Nat) : Int) := by omega
  have g6 : (0 : Int) ≤ ((i + 8 : Nat) : Int) := by omega
  have g7 : ((i + 8 : Nat) : Int) < 16 := by omega
  simp only [q01_Mul.l18_0.r, h1, g1, g2, w, w1, w2, w8, g3, g4, g5, g6, g7, if_true, eq_self_iff_true, Int.toNat_natCast]
  cases g with
  | true => simp
  | false => simp
theorem pack_two {a b : Int} (ha : 0 ≤ a ∧ a < 4294967296) (hb : 0 ≤ b ∧ b < 4294967296) : ibits .or .u64 (ibits .or .u64 0 (ishl .u64 a 0)) (ishl .u64 b 32) = a + b * 4294967296 := by
  rw [show (0 : Int) = ((0 : Nat) : Int) from rfl, ishl_ofNat .u64 a 0 (by decide), show (32 : Int) = ((32 : Nat) : Int) from rfl, ishl_ofNat .u64 b 32 (by decide), wu64, wu64]
  rw [show a * 2 ^ 0 % 18446744073709551616 = a by omega, show b * 2 ^ 32 % 18446744073709551616 = b * 4294967296 by omega]
  rw [or_u64 (a := ((0 : Nat) : Int)) (by omega) (by omega) ha.1 (by omega)]
  rw [show (((0 : Nat) : Int).toNat ||| a.toNat : Nat) = a.toNat by simp]
  rw [or_u64 (by omega) (by omega) (by omega) (by omega)]
  have : (b * 4294967296).toNat = b.toNat <<< 32 := by rw [Nat.shiftLeft_eq]; omega
  rw [this, Nat.or_comm, ← Nat.shiftLeft_add_eq_or_of_lt (by omega), Nat.shiftLeft_eq]
  omega
theorem q01_pack {n m : Nat} (hm : 9 ≤ m) {l : List Int} (hl : l.length = 16) (hd : Dig 4294967296 l) : ∃ hi, 0 ≤ hi ∧ q01_Mul.l18_0.g (fun a0 a1 a2 => (a0, a1, a2)) n m 0 false [0, 0, 0, 0] l [0, 0, 0, 0] = some (decide (B ≤ val 4294967296 l), ofV (val 4294967296 l), [0, 0, 0, 0]) := by
  obtain ⟨k, rfl⟩ : ∃ k, m = k + 9 := ⟨m - 9, by omega⟩
  match l, hl with
  | [a0, a1, a2, a3, a4, a5, a6, a7, b0, b1, b2, b3, b4, b5, b6, b7], _ =>
  have d : ∀ x ∈ [a0, a1, a2, a3, a4, a5, a6, a7, b0, b1, b2, b3, b4, b5, b6, b7], 0 ≤ x ∧ x < 4294967296 := hd
  simp only [List.mem_cons, List.not_mem_nil, or_false, forall_eq_or_imp, forall_eq] at d
  obtain ⟨h0, h1, h2, h3, h4, h5, h6, h7, k0, k1, k2, k3, k4, k5, k6, k7⟩ := d
  refine ⟨0, by omega, ?_⟩
  refine (q01_pack_step _ _ _ 0 (by omega) _ _ _ _).trans ?_
  refine (q01_pack_step _ _ _ 1 (by omega) _ _ _ _).trans ?_
  refine (q01_pack_step _ _ _ 2 (by omega) _ _ _ _).trans ?_
  refine (q01_pack_step _ _ _ 3 (by omega) _ _ _ _).trans ?_
  refine (q01_pack_step _ _ _ 4 (by omega) _ _ _ _).trans ?_
  refine (q01_pack_step _ _ _ 5 (by omega) _ _ _ _).trans ?_
  refine (q01_pack_step _ _ _ 6 (by omega) _ _ _ _).trans ?_
  refine (q01_pack_step _ _ _ 7 (by omega) _ _ _ _).trans ?_
  show some _ = some _
  simp only [List.getD_cons_zero, List.getD_cons_succ, List.set_cons_zero, List.set_cons_succ, Nat.reduceDiv, Nat.reduceMod, Nat.reduceMul, Nat.reduceAdd]
  rw [show ((0 : Nat) : Int) = 0 from rfl, show ((32 : Nat) : Int) = 32 from rfl, pack_two h0 h1, pack_two h2 h3, pack_two h4 h5, pack_two h6 h7]
  have hv : val 4294967296 [a0, a1, a2, a3, a4, a5, a6, a7, b0, b1, b2, b3, b4, b5, b6, b7] = V [a0 + a1 * 4294967296, a2 + a3 * 4294967296, a4 + a5 * 4294967296, a6 + a7 * 4294967296] + B * val 4294967296 [b0, b1, b2, b3, b4, b5, b6, b7] := by
    simp only [val, V, B]; omega
  have w4 : W4 [a0 + a1 * 4294967296, a2 + a3 * 4294967296, a4 + a5 * 4294967296, a6 + a7 * 4294967296] := .mk (by omega) (by omega) (by omega) (by omega)
  have hr := V_range w4
  rw [digits (val 4294967296 [b0, b1, b2, b3, b4, b5, b6, b7]) (by omega) (by omega) (by omega) (by omega) hv, hv]
  generalize V [a0 + a1 * 4294967296, a2 + a3 * 4294967296, a4 + a5 * 4294967296, a6 + a7 * 4294967296] = v at *
  have hf : ((((((((false || b0 != 0) || b1 != 0) || b2 != 0) || b3 != 0) || b4 != 0) || b5 != 0) || b6 != 0) || b7 != 0) = decide (B ≤ v + B * val 4294967296 [b0, b1, b2, b3, b4, b5, b6, b7]) := by
    rw [Bool.eq_iff_iff]
    simp only [Bool.false_or, Bool.or_eq_true, bne_iff_ne, decide_eq_true_eq, ne_eq]
    have hw : val 4294967296 [b0, b1, b2, b3, b4, b5, b6, b7] = 0 ↔ b0 = 0 ∧ b1 = 0 ∧ b2 = 0 ∧ b3 = 0 ∧ b4 = 0 ∧ b5 = 0 ∧ b6 = 0 ∧ b7 = 0 := by
      simp only [val]; omega
    have hw0 : 0 ≤ val 4294967296 [b0, b1, b2, b3, b4, b5, b6, b7] := by simp only [val]; omega
    generalize val 4294967296 [b0, b1, b2, b3, b4, b5, b6, b7] = z at *
    have hz : B ≤ v + B * z ↔ z ≠ 0 := by simp only [B] at hr ⊢; omega
    rw [hz]
    constructor
    · intro h hz; have := hw.1 hz; omega
    · intro h; have : ¬ (b0 = 0 ∧ b1 = 0 ∧ b2 = 0 ∧ b3 = 0 ∧ b4 = 0 ∧ b5 = 0 ∧ b6 = 0 ∧ b7 = 0) := fun e => h (hw.2 e)
      omega
  rw [hf]
theorem q01_Mul_ok {n : Nat} (hn : 100 ≤ n) {x y : List Int} (hx : W4 x) (hy : W4 y) : q01_Mul.m n (x, y) = some (ofV (V x * V y), decide (B ≤ V x * V y)) := by
  obtain ⟨u, h1, h2, h3, h4⟩ := q01_halves_ok hn hx
  obtain ⟨v, g1, g2, g3, g4⟩ := q01_halves_ok hn hy
  obtain ⟨o, k1, k2⟩ := q01_Mul_outer hn h2 h3 g2 g3 [0, 0, 0, 0] 8 0 n [0, 0, 0, 0, 0, 0, 0, 0, 0, 0, 0, 0, 0, 0, 0, 0] (by omega) (by omega) (Rows.start (n := 16) (by omega) (by rw [h2, g2]))
  have hl : o.length = 16 := by rw [k1.len, h2, g2]
  have hv : val 4294967296 o = V x * V y := by
    have := k1.eq
    rwa [show (8 : Nat) = u.length from h2.symm, List.take_length, h4, g4] at this
  obtain ⟨_, _, p⟩ := q01_pack (n := n) (m := n) (by omega) hl k1.dig
  simp only [q01_Mul.m, q01_Mul.g, h1, g1, bindO, Option.bind_some, q01_Mul.l5_0.m, q01_Mul.l18_0.m]
  rw [show ((0 : Nat) : Int) = 0 from rfl] at k2
  rw [k2]
  simp only [Option.bind_some]
  rw [p]
  simp only [Option.bind_some, hv]
end Go.Abs.Pure
end
section
set_option linter.unusedVariables false
set_option linter.unusedSimpArgs false
namespace Go.Abs.Pure
open Go Go.Abs
def H : Int := 57896044618658097711785492504343953926634992332820282019728792003956564819968
def S (x : List Int) : Int := if V x < H then V x else V x - B
theorem cmpOf_shift (x y d : Int) : cmpOf (x + d) (y + d) = cmpOf x y := by
  unfold cmpOf
  repeat' split
  all_goals omega
theorem nat_xor_top {a : Nat} (h : a < 2 ^ 63) : a ^^^ 2 ^ 63 = a + 2 ^ 63 := by
  apply Nat.eq_of_testBit_eq
  intro i
  rw [Nat.testBit_xor, Nat.add_comm]
  rcases Nat.lt_trichotomy i 63 with hi | rfl | hi
  · rw [Nat.testBit_two_pow_add_gt hi, Nat.testBit_two_pow_of_ne (by omega), Bool.xor_false]
  · rw [Nat.testBit_two_pow_add_eq, Nat.testBit_two_pow_self, Bool.xor_true]
  · have h1 : 2 ^ 64 ≤ 2 ^ i := Nat.pow_le_pow_right (by omega) (by omega)
    rw [Nat.testBit_two_pow_of_ne (by omega), Bool.xor_false, Nat.testBit_lt_two_pow (by omega), Nat.testBit_lt_two_pow (by omega)]
theorem xor_top {a : Int} (h : 0 ≤ a ∧ a < 18446744073709551616) : ibits .xor .u64 a 9223372036854775808 = if a < 9223372036854775808 then a + 9223372036854775808 else a - 9223372036854775808 := by
  rw [xor_u64 h.1 h.2 (by omega) (by omega), show Int.toNat 9223372036854775808 = 2 ^ 63 from rfl]
  split
  · rw [nat_xor_top (by omega)]; omega
  · obtain ⟨k, hk, hk2⟩ : ∃ k : Nat, a.toNat = k + 2 ^ 63 ∧ k < 2 ^ 63 := ⟨a.toNat - 2 ^ 63, by omega, by omega⟩
    rw [hk, ← nat_xor_top hk2, Nat.xor_assoc, Nat.xor_self, Nat.xor_zero]
    omega
theorem turn_top {x : List Int} (hx : W4 x) : W4 (List.set x 3 (ibits .xor .u64 (List.getD x 3 0) 9223372036854775808)) ∧ V (List.set x 3 (ibits .xor .u64 (List.getD x 3 0) 9223372036854775808)) = S x + H := by
  obtain ⟨a, b, c, d, rfl, ha, hb, hc, hd⟩ := hx.split
  simp only [List.getD_cons_zero, List.getD_cons_succ, List.set_cons_zero, List.set_cons_succ]
  rw [xor_top hd]
  split
  · refine ⟨.mk ha hb hc (by omega), ?_⟩
    have hh : V [a, b, c, d] < H := by simp only [V, H]; omega
    rw [S, if_pos hh]
    simp only [V, H]
    omega
  · refine ⟨.mk ha hb hc (by omega), ?_⟩
    have hh : ¬ V [a, b, c, d] < H := by simp only [V, H]; omega
    rw [S, if_neg hh]
    simp only [V, H, B]
    omega
theorem word_Cmp_ok {n : Nat} (hn : 100 ≤ n) {x y : List Int} (hx : W4 x) (hy : W4 y) : word_Cmp.m n (x, y) = some (cmpOf (V x) (V y)) := by
  simp only [word_Cmp.m, word_Cmp.g, word_Sub_ok hn hx hy, bindO, Option.bind_some, beq_V hx hy, decide_eq_true_eq]
  unfold cmpOf
  split
  · rfl
  split <;> rfl
theorem word_Scmp_ok {n : Nat} (hn : 100 ≤ n) {x y : List Int} (hx : W4 x) (hy : W4 y) : word_Scmp.m n (x, y) = some (cmpOf (S x) (S y)) := by
  simp only [word_Scmp.m, word_Scmp.g]
  rw [word_Cmp_ok hn (turn_top hx).1 (turn_top hy).1, (turn_top hx).2, (turn_top hy).2, cmpOf_shift]
  rfl
theorem word_negative_ok {n : Nat} {x : List Int} (hx : W4 x) : word_negative.m n x = some (decide (H ≤ V x)) := by
  obtain ⟨a, b, c, d, rfl, ha, hb, hc, hd⟩ := hx.split
  simp only [word_negative.m, word_negative.g, List.getD_cons_zero, List.getD_cons_succ, wi64]
  congr 1
  rw [Bool.eq_iff_iff]
  simp only [decide_eq_true_eq]
  simp only [V, H]
  omega
theorem q01_neg_ok {n : Nat} {x : List Int} (hx : W4 x) : q01_neg.m n x = some (decide (H ≤ V x)) := by
  obtain ⟨a, b, c, d, rfl, ha, hb, hc, hd⟩ := hx.split
  simp only [q01_neg.m, q01_neg.g, List.getD_cons_zero, List.getD_cons_succ]
  congr 1
  rw [show (63 : Int) = ((63 : Nat) : Int) from rfl, ishr_ofNat .u64 d 63 (by decide), Bool.eq_iff_iff]
  simp only [beq_iff_eq, decide_eq_true_eq]
  simp only [V, H]
  omega
theorem word_minus_ok {n : Nat} (hn : 100 ≤ n) {x : List Int} (hx : W4 x) : word_minus.m n x = some (ofV (- V x)) := by
  simp only [word_minus.m, word_minus.g]
  rw [word_Sub_ok hn (.mk (by omega) (by omega) (by omega) (by omega)) hx]
  simp only [bindO, Option.bind_some]
  rw [show V [0, 0, 0, 0] - V x = - V x by simp only [V]; omega]
def absV (x : List Int) : List Int := if H ≤ V x then ofV (- V x) else x
theorem absV_W4 {x : List Int} (hx : W4 x) : W4 (absV x) := by unfold absV; split; exact ofV_W4 _; exact hx
theorem word_abs_ok {n : Nat} (hn : 100 ≤ n) {x : List Int} (hx : W4 x) : word_abs.m n x = some (absV x) := by
  simp only [word_abs.m, word_abs.g, word_negative_ok hx, word_minus_ok hn hx, bindO, Option.bind_some, decide_eq_true_eq, absV]
  split <;> rfl
theorem q01_size_ok {n : Nat} (hn : 100 ≤ n) {x : List Int} (hx : W4 x) : q01_size.m n x = some (absV x) := by
  simp only [q01_size.m, q01_size.g, q01_neg_ok hx, q01_Neg_ok hn hx, bindO, Option.bind_some, decide_eq_true_eq, absV]
  split <;> rfl
theorem q01_Sub_ok {n : Nat} (hn : 100 ≤ n) {x y : List Int} (hx : W4 x) (hy : W4 y) : q01_Sub.m n (x, y) = some (ofV (V x - V y), decide (V x < V y)) := by
  simp only [q01_Sub.m, q01_Sub.g, q01_Neg_ok hn hy, q01_Cmp_ok hn hx hy, bindO, Option.bind_some]
  rw [q01_Add_ok hn hx (ofV_W4 _)]
  simp only [Option.bind_some, V_ofV]
  rw [ofV_congr (x := V x + - V y % B) (y := V x - V y) (by rw [Int.add_emod_emod]; rfl)]
  have : decide (cmpOf (V x) (V y) < 0) = decide (V x < V y) := by
    unfold cmpOf
    rw [Bool.eq_iff_iff]
    simp only [decide_eq_true_eq]
    split
    · omega
    split <;> omega
  rw [this]
theorem q01_Scmp_ok {n : Nat} (hn : 100 ≤ n) {x y : List Int} (hx : W4 x) (hy : W4 y) : q01_Scmp.m n (x, y) = some (cmpOf (S x) (S y)) := by
  have rx := V_range hx
  have ry := V_range hy
  simp only [q01_Scmp.m, q01_Scmp.g, q01_neg_ok hx, q01_neg_ok hy, q01_Cmp_ok hn hx hy, bindO, Option.bind_some]
  by_cases h1 : H ≤ V x <;> by_cases h2 : H ≤ V y
  · simp only [h1, h2, decide_true, if_true, Bool.not_true, Bool.false_eq_true, if_false]
    simp only [S, show ¬ V x < H by omega, show ¬ V y < H by omega, if_false]
    rw [show V x - B = V x + (- B) by omega, show V y - B = V y + (- B) by omega, cmpOf_shift]
  · simp only [h1, h2, decide_true, decide_false, if_true, Bool.not_false, S, show ¬ V x < H by omega, show V y < H by omega, if_false]
    rw [cmpOf, if_pos (by simp only [B] at *; omega)]
  · simp only [h1, h2, decide_true, decide_false, if_true, Bool.not_false, S, show V x < H by omega, show ¬ V y < H by omega, if_false, Bool.false_eq_true]
    rw [cmpOf, if_neg (by simp only [B] at *; omega), if_neg (by simp only [B] at *; omega)]
  · simp only [h1, h2, decide_false, Bool.false_eq_true, if_false, S, show V x < H by omega, show V y < H by omega, if_true]
end Go.Abs.Pure
end
section
set_option linter.unusedVariables false
set_option linter.unusedSimpArgs false
namespace Go.Abs.Pure
open Go Go.Abs
theorem pow_pos' (k : Nat) : (0 : Int) < 2 ^ k := Int.pow_pos (by omega)
theorem pow_split {i k : Nat} (h : i ≤ k) : (2 : Int) ^ k = 2 ^ i * 2 ^ (k - i) := by rw [← Int.pow_add]; congr 1; omega
theorem div_pow (x : Int) (i j : Nat) : x / 2 ^ (i + j) = x / 2 ^ i / 2 ^ j := by rw [Int.pow_add, Int.ediv_ediv_of_nonneg (Int.le_of_lt (pow_pos' i))]
theorem bit_add_mul (x v : Int) {i k : Nat} (h : i < k) : (x + 2 ^ k * v) / 2 ^ i % 2 = x / 2 ^ i % 2 := by
  obtain ⟨d, rfl⟩ : ∃ d, k = i + (d + 1) := ⟨k - i - 1, by omega⟩
  rw [Int.pow_add, Int.mul_assoc, Int.add_mul_ediv_left _ _ (Int.ne_of_gt (pow_pos' i)), Int.pow_succ, show (2 : Int) ^ d * 2 * v = 2 * (2 ^ d * v) by rw [Int.mul_comm (2 ^ d) 2, Int.mul_assoc], Int.add_mul_emod_self_left]
theorem val_bit : ∀ {l : List Int} (h : Dig 18446744073709551616 l) {i : Nat} (hi : i / 64 < l.length), l.getD (i / 64) 0 / 2 ^ (i % 64) % 2 = val 18446744073709551616 l / 2 ^ i % 2
  | x :: r, h, i, hi => by
    have hx := h x (by simp)
    by_cases hlt : i < 64
    · rw [show i / 64 = 0 by omega, show i % 64 = i by omega]
      simp only [List.getD_cons_zero, val]
      rw [show (18446744073709551616 : Int) = 2 ^ 64 from rfl, bit_add_mul x _ hlt]
    · obtain ⟨j, rfl⟩ : ∃ j, i = 64 + j := ⟨i - 64, by omega⟩
      have ih := val_bit (l := r) (fun y hy => h y (by simp [hy])) (i := j) (by simp at hi; omega)
      rw [show (64 + j) / 64 = j / 64 + 1 by omega, show (64 + j) % 64 = j % 64 by omega]
      simp only [List.getD_cons_succ, val]
      rw [ih, div_pow, show (2 : Int) ^ 64 = 18446744073709551616 from rfl, Int.add_mul_ediv_left _ _ (by omega), show x / 18446744073709551616 = 0 by omega, Int.zero_add]
theorem V_bit {l : List Int} (h : W4 l) {i : Nat} (hi : i < 256) : l.getD (i / 64) 0 / 2 ^ (i % 64) % 2 = V l / 2 ^ i % 2 := by
  rw [V_val h.1]
  exact val_bit h.dig (by rw [h.1]; omega)
theorem nat_or_bit {a k : Nat} (h : a / 2 ^ k % 2 = 0) : a ||| 2 ^ k = a + 2 ^ k := by
  have hw : a % 2 ^ k < 2 ^ k := Nat.mod_lt _ (Nat.pow_pos (by omega))
  have e1 : a = (a / 2 ^ (k + 1)) <<< (k + 1) + a % 2 ^ k := by
    rw [Nat.shiftLeft_eq, Nat.pow_succ, ← Nat.div_div_eq_div_mul]
    have := Nat.div_add_mod a (2 ^ k)
    have h2 := Nat.div_add_mod (a / 2 ^ k) 2
    rw [h, Nat.add_zero] at h2
    rw [← h2] at this
    conv => lhs; rw [← this]
    rw [← Nat.mul_assoc, Nat.mul_comm]
  generalize a / 2 ^ (k + 1) = u at *
  generalize a % 2 ^ k = w at *
  have h3 : 2 ^ k ||| w = 2 ^ k + w := by
    have := Nat.shiftLeft_add_eq_or_of_lt hw 1
    rw [Nat.shiftLeft_eq, Nat.one_mul] at this
    exact this.symm
  have h4 : 2 ^ k + w < 2 ^ (k + 1) := by rw [Nat.pow_succ]; omega
  rw [e1, Nat.shiftLeft_add_eq_or_of_lt (by omega), Nat.or_assoc, Nat.or_comm w, h3, ← Nat.shiftLeft_add_eq_or_of_lt h4]
  rw [← Nat.shiftLeft_add_eq_or_of_lt (by omega)]
  omega
theorem or_bit {a : Int} {k : Nat} (ha : 0 ≤ a ∧ a < 18446744073709551616) (hk : k < 64) (h : a / 2 ^ k % 2 = 0) : ibits .or .u64 a (2 ^ k) = a + 2 ^ k := by
  have hp : (2 : Int) ^ k < 18446744073709551616 := by
    have : (2 : Nat) ^ k < 2 ^ 64 := Nat.pow_lt_pow_right (by omega) hk
    have h2 : ((2 ^ k : Nat) : Int) < ((2 ^ 64 : Nat) : Int) := by omega
    rw [Int.natCast_pow] at h2
    exact h2
  obtain ⟨n, rfl⟩ := Int.eq_ofNat_of_zero_le ha.1
  rw [or_u64 (by omega) ha.2 (Int.le_of_lt (pow_pos' k)) hp]
  have e : Int.toNat ((2 : Int) ^ k) = 2 ^ k := by
    have : ((2 : Int) ^ k) = ((2 ^ k : Nat) : Int) := by rw [Int.natCast_pow]; rfl
    rw [this, Int.toNat_natCast]
  have h' : n / 2 ^ k % 2 = 0 := by
    have : ((n / 2 ^ k % 2 : Nat) : Int) = 0 := by rw [Int.natCast_emod, Int.natCast_ediv, Int.natCast_pow]; exact h
    omega
  rw [e, Int.toNat_natCast, nat_or_bit h']
  rw [Int.natCast_add, Int.natCast_pow]; rfl
theorem shl_one {k : Nat} (hk : k < 64) : ishl .u64 1 (k : Int) = 2 ^ k := by
  rw [ishl_ofNat .u64 1 k (by simp [IntKind.bits]; omega), wu64, Int.one_mul]
  have : (2 : Nat) ^ k < 2 ^ 64 := Nat.pow_lt_pow_right (by omega) hk
  have h2 : ((2 ^ k : Nat) : Int) < ((2 ^ 64 : Nat) : Int) := by omega
  rw [Int.natCast_pow] at h2
  exact Int.emod_eq_of_lt (Int.le_of_lt (pow_pos' k)) h2
theorem set_bit {q : List Int} (h : W4 q) {i : Nat} (hi : i < 256) (hb : V q / 2 ^ i % 2 = 0) : W4 (q.set (i / 64) (ibits .or .u64 (q.getD (i / 64) 0) (ishl .u64 1 ((i % 64 : Nat) : Int)))) ∧ V (q.set (i / 64) (ibits .or .u64 (q.getD (i / 64) 0) (ishl .u64 1 ((i % 64 : Nat) : Int)))) = V q + 2 ^ i := by
  have hl := h.1
  have hd := h.dig.getD (i := i / 64) (by omega)
  have hbit := V_bit h hi
  rw [hb] at hbit
  rw [shl_one (by omega), or_bit hd (by omega) hbit]
  have hup : q.getD (i / 64) 0 + 2 ^ (i % 64) < 18446744073709551616 := by
    have e := or_bit hd (by omega) hbit
    rw [← e]
    have hp : (2 : Int) ^ (i % 64) < 18446744073709551616 := by
      have : (2 : Nat) ^ (i % 64) < 2 ^ 64 := Nat.pow_lt_pow_right (by omega) (by omega)
      have h2 : ((2 ^ (i % 64) : Nat) : Int) < ((2 ^ 64 : Nat) : Int) := by omega
      rw [Int.natCast_pow] at h2
      exact h2
    exact (or_zero hd.1 hd.2 (Int.le_of_lt (pow_pos' _)) hp).1.2
  have hw : W4 (q.set (i / 64) (q.getD (i / 64) 0 + 2 ^ (i % 64))) := ⟨by simp [hl], h.dig.set ⟨by have := pow_pos' (i % 64); omega, hup⟩⟩
  refine ⟨hw, ?_⟩
  rw [V_val hw.1, V_val hl, val_set (by omega)]
  have : (2 : Int) ^ i = 2 ^ (i % 64) * 18446744073709551616 ^ (i / 64) := by
    rw [show (18446744073709551616 : Int) = 2 ^ 64 from rfl, ← Int.pow_mul, ← Int.pow_add]; congr 1; omega
  rw [this]
  congr 2
  omega
theorem get_bit {x : Int} (hx : 0 ≤ x ∧ x < 18446744073709551616) {k : Nat} (hk : k < 64) : ibits .and .u64 (ishr .u64 x (k : Int)) 1 = x / 2 ^ k % 2 := by
  rw [ishr_ofNat .u64 x k (by simp [IntKind.bits]; omega)]
  have h1 : 0 ≤ x / 2 ^ k := Int.ediv_nonneg hx.1 (Int.le_of_lt (pow_pos' k))
  have h2 : x / 2 ^ k ≤ x := Int.ediv_le_self _ hx.1
  have := and_mask h1 (by omega) 1 (by omega)
  simpa using this
end Go.Abs.Pure
end
section
set_option linter.unusedVariables false
set_option linter.unusedSimpArgs false
set_option maxRecDepth 20000
namespace Go.Abs.Pure
open Go Go.Abs
theorem half_step (P : Int) (i : Nat) : P / 2 ^ i = 2 * (P / 2 ^ (i + 1)) + P / 2 ^ i % 2 := by
  rw [div_pow P i 1]
  have := Int.mul_ediv_add_emod (P / 2 ^ i) 2
  rw [show (2 : Int) ^ 1 = 2 from rfl]
  omega
theorem div_step {P M : Int} (hm : 0 < M) (i : Nat) : (P / 2 ^ i % M = if M ≤ 2 * (P / 2 ^ (i + 1) % M) + P / 2 ^ i % 2 then 2 * (P / 2 ^ (i + 1) % M) + P / 2 ^ i % 2 - M else 2 * (P / 2 ^ (i + 1) % M) + P / 2 ^ i % 2) ∧
    P / 2 ^ i / M = if M ≤ 2 * (P / 2 ^ (i + 1) % M) + P / 2 ^ i % 2 then 2 * (P / 2 ^ (i + 1) / M) + 1 else 2 * (P / 2 ^ (i + 1) / M) := by
  have h := half_step P i
  generalize hN : P / 2 ^ (i + 1) = N at *
  generalize hb : P / 2 ^ i % 2 = b at *
  have hb2 : 0 ≤ b ∧ b < 2 := by omega
  rw [h]
  have e := Int.mul_ediv_add_emod N M
  have r0 := Int.emod_nonneg N (Int.ne_of_gt hm)
  have r1 := Int.emod_lt_of_pos N hm
  generalize N % M = r at *
  generalize N / M = q at *
  split
  · have e2 : 2 * N + b = (2 * r + b - M) + M * (2 * q + 1) := by rw [← e, Int.mul_add M (2 * q) 1, Int.mul_left_comm M 2 q]; omega
    rw [e2, Int.add_mul_emod_self_left, Int.add_mul_ediv_left _ _ (Int.ne_of_gt hm), Int.emod_eq_of_lt (by omega) (by omega), Int.ediv_eq_zero_of_lt (by omega) (by omega)]
    exact ⟨rfl, by omega⟩
  · have e2 : 2 * N + b = (2 * r + b) + M * (2 * q) := by rw [← e, Int.mul_left_comm M 2 q]; omega
    rw [e2, Int.add_mul_emod_self_left, Int.add_mul_ediv_left _ _ (Int.ne_of_gt hm), Int.emod_eq_of_lt (by omega) (by omega), Int.ediv_eq_zero_of_lt (by omega) (by omega)]
    exact ⟨rfl, by omega⟩
theorem B_pow : B = 2 ^ 256 := rfl
theorem shift_in {R b : Int} (hb : b = 0 ∨ b = 1) : (ofV (R + R)).set 0 (ibits .or .u64 ((ofV (R + R)).getD 0 0) b) = ofV (2 * R + b) := by
  simp only [ofV, List.getD_cons_zero, List.set_cons_zero]
  rcases hb with rfl | rfl
  · have := or_u64 (a := (R + R) % 18446744073709551616) (b := 0) (by omega) (by omega) (by omega) (by omega)
    rw [this]
    simp only [Int.toNat_zero, Nat.or_zero, List.cons.injEq, and_true]
    refine ⟨?_, ?_, ?_, ?_⟩ <;> omega
  · have := or_bit (a := (R + R) % 18446744073709551616) (k := 0) (by omega) (by omega) (by simp; omega)
    rw [show (2 : Int) ^ 0 = 1 from rfl] at this
    rw [this]
    simp only [List.cons.injEq, and_true]
    refine ⟨?_, ?_, ?_, ?_⟩ <;> omega
theorem top_bit {R : Int} (hr : 0 ≤ R ∧ R < B) : (ishr .u64 ((ofV R).getD 3 0) 63 != 0) = decide (H ≤ R) := by
  simp only [ofV, List.getD_cons_zero, List.getD_cons_succ]
  rw [show (63 : Int) = ((63 : Nat) : Int) from rfl, ishr_ofNat .u64 _ 63 (by decide), Bool.eq_iff_iff]
  simp only [bne_iff_ne, decide_eq_true_eq, ne_eq]
  simp only [B, H] at *
  omega
theorem quot_bit {Q : Int} {i : Nat} (hi : i < 256) : (ofV (Q * 2 ^ (i + 1))).set (i / 64) (ibits .or .u64 ((ofV (Q * 2 ^ (i + 1))).getD (i / 64) 0) (ishl .u64 1 ((i % 64 : Nat) : Int))) = ofV ((2 * Q + 1) * 2 ^ i) := by
  have hz : V (ofV (Q * 2 ^ (i + 1))) / 2 ^ i % 2 = 0 := by
    rw [V_ofV]
    have e : Q * 2 ^ (i + 1) % B = Q * 2 ^ (i + 1) + 2 ^ 256 * (- (Q * 2 ^ (i + 1) / B)) := by
      have := Int.mul_ediv_add_emod (Q * 2 ^ (i + 1)) B
      rw [B_pow] at *
      rw [Int.mul_neg]
      omega
    rw [e, bit_add_mul _ _ hi, Int.pow_succ, ← Int.mul_assoc, Int.mul_right_comm, Int.mul_ediv_cancel _ (Int.ne_of_gt (pow_pos' i)), Int.mul_emod_left]
  obtain ⟨h1, h2⟩ := set_bit (ofV_W4 _) hi hz
  refine eq_ofV h1 ?_
  have hr := V_range h1
  rw [h2] at hr ⊢
  rw [← Int.emod_eq_of_lt hr.1 hr.2, V_ofV, Int.emod_add_emod, Int.pow_succ]
  congr 1
  grind
theorem quot_far {Q : Int} {i : Nat} (hi : 256 ≤ i) : ofV (Q * 2 ^ (i + 1)) = ofV ((2 * Q + 1) * 2 ^ i) := by
  refine ofV_congr ?_
  have hz : ∀ x : Int, x * 2 ^ i % B = 0 := fun x => by
    rw [B_pow, pow_split hi, Int.mul_left_comm, Int.mul_emod_right]
  rw [hz, Int.pow_succ, Int.mul_comm (2 ^ i) 2, ← Int.mul_assoc, hz]
theorem divide_step {α : Type} (mk : List Int → List Int → α) {n : Nat} (hn : 100 ≤ n) (rc : Int → List Int → List Int → List Int → List Int → Option α) {p m : List Int} (hpl : p.length = 8) (hp : Dig 18446744073709551616 p) (hm : W4 m) (hm0 : 0 < V m) {i : Nat} (hi : i < 512) :
    word_divide.l2_0.r mk n rc (i : Int) (ofV (val 18446744073709551616 p / 2 ^ (i + 1) % V m)) p m (ofV (val 18446744073709551616 p / 2 ^ (i + 1) / V m * 2 ^ (i + 1))) =
      rc ((i : Int) - 1) (ofV (val 18446744073709551616 p / 2 ^ i % V m)) p m (ofV (val 18446744073709551616 p / 2 ^ i / V m * 2 ^ i)) := by
  have hM := V_range hm
  have hbit := val_bit hp (i := i) (by omega)
  have hds := div_step (P := val 18446744073709551616 p) hm0 i
  generalize hP : val 18446744073709551616 p = P at *
  have h1 : (decide ((i : Int) ≥ 0)) = true := by simp
  have w : IntKind.wrap .i64 (Int.tdiv (i : Int) 64) = ((i / 64 : Nat) : Int) := by rw [tdiv_nonneg' (by omega), wi64]; omega
  have w2 : Int.tmod (i : Int) 64 = ((i % 64 : Nat) : Int) := by rw [tmod_nonneg' (by omega)]; omega
  have w1 : IntKind.wrap .i64 ((i : Int) - 1) = (i : Int) - 1 := by rw [wi64]; omega
  have g3 : (0 : Int) ≤ ((i / 64 : Nat) : Int) := by omega
  have g4 : ((i / 64 : Nat) : Int) < 8 := by omega
  have g5 : (0 : Int) ≤ ((i % 64 : Nat) : Int) := by omega
  have r0 := Int.emod_nonneg (P / 2 ^ (i + 1)) (Int.ne_of_gt hm0)
  have r1 := Int.emod_lt_of_pos (P / 2 ^ (i + 1)) hm0
  generalize hR : P / 2 ^ (i + 1) % V m = R at *
  generalize hQ : P / 2 ^ (i + 1) / V m = Q at *
  have hVR : V (ofV R) = R := by rw [V_ofV, Int.emod_eq_of_lt r0 (by omega)]
  simp only [word_divide.l2_0.r, h1, w, w1, w2, g3, g4, g5, if_true, Int.toNat_natCast]
  rw [word_Add_ok hn (ofV_W4 R) (ofV_W4 R), hVR]
  simp only [bindO, Option.bind_some]
  rw [get_bit (hp.getD (i := i / 64) (by omega)) (by omega), hbit]
  have hb2 : P / 2 ^ i % 2 = 0 ∨ P / 2 ^ i % 2 = 1 := by omega
  rw [shift_in hb2, top_bit ⟨r0, by omega⟩]
  generalize P / 2 ^ i % 2 = b at *
  rw [word_Sub_ok hn (ofV_W4 _) hm, word_Cmp_ok hn (ofV_W4 _) hm]
  simp only [Option.bind_some, V_ofV]
  have hsub : ofV ((2 * R + b) % B - V m) = ofV (2 * R + b - V m) := ofV_congr (by rw [Int.emod_sub_emod])
  rw [hsub, hds.1, hds.2]
  by_cases ht : H ≤ R
  · have hT : V m ≤ 2 * R + b := by simp only [H, B] at *; omega
    simp only [ht, hT, decide_true, if_true]
    by_cases h : i < 256
    · have g : (decide ((i : Int) < 256)) = true := by simp; omega
      have g6 : ((i / 64 : Nat) : Int) < 4 := by omega
      simp only [g, g6, if_true]
      rw [quot_bit h]
    · have g : (decide ((i : Int) < 256)) = false := by simp; omega
      simp only [g, Bool.false_eq_true, if_false]
      rw [quot_far (by omega)]
  · have hTB : (2 * R + b) % B = 2 * R + b := Int.emod_eq_of_lt (by omega) (by simp only [H, B] at *; omega)
    rw [hTB]
    simp only [ht, decide_false, Bool.false_eq_true, if_false]
    by_cases hT : V m ≤ 2 * R + b
    · have hc : (decide (cmpOf (2 * R + b) (V m) ≥ 0)) = true := by
        simp only [decide_eq_true_eq]
        unfold cmpOf
        rw [if_neg (by omega)]
        split <;> omega
      simp only [hc, hT, if_true]
      by_cases h : i < 256
      · have g : (decide ((i : Int) < 256)) = true := by simp; omega
        have g6 : ((i / 64 : Nat) : Int) < 4 := by omega
        simp only [g, g6, if_true]
        rw [quot_bit h]
      · have g : (decide ((i : Int) < 256)) = false := by simp; omega
        simp only [g, Bool.false_eq_true, if_false]
        rw [quot_far (by omega)]
    · have hc : (decide (cmpOf (2 * R + b) (V m) ≥ 0)) = false := by
        simp only [decide_eq_false_iff_not]
        unfold cmpOf
        rw [if_pos (by omega)]
        omega
      simp only [hc, hT, Bool.false_eq_true, if_false]
      congr 1
      rw [Int.pow_succ, Int.mul_comm (2 ^ i) 2, ← Int.mul_assoc, Int.mul_comm Q 2]
theorem divide_loop {α : Type} (mk : List Int → List Int → α) {n : Nat} (hn : 100 ≤ n) {p m : List Int} (hpl : p.length = 8) (hp : Dig 18446744073709551616 p) (hm : W4 m) (hm0 : 0 < V m) : ∀ (j fuel : Nat), j ≤ 512 → j + 1 ≤ fuel →
    word_divide.l2_0.g mk n fuel ((j : Int) - 1) (ofV (val 18446744073709551616 p / 2 ^ j % V m)) p m (ofV (val 18446744073709551616 p / 2 ^ j / V m * 2 ^ j)) = some (mk (ofV (val 18446744073709551616 p / V m)) (ofV (val 18446744073709551616 p % V m)))
  | 0, fuel + 1, _, _ => by
    show word_divide.l2_0.r _ _ _ _ _ _ _ _ = _
    simp only [word_divide.l2_0.r, show decide (((0 : Nat) : Int) - 1 ≥ 0) = false from rfl, Bool.false_eq_true, if_false, Int.pow_zero, Int.ediv_one, Int.mul_one]
  | j + 1, fuel + 1, hj, hf => by
    rw [show (((j + 1 : Nat) : Int) - 1) = (j : Int) by omega]
    refine (divide_step mk hn (fun y0 y1 y2 y3 y4 => word_divide.l2_0.g mk n fuel y0 y1 y2 y3 y4) hpl hp hm hm0 (i := j) (by omega)).trans ?_
    exact divide_loop mk hn hpl hp hm hm0 j fuel (by omega) (by omega)
theorem len_tab : ((List.range 256).all fun x => decide ((x : Int) < 2 ^ ((bytesOf (tabOf Go.Proofs.Try.f128 0)).getD x 0).toNat) && decide (0 ≤ (bytesOf (tabOf Go.Proofs.Try.f128 0)).getD x 0) && decide ((bytesOf (tabOf Go.Proofs.Try.f128 0)).getD x 0 ≤ 8)) = true := by kernel_rfl
theorem len_size : ((tabOf Go.Proofs.Try.f128 0).size : Nat) = 256 := by kernel_rfl
theorem div_lt_pow {x y : Int} {k l : Nat} (h : x / 2 ^ k = y) (hy : y < 2 ^ l) : x < 2 ^ (k + l) := by
  have h1 := Int.mul_ediv_add_emod x (2 ^ k)
  have h2 := Int.emod_lt_of_pos x (pow_pos' k)
  have h3 : 2 ^ k * (y + 1) ≤ 2 ^ k * 2 ^ l := Int.mul_le_mul_of_nonneg_left (by omega) (Int.le_of_lt (pow_pos' k))
  rw [Int.pow_add]
  rw [h] at h1
  rw [Int.mul_add] at h3
  omega
theorem bits_Len64_ok {n : Nat} {x : Int} (hx : 0 ≤ x ∧ x < 18446744073709551616) : ∃ l : Nat, bits_Len64.m n x = some (l : Int) ∧ l ≤ 64 ∧ x < 2 ^ l := by
  have j1 : ∃ (y : Int) (k : Nat), bits_Len64.j1.m n (x, 0) = some (y, (k : Int)) ∧ x / 2 ^ k = y ∧ (0 ≤ y ∧ y < 4294967296) ∧ k ≤ 32 := by
    by_cases h : x ≥ 4294967296
    · refine ⟨x / 2 ^ 32, 32, ?_, rfl, by omega, by omega⟩
      simp only [bits_Len64.j1.m, bits_Len64.j1.g, h, decide_true, if_true]
      rw [show (32 : Int) = ((32 : Nat) : Int) from rfl, ishr_ofNat .u64 x 32 (by decide)]
    · exact ⟨x, 0, by simp [bits_Len64.j1.m, bits_Len64.j1.g, h], by simp, by omega, by omega⟩
  obtain ⟨y, k, h1, h2, h3, h4⟩ := j1
  have j4 : ∃ (z : Int) (k2 : Nat), bits_Len64.j4.m n (y, (k : Int)) = some (z, (k2 : Int)) ∧ x / 2 ^ k2 = z ∧ (0 ≤ z ∧ z < 65536) ∧ k2 ≤ 48 := by
    by_cases h : y ≥ 65536
    · refine ⟨y / 2 ^ 16, k + 16, ?_, by rw [div_pow, h2], by omega, by omega⟩
      simp only [bits_Len64.j4.m, bits_Len64.j4.g, h, decide_true, if_true]
      rw [show ishr .u64 y 16 = y / 2 ^ 16 from ishr_ofNat .u64 y 16 (by decide), wi64_id (n := (k : Int) + 16) (by omega) (by omega)]
      rfl
    · exact ⟨y, k, by simp [bits_Len64.j4.m, bits_Len64.j4.g, h], h2, by omega, by omega⟩
  obtain ⟨z, k2, i1, i2, i3, i4⟩ := j4
  have j7 : ∃ (u : Int) (k3 : Nat), bits_Len64.j7.m n (z, (k2 : Int)) = some ((k3 : Int), u) ∧ x / 2 ^ k3 = u ∧ (0 ≤ u ∧ u < 256) ∧ k3 ≤ 56 := by
    by_cases h : z ≥ 256
    · refine ⟨z / 2 ^ 8, k2 + 8, ?_, by rw [div_pow, i2], by omega, by omega⟩
      simp only [bits_Len64.j7.m, bits_Len64.j7.g, h, decide_true, if_true]
      rw [show ishr .u64 z 8 = z / 2 ^ 8 from ishr_ofNat .u64 z 8 (by decide), wi64_id (n := (k2 : Int) + 8) (by omega) (by omega)]
      rfl
    · exact ⟨z, k2, by simp [bits_Len64.j7.m, bits_Len64.j7.g, h], i2, by omega, by omega⟩
  obtain ⟨u, k3, g1, g2, g3, g4⟩ := j7
  obtain ⟨v, rfl⟩ := Int.eq_ofNat_of_zero_le g3.1
  have ht := List.all_eq_true.1 len_tab v (by simp; omega)
  simp only [Bool.and_eq_true, decide_eq_true_eq] at ht
  have hu : IntKind.wrap .u8 (v : Int) = (v : Int) := by rw [wu8]; omega
  have c1 : (0 : Int) ≤ (v : Int) := by omega
  have c2 : (v : Int) < ((((tabOf Go.Proofs.Try.f128 0).size : Nat)) : Int) := by rw [len_size]; omega
  refine ⟨k3 + ((bytesOf (tabOf Go.Proofs.Try.f128 0)).getD v 0).toNat, ?_, by omega, div_lt_pow g2 ht.1.1⟩
  simp only [bits_Len64.m, bits_Len64.g, h1, i1, g1, bindO, Option.bind_some, hu, c1, c2, if_true, Int.toNat_natCast]
  generalize (bytesOf (tabOf Go.Proofs.Try.f128 0)).getD v 0 = t at *
  simp only [wi64]
  congr 1
  omega
theorem size_loop {n : Nat} {p : List Int} (hpl : p.length = 8) (hp : Dig 18446744073709551616 p) : ∀ (j fuel : Nat), j ≤ 8 → j + 1 ≤ fuel → val 18446744073709551616 p = val 18446744073709551616 (p.take j) →
    ∃ s : Nat, s ≤ 64 * j ∧ val 18446744073709551616 p < 2 ^ s ∧ (word_wide_size.l2_0.g (fun a0 => Sum.inl a0) (Sum.inr ()) n fuel ((j : Int) - 1) p = some (Sum.inl (s : Int)) ∨ (s = 0 ∧ word_wide_size.l2_0.g (fun a0 => Sum.inl a0) (Sum.inr ()) n fuel ((j : Int) - 1) p = some (Sum.inr ())))
  | 0, fuel + 1, _, _, hv => ⟨0, by omega, by rw [hv]; simp [val], .inr ⟨rfl, rfl⟩⟩
  | j + 1, fuel + 1, hj, hf, hv => by
    have hd := hp.getD (i := j) (by omega)
    rw [show (((j + 1 : Nat) : Int) - 1) = (j : Int) by omega]
    have g1 : (decide ((j : Int) ≥ 0)) = true := by simp
    have g2 : (0 : Int) ≤ (j : Int) := by omega
    have g3 : (j : Int) < 8 := by omega
    have w1 : IntKind.wrap .i64 ((j : Int) - 1) = (j : Int) - 1 := by rw [wi64]; omega
    have step : ∀ s, word_wide_size.l2_0.g (fun a0 => Sum.inl a0) (Sum.inr ()) n (fuel + 1) (j : Int) p = s ↔ word_wide_size.l2_0.r (fun a0 => Sum.inl a0) (Sum.inr ()) n (fun y0 y1 => word_wide_size.l2_0.g (fun a0 => Sum.inl a0) (Sum.inr ()) n fuel y0 y1) (j : Int) p = s := fun s => Iff.rfl
    simp only [step, word_wide_size.l2_0.r, g1, g2, g3, if_true, Int.toNat_natCast, w1]
    rw [val_take (by omega)] at hv
    by_cases h0 : p.getD j 0 = 0
    · rw [h0, Int.zero_mul, Int.add_zero] at hv
      obtain ⟨s, h1, h2, h3⟩ := size_loop (n := n) hpl hp j fuel (by omega) (by omega) hv
      refine ⟨s, by omega, h2, ?_⟩
      have g4 : (p.getD j 0 != 0) = false := by rw [h0]; rfl
      simp only [g4, Bool.false_eq_true, if_false]
      exact h3
    · obtain ⟨l, k1, k2, k3⟩ := bits_Len64_ok (n := n) hd
      have g4 : (p.getD j 0 != 0) = true := by simpa using h0
      refine ⟨64 * j + l, by omega, ?_, .inl ?_⟩
      · have hb := val_bound (b := 18446744073709551616) (by omega) (l := p.take j) fun x hx => hp x (List.mem_of_mem_take hx)
        rw [List.length_take, Nat.min_eq_left (by omega)] at hb
        have hpw : (18446744073709551616 : Int) ^ j = 2 ^ (64 * j) := by rw [show (18446744073709551616 : Int) = 2 ^ 64 from rfl, ← Int.pow_mul]
        rw [hpw] at hb hv
        refine div_lt_pow (y := p.getD j 0) ?_ k3
        rw [hv, Int.mul_comm, Int.add_mul_ediv_left _ _ (Int.ne_of_gt (pow_pos' _)), Int.ediv_eq_zero_of_lt hb.1 hb.2, Int.zero_add]
      · simp only [g4, if_true, k1, bindO, Option.bind_some]
        rw [wi64_id (n := 64 * (j : Int)) (by omega) (by omega), wi64_id (by omega) (by omega)]
        congr 2
theorem word_wide_size_ok {n : Nat} (hn : 100 ≤ n) {p : List Int} (hpl : p.length = 8) (hp : Dig 18446744073709551616 p) : ∃ s : Nat, s ≤ 512 ∧ val 18446744073709551616 p < 2 ^ s ∧ word_wide_size.m n p = some (s : Int) := by
  obtain ⟨s, h1, h2, h3⟩ := size_loop (n := n) hpl hp 8 n (by omega) (by omega) (by rw [← hpl, List.take_length])
  refine ⟨s, h1, h2, ?_⟩
  simp only [word_wide_size.m, word_wide_size.g, word_wide_size.l2_0.m]
  rw [show (((8 : Nat) : Int) - 1) = 7 from rfl] at h3
  rcases h3 with h3 | ⟨rfl, h3⟩
  · rw [h3]; rfl
  · rw [h3]; rfl
theorem word_divide_ok {n : Nat} (hn : 600 ≤ n) {p m : List Int} (hpl : p.length = 8) (hp : Dig 18446744073709551616 p) (hm : W4 m) (hm0 : 0 < V m) : word_divide.m n (p, m) = some (ofV (val 18446744073709551616 p / V m), ofV (val 18446744073709551616 p % V m)) := by
  obtain ⟨s, h1, h2, h3⟩ := word_wide_size_ok (n := n) (by omega) hpl hp
  have hb := val_bound (b := 18446744073709551616) (by omega) hp
  have hz : val 18446744073709551616 p / 2 ^ s = 0 := Int.ediv_eq_zero_of_lt hb.1 h2
  have hl := divide_loop (fun a0 a1 => (a0, a1)) (n := n) (by omega) hpl hp hm hm0 s n (by omega) (by omega)
  rw [hz] at hl
  simp only [Int.zero_emod, Int.zero_ediv, Int.zero_mul] at hl
  simp only [word_divide.m, word_divide.g, h3, bindO, Option.bind_some, word_divide.l2_0.m]
  rw [wi64_id (by omega) (by omega)]
  rw [show ofV 0 = [0, 0, 0, 0] from rfl] at hl
  rw [hl]
  rfl
def divV (a b : List Int) : List Int × List Int := if V b = 0 then ([0, 0, 0, 0], [0, 0, 0, 0]) else (ofV (V a / V b), ofV (V a % V b))
theorem zero_W4 : W4 [0, 0, 0, 0] := .mk (by omega) (by omega) (by omega) (by omega)
theorem V_zero : V [0, 0, 0, 0] = 0 := rfl
theorem eq_zero {b : List Int} (hb : W4 b) : (b == [0, 0, 0, 0]) = decide (V b = 0) := by rw [beq_V hb zero_W4, V_zero]
theorem widened_ok {n : Nat} {a : List Int} (ha : W4 a) : ∃ p, word_widened.m n a = some p ∧ p.length = 8 ∧ Dig 18446744073709551616 p ∧ val 18446744073709551616 p = V a ∧ val 18446744073709551616 (p.set 4 1) = V a + B ∧ Dig 18446744073709551616 (p.set 4 1) := by
  obtain ⟨a, b, c, d, rfl, ha, hb, hc, hd⟩ := ha.split
  refine ⟨[a, b, c, d, 0, 0, 0, 0], rfl, rfl, ?_, ?_, ?_, ?_⟩
  · intro x hx; simp only [List.mem_cons, List.not_mem_nil, or_false] at hx; omega
  · simp only [val, V]; omega
  · simp only [List.set_cons_succ, List.set_cons_zero, val, V, B]; omega
  · intro x hx; simp only [List.set_cons_succ, List.set_cons_zero, List.mem_cons, List.not_mem_nil, or_false] at hx; omega
theorem word_Div_ok {n : Nat} (hn : 600 ≤ n) {a b : List Int} (ha : W4 a) (hb : W4 b) : word_Div.m n (a, b) = some (divV a b) := by
  obtain ⟨p, h1, h2, h3, h4, _⟩ := widened_ok (n := n) ha
  have hr := V_range hb
  simp only [word_Div.m, word_Div.g, eq_zero hb, decide_eq_true_eq, divV]
  split
  · rename_i h0
    rw [V_inj hb zero_W4 (h0.trans V_zero.symm)]
  · rename_i h0
    rw [h1]
    simp only [bindO, Option.bind_some]
    rw [word_divide_ok hn h2 h3 hb (by omega), h4]
    rfl
theorem q01_bit_ok {n : Nat} {a : List Int} (ha : W4 a) {i : Nat} (hi : i < 256) : q01_bit.m n (a, (i : Int)) = some (decide (V a / 2 ^ i % 2 = 1)) := by
  have w : IntKind.wrap .i64 (Int.tdiv (i : Int) 64) = ((i / 64 : Nat) : Int) := by rw [tdiv_nonneg' (by omega), wi64]; omega
  have w2 : IntKind.wrap .u64 (Int.tmod (i : Int) 64) = ((i % 64 : Nat) : Int) := by rw [tmod_nonneg' (by omega), wu64]; omega
  have g3 : (0 : Int) ≤ ((i / 64 : Nat) : Int) := by omega
  have g4 : ((i / 64 : Nat) : Int) < 4 := by omega
  have g5 : (0 : Int) ≤ ((i % 64 : Nat) : Int) := by omega
  simp only [q01_bit.m, q01_bit.g, w, w2, g3, g4, g5, if_true, Int.toNat_natCast]
  rw [get_bit (ha.dig.getD (by rw [ha.1]; omega)) (by omega), V_bit ha hi]
  congr 1
theorem q01_Div_step {α : Type} (mk : List Int → List Int → List Int → List Int → α) {n : Nat} (hn : 100 ≤ n) (rc : Int → List Int → List Int → List Int → List Int → List Int → List Int → Option α) {p m : List Int} (hp : W4 p) (hm : W4 m) (hm0 : 0 < V m) (q' r' : List Int) {i : Nat} (hi : i < 256) :
    q01_Div.l5_0.r mk n rc (i : Int) (ofV (V p / 2 ^ (i + 1) % V m)) p m (ofV (V p / 2 ^ (i + 1) / V m * 2 ^ (i + 1))) q' r' =
      rc ((i : Int) - 1) (ofV (V p / 2 ^ i % V m)) p m (ofV (V p / 2 ^ i / V m * 2 ^ i)) q' r' := by
  have hM := V_range hm
  have hbit := q01_bit_ok (n := n) hp hi
  have hds := div_step (P := V p) hm0 i
  generalize hP : V p = P at *
  have h1 : (decide ((i : Int) ≥ 0)) = true := by simp
  have w : IntKind.wrap .i64 (Int.tdiv (i : Int) 64) = ((i / 64 : Nat) : Int) := by rw [tdiv_nonneg' (by omega), wi64]; omega
  have w2 : IntKind.wrap .u64 (Int.tmod (i : Int) 64) = ((i % 64 : Nat) : Int) := by rw [tmod_nonneg' (by omega), wu64]; omega
  have w1 : IntKind.wrap .i64 ((i : Int) - 1) = (i : Int) - 1 := by rw [wi64]; omega
  have g3 : (0 : Int) ≤ ((i / 64 : Nat) : Int) := by omega
  have g4 : ((i / 64 : Nat) : Int) < 4 := by omega
  have g5 : (0 : Int) ≤ ((i % 64 : Nat) : Int) := by omega
  have r0 := Int.emod_nonneg (P / 2 ^ (i + 1)) (Int.ne_of_gt hm0)
  have r1 := Int.emod_lt_of_pos (P / 2 ^ (i + 1)) hm0
  generalize hR : P / 2 ^ (i + 1) % V m = R at *
  generalize hQ : P / 2 ^ (i + 1) / V m = Q at *
  have hVR : V (ofV R) = R := by rw [V_ofV, Int.emod_eq_of_lt r0 (by omega)]
  simp only [q01_Div.l5_0.r, h1, w, w1, w2, g3, g4, g5, if_true, Int.toNat_natCast, q01_twice.m, q01_twice.g, hbit]
  rw [q01_Add_ok hn (ofV_W4 R) (ofV_W4 R), hVR]
  simp only [bindO, Option.bind_some]
  have hb2 : P / 2 ^ i % 2 = 0 ∨ P / 2 ^ i % 2 = 1 := by omega
  have hcase : ∀ {β : Type} (f : List Int → Option β), (if decide (P / 2 ^ i % 2 = 1) = true then f ((ofV (R + R)).set 0 (ibits .or .u64 ((ofV (R + R)).getD 0 0) 1)) else f (ofV (R + R))) = f (ofV (2 * R + P / 2 ^ i % 2)) := fun f => by
    rcases hb2 with h | h
    · rw [h, show decide ((0 : Int) = 1) = false from rfl, show R + R = 2 * R + 0 by omega]; rfl
    · rw [h, shift_in (.inr rfl)]; rfl
  have hsub : ofV ((2 * R + P / 2 ^ i % 2) % B - V m) = ofV (2 * R + P / 2 ^ i % 2 - V m) := ofV_congr (by rw [Int.emod_sub_emod])
  refine (hcase fun rr => if decide (B ≤ R + R) = true then
      (q01_Sub.m n (rr, m)).bind fun r14 => rc ((i : Int) - 1) r14.1 p m ((ofV (Q * 2 ^ (i + 1))).set (i / 64) (ibits .or .u64 ((ofV (Q * 2 ^ (i + 1))).getD (i / 64) 0) (ishl .u64 1 ((i % 64 : Nat) : Int)))) q' r'
    else (q01_Cmp.m n (rr, m)).bind fun r14 => if decide (r14 ≥ 0) = true then (q01_Sub.m n (rr, m)).bind fun r18 => rc ((i : Int) - 1) r18.1 p m ((ofV (Q * 2 ^ (i + 1))).set (i / 64) (ibits .or .u64 ((ofV (Q * 2 ^ (i + 1))).getD (i / 64) 0) (ishl .u64 1 ((i % 64 : Nat) : Int)))) q' r'
      else rc ((i : Int) - 1) rr p m (ofV (Q * 2 ^ (i + 1))) q' r').trans ?_
  generalize P / 2 ^ i % 2 = b at *
  rw [q01_Sub_ok hn (ofV_W4 _) hm, q01_Cmp_ok hn (ofV_W4 _) hm]
  simp only [Option.bind_some, V_ofV]
  rw [hsub, hds.1, hds.2, quot_bit hi]
  by_cases ht : B ≤ R + R
  · have hT : V m ≤ 2 * R + b := by omega
    simp only [ht, hT, decide_true, if_true]
  · have hTB : (2 * R + b) % B = 2 * R + b := Int.emod_eq_of_lt (by omega) (by simp only [B] at *; omega)
    rw [hTB]
    simp only [ht, decide_false, Bool.false_eq_true, if_false]
    by_cases hT : V m ≤ 2 * R + b
    · have hc : (decide (cmpOf (2 * R + b) (V m) ≥ 0)) = true := by
        simp only [decide_eq_true_eq]
        unfold cmpOf
        rw [if_neg (by omega)]
        split <;> omega
      simp only [hc, hT, if_true]
    · have hc : (decide (cmpOf (2 * R + b) (V m) ≥ 0)) = false := by
        simp only [decide_eq_false_iff_not]
        unfold cmpOf
        rw [if_pos (by omega)]
        omega
      simp only [hc, hT, Bool.false_eq_true, if_false]
      congr 1
      rw [Int.pow_succ, Int.mul_comm (2 ^ i) 2, ← Int.mul_assoc, Int.mul_comm Q 2]
theorem q01_Div_loop {α : Type} (mk : List Int → List Int → List Int → List Int → α) {n : Nat} (hn : 100 ≤ n) {p m : List Int} (hp : W4 p) (hm : W4 m) (hm0 : 0 < V m) (q' r' : List Int) : ∀ (j fuel : Nat), j ≤ 256 → j + 1 ≤ fuel →
    q01_Div.l5_0.g mk n fuel ((j : Int) - 1) (ofV (V p / 2 ^ j % V m)) p m (ofV (V p / 2 ^ j / V m * 2 ^ j)) q' r' = some (mk (ofV (V p / V m)) (ofV (V p % V m)) q' r')
  | 0, fuel + 1, _, _ => by
    show q01_Div.l5_0.r _ _ _ _ _ _ _ _ _ _ = _
    simp only [q01_Div.l5_0.r, show decide (((0 : Nat) : Int) - 1 ≥ 0) = false from rfl, Bool.false_eq_true, if_false, Int.pow_zero, Int.ediv_one, Int.mul_one]
  | j + 1, fuel + 1, hj, hf => by
    rw [show (((j + 1 : Nat) : Int) - 1) = (j : Int) by omega]
    refine (q01_Div_step mk hn (fun y0 y1 y2 y3 y4 y5 y6 => q01_Div.l5_0.g mk n fuel y0 y1 y2 y3 y4 y5 y6) hp hm hm0 q' r' (i := j) (by omega)).trans ?_
    exact q01_Div_loop mk hn hp hm hm0 q' r' j fuel (by omega) (by omega)
theorem q01_Div_ok {n : Nat} (hn : 600 ≤ n) {a b : List Int} (ha : W4 a) (hb : W4 b) : q01_Div.m n (a, b) = some (divV a b) := by
  have hr := V_range hb
  have hra := V_range ha
  simp only [q01_Div.m, q01_Div.g, eq_zero hb, decide_eq_true_eq, divV]
  split
  · rfl
  · have hl := q01_Div_loop (fun a0 a1 a2 a3 => (a0, a1, a2, a3)) (n := n) (by omega) ha hb (by omega) [0, 0, 0, 0] [0, 0, 0, 0] 256 n (by omega) (by omega)
    have hz : V a / 2 ^ 256 = 0 := Int.ediv_eq_zero_of_lt hra.1 (by rw [← B_pow]; exact hra.2)
    rw [hz] at hl
    simp only [Int.zero_emod, Int.zero_ediv, Int.zero_mul] at hl
    rw [show ofV 0 = [0, 0, 0, 0] from rfl, show (((256 : Nat) : Int) - 1) = 255 from rfl] at hl
    simp only [q01_Div.l5_0.m]
    rw [hl]
    rfl
end Go.Abs.Pure
end
section
set_option linter.unusedVariables false
set_option linter.unusedSimpArgs false
set_option maxRecDepth 20000
namespace Go.Abs.Pure
open Go Go.Abs
theorem divV_W4 (a b : List Int) : W4 (divV a b).1 ∧ W4 (divV a b).2 := by
  unfold divV
  split
  · exact ⟨zero_W4, zero_W4⟩
  · exact ⟨ofV_W4 _, ofV_W4 _⟩
def sdivV (a b : List Int) : List Int × List Int :=
  (if (!(decide (H ≤ V a) == decide (H ≤ V b))) = true then ofV (- V (divV (absV a) (absV b)).1) else (divV (absV a) (absV b)).1,
   if decide (H ≤ V a) = true then ofV (- V (divV (absV a) (absV b)).2) else (divV (absV a) (absV b)).2)
theorem word_Sdiv_ok {n : Nat} (hn : 600 ≤ n) {a b : List Int} (ha : W4 a) (hb : W4 b) : word_Sdiv.m n (a, b) = some (sdivV a b) := by
  have h1 := divV_W4 (absV a) (absV b)
  have h100 : 100 ≤ n := by omega
  simp only [word_Sdiv.m, word_Sdiv.g, word_abs_ok h100 ha, word_abs_ok h100 hb, word_Div_ok hn (absV_W4 ha) (absV_W4 hb), word_negative_ok ha, word_negative_ok hb, word_minus_ok h100 h1.1, word_minus_ok h100 h1.2, bindO, Option.bind_some, sdivV]
  generalize divV (absV a) (absV b) = d at *
  cases decide (H ≤ V a) <;> cases decide (H ≤ V b) <;> rfl
theorem q01_Sdiv_ok {n : Nat} (hn : 600 ≤ n) {a b : List Int} (ha : W4 a) (hb : W4 b) : q01_Sdiv.m n (a, b) = some (sdivV a b) := by
  have h1 := divV_W4 (absV a) (absV b)
  have h100 : 100 ≤ n := by omega
  simp only [q01_Sdiv.m, q01_Sdiv.g, q01_size_ok h100 ha, q01_size_ok h100 hb, q01_Div_ok hn (absV_W4 ha) (absV_W4 hb), q01_neg_ok ha, q01_neg_ok hb, q01_Neg_ok h100 h1.1, q01_Neg_ok h100 h1.2, bindO, Option.bind_some, sdivV]
  generalize divV (absV a) (absV b) = d at *
  cases decide (H ≤ V a) <;> cases decide (H ≤ V b) <;> rfl
def restV (x : Int) (m : List Int) : List Int := if V m = 0 then [0, 0, 0, 0] else ofV (x % V m)
theorem restV_W4 (x : Int) (m : List Int) : W4 (restV x m) := by
  unfold restV
  split
  · exact zero_W4
  · exact ofV_W4 _
theorem zero_eq {m : List Int} (hm : W4 m) (h : V m = 0) : m = [0, 0, 0, 0] := V_inj hm zero_W4 (h.trans V_zero.symm)
theorem word_AddMod_ok {n : Nat} (hn : 600 ≤ n) {a b m : List Int} (ha : W4 a) (hb : W4 b) (hm : W4 m) : word_AddMod.m n (a, b, m) = some (restV (V a + V b) m) := by
  have h100 : 100 ≤ n := by omega
  have rm := V_range hm
  have ra := V_range ha
  have rb := V_range hb
  simp only [word_AddMod.m, word_AddMod.g, eq_zero hm, decide_eq_true_eq, restV]
  split
  · rename_i h0; rw [zero_eq hm h0]
  · rename_i h0
    obtain ⟨p, h1, h2, h3, h4, h5, h6⟩ := widened_ok (n := n) (ofV_W4 (V a + V b))
    simp only [word_Add_ok h100 ha hb, bindO, Option.bind_some, h1]
    rw [word_divide_ok hn (by simpa using h2) h6 hm (by omega), word_divide_ok hn h2 h3 hm (by omega), h4, h5, V_ofV]
    simp only [Option.bind_some, decide_eq_true_eq]
    split
    · rw [show (V a + V b) % B + B = V a + V b by simp only [B] at *; omega]
    · rw [show (V a + V b) % B = V a + V b by simp only [B] at *; omega]
theorem word_MulMod_ok {n : Nat} (hn : 600 ≤ n) {a b m : List Int} (ha : W4 a) (hb : W4 b) (hm : W4 m) : word_MulMod.m n (a, b, m) = some (restV (V a * V b) m) := by
  have h100 : 100 ≤ n := by omega
  have rm := V_range hm
  simp only [word_MulMod.m, word_MulMod.g, eq_zero hm, decide_eq_true_eq, restV]
  split
  · rename_i h0; rw [zero_eq hm h0]
  · rename_i h0
    obtain ⟨p, h1, h2, h3, h4⟩ := word_product_ok h100 ha hb
    simp only [h1, bindO, Option.bind_some]
    rw [word_divide_ok hn h2 h3 hm (by omega), h4]
    rfl
theorem q01_less_ok {n : Nat} (hn : 100 ≤ n) {x y : Int} {m : List Int} (hm : W4 m) (hx : 0 ≤ x ∧ x < V m) (hy : 0 ≤ y ∧ y < V m) : q01_less.m n (ofV x, ofV y, m) = some (ofV ((x + y) % V m)) := by
  have rm := V_range hm
  have e1 : V (ofV x) = x := by rw [V_ofV, Int.emod_eq_of_lt hx.1 (by omega)]
  have e2 : V (ofV y) = y := by rw [V_ofV, Int.emod_eq_of_lt hy.1 (by omega)]
  simp only [q01_less.m, q01_less.g, q01_Add_ok hn (ofV_W4 x) (ofV_W4 y), e1, e2, bindO, Option.bind_some, q01_Sub_ok hn (ofV_W4 _) hm, q01_Cmp_ok hn (ofV_W4 _) hm, V_ofV, decide_eq_true_eq]
  by_cases h1 : B ≤ x + y
  · simp only [h1, if_true]
    rw [show (x + y) % V m = x + y - V m by rw [← Int.sub_emod_right, Int.emod_eq_of_lt (by omega) (by omega)]]
    congr 1
    exact ofV_congr (by rw [Int.emod_sub_emod])
  · simp only [h1, if_false]
    rw [Int.emod_eq_of_lt (by omega) (show x + y < B by omega)]
    by_cases h2 : V m ≤ x + y
    · have hc : cmpOf (x + y) (V m) ≥ 0 := by
        unfold cmpOf
        rw [if_neg (by omega)]
        split <;> omega
      simp only [hc, if_true]
      rw [show (x + y) % V m = x + y - V m by rw [← Int.sub_emod_right, Int.emod_eq_of_lt (by omega) (by omega)]]
    · have hc : ¬ cmpOf (x + y) (V m) ≥ 0 := by
        unfold cmpOf
        rw [if_pos (by omega)]
        omega
      simp only [hc, if_false]
      rw [Int.emod_eq_of_lt (by omega) (by omega)]
theorem q01_AddMod_ok {n : Nat} (hn : 600 ≤ n) {a b m : List Int} (ha : W4 a) (hb : W4 b) (hm : W4 m) : q01_AddMod.m n (a, b, m) = some (restV (V a + V b) m) := by
  have h100 : 100 ≤ n := by omega
  have rm := V_range hm
  simp only [q01_AddMod.m, q01_AddMod.g, eq_zero hm, decide_eq_true_eq, restV]
  split
  · rename_i h0; rw [zero_eq hm h0]
  · rename_i h0
    simp only [q01_Div_ok hn ha hm, q01_Div_ok hn hb hm, divV, h0, if_false, bindO, Option.bind_some]
    rw [q01_less_ok h100 hm ⟨Int.emod_nonneg _ h0, Int.emod_lt_of_pos _ (by omega)⟩ ⟨Int.emod_nonneg _ h0, Int.emod_lt_of_pos _ (by omega)⟩]
    simp only [Option.bind_some, Int.emod_add_emod, Int.add_emod_emod]
theorem q01_MulMod_loop {n : Nat} (hn : 100 ≤ n) {b m : List Int} {x : Int} (hb : W4 b) (hm : W4 m) (hx : 0 ≤ x ∧ x < V m) (z : List Int) : ∀ (j fuel : Nat), j ≤ 256 → j + 1 ≤ fuel →
    q01_MulMod.l6_0.g (fun a0 a1 => (a0, a1)) n fuel ((j : Int) - 1) (ofV (x * (V b / 2 ^ j) % V m)) m b (ofV x) z = some (ofV (x * V b % V m), z)
  | 0, fuel + 1, _, _ => by
    show q01_MulMod.l6_0.r _ _ _ _ _ _ _ _ _ = _
    simp only [q01_MulMod.l6_0.r, show decide (((0 : Nat) : Int) - 1 ≥ 0) = false from rfl, Bool.false_eq_true, if_false, Int.pow_zero, Int.ediv_one]
  | j + 1, fuel + 1, hj, hf => by
    have h0 : V m ≠ 0 := by omega
    rw [show (((j + 1 : Nat) : Int) - 1) = (j : Int) by omega]
    have ih := q01_MulMod_loop hn hb hm hx z j fuel (by omega) (by omega)
    rw [← ih]
    have hr : 0 ≤ x * (V b / 2 ^ (j + 1)) % V m ∧ x * (V b / 2 ^ (j + 1)) % V m < V m := ⟨Int.emod_nonneg _ h0, Int.emod_lt_of_pos _ (by omega)⟩
    have hr2 : ∀ y : Int, 0 ≤ y % V m ∧ y % V m < V m := fun y => ⟨Int.emod_nonneg _ h0, Int.emod_lt_of_pos _ (by omega)⟩
    show q01_MulMod.l6_0.r _ _ _ _ _ _ _ _ _ = _
    have g1 : (decide ((j : Int) ≥ 0)) = true := by simp
    have w1 : IntKind.wrap .i64 ((j : Int) - 1) = (j : Int) - 1 := by rw [wi64]; omega
    simp only [q01_MulMod.l6_0.r, g1, w1, if_true, q01_less_ok hn hm hr hr, bindO, Option.bind_some, q01_bit_ok hb (show j < 256 by omega), q01_less_ok hn hm (hr2 _) hx, decide_eq_true_eq]
    have hs := half_step (V b) j
    generalize V b / 2 ^ (j + 1) = N at *
    rcases (show V b / 2 ^ j % 2 = 0 ∨ V b / 2 ^ j % 2 = 1 by omega) with hc | hc
    · simp only [hc, show ¬ ((0 : Int) = 1) by omega, if_false]
      rw [hs, hc]
      congr 2
      rw [Int.emod_add_emod, Int.add_emod_emod]
      congr 1
      grind
    · simp only [hc, if_true]
      rw [hs, hc]
      congr 2
      have e := Int.mul_ediv_add_emod (x * N) (V m)
      generalize x * N / V m = q at *
      have e2 : x * N % V m + x * N % V m + x = x * (2 * N + 1) + V m * (- (2 * q)) := by grind
      rw [Int.emod_add_emod, e2, Int.add_mul_emod_self_left]
theorem q01_MulMod_ok {n : Nat} (hn : 600 ≤ n) {a b m : List Int} (ha : W4 a) (hb : W4 b) (hm : W4 m) : q01_MulMod.m n (a, b, m) = some (restV (V a * V b) m) := by
  have rm := V_range hm
  have rb := V_range hb
  simp only [q01_MulMod.m, q01_MulMod.g, eq_zero hm, decide_eq_true_eq, restV]
  split
  · rename_i h0; rw [zero_eq hm h0]
  · rename_i h0
    have hl := q01_MulMod_loop (n := n) (by omega) (x := V a % V m) hb hm ⟨Int.emod_nonneg _ h0, Int.emod_lt_of_pos _ (by omega)⟩ [0, 0, 0, 0] 256 n (by omega) (by omega)
    have hz : V b / 2 ^ 256 = 0 := Int.ediv_eq_zero_of_lt rb.1 (by rw [← B_pow]; exact rb.2)
    rw [hz, Int.mul_zero, Int.zero_emod, show ofV 0 = [0, 0, 0, 0] from rfl, show (((256 : Nat) : Int) - 1) = 255 from rfl] at hl
    simp only [q01_Div_ok hn ha hm, divV, h0, if_false, bindO, Option.bind_some, q01_MulMod.l6_0.m]
    rw [hl]
    simp only [Option.bind_some]
    rw [Int.mul_emod, Int.emod_emod, ← Int.mul_emod]
end Go.Abs.Pure
end
section
set_option linter.unusedVariables false
set_option linter.unusedSimpArgs false
set_option maxRecDepth 20000
namespace Go.Abs.Pure
open Go Go.Abs
theorem mul_mod_B (x y : Int) : (x % B) * (y % B) % B = x * y % B := (Int.mul_emod x y B).symm
theorem ofV_mul (x y : Int) : ofV (V (ofV x) * V (ofV y)) = ofV (x * y) := ofV_congr (by rw [V_ofV, V_ofV, mul_mod_B])
theorem ofV_mul' (x : Int) {y : List Int} : ofV (V (ofV x) * V y) = ofV (x * V y) := ofV_congr (by rw [V_ofV, Int.mul_emod, Int.emod_emod, ← Int.mul_emod])
theorem pow_step (a : Int) (N b : Int) (hN : 0 ≤ N) (hb : b = 0 ∨ b = 1) : a ^ (2 * N + b).toNat = a ^ N.toNat * a ^ N.toNat * (if b = 1 then a else 1) := by
  rcases hb with rfl | rfl
  · rw [show (2 * N + 0).toNat = N.toNat + N.toNat by omega, Int.pow_add]; simp
  · rw [show (2 * N + 1).toNat = N.toNat + N.toNat + 1 by omega, Int.pow_succ, Int.pow_add]; simp
theorem word_Exp_loop {n : Nat} (hn : 100 ≤ n) {a e : List Int} (ha : W4 a) (he : W4 e) (z : List Int) : ∀ (j fuel : Nat), j ≤ 256 → j + 1 ≤ fuel →
    word_Exp.l3_0.g (fun a0 a1 => (a0, a1)) n fuel ((j : Int) - 1) (ofV (V a ^ (V e / 2 ^ j).toNat)) e a z = some (ofV (V a ^ (V e).toNat), z)
  | 0, fuel + 1, _, _ => by
    show word_Exp.l3_0.r _ _ _ _ _ _ _ _ = _
    simp only [word_Exp.l3_0.r, show decide (((0 : Nat) : Int) - 1 ≥ 0) = false from rfl, Bool.false_eq_true, if_false, Int.pow_zero, Int.ediv_one]
  | j + 1, fuel + 1, hj, hf => by
    rw [show (((j + 1 : Nat) : Int) - 1) = (j : Int) by omega]
    rw [← word_Exp_loop hn ha he z j fuel (by omega) (by omega)]
    have re := V_range he
    have hbit := V_bit he (show j < 256 by omega)
    show word_Exp.l3_0.r _ _ _ _ _ _ _ _ = _
    have g1 : (decide ((j : Int) ≥ 0)) = true := by simp
    have w1 : IntKind.wrap .i64 ((j : Int) - 1) = (j : Int) - 1 := by rw [wi64]; omega
    have w : IntKind.wrap .i64 (Int.tdiv (j : Int) 64) = ((j / 64 : Nat) : Int) := by rw [tdiv_nonneg' (by omega), wi64]; omega
    have w2 : Int.tmod (j : Int) 64 = ((j % 64 : Nat) : Int) := by rw [tmod_nonneg' (by omega)]; omega
    have g3 : (0 : Int) ≤ ((j / 64 : Nat) : Int) := by omega
    have g4 : ((j / 64 : Nat) : Int) < 4 := by omega
    have g5 : (0 : Int) ≤ ((j % 64 : Nat) : Int) := by omega
    simp only [word_Exp.l3_0.r, g1, w1, w, w2, g3, g4, g5, if_true, Int.toNat_natCast, word_Mul_ok hn (ofV_W4 _) (ofV_W4 _), word_Mul_ok hn (ofV_W4 _) ha, bindO, Option.bind_some]
    rw [get_bit (he.dig.getD (i := j / 64) (by rw [he.1]; omega)) (by omega), hbit, ofV_mul, ofV_mul']
    have hs := half_step (V e) j
    have hN : 0 ≤ V e / 2 ^ (j + 1) := Int.ediv_nonneg re.1 (Int.le_of_lt (pow_pos' _))
    have hb2 : V e / 2 ^ j % 2 = 0 ∨ V e / 2 ^ j % 2 = 1 := by omega
    generalize V e / 2 ^ (j + 1) = N at *
    generalize hbb : V e / 2 ^ j % 2 = b at *
    rw [hs, pow_step _ N b hN hb2]
    rcases hb2 with rfl | rfl
    · simp
    · simp
theorem q01_Exp_loop {n : Nat} (hn : 100 ≤ n) {a e : List Int} (ha : W4 a) (he : W4 e) (z : List Int) : ∀ (j fuel : Nat), j ≤ 256 → j + 1 ≤ fuel →
    q01_Exp.l3_0.g (fun a0 a1 => (a0, a1)) n fuel ((j : Int) - 1) (ofV (V a ^ (V e / 2 ^ j).toNat)) e a z = some (ofV (V a ^ (V e).toNat), z)
  | 0, fuel + 1, _, _ => by
    show q01_Exp.l3_0.r _ _ _ _ _ _ _ _ = _
    simp only [q01_Exp.l3_0.r, show decide (((0 : Nat) : Int) - 1 ≥ 0) = false from rfl, Bool.false_eq_true, if_false, Int.pow_zero, Int.ediv_one]
  | j + 1, fuel + 1, hj, hf => by
    rw [show (((j + 1 : Nat) : Int) - 1) = (j : Int) by omega]
    rw [← q01_Exp_loop hn ha he z j fuel (by omega) (by omega)]
    have re := V_range he
    show q01_Exp.l3_0.r _ _ _ _ _ _ _ _ = _
    have g1 : (decide ((j : Int) ≥ 0)) = true := by simp
    have w1 : IntKind.wrap .i64 ((j : Int) - 1) = (j : Int) - 1 := by rw [wi64]; omega
    simp only [q01_Exp.l3_0.r, g1, w1, if_true, q01_Mul_ok hn (ofV_W4 _) (ofV_W4 _), q01_Mul_ok hn (ofV_W4 _) ha, q01_bit_ok he (show j < 256 by omega), bindO, Option.bind_some]
    rw [ofV_mul, ofV_mul']
    have hs := half_step (V e) j
    have hN : 0 ≤ V e / 2 ^ (j + 1) := Int.ediv_nonneg re.1 (Int.le_of_lt (pow_pos' _))
    have hb2 : V e / 2 ^ j % 2 = 0 ∨ V e / 2 ^ j % 2 = 1 := by omega
    generalize V e / 2 ^ (j + 1) = N at *
    generalize hbb : V e / 2 ^ j % 2 = b at *
    rw [hs, pow_step _ N b hN hb2]
    rcases hb2 with rfl | rfl
    · simp
    · simp
def powV (a e : List Int) : List Int := ofV (V a ^ (V e).toNat)
theorem one_ofV : ofV 1 = [1, 0, 0, 0] := by decide
theorem size_low {α : Type} (mk0 : Int → α) (mk1 : α) (n fuel : Nat) (a b c d : Int) : word_wide_size.l2_0.g mk0 mk1 n (fuel + 4) 7 [a, b, c, d, 0, 0, 0, 0] = word_wide_size.l2_0.g mk0 mk1 n fuel 3 [a, b, c, d, 0, 0, 0, 0] := by kernel_rfl
theorem size_word {n : Nat} (hn : 600 ≤ n) {e : List Int} (he : W4 e) : ∃ (s : Nat) (p : List Int), s ≤ 256 ∧ V e < 2 ^ s ∧ word_widened.m n e = some p ∧ word_wide_size.m n p = some (s : Int) := by
  obtain ⟨a, b, c, d, rfl, ha, hb, hc, hd⟩ := he.split
  have hv : val 18446744073709551616 [a, b, c, d, 0, 0, 0, 0] = V [a, b, c, d] := by simp only [val, V]; omega
  have hp : Dig 18446744073709551616 [a, b, c, d, 0, 0, 0, 0] := by intro x hx; simp only [List.mem_cons, List.not_mem_nil, or_false] at hx; omega
  obtain ⟨k, rfl⟩ : ∃ k, n = k + 4 := ⟨n - 4, by omega⟩
  obtain ⟨s, h1, h2, h3⟩ := size_loop (n := k + 4) (p := [a, b, c, d, 0, 0, 0, 0]) rfl hp 4 k (by omega) (by omega) (by simp only [List.take_succ_cons, List.take_zero, val]; omega)
  rw [hv] at h2
  refine ⟨s, _, h1, h2, rfl, ?_⟩
  simp only [word_wide_size.m, word_wide_size.g, word_wide_size.l2_0.m, List.getD_cons_zero, List.getD_cons_succ]
  rw [size_low]
  rw [show (((4 : Nat) : Int) - 1) = 3 from rfl] at h3
  rcases h3 with h3 | ⟨rfl, h3⟩
  · rw [h3]; rfl
  · rw [h3]; rfl
theorem word_Exp_ok {n : Nat} (hn : 600 ≤ n) {a e : List Int} (ha : W4 a) (he : W4 e) : word_Exp.m n (a, e) = some (powV a e) := by
  have re := V_range he
  obtain ⟨s, p, k1, k2, k3, k4⟩ := size_word hn he
  have hl := word_Exp_loop (n := n) (by omega) ha he [0, 0, 0, 0] s n k1 (by omega)
  rw [Int.ediv_eq_zero_of_lt re.1 k2, show V a ^ (0 : Int).toNat = 1 by simp, one_ofV] at hl
  simp only [word_Exp.m, word_Exp.g, word_From.m, word_From.g, k3, k4, bindO, Option.bind_some, word_Exp.l3_0.m]
  rw [wi64_id (by omega) (by omega), hl]
  rfl
theorem highest_loop {n : Nat} {e : List Int} (he : W4 e) : ∀ (j fuel : Nat), j ≤ 256 → j + 1 ≤ fuel → V e < 2 ^ j →
    ∃ s : Nat, s ≤ 256 ∧ V e < 2 ^ s ∧ (q01_highest.l2_0.g (fun a0 => Sum.inl a0) (Sum.inr ()) n fuel ((j : Int) - 1) e = some (Sum.inl ((s : Int) - 1)) ∨ (s = 0 ∧ q01_highest.l2_0.g (fun a0 => Sum.inl a0) (Sum.inr ()) n fuel ((j : Int) - 1) e = some (Sum.inr ())))
  | 0, fuel + 1, _, _, hv => ⟨0, by omega, hv, .inr ⟨rfl, rfl⟩⟩
  | j + 1, fuel + 1, hj, hf, hv => by
    rw [show (((j + 1 : Nat) : Int) - 1) = (j : Int) by omega]
    have re := V_range he
    have g1 : (decide ((j : Int) ≥ 0)) = true := by simp
    have w1 : IntKind.wrap .i64 ((j : Int) - 1) = (j : Int) - 1 := by rw [wi64]; omega
    have step : ∀ s, q01_highest.l2_0.g (fun a0 => Sum.inl a0) (Sum.inr ()) n (fuel + 1) (j : Int) e = s ↔ q01_highest.l2_0.r (fun a0 => Sum.inl a0) (Sum.inr ()) n (fun y0 y1 => q01_highest.l2_0.g (fun a0 => Sum.inl a0) (Sum.inr ()) n fuel y0 y1) (j : Int) e = s := fun s => Iff.rfl
    simp only [step, q01_highest.l2_0.r, g1, w1, if_true, q01_bit_ok he (show j < 256 by omega), bindO, Option.bind_some, decide_eq_true_eq]
    by_cases hb : V e / 2 ^ j % 2 = 1
    · refine ⟨j + 1, by omega, hv, .inl ?_⟩
      simp only [hb, if_true]
      rw [show (((j + 1 : Nat) : Int) - 1) = (j : Int) by omega]
    · have hlt : V e < 2 ^ j := by
        have hs := half_step (V e) j
        rw [Int.ediv_eq_zero_of_lt re.1 hv] at hs
        have : V e / 2 ^ j = 0 := by omega
        have h1 := Int.mul_ediv_add_emod (V e) (2 ^ j)
        have h2 := Int.emod_lt_of_pos (V e) (pow_pos' j)
        rw [this] at h1
        omega
      obtain ⟨s, h1, h2, h3⟩ := highest_loop (n := n) he j fuel (by omega) (by omega) hlt
      refine ⟨s, h1, h2, ?_⟩
      simp only [hb, if_false]
      exact h3
theorem q01_highest_ok {n : Nat} (hn : 600 ≤ n) {e : List Int} (he : W4 e) : ∃ s : Nat, s ≤ 256 ∧ V e < 2 ^ s ∧ q01_highest.m n e = some ((s : Int) - 1) := by
  have re := V_range he
  obtain ⟨s, h1, h2, h3⟩ := highest_loop (n := n) he 256 n (by omega) (by omega) (by rw [← B_pow]; exact re.2)
  refine ⟨s, h1, h2, ?_⟩
  rw [show (((256 : Nat) : Int) - 1) = 255 from rfl] at h3
  simp only [q01_highest.m, q01_highest.g, q01_highest.l2_0.m]
  rcases h3 with h3 | ⟨rfl, h3⟩
  · rw [h3]; rfl
  · rw [h3]; rfl
theorem q01_Exp_ok {n : Nat} (hn : 600 ≤ n) {a e : List Int} (ha : W4 a) (he : W4 e) : q01_Exp.m n (a, e) = some (powV a e) := by
  have re := V_range he
  obtain ⟨s, k1, k2, k3⟩ := q01_highest_ok hn he
  have hl := q01_Exp_loop (n := n) (by omega) ha he [0, 0, 0, 0] s n k1 (by omega)
  rw [Int.ediv_eq_zero_of_lt re.1 k2, show V a ^ (0 : Int).toNat = 1 by simp, one_ofV] at hl
  simp only [q01_Exp.m, q01_Exp.g, q01_From.m, q01_From.g, k3, bindO, Option.bind_some, q01_Exp.l3_0.m]
  rw [hl]
  rfl
end Go.Abs.Pure
end
section
set_option linter.unusedVariables false
set_option linter.unusedSimpArgs false
set_option maxRecDepth 20000
namespace Go.Abs.Pure
open Go Go.Abs
theorem low_step (T : Int) (i : Nat) : T % 2 ^ (i + 1) = T % 2 ^ i + T / 2 ^ i % 2 * 2 ^ i := by
  have h1 := Int.mul_ediv_add_emod T (2 ^ i)
  have h2 := Int.mul_ediv_add_emod (T / 2 ^ i) 2
  have e : T = (T % 2 ^ i + T / 2 ^ i % 2 * 2 ^ i) + 2 ^ (i + 1) * (T / 2 ^ i / 2) := by
    rw [Int.pow_succ]
    generalize T % 2 ^ i = u at *
    generalize T / 2 ^ i % 2 = v at *
    generalize T / 2 ^ i / 2 = w at *
    generalize T / 2 ^ i = x at *
    generalize (2 : Int) ^ i = p at *
    grind
  have b1 := Int.emod_nonneg T (Int.ne_of_gt (pow_pos' i))
  have b2 := Int.emod_lt_of_pos T (pow_pos' i)
  have b3 : T / 2 ^ i % 2 = 0 ∨ T / 2 ^ i % 2 = 1 := by omega
  have b4 : 0 ≤ T % 2 ^ i + T / 2 ^ i % 2 * 2 ^ i ∧ T % 2 ^ i + T / 2 ^ i % 2 * 2 ^ i < 2 ^ (i + 1) := by
    rw [Int.pow_succ]
    rcases b3 with h | h <;> rw [h] <;> omega
  conv => lhs; rw [e]
  rw [Int.add_mul_emod_self_left, Int.emod_eq_of_lt b4.1 b4.2]
theorem bit_nat {a k : Nat} : a / 2 ^ k % 2 = if a.testBit k then 1 else 0 := by
  rw [Nat.testBit_eq_decide_div_mod_eq]
  have : a / 2 ^ k % 2 = 0 ∨ a / 2 ^ k % 2 = 1 := by omega
  rcases this with h | h <;> simp [h]
theorem andNot_nat {a k : Nat} (ha : a < 2 ^ 64) (hk : k < 64) (i : Nat) : (BitVec.ofNat 64 a &&& ~~~ BitVec.ofNat 64 (2 ^ k)).toNat.testBit i = (a.testBit i && !decide (k = i)) := by
  have hp : 2 ^ k < 2 ^ 64 := Nat.pow_lt_pow_right (by omega) hk
  rw [BitVec.toNat_and, BitVec.toNat_not, Nat.testBit_and, BitVec.toNat_ofNat, BitVec.toNat_ofNat, Nat.mod_eq_of_lt ha, Nat.mod_eq_of_lt hp, Nat.sub_sub, Nat.add_comm 1 (2 ^ k), Nat.testBit_two_pow_sub_succ hp, Nat.testBit_two_pow]
  by_cases hi : i < 64
  · simp [hi]
  · have : a.testBit i = false := Nat.testBit_lt_two_pow (Nat.lt_of_lt_of_le ha (Nat.pow_le_pow_right (by omega) (by omega)))
    simp [hi, this]
theorem andNot_bit {a : Int} {k : Nat} (ha : 0 ≤ a ∧ a < 18446744073709551616) (hk : k < 64) : ibits .andNot .u64 a (2 ^ k) = a - a / 2 ^ k % 2 * 2 ^ k := by
  obtain ⟨n, rfl⟩ := Int.eq_ofNat_of_zero_le ha.1
  have hp : 2 ^ k < 2 ^ 64 := Nat.pow_lt_pow_right (by omega) hk
  have hn : n < 2 ^ 64 := by omega
  have e1 : BitVec.ofInt 64 (n : Int) = BitVec.ofNat 64 n := BitVec.ofInt_natCast 64 n
  have e2 : BitVec.ofInt 64 ((2 : Int) ^ k) = BitVec.ofNat 64 (2 ^ k) := by
    rw [show ((2 : Int) ^ k) = ((2 ^ k : Nat) : Int) by rw [Int.natCast_pow]; rfl]
    exact BitVec.ofInt_natCast 64 _
  show IntKind.wrap .u64 ((BitVec.ofInt 64 (n : Int) &&& ~~~ BitVec.ofInt 64 ((2 : Int) ^ k)).toNat : Nat) = _
  rw [e1, e2]
  have hb := andNot_nat hn hk
  have hl := (BitVec.ofNat 64 n &&& ~~~ BitVec.ofNat 64 (2 ^ k)).isLt
  generalize (BitVec.ofNat 64 n &&& ~~~ BitVec.ofNat 64 (2 ^ k)).toNat = R at *
  rw [wu64, Int.emod_eq_of_lt (by omega) (by omega)]
  have hc : ((n : Int) / 2 ^ k % 2) = ((n / 2 ^ k % 2 : Nat) : Int) := by rw [Int.natCast_emod, Int.natCast_ediv, Int.natCast_pow]; rfl
  rw [hc, bit_nat]
  have hR : R / 2 ^ k % 2 = 0 := by rw [bit_nat, hb k]; simp
  by_cases ht : n.testBit k = true
  · have : R ||| 2 ^ k = n := by
      apply Nat.eq_of_testBit_eq
      intro i
      rw [Nat.testBit_or, hb i, Nat.testBit_two_pow]
      by_cases hki : k = i
      · subst hki; simp [ht]
      · simp [hki]
    rw [nat_or_bit hR] at this
    rw [if_pos ht, ← this]
    rw [Int.natCast_add, Int.natCast_pow]
    simp
  · have : R = n := by
      apply Nat.eq_of_testBit_eq
      intro i
      rw [hb i]
      by_cases hki : k = i
      · subst hki; simp at ht; simp [ht]
      · simp [hki]
    rw [if_neg ht, this]
    simp
theorem or_bit' {a : Int} {k : Nat} (ha : 0 ≤ a ∧ a < 18446744073709551616) (hk : k < 64) : ibits .or .u64 a (2 ^ k) = a + (1 - a / 2 ^ k % 2) * 2 ^ k := by
  by_cases h : a / 2 ^ k % 2 = 0
  · rw [or_bit ha hk h, h]; omega
  · have h1 : a / 2 ^ k % 2 = 1 := by omega
    rw [h1]
    have hp : (2 : Nat) ^ k < 2 ^ 64 := Nat.pow_lt_pow_right (by omega) hk
    have hpi : ((2 : Int) ^ k) = ((2 ^ k : Nat) : Int) := by rw [Int.natCast_pow]; rfl
    obtain ⟨n, rfl⟩ := Int.eq_ofNat_of_zero_le ha.1
    have hc : ((n : Int) / 2 ^ k % 2) = ((n / 2 ^ k % 2 : Nat) : Int) := by rw [Int.natCast_emod, Int.natCast_ediv, Int.natCast_pow]; rfl
    rw [hc, bit_nat] at h1
    have ht : n.testBit k = true := by
      by_cases ht : n.testBit k = true
      · exact ht
      · rw [if_neg ht] at h1; simp at h1
    have hp2 : ((2 ^ k : Nat) : Int) < 18446744073709551616 := Int.ofNat_lt.2 hp
    rw [hpi, or_u64 ha.1 ha.2 (Int.natCast_nonneg _) hp2, Int.toNat_natCast, Int.toNat_natCast]
    have : n ||| 2 ^ k = n := by
      apply Nat.eq_of_testBit_eq
      intro i
      rw [Nat.testBit_or, Nat.testBit_two_pow]
      by_cases hki : k = i
      · subst hki; simp [ht]
      · simp [hki]
    rw [this]; omega
theorem set_digit {q : List Int} (h : W4 q) {i : Nat} (hi : i < 256) {t : Int} (hd : 0 ≤ q.getD (i / 64) 0 + t * 2 ^ (i % 64) ∧ q.getD (i / 64) 0 + t * 2 ^ (i % 64) < 18446744073709551616) :
    W4 (q.set (i / 64) (q.getD (i / 64) 0 + t * 2 ^ (i % 64))) ∧ V (q.set (i / 64) (q.getD (i / 64) 0 + t * 2 ^ (i % 64))) = V q + t * 2 ^ i := by
  have hl := h.1
  have hw : W4 (q.set (i / 64) (q.getD (i / 64) 0 + t * 2 ^ (i % 64))) := ⟨by simp [hl], h.dig.set hd⟩
  refine ⟨hw, ?_⟩
  rw [V_val hw.1, V_val hl, val_set (by omega)]
  have : (2 : Int) ^ i = 2 ^ (i % 64) * 18446744073709551616 ^ (i / 64) := by
    rw [show (18446744073709551616 : Int) = 2 ^ 64 from rfl, ← Int.pow_mul, ← Int.pow_add]; congr 1; omega
  rw [this]
  generalize q.getD (i / 64) 0 = u
  generalize (2 : Int) ^ (i % 64) = p1
  generalize (18446744073709551616 : Int) ^ (i / 64) = p2
  grind
theorem pow_lt64 {k : Nat} (hk : k < 64) : (2 : Int) ^ k < 18446744073709551616 := by
  have : (2 : Nat) ^ k < 2 ^ 64 := Nat.pow_lt_pow_right (by omega) hk
  have h2 : ((2 ^ k : Nat) : Int) < ((2 ^ 64 : Nat) : Int) := by omega
  rw [Int.natCast_pow] at h2
  exact h2
def b2i (c : Bool) : Int := if c = true then 1 else 0
theorem q01_with_ok {n : Nat} {q : List Int} (h : W4 q) {i : Nat} (hi : i < 256) (c : Bool) : ∃ q', q01_with.m n (q, (i : Int), c) = some q' ∧ W4 q' ∧ V q' = V q + (b2i c - V q / 2 ^ i % 2) * 2 ^ i := by
  have w : IntKind.wrap .i64 (Int.tdiv (i : Int) 64) = ((i / 64 : Nat) : Int) := by rw [tdiv_nonneg' (by omega), wi64]; omega
  have w2 : IntKind.wrap .u64 (Int.tmod (i : Int) 64) = ((i % 64 : Nat) : Int) := by rw [tmod_nonneg' (by omega), wu64]; omega
  have g3 : (0 : Int) ≤ ((i / 64 : Nat) : Int) := by omega
  have g4 : ((i / 64 : Nat) : Int) < 4 := by omega
  have g5 : (0 : Int) ≤ ((i % 64 : Nat) : Int) := by omega
  have hl := h.1
  have hd := h.dig.getD (i := i / 64) (by omega)
  have hk : i % 64 < 64 := by omega
  have hbit := V_bit h hi
  simp only [q01_with.m, q01_with.g, w, w2, g3, g4, g5, if_true, Int.toNat_natCast, shl_one hk]
  cases c with
  | true =>
    rw [or_bit' hd hk]
    have hr := (or_zero hd.1 hd.2 (Int.le_of_lt (pow_pos' (i % 64))) (pow_lt64 hk)).1
    rw [or_bit' hd hk] at hr
    obtain ⟨h1, h2⟩ := set_digit h hi hr
    exact ⟨_, rfl, h1, by rw [h2, hbit]; rfl⟩
  | false =>
    rw [andNot_bit hd hk]
    have hr : 0 ≤ ibits .andNot .u64 (q.getD (i / 64) 0) (2 ^ (i % 64)) ∧ ibits .andNot .u64 (q.getD (i / 64) 0) (2 ^ (i % 64)) < 18446744073709551616 := by
      show 0 ≤ IntKind.wrap .u64 _ ∧ IntKind.wrap .u64 _ < _
      rw [wu64]
      omega
    rw [andNot_bit hd hk] at hr
    have e : q.getD (i / 64) 0 - q.getD (i / 64) 0 / 2 ^ (i % 64) % 2 * 2 ^ (i % 64) = q.getD (i / 64) 0 + (- (q.getD (i / 64) 0 / 2 ^ (i % 64) % 2)) * 2 ^ (i % 64) := by rw [Int.neg_mul]; omega
    rw [e] at hr ⊢
    obtain ⟨h1, h2⟩ := set_digit h hi hr
    refine ⟨_, rfl, h1, ?_⟩
    rw [h2, hbit]
    simp [b2i]
theorem with_low {v c : Int} {i : Nat} (hc : c = 0 ∨ c = 1) : (v + (c - v / 2 ^ i % 2) * 2 ^ i) % 2 ^ i = v % 2 ^ i ∧ (v + (c - v / 2 ^ i % 2) * 2 ^ i) / 2 ^ i % 2 = c := by
  rw [Int.mul_comm, Int.add_mul_emod_self_left, Int.add_mul_ediv_left _ _ (Int.ne_of_gt (pow_pos' i))]
  refine ⟨rfl, ?_⟩
  omega
theorem b2i_or (c : Bool) : b2i c = 0 ∨ b2i c = 1 := by cases c <;> simp [b2i]
theorem shift_loop {n : Nat} {a : List Int} (ha : W4 a) (T : Int) (k : Int) (hk : -256 ≤ k ∧ k ≤ 256) (fill : Bool) (z : List Int)
    (hT1 : ∀ i : Nat, i < 256 → 0 ≤ (i : Int) - k → (i : Int) - k < 256 → T / 2 ^ i % 2 = V a / 2 ^ ((i : Int) - k).toNat % 2)
    (hT2 : ∀ i : Nat, i < 256 → ¬ (0 ≤ (i : Int) - k ∧ (i : Int) - k < 256) → T / 2 ^ i % 2 = b2i fill) :
    ∀ (r i fuel : Nat) (o : List Int), i + r = 256 → r + 1 ≤ fuel → W4 o → V o = T % 2 ^ i → q01_shift.l3_0.g (fun a0 a1 => (a0, a1)) n fuel (i : Int) fill k a o z = some (ofV T, z)
  | 0, i, fuel + 1, o, hi, hf, ho, hv => by
    have : i = 256 := by omega
    subst this
    show q01_shift.l3_0.r _ _ _ _ _ _ _ _ _ = _
    simp only [q01_shift.l3_0.r, show decide (((256 : Nat) : Int) < 256) = false from rfl, Bool.false_eq_true, if_false]
    rw [eq_ofV ho (x := T) (by rw [hv, B_pow])]
  | r + 1, i, fuel + 1, o, hi, hf, ho, hv => by
    have g1 : (decide ((i : Int) < 256)) = true := by simp; omega
    have w1 : IntKind.wrap .i64 ((i : Int) + 1) = ((i + 1 : Nat) : Int) := by rw [wi64]; omega
    have w2 : IntKind.wrap .i64 ((i : Int) - k) = (i : Int) - k := by rw [wi64]; omega
    have next : ∀ c : Bool, T / 2 ^ i % 2 = b2i c → ((q01_with.m n (o, (i : Int), c)).bind fun r12 => q01_shift.l3_0.g (fun a0 a1 => (a0, a1)) n fuel ((i + 1 : Nat) : Int) fill k a r12 z) = some (ofV T, z) := fun c hc => by
      obtain ⟨o', h1, h2, h3⟩ := q01_with_ok (n := n) ho (i := i) (by omega) c
      rw [h1]
      refine shift_loop ha T k hk fill z hT1 hT2 r (i + 1) fuel o' (by omega) (by omega) h2 ?_
      have hlt : V o < 2 ^ i := by rw [hv]; exact Int.emod_lt_of_pos _ (pow_pos' i)
      have h0 := (V_range ho).1
      have hz : V o / 2 ^ i = 0 := Int.ediv_eq_zero_of_lt h0 hlt
      rw [h3, hz, low_step, hc, hv]
      simp
    show q01_shift.l3_0.r _ _ _ _ _ _ _ _ _ = _
    simp only [q01_shift.l3_0.r, g1, w1, w2, if_true, bindO, decide_eq_true_eq]
    by_cases h1 : (i : Int) - k ≥ 0
    · by_cases h2 : (i : Int) - k < 256
      · have hb := q01_bit_ok (n := n) ha (i := ((i : Int) - k).toNat) (by omega)
        rw [show ((((i : Int) - k).toNat : Nat) : Int) = (i : Int) - k by omega] at hb
        simp only [h1, h2, if_true, hb, Option.bind_some]
        refine next _ ?_
        rw [hT1 i (by omega) h1 h2]
        unfold b2i
        split
        · rename_i h; simpa using h
        · rename_i h
          simp only [decide_eq_true_eq] at h
          omega
      · simp only [h1, h2, if_true, if_false]
        exact next fill (hT2 i (by omega) (by omega))
    · simp only [h1, if_false]
      exact next fill (hT2 i (by omega) (by omega))
theorem q01_shift_ok {n : Nat} (hn : 600 ≤ n) {a : List Int} (ha : W4 a) (T : Int) (k : Int) (hk : -256 ≤ k ∧ k ≤ 256) (fill : Bool)
    (hT1 : ∀ i : Nat, i < 256 → 0 ≤ (i : Int) - k → (i : Int) - k < 256 → T / 2 ^ i % 2 = V a / 2 ^ ((i : Int) - k).toNat % 2)
    (hT2 : ∀ i : Nat, i < 256 → ¬ (0 ≤ (i : Int) - k ∧ (i : Int) - k < 256) → T / 2 ^ i % 2 = b2i fill) : q01_shift.m n (a, k, fill) = some (ofV T) := by
  have := shift_loop (n := n) ha T k hk fill [0, 0, 0, 0] hT1 hT2 256 0 n [0, 0, 0, 0] (by omega) (by omega) zero_W4 (by rw [V_zero]; simp)
  simp only [q01_shift.m, q01_shift.g, q01_shift.l3_0.m]
  rw [show ((0 : Nat) : Int) = 0 from rfl] at this
  rw [this]
  rfl
def farV (a : List Int) : Nat := if V a ≤ 256 then (V a).toNat else 256
theorem farV_le (a : List Int) : farV a ≤ 256 := by unfold farV; split <;> omega
end Go.Abs.Pure
end
section
set_option linter.unusedVariables false
set_option linter.unusedSimpArgs false
set_option maxRecDepth 20000
namespace Go.Abs.Pure
open Go Go.Abs
def smallV (a : List Int) : Int × Bool := if V a < 18446744073709551616 then (V a, true) else (0, false)
theorem word_Small_ok {n : Nat} {a : List Int} (ha : W4 a) : word_Small.m n a = some (smallV a) := by
  obtain ⟨a, b, c, d, rfl, ha, hb, hc, hd⟩ := ha.split
  simp only [word_Small.m, word_Small.g, List.getD_cons_zero, List.getD_cons_succ, smallV]
  have o1 := or_zero hb.1 hb.2 hc.1 hc.2
  have o2 := or_zero o1.1.1 o1.1.2 hd.1 hd.2
  rw [o1.2] at o2
  generalize ibits .or .u64 (ibits .or .u64 b c) d = x at *
  by_cases h : V [a, b, c, d] < 18446744073709551616
  · have : x = 0 := o2.2.2 (by simp only [V] at h; omega)
    subst this
    rw [if_pos h]
    have : V [a, b, c, d] = a := by simp only [V] at h ⊢; omega
    rw [this]
    rfl
  · have : x ≠ 0 := fun e => by
      have := o2.2.1 e
      simp only [V] at h
      omega
    rw [if_neg h]
    simp [this]
theorem q01_Small_ok {n : Nat} {a : List Int} (ha : W4 a) : q01_Small.m n a = some (smallV a) := by
  obtain ⟨a, b, c, d, rfl, ha, hb, hc, hd⟩ := ha.split
  simp only [q01_Small.m, q01_Small.g, List.getD_cons_zero, List.getD_cons_succ, smallV, bne_iff_ne, ne_eq]
  by_cases h : V [a, b, c, d] < 18446744073709551616
  · have h1 : b = 0 ∧ c = 0 ∧ d = 0 := by simp only [V] at h; omega
    obtain ⟨rfl, rfl, rfl⟩ := h1
    rw [if_pos h]
    have : V [a, 0, 0, 0] = a := by simp only [V]; omega
    rw [this]
    simp
  · rw [if_neg h]
    by_cases h1 : b = 0
    · by_cases h2 : c = 0
      · have h3 : d ≠ 0 := fun e => by simp only [V] at h; omega
        simp [h1, h2, h3]
      · simp [h1, h2]
    · simp [h1]
theorem word_far_ok {n : Nat} {a : List Int} (ha : W4 a) : word_far.m n a = some (farV a : Int) := by
  have ra := V_range ha
  simp only [word_far.m, word_far.g, word_Small_ok ha, bindO, Option.bind_some, smallV, farV]
  by_cases h : V a < 18446744073709551616
  · simp only [h, if_true, Bool.not_true, Bool.false_eq_true, if_false]
    by_cases h2 : V a ≤ 256
    · rw [if_neg (by omega), if_pos h2, Int.toNat_of_nonneg ra.1]
    · rw [if_pos (by omega), if_neg h2]; rfl
  · simp only [h, if_false, Bool.not_false, if_true]
    rw [if_neg (by omega)]; rfl
theorem q01_far_ok {n : Nat} {a : List Int} (ha : W4 a) : q01_far.m n a = some (farV a : Int) := by
  have ra := V_range ha
  simp only [q01_far.m, q01_far.g, q01_Small_ok ha, bindO, Option.bind_some, smallV, farV, decide_eq_true_eq]
  by_cases h : V a < 18446744073709551616
  · simp only [h, if_true, Bool.not_true, Bool.false_eq_true, if_false]
    by_cases h2 : V a ≤ 256
    · rw [if_neg (by omega), if_pos h2, wi64_id (by omega) (by omega), Int.toNat_of_nonneg ra.1]
    · rw [if_pos (by omega), if_neg h2]; rfl
  · simp only [h, if_false, Bool.not_false, if_true]
    rw [if_neg (by omega)]; rfl
theorem q01_Shl_ok {n : Nat} (hn : 600 ≤ n) {k a : List Int} (hk : W4 k) (ha : W4 a) : q01_Shl.m n (k, a) = some (ofV (V a * 2 ^ farV k)) := by
  have hf := farV_le k
  simp only [q01_Shl.m, q01_Shl.g, q01_far_ok hk, bindO, Option.bind_some]
  rw [q01_shift_ok hn ha (V a * 2 ^ farV k) (farV k : Int) (by omega) false (fun i hi h1 h2 => ?_) fun i hi h => ?_]
  · rfl
  · rw [show ((i : Int) - (farV k : Int)).toNat = i - farV k by omega, pow_split (show farV k ≤ i by omega), Int.mul_comm (V a), Int.mul_ediv_mul_of_pos _ _ (pow_pos' _)]
  · have hlt : i < farV k := by omega
    have := bit_add_mul 0 (V a) hlt
    rw [Int.zero_add, Int.mul_comm] at this
    rw [this]
    simp [b2i]
theorem q01_Shr_ok {n : Nat} (hn : 600 ≤ n) {k a : List Int} (hk : W4 k) (ha : W4 a) : q01_Shr.m n (k, a) = some (ofV (V a / 2 ^ farV k)) := by
  have hf := farV_le k
  have ra := V_range ha
  simp only [q01_Shr.m, q01_Shr.g, q01_far_ok hk, bindO, Option.bind_some]
  rw [wi64_id (by omega) (by omega), Int.zero_sub]
  rw [q01_shift_ok hn ha (V a / 2 ^ farV k) (-(farV k : Int)) (by omega) false (fun i hi h1 h2 => ?_) fun i hi h => ?_]
  · rfl
  · rw [show ((i : Int) - -(farV k : Int)).toNat = farV k + i by omega, div_pow]
  · rw [← div_pow]
    have hge : 256 ≤ farV k + i := by omega
    have : V a < 2 ^ (farV k + i) := by
      rw [pow_split hge, ← B_pow]
      have h1 := Int.mul_le_mul_of_nonneg_left (show (1 : Int) ≤ 2 ^ (farV k + i - 256) by have := pow_pos' (farV k + i - 256); omega) (show 0 ≤ B by simp only [B]; omega)
      omega
    rw [Int.ediv_eq_zero_of_lt ra.1 this]
    rfl
theorem S_bit {a : List Int} (ha : W4 a) {j : Nat} (hj : j < 256) : S a / 2 ^ j % 2 = V a / 2 ^ j % 2 := by
  unfold S
  split
  · rfl
  · rw [show V a - B = V a + 2 ^ 256 * (-1) by rw [← B_pow]; omega, bit_add_mul _ _ hj]
theorem pow_le_pow' {j k : Nat} (h : j ≤ k) : (2 : Int) ^ j ≤ 2 ^ k := by
  rw [pow_split h]
  have h1 := Int.mul_le_mul_of_nonneg_left (show (1 : Int) ≤ 2 ^ (k - j) by have := pow_pos' (k - j); omega) (Int.le_of_lt (pow_pos' j))
  omega
theorem neg_div_pow {x : Int} {j : Nat} (h : x < 0) (h2 : - 2 ^ j ≤ x) : x / 2 ^ j = -1 := by
  have h1 := Int.mul_ediv_add_emod x (2 ^ j)
  have h3 := Int.emod_nonneg x (Int.ne_of_gt (pow_pos' j))
  have h4 := Int.emod_lt_of_pos x (pow_pos' j)
  have p := pow_pos' j
  have u : x / 2 ^ j < 0 := Int.ediv_neg_of_neg_of_pos h p
  have l : -1 ≤ x / 2 ^ j := Int.le_ediv_of_mul_le p (by omega)
  omega
theorem S_high {a : List Int} (ha : W4 a) {j : Nat} (hj : 256 ≤ j) : S a / 2 ^ j % 2 = b2i (decide (H ≤ V a)) := by
  have ra := V_range ha
  have hp := pow_le_pow' hj
  rw [← B_pow] at hp
  unfold S
  by_cases h : H ≤ V a
  · rw [if_neg (by omega), neg_div_pow (by omega) (by omega)]
    simp [h, b2i]
  · rw [if_pos (by omega), Int.ediv_eq_zero_of_lt ra.1 (by omega)]
    simp [h, b2i]
theorem q01_Sar_ok {n : Nat} (hn : 600 ≤ n) {k a : List Int} (hk : W4 k) (ha : W4 a) : q01_Sar.m n (k, a) = some (ofV (S a / 2 ^ farV k)) := by
  have hf := farV_le k
  simp only [q01_Sar.m, q01_Sar.g, q01_far_ok hk, q01_neg_ok ha, bindO, Option.bind_some]
  rw [wi64_id (by omega) (by omega), Int.zero_sub]
  rw [q01_shift_ok hn ha (S a / 2 ^ farV k) (-(farV k : Int)) (by omega) (decide (H ≤ V a)) (fun i hi h1 h2 => ?_) fun i hi h => ?_]
  · rfl
  · rw [show ((i : Int) - -(farV k : Int)).toNat = farV k + i by omega, ← div_pow, S_bit ha (by omega)]
  · rw [← div_pow, S_high ha (by omega)]
def extI (a : List Int) (t : Nat) : Int := if V a / 2 ^ (t - 1) % 2 = 1 then V a % 2 ^ t - 2 ^ t else V a % 2 ^ t
theorem bit_low (x : Int) {j i : Nat} (h : j < i) : x % 2 ^ i / 2 ^ j % 2 = x / 2 ^ j % 2 := by
  have := Int.mul_ediv_add_emod x (2 ^ i)
  conv => rhs; rw [← this, Int.add_comm]
  rw [bit_add_mul _ _ h]
theorem ext_low (a : List Int) (t : Nat) : extI a t % 2 ^ t = V a % 2 ^ t := by
  unfold extI
  split
  · rw [Int.sub_emod_right, Int.emod_emod]
  · rw [Int.emod_emod]
theorem ext_high (a : List Int) {t i : Nat} (h : t ≤ i) : extI a t / 2 ^ i % 2 = V a / 2 ^ (t - 1) % 2 := by
  have b1 := Int.emod_nonneg (V a) (Int.ne_of_gt (pow_pos' t))
  have b2 := Int.emod_lt_of_pos (V a) (pow_pos' t)
  have hp := pow_le_pow' h
  unfold extI
  split
  · rename_i h1
    rw [neg_div_pow (by omega) (by omega), h1]; rfl
  · rename_i h1
    rw [Int.ediv_eq_zero_of_lt b1 (by omega)]
    omega
theorem ext_loop {n : Nat} {a : List Int} (t : Nat) (ht : 1 ≤ t) (z : List Int) :
    ∀ (r i fuel : Nat) (o : List Int), i + r = 256 → t ≤ i → r + 1 ≤ fuel → W4 o → V o % 2 ^ i = extI a t % 2 ^ i → q01_Extend.l6_0.g (fun a0 a1 => (a0, a1)) n fuel (i : Int) ((t - 1 : Nat) : Int) o z = some (ofV (extI a t), z)
  | 0, i, fuel + 1, o, hi, hti, hf, ho, hv => by
    have : i = 256 := by omega
    subst this
    show q01_Extend.l6_0.r _ _ _ _ _ _ _ = _
    simp only [q01_Extend.l6_0.r, show decide (((256 : Nat) : Int) < 256) = false from rfl, Bool.false_eq_true, if_false]
    have r := V_range ho
    rw [eq_ofV ho (x := extI a t) (by rw [B_pow, ← hv, ← B_pow, Int.emod_eq_of_lt r.1 r.2])]
  | r + 1, i, fuel + 1, o, hi, hti, hf, ho, hv => by
    have g1 : (decide ((i : Int) < 256)) = true := by simp; omega
    have w1 : IntKind.wrap .i64 ((i : Int) + 1) = ((i + 1 : Nat) : Int) := by rw [wi64]; omega
    obtain ⟨o', h1, h2, h3⟩ := q01_with_ok (n := n) ho (i := i) (by omega) (decide (V o / 2 ^ (t - 1) % 2 = 1))
    have hbit : V o / 2 ^ (t - 1) % 2 = V a / 2 ^ (t - 1) % 2 := by
      rw [← bit_low (V o) (show t - 1 < i by omega), hv, bit_low _ (by omega), ← bit_low (extI a t) (show t - 1 < t by omega), ext_low, bit_low _ (by omega)]
    have hc : b2i (decide (V o / 2 ^ (t - 1) % 2 = 1)) = V a / 2 ^ (t - 1) % 2 := by
      rw [← hbit]
      unfold b2i
      split
      · rename_i h; simp only [decide_eq_true_eq] at h; omega
      · rename_i h; simp only [decide_eq_true_eq] at h; omega
    show q01_Extend.l6_0.r _ _ _ _ _ _ _ = _
    simp only [q01_Extend.l6_0.r, g1, w1, if_true, q01_bit_ok ho (show t - 1 < 256 by omega), bindO, Option.bind_some, h1]
    refine ext_loop t ht z r (i + 1) fuel o' (by omega) (by omega) (by omega) h2 ?_
    have hw := with_low (v := V o) (i := i) (b2i_or (decide (V o / 2 ^ (t - 1) % 2 = 1)))
    rw [h3, low_step, hw.1, hw.2, hv, hc, low_step (extI a t), ext_high a hti]
def extV (k a : List Int) : List Int := if V k < 31 then ofV (extI a (8 * (V k).toNat + 8)) else a
theorem q01_Extend_ok {n : Nat} (hn : 600 ≤ n) {k a : List Int} (hk : W4 k) (ha : W4 a) : q01_Extend.m n (k, a) = some (extV k a) := by
  have rk := V_range hk
  simp only [q01_Extend.m, q01_Extend.g, q01_Small_ok hk, bindO, Option.bind_some, smallV, extV, decide_eq_true_eq]
  by_cases h : V k < 18446744073709551616
  · simp only [h, if_true, Bool.not_true, Bool.false_eq_true, if_false]
    by_cases h2 : V k < 31
    · rw [if_neg (by omega), if_pos h2]
      have e : V k = ((V k).toNat : Int) := (Int.toNat_of_nonneg rk.1).symm
      generalize (V k).toNat = m at *
      rw [e] at h2 ⊢
      rw [wi64_id (n := (m : Int)) (by omega) (by omega), wi64_id (n := 8 * (m : Int)) (by omega) (by omega), wi64_id (n := 8 * (m : Int) + 7) (by omega) (by omega), wi64_id (n := 8 * (m : Int) + 7 + 1) (by omega) (by omega)]
      have := ext_loop (n := n) (a := a) (8 * m + 8) (by omega) [0, 0, 0, 0] (256 - (8 * m + 8)) (8 * m + 8) n a (by omega) (by omega) (by omega) ha (ext_low a _).symm
      rw [show (((8 * m + 8 : Nat)) : Int) = 8 * (m : Int) + 7 + 1 by omega, show ((8 * m + 8 - 1 : Nat) : Int) = 8 * (m : Int) + 7 by omega] at this
      simp only [q01_Extend.l6_0.m]
      rw [this]
      rfl
    · rw [if_pos (by omega), if_neg h2]
  · simp only [h, if_false, Bool.not_false, if_true]
    rw [if_neg (by omega)]
end Go.Abs.Pure
end
section
set_option linter.unusedVariables false
set_option linter.unusedSimpArgs false
set_option maxRecDepth 20000
namespace Go.Abs.Pure
open Go Go.Abs
theorem or_apart {x y : Int} {s : Nat} (hs : s ≤ 64) (hx : 0 ≤ x ∧ x * 2 ^ s < 18446744073709551616) (hy : 0 ≤ y ∧ y < 2 ^ s) : ibits .or .u64 (x * 2 ^ s) y = x * 2 ^ s + y := by
  obtain ⟨a, rfl⟩ := Int.eq_ofNat_of_zero_le hx.1
  obtain ⟨b, rfl⟩ := Int.eq_ofNat_of_zero_le hy.1
  have hp : ((2 : Int) ^ s) = ((2 ^ s : Nat) : Int) := by rw [Int.natCast_pow]; rfl
  have h1 : b < 2 ^ s := by have := hy.2; rw [hp] at this; exact Int.ofNat_lt.1 this
  have h2 : (a : Int) * 2 ^ s = ((a * 2 ^ s : Nat) : Int) := by rw [hp, Int.natCast_mul]
  have hle : 2 ^ s ≤ 2 ^ 64 := Nat.pow_le_pow_right (by omega) hs
  have hlt : a * 2 ^ s < 2 ^ 64 := by
    have := hx.2
    rw [h2] at this
    have e : (18446744073709551616 : Int) = ((2 ^ 64 : Nat) : Int) := rfl
    rw [e] at this
    exact Int.ofNat_lt.1 this
  rw [h2, or_u64 (Int.natCast_nonneg _) (by omega) (Int.natCast_nonneg _) (by omega), Int.toNat_natCast, Int.toNat_natCast, ← Nat.shiftLeft_eq, ← Nat.shiftLeft_add_eq_or_of_lt h1]
  rw [Nat.shiftLeft_eq, Int.natCast_add]
theorem or_apart' {x y : Int} {s : Nat} (hs : s ≤ 64) (hx : 0 ≤ x ∧ x * 2 ^ s < 18446744073709551616) (hy : 0 ≤ y ∧ y < 2 ^ s) : ibits .or .u64 y (x * 2 ^ s) = x * 2 ^ s + y := by
  rw [← or_apart hs hx hy]
  show IntKind.wrap .u64 ((BitVec.ofInt 64 y ||| BitVec.ofInt 64 (x * 2 ^ s)).toNat : Nat) = IntKind.wrap .u64 ((BitVec.ofInt 64 (x * 2 ^ s) ||| BitVec.ofInt 64 y).toNat : Nat)
  rw [BitVec.or_comm]
theorem left_part (x : Int) {s : Nat} (hs : s ≤ 64) : x * 2 ^ s % 18446744073709551616 = x % 2 ^ (64 - s) * 2 ^ s ∧ x * 2 ^ s / 18446744073709551616 = x / 2 ^ (64 - s) := by
  rw [show (18446744073709551616 : Int) = 2 ^ (64 - s) * 2 ^ s by rw [← Int.pow_add, show 64 - s + s = 64 by omega]; rfl]
  rw [Int.mul_comm x, Int.mul_comm (2 ^ (64 - s))]
  refine ⟨?_, Int.mul_ediv_mul_of_pos _ _ (pow_pos' s)⟩
  rw [Int.mul_emod_mul_of_pos _ _ (pow_pos' s), Int.mul_comm]
theorem pow_two_parts {s : Nat} (hs : s ≤ 64) : (2 : Int) ^ (64 - s) * 2 ^ s = 18446744073709551616 := by rw [← Int.pow_add, show 64 - s + s = 64 by omega]; rfl
def loP (s : Nat) (x : Int) : Int := x * 2 ^ s % 18446744073709551616
def hiP (s : Nat) (x : Int) : Int := x * 2 ^ s / 18446744073709551616
theorem hi_lt {s : Nat} {x : Int} (hs : s ≤ 64) (hx : 0 ≤ x ∧ x < 18446744073709551616) : 0 ≤ hiP s x ∧ hiP s x < 2 ^ s := by
  have p := pow_pos' s
  refine ⟨Int.ediv_nonneg (Int.mul_nonneg hx.1 (Int.le_of_lt p)) (by omega), Int.ediv_lt_of_lt_mul (by omega) ?_⟩
  rw [Int.mul_comm]
  exact Int.mul_lt_mul_of_pos_left hx.2 p
theorem lo_hi {s : Nat} (hs : s ≤ 64) {x y : Int} (hx : 0 ≤ x ∧ x < 18446744073709551616) (hy : 0 ≤ y ∧ y < 18446744073709551616) : ibits .or .u64 (loP s x) (ishr .u64 y ((64 - s : Nat) : Int)) = loP s x + hiP s y ∧ 0 ≤ loP s x + hiP s y ∧ loP s x + hiP s y < 18446744073709551616 := by
  have hlo : loP s x = x % 2 ^ (64 - s) * 2 ^ s := (left_part x hs).1
  have hhi : hiP s y = y / 2 ^ (64 - s) := (left_part y hs).2
  have hl := hi_lt hs hy
  have b0 : 0 ≤ loP s x ∧ loP s x < 18446744073709551616 := ⟨Int.emod_nonneg _ (by omega), Int.emod_lt_of_pos _ (by omega)⟩
  have e1 := Int.emod_nonneg x (Int.ne_of_gt (pow_pos' (64 - s)))
  have e2 := Int.emod_lt_of_pos x (pow_pos' (64 - s))
  rw [ishr_ofNat .u64 y (64 - s) (by simp [IntKind.bits]), ← hhi]
  rw [hlo] at b0 ⊢
  rw [or_apart hs ⟨e1, b0.2⟩ hl]
  refine ⟨rfl, by omega, ?_⟩
  have h3 := Int.mul_le_mul_of_nonneg_right (show x % 2 ^ (64 - s) ≤ 2 ^ (64 - s) - 1 by omega) (Int.le_of_lt (pow_pos' s))
  rw [Int.sub_mul, pow_two_parts hs] at h3
  omega
theorem shl_lo {s : Nat} (hs : s ≤ 64) (x : Int) : ishl .u64 x (s : Int) = loP s x := by
  rw [ishl_ofNat .u64 x s (by simp [IntKind.bits]; omega), wu64]; rfl
def leftD (k : Nat) (a : List Int) (i : Nat) : Int :=
  if i < k / 64 then 0 else if i = k / 64 then loP (k % 64) (a.getD 0 0) else loP (k % 64) (a.getD (i - k / 64) 0) + hiP (k % 64) (a.getD (i - k / 64 - 1) 0)
theorem set_same {l : List Int} {i : Nat} (h : l.getD i 0 = 0) (hi : i < l.length) : l = l.set i 0 := by
  have : l[i] = 0 := by rw [List.getD_eq_getElem?_getD, List.getElem?_eq_getElem hi] at h; simpa using h
  rw [← this, List.set_getElem_self]
theorem Shl_step {α : Type} (mk : List Int → List Int → α) (n : Nat) (rc : Int → Int → List Int → List Int → List Int → Option α) {k : Nat} (hk : k ≤ 256) {a o : List Int} (ha : W4 a) (o' : List Int) {i : Nat} (hi : i < 4) (hl : o.length = 4) (ho : o.getD i 0 = 0) :
    word_Shl.l4_0.r mk n rc (i : Int) (k : Int) a o o' = rc ((i + 1 : Nat) : Int) (k : Int) a (o.set i (leftD k a i)) o' := by
  have hal := ha.1
  have h1 : (decide ((i : Int) < 4)) = true := by simp; omega
  have g1 : (0 : Int) ≤ (i : Int) := by omega
  have g2 : (i : Int) < 4 := by omega
  have w : IntKind.wrap .i64 ((i : Int) - IntKind.wrap .i64 (IntKind.wrap .u64 (Int.tdiv (k : Int) 64))) = (i : Int) - ((k / 64 : Nat) : Int) := by rw [tdiv_nonneg' (by omega), wu64, wi64, wi64]; omega
  have w2 : Int.tmod (k : Int) 64 = ((k % 64 : Nat) : Int) := by rw [tmod_nonneg' (by omega)]; omega
  have w1 : IntKind.wrap .i64 ((i : Int) + 1) = ((i + 1 : Nat) : Int) := by rw [wi64]; omega
  have w3 : IntKind.wrap .u64 (64 - ((k % 64 : Nat) : Int)) = ((64 - k % 64 : Nat) : Int) := by rw [wu64]; omega
  have w4 : IntKind.wrap .i64 ((i : Int) - ((k / 64 : Nat) : Int) - 1) = (i : Int) - ((k / 64 : Nat) : Int) - 1 := by rw [wi64]; omega
  have g5 : (0 : Int) ≤ ((k % 64 : Nat) : Int) := by omega
  have g6 : (0 : Int) ≤ ((64 - k % 64 : Nat) : Int) := by omega
  simp only [word_Shl.l4_0.r, h1, g1, g2, w, w1, w2, w3, w4, g5, g6, if_true, eq_self_iff_true, Int.toNat_natCast, decide_eq_true_eq, shl_lo (show k % 64 ≤ 64 by omega)]
  unfold leftD
  by_cases c1 : i < k / 64
  · have d1 : ¬ ((i : Int) - ((k / 64 : Nat) : Int) ≥ 0) := by omega
    have d2 : ¬ ((i : Int) - ((k / 64 : Nat) : Int) > 0) := by omega
    simp only [c1, d1, d2, if_true, if_false]
    rw [← set_same ho (by omega)]
  · have d1 : ((i : Int) - ((k / 64 : Nat) : Int) ≥ 0) := by omega
    have d3 : (0 : Int) ≤ (i : Int) - ((k / 64 : Nat) : Int) := by omega
    have d4 : (i : Int) - ((k / 64 : Nat) : Int) < 4 := by omega
    have t1 : ((i : Int) - ((k / 64 : Nat) : Int)).toNat = i - k / 64 := by omega
    by_cases c2 : i = k / 64
    · have d2 : ¬ ((i : Int) - ((k / 64 : Nat) : Int) > 0) := by omega
      simp only [c1, c2, d1, d2, d3, d4, t1, if_true, if_false]
      simp
    · have d2 : ((i : Int) - ((k / 64 : Nat) : Int) > 0) := by omega
      have d5 : (0 : Int) ≤ (i : Int) - ((k / 64 : Nat) : Int) - 1 := by omega
      have d6 : (i : Int) - ((k / 64 : Nat) : Int) - 1 < 4 := by omega
      have t2 : ((i : Int) - ((k / 64 : Nat) : Int) - 1).toNat = i - k / 64 - 1 := by omega
      simp only [c1, c2, d1, d2, d3, d4, d5, d6, t1, t2, if_true, if_false]
      by_cases c3 : k % 64 = 0
      · have e : ((((k % 64 : Nat) : Int)) != 0) = false := by rw [c3]; rfl
        simp only [e, Bool.false_eq_true, if_false]
        have hb := ha.dig.getD (i := i - k / 64 - 1) (by omega)
        have : hiP (k % 64) (a.getD (i - k / 64 - 1) 0) = 0 := by
          unfold hiP
          rw [c3, Int.pow_zero, Int.mul_one]
          exact Int.ediv_eq_zero_of_lt hb.1 hb.2
        rw [this, Int.add_zero]
      · have e : ((((k % 64 : Nat) : Int)) != 0) = true := by simp; omega
        simp only [e, if_true]
        have hs : ∀ v : Int, (o.set i v).getD i 0 = v := fun v => by simp [List.getD_eq_getElem?_getD, show i < o.length by omega]
        rw [hs, (lo_hi (show k % 64 ≤ 64 by omega) (ha.dig.getD (i := i - k / 64) (by omega)) (ha.dig.getD (i := i - k / 64 - 1) (by omega))).1]
        simp
theorem word_Shl_ok {n : Nat} (hn : 600 ≤ n) {k a : List Int} (hk : W4 k) (ha : W4 a) : word_Shl.m n (k, a) = some (ofV (V a * 2 ^ farV k)) := by
  have hf := farV_le k
  obtain ⟨m, rfl⟩ : ∃ m, n = m + 5 := ⟨n - 5, by omega⟩
  simp only [word_Shl.m, word_Shl.g, word_far_ok hk, bindO, Option.bind_some, word_Shl.l4_0.m]
  generalize farV k = j at *
  have run : word_Shl.l4_0.g (fun a0 a1 => (a0, a1)) (m + 5) (m + 5) 0 (j : Int) a [0, 0, 0, 0] [0, 0, 0, 0] = some ([leftD j a 0, leftD j a 1, leftD j a 2, leftD j a 3], [0, 0, 0, 0]) := by
    refine (Shl_step _ _ _ hf ha _ (i := 0) (by omega) rfl rfl).trans ?_
    refine (Shl_step _ _ _ hf ha _ (i := 1) (by omega) rfl rfl).trans ?_
    refine (Shl_step _ _ _ hf ha _ (i := 2) (by omega) rfl rfl).trans ?_
    refine (Shl_step _ _ _ hf ha _ (i := 3) (by omega) rfl rfl).trans ?_
    rfl
  rw [run]
  simp only [Option.bind_some]
  congr 1
  have hs : j % 64 ≤ 64 := by omega
  have hq : j / 64 ≤ 4 := by omega
  have hj : j = j % 64 + 64 * (j / 64) := by omega
  have hT : V a * 2 ^ j = V a * 2 ^ (j % 64) * 2 ^ (64 * (j / 64)) := by conv => lhs; rw [hj, Int.pow_add, ← Int.mul_assoc]
  rw [hT]
  obtain ⟨a0, a1, a2, a3, rfl, h0, h1, h2, h3⟩ := ha.split
  have b01 := (lo_hi hs h1 h0).2
  have b12 := (lo_hi hs h2 h1).2
  have b23 := (lo_hi hs h3 h2).2
  have bl : ∀ x, 0 ≤ loP (j % 64) x ∧ loP (j % 64) x < 18446744073709551616 := fun x => ⟨Int.emod_nonneg _ (by omega), Int.emod_lt_of_pos _ (by omega)⟩
  have ex : ∀ x, x * 2 ^ (j % 64) = loP (j % 64) x + 18446744073709551616 * hiP (j % 64) x := fun x => by
    have := Int.mul_ediv_add_emod (x * 2 ^ (j % 64)) 18446744073709551616
    unfold loP hiP; omega
  have hV : V [a0, a1, a2, a3] * 2 ^ (j % 64) = V [a0 * 2 ^ (j % 64), a1 * 2 ^ (j % 64), a2 * 2 ^ (j % 64), a3 * 2 ^ (j % 64)] := by
    simp only [V, Int.add_mul]
    rw [Int.mul_right_comm a1, Int.mul_right_comm a2, Int.mul_right_comm a3]
  rw [hV, ex a0, ex a1, ex a2, ex a3]
  have l0 := bl a0
  have l1 := bl a1
  have l2 := bl a2
  have l3 := bl a3
  clear run hT ex bl hV h0 h1 h2 h3
  have hz : (0 : Int) ≤ 0 ∧ (0 : Int) < 18446744073709551616 := by omega
  rcases (show j / 64 = 0 ∨ j / 64 = 1 ∨ j / 64 = 2 ∨ j / 64 = 3 ∨ j / 64 = 4 by omega) with h | h | h | h | h <;>
    simp only [leftD, h, Nat.reduceSub, Nat.reduceLT, Nat.reduceEqDiff, Nat.lt_irrefl, if_true, if_false, List.getD_cons_zero, List.getD_cons_succ, reduceCtorEq, Nat.reduceMul] <;> clear hj hq hf h <;>
    generalize loP (j % 64) a0 = u0 at * <;>
    generalize loP (j % 64) a1 = u1 at * <;>
    generalize loP (j % 64) a2 = u2 at * <;>
    generalize loP (j % 64) a3 = u3 at * <;>
    generalize hiP (j % 64) a0 = v0 at * <;>
    generalize hiP (j % 64) a1 = v1 at * <;>
    generalize hiP (j % 64) a2 = v2 at * <;>
    generalize hiP (j % 64) a3 = v3 at *
  · refine digits v3 l0 b01 b12 b23 ?_
    simp only [V, B, Nat.mul_zero, Int.pow_zero]
    simp
    omega
  · refine digits (v3 * 18446744073709551616 + u3 + v2) hz l0 b01 b12 ?_
    simp only [V, B, Nat.mul_one, show (2 : Int) ^ 64 = 18446744073709551616 from rfl]
    simp
    omega
  · refine digits (v3 * 340282366920938463463374607431768211456 + (u3 + v2) * 18446744073709551616 + u2 + v1) hz hz l0 b01 ?_
    simp only [V, B, Nat.reduceMul, show (2 : Int) ^ 128 = 340282366920938463463374607431768211456 from rfl]
    simp
    omega
  · refine digits (v3 * 6277101735386680763835789423207666416102355444464034512896 + (u3 + v2) * 340282366920938463463374607431768211456 + (u2 + v1) * 18446744073709551616 + u1 + v0) hz hz hz l0 ?_
    simp only [V, B, Nat.reduceMul, show (2 : Int) ^ 192 = 6277101735386680763835789423207666416102355444464034512896 from rfl]
    simp
    omega
  · refine digits (u0 + (u1 + v0) * 18446744073709551616 + (u2 + v1) * 340282366920938463463374607431768211456 + (u3 + v2) * 6277101735386680763835789423207666416102355444464034512896 + v3 * 115792089237316195423570985008687907853269984665640564039457584007913129639936) hz hz hz hz ?_
    simp only [V, B, Nat.reduceMul, show (2 : Int) ^ 256 = 115792089237316195423570985008687907853269984665640564039457584007913129639936 from rfl]
    simp
    omega
def atP (f : Int) (a : List Int) (i : Nat) : Int := if 3 < i then f else a.getD i 0
def rightD (k : Nat) (f : Int) (a : List Int) (i : Nat) : Int := atP f a (i + k / 64) / 2 ^ (k % 64) + atP f a (i + k / 64 + 1) % 2 ^ (k % 64) * 2 ^ (64 - k % 64)
theorem rightS1_ok {n : Nat} {f : Int} {a : List Int} (ha : W4 a) (i : Nat) : word_rightS1.m n ((i : Int), f, a) = some (atP f a i) := by
  simp only [word_rightS1.m, word_rightS1.g, atP, decide_eq_true_eq]
  by_cases h : 3 < i
  · rw [if_pos (by omega), if_pos h]
  · rw [if_neg (by omega), if_neg h, if_pos (by omega), if_pos (by omega), Int.toNat_natCast]
theorem atP_range {f : Int} (hf : 0 ≤ f ∧ f < 18446744073709551616) {a : List Int} (ha : W4 a) (i : Nat) : 0 ≤ atP f a i ∧ atP f a i < 18446744073709551616 := by
  unfold atP
  split
  · exact hf
  · exact ha.dig.getD (by rw [ha.1]; omega)
theorem right_or {s : Nat} (hs : s ≤ 64) (h0 : s ≠ 0) {x y : Int} (hx : 0 ≤ x ∧ x < 18446744073709551616) : ibits .or .u64 (x / 2 ^ s) (ishl .u64 y ((64 - s : Nat) : Int)) = x / 2 ^ s + y % 2 ^ s * 2 ^ (64 - s) := by
  have e := (left_part y (s := 64 - s) (by omega)).1
  rw [show 64 - (64 - s) = s by omega] at e
  rw [ishl_ofNat .u64 y (64 - s) (by simp [IntKind.bits]), wu64, e]
  have m0 := Int.emod_nonneg y (Int.ne_of_gt (pow_pos' s))
  have m1 := Int.emod_lt_of_pos y (pow_pos' s)
  have h3 := Int.mul_le_mul_of_nonneg_right (show y % 2 ^ s ≤ 2 ^ s - 1 by omega) (Int.le_of_lt (pow_pos' (64 - s)))
  have hp : (2 : Int) ^ s * 2 ^ (64 - s) = 18446744073709551616 := by rw [Int.mul_comm]; exact pow_two_parts hs
  rw [Int.sub_mul, hp] at h3
  have p2 := pow_pos' (64 - s)
  rw [or_apart' (by omega) ⟨m0, by omega⟩ ⟨Int.ediv_nonneg hx.1 (Int.le_of_lt (pow_pos' s)), Int.ediv_lt_of_lt_mul (pow_pos' s) (by rw [pow_two_parts hs]; exact hx.2)⟩]
  omega
theorem right_range {s : Nat} (hs : s ≤ 64) {x y : Int} (hx : 0 ≤ x ∧ x < 18446744073709551616) : 0 ≤ x / 2 ^ s + y % 2 ^ s * 2 ^ (64 - s) ∧ x / 2 ^ s + y % 2 ^ s * 2 ^ (64 - s) < 18446744073709551616 := by
  have m0 := Int.emod_nonneg y (Int.ne_of_gt (pow_pos' s))
  have m1 := Int.emod_lt_of_pos y (pow_pos' s)
  have h3 := Int.mul_le_mul_of_nonneg_right (show y % 2 ^ s ≤ 2 ^ s - 1 by omega) (Int.le_of_lt (pow_pos' (64 - s)))
  have hp : (2 : Int) ^ s * 2 ^ (64 - s) = 18446744073709551616 := by rw [Int.mul_comm]; exact pow_two_parts hs
  rw [Int.sub_mul, hp] at h3
  have p2 := pow_pos' (64 - s)
  have h4 := Int.mul_nonneg m0 (Int.le_of_lt p2)
  have h5 := Int.ediv_nonneg hx.1 (Int.le_of_lt (pow_pos' s))
  have h6 : x / 2 ^ s < 2 ^ (64 - s) := Int.ediv_lt_of_lt_mul (pow_pos' s) (by rw [pow_two_parts hs]; exact hx.2)
  omega
theorem right_step {α : Type} (mk : List Int → List Int → α) (n : Nat) (rc : Int → Int → Int → List Int → List Int → List Int → Option α) {k : Nat} (hk : k ≤ 256) {f : Int} (hf : 0 ≤ f ∧ f < 18446744073709551616) {a o : List Int} (ha : W4 a) (o' : List Int) {i : Nat} (hi : i < 4) (hl : o.length = 4) :
    word_right.l4_0.r mk n rc (i : Int) (k : Int) f a o o' = rc ((i + 1 : Nat) : Int) (k : Int) f a (o.set i (rightD k f a i)) o' := by
  have h1 : (decide ((i : Int) < 4)) = true := by simp; omega
  have g1 : (0 : Int) ≤ (i : Int) := by omega
  have g2 : (i : Int) < 4 := by omega
  have w : IntKind.wrap .i64 ((i : Int) + IntKind.wrap .i64 (IntKind.wrap .u64 (Int.tdiv (k : Int) 64))) = ((i + k / 64 : Nat) : Int) := by rw [tdiv_nonneg' (by omega), wu64, wi64, wi64]; omega
  have w2 : Int.tmod (k : Int) 64 = ((k % 64 : Nat) : Int) := by rw [tmod_nonneg' (by omega)]; omega
  have w1 : IntKind.wrap .i64 ((i : Int) + 1) = ((i + 1 : Nat) : Int) := by rw [wi64]; omega
  have w3 : IntKind.wrap .u64 (64 - ((k % 64 : Nat) : Int)) = ((64 - k % 64 : Nat) : Int) := by rw [wu64]; omega
  have w4 : IntKind.wrap .i64 (((i + k / 64 : Nat) : Int) + 1) = ((i + k / 64 + 1 : Nat) : Int) := by rw [wi64]; omega
  have g5 : (0 : Int) ≤ ((k % 64 : Nat) : Int) := by omega
  have g6 : (0 : Int) ≤ ((64 - k % 64 : Nat) : Int) := by omega
  have sh : ∀ x : Int, ishr .u64 x ((k % 64 : Nat) : Int) = x / 2 ^ (k % 64) := fun x => ishr_ofNat .u64 x (k % 64) (by simp [IntKind.bits]; omega)
  simp only [word_right.l4_0.r, h1, g1, g2, w, w1, w2, w3, w4, g5, g6, if_true, eq_self_iff_true, Int.toNat_natCast, rightS1_ok ha, bindO, Option.bind_some, sh]
  unfold rightD
  by_cases c3 : k % 64 = 0
  · have e : ((((k % 64 : Nat) : Int)) != 0) = false := by rw [c3]; rfl
    simp only [e, Bool.false_eq_true, if_false]
    rw [c3]
    simp
  · have e : ((((k % 64 : Nat) : Int)) != 0) = true := by simp; omega
    have hs : ∀ v : Int, (o.set i v).getD i 0 = v := fun v => by simp [List.getD_eq_getElem?_getD, show i < o.length by omega]
    simp only [e, if_true, hs]
    rw [right_or (by omega) c3 (atP_range hf ha _)]
    simp
theorem word_right_ok {n : Nat} (hn : 600 ≤ n) {k : Nat} (hk : k ≤ 256) {a : List Int} (ha : W4 a) {f f' : Int} (hf : (f = 0 ∧ f' = 0) ∨ (f = -1 ∧ f' = 18446744073709551615)) :
    word_right.m n ((k : Int), a, f') = some (ofV ((V a + B * f) / 2 ^ k)) := by
  obtain ⟨m, rfl⟩ : ∃ m, n = m + 5 := ⟨n - 5, by omega⟩
  have hf' : 0 ≤ f' ∧ f' < 18446744073709551616 := by omega
  simp only [word_right.m, word_right.g, word_right.l4_0.m]
  have run : word_right.l4_0.g (fun a0 a1 => (a0, a1)) (m + 5) (m + 5) 0 (k : Int) f' a [0, 0, 0, 0] [0, 0, 0, 0] = some ([rightD k f' a 0, rightD k f' a 1, rightD k f' a 2, rightD k f' a 3], [0, 0, 0, 0]) := by
    refine (right_step _ _ _ hk hf' ha _ (i := 0) (by omega) rfl).trans ?_
    refine (right_step _ _ _ hk hf' ha _ (i := 1) (by omega) rfl).trans ?_
    refine (right_step _ _ _ hk hf' ha _ (i := 2) (by omega) rfl).trans ?_
    refine (right_step _ _ _ hk hf' ha _ (i := 3) (by omega) rfl).trans ?_
    rfl
  rw [run]
  simp only [bindO, Option.bind_some]
  congr 1
  have hs : k % 64 ≤ 64 := by omega
  have hj : k = k % 64 + 64 * (k / 64) := by omega
  have hT : (V a + B * f) / 2 ^ k = (V a + B * f) / 2 ^ (k % 64) / 2 ^ (64 * (k / 64)) := by conv => lhs; rw [hj, div_pow]
  rw [hT]
  have rr : ∀ i, 0 ≤ rightD k f' a i ∧ rightD k f' a i < 18446744073709551616 := fun i => right_range hs (atP_range hf' ha _)
  -- the parts that are shifted by less than one part
  have hfill : f' / 2 ^ (k % 64) + f' % 2 ^ (k % 64) * 2 ^ (64 - k % 64) = f' := by
    rcases hf with ⟨_, rfl⟩ | ⟨_, rfl⟩
    · simp
    · have p1 := pow_pos' (k % 64)
      have p2 := pow_pos' (64 - k % 64)
      have hp := pow_two_parts hs
      have e1 : (18446744073709551615 : Int) = (2 ^ (k % 64) - 1) + 2 ^ (k % 64) * (2 ^ (64 - k % 64) - 1) := by
        rw [Int.mul_sub, Int.mul_comm (2 ^ (k % 64)), hp]; omega
      have e2 : (18446744073709551615 : Int) / 2 ^ (k % 64) = 2 ^ (64 - k % 64) - 1 := by
        conv => lhs; rw [e1]
        rw [Int.add_mul_ediv_left _ _ (Int.ne_of_gt p1), Int.ediv_eq_zero_of_lt (by omega) (by omega)]
        omega
      have e3 : (18446744073709551615 : Int) % 2 ^ (k % 64) = 2 ^ (k % 64) - 1 := by
        conv => lhs; rw [e1]
        rw [Int.add_mul_emod_self_left, Int.emod_eq_of_lt (by omega) (by omega)]
      rw [e2, e3, Int.sub_mul, Int.mul_comm (2 ^ (k % 64)), hp]
      omega
  have hff : f' = f + 18446744073709551616 * (- f) := by omega
  obtain ⟨a0, a1, a2, a3, rfl, h0, h1, h2, h3⟩ := ha.split
  have hY : (V [a0, a1, a2, a3] + B * f) / 2 ^ (k % 64) = V [a0 / 2 ^ (k % 64) + a1 % 2 ^ (k % 64) * 2 ^ (64 - k % 64), a1 / 2 ^ (k % 64) + a2 % 2 ^ (k % 64) * 2 ^ (64 - k % 64), a2 / 2 ^ (k % 64) + a3 % 2 ^ (k % 64) * 2 ^ (64 - k % 64), a3 / 2 ^ (k % 64) + f' % 2 ^ (k % 64) * 2 ^ (64 - k % 64)] + B * f := by
    have p1 := pow_pos' (k % 64)
    have hp := pow_two_parts hs
    have m0 := Int.emod_nonneg a0 (Int.ne_of_gt p1)
    have m1 := Int.emod_lt_of_pos a0 p1
    have ff : f' = 2 ^ (k % 64) * f + (f' - 2 ^ (k % 64) * f) := by omega
    have fm : f' % 2 ^ (k % 64) * 2 ^ (64 - k % 64) * 2 ^ (k % 64) = 18446744073709551616 * (f' % 2 ^ (k % 64)) := by rw [Int.mul_assoc, hp, Int.mul_comm]
    have key : V [a0, a1, a2, a3] + B * f = a0 % 2 ^ (k % 64) + 2 ^ (k % 64) * (V [a0 / 2 ^ (k % 64) + a1 % 2 ^ (k % 64) * 2 ^ (64 - k % 64), a1 / 2 ^ (k % 64) + a2 % 2 ^ (k % 64) * 2 ^ (64 - k % 64), a2 / 2 ^ (k % 64) + a3 % 2 ^ (k % 64) * 2 ^ (64 - k % 64), a3 / 2 ^ (k % 64) + f' % 2 ^ (k % 64) * 2 ^ (64 - k % 64)] + B * f) := by
      have d0 := Int.mul_ediv_add_emod a0 (2 ^ (k % 64))
      have d1 := Int.mul_ediv_add_emod a1 (2 ^ (k % 64))
      have d2 := Int.mul_ediv_add_emod a2 (2 ^ (k % 64))
      have d3 := Int.mul_ediv_add_emod a3 (2 ^ (k % 64))
      have d4 := Int.mul_ediv_add_emod f' (2 ^ (k % 64))
      have e3 : f' % 2 ^ (k % 64) = 2 ^ (k % 64) * (-f) + f := by
        rcases hf with ⟨rfl, rfl⟩ | ⟨rfl, rfl⟩
        · simp
        · have e1 : (18446744073709551615 : Int) = (2 ^ (k % 64) - 1) + 2 ^ (k % 64) * (2 ^ (64 - k % 64) - 1) := by
            rw [Int.mul_sub, Int.mul_comm (2 ^ (k % 64)), hp]; omega
          conv => lhs; rw [e1]
          rw [Int.add_mul_emod_self_left, Int.emod_eq_of_lt (by omega) (by omega)]
          omega
      simp only [V, B]
      generalize a0 / 2 ^ (k % 64) = x0 at *
      generalize a1 / 2 ^ (k % 64) = x1 at *
      generalize a2 / 2 ^ (k % 64) = x2 at *
      generalize a3 / 2 ^ (k % 64) = x3 at *
      generalize a0 % 2 ^ (k % 64) = y0 at *
      generalize a1 % 2 ^ (k % 64) = y1 at *
      generalize a2 % 2 ^ (k % 64) = y2 at *
      generalize a3 % 2 ^ (k % 64) = y3 at *
      generalize f' % 2 ^ (k % 64) = y4 at *
      generalize (2 : Int) ^ (k % 64) = p at *
      generalize (2 : Int) ^ (64 - k % 64) = p' at *
      clear rr hfill run hT hj fm ff
      grind
    rw [key, Int.add_mul_ediv_left _ _ (Int.ne_of_gt p1), Int.ediv_eq_zero_of_lt m0 m1, Int.zero_add]
  rw [hY]
  have r0 := rr 0
  have r1 := rr 1
  have r2 := rr 2
  have r3 := rr 3
  have c0 : 0 ≤ a0 / 2 ^ (k % 64) + a1 % 2 ^ (k % 64) * 2 ^ (64 - k % 64) ∧ a0 / 2 ^ (k % 64) + a1 % 2 ^ (k % 64) * 2 ^ (64 - k % 64) < 18446744073709551616 := right_range hs h0
  have c1 : 0 ≤ a1 / 2 ^ (k % 64) + a2 % 2 ^ (k % 64) * 2 ^ (64 - k % 64) ∧ a1 / 2 ^ (k % 64) + a2 % 2 ^ (k % 64) * 2 ^ (64 - k % 64) < 18446744073709551616 := right_range hs h1
  have c2 : 0 ≤ a2 / 2 ^ (k % 64) + a3 % 2 ^ (k % 64) * 2 ^ (64 - k % 64) ∧ a2 / 2 ^ (k % 64) + a3 % 2 ^ (k % 64) * 2 ^ (64 - k % 64) < 18446744073709551616 := right_range hs h2
  have c3 : 0 ≤ a3 / 2 ^ (k % 64) + f' % 2 ^ (k % 64) * 2 ^ (64 - k % 64) ∧ a3 / 2 ^ (k % 64) + f' % 2 ^ (k % 64) * 2 ^ (64 - k % 64) < 18446744073709551616 := right_range hs h3
  clear rr run hT hY hj r0 r1 r2 r3
  simp only [rightD, atP]
  rcases (show k / 64 = 0 ∨ k / 64 = 1 ∨ k / 64 = 2 ∨ k / 64 = 3 ∨ k / 64 = 4 by omega) with h | h | h | h | h <;> rw [h] <;> simp only [Nat.reduceAdd, Nat.reduceMul, Nat.reduceLT, if_true, if_false, List.getD_cons_zero, List.getD_cons_succ, hfill] <;> clear hfill <;>
    generalize a0 / 2 ^ (k % 64) + a1 % 2 ^ (k % 64) * 2 ^ (64 - k % 64) = e0 at * <;> generalize a1 / 2 ^ (k % 64) + a2 % 2 ^ (k % 64) * 2 ^ (64 - k % 64) = e1 at * <;> generalize a2 / 2 ^ (k % 64) + a3 % 2 ^ (k % 64) * 2 ^ (64 - k % 64) = e2 at * <;> generalize a3 / 2 ^ (k % 64) + f' % 2 ^ (k % 64) * 2 ^ (64 - k % 64) = e3 at *
  · refine digits f c0 c1 c2 c3 ?_
    simp
  · refine digits f c1 c2 c3 hf' ?_
    simp only [V, B, show (2 : Int) ^ 64 = 18446744073709551616 from rfl]
    omega
  · refine digits f c2 c3 hf' hf' ?_
    simp only [V, B, show (2 : Int) ^ 128 = 340282366920938463463374607431768211456 from rfl]
    omega
  · refine digits f c3 hf' hf' hf' ?_
    simp only [V, B, show (2 : Int) ^ 192 = 6277101735386680763835789423207666416102355444464034512896 from rfl]
    omega
  · refine digits f hf' hf' hf' hf' ?_
    simp only [V, B, show (2 : Int) ^ 256 = 115792089237316195423570985008687907853269984665640564039457584007913129639936 from rfl]
    omega
theorem word_Shr_ok {n : Nat} (hn : 600 ≤ n) {k a : List Int} (hk : W4 k) (ha : W4 a) : word_Shr.m n (k, a) = some (ofV (V a / 2 ^ farV k)) := by
  have := word_right_ok hn (farV_le k) ha (.inl ⟨rfl, rfl⟩)
  simp only [word_Shr.m, word_Shr.g, word_far_ok hk, bindO, Option.bind_some, this, Int.mul_zero, Int.add_zero]
theorem word_Sar_ok {n : Nat} (hn : 600 ≤ n) {k a : List Int} (hk : W4 k) (ha : W4 a) : word_Sar.m n (k, a) = some (ofV (S a / 2 ^ farV k)) := by
  have h0 := word_right_ok hn (farV_le k) ha (.inl ⟨rfl, rfl⟩)
  have h1 := word_right_ok hn (farV_le k) ha (.inr ⟨rfl, rfl⟩)
  simp only [word_Sar.m, word_Sar.g, word_negative_ok ha, word_far_ok hk, bindO, Option.bind_some, h0, h1, Int.mul_zero, Int.add_zero, decide_eq_true_eq, S]
  by_cases h : H ≤ V a
  · rw [if_pos h, if_neg (by omega), Int.mul_neg, Int.mul_one, Int.sub_eq_add_neg]
  · rw [if_neg h, if_pos (by omega)]
end Go.Abs.Pure
end
section
set_option linter.unusedVariables false
set_option linter.unusedSimpArgs false
set_option maxRecDepth 20000
namespace Go.Abs.Pure
open Go Go.Abs
theorem ext_shift {a : List Int} (ha : W4 a) {t : Nat} (h1 : 1 ≤ t) (ht : t ≤ 256) : S (ofV (V a * 2 ^ (256 - t))) / 2 ^ (256 - t) = extI a t := by
  have p1 := pow_pos' (256 - t)
  have pt := pow_pos' t
  have m0 := Int.emod_nonneg (V a) (Int.ne_of_gt pt)
  have m1 := Int.emod_lt_of_pos (V a) pt
  have hB : B = 2 ^ (256 - t) * 2 ^ t := by rw [← Int.pow_add, show 256 - t + t = 256 by omega]; rfl
  have e1 : V a * 2 ^ (256 - t) % B = 2 ^ (256 - t) * (V a % 2 ^ t) := by rw [hB, Int.mul_comm (V a), Int.mul_emod_mul_of_pos _ _ p1]
  have hH : H = 2 ^ (256 - t) * 2 ^ (t - 1) := by rw [← Int.pow_add, show 256 - t + (t - 1) = 255 by omega]; rfl
  have p2 : (2 : Int) ^ t = 2 ^ (t - 1) * 2 := by
    have := Int.pow_succ 2 (t - 1)
    rwa [show (t - 1).succ = t by omega] at this
  have hb := bit_low (V a) (show t - 1 < t by omega)
  have hq : V a % 2 ^ t / 2 ^ (t - 1) = 0 ∨ V a % 2 ^ t / 2 ^ (t - 1) = 1 := by
    have u := Int.ediv_lt_of_lt_mul (pow_pos' (t - 1)) (show V a % 2 ^ t < 2 * 2 ^ (t - 1) by rw [Int.mul_comm]; omega)
    have l := Int.ediv_nonneg m0 (Int.le_of_lt (pow_pos' (t - 1)))
    omega
  have hd := Int.mul_ediv_add_emod (V a % 2 ^ t) (2 ^ (t - 1))
  have hd0 := Int.emod_nonneg (V a % 2 ^ t) (Int.ne_of_gt (pow_pos' (t - 1)))
  have hd1 := Int.emod_lt_of_pos (V a % 2 ^ t) (pow_pos' (t - 1))
  unfold S extI
  rw [V_ofV, e1]
  rcases hq with h | h
  · rw [h] at hb hd
    have hlt : V a % 2 ^ t < 2 ^ (t - 1) := by omega
    have h2 := Int.mul_lt_mul_of_pos_left hlt p1
    rw [if_pos (by rw [hH]; exact h2), if_neg (by omega), Int.mul_ediv_cancel_left _ (Int.ne_of_gt p1)]
  · rw [h] at hb hd
    have hge : 2 ^ (t - 1) ≤ V a % 2 ^ t := by omega
    have h2 := Int.mul_le_mul_of_nonneg_left hge (Int.le_of_lt p1)
    rw [if_neg (by rw [hH]; omega), if_pos (by omega)]
    have : 2 ^ (256 - t) * (V a % 2 ^ t) - B = 2 ^ (256 - t) * (V a % 2 ^ t - 2 ^ t) := by rw [hB, Int.mul_sub]
    rw [this, Int.mul_ediv_cancel_left _ (Int.ne_of_gt p1)]
theorem word_Extend_ok {n : Nat} (hn : 600 ≤ n) {k a : List Int} (hk : W4 k) (ha : W4 a) : word_Extend.m n (k, a) = some (extV k a) := by
  have rk := V_range hk
  simp only [word_Extend.m, word_Extend.g, word_Small_ok hk, bindO, Option.bind_some, smallV, extV, decide_eq_true_eq]
  by_cases h : V k < 18446744073709551616
  · simp only [h, if_true, Bool.not_true, Bool.false_eq_true, if_false]
    by_cases h2 : V k < 31
    · rw [if_neg (by omega), if_pos h2]
      have e : V k = ((V k).toNat : Int) := (Int.toNat_of_nonneg rk.1).symm
      generalize (V k).toNat = m at *
      rw [e] at h2 ⊢
      rw [wu64_id (n := 8 * (m : Int)) (by omega) (by omega), wu64_id (n := 248 - 8 * (m : Int)) (by omega) (by omega)]
      have w : W4 [248 - 8 * (m : Int), 0, 0, 0] := .mk (by omega) (by omega) (by omega) (by omega)
      have f : farV [248 - 8 * (m : Int), 0, 0, 0] = 256 - (8 * m + 8) := by
        unfold farV
        have : V [248 - 8 * (m : Int), 0, 0, 0] = 248 - 8 * (m : Int) := by simp only [V]; omega
        rw [this, if_pos (by omega)]
        omega
      simp only [word_From.m, word_From.g, Option.bind_some, word_Shl_ok hn w ha, word_Sar_ok hn w (ofV_W4 _), f]
      rw [ext_shift ha (by omega) (by omega)]
    · rw [if_pos (by omega), if_neg h2]
  · simp only [h, if_false, Bool.not_false, if_true]
    rw [if_neg (by omega)]
def byteI (a : List Int) (j : Nat) : Int := V a / 2 ^ (8 * j) % 256
def bytesV (a : List Int) : List Int := (List.range 32).map fun i => byteI a (31 - i)
theorem byte_add_mul (x v : Int) {j : Nat} (h : j < 8) : (x + 2 ^ 64 * v) / 2 ^ (8 * j) % 256 = x / 2 ^ (8 * j) % 256 := by
  rw [pow_split (show 8 * j ≤ 64 by omega), Int.mul_assoc, Int.add_mul_ediv_left _ _ (Int.ne_of_gt (pow_pos' _)), pow_split (show 8 ≤ 64 - 8 * j by omega), Int.mul_assoc]
  exact Int.add_mul_emod_self_left _ _ _
theorem val_byte : ∀ {l : List Int} (h : Dig 18446744073709551616 l) {j : Nat} (hj : j / 8 < l.length), l.getD (j / 8) 0 / 2 ^ (j % 8 * 8) % 256 = val 18446744073709551616 l / 2 ^ (8 * j) % 256
  | x :: r, h, j, hj => by
    have hx := h x (by simp)
    by_cases hlt : j < 8
    · rw [show j / 8 = 0 by omega, show j % 8 * 8 = 8 * j by omega]
      simp only [List.getD_cons_zero, val]
      rw [show (18446744073709551616 : Int) = 2 ^ 64 from rfl, byte_add_mul x _ hlt]
    · obtain ⟨i, rfl⟩ : ∃ i, j = 8 + i := ⟨j - 8, by omega⟩
      have ih := val_byte (l := r) (fun y hy => h y (by simp [hy])) (j := i) (by simp at hj; omega)
      rw [show (8 + i) / 8 = i / 8 + 1 by omega, show (8 + i) % 8 = i % 8 by omega]
      simp only [List.getD_cons_succ, val]
      rw [ih, show 8 * (8 + i) = 64 + 8 * i by omega, div_pow, show (2 : Int) ^ 64 = 18446744073709551616 from rfl, Int.add_mul_ediv_left _ _ (by omega), show x / 18446744073709551616 = 0 by omega, Int.zero_add]
theorem V_byte {a : List Int} (h : W4 a) {j : Nat} (hj : j < 32) : a.getD (j / 8) 0 / 2 ^ (j % 8 * 8) % 256 = byteI a j := by
  unfold byteI
  rw [V_val h.1]
  exact val_byte h.dig (by rw [h.1]; omega)
theorem get_byte {a : List Int} (h : W4 a) {j : Nat} (hj : j < 32) : IntKind.wrap .u8 (ishr .u64 (a.getD (j / 8) 0) ((j % 8 * 8 : Nat) : Int)) = byteI a j := by
  rw [wu8, ishr_ofNat .u64 _ _ (by simp [IntKind.bits]; omega), V_byte h hj]
theorem q01_Bytes_loop {n : Nat} {a : List Int} (ha : W4 a) : ∀ (r i fuel : Nat), i + r = 32 → r + 1 ≤ fuel → q01_Bytes.l3_0.g (fun a0 => a0) n fuel (i : Int) ((List.range i).map fun j => byteI a (31 - j)) a = some (bytesV a)
  | 0, i, fuel + 1, hi, hf => by
    have : i = 32 := by omega
    subst this
    rfl
  | r + 1, i, fuel + 1, hi, hf => by
    have h1 : (decide ((i : Int) < 32)) = true := by simp; omega
    have w1 : IntKind.wrap .i64 ((i : Int) + 1) = ((i + 1 : Nat) : Int) := by rw [wi64]; omega
    have w2 : IntKind.wrap .i64 (31 - (i : Int)) = ((31 - i : Nat) : Int) := by rw [wi64]; omega
    have w3 : IntKind.wrap .i64 (Int.tdiv ((31 - i : Nat) : Int) 8) = (((31 - i) / 8 : Nat) : Int) := by rw [tdiv_nonneg' (by omega), wi64]; omega
    have w4 : IntKind.wrap .u64 (IntKind.wrap .i64 (Int.tmod ((31 - i : Nat) : Int) 8 * 8)) = (((31 - i) % 8 * 8 : Nat) : Int) := by rw [tmod_nonneg' (by omega), wi64, wu64]; omega
    have g1 : (0 : Int) ≤ (((31 - i) / 8 : Nat) : Int) := by omega
    have g2 : (((31 - i) / 8 : Nat) : Int) < 4 := by omega
    have g3 : (0 : Int) ≤ (((31 - i) % 8 * 8 : Nat) : Int) := by omega
    have g4 : (((List.range i).map fun j => byteI a (31 - j)).length + 1) * 1 ≤ 70368744177664 ∧ ((List.range i).map fun j => byteI a (31 - j)).length + 1 ≤ 9223372036854775807 := by simp; omega
    show q01_Bytes.l3_0.r _ _ _ _ _ _ = _
    simp only [q01_Bytes.l3_0.r, h1, w1, w2, w3, w4, g1, g2, g3, if_true, Int.toNat_natCast]
    rw [if_pos g4, get_byte ha (by omega)]
    have := q01_Bytes_loop (n := n) ha r (i + 1) fuel (by omega) (by omega)
    rw [List.range_succ, List.map_append] at this
    exact this
theorem q01_Bytes_ok {n : Nat} (hn : 100 ≤ n) {a : List Int} (ha : W4 a) : q01_Bytes.m n a = some (bytesV a) := by
  have := q01_Bytes_loop (n := n) ha 32 0 n (by omega) (by omega)
  simp only [q01_Bytes.m, q01_Bytes.g, q01_Bytes.l3_0.m]
  rw [show ((0 : Nat) : Int) = 0 from rfl] at this
  simp only [List.range_zero, List.map_nil] at this
  rw [this]
  rfl
theorem byteI_range (a : List Int) (j : Nat) : 0 ≤ byteI a j ∧ byteI a j < 256 := ⟨Int.emod_nonneg _ (by omega), Int.emod_lt_of_pos _ (by omega)⟩
def nthV (k a : List Int) : List Int := if V k < 32 then [byteI a (31 - (V k).toNat), 0, 0, 0] else [0, 0, 0, 0]
theorem word_Byte_ok {n : Nat} {k a : List Int} (hk : W4 k) (ha : W4 a) : word_Byte.m n (k, a) = some (nthV k a) := by
  have rk := V_range hk
  simp only [word_Byte.m, word_Byte.g, word_Small_ok hk, bindO, Option.bind_some, smallV, nthV, decide_eq_true_eq]
  by_cases h : V k < 18446744073709551616
  · simp only [h, if_true, Bool.not_true, Bool.false_eq_true, if_false]
    by_cases h2 : V k < 32
    · rw [if_neg (by omega), if_pos h2]
      have e : V k = ((V k).toNat : Int) := (Int.toNat_of_nonneg rk.1).symm
      generalize (V k).toNat = m at *
      rw [e] at h2 ⊢
      have w2 : IntKind.wrap .u64 (31 - (m : Int)) = ((31 - m : Nat) : Int) := by rw [wu64]; omega
      have w3 : IntKind.wrap .u64 (Int.tdiv ((31 - m : Nat) : Int) 8) = (((31 - m) / 8 : Nat) : Int) := by rw [tdiv_nonneg' (by omega), wu64]; omega
      have w4 : IntKind.wrap .u64 (Int.tmod ((31 - m : Nat) : Int) 8 * 8) = (((31 - m) % 8 * 8 : Nat) : Int) := by rw [tmod_nonneg' (by omega), wu64]; omega
      have g1 : (0 : Int) ≤ (((31 - m) / 8 : Nat) : Int) := by omega
      have g2 : (((31 - m) / 8 : Nat) : Int) < 4 := by omega
      have g3 : (0 : Int) ≤ (((31 - m) % 8 * 8 : Nat) : Int) := by omega
      simp only [w2, w3, w4, g1, g2, g3, if_true, Int.toNat_natCast, word_From.m, word_From.g, Option.bind_some]
      have hd := ha.dig.getD (i := (31 - m) / 8) (by rw [ha.1]; omega)
      rw [ishr_ofNat .u64 _ _ (by simp [IntKind.bits]; omega)]
      have h3 : 0 ≤ a.getD ((31 - m) / 8) 0 / 2 ^ ((31 - m) % 8 * 8) := Int.ediv_nonneg hd.1 (Int.le_of_lt (pow_pos' _))
      have h4 := Int.ediv_le_self (2 ^ ((31 - m) % 8 * 8)) hd.1
      have := and_mask h3 (by omega) 8 (by omega)
      rw [show ((2 ^ 8 - 1 : Nat) : Int) = 255 from rfl, show (2 : Int) ^ 8 = 256 from rfl, V_byte ha (by omega)] at this
      rw [this]
    · rw [if_pos (by omega), if_neg h2]
  · simp only [h, if_false, Bool.not_false, if_true]
    rw [if_neg (by omega)]
theorem q01_Byte_ok {n : Nat} (hn : 100 ≤ n) {k a : List Int} (hk : W4 k) (ha : W4 a) : q01_Byte.m n (k, a) = some (nthV k a) := by
  have rk := V_range hk
  simp only [q01_Byte.m, q01_Byte.g, q01_Small_ok hk, bindO, Option.bind_some, smallV, nthV, decide_eq_true_eq]
  by_cases h : V k < 18446744073709551616
  · simp only [h, if_true, Bool.not_true, Bool.false_eq_true, if_false]
    by_cases h2 : V k < 32
    · rw [if_neg (by omega), if_pos h2]
      have e : V k = ((V k).toNat : Int) := (Int.toNat_of_nonneg rk.1).symm
      generalize (V k).toNat = m at *
      rw [e] at h2 ⊢
      have hl : (bytesV a).length = 32 := by simp [bytesV]
      have hg : (bytesV a).getD m 0 = byteI a (31 - m) := by simp [bytesV, List.getD_eq_getElem?_getD, show m < 32 by omega]
      simp only [q01_Bytes_ok hn ha, Option.bind_some, hl]
      rw [wi64_id (n := (m : Int)) (by omega) (by omega), if_pos (by omega), if_pos (by omega), Int.toNat_natCast, hg]
      have b := byteI_range a (31 - m)
      rw [wu64_id b.1 (by omega)]
      rfl
    · rw [if_pos (by omega), if_neg h2]
  · simp only [h, if_false, Bool.not_false, if_true]
    rw [if_neg (by omega)]
end Go.Abs.Pure
end
section
set_option linter.unusedVariables false
set_option linter.unusedSimpArgs false
set_option maxRecDepth 100000
namespace Go.Abs.Pure
open Go Go.Abs
def truthV (b : Bool) : List Int := if b = true then [1, 0, 0, 0] else [0, 0, 0, 0]
def eachV (op : BinOp) (a b : List Int) : List Int := List.zipWith (ibits op .u64) a b
theorem calc_truth_ok (b : Bool) : calc_truth.m 600 b = some (truthV b) := by cases b <;> kernel_rfl
theorem q11_truth_ok (b : Bool) : q11_truth.m 600 b = some (truthV b) := by cases b <;> kernel_rfl
theorem four {a : List Int} (h : W4 a) : ∃ x y z w, a = [x, y, z, w] := by
  obtain ⟨x, y, z, w, rfl, _⟩ := h.split
  exact ⟨x, y, z, w, rfl⟩
theorem calc_each_and_ok {a b : List Int} (ha : W4 a) (hb : W4 b) : calc_each_and.m 600 (a, b) = some (eachV .and a b) := by
  obtain ⟨x, y, z, w, rfl⟩ := four ha
  obtain ⟨x', y', z', w', rfl⟩ := four hb
  kernel_rfl
theorem q11_bits_and {a b : List Int} (ha : W4 a) (hb : W4 b) : q11_bits.m 600 (22, a, b) = some (eachV .and a b) := by
  obtain ⟨x, y, z, w, rfl⟩ := four ha
  obtain ⟨x', y', z', w', rfl⟩ := four hb
  kernel_rfl
theorem calc_each_or_ok {a b : List Int} (ha : W4 a) (hb : W4 b) : calc_each_or.m 600 (a, b) = some (eachV .or a b) := by
  obtain ⟨x, y, z, w, rfl⟩ := four ha
  obtain ⟨x', y', z', w', rfl⟩ := four hb
  kernel_rfl
theorem q11_bits_or {a b : List Int} (ha : W4 a) (hb : W4 b) : q11_bits.m 600 (23, a, b) = some (eachV .or a b) := by
  obtain ⟨x, y, z, w, rfl⟩ := four ha
  obtain ⟨x', y', z', w', rfl⟩ := four hb
  kernel_rfl
theorem calc_each_xor_ok {a b : List Int} (ha : W4 a) (hb : W4 b) : calc_each_xor.m 600 (a, b) = some (eachV .xor a b) := by
  obtain ⟨x, y, z, w, rfl⟩ := four ha
  obtain ⟨x', y', z', w', rfl⟩ := four hb
  kernel_rfl
theorem q11_bits_xor {a b : List Int} (ha : W4 a) (hb : W4 b) : q11_bits.m 600 (24, a, b) = some (eachV .xor a b) := by
  obtain ⟨x, y, z, w, rfl⟩ := four ha
  obtain ⟨x', y', z', w', rfl⟩ := four hb
  kernel_rfl
def ones : List Int := [18446744073709551615, 18446744073709551615, 18446744073709551615, 18446744073709551615]
theorem calc_each_nor_ok {a : List Int} (ha : W4 a) : calc_each_nor.m 600 (a, a) = some (eachV .xor ones (eachV .or a a)) := by
  obtain ⟨x, y, z, w, rfl⟩ := four ha
  kernel_rfl
theorem or_self' {x : Int} (h : 0 ≤ x ∧ x < 18446744073709551616) : ibits .or .u64 x x = x := by
  have : ibits .or .u64 x x = IntKind.wrap .u64 (BitVec.ofInt 64 x).toNat := by
    show IntKind.wrap .u64 (BitVec.ofInt 64 x ||| BitVec.ofInt 64 x).toNat = _
    rw [BitVec.or_self]
  rw [this, wu64, BitVec.toNat_ofInt]
  omega
theorem xor_comm' (x y : Int) : ibits .xor .u64 x y = ibits .xor .u64 y x := by
  show IntKind.wrap .u64 (BitVec.ofInt 64 x ^^^ BitVec.ofInt 64 y).toNat = IntKind.wrap .u64 (BitVec.ofInt 64 y ^^^ BitVec.ofInt 64 x).toNat
  rw [BitVec.xor_comm]
theorem nor_same {a : List Int} (ha : W4 a) : eachV .xor ones (eachV .or a a) = eachV .xor a ones := by
  obtain ⟨x, y, z, w, rfl, hx, hy, hz, hw⟩ := ha.split
  simp only [eachV, ones, List.zipWith_cons_cons, List.zipWith_nil_right, or_self' hx, or_self' hy, or_self' hz, or_self' hw]
  rw [xor_comm' _ x, xor_comm' _ y, xor_comm' _ z, xor_comm' _ w]
theorem cmp_lt {x y : Int} : decide (cmpOf x y < 0) = decide (x < y) := by unfold cmpOf; split <;> (try split) <;> simp <;> omega
theorem cmp_gt {x y : Int} : decide (cmpOf x y > 0) = decide (y < x) := by unfold cmpOf; split <;> (try split) <;> simp <;> omega
def doV : Nat → List (List Int) → List Int × Bool
  | 1, [a, b] => (ofV (V a + V b), true)
  | 2, [a, b] => (ofV (V a * V b), true)
  | 3, [a, b] => (ofV (V a - V b), true)
  | 4, [a, b] => ((divV a b).1, true)
  | 5, [a, b] => ((sdivV a b).1, true)
  | 6, [a, b] => ((divV a b).2, true)
  | 7, [a, b] => ((sdivV a b).2, true)
  | 8, [a, b, c] => (restV (V a + V b) c, true)
  | 9, [a, b, c] => (restV (V a * V b) c, true)
  | 10, [a, b] => (powV a b, true)
  | 11, [a, b] => (extV a b, true)
  | 16, [a, b] => (truthV (decide (V a < V b)), true)
  | 17, [a, b] => (truthV (decide (V b < V a)), true)
  | 18, [a, b] => (truthV (decide (S a < S b)), true)
  | 19, [a, b] => (truthV (decide (S b < S a)), true)
  | 20, [a, b] => (truthV (a == b), true)
  | 21, [a] => (truthV (a == [0, 0, 0, 0]), true)
  | 22, [a, b] => (eachV .and a b, true)
  | 23, [a, b] => (eachV .or a b, true)
  | 24, [a, b] => (eachV .xor a b, true)
  | 25, [a] => (eachV .xor a ones, true)
  | 26, [a, b] => (nthV a b, true)
  | 27, [a, b] => (ofV (V b * 2 ^ farV a), true)
  | 28, [a, b] => (ofV (V b / 2 ^ farV a), true)
  | 29, [a, b] => (ofV (S b / 2 ^ farV a), true)
  | _, _ => ([0, 0, 0, 0], false)
theorem ci_1 : code_Info.m 600 1 = some (2, 1, true) := by kernel_rfl
theorem qi_1 : q08_Info.m 600 1 = some (2, 1, true) := by kernel_rfl
theorem ci_2 : code_Info.m 600 2 = some (2, 1, true) := by kernel_rfl
theorem qi_2 : q08_Info.m 600 2 = some (2, 1, true) := by kernel_rfl
theorem ci_3 : code_Info.m 600 3 = some (2, 1, true) := by kernel_rfl
theorem qi_3 : q08_Info.m 600 3 = some (2, 1, true) := by kernel_rfl
theorem ci_4 : code_Info.m 600 4 = some (2, 1, true) := by kernel_rfl
theorem qi_4 : q08_Info.m 600 4 = some (2, 1, true) := by kernel_rfl
theorem ci_5 : code_Info.m 600 5 = some (2, 1, true) := by kernel_rfl
theorem qi_5 : q08_Info.m 600 5 = some (2, 1, true) := by kernel_rfl
theorem ci_6 : code_Info.m 600 6 = some (2, 1, true) := by kernel_rfl
theorem qi_6 : q08_Info.m 600 6 = some (2, 1, true) := by kernel_rfl
theorem ci_7 : code_Info.m 600 7 = some (2, 1, true) := by kernel_rfl
theorem qi_7 : q08_Info.m 600 7 = some (2, 1, true) := by kernel_rfl
theorem ci_8 : code_Info.m 600 8 = some (3, 1, true) := by kernel_rfl
theorem qi_8 : q08_Info.m 600 8 = some (3, 1, true) := by kernel_rfl
theorem ci_9 : code_Info.m 600 9 = some (3, 1, true) := by kernel_rfl
theorem qi_9 : q08_Info.m 600 9 = some (3, 1, true) := by kernel_rfl
theorem ci_10 : code_Info.m 600 10 = some (2, 1, true) := by kernel_rfl
theorem qi_10 : q08_Info.m 600 10 = some (2, 1, true) := by kernel_rfl
theorem ci_11 : code_Info.m 600 11 = some (2, 1, true) := by kernel_rfl
theorem qi_11 : q08_Info.m 600 11 = some (2, 1, true) := by kernel_rfl
theorem ci_12 : code_Info.m 600 12 = some (0, 0, false) := by kernel_rfl
theorem qi_12 : q08_Info.m 600 12 = some (0, 0, false) := by kernel_rfl
theorem ci_13 : code_Info.m 600 13 = some (0, 0, false) := by kernel_rfl
theorem qi_13 : q08_Info.m 600 13 = some (0, 0, false) := by kernel_rfl
theorem ci_14 : code_Info.m 600 14 = some (0, 0, false) := by kernel_rfl
theorem qi_14 : q08_Info.m 600 14 = some (0, 0, false) := by kernel_rfl
theorem ci_15 : code_Info.m 600 15 = some (0, 0, false) := by kernel_rfl
theorem qi_15 : q08_Info.m 600 15 = some (0, 0, false) := by kernel_rfl
theorem ci_16 : code_Info.m 600 16 = some (2, 1, true) := by kernel_rfl
theorem qi_16 : q08_Info.m 600 16 = some (2, 1, true) := by kernel_rfl
theorem ci_17 : code_Info.m 600 17 = some (2, 1, true) := by kernel_rfl
theorem qi_17 : q08_Info.m 600 17 = some (2, 1, true) := by kernel_rfl
theorem ci_18 : code_Info.m 600 18 = some (2, 1, true) := by kernel_rfl
theorem qi_18 : q08_Info.m 600 18 = some (2, 1, true) := by kernel_rfl
theorem ci_19 : code_Info.m 600 19 = some (2, 1, true) := by kernel_rfl
theorem qi_19 : q08_Info.m 600 19 = some (2, 1, true) := by kernel_rfl
theorem ci_20 : code_Info.m 600 20 = some (2, 1, true) := by kernel_rfl
theorem qi_20 : q08_Info.m 600 20 = some (2, 1, true) := by kernel_rfl
theorem ci_21 : code_Info.m 600 21 = some (1, 1, true) := by kernel_rfl
theorem qi_21 : q08_Info.m 600 21 = some (1, 1, true) := by kernel_rfl
theorem ci_22 : code_Info.m 600 22 = some (2, 1, true) := by kernel_rfl
theorem qi_22 : q08_Info.m 600 22 = some (2, 1, true) := by kernel_rfl
theorem ci_23 : code_Info.m 600 23 = some (2, 1, true) := by kernel_rfl
theorem qi_23 : q08_Info.m 600 23 = some (2, 1, true) := by kernel_rfl
theorem ci_24 : code_Info.m 600 24 = some (2, 1, true) := by kernel_rfl
theorem qi_24 : q08_Info.m 600 24 = some (2, 1, true) := by kernel_rfl
theorem ci_25 : code_Info.m 600 25 = some (1, 1, true) := by kernel_rfl
theorem qi_25 : q08_Info.m 600 25 = some (1, 1, true) := by kernel_rfl
theorem ci_26 : code_Info.m 600 26 = some (2, 1, true) := by kernel_rfl
theorem qi_26 : q08_Info.m 600 26 = some (2, 1, true) := by kernel_rfl
theorem ci_27 : code_Info.m 600 27 = some (2, 1, true) := by kernel_rfl
theorem qi_27 : q08_Info.m 600 27 = some (2, 1, true) := by kernel_rfl
theorem ci_28 : code_Info.m 600 28 = some (2, 1, true) := by kernel_rfl
theorem qi_28 : q08_Info.m 600 28 = some (2, 1, true) := by kernel_rfl
theorem ci_29 : code_Info.m 600 29 = some (2, 1, true) := by kernel_rfl
theorem qi_29 : q08_Info.m 600 29 = some (2, 1, true) := by kernel_rfl
theorem calc_no {op : Int} {r : Int × Int × Bool} (hi : code_Info.m 600 op = some r) (h : r.2.2 = false ∨ op = 0 ∨ 29 < op) (l : List AV) : calc_Do.m 600 (op, l) = some ([0, 0, 0, 0], false) := by
  simp only [calc_Do.m, calc_Do.g, hi, bindO, Option.bind_some]
  rcases h with h | rfl | h
  · rw [h]; rfl
  · by_cases h : r.2.2 = true <;> simp [h]
  · by_cases h1 : r.2.2 = true
    · have h2 : (op == 0) = false := by simp; omega
      have h3 : decide (op > 29) = true := decide_eq_true h
      simp only [h1, h2, h3, Bool.not_true, Bool.false_eq_true, if_false, if_true]
    · have h1 : r.2.2 = false := by simpa using h1
      rw [h1]; rfl
theorem q11_no {op : Int} {r : Int × Int × Bool} (hi : q08_Info.m 600 op = some r) (h : r.2.2 = false ∨ op = 0 ∨ 29 < op) (l : List AV) : q11_Do.m 600 (op, l) = some ([0, 0, 0, 0], false) := by
  simp only [q11_Do.m, q11_Do.g, hi, bindO, Option.bind_some]
  by_cases h1 : r.2.2 = true
  · by_cases h4 : (r.1 != ((l.length : Nat) : Int)) = true
    · simp only [h1, h4, Bool.not_true, Bool.false_eq_true, if_false, if_true]
    · have h4 : (r.1 != ((l.length : Nat) : Int)) = false := by simpa using h4
      rcases h with h | rfl | h
      · rw [h] at h1; cases h1
      · simp only [h1, h4, Bool.not_true, Bool.false_eq_true, if_false, if_true]; rfl
      · have h2 : (op == 0) = false := by simp; omega
        have h3 : decide (op > 29) = true := decide_eq_true h
        simp only [h1, h2, h3, h4, Bool.not_true, Bool.false_eq_true, if_false, if_true]
  · have h1 : r.2.2 = false := by simpa using h1
    rw [h1]; rfl
theorem calc_len {op t g : Int} (hi : code_Info.m 600 op = some (t, g, true)) (h2 : (op == 0) = false) (h3 : decide (op > 29) = false) {l : List AV} (h4 : (t != ((l.length : Nat) : Int)) = true) : calc_Do.m 600 (op, l) = some ([0, 0, 0, 0], false) := by
  simp only [calc_Do.m, calc_Do.g, hi, bindO, Option.bind_some, h2, h3, h4, Bool.not_true, Bool.false_eq_true, if_false, if_true]
theorem q11_len {op t g : Int} (hi : q08_Info.m 600 op = some (t, g, true)) {l : List AV} (h4 : (t != ((l.length : Nat) : Int)) = true) : q11_Do.m 600 (op, l) = some ([0, 0, 0, 0], false) := by
  simp only [q11_Do.m, q11_Do.g, hi, bindO, Option.bind_some, h4, Bool.not_true, Bool.false_eq_true, if_false, if_true]
theorem cs_1 (a b : List Int) : calc_sum.m 600 (1, [AV.ints .u64 4 a, AV.ints .u64 4 b]) = bindO (word_Add.m 600 (a, b)) fun r => some r.1 := by kernel_rfl
theorem qs_1 (a b : List Int) : q11_sums.m 600 (1, [AV.ints .u64 4 a, AV.ints .u64 4 b]) = bindO (q01_Add.m 600 (a, b)) fun r => some r.1 := by kernel_rfl
theorem cs_2 (a b : List Int) : calc_sum.m 600 (2, [AV.ints .u64 4 a, AV.ints .u64 4 b]) = bindO (word_Mul.m 600 (a, b)) fun r => some r.1 := by kernel_rfl
theorem qs_2 (a b : List Int) : q11_sums.m 600 (2, [AV.ints .u64 4 a, AV.ints .u64 4 b]) = bindO (q01_Mul.m 600 (a, b)) fun r => some r.1 := by kernel_rfl
theorem cs_3 (a b : List Int) : calc_sum.m 600 (3, [AV.ints .u64 4 a, AV.ints .u64 4 b]) = bindO (word_Sub.m 600 (a, b)) fun r => some r.1 := by kernel_rfl
theorem qs_3 (a b : List Int) : q11_sums.m 600 (3, [AV.ints .u64 4 a, AV.ints .u64 4 b]) = bindO (q01_Sub.m 600 (a, b)) fun r => some r.1 := by kernel_rfl
theorem cs_4 (a b : List Int) : calc_sum.m 600 (4, [AV.ints .u64 4 a, AV.ints .u64 4 b]) = bindO (word_Div.m 600 (a, b)) fun r => some r.1 := by kernel_rfl
theorem qs_4 (a b : List Int) : q11_sums.m 600 (4, [AV.ints .u64 4 a, AV.ints .u64 4 b]) = bindO (q01_Div.m 600 (a, b)) fun r => some r.1 := by kernel_rfl
theorem cs_5 (a b : List Int) : calc_sum.m 600 (5, [AV.ints .u64 4 a, AV.ints .u64 4 b]) = bindO (word_Sdiv.m 600 (a, b)) fun r => some r.1 := by kernel_rfl
theorem qs_5 (a b : List Int) : q11_sums.m 600 (5, [AV.ints .u64 4 a, AV.ints .u64 4 b]) = bindO (q01_Sdiv.m 600 (a, b)) fun r => some r.1 := by kernel_rfl
theorem cs_6 (a b : List Int) : calc_sum.m 600 (6, [AV.ints .u64 4 a, AV.ints .u64 4 b]) = bindO (word_Div.m 600 (a, b)) fun r => some r.2 := by kernel_rfl
theorem qs_6 (a b : List Int) : q11_sums.m 600 (6, [AV.ints .u64 4 a, AV.ints .u64 4 b]) = bindO (q01_Div.m 600 (a, b)) fun r => some r.2 := by kernel_rfl
theorem cs_7 (a b : List Int) : calc_sum.m 600 (7, [AV.ints .u64 4 a, AV.ints .u64 4 b]) = bindO (word_Sdiv.m 600 (a, b)) fun r => some r.2 := by kernel_rfl
theorem qs_7 (a b : List Int) : q11_sums.m 600 (7, [AV.ints .u64 4 a, AV.ints .u64 4 b]) = bindO (q01_Sdiv.m 600 (a, b)) fun r => some r.2 := by kernel_rfl
theorem cs_10 (a b : List Int) : calc_sum.m 600 (10, [AV.ints .u64 4 a, AV.ints .u64 4 b]) = bindO (word_Exp.m 600 (a, b)) fun r => some r := by kernel_rfl
theorem qs_10 (a b : List Int) : q11_sums.m 600 (10, [AV.ints .u64 4 a, AV.ints .u64 4 b]) = bindO (q01_Exp.m 600 (a, b)) fun r => some r := by kernel_rfl
theorem cs_11 (a b : List Int) : calc_sum.m 600 (11, [AV.ints .u64 4 a, AV.ints .u64 4 b]) = bindO (word_Extend.m 600 (a, b)) fun r => some r := by kernel_rfl
theorem qs_11 (a b : List Int) : q11_sums.m 600 (11, [AV.ints .u64 4 a, AV.ints .u64 4 b]) = bindO (q01_Extend.m 600 (a, b)) fun r => some r := by kernel_rfl
theorem cs_8 (a b c : List Int) : calc_sum.m 600 (8, [AV.ints .u64 4 a, AV.ints .u64 4 b, AV.ints .u64 4 c]) = bindO (word_AddMod.m 600 (a, b, c)) fun r => some r := by kernel_rfl
theorem qs_8 (a b c : List Int) : q11_sums.m 600 (8, [AV.ints .u64 4 a, AV.ints .u64 4 b, AV.ints .u64 4 c]) = bindO (q01_AddMod.m 600 (a, b, c)) fun r => some r := by kernel_rfl
theorem cs_9 (a b c : List Int) : calc_sum.m 600 (9, [AV.ints .u64 4 a, AV.ints .u64 4 b, AV.ints .u64 4 c]) = bindO (word_MulMod.m 600 (a, b, c)) fun r => some r := by kernel_rfl
theorem qs_9 (a b c : List Int) : q11_sums.m 600 (9, [AV.ints .u64 4 a, AV.ints .u64 4 b, AV.ints .u64 4 c]) = bindO (q01_MulMod.m 600 (a, b, c)) fun r => some r := by kernel_rfl
theorem cd_1 (a b : List Int) : calc_Do.m 600 (1, [AV.ints .u64 4 a, AV.ints .u64 4 b]) = bindO (calc_sum.m 600 (1, [AV.ints .u64 4 a, AV.ints .u64 4 b])) fun r => some (r, true) := by kernel_rfl
theorem qd_1 (a b : List Int) : q11_Do.m 600 (1, [AV.ints .u64 4 a, AV.ints .u64 4 b]) = bindO (q11_sums.m 600 (1, [AV.ints .u64 4 a, AV.ints .u64 4 b])) fun r => some (r, true) := by kernel_rfl
theorem cd_2 (a b : List Int) : calc_Do.m 600 (2, [AV.ints .u64 4 a, AV.ints .u64 4 b]) = bindO (calc_sum.m 600 (2, [AV.ints .u64 4 a, AV.ints .u64 4 b])) fun r => some (r, true) := by kernel_rfl
theorem qd_2 (a b : List Int) : q11_Do.m 600 (2, [AV.ints .u64 4 a, AV.ints .u64 4 b]) = bindO (q11_sums.m 600 (2, [AV.ints .u64 4 a, AV.ints .u64 4 b])) fun r => some (r, true) := by kernel_rfl
theorem cd_3 (a b : List Int) : calc_Do.m 600 (3, [AV.ints .u64 4 a, AV.ints .u64 4 b]) = bindO (calc_sum.m 600 (3, [AV.ints .u64 4 a, AV.ints .u64 4 b])) fun r => some (r, true) := by kernel_rfl
theorem qd_3 (a b : List Int) : q11_Do.m 600 (3, [AV.ints .u64 4 a, AV.ints .u64 4 b]) = bindO (q11_sums.m 600 (3, [AV.ints .u64 4 a, AV.ints .u64 4 b])) fun r => some (r, true) := by kernel_rfl
theorem cd_4 (a b : List Int) : calc_Do.m 600 (4, [AV.ints .u64 4 a, AV.ints .u64 4 b]) = bindO (calc_sum.m 600 (4, [AV.ints .u64 4 a, AV.ints .u64 4 b])) fun r => some (r, true) := by kernel_rfl
theorem qd_4 (a b : List Int) : q11_Do.m 600 (4, [AV.ints .u64 4 a, AV.ints .u64 4 b]) = bindO (q11_sums.m 600 (4, [AV.ints .u64 4 a, AV.ints .u64 4 b])) fun r => some (r, true) := by kernel_rfl
theorem cd_5 (a b : List Int) : calc_Do.m 600 (5, [AV.ints .u64 4 a, AV.ints .u64 4 b]) = bindO (calc_sum.m 600 (5, [AV.ints .u64 4 a, AV.ints .u64 4 b])) fun r => some (r, true) := by kernel_rfl
theorem qd_5 (a b : List Int) : q11_Do.m 600 (5, [AV.ints .u64 4 a, AV.ints .u64 4 b]) = bindO (q11_sums.m 600 (5, [AV.ints .u64 4 a, AV.ints .u64 4 b])) fun r => some (r, true) := by kernel_rfl
theorem cd_6 (a b : List Int) : calc_Do.m 600 (6, [AV.ints .u64 4 a, AV.ints .u64 4 b]) = bindO (calc_sum.m 600 (6, [AV.ints .u64 4 a, AV.ints .u64 4 b])) fun r => some (r, true) := by kernel_rfl
theorem qd_6 (a b : List Int) : q11_Do.m 600 (6, [AV.ints .u64 4 a, AV.ints .u64 4 b]) = bindO (q11_sums.m 600 (6, [AV.ints .u64 4 a, AV.ints .u64 4 b])) fun r => some (r, true) := by kernel_rfl
theorem cd_7 (a b : List Int) : calc_Do.m 600 (7, [AV.ints .u64 4 a, AV.ints .u64 4 b]) = bindO (calc_sum.m 600 (7, [AV.ints .u64 4 a, AV.ints .u64 4 b])) fun r => some (r, true) := by kernel_rfl
theorem qd_7 (a b : List Int) : q11_Do.m 600 (7, [AV.ints .u64 4 a, AV.ints .u64 4 b]) = bindO (q11_sums.m 600 (7, [AV.ints .u64 4 a, AV.ints .u64 4 b])) fun r => some (r, true) := by kernel_rfl
theorem cd_8 (a b c : List Int) : calc_Do.m 600 (8, [AV.ints .u64 4 a, AV.ints .u64 4 b, AV.ints .u64 4 c]) = bindO (calc_sum.m 600 (8, [AV.ints .u64 4 a, AV.ints .u64 4 b, AV.ints .u64 4 c])) fun r => some (r, true) := by kernel_rfl
theorem qd_8 (a b c : List Int) : q11_Do.m 600 (8, [AV.ints .u64 4 a, AV.ints .u64 4 b, AV.ints .u64 4 c]) = bindO (q11_sums.m 600 (8, [AV.ints .u64 4 a, AV.ints .u64 4 b, AV.ints .u64 4 c])) fun r => some (r, true) := by kernel_rfl
theorem cd_9 (a b c : List Int) : calc_Do.m 600 (9, [AV.ints .u64 4 a, AV.ints .u64 4 b, AV.ints .u64 4 c]) = bindO (calc_sum.m 600 (9, [AV.ints .u64 4 a, AV.ints .u64 4 b, AV.ints .u64 4 c])) fun r => some (r, true) := by kernel_rfl
theorem qd_9 (a b c : List Int) : q11_Do.m 600 (9, [AV.ints .u64 4 a, AV.ints .u64 4 b, AV.ints .u64 4 c]) = bindO (q11_sums.m 600 (9, [AV.ints .u64 4 a, AV.ints .u64 4 b, AV.ints .u64 4 c])) fun r => some (r, true) := by kernel_rfl
theorem cd_10 (a b : List Int) : calc_Do.m 600 (10, [AV.ints .u64 4 a, AV.ints .u64 4 b]) = bindO (calc_sum.m 600 (10, [AV.ints .u64 4 a, AV.ints .u64 4 b])) fun r => some (r, true) := by kernel_rfl
theorem qd_10 (a b : List Int) : q11_Do.m 600 (10, [AV.ints .u64 4 a, AV.ints .u64 4 b]) = bindO (q11_sums.m 600 (10, [AV.ints .u64 4 a, AV.ints .u64 4 b])) fun r => some (r, true) := by kernel_rfl
theorem cd_11 (a b : List Int) : calc_Do.m 600 (11, [AV.ints .u64 4 a, AV.ints .u64 4 b]) = bindO (calc_sum.m 600 (11, [AV.ints .u64 4 a, AV.ints .u64 4 b])) fun r => some (r, true) := by kernel_rfl
theorem qd_11 (a b : List Int) : q11_Do.m 600 (11, [AV.ints .u64 4 a, AV.ints .u64 4 b]) = bindO (q11_sums.m 600 (11, [AV.ints .u64 4 a, AV.ints .u64 4 b])) fun r => some (r, true) := by kernel_rfl
theorem cc_16 (a b : List Int) : calc_compare.m 600 (16, a, b) = bindO (word_Cmp.m 600 (a, b)) fun r => some (decide (r < 0)) := by kernel_rfl
theorem cd_16 (a b : List Int) : calc_Do.m 600 (16, [AV.ints .u64 4 a, AV.ints .u64 4 b]) = bindO (calc_compare.m 600 (16, a, b)) fun r => bindO (calc_truth.m 600 r) fun s => some (s, true) := by kernel_rfl
theorem qd_16 (a b : List Int) : q11_Do.m 600 (16, [AV.ints .u64 4 a, AV.ints .u64 4 b]) = bindO (q01_Cmp.m 600 (a, b)) fun r => bindO (q11_truth.m 600 (decide (r < 0))) fun s => some (s, true) := by kernel_rfl
theorem cc_17 (a b : List Int) : calc_compare.m 600 (17, a, b) = bindO (word_Cmp.m 600 (b, a)) fun r => some (decide (r < 0)) := by kernel_rfl
theorem cd_17 (a b : List Int) : calc_Do.m 600 (17, [AV.ints .u64 4 a, AV.ints .u64 4 b]) = bindO (calc_compare.m 600 (17, a, b)) fun r => bindO (calc_truth.m 600 r) fun s => some (s, true) := by kernel_rfl
theorem qd_17 (a b : List Int) : q11_Do.m 600 (17, [AV.ints .u64 4 a, AV.ints .u64 4 b]) = bindO (q01_Cmp.m 600 (a, b)) fun r => bindO (q11_truth.m 600 (decide (r > 0))) fun s => some (s, true) := by kernel_rfl
theorem cc_18 (a b : List Int) : calc_compare.m 600 (18, a, b) = bindO (word_Scmp.m 600 (a, b)) fun r => some (decide (r < 0)) := by kernel_rfl
theorem cd_18 (a b : List Int) : calc_Do.m 600 (18, [AV.ints .u64 4 a, AV.ints .u64 4 b]) = bindO (calc_compare.m 600 (18, a, b)) fun r => bindO (calc_truth.m 600 r) fun s => some (s, true) := by kernel_rfl
theorem qd_18 (a b : List Int) : q11_Do.m 600 (18, [AV.ints .u64 4 a, AV.ints .u64 4 b]) = bindO (q01_Scmp.m 600 (a, b)) fun r => bindO (q11_truth.m 600 (decide (r < 0))) fun s => some (s, true) := by kernel_rfl
theorem cc_19 (a b : List Int) : calc_compare.m 600 (19, a, b) = bindO (word_Scmp.m 600 (b, a)) fun r => some (decide (r < 0)) := by kernel_rfl
theorem cd_19 (a b : List Int) : calc_Do.m 600 (19, [AV.ints .u64 4 a, AV.ints .u64 4 b]) = bindO (calc_compare.m 600 (19, a, b)) fun r => bindO (calc_truth.m 600 r) fun s => some (s, true) := by kernel_rfl
theorem qd_19 (a b : List Int) : q11_Do.m 600 (19, [AV.ints .u64 4 a, AV.ints .u64 4 b]) = bindO (q01_Scmp.m 600 (a, b)) fun r => bindO (q11_truth.m 600 (decide (r > 0))) fun s => some (s, true) := by kernel_rfl
theorem cc_20 (a b : List Int) : calc_compare.m 600 (20, a, b) = some (a == b) := by kernel_rfl
theorem cd_20 (a b : List Int) : calc_Do.m 600 (20, [AV.ints .u64 4 a, AV.ints .u64 4 b]) = bindO (calc_compare.m 600 (20, a, b)) fun r => bindO (calc_truth.m 600 r) fun s => some (s, true) := by kernel_rfl
theorem qd_20 (a b : List Int) : q11_Do.m 600 (20, [AV.ints .u64 4 a, AV.ints .u64 4 b]) = bindO (q11_truth.m 600 (a == b)) fun s => some (s, true) := by kernel_rfl
theorem cd_21 (a : List Int) : calc_Do.m 600 (21, [AV.ints .u64 4 a]) = bindO (calc_truth.m 600 (a == [0, 0, 0, 0])) fun s => some (s, true) := by kernel_rfl
theorem qd_21 (a : List Int) : q11_Do.m 600 (21, [AV.ints .u64 4 a]) = bindO (q11_truth.m 600 (a == [0, 0, 0, 0])) fun s => some (s, true) := by kernel_rfl
theorem cd_22 (a b : List Int) : calc_Do.m 600 (22, [AV.ints .u64 4 a, AV.ints .u64 4 b]) = bindO (calc_each_and.m 600 (a, b)) fun s => some (s, true) := by kernel_rfl
theorem qd_22 (a b : List Int) : q11_Do.m 600 (22, [AV.ints .u64 4 a, AV.ints .u64 4 b]) = bindO (q11_bits.m 600 (22, a, b)) fun s => some (s, true) := by kernel_rfl
theorem cd_23 (a b : List Int) : calc_Do.m 600 (23, [AV.ints .u64 4 a, AV.ints .u64 4 b]) = bindO (calc_each_or.m 600 (a, b)) fun s => some (s, true) := by kernel_rfl
theorem qd_23 (a b : List Int) : q11_Do.m 600 (23, [AV.ints .u64 4 a, AV.ints .u64 4 b]) = bindO (q11_bits.m 600 (23, a, b)) fun s => some (s, true) := by kernel_rfl
theorem cd_24 (a b : List Int) : calc_Do.m 600 (24, [AV.ints .u64 4 a, AV.ints .u64 4 b]) = bindO (calc_each_xor.m 600 (a, b)) fun s => some (s, true) := by kernel_rfl
theorem qd_24 (a b : List Int) : q11_Do.m 600 (24, [AV.ints .u64 4 a, AV.ints .u64 4 b]) = bindO (q11_bits.m 600 (24, a, b)) fun s => some (s, true) := by kernel_rfl
theorem cd_25 (a : List Int) : calc_Do.m 600 (25, [AV.ints .u64 4 a]) = bindO (calc_each_nor.m 600 (a, a)) fun s => some (s, true) := by kernel_rfl
theorem qd_25 (a : List Int) : q11_Do.m 600 (25, [AV.ints .u64 4 a]) = bindO (q11_bits.m 600 (24, a, ones)) fun s => some (s, true) := by kernel_rfl
theorem cd_26 (a b : List Int) : calc_Do.m 600 (26, [AV.ints .u64 4 a, AV.ints .u64 4 b]) = bindO (word_Byte.m 600 (a, b)) fun s => some (s, true) := by kernel_rfl
theorem qd_26 (a b : List Int) : q11_Do.m 600 (26, [AV.ints .u64 4 a, AV.ints .u64 4 b]) = bindO (q01_Byte.m 600 (a, b)) fun s => some (s, true) := by kernel_rfl
theorem cd_27 (a b : List Int) : calc_Do.m 600 (27, [AV.ints .u64 4 a, AV.ints .u64 4 b]) = bindO (word_Shl.m 600 (a, b)) fun s => some (s, true) := by kernel_rfl
theorem qd_27 (a b : List Int) : q11_Do.m 600 (27, [AV.ints .u64 4 a, AV.ints .u64 4 b]) = bindO (q01_Shl.m 600 (a, b)) fun s => some (s, true) := by kernel_rfl
theorem cd_28 (a b : List Int) : calc_Do.m 600 (28, [AV.ints .u64 4 a, AV.ints .u64 4 b]) = bindO (word_Shr.m 600 (a, b)) fun s => some (s, true) := by kernel_rfl
theorem qd_28 (a b : List Int) : q11_Do.m 600 (28, [AV.ints .u64 4 a, AV.ints .u64 4 b]) = bindO (q01_Shr.m 600 (a, b)) fun s => some (s, true) := by kernel_rfl
theorem cd_29 (a b : List Int) : calc_Do.m 600 (29, [AV.ints .u64 4 a, AV.ints .u64 4 b]) = bindO (word_Sar.m 600 (a, b)) fun s => some (s, true) := by kernel_rfl
theorem qd_29 (a b : List Int) : q11_Do.m 600 (29, [AV.ints .u64 4 a, AV.ints .u64 4 b]) = bindO (q01_Sar.m 600 (a, b)) fun s => some (s, true) := by kernel_rfl
end Go.Abs.Pure
end
section
set_option linter.unusedVariables false
set_option linter.unusedSimpArgs false
set_option maxRecDepth 100000
namespace Go.Abs.Pure
open Go Go.Abs
abbrev LA (l : List (List Int)) : List AV := l.map (AV.ints .u64 4)
theorem ones_W4 : W4 ones := .mk (by omega) (by omega) (by omega) (by omega)
theorem calc_Do_1_all : ∀ (l : List (List Int)) (hl : ∀ x ∈ l, W4 x), calc_Do.m 600 (1, LA l) = some (doV 1 l)
  | [], _ => calc_len ci_1 rfl rfl (by kernel_rfl)
  | [_], _ => calc_len ci_1 rfl rfl (by kernel_rfl)
  | [a, b], hl => by
    have ha := hl a (by simp)
    have hb := hl b (by simp)
    show calc_Do.m 600 (1, [AV.ints .u64 4 a, AV.ints .u64 4 b]) = _
    simp only [cd_1, cs_1, word_Add_ok (show 100 ≤ 600 by omega) ha hb, bindO, Option.bind_some, doV]
  | a :: b :: c :: r, _ => by
    rw [show doV 1 (a :: b :: c :: r) = ([0, 0, 0, 0], false) from rfl]
    exact calc_len ci_1 rfl rfl (by simp [LA]; omega)
theorem calc_Do_2_all : ∀ (l : List (List Int)) (hl : ∀ x ∈ l, W4 x), calc_Do.m 600 (2, LA l) = some (doV 2 l)
  | [], _ => calc_len ci_2 rfl rfl (by kernel_rfl)
  | [_], _ => calc_len ci_2 rfl rfl (by kernel_rfl)
  | [a, b], hl => by
    have ha := hl a (by simp)
    have hb := hl b (by simp)
    show calc_Do.m 600 (2, [AV.ints .u64 4 a, AV.ints .u64 4 b]) = _
    simp only [cd_2, cs_2, word_Mul_ok (show 100 ≤ 600 by omega) ha hb, bindO, Option.bind_some, doV]
  | a :: b :: c :: r, _ => by
    rw [show doV 2 (a :: b :: c :: r) = ([0, 0, 0, 0], false) from rfl]
    exact calc_len ci_2 rfl rfl (by simp [LA]; omega)
theorem calc_Do_3_all : ∀ (l : List (List Int)) (hl : ∀ x ∈ l, W4 x), calc_Do.m 600 (3, LA l) = some (doV 3 l)
  | [], _ => calc_len ci_3 rfl rfl (by kernel_rfl)
  | [_], _ => calc_len ci_3 rfl rfl (by kernel_rfl)
  | [a, b], hl => by
    have ha := hl a (by simp)
    have hb := hl b (by simp)
    show calc_Do.m 600 (3, [AV.ints .u64 4 a, AV.ints .u64 4 b]) = _
    simp only [cd_3, cs_3, word_Sub_ok (show 100 ≤ 600 by omega) ha hb, bindO, Option.bind_some, doV]
  | a :: b :: c :: r, _ => by
    rw [show doV 3 (a :: b :: c :: r) = ([0, 0, 0, 0], false) from rfl]
    exact calc_len ci_3 rfl rfl (by simp [LA]; omega)
theorem calc_Do_4_all : ∀ (l : List (List Int)) (hl : ∀ x ∈ l, W4 x), calc_Do.m 600 (4, LA l) = some (doV 4 l)
  | [], _ => calc_len ci_4 rfl rfl (by kernel_rfl)
  | [_], _ => calc_len ci_4 rfl rfl (by kernel_rfl)
  | [a, b], hl => by
    have ha := hl a (by simp)
    have hb := hl b (by simp)
    show calc_Do.m 600 (4, [AV.ints .u64 4 a, AV.ints .u64 4 b]) = _
    simp only [cd_4, cs_4, word_Div_ok (show 600 ≤ 600 by omega) ha hb, bindO, Option.bind_some, doV]
  | a :: b :: c :: r, _ => by
    rw [show doV 4 (a :: b :: c :: r) = ([0, 0, 0, 0], false) from rfl]
    exact calc_len ci_4 rfl rfl (by simp [LA]; omega)
theorem calc_Do_5_all : ∀ (l : List (List Int)) (hl : ∀ x ∈ l, W4 x), calc_Do.m 600 (5, LA l) = some (doV 5 l)
  | [], _ => calc_len ci_5 rfl rfl (by kernel_rfl)
  | [_], _ => calc_len ci_5 rfl rfl (by kernel_rfl)
  | [a, b], hl => by
    have ha := hl a (by simp)
    have hb := hl b (by simp)
    show calc_Do.m 600 (5, [AV.ints .u64 4 a, AV.ints .u64 4 b]) = _
    simp only [cd_5, cs_5, word_Sdiv_ok (show 600 ≤ 600 by omega) ha hb, bindO, Option.bind_some, doV]
  | a :: b :: c :: r, _ => by
    rw [show doV 5 (a :: b :: c :: r) = ([0, 0, 0, 0], false) from rfl]
    exact calc_len ci_5 rfl rfl (by simp [LA]; omega)
theorem calc_Do_6_all : ∀ (l : List (List Int)) (hl : ∀ x ∈ l, W4 x), calc_Do.m 600 (6, LA l) = some (doV 6 l)
  | [], _ => calc_len ci_6 rfl rfl (by kernel_rfl)
  | [_], _ => calc_len ci_6 rfl rfl (by kernel_rfl)
  | [a, b], hl => by
    have ha := hl a (by simp)
    have hb := hl b (by simp)
    show calc_Do.m 600 (6, [AV.ints .u64 4 a, AV.ints .u64 4 b]) = _
    simp only [cd_6, cs_6, word_Div_ok (show 600 ≤ 600 by omega) ha hb, bindO, Option.bind_some, doV]
  | a :: b :: c :: r, _ => by
    rw [show doV 6 (a :: b :: c :: r) = ([0, 0, 0, 0], false) from rfl]
    exact calc_len ci_6 rfl rfl (by simp [LA]; omega)
theorem calc_Do_7_all : ∀ (l : List (List Int)) (hl : ∀ x ∈ l, W4 x), calc_Do.m 600 (7, LA l) = some (doV 7 l)
  | [], _ => calc_len ci_7 rfl rfl (by kernel_rfl)
  | [_], _ => calc_len ci_7 rfl rfl (by kernel_rfl)
  | [a, b], hl => by
    have ha := hl a (by simp)
    have hb := hl b (by simp)
    show calc_Do.m 600 (7, [AV.ints .u64 4 a, AV.ints .u64 4 b]) = _
    simp only [cd_7, cs_7, word_Sdiv_ok (show 600 ≤ 600 by omega) ha hb, bindO, Option.bind_some, doV]
  | a :: b :: c :: r, _ => by
    rw [show doV 7 (a :: b :: c :: r) = ([0, 0, 0, 0], false) from rfl]
    exact calc_len ci_7 rfl rfl (by simp [LA]; omega)
theorem calc_Do_8_all : ∀ (l : List (List Int)) (hl : ∀ x ∈ l, W4 x), calc_Do.m 600 (8, LA l) = some (doV 8 l)
  | [], _ => calc_len ci_8 rfl rfl (by kernel_rfl)
  | [_], _ => calc_len ci_8 rfl rfl (by kernel_rfl)
  | [_, _], _ => calc_len ci_8 rfl rfl (by kernel_rfl)
  | [a, b, c], hl => by
    have ha := hl a (by simp)
    have hb := hl b (by simp)
    have hc := hl c (by simp)
    show calc_Do.m 600 (8, [AV.ints .u64 4 a, AV.ints .u64 4 b, AV.ints .u64 4 c]) = _
    simp only [cd_8, cs_8, word_AddMod_ok (show 600 ≤ 600 by omega) ha hb hc, bindO, Option.bind_some, doV]
  | a :: b :: c :: d :: r, _ => by
    rw [show doV 8 (a :: b :: c :: d :: r) = ([0, 0, 0, 0], false) from rfl]
    exact calc_len ci_8 rfl rfl (by simp [LA]; omega)
theorem calc_Do_9_all : ∀ (l : List (List Int)) (hl : ∀ x ∈ l, W4 x), calc_Do.m 600 (9, LA l) = some (doV 9 l)
  | [], _ => calc_len ci_9 rfl rfl (by kernel_rfl)
  | [_], _ => calc_len ci_9 rfl rfl (by kernel_rfl)
  | [_, _], _ => calc_len ci_9 rfl rfl (by kernel_rfl)
  | [a, b, c], hl => by
    have ha := hl a (by simp)
    have hb := hl b (by simp)
    have hc := hl c (by simp)
    show calc_Do.m 600 (9, [AV.ints .u64 4 a, AV.ints .u64 4 b, AV.ints .u64 4 c]) = _
    simp only [cd_9, cs_9, word_MulMod_ok (show 600 ≤ 600 by omega) ha hb hc, bindO, Option.bind_some, doV]
  | a :: b :: c :: d :: r, _ => by
    rw [show doV 9 (a :: b :: c :: d :: r) = ([0, 0, 0, 0], false) from rfl]
    exact calc_len ci_9 rfl rfl (by simp [LA]; omega)
theorem calc_Do_10_all : ∀ (l : List (List Int)) (hl : ∀ x ∈ l, W4 x), calc_Do.m 600 (10, LA l) = some (doV 10 l)
  | [], _ => calc_len ci_10 rfl rfl (by kernel_rfl)
  | [_], _ => calc_len ci_10 rfl rfl (by kernel_rfl)
  | [a, b], hl => by
    have ha := hl a (by simp)
    have hb := hl b (by simp)
    show calc_Do.m 600 (10, [AV.ints .u64 4 a, AV.ints .u64 4 b]) = _
    simp only [cd_10, cs_10, word_Exp_ok (show 600 ≤ 600 by omega) ha hb, bindO, Option.bind_some, doV]
  | a :: b :: c :: r, _ => by
    rw [show doV 10 (a :: b :: c :: r) = ([0, 0, 0, 0], false) from rfl]
    exact calc_len ci_10 rfl rfl (by simp [LA]; omega)
theorem calc_Do_11_all : ∀ (l : List (List Int)) (hl : ∀ x ∈ l, W4 x), calc_Do.m 600 (11, LA l) = some (doV 11 l)
  | [], _ => calc_len ci_11 rfl rfl (by kernel_rfl)
  | [_], _ => calc_len ci_11 rfl rfl (by kernel_rfl)
  | [a, b], hl => by
    have ha := hl a (by simp)
    have hb := hl b (by simp)
    show calc_Do.m 600 (11, [AV.ints .u64 4 a, AV.ints .u64 4 b]) = _
    simp only [cd_11, cs_11, word_Extend_ok (show 600 ≤ 600 by omega) ha hb, bindO, Option.bind_some, doV]
  | a :: b :: c :: r, _ => by
    rw [show doV 11 (a :: b :: c :: r) = ([0, 0, 0, 0], false) from rfl]
    exact calc_len ci_11 rfl rfl (by simp [LA]; omega)
theorem calc_Do_12_all (l : List (List Int)) (hl : ∀ x ∈ l, W4 x) : calc_Do.m 600 (12, LA l) = some (doV 12 l) := by
  rw [calc_no ci_12 (.inl rfl)]
  rfl
theorem calc_Do_13_all (l : List (List Int)) (hl : ∀ x ∈ l, W4 x) : calc_Do.m 600 (13, LA l) = some (doV 13 l) := by
  rw [calc_no ci_13 (.inl rfl)]
  rfl
theorem calc_Do_14_all (l : List (List Int)) (hl : ∀ x ∈ l, W4 x) : calc_Do.m 600 (14, LA l) = some (doV 14 l) := by
  rw [calc_no ci_14 (.inl rfl)]
  rfl
theorem calc_Do_15_all (l : List (List Int)) (hl : ∀ x ∈ l, W4 x) : calc_Do.m 600 (15, LA l) = some (doV 15 l) := by
  rw [calc_no ci_15 (.inl rfl)]
  rfl
theorem calc_Do_16_all : ∀ (l : List (List Int)) (hl : ∀ x ∈ l, W4 x), calc_Do.m 600 (16, LA l) = some (doV 16 l)
  | [], _ => calc_len ci_16 rfl rfl (by kernel_rfl)
  | [_], _ => calc_len ci_16 rfl rfl (by kernel_rfl)
  | [a, b], hl => by
    have ha := hl a (by simp)
    have hb := hl b (by simp)
    show calc_Do.m 600 (16, [AV.ints .u64 4 a, AV.ints .u64 4 b]) = _
    simp only [cd_16, cc_16, word_Cmp_ok (show 100 ≤ 600 by omega) ha hb, calc_truth_ok, cmp_lt, bindO, Option.bind_some, doV]
  | a :: b :: c :: r, _ => by
    rw [show doV 16 (a :: b :: c :: r) = ([0, 0, 0, 0], false) from rfl]
    exact calc_len ci_16 rfl rfl (by simp [LA]; omega)
theorem calc_Do_17_all : ∀ (l : List (List Int)) (hl : ∀ x ∈ l, W4 x), calc_Do.m 600 (17, LA l) = some (doV 17 l)
  | [], _ => calc_len ci_17 rfl rfl (by kernel_rfl)
  | [_], _ => calc_len ci_17 rfl rfl (by kernel_rfl)
  | [a, b], hl => by
    have ha := hl a (by simp)
    have hb := hl b (by simp)
    show calc_Do.m 600 (17, [AV.ints .u64 4 a, AV.ints .u64 4 b]) = _
    simp only [cd_17, cc_17, word_Cmp_ok (show 100 ≤ 600 by omega) hb ha, calc_truth_ok, cmp_lt, bindO, Option.bind_some, doV]
  | a :: b :: c :: r, _ => by
    rw [show doV 17 (a :: b :: c :: r) = ([0, 0, 0, 0], false) from rfl]
    exact calc_len ci_17 rfl rfl (by simp [LA]; omega)
theorem calc_Do_18_all : ∀ (l : List (List Int)) (hl : ∀ x ∈ l, W4 x), calc_Do.m 600 (18, LA l) = some (doV 18 l)
  | [], _ => calc_len ci_18 rfl rfl (by kernel_rfl)
  | [_], _ => calc_len ci_18 rfl rfl (by kernel_rfl)
  | [a, b], hl => by
    have ha := hl a (by simp)
    have hb := hl b (by simp)
    show calc_Do.m 600 (18, [AV.ints .u64 4 a, AV.ints .u64 4 b]) = _
    simp only [cd_18, cc_18, word_Scmp_ok (show 100 ≤ 600 by omega) ha hb, calc_truth_ok, cmp_lt, bindO, Option.bind_some, doV]
  | a :: b :: c :: r, _ => by
    rw [show doV 18 (a :: b :: c :: r) = ([0, 0, 0, 0], false) from rfl]
    exact calc_len ci_18 rfl rfl (by simp [LA]; omega)
theorem calc_Do_19_all : ∀ (l : List (List Int)) (hl : ∀ x ∈ l, W4 x), calc_Do.m 600 (19, LA l) = some (doV 19 l)
  | [], _ => calc_len ci_19 rfl rfl (by kernel_rfl)
  | [_], _ => calc_len ci_19 rfl rfl (by kernel_rfl)
  | [a, b], hl => by
    have ha := hl a (by simp)
    have hb := hl b (by simp)
    show calc_Do.m 600 (19, [AV.ints .u64 4 a, AV.ints .u64 4 b]) = _
    simp only [cd_19, cc_19, word_Scmp_ok (show 100 ≤ 600 by omega) hb ha, calc_truth_ok, cmp_lt, bindO, Option.bind_some, doV]
  | a :: b :: c :: r, _ => by
    rw [show doV 19 (a :: b :: c :: r) = ([0, 0, 0, 0], false) from rfl]
    exact calc_len ci_19 rfl rfl (by simp [LA]; omega)
theorem calc_Do_20_all : ∀ (l : List (List Int)) (hl : ∀ x ∈ l, W4 x), calc_Do.m 600 (20, LA l) = some (doV 20 l)
  | [], _ => calc_len ci_20 rfl rfl (by kernel_rfl)
  | [_], _ => calc_len ci_20 rfl rfl (by kernel_rfl)
  | [a, b], hl => by
    have ha := hl a (by simp)
    have hb := hl b (by simp)
    show calc_Do.m 600 (20, [AV.ints .u64 4 a, AV.ints .u64 4 b]) = _
    simp only [cd_20, cc_20, calc_truth_ok, bindO, Option.bind_some, doV]
  | a :: b :: c :: r, _ => by
    rw [show doV 20 (a :: b :: c :: r) = ([0, 0, 0, 0], false) from rfl]
    exact calc_len ci_20 rfl rfl (by simp [LA]; omega)
theorem calc_Do_21_all : ∀ (l : List (List Int)) (hl : ∀ x ∈ l, W4 x), calc_Do.m 600 (21, LA l) = some (doV 21 l)
  | [], _ => calc_len ci_21 rfl rfl (by kernel_rfl)
  | [a], hl => by
    have ha := hl a (by simp)
    show calc_Do.m 600 (21, [AV.ints .u64 4 a]) = _
    simp only [cd_21, calc_truth_ok, bindO, Option.bind_some, doV]
  | a :: b :: r, _ => by
    rw [show doV 21 (a :: b :: r) = ([0, 0, 0, 0], false) from rfl]
    exact calc_len ci_21 rfl rfl (by simp [LA]; omega)
theorem calc_Do_22_all : ∀ (l : List (List Int)) (hl : ∀ x ∈ l, W4 x), calc_Do.m 600 (22, LA l) = some (doV 22 l)
  | [], _ => calc_len ci_22 rfl rfl (by kernel_rfl)
  | [_], _ => calc_len ci_22 rfl rfl (by kernel_rfl)
  | [a, b], hl => by
    have ha := hl a (by simp)
    have hb := hl b (by simp)
    show calc_Do.m 600 (22, [AV.ints .u64 4 a, AV.ints .u64 4 b]) = _
    simp only [cd_22, calc_each_and_ok ha hb, bindO, Option.bind_some, doV]
  | a :: b :: c :: r, _ => by
    rw [show doV 22 (a :: b :: c :: r) = ([0, 0, 0, 0], false) from rfl]
    exact calc_len ci_22 rfl rfl (by simp [LA]; omega)
theorem calc_Do_23_all : ∀ (l : List (List Int)) (hl : ∀ x ∈ l, W4 x), calc_Do.m 600 (23, LA l) = some (doV 23 l)
  | [], _ => calc_len ci_23 rfl rfl (by kernel_rfl)
  | [_], _ => calc_len ci_23 rfl rfl (by kernel_rfl)
  | [a, b], hl => by
    have ha := hl a (by simp)
    have hb := hl b (by simp)
    show calc_Do.m 600 (23, [AV.ints .u64 4 a, AV.ints .u64 4 b]) = _
    simp only [cd_23, calc_each_or_ok ha hb, bindO, Option.bind_some, doV]
  | a :: b :: c :: r, _ => by
    rw [show doV 23 (a :: b :: c :: r) = ([0, 0, 0, 0], false) from rfl]
    exact calc_len ci_23 rfl rfl (by simp [LA]; omega)
theorem calc_Do_24_all : ∀ (l : List (List Int)) (hl : ∀ x ∈ l, W4 x), calc_Do.m 600 (24, LA l) = some (doV 24 l)
  | [], _ => calc_len ci_24 rfl rfl (by kernel_rfl)
  | [_], _ => calc_len ci_24 rfl rfl (by kernel_rfl)
  | [a, b], hl => by
    have ha := hl a (by simp)
    have hb := hl b (by simp)
    show calc_Do.m 600 (24, [AV.ints .u64 4 a, AV.ints .u64 4 b]) = _
    simp only [cd_24, calc_each_xor_ok ha hb, bindO, Option.bind_some, doV]
  | a :: b :: c :: r, _ => by
    rw [show doV 24 (a :: b :: c :: r) = ([0, 0, 0, 0], false) from rfl]
    exact calc_len ci_24 rfl rfl (by simp [LA]; omega)
theorem calc_Do_25_all : ∀ (l : List (List Int)) (hl : ∀ x ∈ l, W4 x), calc_Do.m 600 (25, LA l) = some (doV 25 l)
  | [], _ => calc_len ci_25 rfl rfl (by kernel_rfl)
  | [a], hl => by
    have ha := hl a (by simp)
    show calc_Do.m 600 (25, [AV.ints .u64 4 a]) = _
    simp only [cd_25, calc_each_nor_ok ha, nor_same ha, bindO, Option.bind_some, doV]
  | a :: b :: r, _ => by
    rw [show doV 25 (a :: b :: r) = ([0, 0, 0, 0], false) from rfl]
    exact calc_len ci_25 rfl rfl (by simp [LA]; omega)
theorem calc_Do_26_all : ∀ (l : List (List Int)) (hl : ∀ x ∈ l, W4 x), calc_Do.m 600 (26, LA l) = some (doV 26 l)
  | [], _ => calc_len ci_26 rfl rfl (by kernel_rfl)
  | [_], _ => calc_len ci_26 rfl rfl (by kernel_rfl)
  | [a, b], hl => by
    have ha := hl a (by simp)
    have hb := hl b (by simp)
    show calc_Do.m 600 (26, [AV.ints .u64 4 a, AV.ints .u64 4 b]) = _
    simp only [cd_26, word_Byte_ok ha hb, bindO, Option.bind_some, doV]
  | a :: b :: c :: r, _ => by
    rw [show doV 26 (a :: b :: c :: r) = ([0, 0, 0, 0], false) from rfl]
    exact calc_len ci_26 rfl rfl (by simp [LA]; omega)
theorem calc_Do_27_all : ∀ (l : List (List Int)) (hl : ∀ x ∈ l, W4 x), calc_Do.m 600 (27, LA l) = some (doV 27 l)
  | [], _ => calc_len ci_27 rfl rfl (by kernel_rfl)
  | [_], _ => calc_len ci_27 rfl rfl (by kernel_rfl)
  | [a, b], hl => by
    have ha := hl a (by simp)
    have hb := hl b (by simp)
    show calc_Do.m 600 (27, [AV.ints .u64 4 a, AV.ints .u64 4 b]) = _
    simp only [cd_27, word_Shl_ok (show 600 ≤ 600 by omega) ha hb, bindO, Option.bind_some, doV]
  | a :: b :: c :: r, _ => by
    rw [show doV 27 (a :: b :: c :: r) = ([0, 0, 0, 0], false) from rfl]
    exact calc_len ci_27 rfl rfl (by simp [LA]; omega)
theorem calc_Do_28_all : ∀ (l : List (List Int)) (hl : ∀ x ∈ l, W4 x), calc_Do.m 600 (28, LA l) = some (doV 28 l)
  | [], _ => calc_len ci_28 rfl rfl (by kernel_rfl)
  | [_], _ => calc_len ci_28 rfl rfl (by kernel_rfl)
  | [a, b], hl => by
    have ha := hl a (by simp)
    have hb := hl b (by simp)
    show calc_Do.m 600 (28, [AV.ints .u64 4 a, AV.ints .u64 4 b]) = _
    simp only [cd_28, word_Shr_ok (show 600 ≤ 600 by omega) ha hb, bindO, Option.bind_some, doV]
  | a :: b :: c :: r, _ => by
    rw [show doV 28 (a :: b :: c :: r) = ([0, 0, 0, 0], false) from rfl]
    exact calc_len ci_28 rfl rfl (by simp [LA]; omega)
theorem calc_Do_29_all : ∀ (l : List (List Int)) (hl : ∀ x ∈ l, W4 x), calc_Do.m 600 (29, LA l) = some (doV 29 l)
  | [], _ => calc_len ci_29 rfl rfl (by kernel_rfl)
  | [_], _ => calc_len ci_29 rfl rfl (by kernel_rfl)
  | [a, b], hl => by
    have ha := hl a (by simp)
    have hb := hl b (by simp)
    show calc_Do.m 600 (29, [AV.ints .u64 4 a, AV.ints .u64 4 b]) = _
    simp only [cd_29, word_Sar_ok (show 600 ≤ 600 by omega) ha hb, bindO, Option.bind_some, doV]
  | a :: b :: c :: r, _ => by
    rw [show doV 29 (a :: b :: c :: r) = ([0, 0, 0, 0], false) from rfl]
    exact calc_len ci_29 rfl rfl (by simp [LA]; omega)
theorem q11_Do_1_all : ∀ (l : List (List Int)) (hl : ∀ x ∈ l, W4 x), q11_Do.m 600 (1, LA l) = some (doV 1 l)
  | [], _ => q11_len qi_1 (by kernel_rfl)
  | [_], _ => q11_len qi_1 (by kernel_rfl)
  | [a, b], hl => by
    have ha := hl a (by simp)
    have hb := hl b (by simp)
    show q11_Do.m 600 (1, [AV.ints .u64 4 a, AV.ints .u64 4 b]) = _
    simp only [qd_1, qs_1, q01_Add_ok (show 100 ≤ 600 by omega) ha hb, bindO, Option.bind_some, doV]
  | a :: b :: c :: r, _ => by
    rw [show doV 1 (a :: b :: c :: r) = ([0, 0, 0, 0], false) from rfl]
    exact q11_len qi_1 (by simp [LA]; omega)
theorem q11_Do_2_all : ∀ (l : List (List Int)) (hl : ∀ x ∈ l, W4 x), q11_Do.m 600 (2, LA l) = some (doV 2 l)
  | [], _ => q11_len qi_2 (by kernel_rfl)
  | [_], _ => q11_len qi_2 (by kernel_rfl)
  | [a, b], hl => by
    have ha := hl a (by simp)
    have hb := hl b (by simp)
    show q11_Do.m 600 (2, [AV.ints .u64 4 a, AV.ints .u64 4 b]) = _
    simp only [qd_2, qs_2, q01_Mul_ok (show 100 ≤ 600 by omega) ha hb, bindO, Option.bind_some, doV]
  | a :: b :: c :: r, _ => by
    rw [show doV 2 (a :: b :: c :: r) = ([0, 0, 0, 0], false) from rfl]
    exact q11_len qi_2 (by simp [LA]; omega)
theorem q11_Do_3_all : ∀ (l : List (List Int)) (hl : ∀ x ∈ l, W4 x), q11_Do.m 600 (3, LA l) = some (doV 3 l)
  | [], _ => q11_len qi_3 (by kernel_rfl)
  | [_], _ => q11_len qi_3 (by kernel_rfl)
  | [a, b], hl => by
    have ha := hl a (by simp)
    have hb := hl b (by simp)
    show q11_Do.m 600 (3, [AV.ints .u64 4 a, AV.ints .u64 4 b]) = _
    simp only [qd_3, qs_3, q01_Sub_ok (show 100 ≤ 600 by omega) ha hb, bindO, Option.bind_some, doV]
  | a :: b :: c :: r, _ => by
    rw [show doV 3 (a :: b :: c :: r) = ([0, 0, 0, 0], false) from rfl]
    exact q11_len qi_3 (by simp [LA]; omega)
theorem q11_Do_4_all : ∀ (l : List (List Int)) (hl : ∀ x ∈ l, W4 x), q11_Do.m 600 (4, LA l) = some (doV 4 l)
  | [], _ => q11_len qi_4 (by kernel_rfl)
  | [_], _ => q11_len qi_4 (by kernel_rfl)
  | [a, b], hl => by
    have ha := hl a (by simp)
    have hb := hl b (by simp)
    show q11_Do.m 600 (4, [AV.ints .u64 4 a, AV.ints .u64 4 b]) = _
    simp only [qd_4, qs_4, q01_Div_ok (show 600 ≤ 600 by omega) ha hb, bindO, Option.bind_some, doV]
  | a :: b :: c :: r, _ => by
    rw [show doV 4 (a :: b :: c :: r) = ([0, 0, 0, 0], false) from rfl]
    exact q11_len qi_4 (by simp [LA]; omega)
theorem q11_Do_5_all : ∀ (l : List (List Int)) (hl : ∀ x ∈ l, W4 x), q11_Do.m 600 (5, LA l) = some (doV 5 l)
  | [], _ => q11_len qi_5 (by kernel_rfl)
  | [_], _ => q11_len qi_5 (by kernel_rfl)
  | [a, b], hl => by
    have ha := hl a (by simp)
    have hb := hl b (by simp)
    show q11_Do.m 600 (5, [AV.ints .u64 4 a, AV.ints .u64 4 b]) = _
    simp only [qd_5, qs_5, q01_Sdiv_ok (show 600 ≤ 600 by omega) ha hb, bindO, Option.bind_some, doV]
  | a :: b :: c :: r, _ => by
    rw [show doV 5 (a :: b :: c :: r) = ([0, 0, 0, 0], false) from rfl]
    exact q11_len qi_5 (by simp [LA]; omega)
theorem q11_Do_6_all : ∀ (l : List (List Int)) (hl : ∀ x ∈ l, W4 x), q11_Do.m 600 (6, LA l) = some (doV 6 l)
  | [], _ => q11_len qi_6 (by kernel_rfl)
  | [_], _ => q11_len qi_6 (by kernel_rfl)
  | [a, b], hl => by
    have ha := hl a (by simp)
    have hb := hl b (by simp)
    show q11_Do.m 600 (6, [AV.ints .u64 4 a, AV.ints .u64 4 b]) = _
    simp only [qd_6, qs_6, q01_Div_ok (show 600 ≤ 600 by omega) ha hb, bindO, Option.bind_some, doV]
  | a :: b :: c :: r, _ => by
    rw [show doV 6 (a :: b :: c :: r) = ([0, 0, 0, 0], false) from rfl]
    exact q11_len qi_6 (by simp [LA]; omega)
theorem q11_Do_7_all : ∀ (l : List (List Int)) (hl : ∀ x ∈ l, W4 x), q11_Do.m 600 (7, LA l) = some (doV 7 l)
  | [], _ => q11_len qi_7 (by kernel_rfl)
  | [_], _ => q11_len qi_7 (by kernel_rfl)
  | [a, b], hl => by
    have ha := hl a (by simp)
    have hb := hl b (by simp)
    show q11_Do.m 600 (7, [AV.ints .u64 4 a, AV.ints .u64 4 b]) = _
    simp only [qd_7, qs_7, q01_Sdiv_ok (show 600 ≤ 600 by omega) ha hb, bindO, Option.bind_some, doV]
  | a :: b :: c :: r, _ => by
    rw [show doV 7 (a :: b :: c :: r) = ([0, 0, 0, 0], false) from rfl]
    exact q11_len qi_7 (by simp [LA]; omega)
theorem q11_Do_8_all : ∀ (l : List (List Int)) (hl : ∀ x ∈ l, W4 x), q11_Do.m 600 (8, LA l) = some (doV 8 l)
  | [], _ => q11_len qi_8 (by kernel_rfl)
  | [_], _ => q11_len qi_8 (by kernel_rfl)
  | [_, _], _ => q11_len qi_8 (by kernel_rfl)
  | [a, b, c], hl => by
    have ha := hl a (by simp)
    have hb := hl b (by simp)
    have hc := hl c (by simp)
    show q11_Do.m 600 (8, [AV.ints .u64 4 a, AV.ints .u64 4 b, AV.ints .u64 4 c]) = _
    simp only [qd_8, qs_8, q01_AddMod_ok (show 600 ≤ 600 by omega) ha hb hc, bindO, Option.bind_some, doV]
  | a :: b :: c :: d :: r, _ => by
    rw [show doV 8 (a :: b :: c :: d :: r) = ([0, 0, 0, 0], false) from rfl]
    exact q11_len qi_8 (by simp [LA]; omega)
theorem q11_Do_9_all : ∀ (l : List (List Int)) (hl : ∀ x ∈ l, W4 x), q11_Do.m 600 (9, LA l) = some (doV 9 l)
  | [], _ => q11_len qi_9 (by kernel_rfl)
  | [_], _ => q11_len qi_9 (by kernel_rfl)
  | [_, _], _ => q11_len qi_9 (by kernel_rfl)
  | [a, b, c], hl => by
    have ha := hl a (by simp)
    have hb := hl b (by simp)
    have hc := hl c (by simp)
    show q11_Do.m 600 (9, [AV.ints .u64 4 a, AV.ints .u64 4 b, AV.ints .u64 4 c]) = _
    simp only [qd_9, qs_9, q01_MulMod_ok (show 600 ≤ 600 by omega) ha hb hc, bindO, Option.bind_some, doV]
  | a :: b :: c :: d :: r, _ => by
    rw [show doV 9 (a :: b :: c :: d :: r) = ([0, 0, 0, 0], false) from rfl]
    exact q11_len qi_9 (by simp [LA]; omega)
theorem q11_Do_10_all : ∀ (l : List (List Int)) (hl : ∀ x ∈ l, W4 x), q11_Do.m 600 (10, LA l) = some (doV 10 l)
  | [], _ => q11_len qi_10 (by kernel_rfl)
  | [_], _ => q11_len qi_10 (by kernel_rfl)
  | [a, b], hl => by
    have ha := hl a (by simp)
    have hb := hl b (by simp)
    show q11_Do.m 600 (10, [AV.ints .u64 4 a, AV.ints .u64 4 b]) = _
    simp only [qd_10, qs_10, q01_Exp_ok (show 600 ≤ 600 by omega) ha hb, bindO, Option.bind_some, doV]
  | a :: b :: c :: r, _ => by
    rw [show doV 10 (a :: b :: c :: r) = ([0, 0, 0, 0], false) from rfl]
    exact q11_len qi_10 (by simp [LA]; omega)
theorem q11_Do_11_all : ∀ (l : List (List Int)) (hl : ∀ x ∈ l, W4 x), q11_Do.m 600 (11, LA l) = some (doV 11 l)
  | [], _ => q11_len qi_11 (by kernel_rfl)
  | [_], _ => q11_len qi_11 (by kernel_rfl)
  | [a, b], hl => by
    have ha := hl a (by simp)
    have hb := hl b (by simp)
    show q11_Do.m 600 (11, [AV.ints .u64 4 a, AV.ints .u64 4 b]) = _
    simp only [qd_11, qs_11, q01_Extend_ok (show 600 ≤ 600 by omega) ha hb, bindO, Option.bind_some, doV]
  | a :: b :: c :: r, _ => by
    rw [show doV 11 (a :: b :: c :: r) = ([0, 0, 0, 0], false) from rfl]
    exact q11_len qi_11 (by simp [LA]; omega)
theorem q11_Do_12_all (l : List (List Int)) (hl : ∀ x ∈ l, W4 x) : q11_Do.m 600 (12, LA l) = some (doV 12 l) := by
  rw [q11_no qi_12 (.inl rfl)]
  rfl
theorem q11_Do_13_all (l : List (List Int)) (hl : ∀ x ∈ l, W4 x) : q11_Do.m 600 (13, LA l) = some (doV 13 l) := by
  rw [q11_no qi_13 (.inl rfl)]
  rfl
theorem q11_Do_14_all (l : List (List Int)) (hl : ∀ x ∈ l, W4 x) : q11_Do.m 600 (14, LA l) = some (doV 14 l) := by
  rw [q11_no qi_14 (.inl rfl)]
  rfl
theorem q11_Do_15_all (l : List (List Int)) (hl : ∀ x ∈ l, W4 x) : q11_Do.m 600 (15, LA l) = some (doV 15 l) := by
  rw [q11_no qi_15 (.inl rfl)]
  rfl
theorem q11_Do_16_all : ∀ (l : List (List Int)) (hl : ∀ x ∈ l, W4 x), q11_Do.m 600 (16, LA l) = some (doV 16 l)
  | [], _ => q11_len qi_16 (by kernel_rfl)
  | [_], _ => q11_len qi_16 (by kernel_rfl)
  | [a, b], hl => by
    have ha := hl a (by simp)
    have hb := hl b (by simp)
    show q11_Do.m 600 (16, [AV.ints .u64 4 a, AV.ints .u64 4 b]) = _
    simp only [qd_16, q01_Cmp_ok (show 100 ≤ 600 by omega) ha hb, q11_truth_ok, cmp_lt, bindO, Option.bind_some, doV]
  | a :: b :: c :: r, _ => by
    rw [show doV 16 (a :: b :: c :: r) = ([0, 0, 0, 0], false) from rfl]
    exact q11_len qi_16 (by simp [LA]; omega)
theorem q11_Do_17_all : ∀ (l : List (List Int)) (hl : ∀ x ∈ l, W4 x), q11_Do.m 600 (17, LA l) = some (doV 17 l)
  | [], _ => q11_len qi_17 (by kernel_rfl)
  | [_], _ => q11_len qi_17 (by kernel_rfl)
  | [a, b], hl => by
    have ha := hl a (by simp)
    have hb := hl b (by simp)
    show q11_Do.m 600 (17, [AV.ints .u64 4 a, AV.ints .u64 4 b]) = _
    simp only [qd_17, q01_Cmp_ok (show 100 ≤ 600 by omega) ha hb, q11_truth_ok, cmp_gt, bindO, Option.bind_some, doV]
  | a :: b :: c :: r, _ => by
    rw [show doV 17 (a :: b :: c :: r) = ([0, 0, 0, 0], false) from rfl]
    exact q11_len qi_17 (by simp [LA]; omega)
theorem q11_Do_18_all : ∀ (l : List (List Int)) (hl : ∀ x ∈ l, W4 x), q11_Do.m 600 (18, LA l) = some (doV 18 l)
  | [], _ => q11_len qi_18 (by kernel_rfl)
  | [_], _ => q11_len qi_18 (by kernel_rfl)
  | [a, b], hl => by
    have ha := hl a (by simp)
    have hb := hl b (by simp)
    show q11_Do.m 600 (18, [AV.ints .u64 4 a, AV.ints .u64 4 b]) = _
    simp only [qd_18, q01_Scmp_ok (show 100 ≤ 600 by omega) ha hb, q11_truth_ok, cmp_lt, bindO, Option.bind_some, doV]
  | a :: b :: c :: r, _ => by
    rw [show doV 18 (a :: b :: c :: r) = ([0, 0, 0, 0], false) from rfl]
    exact q11_len qi_18 (by simp [LA]; omega)
theorem q11_Do_19_all : ∀ (l : List (List Int)) (hl : ∀ x ∈ l, W4 x), q11_Do.m 600 (19, LA l) = some (doV 19 l)
  | [], _ => q11_len qi_19 (by kernel_rfl)
  | [_], _ => q11_len qi_19 (by kernel_rfl)
  | [a, b], hl => by
    have ha := hl a (by simp)
    have hb := hl b (by simp)
    show q11_Do.m 600 (19, [AV.ints .u64 4 a, AV.ints .u64 4 b]) = _
    simp only [qd_19, q01_Scmp_ok (show 100 ≤ 600 by omega) ha hb, q11_truth_ok, cmp_gt, bindO, Option.bind_some, doV]
  | a :: b :: c :: r, _ => by
    rw [show doV 19 (a :: b :: c :: r) = ([0, 0, 0, 0], false) from rfl]
    exact q11_len qi_19 (by simp [LA]; omega)
theorem q11_Do_20_all : ∀ (l : List (List Int)) (hl : ∀ x ∈ l, W4 x), q11_Do.m 600 (20, LA l) = some (doV 20 l)
  | [], _ => q11_len qi_20 (by kernel_rfl)
  | [_], _ => q11_len qi_20 (by kernel_rfl)
  | [a, b], hl => by
    have ha := hl a (by simp)
    have hb := hl b (by simp)
    show q11_Do.m 600 (20, [AV.ints .u64 4 a, AV.ints .u64 4 b]) = _
    simp only [qd_20, q11_truth_ok, bindO, Option.bind_some, doV]
  | a :: b :: c :: r, _ => by
    rw [show doV 20 (a :: b :: c :: r) = ([0, 0, 0, 0], false) from rfl]
    exact q11_len qi_20 (by simp [LA]; omega)
theorem q11_Do_21_all : ∀ (l : List (List Int)) (hl : ∀ x ∈ l, W4 x), q11_Do.m 600 (21, LA l) = some (doV 21 l)
  | [], _ => q11_len qi_21 (by kernel_rfl)
  | [a], hl => by
    have ha := hl a (by simp)
    show q11_Do.m 600 (21, [AV.ints .u64 4 a]) = _
    simp only [qd_21, q11_truth_ok, bindO, Option.bind_some, doV]
  | a :: b :: r, _ => by
    rw [show doV 21 (a :: b :: r) = ([0, 0, 0, 0], false) from rfl]
    exact q11_len qi_21 (by simp [LA]; omega)
theorem q11_Do_22_all : ∀ (l : List (List Int)) (hl : ∀ x ∈ l, W4 x), q11_Do.m 600 (22, LA l) = some (doV 22 l)
  | [], _ => q11_len qi_22 (by kernel_rfl)
  | [_], _ => q11_len qi_22 (by kernel_rfl)
  | [a, b], hl => by
    have ha := hl a (by simp)
    have hb := hl b (by simp)
    show q11_Do.m 600 (22, [AV.ints .u64 4 a, AV.ints .u64 4 b]) = _
    simp only [qd_22, q11_bits_and ha hb, bindO, Option.bind_some, doV]
  | a :: b :: c :: r, _ => by
    rw [show doV 22 (a :: b :: c :: r) = ([0, 0, 0, 0], false) from rfl]
    exact q11_len qi_22 (by simp [LA]; omega)
theorem q11_Do_23_all : ∀ (l : List (List Int)) (hl : ∀ x ∈ l, W4 x), q11_Do.m 600 (23, LA l) = some (doV 23 l)
  | [], _ => q11_len qi_23 (by kernel_rfl)
  | [_], _ => q11_len qi_23 (by kernel_rfl)
  | [a, b], hl => by
    have ha := hl a (by simp)
    have hb := hl b (by simp)
    show q11_Do.m 600 (23, [AV.ints .u64 4 a, AV.ints .u64 4 b]) = _
    simp only [qd_23, q11_bits_or ha hb, bindO, Option.bind_some, doV]
  | a :: b :: c :: r, _ => by
    rw [show doV 23 (a :: b :: c :: r) = ([0, 0, 0, 0], false) from rfl]
    exact q11_len qi_23 (by simp [LA]; omega)
theorem q11_Do_24_all : ∀ (l : List (List Int)) (hl : ∀ x ∈ l, W4 x), q11_Do.m 600 (24, LA l) = some (doV 24 l)
  | [], _ => q11_len qi_24 (by kernel_rfl)
  | [_], _ => q11_len qi_24 (by kernel_rfl)
  | [a, b], hl => by
    have ha := hl a (by simp)
    have hb := hl b (by simp)
    show q11_Do.m 600 (24, [AV.ints .u64 4 a, AV.ints .u64 4 b]) = _
    simp only [qd_24, q11_bits_xor ha hb, bindO, Option.bind_some, doV]
  | a :: b :: c :: r, _ => by
    rw [show doV 24 (a :: b :: c :: r) = ([0, 0, 0, 0], false) from rfl]
    exact q11_len qi_24 (by simp [LA]; omega)
theorem q11_Do_25_all : ∀ (l : List (List Int)) (hl : ∀ x ∈ l, W4 x), q11_Do.m 600 (25, LA l) = some (doV 25 l)
  | [], _ => q11_len qi_25 (by kernel_rfl)
  | [a], hl => by
    have ha := hl a (by simp)
    show q11_Do.m 600 (25, [AV.ints .u64 4 a]) = _
    simp only [qd_25, q11_bits_xor ha ones_W4, bindO, Option.bind_some, doV]
  | a :: b :: r, _ => by
    rw [show doV 25 (a :: b :: r) = ([0, 0, 0, 0], false) from rfl]
    exact q11_len qi_25 (by simp [LA]; omega)
theorem q11_Do_26_all : ∀ (l : List (List Int)) (hl : ∀ x ∈ l, W4 x), q11_Do.m 600 (26, LA l) = some (doV 26 l)
  | [], _ => q11_len qi_26 (by kernel_rfl)
  | [_], _ => q11_len qi_26 (by kernel_rfl)
  | [a, b], hl => by
    have ha := hl a (by simp)
    have hb := hl b (by simp)
    show q11_Do.m 600 (26, [AV.ints .u64 4 a, AV.ints .u64 4 b]) = _
    simp only [qd_26, q01_Byte_ok (show 100 ≤ 600 by omega) ha hb, bindO, Option.bind_some, doV]
  | a :: b :: c :: r, _ => by
    rw [show doV 26 (a :: b :: c :: r) = ([0, 0, 0, 0], false) from rfl]
    exact q11_len qi_26 (by simp [LA]; omega)
theorem q11_Do_27_all : ∀ (l : List (List Int)) (hl : ∀ x ∈ l, W4 x), q11_Do.m 600 (27, LA l) = some (doV 27 l)
  | [], _ => q11_len qi_27 (by kernel_rfl)
  | [_], _ => q11_len qi_27 (by kernel_rfl)
  | [a, b], hl => by
    have ha := hl a (by simp)
    have hb := hl b (by simp)
    show q11_Do.m 600 (27, [AV.ints .u64 4 a, AV.ints .u64 4 b]) = _
    simp only [qd_27, q01_Shl_ok (show 600 ≤ 600 by omega) ha hb, bindO, Option.bind_some, doV]
  | a :: b :: c :: r, _ => by
    rw [show doV 27 (a :: b :: c :: r) = ([0, 0, 0, 0], false) from rfl]
    exact q11_len qi_27 (by simp [LA]; omega)
theorem q11_Do_28_all : ∀ (l : List (List Int)) (hl : ∀ x ∈ l, W4 x), q11_Do.m 600 (28, LA l) = some (doV 28 l)
  | [], _ => q11_len qi_28 (by kernel_rfl)
  | [_], _ => q11_len qi_28 (by kernel_rfl)
  | [a, b], hl => by
    have ha := hl a (by simp)
    have hb := hl b (by simp)
    show q11_Do.m 600 (28, [AV.ints .u64 4 a, AV.ints .u64 4 b]) = _
    simp only [qd_28, q01_Shr_ok (show 600 ≤ 600 by omega) ha hb, bindO, Option.bind_some, doV]
  | a :: b :: c :: r, _ => by
    rw [show doV 28 (a :: b :: c :: r) = ([0, 0, 0, 0], false) from rfl]
    exact q11_len qi_28 (by simp [LA]; omega)
theorem q11_Do_29_all : ∀ (l : List (List Int)) (hl : ∀ x ∈ l, W4 x), q11_Do.m 600 (29, LA l) = some (doV 29 l)
  | [], _ => q11_len qi_29 (by kernel_rfl)
  | [_], _ => q11_len qi_29 (by kernel_rfl)
  | [a, b], hl => by
    have ha := hl a (by simp)
    have hb := hl b (by simp)
    show q11_Do.m 600 (29, [AV.ints .u64 4 a, AV.ints .u64 4 b]) = _
    simp only [qd_29, q01_Sar_ok (show 600 ≤ 600 by omega) ha hb, bindO, Option.bind_some, doV]
  | a :: b :: c :: r, _ => by
    rw [show doV 29 (a :: b :: c :: r) = ([0, 0, 0, 0], false) from rfl]
    exact q11_len qi_29 (by simp [LA]; omega)
theorem info_some : (List.range 256).all (fun k => (code_Info.m 600 (k : Int)).isSome && (q08_Info.m 600 (k : Int)).isSome) = true := by kernel_rfl
theorem info_at {k : Nat} (h : k < 256) : (∃ r, code_Info.m 600 (k : Int) = some r) ∧ ∃ r, q08_Info.m 600 (k : Int) = some r := by
  have := List.all_eq_true.1 info_some k (by simpa using h)
  simp only [Bool.and_eq_true] at this
  exact ⟨Option.isSome_iff_exists.1 this.1, Option.isSome_iff_exists.1 this.2⟩
theorem calc_Do_ok : ∀ {k : Nat} (h : k < 256) {l : List (List Int)} (hl : ∀ x ∈ l, W4 x), calc_Do.m 600 ((k : Int), LA l) = some (doV k l)
  | 0, h, l, hl => by
    obtain ⟨r, hr⟩ := (info_at h).1
    rw [calc_no hr (.inr (.inl rfl))]
    rfl
  | 1, h, l, hl => calc_Do_1_all l hl
  | 2, h, l, hl => calc_Do_2_all l hl
  | 3, h, l, hl => calc_Do_3_all l hl
  | 4, h, l, hl => calc_Do_4_all l hl
  | 5, h, l, hl => calc_Do_5_all l hl
  | 6, h, l, hl => calc_Do_6_all l hl
  | 7, h, l, hl => calc_Do_7_all l hl
  | 8, h, l, hl => calc_Do_8_all l hl
  | 9, h, l, hl => calc_Do_9_all l hl
  | 10, h, l, hl => calc_Do_10_all l hl
  | 11, h, l, hl => calc_Do_11_all l hl
  | 12, h, l, hl => calc_Do_12_all l hl
  | 13, h, l, hl => calc_Do_13_all l hl
  | 14, h, l, hl => calc_Do_14_all l hl
  | 15, h, l, hl => calc_Do_15_all l hl
  | 16, h, l, hl => calc_Do_16_all l hl
  | 17, h, l, hl => calc_Do_17_all l hl
  | 18, h, l, hl => calc_Do_18_all l hl
  | 19, h, l, hl => calc_Do_19_all l hl
  | 20, h, l, hl => calc_Do_20_all l hl
  | 21, h, l, hl => calc_Do_21_all l hl
  | 22, h, l, hl => calc_Do_22_all l hl
  | 23, h, l, hl => calc_Do_23_all l hl
  | 24, h, l, hl => calc_Do_24_all l hl
  | 25, h, l, hl => calc_Do_25_all l hl
  | 26, h, l, hl => calc_Do_26_all l hl
  | 27, h, l, hl => calc_Do_27_all l hl
  | 28, h, l, hl => calc_Do_28_all l hl
  | 29, h, l, hl => calc_Do_29_all l hl
  | k + 30, h, l, hl => by
    obtain ⟨r, hr⟩ := (info_at h).1
    rw [calc_no hr (.inr (.inr (by omega)))]
    rfl
theorem q11_Do_ok : ∀ {k : Nat} (h : k < 256) {l : List (List Int)} (hl : ∀ x ∈ l, W4 x), q11_Do.m 600 ((k : Int), LA l) = some (doV k l)
  | 0, h, l, hl => by
    obtain ⟨r, hr⟩ := (info_at h).2
    rw [q11_no hr (.inr (.inl rfl))]
    rfl
  | 1, h, l, hl => q11_Do_1_all l hl
  | 2, h, l, hl => q11_Do_2_all l hl
  | 3, h, l, hl => q11_Do_3_all l hl
  | 4, h, l, hl => q11_Do_4_all l hl
  | 5, h, l, hl => q11_Do_5_all l hl
  | 6, h, l, hl => q11_Do_6_all l hl
  | 7, h, l, hl => q11_Do_7_all l hl
  | 8, h, l, hl => q11_Do_8_all l hl
  | 9, h, l, hl => q11_Do_9_all l hl
  | 10, h, l, hl => q11_Do_10_all l hl
  | 11, h, l, hl => q11_Do_11_all l hl
  | 12, h, l, hl => q11_Do_12_all l hl
  | 13, h, l, hl => q11_Do_13_all l hl
  | 14, h, l, hl => q11_Do_14_all l hl
  | 15, h, l, hl => q11_Do_15_all l hl
  | 16, h, l, hl => q11_Do_16_all l hl
  | 17, h, l, hl => q11_Do_17_all l hl
  | 18, h, l, hl => q11_Do_18_all l hl
  | 19, h, l, hl => q11_Do_19_all l hl
  | 20, h, l, hl => q11_Do_20_all l hl
  | 21, h, l, hl => q11_Do_21_all l hl
  | 22, h, l, hl => q11_Do_22_all l hl
  | 23, h, l, hl => q11_Do_23_all l hl
  | 24, h, l, hl => q11_Do_24_all l hl
  | 25, h, l, hl => q11_Do_25_all l hl
  | 26, h, l, hl => q11_Do_26_all l hl
  | 27, h, l, hl => q11_Do_27_all l hl
  | 28, h, l, hl => q11_Do_28_all l hl
  | 29, h, l, hl => q11_Do_29_all l hl
  | k + 30, h, l, hl => by
    obtain ⟨r, hr⟩ := (info_at h).2
    rw [q11_no hr (.inr (.inr (by omega)))]
    rfl
end Go.Abs.Pure
end
section
set_option linter.unusedVariables false
set_option linter.unusedSimpArgs false
set_option maxRecDepth 100000
namespace Go.Abs.Pure
open Go Go.Abs
theorem l11_known_ok : l11_known.m 600 () = some true := by kernel_rfl
theorem words_of : ∀ {l : List AV}, (∀ x ∈ l, ∃ r, x = AV.ints .u64 4 r ∧ InA .u64 4 r) → ∃ l', l = LA l' ∧ ∀ x ∈ l', W4 x
  | [], _ => ⟨[], rfl, by simp⟩
  | x :: l, h => by
    obtain ⟨r, rfl, hr⟩ := h x (by simp)
    obtain ⟨l', rfl, hl⟩ := words_of (l := l) fun y hy => h y (by simp [hy])
    exact ⟨r :: l', rfl, by simpa using ⟨W4.of hr, hl⟩⟩
theorem op_of {x : Int} (h : InK .u8 x) : ∃ k : Nat, k < 256 ∧ x = (k : Int) := ⟨x.toNat, by have := hi8 h; have := lo8 h; omega, by have := lo8 h; omega⟩
end Go.Abs.Pure
end
section
set_option linter.unusedVariables false
set_option linter.unusedSimpArgs false
namespace Go.Abs.Pure
open Go Go.Abs
theorem S_inj {a b : List Int} (ha : W4 a) (hb : W4 b) (h : S a = S b) : a = b := by
  apply V_inj ha hb
  have ra := V_range ha
  have rb := V_range hb
  unfold S at h
  have hH : H * 2 = B := rfl
  split at h <;> split at h <;> omega
theorem just_one {x y : Int} {c : Bool} (h : c = true ↔ x = y) : b2i (decide (x < y)) + b2i (decide (y < x)) + b2i c = 1 := by
  unfold b2i
  rcases Int.lt_trichotomy x y with k | k | k
  · have : c = false := by cases c with | false => rfl | true => have := h.1 rfl; omega
    simp [k, this]; omega
  · have : c = true := h.2 k
    simp [k, this]
  · have : c = false := by cases c with | false => rfl | true => have := h.1 rfl; omega
    simp [k, this]; omega
theorem xor_range (x y : Int) : 0 ≤ ibits .xor .u64 x y ∧ ibits .xor .u64 x y < 18446744073709551616 := by
  show 0 ≤ IntKind.wrap .u64 _ ∧ IntKind.wrap .u64 _ < _
  rw [wu64]
  omega
theorem xor_twice {x : Int} (h : 0 ≤ x ∧ x < 18446744073709551616) (y : Int) : ibits .xor .u64 (ibits .xor .u64 x y) y = x := by
  show IntKind.wrap .u64 (BitVec.ofInt 64 (IntKind.wrap .u64 ((BitVec.ofInt 64 x ^^^ BitVec.ofInt 64 y).toNat : Int)) ^^^ BitVec.ofInt 64 y).toNat = x
  have e : BitVec.ofInt 64 (IntKind.wrap .u64 ((BitVec.ofInt 64 x ^^^ BitVec.ofInt 64 y).toNat : Int)) = BitVec.ofInt 64 x ^^^ BitVec.ofInt 64 y := by
    have hlt := (BitVec.ofInt 64 x ^^^ BitVec.ofInt 64 y).isLt
    rw [wu64, Int.emod_eq_of_lt (by omega) (by omega)]
    apply BitVec.eq_of_toNat_eq
    rw [BitVec.toNat_ofInt]
    omega
  rw [e, BitVec.xor_assoc, BitVec.xor_self, BitVec.xor_zero, wu64, BitVec.toNat_ofInt]
  omega
theorem each_xor_W4 {a b : List Int} (ha : W4 a) (hb : W4 b) : W4 (eachV .xor a b) := by
  obtain ⟨x, y, z, w, rfl⟩ := four ha
  obtain ⟨x', y', z', w', rfl⟩ := four hb
  exact .mk (xor_range _ _) (xor_range _ _) (xor_range _ _) (xor_range _ _)
theorem each_xor_twice {a b : List Int} (ha : W4 a) (hb : W4 b) : eachV .xor (eachV .xor a b) b = a := by
  obtain ⟨x, y, z, w, rfl, hx, hy, hz, hw⟩ := ha.split
  obtain ⟨x', y', z', w', rfl⟩ := four hb
  simp only [eachV, List.zipWith_cons_cons, List.zipWith_nil_right, xor_twice hx, xor_twice hy, xor_twice hz, xor_twice hw]
theorem each_comm {a b : List Int} (ha : W4 a) (hb : W4 b) : eachV .xor a b = eachV .xor b a ∧ eachV .and a b = eachV .and b a ∧ eachV .or a b = eachV .or b a := by
  obtain ⟨x, y, z, w, rfl⟩ := four ha
  obtain ⟨x', y', z', w', rfl⟩ := four hb
  have c1 : ∀ x y : Int, ibits .and .u64 x y = ibits .and .u64 y x := fun x y => by
    show IntKind.wrap .u64 (BitVec.ofInt 64 x &&& BitVec.ofInt 64 y).toNat = IntKind.wrap .u64 (BitVec.ofInt 64 y &&& BitVec.ofInt 64 x).toNat
    rw [BitVec.and_comm]
  have c2 : ∀ x y : Int, ibits .or .u64 x y = ibits .or .u64 y x := fun x y => by
    show IntKind.wrap .u64 (BitVec.ofInt 64 x ||| BitVec.ofInt 64 y).toNat = IntKind.wrap .u64 (BitVec.ofInt 64 y ||| BitVec.ofInt 64 x).toNat
    rw [BitVec.or_comm]
  refine ⟨?_, ?_, ?_⟩ <;> simp only [eachV, List.zipWith_cons_cons, List.zipWith_nil_right]
  · rw [xor_comm' x, xor_comm' y, xor_comm' z, xor_comm' w]
  · rw [c1 x, c1 y, c1 z, c1 w]
  · rw [c2 x, c2 y, c2 z, c2 w]
theorem truth_is (b : Bool) : (truthV b == [1, 0, 0, 0]) = b := by cases b <;> rfl
end Go.Abs.Pure
end
section
set_option linter.unusedVariables false
set_option linter.unusedSimpArgs false
namespace Go.Abs.Pure
open Go Go.Abs
theorem sides_step {α : Type} (mk0 : Bool → List Int → List Int → α) (mk1 : List Int → List Int → α) (m i : Nat) (hi : i < 6) {a b : List Int} (ha : W4 a) (hb : W4 b) {p : Nat}
    (hp : List.getD ([1, 2, 20, 22, 23, 24] : List Int) i 0 = (p : Int)) (kp : p < 256) (h : (doV p [a, b]).1 = (doV p [b, a]).1) :
    l11_CalcSides.l3_0.g mk0 mk1 600 (m + 1) (i : Int) [1, 2, 20, 22, 23, 24] a b = l11_CalcSides.l3_0.g mk0 mk1 600 m ((i + 1 : Nat) : Int) [1, 2, 20, 22, 23, 24] a b := by
  have hl : ∀ w ∈ [a, b], W4 w := by simp [ha, hb]
  have hl' : ∀ w ∈ [b, a], W4 w := by simp [ha, hb]
  have g2 : (i : Int) < ((([1, 2, 20, 22, 23, 24] : List Int).length : Nat) : Int) := by simp; omega
  have g0 : decide ((i : Int) < ((([1, 2, 20, 22, 23, 24] : List Int).length : Nat) : Int)) = true := decide_eq_true g2
  have g1 : (0 : Int) ≤ (i : Int) := by omega
  have w : IntKind.wrap .i64 ((i : Int) + 1) = ((i + 1 : Nat) : Int) := by rw [wi64]; omega
  show l11_CalcSides.l3_0.r _ _ _ _ _ _ _ _ = _
  simp only [l11_CalcSides.l3_0.r, g0, g1, g2, if_true, Int.toNat_natCast, hp, w]
  rw [show [AV.ints .u64 4 a, AV.ints .u64 4 b] = LA [a, b] from rfl, show [AV.ints .u64 4 b, AV.ints .u64 4 a] = LA [b, a] from rfl]
  simp only [calc_Do_ok kp hl, calc_Do_ok kp hl', bindO, Option.bind_some, h, beq_self_eq_true, Bool.not_true, Bool.false_eq_true, if_false, decide_true, if_true]
theorem CalcSides (a : List Int) (ha : InA .u64 4 a) (b : List Int) (hb : InA .u64 4 b) : ∃ n, l11_CalcSides.m n (a, b) = some true := by
  have x := W4.of ha
  have y := W4.of hb
  obtain ⟨c1, c2, c3⟩ := each_comm x y
  have loop : l11_CalcSides.l3_0.m 600 600 (0, [1, 2, 20, 22, 23, 24], a, b) = some (.inr (a, b)) := by
    have s0 := sides_step (α := (Bool × (List Int × List Int)) ⊕ (List Int × List Int)) (fun a0 a1 a2 => .inl (a0, a1, a2)) (fun a0 a1 => .inr (a0, a1)) 599 0 (by omega) x y (p := 1) rfl (by omega) (by show ofV (V a + V b) = ofV (V b + V a); rw [Int.add_comm])
    have s1 := sides_step (α := (Bool × (List Int × List Int)) ⊕ (List Int × List Int)) (fun a0 a1 a2 => .inl (a0, a1, a2)) (fun a0 a1 => .inr (a0, a1)) 598 1 (by omega) x y (p := 2) rfl (by omega) (by show ofV (V a * V b) = ofV (V b * V a); rw [Int.mul_comm])
    have s2 := sides_step (α := (Bool × (List Int × List Int)) ⊕ (List Int × List Int)) (fun a0 a1 a2 => .inl (a0, a1, a2)) (fun a0 a1 => .inr (a0, a1)) 597 2 (by omega) x y (p := 20) rfl (by omega) (by show truthV (a == b) = truthV (b == a); rw [BEq.comm])
    have s3 := sides_step (α := (Bool × (List Int × List Int)) ⊕ (List Int × List Int)) (fun a0 a1 a2 => .inl (a0, a1, a2)) (fun a0 a1 => .inr (a0, a1)) 596 3 (by omega) x y (p := 22) rfl (by omega) c2
    have s4 := sides_step (α := (Bool × (List Int × List Int)) ⊕ (List Int × List Int)) (fun a0 a1 a2 => .inl (a0, a1, a2)) (fun a0 a1 => .inr (a0, a1)) 595 4 (by omega) x y (p := 23) rfl (by omega) c3
    have s5 := sides_step (α := (Bool × (List Int × List Int)) ⊕ (List Int × List Int)) (fun a0 a1 a2 => .inl (a0, a1, a2)) (fun a0 a1 => .inr (a0, a1)) 594 5 (by omega) x y (p := 24) rfl (by omega) c1
    show l11_CalcSides.l3_0.g (α := (Bool × (List Int × List Int)) ⊕ (List Int × List Int)) (fun a0 a1 a2 => .inl (a0, a1, a2)) (fun a0 a1 => .inr (a0, a1)) 600 (599 + 1) ((0 : Nat) : Int) [1, 2, 20, 22, 23, 24] a b = _
    exact s0.trans (s1.trans (s2.trans (s3.trans (s4.trans (s5.trans rfl)))))
  have h1 : ∀ w ∈ [a, b], W4 w := by simp [x, y]
  have h2 : ∀ w ∈ [b, a], W4 w := by simp [x, y]
  have d1 := calc_Do_ok (k := 16) (by omega) h1
  have d2 := calc_Do_ok (k := 17) (by omega) h2
  have d3 := calc_Do_ok (k := 18) (by omega) h1
  have d4 := calc_Do_ok (k := 19) (by omega) h2
  refine ⟨600, ?_⟩
  simp only [l11_CalcSides.m, l11_CalcSides.g, loop, bindO, Option.bind_some]
  rw [show calc_Do.m 600 (16, [AV.ints .u64 4 a, AV.ints .u64 4 b]) = _ from d1, show calc_Do.m 600 (17, [AV.ints .u64 4 b, AV.ints .u64 4 a]) = _ from d2, show calc_Do.m 600 (18, [AV.ints .u64 4 a, AV.ints .u64 4 b]) = _ from d3, show calc_Do.m 600 (19, [AV.ints .u64 4 b, AV.ints .u64 4 a]) = _ from d4]
  simp only [Option.bind_some, l11_known_ok, doV, beq_self_eq_true, if_true]
end Go.Abs.Pure
end
