/- Plain laws about what the functions compute. Conditions: the arguments' bounds, as each theorem says. -/
import Derived.Test.YtehhocoldpdijaaDoorBinF1
import Derived.Test.YtehhocoldpdijaaDoorAbsF6
import Derived.Test.YtehhocoldpdijaaDoorFnUseropPrices1
import Derived.Test.YtehhocoldpdijaaDoorFnUseropPrices2
import Derived.Test.YtehhocoldpdijaaDoorFnUseropPrices3
import Derived.Test.YtehhocoldpdijaaDoorFnUseropPrices4
section
set_option linter.unusedVariables false
namespace Go.Abs.Pure
open Go Go.Abs
def W4 (l : List Int) : Prop := l.length = 4 ∧ ∀ x ∈ l, 0 ≤ x ∧ x < 18446744073709551616
theorem W4.split {l : List Int} (h : W4 l) : ∃ a b c d, l = [a, b, c, d] ∧ (0 ≤ a ∧ a < 18446744073709551616) ∧ (0 ≤ b ∧ b < 18446744073709551616) ∧ (0 ≤ c ∧ c < 18446744073709551616) ∧ (0 ≤ d ∧ d < 18446744073709551616) := by
  obtain ⟨h1, h2⟩ := h
  match l, h1 with
  | [a, b, c, d], _ => exact ⟨a, b, c, d, rfl, h2 a (by simp), h2 b (by simp), h2 c (by simp), h2 d (by simp)⟩
theorem W4.mk {a b c d : Int} (ha : 0 ≤ a ∧ a < 18446744073709551616) (hb : 0 ≤ b ∧ b < 18446744073709551616) (hc : 0 ≤ c ∧ c < 18446744073709551616) (hd : 0 ≤ d ∧ d < 18446744073709551616) : W4 [a, b, c, d] :=
  ⟨rfl, by simp; exact ⟨ha, hb, hc, hd⟩⟩
theorem lo8 {x : Int} (h : InK .u8 x) : 0 ≤ x := h.1
theorem hi8 {x : Int} (h : InK .u8 x) : x < 256 := by have := h.2; simp [IntKind.max, IntKind.bits, IntKind.signed] at this; omega
theorem lo64 {x : Int} (h : InK .u64 x) : 0 ≤ x := h.1
theorem hi64 {x : Int} (h : InK .u64 x) : x < 18446744073709551616 := by have := h.2; simp [IntKind.max, IntKind.bits, IntKind.signed] at this; omega
theorem W4.of {l : List Int} (h : InA .u64 4 l) : W4 l := ⟨h.1, fun x hx => ⟨lo64 (h.2 x hx), hi64 (h.2 x hx)⟩⟩
def V : List Int → Int
  | [a, b, c, d] => a + b * 18446744073709551616 + c * 340282366920938463463374607431768211456 + d * 6277101735386680763835789423207666416102355444464034512896
  | _ => 0
def B : Int := 115792089237316195423570985008687907853269984665640564039457584007913129639936
def ofV (x : Int) : List Int := [x % 18446744073709551616, x / 18446744073709551616 % 18446744073709551616, x / 340282366920938463463374607431768211456 % 18446744073709551616, x / 6277101735386680763835789423207666416102355444464034512896 % 18446744073709551616]
theorem ofV_W4 (x : Int) : W4 (ofV x) := .mk (by omega) (by omega) (by omega) (by omega)
theorem V_ofV (x : Int) : V (ofV x) = x % B := by simp only [V, ofV, B]; omega
theorem V_range {l : List Int} (h : W4 l) : 0 ≤ V l ∧ V l < B := by
  obtain ⟨a, b, c, d, rfl, ha, hb, hc, hd⟩ := h.split
  simp only [V, B]; omega
theorem eq_ofV {l : List Int} (h : W4 l) {x : Int} (hx : V l = x % B) : l = ofV x := by
  obtain ⟨a, b, c, d, rfl, ha, hb, hc, hd⟩ := h.split
  simp only [V, B] at hx
  simp only [ofV, List.cons.injEq, and_true]
  refine ⟨?_, ?_, ?_, ?_⟩ <;> omega
theorem digits {a b c d t : Int} (q : Int) (ha : 0 ≤ a ∧ a < 18446744073709551616) (hb : 0 ≤ b ∧ b < 18446744073709551616) (hc : 0 ≤ c ∧ c < 18446744073709551616) (hd : 0 ≤ d ∧ d < 18446744073709551616) (h : t = V [a, b, c, d] + B * q) : [a, b, c, d] = ofV t := by
  have r := V_range (.mk ha hb hc hd)
  refine eq_ofV (.mk ha hb hc hd) ?_
  rw [h, Int.add_mul_emod_self_left, Int.emod_eq_of_lt r.1 r.2]
theorem sum_parts {a b c d e f g h : Int} (ha : 0 ≤ a ∧ a < 18446744073709551616) (hb : 0 ≤ b ∧ b < 18446744073709551616) (hc : 0 ≤ c ∧ c < 18446744073709551616) (hd : 0 ≤ d ∧ d < 18446744073709551616) (he : 0 ≤ e ∧ e < 18446744073709551616) (hf : 0 ≤ f ∧ f < 18446744073709551616) (hg : 0 ≤ g ∧ g < 18446744073709551616) (hh : 0 ≤ h ∧ h < 18446744073709551616) :
    ∃ q0 q1 q2 q3 : Int, (a + e + 0) / 18446744073709551616 = q0 ∧ (b + f + q0) / 18446744073709551616 = q1 ∧ (c + g + q1) / 18446744073709551616 = q2 ∧ (d + h + q2) / 18446744073709551616 = q3 ∧ (0 ≤ q0 ∧ q0 ≤ 1) ∧ (0 ≤ q1 ∧ q1 ≤ 1) ∧ (0 ≤ q2 ∧ q2 ≤ 1) ∧ (0 ≤ q3 ∧ q3 ≤ 1) ∧
      [(a + e + 0) % 18446744073709551616, (b + f + q0) % 18446744073709551616, (c + g + q1) % 18446744073709551616, (d + h + q2) % 18446744073709551616] = ofV (V [a, b, c, d] + V [e, f, g, h]) ∧ (q3 = 1 ↔ B ≤ V [a, b, c, d] + V [e, f, g, h]) := by
  refine ⟨_, _, _, _, rfl, rfl, rfl, rfl, ?_⟩
  generalize h0 : (a + e + 0) / 18446744073709551616 = q0
  have k0 : 0 ≤ q0 ∧ q0 ≤ 1 := by omega
  generalize h1 : (b + f + q0) / 18446744073709551616 = q1
  have k1 : 0 ≤ q1 ∧ q1 ≤ 1 := by omega
  generalize h2 : (c + g + q1) / 18446744073709551616 = q2
  have k2 : 0 ≤ q2 ∧ q2 ≤ 1 := by omega
  generalize h3 : (d + h + q2) / 18446744073709551616 = q3
  have k3 : 0 ≤ q3 ∧ q3 ≤ 1 := by omega
  generalize e0 : (a + e + 0) % 18446744073709551616 = d0
  generalize e1 : (b + f + q0) % 18446744073709551616 = d1
  generalize e2 : (c + g + q1) % 18446744073709551616 = d2
  generalize e3 : (d + h + q2) % 18446744073709551616 = d3
  have f0 : a + e = d0 + 18446744073709551616 * q0 ∧ 0 ≤ d0 ∧ d0 < 18446744073709551616 := by omega
  have f1 : b + f + q0 = d1 + 18446744073709551616 * q1 ∧ 0 ≤ d1 ∧ d1 < 18446744073709551616 := by omega
  have f2 : c + g + q1 = d2 + 18446744073709551616 * q2 ∧ 0 ≤ d2 ∧ d2 < 18446744073709551616 := by omega
  have f3 : d + h + q2 = d3 + 18446744073709551616 * q3 ∧ 0 ≤ d3 ∧ d3 < 18446744073709551616 := by omega
  clear h0 h1 h2 h3 e0 e1 e2 e3
  have hs : V [a, b, c, d] + V [e, f, g, h] = V [d0, d1, d2, d3] + B * q3 := by
    simp only [V, B]; omega
  have hr := V_range (.mk f0.2 f1.2 f2.2 f3.2)
  refine ⟨k0, k1, k2, k3, digits q3 f0.2 f1.2 f2.2 f3.2 hs, ?_⟩
  rw [hs]
  generalize V [d0, d1, d2, d3] = v at *
  simp only [B] at *
  omega
theorem ofV_V {l : List Int} (h : W4 l) : ofV (V l) = l := by
  obtain ⟨h0, h1⟩ := V_range h
  exact (eq_ofV h (by rw [Int.emod_eq_of_lt h0 h1])).symm
theorem V_inj {a b : List Int} (ha : W4 a) (hb : W4 b) (h : V a = V b) : a = b := by rw [← ofV_V ha, ← ofV_V hb, h]
theorem ofV_congr {x y : Int} (h : x % B = y % B) : ofV x = ofV y := eq_ofV (ofV_W4 x) (by rw [V_ofV, h])
theorem beq_V {a b : List Int} (ha : W4 a) (hb : W4 b) : (a == b) = decide (V a = V b) := by
  by_cases h : a = b
  · subst h; simp
  · have : V a ≠ V b := fun e => h (V_inj ha hb e)
    simp [h, this]
theorem xAdd64_some {x y c : Int} (hx : 0 ≤ x) (hy : 0 ≤ y) (hc : 0 ≤ c) (hc1 : c ≤ 1) : xAdd64 (x, y, c) = some ((x + y + c) % 18446744073709551616, (x + y + c) / 18446744073709551616) := by
  simp [xAdd64, hx, hy, hc, hc1]
theorem xSub64_some {x y c : Int} (hx : 0 ≤ x) (hy : 0 ≤ y) (hy1 : y < 18446744073709551616) (hc : 0 ≤ c) (hc1 : c ≤ 1) : xSub64 (x, y, c) = some ((x - y - c) % 18446744073709551616, if x < y + c then 1 else 0) := by
  simp [xSub64, hx, hy, hy1, hc, hc1]
theorem not_u64 {x : Int} (h0 : 0 ≤ x) (h1 : x < 18446744073709551616) : ibits .xor .u64 18446744073709551615 x = 18446744073709551615 - x := by
  rw [xor_u64 (by omega) (by omega) h0 h1]
  have key : ∀ m : Nat, m < 2 ^ 64 → (18446744073709551615 ^^^ m : Nat) = 18446744073709551615 - m := by
    intro m hm
    have h3 : (18446744073709551615 ^^^ m : Nat) = ((BitVec.allOnes 64) ^^^ (BitVec.ofNat 64 m)).toNat := by
      rw [BitVec.toNat_xor, BitVec.toNat_allOnes, BitVec.toNat_ofNat, Nat.mod_eq_of_lt hm]
    rw [h3, BitVec.allOnes_xor, BitVec.toNat_not, BitVec.toNat_ofNat, Nat.mod_eq_of_lt hm]
  have := key x.toNat (by omega)
  rw [show Int.toNat 18446744073709551615 = 18446744073709551615 from rfl, this]
  omega
end Go.Abs.Pure
end
section
set_option linter.unusedVariables false
set_option linter.unusedSimpArgs false
namespace Go.Abs.Pure
open Go Go.Abs
theorem word_Add_unroll {α : Type} (mk : Int → List Int → List Int → α) (n k : Nat) (a b c d e f g h : Int) : word_Add.l4_0.g mk n (k + 5) 0 0 [a, b, c, d] [e, f, g, h] [0, 0, 0, 0] [0, 0, 0, 0] = bindO (xAdd64 (a, e, 0)) fun r => bindO (xAdd64 (b, f, r.2)) fun s => bindO (xAdd64 (c, g, s.2)) fun t => bindO (xAdd64 (d, h, t.2)) fun u => some (mk u.2 [r.1, s.1, t.1, u.1] [0, 0, 0, 0]) := by kernel_rfl
theorem word_Sub_unroll {α : Type} (mk : Int → List Int → List Int → α) (n k : Nat) (a b c d e f g h : Int) : word_Sub.l4_0.g mk n (k + 5) 0 0 [a, b, c, d] [e, f, g, h] [0, 0, 0, 0] [0, 0, 0, 0] = bindO (xSub64 (a, e, 0)) fun r => bindO (xSub64 (b, f, r.2)) fun s => bindO (xSub64 (c, g, s.2)) fun t => bindO (xSub64 (d, h, t.2)) fun u => some (mk u.2 [r.1, s.1, t.1, u.1] [0, 0, 0, 0]) := by kernel_rfl
theorem word_Add_ok {n : Nat} (hn : 100 ≤ n) {x y : List Int} (hx : W4 x) (hy : W4 y) : word_Add.m n (x, y) = some (ofV (V x + V y), decide (B ≤ V x + V y)) := by
  obtain ⟨a, b, c, d, rfl, ha, hb, hc, hd⟩ := hx.split
  obtain ⟨e, f, g, h, rfl, he, hf, hg, hh⟩ := hy.split
  obtain ⟨q0, q1, q2, q3, h0, h1, h2, h3, k0, k1, k2, k3, hs, hq⟩ := sum_parts ha hb hc hd he hf hg hh
  obtain ⟨k, rfl⟩ : ∃ k, n = k + 5 := ⟨n - 5, by omega⟩
  simp only [word_Add.m, word_Add.g, word_Add.l4_0.m]
  rw [word_Add_unroll, xAdd64_some ha.1 he.1 (by omega) (by omega)]
  simp only [bindO, Option.bind_some]
  rw [h0, xAdd64_some hb.1 hf.1 (by omega) (by omega)]
  simp only [Option.bind_some]
  rw [h1, xAdd64_some hc.1 hg.1 (by omega) (by omega)]
  simp only [Option.bind_some]
  rw [h2, xAdd64_some hd.1 hh.1 (by omega) (by omega)]
  simp only [Option.bind_some]
  rw [h3, hs]
  have : (q3 != 0) = decide (B ≤ V [a, b, c, d] + V [e, f, g, h]) := by
    rw [Bool.eq_iff_iff]
    simp only [bne_iff_ne, decide_eq_true_eq, ne_eq]
    rw [← hq]
    omega
  rw [this]
theorem word_Sub_ok {n : Nat} (hn : 100 ≤ n) {x y : List Int} (hx : W4 x) (hy : W4 y) : word_Sub.m n (x, y) = some (ofV (V x - V y), decide (V x < V y)) := by
  obtain ⟨a, b, c, d, rfl, ha, hb, hc, hd⟩ := hx.split
  obtain ⟨e, f, g, h, rfl, he, hf, hg, hh⟩ := hy.split
  obtain ⟨k, rfl⟩ : ∃ k, n = k + 5 := ⟨n - 5, by omega⟩
  have bit : ∀ p : Prop, [Decidable p] → 0 ≤ (if p then (1 : Int) else 0) ∧ (if p then (1 : Int) else 0) ≤ 1 := fun p _ => by split <;> omega
  simp only [word_Sub.m, word_Sub.g, word_Sub.l4_0.m]
  rw [word_Sub_unroll, xSub64_some ha.1 he.1 he.2 (by omega) (by omega)]
  simp only [bindO, Option.bind_some]
  rw [xSub64_some hb.1 hf.1 hf.2 (bit _).1 (bit _).2]
  simp only [Option.bind_some]
  rw [xSub64_some hc.1 hg.1 hg.2 (bit _).1 (bit _).2]
  simp only [Option.bind_some]
  rw [xSub64_some hd.1 hh.1 hh.2 (bit _).1 (bit _).2]
  simp only [Option.bind_some]
  generalize hc0 : (if a < e + 0 then (1 : Int) else 0) = c0
  have k0 : (0 ≤ c0 ∧ c0 ≤ 1) ∧ 0 ≤ a - e + 18446744073709551616 * c0 ∧ a - e + 18446744073709551616 * c0 < 18446744073709551616 := by subst hc0; split <;> omega
  generalize hc1 : (if b < f + c0 then (1 : Int) else 0) = c1
  have k1 : (0 ≤ c1 ∧ c1 ≤ 1) ∧ 0 ≤ b - f - c0 + 18446744073709551616 * c1 ∧ b - f - c0 + 18446744073709551616 * c1 < 18446744073709551616 := by subst hc1; split <;> omega
  generalize hc2 : (if c < g + c1 then (1 : Int) else 0) = c2
  have k2 : (0 ≤ c2 ∧ c2 ≤ 1) ∧ 0 ≤ c - g - c1 + 18446744073709551616 * c2 ∧ c - g - c1 + 18446744073709551616 * c2 < 18446744073709551616 := by subst hc2; split <;> omega
  generalize hc3 : (if d < h + c2 then (1 : Int) else 0) = c3
  have k3 : (0 ≤ c3 ∧ c3 ≤ 1) ∧ 0 ≤ d - h - c2 + 18446744073709551616 * c3 ∧ d - h - c2 + 18446744073709551616 * c3 < 18446744073709551616 := by subst hc3; split <;> omega
  clear hc0 hc1 hc2 hc3 bit
  have e0 : (a - e - 0) % 18446744073709551616 = a - e + 18446744073709551616 * c0 := by omega
  have e1 : (b - f - c0) % 18446744073709551616 = b - f - c0 + 18446744073709551616 * c1 := by omega
  have e2 : (c - g - c1) % 18446744073709551616 = c - g - c1 + 18446744073709551616 * c2 := by omega
  have e3 : (d - h - c2) % 18446744073709551616 = d - h - c2 + 18446744073709551616 * c3 := by omega
  rw [e0, e1, e2, e3]
  have hs : V [a, b, c, d] - V [e, f, g, h] = V [a - e + 18446744073709551616 * c0, b - f - c0 + 18446744073709551616 * c1, c - g - c1 + 18446744073709551616 * c2, d - h - c2 + 18446744073709551616 * c3] + B * (- c3) := by
    simp only [V, B]; omega
  have hr := V_range (.mk k0.2 k1.2 k2.2 k3.2)
  rw [digits (- c3) k0.2 k1.2 k2.2 k3.2 hs]
  have : (c3 != 0) = decide (V [a, b, c, d] < V [e, f, g, h]) := by
    rw [Bool.eq_iff_iff]
    simp only [bne_iff_ne, decide_eq_true_eq, ne_eq]
    generalize V [a, b, c, d] = v at *
    generalize V [e, f, g, h] = u at *
    generalize V [a - e + 18446744073709551616 * c0, b - f - c0 + 18446744073709551616 * c1, c - g - c1 + 18446744073709551616 * c2, d - h - c2 + 18446744073709551616 * c3] = z at *
    simp only [B] at *
    omega
  rw [this]
theorem q01_Add_step {α : Type} (mk0 : Int → List Int → List Int → α) (n : Nat) (rc : Int → Int → List Int → List Int → List Int → List Int → Option α) (i : Nat) (hi : i < 4) (c : Int) (hc : 0 ≤ c ∧ c ≤ 1) (x y o o' : List Int) (hx : 0 ≤ x.getD i 0 ∧ x.getD i 0 < 18446744073709551616) (hy : 0 ≤ y.getD i 0 ∧ y.getD i 0 < 18446744073709551616) :
    q01_Add.l4_0.r mk0 n rc (i : Int) c x y o o' = rc ((i + 1 : Nat) : Int) ((x.getD i 0 + y.getD i 0 + c) / 18446744073709551616) x y (o.set i ((x.getD i 0 + y.getD i 0 + c) % 18446744073709551616)) o' := by
  have h1 : (decide ((i : Int) < 4)) = true := by simp; omega
  have h2 : (0 : Int) ≤ (i : Int) := by omega
  have h3 : (i : Int) < 4 := by omega
  simp only [q01_Add.l4_0.r, h1, h2, h3, if_true, eq_self_iff_true, Int.toNat_natCast, wu64]
  generalize x.getD i 0 = p at *
  generalize y.getD i 0 = q at *
  rw [show IntKind.wrap .i64 ((i : Int) + 1) = ((i + 1 : Nat) : Int) by rw [wi64]; omega]
  have e : ((p + q) % 18446744073709551616 + c) % 18446744073709551616 = (p + q + c) % 18446744073709551616 := by omega
  rw [e]
  simp only [decide_eq_true_eq]
  by_cases g1 : (p + q) % 18446744073709551616 < p
  · rw [show (p + q + c) / 18446744073709551616 = 1 by omega]
    simp only [g1, if_true, ite_self]
  · by_cases g2 : (p + q + c) % 18446744073709551616 < (p + q) % 18446744073709551616
    · rw [show (p + q + c) / 18446744073709551616 = 1 by omega]
      simp only [g1, g2, if_true, if_false]
    · rw [show (p + q + c) / 18446744073709551616 = 0 by omega]
      simp only [g1, g2, if_false, if_true]
theorem q01_Add_ok {n : Nat} (hn : 100 ≤ n) {x y : List Int} (hx : W4 x) (hy : W4 y) : q01_Add.m n (x, y) = some (ofV (V x + V y), decide (B ≤ V x + V y)) := by
  obtain ⟨a, b, c, d, rfl, ha, hb, hc, hd⟩ := hx.split
  obtain ⟨e, f, g, h, rfl, he, hf, hg, hh⟩ := hy.split
  obtain ⟨q0, q1, q2, q3, h0, h1, h2, h3, k0, k1, k2, k3, hs, hq⟩ := sum_parts ha hb hc hd he hf hg hh
  obtain ⟨k, rfl⟩ : ∃ k, n = k + 5 := ⟨n - 5, by omega⟩
  have key : q01_Add.l4_0.g (fun a0 a1 a2 => (a0, a1, a2)) (k + 5) (k + 5) 0 0 [a, b, c, d] [e, f, g, h] [0, 0, 0, 0] [0, 0, 0, 0] = some (q3, [(a + e + 0) % 18446744073709551616, (b + f + q0) % 18446744073709551616, (c + g + q1) % 18446744073709551616, (d + h + q2) % 18446744073709551616], [0, 0, 0, 0]) := by
    refine (q01_Add_step _ _ _ 0 (by omega) 0 (by omega) [a, b, c, d] [e, f, g, h] _ _ ha he).trans ?_
    simp only [List.getD_cons_zero, List.getD_cons_succ, h0]
    refine (q01_Add_step _ _ _ 1 (by omega) _ k0 [a, b, c, d] [e, f, g, h] _ _ hb hf).trans ?_
    simp only [List.getD_cons_zero, List.getD_cons_succ, h1]
    refine (q01_Add_step _ _ _ 2 (by omega) _ k1 [a, b, c, d] [e, f, g, h] _ _ hc hg).trans ?_
    simp only [List.getD_cons_zero, List.getD_cons_succ, h2]
    refine (q01_Add_step _ _ _ 3 (by omega) _ k2 [a, b, c, d] [e, f, g, h] _ _ hd hh).trans ?_
    simp only [List.getD_cons_zero, List.getD_cons_succ, h3]
    rfl
  simp only [q01_Add.m, q01_Add.g, q01_Add.l4_0.m, key, bindO, Option.bind_some]
  rw [hs]
  have : (q3 == 1) = decide (B ≤ V [a, b, c, d] + V [e, f, g, h]) := by
    rw [Bool.eq_iff_iff]
    simp only [beq_iff_eq, decide_eq_true_eq]
    exact hq
  rw [this]
def cmpOf (x y : Int) : Int := if x < y then -1 else if x = y then 0 else 1
theorem q01_Cmp_unroll (k : Nat) (a b c d e f g h : Int) : q01_Cmp.m (k + 6) ([a, b, c, d], [e, f, g, h]) =
    if (decide (d < h)) = true then some (-1) else if (decide (d > h)) = true then some 1 else
    if (decide (c < g)) = true then some (-1) else if (decide (c > g)) = true then some 1 else
    if (decide (b < f)) = true then some (-1) else if (decide (b > f)) = true then some 1 else
    if (decide (a < e)) = true then some (-1) else if (decide (a > e)) = true then some 1 else some 0 := by
  simp only [q01_Cmp.m, q01_Cmp.g, q01_Cmp.l2_0.m]
  have u : ∀ (m : Nat) (i : Int) (x y : List Int), q01_Cmp.l2_0.g (fun a0 => Sum.inl a0) (Sum.inr ()) (k + 6) (m + 1) i x y = q01_Cmp.l2_0.r (fun a0 => Sum.inl a0) (Sum.inr ()) (k + 6) (fun y0 y1 y2 => q01_Cmp.l2_0.g (fun a0 => Sum.inl a0) (Sum.inr ()) (k + 6) m y0 y1 y2) i x y := fun _ _ _ _ => rfl
  rw [u (k + 5)]
  simp only [q01_Cmp.l2_0.r, show decide ((3 : Int) ≥ 0) = true from rfl, show (0 : Int) ≤ 3 by omega, show (3 : Int) < 4 by omega, if_true, eq_self_iff_true]
  rw [show IntKind.wrap .i64 (3 - 1) = 2 by rw [wi64]; rfl, u (k + 4)]
  simp only [q01_Cmp.l2_0.r, show decide ((2 : Int) ≥ 0) = true from rfl, show (0 : Int) ≤ 2 by omega, show (2 : Int) < 4 by omega, if_true, eq_self_iff_true]
  rw [show IntKind.wrap .i64 (2 - 1) = 1 by rw [wi64]; rfl, u (k + 3)]
  simp only [q01_Cmp.l2_0.r, show decide ((1 : Int) ≥ 0) = true from rfl, show (0 : Int) ≤ 1 by omega, show (1 : Int) < 4 by omega, if_true, eq_self_iff_true]
  rw [show IntKind.wrap .i64 (1 - 1) = 0 by rw [wi64]; rfl, u (k + 2)]
  simp only [q01_Cmp.l2_0.r, show decide ((0 : Int) ≥ 0) = true from rfl, show (0 : Int) ≤ 0 by omega, show (0 : Int) < 4 by omega, if_true, eq_self_iff_true]
  rw [show IntKind.wrap .i64 (0 - 1) = -1 by rw [wi64]; rfl, u (k + 1)]
  simp only [q01_Cmp.l2_0.r, show decide ((-1 : Int) ≥ 0) = false from rfl, Bool.false_eq_true, if_false]
  simp only [show Int.toNat 3 = 3 from rfl, show Int.toNat 2 = 2 from rfl, show Int.toNat 1 = 1 from rfl, show Int.toNat 0 = 0 from rfl, List.getD_cons_zero, List.getD_cons_succ]
  by_cases h1 : d < h
  · simp [h1, bindO]
  · by_cases h2 : d > h
    · simp [h1, h2, bindO]
    · simp only [h1, h2, decide_false, Bool.false_eq_true, if_false]
      by_cases h3 : c < g
      · simp [h3, bindO]
      · by_cases h4 : c > g
        · simp [h3, h4, bindO]
        · simp only [h3, h4, decide_false, Bool.false_eq_true, if_false]
          by_cases h5 : b < f
          · simp [h5, bindO]
          · by_cases h6 : b > f
            · simp [h5, h6, bindO]
            · simp only [h5, h6, decide_false, Bool.false_eq_true, if_false]
              by_cases h7 : a < e
              · simp [h7, bindO]
              · by_cases h8 : a > e
                · simp [h7, h8, bindO]
                · simp [h7, h8, bindO]
theorem q01_Cmp_ok {n : Nat} (hn : 100 ≤ n) {x y : List Int} (hx : W4 x) (hy : W4 y) : q01_Cmp.m n (x, y) = some (cmpOf (V x) (V y)) := by
  obtain ⟨a, b, c, d, rfl, ha, hb, hc, hd⟩ := hx.split
  obtain ⟨e, f, g, h, rfl, he, hf, hg, hh⟩ := hy.split
  obtain ⟨k, rfl⟩ : ∃ k, n = k + 6 := ⟨n - 6, by omega⟩
  rw [q01_Cmp_unroll]
  simp only [decide_eq_true_eq]
  have lt : V [a, b, c, d] < V [e, f, g, h] → some (-1) = some (cmpOf (V [a, b, c, d]) (V [e, f, g, h])) := fun h => by rw [cmpOf, if_pos h]
  have gt : V [a, b, c, d] > V [e, f, g, h] → some 1 = some (cmpOf (V [a, b, c, d]) (V [e, f, g, h])) := fun h => by rw [cmpOf, if_neg (by omega), if_neg (by omega)]
  have eq : V [a, b, c, d] = V [e, f, g, h] → some 0 = some (cmpOf (V [a, b, c, d]) (V [e, f, g, h])) := fun h => by rw [cmpOf, if_neg (by omega), if_pos h]
  split
  · exact lt (by simp only [V]; omega)
  split
  · exact gt (by simp only [V]; omega)
  split
  · exact lt (by simp only [V]; omega)
  split
  · exact gt (by simp only [V]; omega)
  split
  · exact lt (by simp only [V]; omega)
  split
  · exact gt (by simp only [V]; omega)
  split
  · exact lt (by simp only [V]; omega)
  split
  · exact gt (by simp only [V]; omega)
  · exact eq (by simp only [V]; omega)
end Go.Abs.Pure
end
section
set_option linter.unusedVariables false
set_option linter.unusedSimpArgs false
namespace Go.Abs.Pure
open Go Go.Abs
theorem mul_bound {a b m k : Int} (ha : 0 ≤ a) (ha2 : a ≤ m) (hb : 0 ≤ b) (hb2 : b ≤ k) : 0 ≤ a * b ∧ a * b ≤ m * k :=
  ⟨Int.mul_nonneg ha hb, Int.mul_le_mul ha2 hb2 hb (by omega)⟩
theorem halves_mul {x1 x0 y1 y0 : Int} : (x1 * 4294967296 + x0) * (y1 * 4294967296 + y0) = x1 * y1 * 18446744073709551616 + (x1 * y0 + x0 * y1) * 4294967296 + x0 * y0 := by
  simp only [Int.mul_add, Int.add_mul]
  have e1 : x1 * 4294967296 * (y1 * 4294967296) = x1 * y1 * 18446744073709551616 := by
    rw [Int.mul_assoc, ← Int.mul_assoc 4294967296 y1, Int.mul_comm 4294967296 y1, Int.mul_assoc y1, ← Int.mul_assoc x1]; rfl
  have e2 : x1 * 4294967296 * y0 = x1 * y0 * 4294967296 := by rw [Int.mul_assoc, Int.mul_comm 4294967296 y0, ← Int.mul_assoc]
  have e3 : x0 * (y1 * 4294967296) = x0 * y1 * 4294967296 := by rw [← Int.mul_assoc]
  rw [e1, e2, e3]
  omega
theorem bits_Mul64_ok {n : Nat} {x y : Int} (hx : 0 ≤ x ∧ x < 18446744073709551616) (hy : 0 ≤ y ∧ y < 18446744073709551616) : bits_Mul64.m n (x, y) = some (x * y / 18446744073709551616, x * y % 18446744073709551616) := by
  have sh : ∀ a : Int, ishr .u64 a 32 = a / 4294967296 := fun a => ishr_ofNat .u64 a 32 (by decide)
  have ms : ∀ a : Int, 0 ≤ a → a < 18446744073709551616 → ibits .and .u64 a 4294967295 = a % 4294967296 := fun a h0 h1 => and_mask h0 h1 32 (by omega)
  simp only [bits_Mul64.m, bits_Mul64.g, sh, wu64]
  rw [ms x hx.1 hx.2, ms y hy.1 hy.2]
  rw [ms _ (Int.emod_nonneg _ (by omega)) (Int.emod_lt_of_pos _ (by omega))]
  obtain ⟨x1, x0, rfl, h1, h0⟩ : ∃ x1 x0, x = x1 * 4294967296 + x0 ∧ (0 ≤ x1 ∧ x1 ≤ 4294967295) ∧ 0 ≤ x0 ∧ x0 ≤ 4294967295 := ⟨x / 4294967296, x % 4294967296, by omega, by omega, by omega⟩
  obtain ⟨y1, y0, rfl, g1, g0⟩ : ∃ y1 y0, y = y1 * 4294967296 + y0 ∧ (0 ≤ y1 ∧ y1 ≤ 4294967295) ∧ 0 ≤ y0 ∧ y0 ≤ 4294967295 := ⟨y / 4294967296, y % 4294967296, by omega, by omega, by omega⟩
  rw [show (x1 * 4294967296 + x0) / 4294967296 = x1 by omega, show (x1 * 4294967296 + x0) % 4294967296 = x0 by omega, show (y1 * 4294967296 + y0) / 4294967296 = y1 by omega, show (y1 * 4294967296 + y0) % 4294967296 = y0 by omega]
  rw [halves_mul]
  have b00 := mul_bound h0.1 h0.2 g0.1 g0.2
  have b10 := mul_bound h1.1 h1.2 g0.1 g0.2
  have b01 := mul_bound h0.1 h0.2 g1.1 g1.2
  have b11 := mul_bound h1.1 h1.2 g1.1 g1.2
  generalize x0 * y0 = p00 at *
  generalize x1 * y0 = p10 at *
  generalize x0 * y1 = p01 at *
  generalize x1 * y1 = p11 at *
  clear hx hy h0 h1 g0 g1
  simp only [Option.some.injEq, Prod.mk.injEq, and_true]
  rw [show p00 % 18446744073709551616 = p00 by omega, show p10 % 18446744073709551616 = p10 by omega, show p01 % 18446744073709551616 = p01 by omega, show p11 % 18446744073709551616 = p11 by omega]
  rw [show (p10 + p00 / 4294967296) % 18446744073709551616 = p10 + p00 / 4294967296 by omega]
  generalize ht : p10 + p00 / 4294967296 = t
  have : 0 ≤ t ∧ t ≤ 18446744069414584320 := by omega
  rw [show (t % 4294967296 + p01) % 18446744073709551616 = t % 4294967296 + p01 by omega]
  omega
end Go.Abs.Pure
end
section
set_option linter.unusedVariables false
set_option linter.unusedSimpArgs false
namespace Go.Abs.Pure
open Go Go.Abs
def val (b : Int) : List Int → Int
  | [] => 0
  | x :: r => x + b * val b r
def Dig (b : Int) (l : List Int) : Prop := ∀ x ∈ l, 0 ≤ x ∧ x < b
theorem Dig.getD {b : Int} {l : List Int} (h : Dig b l) {i : Nat} (hi : i < l.length) : 0 ≤ l.getD i 0 ∧ l.getD i 0 < b := by
  rw [List.getD_eq_getElem?_getD, List.getElem?_eq_getElem hi]
  exact h _ (List.getElem_mem hi)
theorem Dig.set {b : Int} {l : List Int} (h : Dig b l) {i : Nat} {d : Int} (hd : 0 ≤ d ∧ d < b) : Dig b (l.set i d) := fun x hx => by
  rcases List.mem_or_eq_of_mem_set hx with h' | h'
  · exact h x h'
  · rw [h']; exact hd
theorem val_set {b : Int} : ∀ {l : List Int} {k : Nat} {d : Int}, k < l.length → val b (l.set k d) = val b l + (d - l.getD k 0) * b ^ k
  | x :: r, 0, d, _ => by simp only [List.set_cons_zero, val, List.getD_cons_zero]; grind
  | x :: r, k + 1, d, h => by
    have ih := val_set (b := b) (l := r) (k := k) (d := d) (by simpa using h)
    simp only [List.set_cons_succ, val, List.getD_cons_succ, ih]
    grind
theorem val_take {b : Int} : ∀ {l : List Int} {k : Nat}, k < l.length → val b (l.take (k + 1)) = val b (l.take k) + l.getD k 0 * b ^ k
  | x :: r, 0, _ => by simp [val]
  | x :: r, k + 1, h => by
    have ih := val_take (b := b) (l := r) (k := k) (by simpa using h)
    simp only [List.take_succ_cons, val, List.getD_cons_succ] at ih ⊢
    rw [ih]
    grind
theorem val_bound {b : Int} (hb : 0 < b) : ∀ {l : List Int}, Dig b l → 0 ≤ val b l ∧ val b l < b ^ l.length
  | [], _ => by simp [val]
  | x :: r, h => by
    have ih := val_bound hb (l := r) fun y hy => h y (by simp [hy])
    have hx := h x (by simp)
    have h1 : val b r + 1 ≤ b ^ r.length := by omega
    have h2 := Int.mul_le_mul_of_nonneg_left h1 (Int.le_of_lt hb)
    have h3 := Int.mul_nonneg (Int.le_of_lt hb) ih.1
    simp only [val, List.length_cons, Int.pow_succ]
    rw [Int.mul_comm (b ^ r.length) b]
    rw [Int.mul_add, Int.mul_one] at h2
    omega
theorem val_replicate (b : Int) : ∀ n, val b (List.replicate n 0) = 0
  | 0 => rfl
  | n + 1 => by simp [List.replicate_succ, val, val_replicate b n]
theorem getD_set {l : List Int} {i j : Nat} {d : Int} (h : i ≠ j) : (l.set i d).getD j 0 = l.getD j 0 := by
  simp [List.getD_eq_getElem?_getD, h]
structure Row (b x : Int) (y : List Int) (i k : Nat) (o0 o : List Int) (c : Int) : Prop where
  len : o.length = o0.length
  dig : Dig b o
  car : 0 ≤ c ∧ c < b
  eq : val b o + c * b ^ (i + k) = val b o0 + x * val b (y.take k) * b ^ i
  up : ∀ j, i + k ≤ j → o.getD j 0 = o0.getD j 0
theorem Row.start {b x : Int} {y : List Int} {i : Nat} {o : List Int} (hb : 0 < b) (h : Dig b o) : Row b x y i 0 o o 0 := ⟨rfl, h, ⟨by omega, hb⟩, by simp [val], fun _ _ => rfl⟩
theorem Row.step {b x : Int} {y : List Int} {i k : Nat} {o0 o : List Int} {c d c' : Int} (h : Row b x y i k o0 o c) (hk : k < y.length) (hi : i + k < o.length)
    (ht : o.getD (i + k) 0 + x * y.getD k 0 + c = d + b * c') (hd : 0 ≤ d ∧ d < b) (hc : 0 ≤ c' ∧ c' < b) : Row b x y i (k + 1) o0 (o.set (i + k) d) c' := by
  refine ⟨by simp [h.len], h.dig.set hd, hc, ?_, fun j hj => ?_⟩
  · rw [val_set hi, val_take hk]
    have e := h.eq
    rw [show i + (k + 1) = i + k + 1 by omega, Int.pow_succ]
    rw [Int.pow_add] at e ⊢
    generalize val b o = vo at *
    generalize val b o0 = v0 at *
    generalize val b (y.take k) = s at *
    generalize o.getD (i + k) 0 = oo at *
    generalize y.getD k 0 = yk at *
    generalize b ^ i = p at *
    generalize b ^ k = q at *
    grind
  · rw [getD_set (by omega)]
    exact h.up j (by omega)
structure Rows (b : Int) (x y : List Int) (i : Nat) (o : List Int) : Prop where
  len : o.length = x.length + y.length
  dig : Dig b o
  eq : val b o = val b (x.take i) * val b y
  up : ∀ j, i + y.length ≤ j → o.getD j 0 = 0
theorem Rows.start {b : Int} (hb : 0 < b) {x y : List Int} {n : Nat} (hn : n = x.length + y.length) : Rows b x y 0 (List.replicate n 0) :=
  ⟨by simp [hn], fun z hz => by have := List.eq_of_mem_replicate hz; omega, by simp [val, val_replicate], fun j _ => by
    simp only [List.getD_eq_getElem?_getD, List.getElem?_replicate]; split <;> rfl⟩
theorem Rows.step {b : Int} {x y : List Int} {i : Nat} {o0 o : List Int} {c : Int} (h : Rows b x y i o0) (hi : i < x.length) (r : Row b (x.getD i 0) y i y.length o0 o c) : Rows b x y (i + 1) (o.set (i + y.length) c) := by
  have hl : o.length = x.length + y.length := by rw [r.len, h.len]
  refine ⟨by simpa using hl, r.dig.set r.car, ?_, fun j hj => ?_⟩
  · rw [val_set (by omega), r.up _ (Nat.le_refl _), h.up _ (Nat.le_refl _), val_take hi]
    have e := r.eq
    rw [h.eq, List.take_length] at e
    generalize val b o = vo at *
    generalize val b (x.take i) = s at *
    generalize val b y = vy at *
    generalize b ^ i = p at *
    generalize b ^ (i + y.length) = q at *
    grind
  · rw [getD_set (by omega), r.up j (by omega)]
    exact h.up j (by omega)
theorem Rows.all {b : Int} {x y o : List Int} (h : Rows b x y x.length o) : val b o = val b x * val b y := by rw [h.eq, List.take_length]
theorem V_val {l : List Int} (h : l.length = 4) : V l = val 18446744073709551616 l := by
  match l, h with
  | [a, b, c, d], _ => simp only [V, val]; omega
theorem W4.dig {l : List Int} (h : W4 l) : Dig 18446744073709551616 l := h.2
theorem or_zero {a b : Int} (ha : 0 ≤ a) (ka : a < 18446744073709551616) (hb : 0 ≤ b) (kb : b < 18446744073709551616) : (0 ≤ ibits .or .u64 a b ∧ ibits .or .u64 a b < 18446744073709551616) ∧ (ibits .or .u64 a b = 0 ↔ a = 0 ∧ b = 0) := by
  rw [or_u64 ha ka hb kb]
  have h1 := Nat.or_lt_two_pow (x := a.toNat) (y := b.toNat) (n := 64) (by omega) (by omega)
  refine ⟨by omega, ?_⟩
  have h2 : a.toNat ||| b.toNat = 0 ↔ a.toNat = 0 ∧ b.toNat = 0 := Nat.or_eq_zero_iff
  omega
end Go.Abs.Pure
end
section
set_option linter.unusedVariables false
set_option linter.unusedSimpArgs false
namespace Go.Abs.Pure
open Go Go.Abs
theorem product_step {α : Type} (mk : Int → Int → Int → List Int → List Int → List Int → List Int → α) (n : Nat) (rc : Int → Int → Int → Int → List Int → List Int → List Int → List Int → Option α) (k i : Nat) (hk : k < 4) (hi : i < 4) (c i3 : Int) (x y o o' : List Int)
    (hc : 0 ≤ c ∧ c < 18446744073709551616) (hx : 0 ≤ x.getD i 0 ∧ x.getD i 0 < 18446744073709551616) (hy : 0 ≤ y.getD k 0 ∧ y.getD k 0 < 18446744073709551616) (ho : 0 ≤ o.getD (i + k) 0 ∧ o.getD (i + k) 0 < 18446744073709551616) :
    ∃ d c', (0 ≤ d ∧ d < 18446744073709551616) ∧ (0 ≤ c' ∧ c' < 18446744073709551616) ∧ o.getD (i + k) 0 + x.getD i 0 * y.getD k 0 + c = d + 18446744073709551616 * c' ∧
    word_product.l7_0.r mk n rc (k : Int) (i : Int) c i3 x y o o' = rc ((k + 1 : Nat) : Int) (i : Int) c' i3 x y (o.set (i + k) d) o' := by
  have h1 : (decide ((k : Int) < 4)) = true := by simp; omega
  have g1 : (0 : Int) ≤ (i : Int) := by omega
  have g2 : (i : Int) < 4 := by omega
  have g3 : (0 : Int) ≤ (k : Int) := by omega
  have g4 : (k : Int) < 4 := by omega
  have w : IntKind.wrap .i64 ((i : Int) + (k : Int)) = ((i + k : Nat) : Int) := by rw [wi64]; omega
  have g5 : (0 : Int) ≤ ((i + k : Nat) : Int) := by omega
  have g6 : ((i + k : Nat) : Int) < 8 := by omega
  have w1 : IntKind.wrap .i64 ((k : Int) + 1) = ((k + 1 : Nat) : Int) := by rw [wi64]; omega
  simp only [word_product.l7_0.r, h1, g1, g2, g3, g4, w, g5, g6, w1, if_true, eq_self_iff_true, Int.toNat_natCast]
  rw [bits_Mul64_ok hx hy]
  have hp := mul_bound hx.1 (show x.getD i 0 ≤ 18446744073709551615 by omega) hy.1 (show y.getD k 0 ≤ 18446744073709551615 by omega)
  simp only [bindO, Option.bind_some, bits_Add64.m]
  generalize x.getD i 0 * y.getD k 0 = p at *
  generalize o.getD (i + k) 0 = oo at *
  rw [xAdd64_some (by omega) hc.1 (by omega) (by omega)]
  simp only [Option.bind_some]
  rw [xAdd64_some ho.1 (by omega) (by omega) (by omega)]
  simp only [Option.bind_some, wu64]
  refine ⟨_, _, ?_, ?_, ?_, rfl⟩ <;> omega
theorem product_inner {α : Type} (mk : Int → Int → Int → List Int → List Int → List Int → List Int → α) (n : Nat) {x y : List Int} (hx : W4 x) (hy : W4 y) {i : Nat} (hi : i < 4) (i3 : Int) {o0 : List Int} (hl : o0.length = 8) (o' : List Int) :
    ∀ (r k m : Nat) (o : List Int) (c : Int), k + r = 4 → r + 1 ≤ m → Row 18446744073709551616 (x.getD i 0) y i k o0 o c →
      ∃ o2 c2, Row 18446744073709551616 (x.getD i 0) y i 4 o0 o2 c2 ∧ word_product.l7_0.g mk n m (k : Int) (i : Int) c i3 x y o o' = some (mk (i : Int) c2 i3 o2 x y o')
  | 0, k, m + 1, o, c, hk, hm, R => by
    have : k = 4 := by omega
    subst this
    exact ⟨o, c, R, rfl⟩
  | r + 1, k, m + 1, o, c, hk, hm, R => by
    have hlo : o.length = 8 := by rw [R.len, hl]
    have hxl : x.length = 4 := hx.1
    have hyl : y.length = 4 := hy.1
    obtain ⟨d, c', hd, hc', he, hs⟩ := product_step mk n (fun y0 y1 y2 y3 y4 y5 y6 y7 => word_product.l7_0.g mk n m y0 y1 y2 y3 y4 y5 y6 y7) k i (by omega) hi c i3 x y o o' R.car (hx.dig.getD (by omega)) (hy.dig.getD (by omega)) (R.dig.getD (by omega))
    obtain ⟨o2, c2, h1, h2⟩ := product_inner mk n hx hy hi i3 hl o' r (k + 1) m _ _ (by omega) (by omega) (R.step (by omega) (by omega) he hd hc')
    exact ⟨o2, c2, h1, hs.trans h2⟩
theorem product_outer {n : Nat} (hn : 100 ≤ n) {x y : List Int} (hx : W4 x) (hy : W4 y) (o' : List Int) : ∀ (r i m : Nat) (o : List Int), i + r = 4 → r + 1 ≤ m → Rows 18446744073709551616 x y i o →
      ∃ o2, Rows 18446744073709551616 x y 4 o2 ∧ word_product.l3_0.g (fun a0 a1 => (a0, a1)) n m (i : Int) x y o o' = some (o2, o')
  | 0, i, m + 1, o, hk, hm, R => by
    have : i = 4 := by omega
    subst this
    exact ⟨o, R, rfl⟩
  | r + 1, i, m + 1, o, hk, hm, R => by
    have hxl : x.length = 4 := hx.1
    have hyl : y.length = 4 := hy.1
    obtain ⟨o2, c2, h1, h2⟩ := product_inner (fun a0 a1 a2 a3 a4 a5 a6 => (a0, a1, a2, a3, a4, a5, a6)) n hx hy (i := i) (by omega) (i : Int) (o0 := o) (by rw [R.len]; omega) o' 4 0 n o 0 (by omega) (by omega) (Row.start (by omega) R.dig)
    rw [show (4 : Nat) = y.length from hyl.symm] at h1
    obtain ⟨o3, k1, k2⟩ := product_outer hn hx hy o' r (i + 1) m _ (by omega) (by omega) (R.step (by omega) h1)
    refine ⟨o3, k1, ?_⟩
    rw [← k2]
    have g1 : (decide ((i : Int) < 4)) = true := by simp; omega
    have w : IntKind.wrap .i64 ((i : Int) + 4) = ((i + y.length : Nat) : Int) := by rw [wi64]; omega
    have w1 : IntKind.wrap .i64 ((i : Int) + 1) = ((i + 1 : Nat) : Int) := by rw [wi64]; omega
    have g5 : (0 : Int) ≤ ((i + y.length : Nat) : Int) := by omega
    have g6 : ((i + y.length : Nat) : Int) < 8 := by omega
    show word_product.l3_0.r _ n _ _ _ _ _ _ = _
    simp only [word_product.l3_0.r, g1, if_true, word_product.l7_0.m]
    rw [show ((0 : Nat) : Int) = 0 from rfl] at h2
    rw [h2]
    simp only [bindO, Option.bind_some, w, w1, g5, g6, if_true, Int.toNat_natCast]
theorem word_product_ok {n : Nat} (hn : 100 ≤ n) {x y : List Int} (hx : W4 x) (hy : W4 y) : ∃ p, word_product.m n (x, y) = some p ∧ p.length = 8 ∧ Dig 18446744073709551616 p ∧ val 18446744073709551616 p = V x * V y := by
  obtain ⟨o, h1, h2⟩ := product_outer hn hx hy [0, 0, 0, 0, 0, 0, 0, 0] 4 0 n [0, 0, 0, 0, 0, 0, 0, 0] (by omega) (by omega) (Rows.start (n := 8) (by omega) (by rw [hx.1, hy.1]))
  refine ⟨o, ?_, by rw [h1.len, hx.1, hy.1], h1.dig, ?_⟩
  · simp only [word_product.m, word_product.g, word_product.l3_0.m]
    rw [show ((0 : Nat) : Int) = 0 from rfl] at h2
    rw [h2]
    rfl
  · rw [V_val hx.1, V_val hy.1]
    have := h1.eq
    rwa [show (4 : Nat) = x.length from hx.1.symm, List.take_length] at this
theorem wide_split {p : List Int} (hl : p.length = 8) (h : Dig 18446744073709551616 p) : ∃ a b c d e f g k, p = [a, b, c, d, e, f, g, k] ∧ (0 ≤ a ∧ a < 18446744073709551616) ∧ (0 ≤ b ∧ b < 18446744073709551616) ∧ (0 ≤ c ∧ c < 18446744073709551616) ∧ (0 ≤ d ∧ d < 18446744073709551616) ∧
    (0 ≤ e ∧ e < 18446744073709551616) ∧ (0 ≤ f ∧ f < 18446744073709551616) ∧ (0 ≤ g ∧ g < 18446744073709551616) ∧ (0 ≤ k ∧ k < 18446744073709551616) := by
  match p, hl with
  | [a, b, c, d, e, f, g, k], _ => exact ⟨a, b, c, d, e, f, g, k, rfl, h a (by simp), h b (by simp), h c (by simp), h d (by simp), h e (by simp), h f (by simp), h g (by simp), h k (by simp)⟩
theorem wide_val (a b c d e f g k : Int) : val 18446744073709551616 [a, b, c, d, e, f, g, k] = V [a, b, c, d] + B * V [e, f, g, k] := by
  simp only [val, V, B]; omega
theorem word_Mul_ok {n : Nat} (hn : 100 ≤ n) {x y : List Int} (hx : W4 x) (hy : W4 y) : word_Mul.m n (x, y) = some (ofV (V x * V y), decide (B ≤ V x * V y)) := by
  obtain ⟨p, h1, h2, h3, h4⟩ := word_product_ok hn hx hy
  obtain ⟨a, b, c, d, e, f, g, k, rfl, ha, hb, hc, hd, he, hf, hg, hk⟩ := wide_split h2 h3
  rw [wide_val] at h4
  simp only [word_Mul.m, word_Mul.g, h1, bindO, Option.bind_some, List.drop_zero, List.take_succ_cons, List.take_zero, List.getD_cons_zero, List.getD_cons_succ]
  rw [digits (V [e, f, g, k]) ha hb hc hd h4.symm]
  have o1 := or_zero he.1 he.2 hf.1 hf.2
  have o2 := or_zero o1.1.1 o1.1.2 hg.1 hg.2
  have o3 := or_zero o2.1.1 o2.1.2 hk.1 hk.2
  have hr := V_range (.mk ha hb hc hd)
  have : (ibits .or .u64 (ibits .or .u64 (ibits .or .u64 e f) g) k != 0) = decide (B ≤ V x * V y) := by
    rw [Bool.eq_iff_iff]
    simp only [bne_iff_ne, decide_eq_true_eq, ne_eq]
    rw [o3.2, o2.2, o1.2, ← h4]
    generalize V [a, b, c, d] = v at *
    simp only [V, B] at *
    omega
  rw [this]
theorem halves_unroll (k : Nat) (a b c d : Int) : q01_halves.m (k + 9) [a, b, c, d] = some [ibits .and .u64 (ishr .u64 a 0) 4294967295, ibits .and .u64 (ishr .u64 a 32) 4294967295, ibits .and .u64 (ishr .u64 b 0) 4294967295, ibits .and .u64 (ishr .u64 b 32) 4294967295,
    ibits .and .u64 (ishr .u64 c 0) 4294967295, ibits .and .u64 (ishr .u64 c 32) 4294967295, ibits .and .u64 (ishr .u64 d 0) 4294967295, ibits .and .u64 (ishr .u64 d 32) 4294967295] := by kernel_rfl
theorem half_lo {a : Int} (h : 0 ≤ a ∧ a < 18446744073709551616) : ibits .and .u64 (ishr .u64 a 0) 4294967295 = a % 4294967296 := by
  rw [show (0 : Int) = ((0 : Nat) : Int) from rfl, ishr_ofNat .u64 a 0 (by decide)]
  have := and_mask (a := a / 2 ^ 0) (by simp; omega) (by simp; omega) 32 (by omega)
  simpa using this
theorem half_hi {a : Int} (h : 0 ≤ a ∧ a < 18446744073709551616) : ibits .and .u64 (ishr .u64 a 32) 4294967295 = a / 4294967296 := by
  rw [show (32 : Int) = ((32 : Nat) : Int) from rfl, ishr_ofNat .u64 a 32 (by decide)]
  have := and_mask (a := a / 2 ^ 32) (by omega) (by omega) 32 (by omega)
  rw [show (4294967295 : Int) = ((2 ^ 32 - 1 : Nat) : Int) from rfl, this]
  omega
theorem q01_halves_ok {n : Nat} (hn : 100 ≤ n) {x : List Int} (hx : W4 x) : ∃ l, q01_halves.m n x = some l ∧ l.length = 8 ∧ Dig 4294967296 l ∧ val 4294967296 l = V x := by
  obtain ⟨a, b, c, d, rfl, ha, hb, hc, hd⟩ := hx.split
  obtain ⟨k, rfl⟩ : ∃ k, n = k + 9 := ⟨n - 9, by omega⟩
  rw [halves_unroll, half_lo ha, half_hi ha, half_lo hb, half_hi hb, half_lo hc, half_hi hc, half_lo hd, half_hi hd]
  refine ⟨_, rfl, rfl, ?_, ?_⟩
  · intro z hz
    simp only [List.mem_cons, List.not_mem_nil, or_false] at hz
    omega
  · simp only [val, V]; omega
theorem q01_Mul_step {α : Type} (mk : Int → Int → List Int → List Int → List Int → List Int → α) (n : Nat) (rc : Int → Int → Int → List Int → List Int → List Int → List Int → Option α) (k i : Nat) (hk : k < 8) (hi : i < 8) (c : Int) (x y o o' : List Int)
    (hc : 0 ≤ c ∧ c < 4294967296) (hx : 0 ≤ x.getD i 0 ∧ x.getD i 0 < 4294967296) (hy : 0 ≤ y.getD k 0 ∧ y.getD k 0 < 4294967296) (ho : 0 ≤ o.getD (i + k) 0 ∧ o.getD (i + k) 0 < 4294967296) :
    ∃ d c', (0 ≤ d ∧ d < 4294967296) ∧ (0 ≤ c' ∧ c' < 4294967296) ∧ o.getD (i + k) 0 + x.getD i 0 * y.getD k 0 + c = d + 4294967296 * c' ∧
    q01_Mul.l9_0.r mk n rc (k : Int) (i : Int) c o x y o' = rc ((k + 1 : Nat) : Int) (i : Int) c' (o.set (i + k) d) x y o' := by
  have h1 : (decide ((k : Int) < 8)) = true := by simp; omega
  have g1 : (0 : Int) ≤ (i : Int) := by omega
  have g2 : (i : Int) < 8 := by omega
  have g3 : (0 : Int) ≤ (k : Int) := by omega
  have g4 : (k : Int) < 8 := by omega
  have w : IntKind.wrap .i64 ((i : Int) + (k : Int)) = ((i + k : Nat) : Int) := by rw [wi64]; omega
  have g5 : (0 : Int) ≤ ((i + k : Nat) : Int) := by omega
  have g6 : ((i + k : Nat) : Int) < 16 := by omega
  have w1 : IntKind.wrap .i64 ((k : Int) + 1) = ((k + 1 : Nat) : Int) := by rw [wi64]; omega
  simp only [q01_Mul.l9_0.r, h1, g1, g2, g3, g4, w, g5, g6, w1, if_true, eq_self_iff_true, Int.toNat_natCast, wu64]
  have hp := mul_bound hx.1 (show x.getD i 0 ≤ 4294967295 by omega) hy.1 (show y.getD k 0 ≤ 4294967295 by omega)
  generalize x.getD i 0 * y.getD k 0 = p at *
  generalize o.getD (i + k) 0 = oo at *
  rw [show ((oo + p % 18446744073709551616) % 18446744073709551616 + c) % 18446744073709551616 = oo + p + c by omega]
  have ms := and_mask (a := oo + p + c) (by omega) (by omega) 32 (by omega)
  have sh := ishr_ofNat .u64 (oo + p + c) 32 (by decide)
  rw [show ((2 ^ 32 - 1 : Nat) : Int) = 4294967295 from rfl] at ms
  rw [show ((32 : Nat) : Int) = 32 from rfl] at sh
  rw [ms, sh]
  refine ⟨_, _, ?_, ?_, ?_, rfl⟩ <;> omega
theorem q01_Mul_inner {α : Type} (mk : Int → Int → List Int → List Int → List Int → List Int → α) (n : Nat) {x y : List Int} (hxl : x.length = 8) (hx : Dig 4294967296 x) (hyl : y.length = 8) (hy : Dig 4294967296 y) {i : Nat} (hi : i < 8) {o0 : List Int} (hl : o0.length = 16) (o' : List Int) :
    ∀ (r k m : Nat) (o : List Int) (c : Int), k + r = 8 → r + 1 ≤ m → Row 4294967296 (x.getD i 0) y i k o0 o c →
      ∃ o2 c2, Row 4294967296 (x.getD i 0) y i 8 o0 o2 c2 ∧ q01_Mul.l9_0.g mk n m (k : Int) (i : Int) c o x y o' = some (mk (i : Int) c2 o2 x y o')
  | 0, k, m + 1, o, c, hk, hm, R => by
    have : k = 8 := by omega
    subst this
    exact ⟨o, c, R, rfl⟩
  | r + 1, k, m + 1, o, c, hk, hm, R => by
    have hlo : o.length = 16 := by rw [R.len, hl]
    obtain ⟨d, c', hd, hc', he, hs⟩ := q01_Mul_step mk n (fun y0 y1 y2 y3 y4 y5 y6 => q01_Mul.l9_0.g mk n m y0 y1 y2 y3 y4 y5 y6) k i (by omega) hi c x y o o' R.car (hx.getD (by omega)) (hy.getD (by omega)) (R.dig.getD (by omega))
    obtain ⟨o2, c2, h1, h2⟩ := q01_Mul_inner mk n hxl hx hyl hy hi hl o' r (k + 1) m _ _ (by omega) (by omega) (R.step (by omega) (by omega) he hd hc')
    exact ⟨o2, c2, h1, hs.trans h2⟩
theorem q01_Mul_outer {n : Nat} (hn : 100 ≤ n) {x y : List Int} (hxl : x.length = 8) (hx : Dig 4294967296 x) (hyl : y.length = 8) (hy : Dig 4294967296 y) (o' : List Int) : ∀ (r i m : Nat) (o : List Int), i + r = 8 → r + 1 ≤ m → Rows 4294967296 x y i o →
      ∃ o2, Rows 4294967296 x y 8 o2 ∧ q01_Mul.l5_0.g (fun a0 a1 => (a0, a1)) n m (i : Int) o x y o' = some (o2, o')
  | 0, i, m + 1, o, hk, hm, R => by
    have : i = 8 := by omega
    subst this
    exact ⟨o, R, rfl⟩
  | r + 1, i, m + 1, o, hk, hm, R => by
    obtain ⟨o2, c2, h1, h2⟩ := q01_Mul_inner (fun a0 a1 a2 a3 a4 a5 => (a0, a1, a2, a3, a4, a5)) n hxl hx hyl hy (i := i) (by omega) (o0 := o) (by rw [R.len]; omega) o' 8 0 n o 0 (by omega) (by omega) (Row.start (by omega) R.dig)
    rw [show (8 : Nat) = y.length from hyl.symm] at h1
    obtain ⟨o3, k1, k2⟩ := q01_Mul_outer hn hxl hx hyl hy o' r (i + 1) m _ (by omega) (by omega) (R.step (by omega) h1)
    refine ⟨o3, k1, ?_⟩
    rw [← k2]
    have g1 : (decide ((i : Int) < 8)) = true := by simp; omega
    have w : IntKind.wrap .i64 ((i : Int) + 8) = ((i + y.length : Nat) : Int) := by rw [wi64]; omega
    have w1 : IntKind.wrap .i64 ((i : Int) + 1) = ((i + 1 : Nat) : Int) := by rw [wi64]; omega
    have g5 : (0 : Int) ≤ ((i + y.length : Nat) : Int) := by omega
    have g6 : ((i + y.length : Nat) : Int) < 16 := by omega
    show q01_Mul.l5_0.r _ n _ _ _ _ _ _ = _
    simp only [q01_Mul.l5_0.r, g1, if_true, q01_Mul.l9_0.m]
    rw [show ((0 : Nat) : Int) = 0 from rfl] at h2
    rw [h2]
    simp only [bindO, Option.bind_some, w, w1, g5, g6, if_true, Int.toNat_natCast]
theorem q01_pack_step {α : Type} (mk : Bool → List Int → List Int → α) (n : Nat) (rc : Int → Bool → List Int → List Int → List Int → Option α) (i : Nat) (hi : i < 8) (g : Bool) (o l o' : List Int) :
    q01_Mul.l18_0.r mk n rc (i : Int) g o l o' = rc ((i + 1 : Nat) : Int) (g || l.getD (i + 8) 0 != 0) (o.set (i / 2) (ibits .or .u64 (o.getD (i / 2) 0) (ishl .u64 (l.getD i 0) ((i % 2 * 32 : Nat) : Int)))) l o' := by
  have h1 : (decide ((i : Int) < 8)) = true := by simp; omega
  have g1 : (0 : Int) ≤ (i : Int) := by omega
  have g2 : (i : Int) < 16 := by omega
  have w : IntKind.wrap .i64 (Int.tdiv (i : Int) 2) = ((i / 2 : Nat) : Int) := by rw [tdiv_nonneg' (by omega), wi64]; omega
  have w2 : IntKind.wrap .u64 (IntKind.wrap .i64 (Int.tmod (i : Int) 2 * 32)) = ((i % 2 * 32 : Nat) : Int) := by rw [tmod_nonneg' (by omega), wi64, wu64]; omega
  have w1 : IntKind.wrap .i64 ((i : Int) + 1) = ((i + 1 : Nat) : Int) := by rw [wi64]; omega
  have w8 : IntKind.wrap .i64 ((i : Int) + 8) = ((i + 8 : Nat) : Int) := by rw [wi64]; omega
  have g3 : (0 : Int) ≤ ((i / 2 : Nat) : Int) := by omega
  have g4 : ((i / 2 : Nat) : Int) < 4 := by omega
  have g5 : (0 : Int) ≤ ((i % 2 * 32 : Nat) : Int) := by omega
  have g6 : (0 : Int) ≤ ((i + 8 : Nat) : Int) := by omega
  have g7 : ((i + 8 : Nat) : Int) < 16 := by omega
  simp only [q01_Mul.l18_0.r, h1, g1, g2, w, w1, w2, w8, g3, g4, g5, g6, g7, if_true, eq_self_iff_true, Int.toNat_natCast]
  cases g with
  | true => simp
  | false => simp
theorem pack_two {a b : Int} (ha : 0 ≤ a ∧ a < 4294967296) (hb : 0 ≤ b ∧ b < 4294967296) : ibits .or .u64 (ibits .or .u64 0 (ishl .u64 a 0)) (ishl .u64 b 32) = a + b * 4294967296 := by
  rw [show (0 : Int) = ((0 : Nat) : Int) from rfl, ishl_ofNat .u64 a 0 (by decide), show (32 : Int) = ((32 : Nat) : Int) from rfl, ishl_ofNat .u64 b 32 (by decide), wu64, wu64]
  rw [show a * 2 ^ 0 % 18446744073709551616 = a by omega, show b * 2 ^ 32 % 18446744073709551616 = b * 4294967296 by omega]
  rw [or_u64 (a := ((0 : Nat) : Int)) (by omega) (by omega) ha.1 (by omega)]
  rw [show (((0 : Nat) : Int).toNat ||| a.toNat : Nat) = a.toNat by simp]
  rw [or_u64 (by omega) (by omega) (by omega) (by omega)]
  have : (b * 4294967296).toNat = b.toNat <<< 32 := by rw [Nat.shiftLeft_eq]; omega
  rw [this, Nat.or_comm, ← Nat.shiftLeft_add_eq_or_of_lt (by omega), Nat.shiftLeft_eq]
  omega
theorem q01_pack {n m : Nat} (hm : 9 ≤ m) {l : List Int} (hl : l.length = 16) (hd : Dig 4294967296 l) : ∃ hi, 0 ≤ hi ∧ q01_Mul.l18_0.g (fun a0 a1 a2 => (a0, a1, a2)) n m 0 false [0, 0, 0, 0] l [0, 0, 0, 0] = some (decide (B ≤ val 4294967296 l), ofV (val 4294967296 l), [0, 0, 0, 0]) := by
  obtain ⟨k, rfl⟩ : ∃ k, m = k + 9 := ⟨m - 9, by omega⟩
  match l, hl with
  | [a0, a1, a2, a3, a4, a5, a6, a7, b0, b1, b2, b3, b4, b5, b6, b7], _ =>
  have d : ∀ x ∈ [a0, a1, a2, a3, a4, a5, a6, a7, b0, b1, b2, b3, b4, b5, b6, b7], 0 ≤ x ∧ x < 4294967296 := hd
  simp only [List.mem_cons, List.not_mem_nil, or_false, forall_eq_or_imp, forall_eq] at d
  obtain ⟨h0, h1, h2, h3, h4, h5, h6, h7, k0, k1, k2, k3, k4, k5, k6, k7⟩ := d
  refine ⟨0, by omega, ?_⟩
  refine (q01_pack_step _ _ _ 0 (by omega) _ _ _ _).trans ?_
  refine (q01_pack_step _ _ _ 1 (by omega) _ _ _ _).trans ?_
  refine (q01_pack_step _ _ _ 2 (by omega) _ _ _ _).trans ?_
  refine (q01_pack_step _ _ _ 3 (by omega) _ _ _ _).trans ?_
  refine (q01_pack_step _ _ _ 4 (by omega) _ _ _ _).trans ?_
  refine (q01_pack_step _ _ _ 5 (by omega) _ _ _ _).trans ?_
  refine (q01_pack_step _ _ _ 6 (by omega) _ _ _ _).trans ?_
  refine (q01_pack_step _ _ _ 7 (by omega) _ _ _ _).trans ?_
  show some _ = some _
  simp only [List.getD_cons_zero, List.getD_cons_succ, List.set_cons_zero, List.set_cons_succ, Nat.reduceDiv, Nat.reduceMod, Nat.reduceMul, Nat.reduceAdd]
  rw [show ((0 : Nat) : Int) = 0 from rfl, show ((32 : Nat) : Int) = 32 from rfl, pack_two h0 h1, pack_two h2 h3, pack_two h4 h5, pack_two h6 h7]
  have hv : val 4294967296 [a0, a1, a2, a3, a4, a5, a6, a7, b0, b1, b2, b3, b4, b5, b6, b7] = V [a0 + a1 * 4294967296, a2 + a3 * 4294967296, a4 + a5 * 4294967296, a6 + a7 * 4294967296] + B * val 4294967296 [b0, b1, b2, b3, b4, b5, b6, b7] := by
    simp only [val, V, B]; omega
  have w4 : W4 [a0 + a1 * 4294967296, a2 + a3 * 4294967296, a4 + a5 * 4294967296, a6 + a7 * 4294967296] := .mk (by omega) (by omega) (by omega) (by omega)
  have hr := V_range w4
  rw [digits (val 4294967296 [b0, b1, b2, b3, b4, b5, b6, b7]) (by omega) (by omega) (by omega) (by omega) hv, hv]
  generalize V [a0 + a1 * 4294967296, a2 + a3 * 4294967296, a4 + a5 * 4294967296, a6 + a7 * 4294967296] = v at *
  have hf : ((((((((false || b0 != 0) || b1 != 0) || b2 != 0) || b3 != 0) || b4 != 0) || b5 != 0) || b6 != 0) || b7 != 0) = decide (B ≤ v + B * val 4294967296 [b0, b1, b2, b3, b4, b5, b6, b7]) := by
    rw [Bool.eq_iff_iff]
    simp only [Bool.false_or, Bool.or_eq_true, bne_iff_ne, decide_eq_true_eq, ne_eq]
    have hw : val 4294967296 [b0, b1, b2, b3, b4, b5, b6, b7] = 0 ↔ b0 = 0 ∧ b1 = 0 ∧ b2 = 0 ∧ b3 = 0 ∧ b4 = 0 ∧ b5 = 0 ∧ b6 = 0 ∧ b7 = 0 := by
      simp only [val]; omega
    have hw0 : 0 ≤ val 4294967296 [b0, b1, b2, b3, b4, b5, b6, b7] := by simp only [val]; omega
    generalize val 4294967296 [b0, b1, b2, b3, b4, b5, b6, b7] = z at *
    have hz : B ≤ v + B * z ↔ z ≠ 0 := by simp only [B] at hr ⊢; omega
    rw [hz]
    constructor
    · intro h hz; have := hw.1 hz; omega
    · intro h; have : ¬ (b0 = 0 ∧ b1 = 0 ∧ b2 = 0 ∧ b3 = 0 ∧ b4 = 0 ∧ b5 = 0 ∧ b6 = 0 ∧ b7 = 0) := fun e => h (hw.2 e)
      omega
  rw [hf]
theorem q01_Mul_ok {n : Nat} (hn : 100 ≤ n) {x y : List Int} (hx : W4 x) (hy : W4 y) : q01_Mul.m n (x, y) = some (ofV (V x * V y), decide (B ≤ V x * V y)) := by
  obtain ⟨u, h1, h2, h3, h4⟩ := q01_halves_ok hn hx
  obtain ⟨v, g1, g2, g3, g4⟩ := q01_halves_ok hn hy
  obtain ⟨o, k1, k2⟩ := q01_Mul_outer hn h2 h3 g2 g3 [0, 0, 0, 0] 8 0 n [0, 0, 0, 0, 0, 0, 0, 0, 0, 0, 0, 0, 0, 0, 0, 0] (by omega) (by omega) (Rows.start (n := 16) (by omega) (by rw [h2, g2]))
  have hl : o.length = 16 := by rw [k1.len, h2, g2]
  have hv : val 4294967296 o = V x * V y := by
    have := k1.eq
    rwa [show (8 : Nat) = u.length from h2.symm, List.take_length, h4, g4] at this
  obtain ⟨_, _, p⟩ := q01_pack (n := n) (m := n) (by omega) hl k1.dig
  simp only [q01_Mul.m, q01_Mul.g, h1, g1, bindO, Option.bind_some, q01_Mul.l5_0.m, q01_Mul.l18_0.m]
  rw [show ((0 : Nat) : Int) = 0 from rfl] at k2
  rw [k2]
  simp only [Option.bind_some]
  rw [p]
  simp only [Option.bind_some, hv]
end Go.Abs.Pure
end
section
set_option linter.unusedVariables false
set_option linter.unusedSimpArgs false
namespace Go.Abs.Pure
open Go Go.Abs
def H : Int := 57896044618658097711785492504343953926634992332820282019728792003956564819968
def S (x : List Int) : Int := if V x < H then V x else V x - B
theorem cmpOf_shift (x y d : Int) : cmpOf (x + d) (y + d) = cmpOf x y := by
  unfold cmpOf
  repeat' split
  all_goals omega
theorem word_Cmp_ok {n : Nat} (hn : 100 ≤ n) {x y : List Int} (hx : W4 x) (hy : W4 y) : word_Cmp.m n (x, y) = some (cmpOf (V x) (V y)) := by
  simp only [word_Cmp.m, word_Cmp.g, word_Sub_ok hn hx hy, bindO, Option.bind_some, beq_V hx hy, decide_eq_true_eq]
  unfold cmpOf
  split
  · rfl
  split <;> rfl
end Go.Abs.Pure
end
section
set_option linter.unusedVariables false
set_option linter.unusedSimpArgs false
namespace Go.Abs.Pure
open Go Go.Abs
theorem pow_pos' (k : Nat) : (0 : Int) < 2 ^ k := Int.pow_pos (by omega)
theorem pow_split {i k : Nat} (h : i ≤ k) : (2 : Int) ^ k = 2 ^ i * 2 ^ (k - i) := by rw [← Int.pow_add]; congr 1; omega
theorem div_pow (x : Int) (i j : Nat) : x / 2 ^ (i + j) = x / 2 ^ i / 2 ^ j := by rw [Int.pow_add, Int.ediv_ediv_of_nonneg (Int.le_of_lt (pow_pos' i))]
theorem bit_add_mul (x v : Int) {i k : Nat} (h : i < k) : (x + 2 ^ k * v) / 2 ^ i % 2 = x / 2 ^ i % 2 := by
  obtain ⟨d, rfl⟩ : ∃ d, k = i + (d + 1) := ⟨k - i - 1, by omega⟩
  rw [Int.pow_add, Int.mul_assoc, Int.add_mul_ediv_left _ _ (Int.ne_of_gt (pow_pos' i)), Int.pow_succ, show (2 : Int) ^ d * 2 * v = 2 * (2 ^ d * v) by rw [Int.mul_comm (2 ^ d) 2, Int.mul_assoc], Int.add_mul_emod_self_left]
theorem val_bit : ∀ {l : List Int} (h : Dig 18446744073709551616 l) {i : Nat} (hi : i / 64 < l.length), l.getD (i / 64) 0 / 2 ^ (i % 64) % 2 = val 18446744073709551616 l / 2 ^ i % 2
  | x :: r, h, i, hi => by
    have hx := h x (by simp)
    by_cases hlt : i < 64
    · rw [show i / 64 = 0 by omega, show i % 64 = i by omega]
      simp only [List.getD_cons_zero, val]
      rw [show (18446744073709551616 : Int) = 2 ^ 64 from rfl, bit_add_mul x _ hlt]
    · obtain ⟨j, rfl⟩ : ∃ j, i = 64 + j := ⟨i - 64, by omega⟩
      have ih := val_bit (l := r) (fun y hy => h y (by simp [hy])) (i := j) (by simp at hi; omega)
      rw [show (64 + j) / 64 = j / 64 + 1 by omega, show (64 + j) % 64 = j % 64 by omega]
      simp only [List.getD_cons_succ, val]
      rw [ih, div_pow, show (2 : Int) ^ 64 = 18446744073709551616 from rfl, Int.add_mul_ediv_left _ _ (by omega), show x / 18446744073709551616 = 0 by omega, Int.zero_add]
theorem V_bit {l : List Int} (h : W4 l) {i : Nat} (hi : i < 256) : l.getD (i / 64) 0 / 2 ^ (i % 64) % 2 = V l / 2 ^ i % 2 := by
  rw [V_val h.1]
  exact val_bit h.dig (by rw [h.1]; omega)
theorem nat_or_bit {a k : Nat} (h : a / 2 ^ k % 2 = 0) : a ||| 2 ^ k = a + 2 ^ k := by
  have hw : a % 2 ^ k < 2 ^ k := Nat.mod_lt _ (Nat.pow_pos (by omega))
  have e1 : a = (a / 2 ^ (k + 1)) <<< (k + 1) + a % 2 ^ k := by
    rw [Nat.shiftLeft_eq, Nat.pow_succ, ← Nat.div_div_eq_div_mul]
    have := Nat.div_add_mod a (2 ^ k)
    have h2 := Nat.div_add_mod (a / 2 ^ k) 2
    rw [h, Nat.add_zero] at h2
    rw [← h2] at this
    conv => lhs; rw [← this]
    rw [← Nat.mul_assoc, Nat.mul_comm]
  generalize a / 2 ^ (k + 1) = u at *
  generalize a % 2 ^ k = w at *
  have h3 : 2 ^ k ||| w = 2 ^ k + w := by
    have := Nat.shiftLeft_add_eq_or_of_lt hw 1
    rw [Nat.shiftLeft_eq, Nat.one_mul] at this
    exact this.symm
  have h4 : 2 ^ k + w < 2 ^ (k + 1) := by rw [Nat.pow_succ]; omega
  rw [e1, Nat.shiftLeft_add_eq_or_of_lt (by omega), Nat.or_assoc, Nat.or_comm w, h3, ← Nat.shiftLeft_add_eq_or_of_lt h4]
  rw [← Nat.shiftLeft_add_eq_or_of_lt (by omega)]
  omega
theorem or_bit {a : Int} {k : Nat} (ha : 0 ≤ a ∧ a < 18446744073709551616) (hk : k < 64) (h : a / 2 ^ k % 2 = 0) : ibits .or .u64 a (2 ^ k) = a + 2 ^ k := by
  have hp : (2 : Int) ^ k < 18446744073709551616 := by
    have : (2 : Nat) ^ k < 2 ^ 64 := Nat.pow_lt_pow_right (by omega) hk
    have h2 : ((2 ^ k : Nat) : Int) < ((2 ^ 64 : Nat) : Int) := by omega
    rw [Int.natCast_pow] at h2
    exact h2
  obtain ⟨n, rfl⟩ := Int.eq_ofNat_of_zero_le ha.1
  rw [or_u64 (by omega) ha.2 (Int.le_of_lt (pow_pos' k)) hp]
  have e : Int.toNat ((2 : Int) ^ k) = 2 ^ k := by
    have : ((2 : Int) ^ k) = ((2 ^ k : Nat) : Int) := by rw [Int.natCast_pow]; rfl
    rw [this, Int.toNat_natCast]
  have h' : n / 2 ^ k % 2 = 0 := by
    have : ((n / 2 ^ k % 2 : Nat) : Int) = 0 := by rw [Int.natCast_emod, Int.natCast_ediv, Int.natCast_pow]; exact h
    omega
  rw [e, Int.toNat_natCast, nat_or_bit h']
  rw [Int.natCast_add, Int.natCast_pow]; rfl
theorem shl_one {k : Nat} (hk : k < 64) : ishl .u64 1 (k : Int) = 2 ^ k := by
  rw [ishl_ofNat .u64 1 k (by simp [IntKind.bits]; omega), wu64, Int.one_mul]
  have : (2 : Nat) ^ k < 2 ^ 64 := Nat.pow_lt_pow_right (by omega) hk
  have h2 : ((2 ^ k : Nat) : Int) < ((2 ^ 64 : Nat) : Int) := by omega
  rw [Int.natCast_pow] at h2
  exact Int.emod_eq_of_lt (Int.le_of_lt (pow_pos' k)) h2
theorem set_bit {q : List Int} (h : W4 q) {i : Nat} (hi : i < 256) (hb : V q / 2 ^ i % 2 = 0) : W4 (q.set (i / 64) (ibits .or .u64 (q.getD (i / 64) 0) (ishl .u64 1 ((i % 64 : Nat) : Int)))) ∧ V (q.set (i / 64) (ibits .or .u64 (q.getD (i / 64) 0) (ishl .u64 1 ((i % 64 : Nat) : Int)))) = V q + 2 ^ i := by
  have hl := h.1
  have hd := h.dig.getD (i := i / 64) (by omega)
  have hbit := V_bit h hi
  rw [hb] at hbit
  rw [shl_one (by omega), or_bit hd (by omega) hbit]
  have hup : q.getD (i / 64) 0 + 2 ^ (i % 64) < 18446744073709551616 := by
    have e := or_bit hd (by omega) hbit
    rw [← e]
    have hp : (2 : Int) ^ (i % 64) < 18446744073709551616 := by
      have : (2 : Nat) ^ (i % 64) < 2 ^ 64 := Nat.pow_lt_pow_right (by omega) (by omega)
      have h2 : ((2 ^ (i % 64) : Nat) : Int) < ((2 ^ 64 : Nat) : Int) := by omega
      rw [Int.natCast_pow] at h2
      exact h2
    exact (or_zero hd.1 hd.2 (Int.le_of_lt (pow_pos' _)) hp).1.2
  have hw : W4 (q.set (i / 64) (q.getD (i / 64) 0 + 2 ^ (i % 64))) := ⟨by simp [hl], h.dig.set ⟨by have := pow_pos' (i % 64); omega, hup⟩⟩
  refine ⟨hw, ?_⟩
  rw [V_val hw.1, V_val hl, val_set (by omega)]
  have : (2 : Int) ^ i = 2 ^ (i % 64) * 18446744073709551616 ^ (i / 64) := by
    rw [show (18446744073709551616 : Int) = 2 ^ 64 from rfl, ← Int.pow_mul, ← Int.pow_add]; congr 1; omega
  rw [this]
  congr 2
  omega
theorem get_bit {x : Int} (hx : 0 ≤ x ∧ x < 18446744073709551616) {k : Nat} (hk : k < 64) : ibits .and .u64 (ishr .u64 x (k : Int)) 1 = x / 2 ^ k % 2 := by
  rw [ishr_ofNat .u64 x k (by simp [IntKind.bits]; omega)]
  have h1 : 0 ≤ x / 2 ^ k := Int.ediv_nonneg hx.1 (Int.le_of_lt (pow_pos' k))
  have h2 : x / 2 ^ k ≤ x := Int.ediv_le_self _ hx.1
  have := and_mask h1 (by omega) 1 (by omega)
  simpa using this
end Go.Abs.Pure
end
section
set_option linter.unusedVariables false
set_option linter.unusedSimpArgs false
set_option maxRecDepth 20000
namespace Go.Abs.Pure
open Go Go.Abs
theorem half_step (P : Int) (i : Nat) : P / 2 ^ i = 2 * (P / 2 ^ (i + 1)) + P / 2 ^ i % 2 := by
  rw [div_pow P i 1]
  have := Int.mul_ediv_add_emod (P / 2 ^ i) 2
  rw [show (2 : Int) ^ 1 = 2 from rfl]
  omega
theorem B_pow : B = 2 ^ 256 := rfl
theorem zero_W4 : W4 [0, 0, 0, 0] := .mk (by omega) (by omega) (by omega) (by omega)
theorem V_zero : V [0, 0, 0, 0] = 0 := rfl
theorem eq_zero {b : List Int} (hb : W4 b) : (b == [0, 0, 0, 0]) = decide (V b = 0) := by rw [beq_V hb zero_W4, V_zero]
theorem q01_bit_ok {n : Nat} {a : List Int} (ha : W4 a) {i : Nat} (hi : i < 256) : q01_bit.m n (a, (i : Int)) = some (decide (V a / 2 ^ i % 2 = 1)) := by
  have w : IntKind.wrap .i64 (Int.tdiv (i : Int) 64) = ((i / 64 : Nat) : Int) := by rw [tdiv_nonneg' (by omega), wi64]; omega
  have w2 : IntKind.wrap .u64 (Int.tmod (i : Int) 64) = ((i % 64 : Nat) : Int) := by rw [tmod_nonneg' (by omega), wu64]; omega
  have g3 : (0 : Int) ≤ ((i / 64 : Nat) : Int) := by omega
  have g4 : ((i / 64 : Nat) : Int) < 4 := by omega
  have g5 : (0 : Int) ≤ ((i % 64 : Nat) : Int) := by omega
  simp only [q01_bit.m, q01_bit.g, w, w2, g3, g4, g5, if_true, Int.toNat_natCast]
  rw [get_bit (ha.dig.getD (by rw [ha.1]; omega)) (by omega), V_bit ha hi]
  congr 1
end Go.Abs.Pure
end
section
set_option linter.unusedVariables false
set_option linter.unusedSimpArgs false
set_option maxRecDepth 20000
namespace Go.Abs.Pure
open Go Go.Abs
theorem low_step (T : Int) (i : Nat) : T % 2 ^ (i + 1) = T % 2 ^ i + T / 2 ^ i % 2 * 2 ^ i := by
  have h1 := Int.mul_ediv_add_emod T (2 ^ i)
  have h2 := Int.mul_ediv_add_emod (T / 2 ^ i) 2
  have e : T = (T % 2 ^ i + T / 2 ^ i % 2 * 2 ^ i) + 2 ^ (i + 1) * (T / 2 ^ i / 2) := by
    rw [Int.pow_succ]
    generalize T % 2 ^ i = u at *
    generalize T / 2 ^ i % 2 = v at *
    generalize T / 2 ^ i / 2 = w at *
    generalize T / 2 ^ i = x at *
    generalize (2 : Int) ^ i = p at *
    grind
  have b1 := Int.emod_nonneg T (Int.ne_of_gt (pow_pos' i))
  have b2 := Int.emod_lt_of_pos T (pow_pos' i)
  have b3 : T / 2 ^ i % 2 = 0 ∨ T / 2 ^ i % 2 = 1 := by omega
  have b4 : 0 ≤ T % 2 ^ i + T / 2 ^ i % 2 * 2 ^ i ∧ T % 2 ^ i + T / 2 ^ i % 2 * 2 ^ i < 2 ^ (i + 1) := by
    rw [Int.pow_succ]
    rcases b3 with h | h <;> rw [h] <;> omega
  conv => lhs; rw [e]
  rw [Int.add_mul_emod_self_left, Int.emod_eq_of_lt b4.1 b4.2]
theorem bit_nat {a k : Nat} : a / 2 ^ k % 2 = if a.testBit k then 1 else 0 := by
  rw [Nat.testBit_eq_decide_div_mod_eq]
  have : a / 2 ^ k % 2 = 0 ∨ a / 2 ^ k % 2 = 1 := by omega
  rcases this with h | h <;> simp [h]
theorem andNot_nat {a k : Nat} (ha : a < 2 ^ 64) (hk : k < 64) (i : Nat) : (BitVec.ofNat 64 a &&& ~~~ BitVec.ofNat 64 (2 ^ k)).toNat.testBit i = (a.testBit i && !decide (k = i)) := by
  have hp : 2 ^ k < 2 ^ 64 := Nat.pow_lt_pow_right (by omega) hk
  rw [BitVec.toNat_and, BitVec.toNat_not, Nat.testBit_and, BitVec.toNat_ofNat, BitVec.toNat_ofNat, Nat.mod_eq_of_lt ha, Nat.mod_eq_of_lt hp, Nat.sub_sub, Nat.add_comm 1 (2 ^ k), Nat.testBit_two_pow_sub_succ hp, Nat.testBit_two_pow]
  by_cases hi : i < 64
  · simp [hi]
  · have : a.testBit i = false := Nat.testBit_lt_two_pow (Nat.lt_of_lt_of_le ha (Nat.pow_le_pow_right (by omega) (by omega)))
    simp [hi, this]
theorem andNot_bit {a : Int} {k : Nat} (ha : 0 ≤ a ∧ a < 18446744073709551616) (hk : k < 64) : ibits .andNot .u64 a (2 ^ k) = a - a / 2 ^ k % 2 * 2 ^ k := by
  obtain ⟨n, rfl⟩ := Int.eq_ofNat_of_zero_le ha.1
  have hp : 2 ^ k < 2 ^ 64 := Nat.pow_lt_pow_right (by omega) hk
  have hn : n < 2 ^ 64 := by omega
  have e1 : BitVec.ofInt 64 (n : Int) = BitVec.ofNat 64 n := BitVec.ofInt_natCast 64 n
  have e2 : BitVec.ofInt 64 ((2 : Int) ^ k) = BitVec.ofNat 64 (2 ^ k) := by
    rw [show ((2 : Int) ^ k) = ((2 ^ k : Nat) : Int) by rw [Int.natCast_pow]; rfl]
    exact BitVec.ofInt_natCast 64 _
  show IntKind.wrap .u64 ((BitVec.ofInt 64 (n : Int) &&& ~~~ BitVec.ofInt 64 ((2 : Int) ^ k)).toNat : Nat) = _
  rw [e1, e2]
  have hb := andNot_nat hn hk
  have hl := (BitVec.ofNat 64 n &&& ~~~ BitVec.ofNat 64 (2 ^ k)).isLt
  generalize (BitVec.ofNat 64 n &&& ~~~ BitVec.ofNat 64 (2 ^ k)).toNat = R at *
  rw [wu64, Int.emod_eq_of_lt (by omega) (by omega)]
  have hc : ((n : Int) / 2 ^ k % 2) = ((n / 2 ^ k % 2 : Nat) : Int) := by rw [Int.natCast_emod, Int.natCast_ediv, Int.natCast_pow]; rfl
  rw [hc, bit_nat]
  have hR : R / 2 ^ k % 2 = 0 := by rw [bit_nat, hb k]; simp
  by_cases ht : n.testBit k = true
  · have : R ||| 2 ^ k = n := by
      apply Nat.eq_of_testBit_eq
      intro i
      rw [Nat.testBit_or, hb i, Nat.testBit_two_pow]
      by_cases hki : k = i
      · subst hki; simp [ht]
      · simp [hki]
    rw [nat_or_bit hR] at this
    rw [if_pos ht, ← this]
    rw [Int.natCast_add, Int.natCast_pow]
    simp
  · have : R = n := by
      apply Nat.eq_of_testBit_eq
      intro i
      rw [hb i]
      by_cases hki : k = i
      · subst hki; simp at ht; simp [ht]
      · simp [hki]
    rw [if_neg ht, this]
    simp
theorem or_bit' {a : Int} {k : Nat} (ha : 0 ≤ a ∧ a < 18446744073709551616) (hk : k < 64) : ibits .or .u64 a (2 ^ k) = a + (1 - a / 2 ^ k % 2) * 2 ^ k := by
  by_cases h : a / 2 ^ k % 2 = 0
  · rw [or_bit ha hk h, h]; omega
  · have h1 : a / 2 ^ k % 2 = 1 := by omega
    rw [h1]
    have hp : (2 : Nat) ^ k < 2 ^ 64 := Nat.pow_lt_pow_right (by omega) hk
    have hpi : ((2 : Int) ^ k) = ((2 ^ k : Nat) : Int) := by rw [Int.natCast_pow]; rfl
    obtain ⟨n, rfl⟩ := Int.eq_ofNat_of_zero_le ha.1
    have hc : ((n : Int) / 2 ^ k % 2) = ((n / 2 ^ k % 2 : Nat) : Int) := by rw [Int.natCast_emod, Int.natCast_ediv, Int.natCast_pow]; rfl
    rw [hc, bit_nat] at h1
    have ht : n.testBit k = true := by
      by_cases ht : n.testBit k = true
      · exact ht
      · rw [if_neg ht] at h1; simp at h1
    have hp2 : ((2 ^ k : Nat) : Int) < 18446744073709551616 := Int.ofNat_lt.2 hp
    rw [hpi, or_u64 ha.1 ha.2 (Int.natCast_nonneg _) hp2, Int.toNat_natCast, Int.toNat_natCast]
    have : n ||| 2 ^ k = n := by
      apply Nat.eq_of_testBit_eq
      intro i
      rw [Nat.testBit_or, Nat.testBit_two_pow]
      by_cases hki : k = i
      · subst hki; simp [ht]
      · simp [hki]
    rw [this]; omega
theorem set_digit {q : List Int} (h : W4 q) {i : Nat} (hi : i < 256) {t : Int} (hd : 0 ≤ q.getD (i / 64) 0 + t * 2 ^ (i % 64) ∧ q.getD (i / 64) 0 + t * 2 ^ (i % 64) < 18446744073709551616) :
    W4 (q.set (i / 64) (q.getD (i / 64) 0 + t * 2 ^ (i % 64))) ∧ V (q.set (i / 64) (q.getD (i / 64) 0 + t * 2 ^ (i % 64))) = V q + t * 2 ^ i := by
  have hl := h.1
  have hw : W4 (q.set (i / 64) (q.getD (i / 64) 0 + t * 2 ^ (i % 64))) := ⟨by simp [hl], h.dig.set hd⟩
  refine ⟨hw, ?_⟩
  rw [V_val hw.1, V_val hl, val_set (by omega)]
  have : (2 : Int) ^ i = 2 ^ (i % 64) * 18446744073709551616 ^ (i / 64) := by
    rw [show (18446744073709551616 : Int) = 2 ^ 64 from rfl, ← Int.pow_mul, ← Int.pow_add]; congr 1; omega
  rw [this]
  generalize q.getD (i / 64) 0 = u
  generalize (2 : Int) ^ (i % 64) = p1
  generalize (18446744073709551616 : Int) ^ (i / 64) = p2
  grind
theorem pow_lt64 {k : Nat} (hk : k < 64) : (2 : Int) ^ k < 18446744073709551616 := by
  have : (2 : Nat) ^ k < 2 ^ 64 := Nat.pow_lt_pow_right (by omega) hk
  have h2 : ((2 ^ k : Nat) : Int) < ((2 ^ 64 : Nat) : Int) := by omega
  rw [Int.natCast_pow] at h2
  exact h2
def b2i (c : Bool) : Int := if c = true then 1 else 0
theorem q01_with_ok {n : Nat} {q : List Int} (h : W4 q) {i : Nat} (hi : i < 256) (c : Bool) : ∃ q', q01_with.m n (q, (i : Int), c) = some q' ∧ W4 q' ∧ V q' = V q + (b2i c - V q / 2 ^ i % 2) * 2 ^ i := by
  have w : IntKind.wrap .i64 (Int.tdiv (i : Int) 64) = ((i / 64 : Nat) : Int) := by rw [tdiv_nonneg' (by omega), wi64]; omega
  have w2 : IntKind.wrap .u64 (Int.tmod (i : Int) 64) = ((i % 64 : Nat) : Int) := by rw [tmod_nonneg' (by omega), wu64]; omega
  have g3 : (0 : Int) ≤ ((i / 64 : Nat) : Int) := by omega
  have g4 : ((i / 64 : Nat) : Int) < 4 := by omega
  have g5 : (0 : Int) ≤ ((i % 64 : Nat) : Int) := by omega
  have hl := h.1
  have hd := h.dig.getD (i := i / 64) (by omega)
  have hk : i % 64 < 64 := by omega
  have hbit := V_bit h hi
  simp only [q01_with.m, q01_with.g, w, w2, g3, g4, g5, if_true, Int.toNat_natCast, shl_one hk]
  cases c with
  | true =>
    rw [or_bit' hd hk]
    have hr := (or_zero hd.1 hd.2 (Int.le_of_lt (pow_pos' (i % 64))) (pow_lt64 hk)).1
    rw [or_bit' hd hk] at hr
    obtain ⟨h1, h2⟩ := set_digit h hi hr
    exact ⟨_, rfl, h1, by rw [h2, hbit]; rfl⟩
  | false =>
    rw [andNot_bit hd hk]
    have hr : 0 ≤ ibits .andNot .u64 (q.getD (i / 64) 0) (2 ^ (i % 64)) ∧ ibits .andNot .u64 (q.getD (i / 64) 0) (2 ^ (i % 64)) < 18446744073709551616 := by
      show 0 ≤ IntKind.wrap .u64 _ ∧ IntKind.wrap .u64 _ < _
      rw [wu64]
      omega
    rw [andNot_bit hd hk] at hr
    have e : q.getD (i / 64) 0 - q.getD (i / 64) 0 / 2 ^ (i % 64) % 2 * 2 ^ (i % 64) = q.getD (i / 64) 0 + (- (q.getD (i / 64) 0 / 2 ^ (i % 64) % 2)) * 2 ^ (i % 64) := by rw [Int.neg_mul]; omega
    rw [e] at hr ⊢
    obtain ⟨h1, h2⟩ := set_digit h hi hr
    refine ⟨_, rfl, h1, ?_⟩
    rw [h2, hbit]
    simp [b2i]
theorem with_low {v c : Int} {i : Nat} (hc : c = 0 ∨ c = 1) : (v + (c - v / 2 ^ i % 2) * 2 ^ i) % 2 ^ i = v % 2 ^ i ∧ (v + (c - v / 2 ^ i % 2) * 2 ^ i) / 2 ^ i % 2 = c := by
  rw [Int.mul_comm, Int.add_mul_emod_self_left, Int.add_mul_ediv_left _ _ (Int.ne_of_gt (pow_pos' i))]
  refine ⟨rfl, ?_⟩
  omega
theorem b2i_or (c : Bool) : b2i c = 0 ∨ b2i c = 1 := by cases c <;> simp [b2i]
theorem shift_loop {n : Nat} {a : List Int} (ha : W4 a) (T : Int) (k : Int) (hk : -256 ≤ k ∧ k ≤ 256) (fill : Bool) (z : List Int)
    (hT1 : ∀ i : Nat, i < 256 → 0 ≤ (i : Int) - k → (i : Int) - k < 256 → T / 2 ^ i % 2 = V a / 2 ^ ((i : Int) - k).toNat % 2)
    (hT2 : ∀ i : Nat, i < 256 → ¬ (0 ≤ (i : Int) - k ∧ (i : Int) - k < 256) → T / 2 ^ i % 2 = b2i fill) :
    ∀ (r i fuel : Nat) (o : List Int), i + r = 256 → r + 1 ≤ fuel → W4 o → V o = T % 2 ^ i → q01_shift.l3_0.g (fun a0 a1 => (a0, a1)) n fuel (i : Int) fill k a o z = some (ofV T, z)
  | 0, i, fuel + 1, o, hi, hf, ho, hv => by
    have : i = 256 := by omega
    subst this
    show q01_shift.l3_0.r _ _ _ _ _ _ _ _ _ = _
    simp only [q01_shift.l3_0.r, show decide (((256 : Nat) : Int) < 256) = false from rfl, Bool.false_eq_true, if_false]
    rw [eq_ofV ho (x := T) (by rw [hv, B_pow])]
  | r + 1, i, fuel + 1, o, hi, hf, ho, hv => by
    have g1 : (decide ((i : Int) < 256)) = true := by simp; omega
    have w1 : IntKind.wrap .i64 ((i : Int) + 1) = ((i + 1 : Nat) : Int) := by rw [wi64]; omega
    have w2 : IntKind.wrap .i64 ((i : Int) - k) = (i : Int) - k := by rw [wi64]; omega
    have next : ∀ c : Bool, T / 2 ^ i % 2 = b2i c → ((q01_with.m n (o, (i : Int), c)).bind fun r12 => q01_shift.l3_0.g (fun a0 a1 => (a0, a1)) n fuel ((i + 1 : Nat) : Int) fill k a r12 z) = some (ofV T, z) := fun c hc => by
      obtain ⟨o', h1, h2, h3⟩ := q01_with_ok (n := n) ho (i := i) (by omega) c
      rw [h1]
      refine shift_loop ha T k hk fill z hT1 hT2 r (i + 1) fuel o' (by omega) (by omega) h2 ?_
      have hlt : V o < 2 ^ i := by rw [hv]; exact Int.emod_lt_of_pos _ (pow_pos' i)
      have h0 := (V_range ho).1
      have hz : V o / 2 ^ i = 0 := Int.ediv_eq_zero_of_lt h0 hlt
      rw [h3, hz, low_step, hc, hv]
      simp
    show q01_shift.l3_0.r _ _ _ _ _ _ _ _ _ = _
    simp only [q01_shift.l3_0.r, g1, w1, w2, if_true, bindO, decide_eq_true_eq]
    by_cases h1 : (i : Int) - k ≥ 0
    · by_cases h2 : (i : Int) - k < 256
      · have hb := q01_bit_ok (n := n) ha (i := ((i : Int) - k).toNat) (by omega)
        rw [show ((((i : Int) - k).toNat : Nat) : Int) = (i : Int) - k by omega] at hb
        simp only [h1, h2, if_true, hb, Option.bind_some]
        refine next _ ?_
        rw [hT1 i (by omega) h1 h2]
        unfold b2i
        split
        · rename_i h; simpa using h
        · rename_i h
          simp only [decide_eq_true_eq] at h
          omega
      · simp only [h1, h2, if_true, if_false]
        exact next fill (hT2 i (by omega) (by omega))
    · simp only [h1, if_false]
      exact next fill (hT2 i (by omega) (by omega))
theorem q01_shift_ok {n : Nat} (hn : 600 ≤ n) {a : List Int} (ha : W4 a) (T : Int) (k : Int) (hk : -256 ≤ k ∧ k ≤ 256) (fill : Bool)
    (hT1 : ∀ i : Nat, i < 256 → 0 ≤ (i : Int) - k → (i : Int) - k < 256 → T / 2 ^ i % 2 = V a / 2 ^ ((i : Int) - k).toNat % 2)
    (hT2 : ∀ i : Nat, i < 256 → ¬ (0 ≤ (i : Int) - k ∧ (i : Int) - k < 256) → T / 2 ^ i % 2 = b2i fill) : q01_shift.m n (a, k, fill) = some (ofV T) := by
  have := shift_loop (n := n) ha T k hk fill [0, 0, 0, 0] hT1 hT2 256 0 n [0, 0, 0, 0] (by omega) (by omega) zero_W4 (by rw [V_zero]; simp)
  simp only [q01_shift.m, q01_shift.g, q01_shift.l3_0.m]
  rw [show ((0 : Nat) : Int) = 0 from rfl] at this
  rw [this]
  rfl
def farV (a : List Int) : Nat := if V a ≤ 256 then (V a).toNat else 256
theorem farV_le (a : List Int) : farV a ≤ 256 := by unfold farV; split <;> omega
end Go.Abs.Pure
end
section
set_option linter.unusedVariables false
set_option linter.unusedSimpArgs false
set_option maxRecDepth 20000
namespace Go.Abs.Pure
open Go Go.Abs
def smallV (a : List Int) : Int × Bool := if V a < 18446744073709551616 then (V a, true) else (0, false)
theorem word_Small_ok {n : Nat} {a : List Int} (ha : W4 a) : word_Small.m n a = some (smallV a) := by
  obtain ⟨a, b, c, d, rfl, ha, hb, hc, hd⟩ := ha.split
  simp only [word_Small.m, word_Small.g, List.getD_cons_zero, List.getD_cons_succ, smallV]
  have o1 := or_zero hb.1 hb.2 hc.1 hc.2
  have o2 := or_zero o1.1.1 o1.1.2 hd.1 hd.2
  rw [o1.2] at o2
  generalize ibits .or .u64 (ibits .or .u64 b c) d = x at *
  by_cases h : V [a, b, c, d] < 18446744073709551616
  · have : x = 0 := o2.2.2 (by simp only [V] at h; omega)
    subst this
    rw [if_pos h]
    have : V [a, b, c, d] = a := by simp only [V] at h ⊢; omega
    rw [this]
    rfl
  · have : x ≠ 0 := fun e => by
      have := o2.2.1 e
      simp only [V] at h
      omega
    rw [if_neg h]
    simp [this]
theorem q01_Small_ok {n : Nat} {a : List Int} (ha : W4 a) : q01_Small.m n a = some (smallV a) := by
  obtain ⟨a, b, c, d, rfl, ha, hb, hc, hd⟩ := ha.split
  simp only [q01_Small.m, q01_Small.g, List.getD_cons_zero, List.getD_cons_succ, smallV, bne_iff_ne, ne_eq]
  by_cases h : V [a, b, c, d] < 18446744073709551616
  · have h1 : b = 0 ∧ c = 0 ∧ d = 0 := by simp only [V] at h; omega
    obtain ⟨rfl, rfl, rfl⟩ := h1
    rw [if_pos h]
    have : V [a, 0, 0, 0] = a := by simp only [V]; omega
    rw [this]
    simp
  · rw [if_neg h]
    by_cases h1 : b = 0
    · by_cases h2 : c = 0
      · have h3 : d ≠ 0 := fun e => by simp only [V] at h; omega
        simp [h1, h2, h3]
      · simp [h1, h2]
    · simp [h1]
theorem word_far_ok {n : Nat} {a : List Int} (ha : W4 a) : word_far.m n a = some (farV a : Int) := by
  have ra := V_range ha
  simp only [word_far.m, word_far.g, word_Small_ok ha, bindO, Option.bind_some, smallV, farV]
  by_cases h : V a < 18446744073709551616
  · simp only [h, if_true, Bool.not_true, Bool.false_eq_true, if_false]
    by_cases h2 : V a ≤ 256
    · rw [if_neg (by omega), if_pos h2, Int.toNat_of_nonneg ra.1]
    · rw [if_pos (by omega), if_neg h2]; rfl
  · simp only [h, if_false, Bool.not_false, if_true]
    rw [if_neg (by omega)]; rfl
theorem q01_far_ok {n : Nat} {a : List Int} (ha : W4 a) : q01_far.m n a = some (farV a : Int) := by
  have ra := V_range ha
  simp only [q01_far.m, q01_far.g, q01_Small_ok ha, bindO, Option.bind_some, smallV, farV, decide_eq_true_eq]
  by_cases h : V a < 18446744073709551616
  · simp only [h, if_true, Bool.not_true, Bool.false_eq_true, if_false]
    by_cases h2 : V a ≤ 256
    · rw [if_neg (by omega), if_pos h2, wi64_id (by omega) (by omega), Int.toNat_of_nonneg ra.1]
    · rw [if_pos (by omega), if_neg h2]; rfl
  · simp only [h, if_false, Bool.not_false, if_true]
    rw [if_neg (by omega)]; rfl
theorem q01_Shl_ok {n : Nat} (hn : 600 ≤ n) {k a : List Int} (hk : W4 k) (ha : W4 a) : q01_Shl.m n (k, a) = some (ofV (V a * 2 ^ farV k)) := by
  have hf := farV_le k
  simp only [q01_Shl.m, q01_Shl.g, q01_far_ok hk, bindO, Option.bind_some]
  rw [q01_shift_ok hn ha (V a * 2 ^ farV k) (farV k : Int) (by omega) false (fun i hi h1 h2 => ?_) fun i hi h => ?_]
  · rfl
  · rw [show ((i : Int) - (farV k : Int)).toNat = i - farV k by omega, pow_split (show farV k ≤ i by omega), Int.mul_comm (V a), Int.mul_ediv_mul_of_pos _ _ (pow_pos' _)]
  · have hlt : i < farV k := by omega
    have := bit_add_mul 0 (V a) hlt
    rw [Int.zero_add, Int.mul_comm] at this
    rw [this]
    simp [b2i]
theorem q01_Shr_ok {n : Nat} (hn : 600 ≤ n) {k a : List Int} (hk : W4 k) (ha : W4 a) : q01_Shr.m n (k, a) = some (ofV (V a / 2 ^ farV k)) := by
  have hf := farV_le k
  have ra := V_range ha
  simp only [q01_Shr.m, q01_Shr.g, q01_far_ok hk, bindO, Option.bind_some]
  rw [wi64_id (by omega) (by omega), Int.zero_sub]
  rw [q01_shift_ok hn ha (V a / 2 ^ farV k) (-(farV k : Int)) (by omega) false (fun i hi h1 h2 => ?_) fun i hi h => ?_]
  · rfl
  · rw [show ((i : Int) - -(farV k : Int)).toNat = farV k + i by omega, div_pow]
  · rw [← div_pow]
    have hge : 256 ≤ farV k + i := by omega
    have : V a < 2 ^ (farV k + i) := by
      rw [pow_split hge, ← B_pow]
      have h1 := Int.mul_le_mul_of_nonneg_left (show (1 : Int) ≤ 2 ^ (farV k + i - 256) by have := pow_pos' (farV k + i - 256); omega) (show 0 ≤ B by simp only [B]; omega)
      omega
    rw [Int.ediv_eq_zero_of_lt ra.1 this]
    rfl
theorem pow_le_pow' {j k : Nat} (h : j ≤ k) : (2 : Int) ^ j ≤ 2 ^ k := by
  rw [pow_split h]
  have h1 := Int.mul_le_mul_of_nonneg_left (show (1 : Int) ≤ 2 ^ (k - j) by have := pow_pos' (k - j); omega) (Int.le_of_lt (pow_pos' j))
  omega
end Go.Abs.Pure
end
section
set_option linter.unusedVariables false
set_option linter.unusedSimpArgs false
set_option maxRecDepth 20000
namespace Go.Abs.Pure
open Go Go.Abs
theorem or_apart {x y : Int} {s : Nat} (hs : s ≤ 64) (hx : 0 ≤ x ∧ x * 2 ^ s < 18446744073709551616) (hy : 0 ≤ y ∧ y < 2 ^ s) : ibits .or .u64 (x * 2 ^ s) y = x * 2 ^ s + y := by
  obtain ⟨a, rfl⟩ := Int.eq_ofNat_of_zero_le hx.1
  obtain ⟨b, rfl⟩ := Int.eq_ofNat_of_zero_le hy.1
  have hp : ((2 : Int) ^ s) = ((2 ^ s : Nat) : Int) := by rw [Int.natCast_pow]; rfl
  have h1 : b < 2 ^ s := by have := hy.2; rw [hp] at this; exact Int.ofNat_lt.1 this
  have h2 : (a : Int) * 2 ^ s = ((a * 2 ^ s : Nat) : Int) := by rw [hp, Int.natCast_mul]
  have hle : 2 ^ s ≤ 2 ^ 64 := Nat.pow_le_pow_right (by omega) hs
  have hlt : a * 2 ^ s < 2 ^ 64 := by
    have := hx.2
    rw [h2] at this
    have e : (18446744073709551616 : Int) = ((2 ^ 64 : Nat) : Int) := rfl
    rw [e] at this
    exact Int.ofNat_lt.1 this
  rw [h2, or_u64 (Int.natCast_nonneg _) (by omega) (Int.natCast_nonneg _) (by omega), Int.toNat_natCast, Int.toNat_natCast, ← Nat.shiftLeft_eq, ← Nat.shiftLeft_add_eq_or_of_lt h1]
  rw [Nat.shiftLeft_eq, Int.natCast_add]
theorem or_apart' {x y : Int} {s : Nat} (hs : s ≤ 64) (hx : 0 ≤ x ∧ x * 2 ^ s < 18446744073709551616) (hy : 0 ≤ y ∧ y < 2 ^ s) : ibits .or .u64 y (x * 2 ^ s) = x * 2 ^ s + y := by
  rw [← or_apart hs hx hy]
  show IntKind.wrap .u64 ((BitVec.ofInt 64 y ||| BitVec.ofInt 64 (x * 2 ^ s)).toNat : Nat) = IntKind.wrap .u64 ((BitVec.ofInt 64 (x * 2 ^ s) ||| BitVec.ofInt 64 y).toNat : Nat)
  rw [BitVec.or_comm]
theorem left_part (x : Int) {s : Nat} (hs : s ≤ 64) : x * 2 ^ s % 18446744073709551616 = x % 2 ^ (64 - s) * 2 ^ s ∧ x * 2 ^ s / 18446744073709551616 = x / 2 ^ (64 - s) := by
  rw [show (18446744073709551616 : Int) = 2 ^ (64 - s) * 2 ^ s by rw [← Int.pow_add, show 64 - s + s = 64 by omega]; rfl]
  rw [Int.mul_comm x, Int.mul_comm (2 ^ (64 - s))]
  refine ⟨?_, Int.mul_ediv_mul_of_pos _ _ (pow_pos' s)⟩
  rw [Int.mul_emod_mul_of_pos _ _ (pow_pos' s), Int.mul_comm]
theorem pow_two_parts {s : Nat} (hs : s ≤ 64) : (2 : Int) ^ (64 - s) * 2 ^ s = 18446744073709551616 := by rw [← Int.pow_add, show 64 - s + s = 64 by omega]; rfl
def loP (s : Nat) (x : Int) : Int := x * 2 ^ s % 18446744073709551616
def hiP (s : Nat) (x : Int) : Int := x * 2 ^ s / 18446744073709551616
theorem hi_lt {s : Nat} {x : Int} (hs : s ≤ 64) (hx : 0 ≤ x ∧ x < 18446744073709551616) : 0 ≤ hiP s x ∧ hiP s x < 2 ^ s := by
  have p := pow_pos' s
  refine ⟨Int.ediv_nonneg (Int.mul_nonneg hx.1 (Int.le_of_lt p)) (by omega), Int.ediv_lt_of_lt_mul (by omega) ?_⟩
  rw [Int.mul_comm]
  exact Int.mul_lt_mul_of_pos_left hx.2 p
theorem lo_hi {s : Nat} (hs : s ≤ 64) {x y : Int} (hx : 0 ≤ x ∧ x < 18446744073709551616) (hy : 0 ≤ y ∧ y < 18446744073709551616) : ibits .or .u64 (loP s x) (ishr .u64 y ((64 - s : Nat) : Int)) = loP s x + hiP s y ∧ 0 ≤ loP s x + hiP s y ∧ loP s x + hiP s y < 18446744073709551616 := by
  have hlo : loP s x = x % 2 ^ (64 - s) * 2 ^ s := (left_part x hs).1
  have hhi : hiP s y = y / 2 ^ (64 - s) := (left_part y hs).2
  have hl := hi_lt hs hy
  have b0 : 0 ≤ loP s x ∧ loP s x < 18446744073709551616 := ⟨Int.emod_nonneg _ (by omega), Int.emod_lt_of_pos _ (by omega)⟩
  have e1 := Int.emod_nonneg x (Int.ne_of_gt (pow_pos' (64 - s)))
  have e2 := Int.emod_lt_of_pos x (pow_pos' (64 - s))
  rw [ishr_ofNat .u64 y (64 - s) (by simp [IntKind.bits]), ← hhi]
  rw [hlo] at b0 ⊢
  rw [or_apart hs ⟨e1, b0.2⟩ hl]
  refine ⟨rfl, by omega, ?_⟩
  have h3 := Int.mul_le_mul_of_nonneg_right (show x % 2 ^ (64 - s) ≤ 2 ^ (64 - s) - 1 by omega) (Int.le_of_lt (pow_pos' s))
  rw [Int.sub_mul, pow_two_parts hs] at h3
  omega
theorem shl_lo {s : Nat} (hs : s ≤ 64) (x : Int) : ishl .u64 x (s : Int) = loP s x := by
  rw [ishl_ofNat .u64 x s (by simp [IntKind.bits]; omega), wu64]; rfl
def leftD (k : Nat) (a : List Int) (i : Nat) : Int :=
  if i < k / 64 then 0 else if i = k / 64 then loP (k % 64) (a.getD 0 0) else loP (k % 64) (a.getD (i - k / 64) 0) + hiP (k % 64) (a.getD (i - k / 64 - 1) 0)
theorem set_same {l : List Int} {i : Nat} (h : l.getD i 0 = 0) (hi : i < l.length) : l = l.set i 0 := by
  have : l[i] = 0 := by rw [List.getD_eq_getElem?_getD, List.getElem?_eq_getElem hi] at h; simpa using h
  rw [← this, List.set_getElem_self]
theorem Shl_step {α : Type} (mk : List Int → List Int → α) (n : Nat) (rc : Int → Int → List Int → List Int → List Int → Option α) {k : Nat} (hk : k ≤ 256) {a o : List Int} (ha : W4 a) (o' : List Int) {i : Nat} (hi : i < 4) (hl : o.length = 4) (ho : o.getD i 0 = 0) :
    word_Shl.l4_0.r mk n rc (i : Int) (k : Int) a o o' = rc ((i + 1 : Nat) : Int) (k : Int) a (o.set i (leftD k a i)) o' := by
  have hal := ha.1
  have h1 : (decide ((i : Int) < 4)) = true := by simp; omega
  have g1 : (0 : Int) ≤ (i : Int) := by omega
  have g2 : (i : Int) < 4 := by omega
  have w : IntKind.wrap .i64 ((i : Int) - IntKind.wrap .i64 (IntKind.wrap .u64 (Int.tdiv (k : Int) 64))) = (i : Int) - ((k / 64 : Nat) : Int) := by rw [tdiv_nonneg' (by omega), wu64, wi64, wi64]; omega
  have w2 : Int.tmod (k : Int) 64 = ((k % 64 : Nat) : Int) := by rw [tmod_nonneg' (by omega)]; omega
  have w1 : IntKind.wrap .i64 ((i : Int) + 1) = ((i + 1 : Nat) : Int) := by rw [wi64]; omega
  have w3 : IntKind.wrap .u64 (64 - ((k % 64 : Nat) : Int)) = ((64 - k % 64 : Nat) : Int) := by rw [wu64]; omega
  have w4 : IntKind.wrap .i64 ((i : Int) - ((k / 64 : Nat) : Int) - 1) = (i : Int) - ((k / 64 : Nat) : Int) - 1 := by rw [wi64]; omega
  have g5 : (0 : Int) ≤ ((k % 64 : Nat) : Int) := by omega
  have g6 : (0 : Int) ≤ ((64 - k % 64 : Nat) : Int) := by omega
  simp only [word_Shl.l4_0.r, h1, g1, g2, w, w1, w2, w3, w4, g5, g6, if_true, eq_self_iff_true, Int.toNat_natCast, decide_eq_true_eq, shl_lo (show k % 64 ≤ 64 by omega)]
  unfold leftD
  by_cases c1 : i < k / 64
  · have d1 : ¬ ((i : Int) - ((k / 64 : Nat) : Int) ≥ 0) := by omega
    have d2 : ¬ ((i : Int) - ((k / 64 : Nat) : Int) > 0) := by omega
    simp only [c1, d1, d2, if_true, if_false]
    rw [← set_same ho (by omega)]
  · have d1 : ((i : Int) - ((k / 64 : Nat) : Int) ≥ 0) := by omega
    have d3 : (0 : Int) ≤ (i : Int) - ((k / 64 : Nat) : Int) := by omega
    have d4 : (i : Int) - ((k / 64 : Nat) : Int) < 4 := by omega
    have t1 : ((i : Int) - ((k / 64 : Nat) : Int)).toNat = i - k / 64 := by omega
    by_cases c2 : i = k / 64
    · have d2 : ¬ ((i : Int) - ((k / 64 : Nat) : Int) > 0) := by omega
      simp only [c1, c2, d1, d2, d3, d4, t1, if_true, if_false]
      simp
    · have d2 : ((i : Int) - ((k / 64 : Nat) : Int) > 0) := by omega
      have d5 : (0 : Int) ≤ (i : Int) - ((k / 64 : Nat) : Int) - 1 := by omega
      have d6 : (i : Int) - ((k / 64 : Nat) : Int) - 1 < 4 := by omega
      have t2 : ((i : Int) - ((k / 64 : Nat) : Int) - 1).toNat = i - k / 64 - 1 := by omega
      simp only [c1, c2, d1, d2, d3, d4, d5, d6, t1, t2, if_true, if_false]
      by_cases c3 : k % 64 = 0
      · have e : ((((k % 64 : Nat) : Int)) != 0) = false := by rw [c3]; rfl
        simp only [e, Bool.false_eq_true, if_false]
        have hb := ha.dig.getD (i := i - k / 64 - 1) (by omega)
        have : hiP (k % 64) (a.getD (i - k / 64 - 1) 0) = 0 := by
          unfold hiP
          rw [c3, Int.pow_zero, Int.mul_one]
          exact Int.ediv_eq_zero_of_lt hb.1 hb.2
        rw [this, Int.add_zero]
      · have e : ((((k % 64 : Nat) : Int)) != 0) = true := by simp; omega
        simp only [e, if_true]
        have hs : ∀ v : Int, (o.set i v).getD i 0 = v := fun v => by simp [List.getD_eq_getElem?_getD, show i < o.length by omega]
        rw [hs, (lo_hi (show k % 64 ≤ 64 by omega) (ha.dig.getD (i := i - k / 64) (by omega)) (ha.dig.getD (i := i - k / 64 - 1) (by omega))).1]
        simp
theorem word_Shl_ok {n : Nat} (hn : 600 ≤ n) {k a : List Int} (hk : W4 k) (ha : W4 a) : word_Shl.m n (k, a) = some (ofV (V a * 2 ^ farV k)) := by
  have hf := farV_le k
  obtain ⟨m, rfl⟩ : ∃ m, n = m + 5 := ⟨n - 5, by omega⟩
  simp only [word_Shl.m, word_Shl.g, word_far_ok hk, bindO, Option.bind_some, word_Shl.l4_0.m]
  generalize farV k = j at *
  have run : word_Shl.l4_0.g (fun a0 a1 => (a0, a1)) (m + 5) (m + 5) 0 (j : Int) a [0, 0, 0, 0] [0, 0, 0, 0] = some ([leftD j a 0, leftD j a 1, leftD j a 2, leftD j a 3], [0, 0, 0, 0]) := by
    refine (Shl_step _ _ _ hf ha _ (i := 0) (by omega) rfl rfl).trans ?_
    refine (Shl_step _ _ _ hf ha _ (i := 1) (by omega) rfl rfl).trans ?_
    refine (Shl_step _ _ _ hf ha _ (i := 2) (by omega) rfl rfl).trans ?_
    refine (Shl_step _ _ _ hf ha _ (i := 3) (by omega) rfl rfl).trans ?_
    rfl
  rw [run]
  simp only [Option.bind_some]
  congr 1
  have hs : j % 64 ≤ 64 := by omega
  have hq : j / 64 ≤ 4 := by omega
  have hj : j = j % 64 + 64 * (j / 64) := by omega
  have hT : V a * 2 ^ j = V a * 2 ^ (j % 64) * 2 ^ (64 * (j / 64)) := by conv => lhs; rw [hj, Int.pow_add, ← Int.mul_assoc]
  rw [hT]
  obtain ⟨a0, a1, a2, a3, rfl, h0, h1, h2, h3⟩ := ha.split
  have b01 := (lo_hi hs h1 h0).2
  have b12 := (lo_hi hs h2 h1).2
  have b23 := (lo_hi hs h3 h2).2
  have bl : ∀ x, 0 ≤ loP (j % 64) x ∧ loP (j % 64) x < 18446744073709551616 := fun x => ⟨Int.emod_nonneg _ (by omega), Int.emod_lt_of_pos _ (by omega)⟩
  have ex : ∀ x, x * 2 ^ (j % 64) = loP (j % 64) x + 18446744073709551616 * hiP (j % 64) x := fun x => by
    have := Int.mul_ediv_add_emod (x * 2 ^ (j % 64)) 18446744073709551616
    unfold loP hiP; omega
  have hV : V [a0, a1, a2, a3] * 2 ^ (j % 64) = V [a0 * 2 ^ (j % 64), a1 * 2 ^ (j % 64), a2 * 2 ^ (j % 64), a3 * 2 ^ (j % 64)] := by
    simp only [V, Int.add_mul]
    rw [Int.mul_right_comm a1, Int.mul_right_comm a2, Int.mul_right_comm a3]
  rw [hV, ex a0, ex a1, ex a2, ex a3]
  have l0 := bl a0
  have l1 := bl a1
  have l2 := bl a2
  have l3 := bl a3
  clear run hT ex bl hV h0 h1 h2 h3
  have hz : (0 : Int) ≤ 0 ∧ (0 : Int) < 18446744073709551616 := by omega
  rcases (show j / 64 = 0 ∨ j / 64 = 1 ∨ j / 64 = 2 ∨ j / 64 = 3 ∨ j / 64 = 4 by omega) with h | h | h | h | h <;>
    simp only [leftD, h, Nat.reduceSub, Nat.reduceLT, Nat.reduceEqDiff, Nat.lt_irrefl, if_true, if_false, List.getD_cons_zero, List.getD_cons_succ, reduceCtorEq, Nat.reduceMul] <;> clear hj hq hf h <;>
    generalize loP (j % 64) a0 = u0 at * <;>
    generalize loP (j % 64) a1 = u1 at * <;>
    generalize loP (j % 64) a2 = u2 at * <;>
    generalize loP (j % 64) a3 = u3 at * <;>
    generalize hiP (j % 64) a0 = v0 at * <;>
    generalize hiP (j % 64) a1 = v1 at * <;>
    generalize hiP (j % 64) a2 = v2 at * <;>
    generalize hiP (j % 64) a3 = v3 at *
  · refine digits v3 l0 b01 b12 b23 ?_
    simp only [V, B, Nat.mul_zero, Int.pow_zero]
    simp
    omega
  · refine digits (v3 * 18446744073709551616 + u3 + v2) hz l0 b01 b12 ?_
    simp only [V, B, Nat.mul_one, show (2 : Int) ^ 64 = 18446744073709551616 from rfl]
    simp
    omega
  · refine digits (v3 * 340282366920938463463374607431768211456 + (u3 + v2) * 18446744073709551616 + u2 + v1) hz hz l0 b01 ?_
    simp only [V, B, Nat.reduceMul, show (2 : Int) ^ 128 = 340282366920938463463374607431768211456 from rfl]
    simp
    omega
  · refine digits (v3 * 6277101735386680763835789423207666416102355444464034512896 + (u3 + v2) * 340282366920938463463374607431768211456 + (u2 + v1) * 18446744073709551616 + u1 + v0) hz hz hz l0 ?_
    simp only [V, B, Nat.reduceMul, show (2 : Int) ^ 192 = 6277101735386680763835789423207666416102355444464034512896 from rfl]
    simp
    omega
  · refine digits (u0 + (u1 + v0) * 18446744073709551616 + (u2 + v1) * 340282366920938463463374607431768211456 + (u3 + v2) * 6277101735386680763835789423207666416102355444464034512896 + v3 * 115792089237316195423570985008687907853269984665640564039457584007913129639936) hz hz hz hz ?_
    simp only [V, B, Nat.reduceMul, show (2 : Int) ^ 256 = 115792089237316195423570985008687907853269984665640564039457584007913129639936 from rfl]
    simp
    omega
def atP (f : Int) (a : List Int) (i : Nat) : Int := if 3 < i then f else a.getD i 0
def rightD (k : Nat) (f : Int) (a : List Int) (i : Nat) : Int := atP f a (i + k / 64) / 2 ^ (k % 64) + atP f a (i + k / 64 + 1) % 2 ^ (k % 64) * 2 ^ (64 - k % 64)
theorem rightS1_ok {n : Nat} {f : Int} {a : List Int} (ha : W4 a) (i : Nat) : word_rightS1.m n ((i : Int), f, a) = some (atP f a i) := by
  simp only [word_rightS1.m, word_rightS1.g, atP, decide_eq_true_eq]
  by_cases h : 3 < i
  · rw [if_pos (by omega), if_pos h]
  · rw [if_neg (by omega), if_neg h, if_pos (by omega), if_pos (by omega), Int.toNat_natCast]
theorem atP_range {f : Int} (hf : 0 ≤ f ∧ f < 18446744073709551616) {a : List Int} (ha : W4 a) (i : Nat) : 0 ≤ atP f a i ∧ atP f a i < 18446744073709551616 := by
  unfold atP
  split
  · exact hf
  · exact ha.dig.getD (by rw [ha.1]; omega)
theorem right_or {s : Nat} (hs : s ≤ 64) (h0 : s ≠ 0) {x y : Int} (hx : 0 ≤ x ∧ x < 18446744073709551616) : ibits .or .u64 (x / 2 ^ s) (ishl .u64 y ((64 - s : Nat) : Int)) = x / 2 ^ s + y % 2 ^ s * 2 ^ (64 - s) := by
  have e := (left_part y (s := 64 - s) (by omega)).1
  rw [show 64 - (64 - s) = s by omega] at e
  rw [ishl_ofNat .u64 y (64 - s) (by simp [IntKind.bits]), wu64, e]
  have m0 := Int.emod_nonneg y (Int.ne_of_gt (pow_pos' s))
  have m1 := Int.emod_lt_of_pos y (pow_pos' s)
  have h3 := Int.mul_le_mul_of_nonneg_right (show y % 2 ^ s ≤ 2 ^ s - 1 by omega) (Int.le_of_lt (pow_pos' (64 - s)))
  have hp : (2 : Int) ^ s * 2 ^ (64 - s) = 18446744073709551616 := by rw [Int.mul_comm]; exact pow_two_parts hs
  rw [Int.sub_mul, hp] at h3
  have p2 := pow_pos' (64 - s)
  rw [or_apart' (by omega) ⟨m0, by omega⟩ ⟨Int.ediv_nonneg hx.1 (Int.le_of_lt (pow_pos' s)), Int.ediv_lt_of_lt_mul (pow_pos' s) (by rw [pow_two_parts hs]; exact hx.2)⟩]
  omega
theorem right_range {s : Nat} (hs : s ≤ 64) {x y : Int} (hx : 0 ≤ x ∧ x < 18446744073709551616) : 0 ≤ x / 2 ^ s + y % 2 ^ s * 2 ^ (64 - s) ∧ x / 2 ^ s + y % 2 ^ s * 2 ^ (64 - s) < 18446744073709551616 := by
  have m0 := Int.emod_nonneg y (Int.ne_of_gt (pow_pos' s))
  have m1 := Int.emod_lt_of_pos y (pow_pos' s)
  have h3 := Int.mul_le_mul_of_nonneg_right (show y % 2 ^ s ≤ 2 ^ s - 1 by omega) (Int.le_of_lt (pow_pos' (64 - s)))
  have hp : (2 : Int) ^ s * 2 ^ (64 - s) = 18446744073709551616 := by rw [Int.mul_comm]; exact pow_two_parts hs
  rw [Int.sub_mul, hp] at h3
  have p2 := pow_pos' (64 - s)
  have h4 := Int.mul_nonneg m0 (Int.le_of_lt p2)
  have h5 := Int.ediv_nonneg hx.1 (Int.le_of_lt (pow_pos' s))
  have h6 : x / 2 ^ s < 2 ^ (64 - s) := Int.ediv_lt_of_lt_mul (pow_pos' s) (by rw [pow_two_parts hs]; exact hx.2)
  omega
theorem right_step {α : Type} (mk : List Int → List Int → α) (n : Nat) (rc : Int → Int → Int → List Int → List Int → List Int → Option α) {k : Nat} (hk : k ≤ 256) {f : Int} (hf : 0 ≤ f ∧ f < 18446744073709551616) {a o : List Int} (ha : W4 a) (o' : List Int) {i : Nat} (hi : i < 4) (hl : o.length = 4) :
    word_right.l4_0.r mk n rc (i : Int) (k : Int) f a o o' = rc ((i + 1 : Nat) : Int) (k : Int) f a (o.set i (rightD k f a i)) o' := by
  have h1 : (decide ((i : Int) < 4)) = true := by simp; omega
  have g1 : (0 : Int) ≤ (i : Int) := by omega
  have g2 : (i : Int) < 4 := by omega
  have w : IntKind.wrap .i64 ((i : Int) + IntKind.wrap .i64 (IntKind.wrap .u64 (Int.tdiv (k : Int) 64))) = ((i + k / 64 : Nat) : Int) := by rw [tdiv_nonneg' (by omega), wu64, wi64, wi64]; omega
  have w2 : Int.tmod (k : Int) 64 = ((k % 64 : Nat) : Int) := by rw [tmod_nonneg' (by omega)]; omega
  have w1 : IntKind.wrap .i64 ((i : Int) + 1) = ((i + 1 : Nat) : Int) := by rw [wi64]; omega
  have w3 : IntKind.wrap .u64 (64 - ((k % 64 : Nat) : Int)) = ((64 - k % 64 : Nat) : Int) := by rw [wu64]; omega
  have w4 : IntKind.wrap .i64 (((i + k / 64 : Nat) : Int) + 1) = ((i + k / 64 + 1 : Nat) : Int) := by rw [wi64]; omega
  have g5 : (0 : Int) ≤ ((k % 64 : Nat) : Int) := by omega
  have g6 : (0 : Int) ≤ ((64 - k % 64 : Nat) : Int) := by omega
  have sh : ∀ x : Int, ishr .u64 x ((k % 64 : Nat) : Int) = x / 2 ^ (k % 64) := fun x => ishr_ofNat .u64 x (k % 64) (by simp [IntKind.bits]; omega)
  simp only [word_right.l4_0.r, h1, g1, g2, w, w1, w2, w3, w4, g5, g6, if_true, eq_self_iff_true, Int.toNat_natCast, rightS1_ok ha, bindO, Option.bind_some, sh]
  unfold rightD
  by_cases c3 : k % 64 = 0
  · have e : ((((k % 64 : Nat) : Int)) != 0) = false := by rw [c3]; rfl
    simp only [e, Bool.false_eq_true, if_false]
    rw [c3]
    simp
  · have e : ((((k % 64 : Nat) : Int)) != 0) = true := by simp; omega
    have hs : ∀ v : Int, (o.set i v).getD i 0 = v := fun v => by simp [List.getD_eq_getElem?_getD, show i < o.length by omega]
    simp only [e, if_true, hs]
    rw [right_or (by omega) c3 (atP_range hf ha _)]
    simp
theorem word_right_ok {n : Nat} (hn : 600 ≤ n) {k : Nat} (hk : k ≤ 256) {a : List Int} (ha : W4 a) {f f' : Int} (hf : (f = 0 ∧ f' = 0) ∨ (f = -1 ∧ f' = 18446744073709551615)) :
    word_right.m n ((k : Int), a, f') = some (ofV ((V a + B * f) / 2 ^ k)) := by
  obtain ⟨m, rfl⟩ : ∃ m, n = m + 5 := ⟨n - 5, by omega⟩
  have hf' : 0 ≤ f' ∧ f' < 18446744073709551616 := by omega
  simp only [word_right.m, word_right.g, word_right.l4_0.m]
  have run : word_right.l4_0.g (fun a0 a1 => (a0, a1)) (m + 5) (m + 5) 0 (k : Int) f' a [0, 0, 0, 0] [0, 0, 0, 0] = some ([rightD k f' a 0, rightD k f' a 1, rightD k f' a 2, rightD k f' a 3], [0, 0, 0, 0]) := by
    refine (right_step _ _ _ hk hf' ha _ (i := 0) (by omega) rfl).trans ?_
    refine (right_step _ _ _ hk hf' ha _ (i := 1) (by omega) rfl).trans ?_
    refine (right_step _ _ _ hk hf' ha _ (i := 2) (by omega) rfl).trans ?_
    refine (right_step _ _ _ hk hf' ha _ (i := 3) (by omega) rfl).trans ?_
    rfl
  rw [run]
  simp only [bindO, Option.bind_some]
  congr 1
  have hs : k % 64 ≤ 64 := by omega
  have hj : k = k % 64 + 64 * (k / 64) := by omega
  have hT : (V a + B * f) / 2 ^ k = (V a + B * f) / 2 ^ (k % 64) / 2 ^ (64 * (k / 64)) := by conv => lhs; rw [hj, div_pow]
  rw [hT]
  have rr : ∀ i, 0 ≤ rightD k f' a i ∧ rightD k f' a i < 18446744073709551616 := fun i => right_range hs (atP_range hf' ha _)
  -- the parts that are shifted by less than one part
  have hfill : f' / 2 ^ (k % 64) + f' % 2 ^ (k % 64) * 2 ^ (64 - k % 64) = f' := by
    rcases hf with ⟨_, rfl⟩ | ⟨_, rfl⟩
    · simp
    · have p1 := pow_pos' (k % 64)
      have p2 := pow_pos' (64 - k % 64)
      have hp := pow_two_parts hs
      have e1 : (18446744073709551615 : Int) = (2 ^ (k % 64) - 1) + 2 ^ (k % 64) * (2 ^ (64 - k % 64) - 1) := by
        rw [Int.mul_sub, Int.mul_comm (2 ^ (k % 64)), hp]; omega
      have e2 : (18446744073709551615 : Int) / 2 ^ (k % 64) = 2 ^ (64 - k % 64) - 1 := by
        conv => lhs; rw [e1]
        rw [Int.add_mul_ediv_left _ _ (Int.ne_of_gt p1), Int.ediv_eq_zero_of_lt (by omega) (by omega)]
        omega
      have e3 : (18446744073709551615 : Int) % 2 ^ (k % 64) = 2 ^ (k % 64) - 1 := by
        conv => lhs; rw [e1]
        rw [Int.add_mul_emod_self_left, Int.emod_eq_of_lt (by omega) (by omega)]
      rw [e2, e3, Int.sub_mul, Int.mul_comm (2 ^ (k % 64)), hp]
      omega
  have hff : f' = f + 18446744073709551616 * (- f) := by omega
  obtain ⟨a0, a1, a2, a3, rfl, h0, h1, h2, h3⟩ := ha.split
  have hY : (V [a0, a1, a2, a3] + B * f) / 2 ^ (k % 64) = V [a0 / 2 ^ (k % 64) + a1 % 2 ^ (k % 64) * 2 ^ (64 - k % 64), a1 / 2 ^ (k % 64) + a2 % 2 ^ (k % 64) * 2 ^ (64 - k % 64), a2 / 2 ^ (k % 64) + a3 % 2 ^ (k % 64) * 2 ^ (64 - k % 64), a3 / 2 ^ (k % 64) + f' % 2 ^ (k % 64) * 2 ^ (64 - k % 64)] + B * f := by
    have p1 := pow_pos' (k % 64)
    have hp := pow_two_parts hs
    have m0 := Int.emod_nonneg a0 (Int.ne_of_gt p1)
    have m1 := Int.emod_lt_of_pos a0 p1
    have ff : f' = 2 ^ (k % 64) * f + (f' - 2 ^ (k % 64) * f) := by omega
    have fm : f' % 2 ^ (k % 64) * 2 ^ (64 - k % 64) * 2 ^ (k % 64) = 18446744073709551616 * (f' % 2 ^ (k % 64)) := by rw [Int.mul_assoc, hp, Int.mul_comm]
    have key : V [a0, a1, a2, a3] + B * f = a0 % 2 ^ (k % 64) + 2 ^ (k % 64) * (V [a0 / 2 ^ (k % 64) + a1 % 2 ^ (k % 64) * 2 ^ (64 - k % 64), a1 / 2 ^ (k % 64) + a2 % 2 ^ (k % 64) * 2 ^ (64 - k % 64), a2 / 2 ^ (k % 64) + a3 % 2 ^ (k % 64) * 2 ^ (64 - k % 64), a3 / 2 ^ (k % 64) + f' % 2 ^ (k % 64) * 2 ^ (64 - k % 64)] + B * f) := by
      have d0 := Int.mul_ediv_add_emod a0 (2 ^ (k % 64))
      have d1 := Int.mul_ediv_add_emod a1 (2 ^ (k % 64))
      have d2 := Int.mul_ediv_add_emod a2 (2 ^ (k % 64))
      have d3 := Int.mul_ediv_add_emod a3 (2 ^ (k % 64))
      have d4 := Int.mul_ediv_add_emod f' (2 ^ (k % 64))
      have e3 : f' % 2 ^ (k % 64) = 2 ^ (k % 64) * (-f) + f := by
        rcases hf with ⟨rfl, rfl⟩ | ⟨rfl, rfl⟩
        · simp
        · have e1 : (18446744073709551615 : Int) = (2 ^ (k % 64) - 1) + 2 ^ (k % 64) * (2 ^ (64 - k % 64) - 1) := by
            rw [Int.mul_sub, Int.mul_comm (2 ^ (k % 64)), hp]; omega
          conv => lhs; rw [e1]
          rw [Int.add_mul_emod_self_left, Int.emod_eq_of_lt (by omega) (by omega)]
          omega
      simp only [V, B]
      generalize a0 / 2 ^ (k % 64) = x0 at *
      generalize a1 / 2 ^ (k % 64) = x1 at *
      generalize a2 / 2 ^ (k % 64) = x2 at *
      generalize a3 / 2 ^ (k % 64) = x3 at *
      generalize a0 % 2 ^ (k % 64) = y0 at *
      generalize a1 % 2 ^ (k % 64) = y1 at *
      generalize a2 % 2 ^ (k % 64) = y2 at *
      generalize a3 % 2 ^ (k % 64) = y3 at *
      generalize f' % 2 ^ (k % 64) = y4 at *
      generalize (2 : Int) ^ (k % 64) = p at *
      generalize (2 : Int) ^ (64 - k % 64) = p' at *
      clear rr hfill run hT hj fm ff
      grind
    rw [key, Int.add_mul_ediv_left _ _ (Int.ne_of_gt p1), Int.ediv_eq_zero_of_lt m0 m1, Int.zero_add]
  rw [hY]
  have r0 := rr 0
  have r1 := rr 1
  have r2 := rr 2
  have r3 := rr 3
  have c0 : 0 ≤ a0 / 2 ^ (k % 64) + a1 % 2 ^ (k % 64) * 2 ^ (64 - k % 64) ∧ a0 / 2 ^ (k % 64) + a1 % 2 ^ (k % 64) * 2 ^ (64 - k % 64) < 18446744073709551616 := right_range hs h0
  have c1 : 0 ≤ a1 / 2 ^ (k % 64) + a2 % 2 ^ (k % 64) * 2 ^ (64 - k % 64) ∧ a1 / 2 ^ (k % 64) + a2 % 2 ^ (k % 64) * 2 ^ (64 - k % 64) < 18446744073709551616 := right_range hs h1
  have c2 : 0 ≤ a2 / 2 ^ (k % 64) + a3 % 2 ^ (k % 64) * 2 ^ (64 - k % 64) ∧ a2 / 2 ^ (k % 64) + a3 % 2 ^ (k % 64) * 2 ^ (64 - k % 64) < 18446744073709551616 := right_range hs h2
  have c3 : 0 ≤ a3 / 2 ^ (k % 64) + f' % 2 ^ (k % 64) * 2 ^ (64 - k % 64) ∧ a3 / 2 ^ (k % 64) + f' % 2 ^ (k % 64) * 2 ^ (64 - k % 64) < 18446744073709551616 := right_range hs h3
  clear rr run hT hY hj r0 r1 r2 r3
  simp only [rightD, atP]
  rcases (show k / 64 = 0 ∨ k / 64 = 1 ∨ k / 64 = 2 ∨ k / 64 = 3 ∨ k / 64 = 4 by omega) with h | h | h | h | h <;> rw [h] <;> simp only [Nat.reduceAdd, Nat.reduceMul, Nat.reduceLT, if_true, if_false, List.getD_cons_zero, List.getD_cons_succ, hfill] <;> clear hfill <;>
    generalize a0 / 2 ^ (k % 64) + a1 % 2 ^ (k % 64) * 2 ^ (64 - k % 64) = e0 at * <;> generalize a1 / 2 ^ (k % 64) + a2 % 2 ^ (k % 64) * 2 ^ (64 - k % 64) = e1 at * <;> generalize a2 / 2 ^ (k % 64) + a3 % 2 ^ (k % 64) * 2 ^ (64 - k % 64) = e2 at * <;> generalize a3 / 2 ^ (k % 64) + f' % 2 ^ (k % 64) * 2 ^ (64 - k % 64) = e3 at *
  · refine digits f c0 c1 c2 c3 ?_
    simp
  · refine digits f c1 c2 c3 hf' ?_
    simp only [V, B, show (2 : Int) ^ 64 = 18446744073709551616 from rfl]
    omega
  · refine digits f c2 c3 hf' hf' ?_
    simp only [V, B, show (2 : Int) ^ 128 = 340282366920938463463374607431768211456 from rfl]
    omega
  · refine digits f c3 hf' hf' hf' ?_
    simp only [V, B, show (2 : Int) ^ 192 = 6277101735386680763835789423207666416102355444464034512896 from rfl]
    omega
  · refine digits f hf' hf' hf' hf' ?_
    simp only [V, B, show (2 : Int) ^ 256 = 115792089237316195423570985008687907853269984665640564039457584007913129639936 from rfl]
    omega
theorem word_Shr_ok {n : Nat} (hn : 600 ≤ n) {k a : List Int} (hk : W4 k) (ha : W4 a) : word_Shr.m n (k, a) = some (ofV (V a / 2 ^ farV k)) := by
  have := word_right_ok hn (farV_le k) ha (.inl ⟨rfl, rfl⟩)
  simp only [word_Shr.m, word_Shr.g, word_far_ok hk, bindO, Option.bind_some, this, Int.mul_zero, Int.add_zero]
end Go.Abs.Pure
end
section
set_option linter.unusedVariables false
set_option linter.unusedSimpArgs false
set_option maxRecDepth 20000
namespace Go.Abs.Pure
open Go Go.Abs
def byteI (a : List Int) (j : Nat) : Int := V a / 2 ^ (8 * j) % 256
def bytesV (a : List Int) : List Int := (List.range 32).map fun i => byteI a (31 - i)
theorem byte_add_mul (x v : Int) {j : Nat} (h : j < 8) : (x + 2 ^ 64 * v) / 2 ^ (8 * j) % 256 = x / 2 ^ (8 * j) % 256 := by
  rw [pow_split (show 8 * j ≤ 64 by omega), Int.mul_assoc, Int.add_mul_ediv_left _ _ (Int.ne_of_gt (pow_pos' _)), pow_split (show 8 ≤ 64 - 8 * j by omega), Int.mul_assoc]
  exact Int.add_mul_emod_self_left _ _ _
theorem val_byte : ∀ {l : List Int} (h : Dig 18446744073709551616 l) {j : Nat} (hj : j / 8 < l.length), l.getD (j / 8) 0 / 2 ^ (j % 8 * 8) % 256 = val 18446744073709551616 l / 2 ^ (8 * j) % 256
  | x :: r, h, j, hj => by
    have hx := h x (by simp)
    by_cases hlt : j < 8
    · rw [show j / 8 = 0 by omega, show j % 8 * 8 = 8 * j by omega]
      simp only [List.getD_cons_zero, val]
      rw [show (18446744073709551616 : Int) = 2 ^ 64 from rfl, byte_add_mul x _ hlt]
    · obtain ⟨i, rfl⟩ : ∃ i, j = 8 + i := ⟨j - 8, by omega⟩
      have ih := val_byte (l := r) (fun y hy => h y (by simp [hy])) (j := i) (by simp at hj; omega)
      rw [show (8 + i) / 8 = i / 8 + 1 by omega, show (8 + i) % 8 = i % 8 by omega]
      simp only [List.getD_cons_succ, val]
      rw [ih, show 8 * (8 + i) = 64 + 8 * i by omega, div_pow, show (2 : Int) ^ 64 = 18446744073709551616 from rfl, Int.add_mul_ediv_left _ _ (by omega), show x / 18446744073709551616 = 0 by omega, Int.zero_add]
theorem V_byte {a : List Int} (h : W4 a) {j : Nat} (hj : j < 32) : a.getD (j / 8) 0 / 2 ^ (j % 8 * 8) % 256 = byteI a j := by
  unfold byteI
  rw [V_val h.1]
  exact val_byte h.dig (by rw [h.1]; omega)
theorem get_byte {a : List Int} (h : W4 a) {j : Nat} (hj : j < 32) : IntKind.wrap .u8 (ishr .u64 (a.getD (j / 8) 0) ((j % 8 * 8 : Nat) : Int)) = byteI a j := by
  rw [wu8, ishr_ofNat .u64 _ _ (by simp [IntKind.bits]; omega), V_byte h hj]
theorem q01_Bytes_loop {n : Nat} {a : List Int} (ha : W4 a) : ∀ (r i fuel : Nat), i + r = 32 → r + 1 ≤ fuel → q01_Bytes.l3_0.g (fun a0 => a0) n fuel (i : Int) ((List.range i).map fun j => byteI a (31 - j)) a = some (bytesV a)
  | 0, i, fuel + 1, hi, hf => by
    have : i = 32 := by omega
    subst this
    rfl
  | r + 1, i, fuel + 1, hi, hf => by
    have h1 : (decide ((i : Int) < 32)) = true := by simp; omega
    have w1 : IntKind.wrap .i64 ((i : Int) + 1) = ((i + 1 : Nat) : Int) := by rw [wi64]; omega
    have w2 : IntKind.wrap .i64 (31 - (i : Int)) = ((31 - i : Nat) : Int) := by rw [wi64]; omega
    have w3 : IntKind.wrap .i64 (Int.tdiv ((31 - i : Nat) : Int) 8) = (((31 - i) / 8 : Nat) : Int) := by rw [tdiv_nonneg' (by omega), wi64]; omega
    have w4 : IntKind.wrap .u64 (IntKind.wrap .i64 (Int.tmod ((31 - i : Nat) : Int) 8 * 8)) = (((31 - i) % 8 * 8 : Nat) : Int) := by rw [tmod_nonneg' (by omega), wi64, wu64]; omega
    have g1 : (0 : Int) ≤ (((31 - i) / 8 : Nat) : Int) := by omega
    have g2 : (((31 - i) / 8 : Nat) : Int) < 4 := by omega
    have g3 : (0 : Int) ≤ (((31 - i) % 8 * 8 : Nat) : Int) := by omega
    have g4 : (((List.range i).map fun j => byteI a (31 - j)).length + 1) * 1 ≤ 70368744177664 ∧ ((List.range i).map fun j => byteI a (31 - j)).length + 1 ≤ 9223372036854775807 := by simp; omega
    show q01_Bytes.l3_0.r _ _ _ _ _ _ = _
    simp only [q01_Bytes.l3_0.r, h1, w1, w2, w3, w4, g1, g2, g3, if_true, Int.toNat_natCast]
    rw [if_pos g4, get_byte ha (by omega)]
    have := q01_Bytes_loop (n := n) ha r (i + 1) fuel (by omega) (by omega)
    rw [List.range_succ, List.map_append] at this
    exact this
theorem q01_Bytes_ok {n : Nat} (hn : 100 ≤ n) {a : List Int} (ha : W4 a) : q01_Bytes.m n a = some (bytesV a) := by
  have := q01_Bytes_loop (n := n) ha 32 0 n (by omega) (by omega)
  simp only [q01_Bytes.m, q01_Bytes.g, q01_Bytes.l3_0.m]
  rw [show ((0 : Nat) : Int) = 0 from rfl] at this
  simp only [List.range_zero, List.map_nil] at this
  rw [this]
  rfl
theorem byteI_range (a : List Int) (j : Nat) : 0 ≤ byteI a j ∧ byteI a j < 256 := ⟨Int.emod_nonneg _ (by omega), Int.emod_lt_of_pos _ (by omega)⟩
end Go.Abs.Pure
end
section
set_option linter.unusedVariables false
set_option linter.unusedSimpArgs false
set_option maxRecDepth 20000
namespace Go.Abs.Pure
open Go Go.Abs
theorem list_ext0 {a b : List Int} (hl : a.length = b.length) (h : ∀ j, j < a.length → a.getD j 0 = b.getD j 0) : a = b := by
  apply List.ext_getElem hl
  intro j h1 h2
  have := h j h1
  simpa [List.getD_eq_getElem?_getD, h1, h2] using this
theorem getD_set_self {l : List Int} {i : Nat} {d : Int} (h : i < l.length) : (l.set i d).getD i 0 = d := by simp [List.getD_eq_getElem?_getD, h]
theorem bytesV_length (a : List Int) : (bytesV a).length = 32 := by simp [bytesV]
theorem bytesV_getD (a : List Int) {j : Nat} (h : j < 32) : (bytesV a).getD j 0 = byteI a (31 - j) := by simp [bytesV, List.getD_eq_getElem?_getD, h]
theorem word_Bytes_loop {n : Nat} {a : List Int} (ha : W4 a) : ∀ (r i fuel : Nat) (o : List Int), i + r = 32 → r + 1 ≤ fuel → o.length = 32 → (∀ j, 32 - i ≤ j → j < 32 → o.getD j 0 = byteI a (31 - j)) → word_Bytes.l3_0.g (fun a0 => a0) n fuel (i : Int) o a = some (bytesV a)
  | 0, i, fuel + 1, o, hi, hf, hl, hv => by
    have : i = 32 := by omega
    subst this
    show word_Bytes.l3_0.r _ _ _ _ _ _ = _
    simp only [word_Bytes.l3_0.r, show decide (((32 : Nat) : Int) < 32) = false from rfl, Bool.false_eq_true, if_false]
    rw [list_ext0 (hl.trans (bytesV_length a).symm) fun j hj => by rw [bytesV_getD a (by omega)]; exact hv j (by omega) (by omega)]
  | r + 1, i, fuel + 1, o, hi, hf, hl, hv => by
    have h1 : (decide ((i : Int) < 32)) = true := by simp; omega
    have w1 : IntKind.wrap .i64 ((i : Int) + 1) = ((i + 1 : Nat) : Int) := by rw [wi64]; omega
    have w2 : IntKind.wrap .i64 (31 - (i : Int)) = ((31 - i : Nat) : Int) := by rw [wi64]; omega
    have w3 : IntKind.wrap .i64 (Int.tdiv (i : Int) 8) = ((i / 8 : Nat) : Int) := by rw [tdiv_nonneg' (by omega), wi64]; omega
    have w4 : IntKind.wrap .i64 (Int.tmod (i : Int) 8 * 8) = ((i % 8 * 8 : Nat) : Int) := by rw [tmod_nonneg' (by omega), wi64]; omega
    have g1 : (0 : Int) ≤ ((i / 8 : Nat) : Int) := by omega
    have g2 : ((i / 8 : Nat) : Int) < 4 := by omega
    have g3 : (0 : Int) ≤ ((i % 8 * 8 : Nat) : Int) := by omega
    have g4 : (0 : Int) ≤ ((31 - i : Nat) : Int) := by omega
    have g5 : ((31 - i : Nat) : Int) < ((o.length : Nat) : Int) := by omega
    show word_Bytes.l3_0.r _ _ _ _ _ _ = _
    simp only [word_Bytes.l3_0.r, h1, w1, w2, w3, w4, g1, g2, g3, g4, g5, if_true, Int.toNat_natCast]
    rw [get_byte ha (by omega)]
    refine word_Bytes_loop (n := n) ha r (i + 1) fuel _ (by omega) (by omega) (by simpa using hl) fun j h2 h3 => ?_
    by_cases hj : j = 31 - i
    · subst hj
      rw [getD_set_self (by omega)]
      congr 1
      omega
    · rw [getD_set (by omega)]
      exact hv j (by omega) h3
theorem word_Bytes_ok {n : Nat} (hn : 100 ≤ n) {a : List Int} (ha : W4 a) : word_Bytes.m n a = some (bytesV a) := by
  have := word_Bytes_loop (n := n) ha 32 0 n [0, 0, 0, 0, 0, 0, 0, 0, 0, 0, 0, 0, 0, 0, 0, 0, 0, 0, 0, 0, 0, 0, 0, 0, 0, 0, 0, 0, 0, 0, 0, 0] (by omega) (by omega) rfl (fun j h1 h2 => by omega)
  simp only [word_Bytes.m, word_Bytes.g, word_Bytes.l3_0.m]
  rw [show ((0 : Nat) : Int) = 0 from rfl] at this
  rw [this]
  rfl
def readI (b : List Int) : Nat → Int
  | 0 => 0
  | i + 1 => readI b i + b.getD (b.length - 1 - i) 0 * 2 ^ (8 * i)
theorem digit_low {o : List Int} (ho : W4 o) {i : Nat} (hi : i < 32) (hv : V o < 2 ^ (8 * i)) : o.getD (i / 8) 0 < 2 ^ (i % 8 * 8) := by
  have hp : (2 : Int) ^ (8 * i) = 18446744073709551616 ^ (i / 8) * 2 ^ (i % 8 * 8) := by
    rw [show (18446744073709551616 : Int) = 2 ^ 64 from rfl, ← Int.pow_mul, ← Int.pow_add]; congr 1; omega
  have hd := ho.dig.getD (i := i / 8) (by rw [ho.1]; omega)
  rw [hp, V_val ho.1] at hv
  have key : ∀ {l : List Int}, Dig 18446744073709551616 l → ∀ k, l.getD k 0 * 18446744073709551616 ^ k ≤ val 18446744073709551616 l := by
    intro l
    induction l with
    | nil => intro _ k; simp [val]
    | cons x r ih =>
      intro h k
      have hx := h x (by simp)
      have hr : Dig 18446744073709551616 r := fun y hy => h y (by simp [hy])
      have hb := val_bound (b := 18446744073709551616) (by omega) hr
      cases k with
      | zero => simp only [List.getD_cons_zero, val, Int.pow_zero, Int.mul_one]; omega
      | succ k =>
        have := ih hr k
        simp only [List.getD_cons_succ, val, Int.pow_succ]
        rw [← Int.mul_assoc]
        generalize r.getD k 0 * 18446744073709551616 ^ k = t at *
        omega
  have := key ho.dig (i / 8)
  have p := Int.pow_pos (n := 18446744073709551616) (m := i / 8) (by omega)
  generalize o.getD (i / 8) 0 = d at *
  generalize (18446744073709551616 : Int) ^ (i / 8) = q at *
  exact Int.lt_of_mul_lt_mul_left (a := q) (by rw [Int.mul_comm]; omega) (Int.le_of_lt p)
theorem put_byte {o : List Int} (ho : W4 o) {i : Nat} (hi : i < 32) (hv : V o < 2 ^ (8 * i)) {x : Int} (hx : 0 ≤ x ∧ x < 256) :
    W4 (o.set (i / 8) (ibits .or .u64 (o.getD (i / 8) 0) (ishl .u64 x ((i % 8 * 8 : Nat) : Int)))) ∧ V (o.set (i / 8) (ibits .or .u64 (o.getD (i / 8) 0) (ishl .u64 x ((i % 8 * 8 : Nat) : Int)))) = V o + x * 2 ^ (8 * i) := by
  have hl := ho.1
  have hd := ho.dig.getD (i := i / 8) (by omega)
  have hlow := digit_low ho hi hv
  have p := pow_pos' (i % 8 * 8)
  have hs : x * 2 ^ (i % 8 * 8) < 18446744073709551616 := by
    have h1 := Int.mul_lt_mul_of_pos_right hx.2 p
    have h2 := pow_le_pow' (show 8 + i % 8 * 8 ≤ 64 by omega)
    rw [Int.pow_add, show (2 : Int) ^ 8 = 256 from rfl, show (2 : Int) ^ 64 = 18446744073709551616 from rfl] at h2
    omega
  have hn := Int.mul_nonneg hx.1 (Int.le_of_lt p)
  rw [ishl_ofNat .u64 x _ (by simp [IntKind.bits]; omega), wu64, Int.emod_eq_of_lt hn hs]
  have hr := (or_zero hd.1 hd.2 hn hs).1
  rw [or_apart' (by omega) ⟨hx.1, hs⟩ ⟨hd.1, hlow⟩] at hr ⊢
  have hw : W4 (o.set (i / 8) (x * 2 ^ (i % 8 * 8) + o.getD (i / 8) 0)) := ⟨by simp [hl], ho.dig.set hr⟩
  refine ⟨hw, ?_⟩
  rw [V_val hw.1, V_val hl, val_set (by omega)]
  have : (2 : Int) ^ (8 * i) = 2 ^ (i % 8 * 8) * 18446744073709551616 ^ (i / 8) := by
    rw [show (18446744073709551616 : Int) = 2 ^ 64 from rfl, ← Int.pow_mul, ← Int.pow_add]; congr 1; omega
  rw [this]
  generalize o.getD (i / 8) 0 = u
  generalize (2 : Int) ^ (i % 8 * 8) = p1
  generalize (18446744073709551616 : Int) ^ (i / 8) = p2
  grind
theorem readI_bound {b : List Int} (hb : ∀ x ∈ b, 0 ≤ x ∧ x < 256) : ∀ i, 0 ≤ readI b i ∧ readI b i < 2 ^ (8 * i)
  | 0 => by simp [readI]
  | i + 1 => by
    have ih := readI_bound hb i
    have hx : 0 ≤ b.getD (b.length - 1 - i) 0 ∧ b.getD (b.length - 1 - i) 0 < 256 := by
      rw [List.getD_eq_getElem?_getD]
      cases h : b[b.length - 1 - i]? with
      | none => simp
      | some x => exact hb x (List.mem_of_getElem? h)
    simp only [readI]
    have p := pow_pos' (8 * i)
    have h1 := Int.mul_nonneg hx.1 (Int.le_of_lt p)
    have h2 := Int.mul_le_mul_of_nonneg_right (show b.getD (b.length - 1 - i) 0 ≤ 255 by omega) (Int.le_of_lt p)
    rw [show 8 * (i + 1) = 8 * i + 8 by omega, Int.pow_add, show (2 : Int) ^ 8 = 256 from rfl]
    omega
theorem byte_getD {b : List Int} (hb : ∀ x ∈ b, 0 ≤ x ∧ x < 256) (i : Nat) : 0 ≤ b.getD i 0 ∧ b.getD i 0 < 256 := by
  rw [List.getD_eq_getElem?_getD]
  cases h : b[i]? with
  | none => simp
  | some x => exact hb x (List.mem_of_getElem? h)
end Go.Abs.Pure
end
section
set_option linter.unusedVariables false
set_option linter.unusedSimpArgs false
set_option maxRecDepth 20000
namespace Go.Abs.Pure
open Go Go.Abs
def Short (b : List Int) : Prop := b.length ≤ 100000
def rd (b : List Int) : Nat := if b.length ≤ 32 then b.length else 32
theorem rd_le (b : List Int) : rd b ≤ 32 ∧ rd b ≤ b.length ∧ (rd b = 32 ∨ rd b = b.length) := by unfold rd; split <;> omega
theorem at_next (i : Nat) (h : i < 32) : IntKind.wrap .i64 ((i : Int) + 1) = ((i + 1 : Nat) : Int) := by rw [wi64]; omega
theorem at_div (i : Nat) (h : i < 32) : IntKind.wrap .i64 (Int.tdiv (i : Int) 8) = ((i / 8 : Nat) : Int) := by rw [tdiv_nonneg' (by omega), wi64]; omega
theorem at_mod (i : Nat) (h : i < 32) : IntKind.wrap .u64 (IntKind.wrap .i64 (Int.tmod (i : Int) 8 * 8)) = ((i % 8 * 8 : Nat) : Int) := by rw [tmod_nonneg' (by omega), wi64, wu64]; omega
theorem at_mod' (i : Nat) (h : i < 32) : IntKind.wrap .i64 (Int.tmod (i : Int) 8 * 8) = ((i % 8 * 8 : Nat) : Int) := by rw [tmod_nonneg' (by omega), wi64]; omega
theorem last_at (L i : Nat) (h : L ≤ 100000) (hi : i < L) : IntKind.wrap .i64 (IntKind.wrap .i64 (((L : Nat) : Int) - 1) - (i : Int)) = ((L - 1 - i : Nat) : Int) := by
  rw [wi64_id (n := ((L : Nat) : Int) - 1) (by omega) (by omega)]
  rw [wi64_id (by omega) (by omega)]
  omega
theorem q01_Read_loop {n : Nat} {b : List Int} (hb : ∀ x ∈ b, 0 ≤ x ∧ x < 256) (hlen : Short b) (z : List Int) : ∀ (r i fuel : Nat) (o : List Int), i + r = rd b → r + 1 ≤ fuel → W4 o → V o = readI b i →
    q01_Read.l4_0.g (fun a0 a1 => (a0, a1)) n fuel (i : Int) ((b.length : Nat) : Int) b o z = some (ofV (readI b (rd b)), z)
  | 0, i, fuel + 1, o, hi, hf, ho, hv => by
    unfold Short at hlen
    have hr := rd_le b
    have he : i = rd b := by omega
    show q01_Read.l4_0.r _ _ _ _ _ _ _ _ = _
    have fin : o = ofV (readI b (rd b)) := by rw [← he, ← hv, ofV_V ho]
    by_cases h32 : i < 32
    · have h1 : (decide ((i : Int) < 32)) = true := by simp; omega
      have h2 : (decide ((i : Int) < ((b.length : Nat) : Int))) = false := by simp; omega
      simp only [q01_Read.l4_0.r, h1, h2, if_true, Bool.false_eq_true, if_false]
      rw [← fin]
    · have h1 : (decide ((i : Int) < 32)) = false := by simp; omega
      simp only [q01_Read.l4_0.r, h1, Bool.false_eq_true, if_false]
      rw [← fin]
  | r + 1, i, fuel + 1, o, hi, hf, ho, hv => by
    have hlen' := hlen
    unfold Short at hlen'
    have hr := rd_le b
    have h1 : (decide ((i : Int) < 32)) = true := decide_eq_true (by omega)
    have h2 : (decide ((i : Int) < ((b.length : Nat) : Int))) = true := decide_eq_true (by omega)
    have h32 : i < 32 := Nat.lt_of_lt_of_le (Nat.lt_of_lt_of_le (Nat.lt_add_of_pos_right (Nat.succ_pos r)) (Nat.le_of_eq hi)) hr.1
    have w1 := at_next i h32
    have hib : i < b.length := Nat.lt_of_lt_of_le (Nat.lt_of_lt_of_le (Nat.lt_add_of_pos_right (Nat.succ_pos r)) (Nat.le_of_eq hi)) hr.2.1
    have w2 := last_at b.length i hlen' hib
    have w3 := at_div i h32
    have w4 := at_mod i h32
    have g1 : (0 : Int) ≤ ((i / 8 : Nat) : Int) := by omega
    have g2 : ((i / 8 : Nat) : Int) < 4 := by omega
    have g3 : (0 : Int) ≤ ((i % 8 * 8 : Nat) : Int) := by omega
    have g4 : (0 : Int) ≤ ((b.length - 1 - i : Nat) : Int) := by omega
    have g5 : ((b.length - 1 - i : Nat) : Int) < ((b.length : Nat) : Int) := by omega
    have hx := byte_getD hb (b.length - 1 - i)
    show q01_Read.l4_0.r _ _ _ _ _ _ _ _ = _
    simp only [q01_Read.l4_0.r, h1, h2, w1, w2, w3, w4, g1, g2, g3, g4, g5, if_true, Int.toNat_natCast]
    rw [wu64_id hx.1 (by omega)]
    obtain ⟨k1, k2⟩ := put_byte ho (i := i) (by omega) (by rw [hv]; exact (readI_bound hb i).2) hx
    exact q01_Read_loop hb hlen z r (i + 1) fuel _ (by omega) (by omega) k1 (by rw [k2, hv]; rfl)
theorem q01_Read_ok {n : Nat} (hn : 100 ≤ n) {b : List Int} (hb : ∀ x ∈ b, 0 ≤ x ∧ x < 256) (hlen : Short b) : q01_Read.m n b = some (ofV (readI b (rd b))) := by
  have hr := rd_le b
  have := q01_Read_loop (n := n) hb hlen [0, 0, 0, 0] (rd b) 0 n [0, 0, 0, 0] (by omega) (by omega) zero_W4 rfl
  simp only [q01_Read.m, q01_Read.g, q01_Read.l4_0.m]
  rw [show ((0 : Nat) : Int) = 0 from rfl] at this
  rw [this]
  rfl
end Go.Abs.Pure
end
section
set_option linter.unusedVariables false
set_option linter.unusedSimpArgs false
set_option maxRecDepth 20000
namespace Go.Abs.Pure
open Go Go.Abs
theorem word_Read_loop {n : Nat} {b : List Int} (hb : ∀ x ∈ b, 0 ≤ x ∧ x < 256) (hlen : b.length ≤ 32) (z : List Int) : ∀ (r i fuel : Nat) (o : List Int), i + r = b.length → r + 1 ≤ fuel → W4 o → V o = readI b i →
    word_Read.l4_0.g (fun a0 a1 => (a0, a1)) n fuel (i : Int) ((b.length : Nat) : Int) b o z = some (ofV (readI b b.length), z)
  | 0, i, fuel + 1, o, hi, hf, ho, hv => by
    have he : i = b.length := by omega
    show word_Read.l4_0.r _ _ _ _ _ _ _ _ = _
    have fin : o = ofV (readI b b.length) := by rw [← he, ← hv, ofV_V ho]
    have h2 : (decide ((i : Int) < ((b.length : Nat) : Int))) = false := by simp; omega
    simp only [word_Read.l4_0.r, h2, Bool.false_eq_true, if_false]
    rw [← fin]
  | r + 1, i, fuel + 1, o, hi, hf, ho, hv => by
    have h2 : (decide ((i : Int) < ((b.length : Nat) : Int))) = true := by simp; omega
    have hib : i < b.length := by omega
    have h32 : i < 32 := by omega
    have w1 := at_next i h32
    have w2 := last_at b.length i (by omega) hib
    have w3 := at_div i h32
    have w4 := at_mod' i h32
    have g1 : (0 : Int) ≤ ((i / 8 : Nat) : Int) := by omega
    have g2 : ((i / 8 : Nat) : Int) < 4 := by omega
    have g3 : (0 : Int) ≤ ((i % 8 * 8 : Nat) : Int) := by omega
    have g4 : (0 : Int) ≤ ((b.length - 1 - i : Nat) : Int) := by omega
    have g5 : ((b.length - 1 - i : Nat) : Int) < ((b.length : Nat) : Int) := by omega
    have hx := byte_getD hb (b.length - 1 - i)
    show word_Read.l4_0.r _ _ _ _ _ _ _ _ = _
    simp only [word_Read.l4_0.r, h2, w1, w2, w3, w4, g1, g2, g3, g4, g5, if_true, Int.toNat_natCast]
    rw [wu64_id hx.1 (by omega)]
    obtain ⟨k1, k2⟩ := put_byte ho (i := i) (by omega) (by rw [hv]; exact (readI_bound hb i).2) hx
    exact word_Read_loop hb hlen z r (i + 1) fuel _ (by omega) (by omega) k1 (by rw [k2, hv]; rfl)
theorem word_Read_short {n : Nat} (hn : 100 ≤ n) {b : List Int} (hb : ∀ x ∈ b, 0 ≤ x ∧ x < 256) (hlen : b.length ≤ 32) : word_Read.l4_0.m n n (0, ((b.length : Nat) : Int), b, [0, 0, 0, 0], [0, 0, 0, 0]) = some (ofV (readI b b.length), [0, 0, 0, 0]) := by
  have := word_Read_loop (n := n) hb hlen [0, 0, 0, 0] b.length 0 n [0, 0, 0, 0] (by omega) (by omega) zero_W4 rfl
  simp only [word_Read.l4_0.m]
  rw [show ((0 : Nat) : Int) = 0 from rfl] at this
  exact this
theorem readI_drop {b : List Int} {k : Nat} : ∀ {i : Nat}, i ≤ b.length - k → readI (b.drop k) i = readI b i
  | 0, _ => rfl
  | i + 1, h => by
    simp only [readI]
    rw [readI_drop (by omega)]
    have : (b.drop k).getD ((b.drop k).length - 1 - i) 0 = b.getD (b.length - 1 - i) 0 := by
      simp only [List.getD_eq_getElem?_getD, List.getElem?_drop, List.length_drop]
      congr 2
      omega
    rw [this]
theorem word_Read_ok {n : Nat} (hn : 100 ≤ n) {b : List Int} (hb : ∀ x ∈ b, 0 ≤ x ∧ x < 256) (hlen : Short b) : word_Read.m n b = some (ofV (readI b (rd b))) := by
  have hr := rd_le b
  unfold Short at hlen
  have e : (if 0 > IntKind.wrap .i64 (((b.length : Nat) : Int) - 32) then (0 : Int) else IntKind.wrap .i64 (((b.length : Nat) : Int) - 32)) = ((b.length - rd b : Nat) : Int) := by
    rw [wi64_id (by omega) (by omega)]
    unfold rd
    split <;> split <;> omega
  have hd : (b.drop (b.length - rd b)).length = rd b := by simp; omega
  have hb' : ∀ x ∈ b.drop (b.length - rd b), 0 ≤ x ∧ x < 256 := fun x hx => hb x (List.mem_of_mem_drop hx)
  simp only [word_Read.m, word_Read.g, e]
  rw [if_pos (by omega), if_pos (by omega)]
  simp only [Int.toNat_natCast, cut]
  rw [word_Read_short hn hb' (by omega), hd, readI_drop (by omega)]
  rfl
theorem word_Wide_ok {n : Nat} (hn : 100 ≤ n) {x : List Int} (hl : x.length = 20) (hb : ∀ y ∈ x, 0 ≤ y ∧ y < 256) : word_Wide.m n x = some (ofV (readI x 20)) := by
  have e : List.take 20 (List.drop 0 x) = x := by rw [List.drop_zero, List.take_of_length_le (by omega)]
  simp only [word_Wide.m, word_Wide.g, e, word_Read_ok hn hb (by unfold Short; omega), bindO, Option.bind_some]
  rw [show rd x = 20 by unfold rd; rw [if_pos (by omega)]; exact hl]
theorem q01_Wide_loop {n : Nat} {x : List Int} (hl : x.length = 20) (z : List Int) : ∀ (r i fuel : Nat), i + r = 20 → r + 1 ≤ fuel → q01_Wide.l3_0.g (fun a0 a1 => (a0, a1)) n fuel (i : Int) (x.take i) x z = some (x, z)
  | 0, i, fuel + 1, hi, hf => by
    have he : i = 20 := by omega
    subst he
    show q01_Wide.l3_0.r _ _ _ _ _ _ _ = _
    simp only [q01_Wide.l3_0.r, show decide (((20 : Nat) : Int) < 20) = false from rfl, Bool.false_eq_true, if_false]
    rw [List.take_of_length_le (by omega)]
  | r + 1, i, fuel + 1, hi, hf => by
    have h1 : (decide ((i : Int) < 20)) = true := by simp; omega
    have w1 : IntKind.wrap .i64 ((i : Int) + 1) = ((i + 1 : Nat) : Int) := by rw [wi64]; omega
    have g1 : (0 : Int) ≤ (i : Int) := by omega
    have g2 : (i : Int) < 20 := by omega
    have g4 : ((x.take i).length + 1) * 1 ≤ 70368744177664 ∧ (x.take i).length + 1 ≤ 9223372036854775807 := by simp; omega
    show q01_Wide.l3_0.r _ _ _ _ _ _ _ = _
    simp only [q01_Wide.l3_0.r, h1, w1, g1, g2, if_true, Int.toNat_natCast]
    rw [if_pos g4]
    have := q01_Wide_loop (n := n) hl z r (i + 1) fuel (by omega) (by omega)
    rw [List.take_add_one, List.getElem?_eq_getElem (by omega)] at this
    rw [List.getD_eq_getElem?_getD, List.getElem?_eq_getElem (by omega)]
    exact this
theorem q01_Wide_ok {n : Nat} (hn : 100 ≤ n) {x : List Int} (hl : x.length = 20) (hb : ∀ y ∈ x, 0 ≤ y ∧ y < 256) : q01_Wide.m n x = some (ofV (readI x 20)) := by
  have := q01_Wide_loop (n := n) hl [0, 0, 0, 0] 20 0 n (by omega) (by omega)
  rw [show ((0 : Nat) : Int) = 0 from rfl, List.take_zero] at this
  simp only [q01_Wide.m, q01_Wide.g, q01_Wide.l3_0.m]
  rw [this]
  simp only [bindO, Option.bind_some, q01_Read_ok hn hb (show Short x by unfold Short; omega)]
  rw [show rd x = 20 by unfold rd; rw [if_pos (by omega)]; exact hl]
def addrV (a : List Int) : List Int := (bytesV a).drop 12
theorem word_Addr_ok {n : Nat} (hn : 100 ≤ n) {a : List Int} (ha : W4 a) : word_Addr.m n a = some (addrV a) := by
  have hl := bytesV_length a
  simp only [word_Addr.m, word_Addr.g, word_Bytes_ok hn ha, bindO, Option.bind_some, hl, span]
  rw [if_pos (by omega), if_pos (by omega)]
  rw [List.take_of_length_le (by simp [hl])]
  rfl
theorem SameBytes_self {n : Nat} (a : List Int) : q00_SameBytes.m n (a, a) = some true := by
  simp only [q00_SameBytes.m, q00_SameBytes.g, beq_self_eq_true]
theorem emod_mul' (v p q : Int) (hp : 0 < p) (hq : 0 < q) : v % (p * q) = v % p + v / p % q * p := by
  have h1 := Int.mul_ediv_add_emod v p
  have h2 := Int.mul_ediv_add_emod (v / p) q
  have a0 := Int.emod_nonneg v (Int.ne_of_gt hp)
  have a1 := Int.emod_lt_of_pos v hp
  have b0 := Int.emod_nonneg (v / p) (Int.ne_of_gt hq)
  have b1 := Int.emod_lt_of_pos (v / p) hq
  have e : v = (v % p + v / p % q * p) + (p * q) * (v / p / q) := by
    generalize v / p / q = x at *
    generalize v / p % q = y at *
    generalize v / p = z at *
    generalize v % p = w at *
    subst h2
    rw [← h1]
    grind
  have c0 := Int.mul_nonneg b0 (Int.le_of_lt hp)
  have c1 := Int.mul_le_mul_of_nonneg_right (show v / p % q ≤ q - 1 by omega) (Int.le_of_lt hp)
  have c2 : (q - 1) * p = p * q - p := by grind
  have : v % (p * q) = (v % p + v / p % q * p) % (p * q) := by
    conv => lhs; rw [e]
    exact Int.add_mul_emod_self_left _ _ _
  rw [this]
  exact Int.emod_eq_of_lt (by omega) (by omega)
theorem byteI_succ {v : Int} (i : Nat) : v % 2 ^ (8 * (i + 1)) = v % 2 ^ (8 * i) + v / 2 ^ (8 * i) % 256 * 2 ^ (8 * i) := by
  rw [show 8 * (i + 1) = 8 * i + 8 by omega, Int.pow_add, emod_mul' _ _ _ (pow_pos' _) (by decide)]
  rfl
theorem readI_bytesV {a : List Int} : ∀ {i : Nat}, i ≤ 32 → readI (bytesV a) i = V a % 2 ^ (8 * i)
  | 0, _ => by simp [readI]
  | i + 1, h => by
    simp only [readI]
    rw [readI_bytesV (by omega), bytesV_length, bytesV_getD a (by omega), byteI_succ, show 31 - (32 - 1 - i) = i by omega]
    rfl
theorem bytesV_range (a : List Int) : ∀ x ∈ bytesV a, 0 ≤ x ∧ x < 256 := fun x hx => by
  obtain ⟨i, _, rfl⟩ := List.mem_map.1 hx
  exact byteI_range a _
theorem read_bytes {a : List Int} (ha : W4 a) : ofV (readI (bytesV a) (rd (bytesV a))) = a := by
  rw [show rd (bytesV a) = 32 by unfold rd; rw [bytesV_length]; rfl, readI_bytesV (Nat.le_refl _)]
  have hr := V_range ha
  rw [Int.emod_eq_of_lt hr.1 (by have := hr.2; rwa [show (2 : Int) ^ (8 * 32) = B from rfl]), ofV_V ha]
theorem readI_digit {b : List Int} (hb : ∀ x ∈ b, 0 ≤ x ∧ x < 256) : ∀ {i j : Nat}, j < i → readI b i / 2 ^ (8 * j) % 256 = b.getD (b.length - 1 - j) 0
  | 0, _, h => by omega
  | i + 1, j, h => by
    simp only [readI]
    have hx := byte_getD hb (b.length - 1 - i)
    by_cases e : j = i
    · subst e
      rw [Int.add_mul_ediv_right _ _ (Int.ne_of_gt (pow_pos' _)), Int.ediv_eq_zero_of_lt (readI_bound hb j).1 (readI_bound hb j).2, Int.zero_add, Int.emod_eq_of_lt hx.1 hx.2]
    · rw [pow_split (show 8 * j ≤ 8 * i by omega), ← Int.mul_assoc, Int.mul_right_comm, Int.add_mul_ediv_right _ _ (Int.ne_of_gt (pow_pos' _)), pow_split (show 8 ≤ 8 * i - 8 * j by omega), show (2 : Int) ^ 8 = 256 from rfl]
      rw [← Int.mul_assoc, Int.mul_right_comm, Int.add_mul_emod_self_right]
      exact readI_digit hb (by omega)
theorem addr_wide {x : List Int} (hl : x.length = 20) (hb : ∀ y ∈ x, 0 ≤ y ∧ y < 256) : addrV (ofV (readI x 20)) = x := by
  apply list_ext0
  · simp [addrV, bytesV_length, hl]
  · intro j hj
    have hj' : j < 20 := by simpa [addrV, bytesV_length] using hj
    have e : (addrV (ofV (readI x 20))).getD j 0 = byteI (ofV (readI x 20)) (19 - j) := by
      have := bytesV_getD (ofV (readI x 20)) (j := 12 + j) (by omega)
      rw [show 31 - (12 + j) = 19 - j by omega] at this
      rw [← this]
      simp [addrV, List.getD_eq_getElem?_getD, List.getElem?_drop]
    have hbd := readI_bound hb 20
    have hlt : readI x 20 < B := by
      have : (2 : Int) ^ (8 * 20) ≤ B := pow_le_pow' (show 8 * 20 ≤ 256 by omega)
      omega
    rw [e]
    unfold byteI
    rw [V_ofV, Int.emod_eq_of_lt hbd.1 hlt, readI_digit hb (by omega), hl]
    congr 1
    omega
end Go.Abs.Pure
end
section
set_option linter.unusedVariables false
set_option linter.unusedSimpArgs false
set_option maxRecDepth 100000
namespace Go.Abs.Pure
open Go Go.Abs
abbrev Z20 : List Int := ([0, 0, 0, 0, 0, 0, 0, 0, 0, 0, 0, 0, 0, 0, 0, 0, 0, 0, 0, 0] : List Int)
theorem w120 : W4 [120, 0, 0, 0] := .mk (by omega) (by omega) (by omega) (by omega)
theorem far120 : farV [120, 0, 0, 0] = 120 := by decide
theorem ofV_zero {x : Int} (h0 : 0 ≤ x) (h1 : x < B) : (ofV x == [0, 0, 0, 0]) = decide (x = 0) := by
  rw [show ([0, 0, 0, 0] : List Int) = ofV 0 by decide, beq_V (ofV_W4 _) (ofV_W4 _), V_ofV, V_ofV, Int.emod_eq_of_lt h0 h1, show (0 : Int) % B = 0 from rfl]
theorem fee_top {fee : List Int} (h : W4 fee) : (ofV (V fee / 2 ^ 120) == [0, 0, 0, 0]) = decide (V fee / 2 ^ 120 = 0) := by
  have r := V_range h
  exact ofV_zero (Int.ediv_nonneg r.1 (by decide)) (Int.lt_of_le_of_lt (Int.ediv_le_self _ r.1) r.2)
theorem cmp_pos (x y : Int) : decide (cmpOf x y > 0) = decide (y < x) := by
  unfold cmpOf
  by_cases h : x < y
  · rw [if_pos h, decide_eq_false (show ¬ y < x by omega)]; rfl
  · rw [if_neg h]
    by_cases e : x = y
    · rw [if_pos e, decide_eq_false (show ¬ y < x by omega)]; rfl
    · rw [if_neg e, decide_eq_true (show y < x by omega)]; rfl
def errOf : Bool → Int
  | true => 0
  | false => 150
def goodV (hf : Bool) (fa fd cd : List Int) (cg vg pg : Int) (fee tip : List Int) (hp : Bool) (pa : List Int) (pv po : Int) (pd sg : List Int) : Bool :=
  !decide (((fd.length : Nat) : Int) > 4096) && (!decide (((cd.length : Nat) : Int) > 4096) && (!decide (((pd.length : Nat) : Int) > 4096) && (!decide (((sg.length : Nat) : Int) > 4096) &&
  (!decide (cg > 1048576) && (!decide (vg > 1048576) && (!decide (pg > 1048576) && (!decide (pv > 1048576) && (!decide (po > 1048576) &&
  (decide (V fee / 2 ^ 120 = 0) && (!decide (V fee < V tip) && ((hf || ((fa == Z20) && !decide (((fd.length : Nat) : Int) > 0))) && (hp || ((pa == Z20) && (!decide (((pd.length : Nat) : Int) > 0) && (!(pv != 0) && !(po != 0))))))))))))))))
theorem q15_Check_ok {n : Nat} (hn : 600 ≤ n) (f0 f1 : List Int) (hf : Bool) (fa fd cd : List Int) (cg vg pg : Int) {fee tip : List Int} (hp : Bool) (pa : List Int) (pv po : Int) (pd sg : List Int) (w1 : W4 fee) (w2 : W4 tip) :
    q15_Check.m n (f0, f1, hf, fa, fd, cd, cg, vg, pg, fee, tip, hp, pa, pv, po, pd, sg) = some (errOf (goodV hf fa fd cd cg vg pg fee tip hp pa pv po pd sg)) := by
  have e1 := q01_Shr_ok hn w120 w1
  rw [far120] at e1
  simp only [q15_Check.m, q15_Check.g, q01_From.m, q01_From.g, bindO, Option.bind_some, e1, q01_Cmp_ok (show 100 ≤ n by omega) w2 w1, fee_top w1, cmp_pos, goodV]
  generalize decide (((fd.length : Nat) : Int) > 4096) = A1
  cases A1; rotate_left; · rfl
  generalize decide (((cd.length : Nat) : Int) > 4096) = A2
  cases A2; rotate_left; · rfl
  generalize decide (((pd.length : Nat) : Int) > 4096) = A3
  cases A3; rotate_left; · rfl
  generalize decide (((sg.length : Nat) : Int) > 4096) = A4
  cases A4; rotate_left; · rfl
  generalize decide (cg > 1048576) = A5
  cases A5; rotate_left; · rfl
  generalize decide (vg > 1048576) = A6
  cases A6; rotate_left; · rfl
  generalize decide (pg > 1048576) = A7
  cases A7; rotate_left; · rfl
  generalize decide (pv > 1048576) = A8
  cases A8; rotate_left; · rfl
  generalize decide (po > 1048576) = A9
  cases A9; rotate_left; · rfl
  generalize decide (V fee / 2 ^ 120 = 0) = A10
  cases A10; · rfl
  generalize decide (V fee < V tip) = A11
  cases A11; rotate_left; · rfl
  generalize (fa == Z20) = A12
  generalize decide (((fd.length : Nat) : Int) > 0) = A13
  generalize (pa == Z20) = A14
  generalize decide (((pd.length : Nat) : Int) > 0) = A15
  generalize (pv != 0) = A16
  generalize (po != 0) = A17
  cases hf <;> cases A12 <;> cases A13 <;> cases hp <;> cases A14 <;> cases A15 <;> cases A16 <;> cases A17 <;> rfl
theorem chk_loop (f0 f1 : List Int) (hf : Bool) (fa fd cd : List Int) (cg vg pg : Int) (fee tip : List Int) (hp : Bool) (pa : List Int) (pv po : Int) (pd sg : List Int) :
    userop_Check.l2_0.m 200000 200000 (0, ((4 : Nat) : Int), [(Go.Abs.AV.rints .u8 fd), (Go.Abs.AV.rints .u8 cd), (Go.Abs.AV.rints .u8 pd), (Go.Abs.AV.rints .u8 sg)], f0, f1, hf, fa, fd, cd, cg, vg, pg, fee, tip, hp, pa, pv, po, pd, sg) =
      if decide (((fd.length : Nat) : Int) > 4096) = true then some (.inl (150, f0, f1, hf, fa, fd, cd, cg, vg, pg, fee, tip, hp, pa, pv, po, pd, sg)) else
      if decide (((cd.length : Nat) : Int) > 4096) = true then some (.inl (150, f0, f1, hf, fa, fd, cd, cg, vg, pg, fee, tip, hp, pa, pv, po, pd, sg)) else
      if decide (((pd.length : Nat) : Int) > 4096) = true then some (.inl (150, f0, f1, hf, fa, fd, cd, cg, vg, pg, fee, tip, hp, pa, pv, po, pd, sg)) else
      if decide (((sg.length : Nat) : Int) > 4096) = true then some (.inl (150, f0, f1, hf, fa, fd, cd, cg, vg, pg, fee, tip, hp, pa, pv, po, pd, sg)) else
      some (.inr (f0, f1, hf, fa, fd, cd, cg, vg, pg, fee, tip, hp, pa, pv, po, pd, sg)) := by kernel_rfl
def mxI (a b : Int) : Int := if b > a then b else a
theorem mxI_le (a b m : Int) : decide (mxI a b > m) = (decide (a > m) || decide (b > m)) := by
  unfold mxI
  rw [Bool.eq_iff_iff]
  simp only [Bool.or_eq_true, decide_eq_true_eq]
  split <;> omega
theorem len_zero (l : List Int) : (((l.length : Nat) : Int) == 0) = !decide (((l.length : Nat) : Int) > 0) := by
  rw [Bool.eq_iff_iff]
  simp only [beq_iff_eq, Bool.not_eq_true', decide_eq_false_iff_not]
  omega
theorem or_none {x y : Int} (hx : 0 ≤ x ∧ x < 18446744073709551616) (hy : 0 ≤ y ∧ y < 18446744073709551616) : (ibits .or .u64 x y == 0) = (!(x != 0) && !(y != 0)) := by
  have := (or_zero hx.1 hx.2 hy.1 hy.2).2
  rw [Bool.eq_iff_iff]
  simp only [beq_iff_eq, Bool.and_eq_true, Bool.not_eq_true', bne_eq_false_iff_eq]
  exact this
theorem userop_Check_ok (f0 f1 : List Int) (hf : Bool) (fa fd cd : List Int) (cg vg pg : Int) {fee tip : List Int} (hp : Bool) (pa : List Int) (pv po : Int) (pd sg : List Int) (w1 : W4 fee) (w2 : W4 tip) (k1 : 0 ≤ pv ∧ pv < 18446744073709551616) (k2 : 0 ≤ po ∧ po < 18446744073709551616) :
    userop_Check.m 200000 (f0, f1, hf, fa, fd, cd, cg, vg, pg, fee, tip, hp, pa, pv, po, pd, sg) = some (errOf (goodV hf fa fd cd cg vg pg fee tip hp pa pv po pd sg)) := by
  have e1 := word_Shr_ok (n := 200000) (by omega) w120 w1
  rw [far120] at e1
  have hm : decide (mxI (mxI (mxI (mxI cg vg) pg) pv) po > 1048576) = (decide (cg > 1048576) || decide (vg > 1048576) || decide (pg > 1048576) || decide (pv > 1048576) || decide (po > 1048576)) := by
    rw [mxI_le, mxI_le, mxI_le, mxI_le]
  have hm' : decide ((if po > (if pv > (if pg > (if vg > cg then vg else cg) then pg else (if vg > cg then vg else cg)) then pv else (if pg > (if vg > cg then vg else cg) then pg else (if vg > cg then vg else cg))) then po else (if pv > (if pg > (if vg > cg then vg else cg) then pg else (if vg > cg then vg else cg)) then pv else (if pg > (if vg > cg then vg else cg) then pg else (if vg > cg then vg else cg)))) > 1048576) = (decide (cg > 1048576) || decide (vg > 1048576) || decide (pg > 1048576) || decide (pv > 1048576) || decide (po > 1048576)) := hm
  simp only [userop_Check.m, userop_Check.g, chk_loop, goodV]
  generalize decide (((fd.length : Nat) : Int) > 4096) = A1
  cases A1; rotate_left; · rfl
  generalize decide (((cd.length : Nat) : Int) > 4096) = A2
  cases A2; rotate_left; · rfl
  generalize decide (((pd.length : Nat) : Int) > 4096) = A3
  cases A3; rotate_left; · rfl
  generalize decide (((sg.length : Nat) : Int) > 4096) = A4
  cases A4; rotate_left; · rfl
  simp only [Bool.false_eq_true, if_false, bindO, Option.bind_some, hm', word_From.m, word_From.g, e1, word_Cmp_ok (n := 200000) (by omega) w2 w1, fee_top w1, cmp_pos, len_zero, or_none k1 k2]
  generalize decide (cg > 1048576) = A5
  cases A5; rotate_left; · rfl
  generalize decide (vg > 1048576) = A6
  cases A6; rotate_left; · rfl
  generalize decide (pg > 1048576) = A7
  cases A7; rotate_left; · rfl
  generalize decide (pv > 1048576) = A8
  cases A8; rotate_left; · rfl
  generalize decide (po > 1048576) = A9
  cases A9; rotate_left; · rfl
  generalize decide (V fee / 2 ^ 120 = 0) = A10
  generalize decide (V fee < V tip) = A11
  generalize (fa == Z20) = A12
  generalize decide (((fd.length : Nat) : Int) > 0) = A13
  generalize (pa == Z20) = A14
  generalize decide (((pd.length : Nat) : Int) > 0) = A15
  generalize (pv != 0) = A16
  generalize (po != 0) = A17
  cases A10 <;> cases A11 <;> cases hf <;> cases A12 <;> cases A13 <;> cases hp <;> cases A14 <;> cases A15 <;> cases A16 <;> cases A17 <;> rfl
theorem op_ok {n : Nat} (f0 f1 : List Int) (hf : Bool) (fa fd cd : List Int) (cg vg pg : Int) (fee tip : List Int) (hp : Bool) (pa : List Int) (pv po : Int) (pd sg : List Int) (m : Int) :
    q00_Op.m n (f0, f1, hf, fa, fd, cd, cg, vg, pg, fee, tip, hp, pa, pv, po, pd, sg, m) = some (decide (((fd.length : Nat) : Int) ≤ m) && (decide (((cd.length : Nat) : Int) ≤ m) && (decide (((pd.length : Nat) : Int) ≤ m) && decide (((sg.length : Nat) : Int) ≤ m)))) := by
  simp only [q00_Op.m, q00_Op.g]
  cases decide (((fd.length : Nat) : Int) ≤ m) <;> cases decide (((cd.length : Nat) : Int) ≤ m) <;> cases decide (((pd.length : Nat) : Int) ≤ m) <;> rfl
theorem may_ok {n : Nat} (hn : 600 ≤ n) (f0 f1 : List Int) (hf : Bool) (fa fd cd : List Int) (cg vg pg : Int) {fee tip : List Int} (hp : Bool) (pa : List Int) (pv po : Int) (pd sg : List Int) (w1 : W4 fee) (w2 : W4 tip) :
    ∃ b, l15_may.m n (f0, f1, hf, fa, fd, cd, cg, vg, pg, fee, tip, hp, pa, pv, po, pd, sg) = some b ∧ (b = true → goodV hf fa fd cd cg vg pg fee tip hp pa pv po pd sg = true ∧ fd.length ≤ 1000 ∧ cd.length ≤ 1000 ∧ pd.length ≤ 1000 ∧ sg.length ≤ 1000) := by
  simp only [l15_may.m, l15_may.g, op_ok, bindO, Option.bind_some, q15_Check_ok hn f0 f1 hf fa fd cd cg vg pg hp pa pv po pd sg w1 w2]
  by_cases h : (decide (((fd.length : Nat) : Int) ≤ 1000) && (decide (((cd.length : Nat) : Int) ≤ 1000) && (decide (((pd.length : Nat) : Int) ≤ 1000) && decide (((sg.length : Nat) : Int) ≤ 1000)))) = true
  · rw [if_pos h]
    refine ⟨_, rfl, fun hb => ?_⟩
    simp only [Bool.and_eq_true, decide_eq_true_eq] at h
    refine ⟨?_, by omega, by omega, by omega, by omega⟩
    cases hg : goodV hf fa fd cd cg vg pg fee tip hp pa pv po pd sg with
    | true => rfl
    | false => rw [hg] at hb; cases hb
  · rw [if_neg h]
    exact ⟨false, rfl, fun hb => by cases hb⟩
end Go.Abs.Pure
end
section
set_option linter.unusedVariables false
set_option linter.unusedSimpArgs false
set_option maxRecDepth 100000
namespace Go.Abs.Pure
open Go Go.Abs
def gasV (cg vg pg pv po : Int) : Int := IntKind.wrap .u64 (IntKind.wrap .u64 (IntKind.wrap .u64 (IntKind.wrap .u64 (cg + vg) + pg) + pv) + po)
theorem gasV_range (cg vg pg pv po : Int) : 0 ≤ gasV cg vg pg pv po ∧ gasV cg vg pg pv po < 18446744073709551616 := by
  unfold gasV
  rw [wu64 (_ + po)]
  omega
theorem gasV_sum {cg vg pg pv po : Int} (h1 : 0 ≤ cg ∧ cg ≤ 1048576) (h2 : 0 ≤ vg ∧ vg ≤ 1048576) (h3 : 0 ≤ pg ∧ pg ≤ 1048576) (h4 : 0 ≤ pv ∧ pv ≤ 1048576) (h5 : 0 ≤ po ∧ po ≤ 1048576) : gasV cg vg pg pv po = cg + vg + pg + pv + po := by
  unfold gasV
  rw [wu64, wu64, wu64, wu64]
  omega
theorem W4_small {x : Int} (h : 0 ≤ x ∧ x < 18446744073709551616) : W4 [x, 0, 0, 0] := .mk h (by omega) (by omega) (by omega)
theorem V_small (x : Int) : V [x, 0, 0, 0] = x := by simp only [V]; omega
theorem userop_Gas_ok (n : Nat) (f0 f1 : List Int) (hf : Bool) (fa fd cd : List Int) (cg vg pg : Int) {fee tip : List Int} (hp : Bool) (pa : List Int) (pv po : Int) (pd sg : List Int) : userop_Gas.m n (f0, f1, hf, fa, fd, cd, cg, vg, pg, fee, tip, hp, pa, pv, po, pd, sg) = some (gasV cg vg pg pv po) := rfl
theorem q15_Gas_ok (n : Nat) (f0 f1 : List Int) (hf : Bool) (fa fd cd : List Int) (cg vg pg : Int) {fee tip : List Int} (hp : Bool) (pa : List Int) (pv po : Int) (pd sg : List Int) : q15_Gas.m n (f0, f1, hf, fa, fd, cd, cg, vg, pg, fee, tip, hp, pa, pv, po, pd, sg) = some (gasV cg vg pg pv po) := rfl
theorem userop_Prefund_ok {n : Nat} (hn : 100 ≤ n) (f0 f1 : List Int) (hf : Bool) (fa fd cd : List Int) (cg vg pg : Int) {fee tip : List Int} (hp : Bool) (pa : List Int) (pv po : Int) (pd sg : List Int) (w1 : W4 fee) : userop_Prefund.m n (f0, f1, hf, fa, fd, cd, cg, vg, pg, fee, tip, hp, pa, pv, po, pd, sg) = some (ofV (gasV cg vg pg pv po * V fee)) := by
  have g := W4_small (gasV_range cg vg pg pv po)
  simp only [userop_Prefund.m, userop_Prefund.g, userop_Gas_ok, word_From.m, word_From.g, bindO, Option.bind_some, word_Mul_ok hn g w1, V_small]
theorem q15_Prefund_ok {n : Nat} (hn : 100 ≤ n) (f0 f1 : List Int) (hf : Bool) (fa fd cd : List Int) (cg vg pg : Int) {fee tip : List Int} (hp : Bool) (pa : List Int) (pv po : Int) (pd sg : List Int) (w1 : W4 fee) : q15_Prefund.m n (f0, f1, hf, fa, fd, cd, cg, vg, pg, fee, tip, hp, pa, pv, po, pd, sg) = some (ofV (gasV cg vg pg pv po * V fee)) := by
  have g := W4_small (gasV_range cg vg pg pv po)
  simp only [q15_Prefund.m, q15_Prefund.g, q15_Gas_ok, q01_From.m, q01_From.g, bindO, Option.bind_some, q01_Mul_ok hn w1 g, V_small]
  rw [Int.mul_comm]
def priceV (base tip fee : List Int) : List Int := if B ≤ V base + V tip then fee else if V base + V tip < V fee then ofV (V base + V tip) else fee
theorem cmp_neg (x y : Int) : decide (cmpOf x y < 0) = decide (x < y) := by
  unfold cmpOf
  by_cases h : x < y
  · rw [if_pos h, decide_eq_true h]; rfl
  · rw [if_neg h, decide_eq_false h]
    by_cases e : x = y
    · rw [if_pos e]; rfl
    · rw [if_neg e]; rfl
theorem cmp_le (x y : Int) : decide (cmpOf x y ≤ 0) = decide (x ≤ y) := by
  have := cmp_pos x y
  rw [Bool.eq_iff_iff] at this ⊢
  simp only [decide_eq_true_eq] at this ⊢
  omega
theorem cmp_ge (x y : Int) : decide (cmpOf x y ≥ 0) = decide (y ≤ x) := by
  have := cmp_neg x y
  rw [Bool.eq_iff_iff] at this ⊢
  simp only [decide_eq_true_eq] at this ⊢
  omega
theorem V_sum {x y : List Int} (hx : W4 x) (hy : W4 y) (h : ¬ B ≤ V x + V y) : V (ofV (V x + V y)) = V x + V y := by
  rw [V_ofV]
  have a := V_range hx
  have b := V_range hy
  exact Int.emod_eq_of_lt (by omega) (by omega)
theorem userop_Price_ok {n : Nat} (hn : 100 ≤ n) (f0 f1 : List Int) (hf : Bool) (fa fd cd : List Int) (cg vg pg : Int) {fee tip : List Int} (hp : Bool) (pa : List Int) (pv po : Int) (pd sg : List Int) {base : List Int} (w1 : W4 fee) (w2 : W4 tip) (w3 : W4 base) : userop_Price.m n (f0, f1, hf, fa, fd, cd, cg, vg, pg, fee, tip, hp, pa, pv, po, pd, sg, base) = some (priceV base tip fee) := by
  simp only [userop_Price.m, userop_Price.g, bindO, Option.bind_some, word_Add_ok hn w3 w2, priceV]
  by_cases h : B ≤ V base + V tip
  · rw [decide_eq_true h, if_pos h]; rfl
  · rw [decide_eq_false h, if_neg h]
    simp only [Bool.not_false, if_true, word_Cmp_ok hn (ofV_W4 _) w1, Option.bind_some, cmp_neg, V_sum w3 w2 h]
    by_cases k : V base + V tip < V fee
    · rw [decide_eq_true k, if_pos k]; rfl
    · rw [decide_eq_false k, if_neg k]; rfl
theorem q15_Price_ok {n : Nat} (hn : 100 ≤ n) (f0 f1 : List Int) (hf : Bool) (fa fd cd : List Int) (cg vg pg : Int) {fee tip : List Int} (hp : Bool) (pa : List Int) (pv po : Int) (pd sg : List Int) {base : List Int} (w1 : W4 fee) (w2 : W4 tip) (w3 : W4 base) : q15_Price.m n (f0, f1, hf, fa, fd, cd, cg, vg, pg, fee, tip, hp, pa, pv, po, pd, sg, base) = some (priceV base tip fee) := by
  simp only [q15_Price.m, q15_Price.g, bindO, Option.bind_some, q01_Add_ok hn w2 w3, priceV]
  rw [Int.add_comm (V tip)]
  by_cases h : B ≤ V base + V tip
  · rw [decide_eq_true h, if_pos h]; rfl
  · rw [decide_eq_false h, if_neg h]
    simp only [Bool.false_eq_true, if_false, q01_Cmp_ok hn (ofV_W4 _) w1, Option.bind_some, cmp_pos, V_sum w3 w2 h]
    by_cases k : V base + V tip < V fee
    · rw [decide_eq_false (show ¬ V fee < V base + V tip by omega), if_pos k]; rfl
    · rw [if_neg k]
      by_cases e : V fee < V base + V tip
      · rw [decide_eq_true e]; rfl
      · rw [decide_eq_false e]
        have : V base + V tip = V fee := by omega
        simp only [Bool.false_eq_true, if_false, this, ofV_V w1]
theorem priceV_W4 {base tip fee : List Int} (w1 : W4 fee) : W4 (priceV base tip fee) := by
  unfold priceV
  split
  · exact w1
  · split
    · exact ofV_W4 _
    · exact w1
end Go.Abs.Pure
end
section
set_option maxRecDepth 100000
namespace Go.Abs.Pure
open Go Go.Abs
theorem user_known : l15_known.m 200000 () = some true := by kernel_rfl
end Go.Abs.Pure
end
section
set_option linter.unusedVariables false
set_option linter.unusedSimpArgs false
set_option maxRecDepth 100000
namespace Go.Abs.Pure
open Go Go.Abs
theorem priceV_le {base tip fee : List Int} (w1 : W4 fee) (w2 : W4 tip) (w3 : W4 base) : V (priceV base tip fee) ≤ V fee := by
  unfold priceV
  split
  · exact Int.le_refl _
  · rename_i h
    split
    · rw [V_sum w3 w2 h]; omega
    · exact Int.le_refl _
theorem priceV_ge {base tip fee : List Int} (w1 : W4 fee) (w2 : W4 tip) (w3 : W4 base) : (V fee < V base → V fee ≤ V (priceV base tip fee)) ∧ (¬ V fee < V base → V base ≤ V (priceV base tip fee)) := by
  have a := V_range w2
  unfold priceV
  split
  · constructor <;> intro <;> omega
  · rename_i h
    split
    · rw [V_sum w3 w2 h]
      constructor <;> intro <;> omega
    · constructor <;> intro <;> omega
theorem V_id {x : Int} (h0 : 0 ≤ x) (h1 : x < B) : V (ofV x) = x := by rw [V_ofV]; exact Int.emod_eq_of_lt h0 h1
theorem UseropPrices (f0 : List Int) (h0 : InA .u8 20 f0) (f1 : List Int) (h1 : InA .u64 4 f1) (hf : Bool) (fa : List Int) (h3 : InA .u8 20 fa) (fd : List Int) (h4 : InS .u8 fd) (cd : List Int) (h5 : InS .u8 cd) (cg : Int) (h6 : InK .u64 cg) (vg : Int) (h7 : InK .u64 vg) (pg : Int) (h8 : InK .u64 pg) (fee : List Int) (h9 : InA .u64 4 fee) (tip : List Int) (h10 : InA .u64 4 tip) (hp : Bool) (pa : List Int) (h12 : InA .u8 20 pa) (pv : Int) (h13 : InK .u64 pv) (po : Int) (h14 : InK .u64 po) (pd : List Int) (h15 : InS .u8 pd) (sg : List Int) (h16 : InS .u8 sg) (base : List Int) (hb : InA .u64 4 base) : ∃ n, l15_UseropPrices.m n (f0, f1, hf, fa, fd, cd, cg, vg, pg, fee, tip, hp, pa, pv, po, pd, sg, base) = some true := by
  have w1 := W4.of h9
  have w2 := W4.of h10
  have w3 := W4.of hb
  have n1 : 100 ≤ 200000 := by omega
  obtain ⟨b, hm, hg⟩ := may_ok (n := 200000) (by omega) f0 f1 hf fa fd cd cg vg pg hp pa pv po pd sg w1 w2
  refine ⟨200000, ?_⟩
  simp only [l15_UseropPrices.m, l15_UseropPrices.g, hm, bindO, Option.bind_some, user_known]
  cases b with
  | false => rfl
  | true =>
    obtain ⟨good, _⟩ := hg rfl
    simp only [goodV, Bool.and_eq_true, Bool.not_eq_true', decide_eq_false_iff_not, decide_eq_true_eq] at good
    obtain ⟨_, _, _, _, g1, g2, g3, g4, g5, g6, g7, _⟩ := good
    have r := V_range w1
    have hfee : V fee < 1329227995784915872903807060280344576 := by
      rw [show (2 : Int) ^ 120 = 1329227995784915872903807060280344576 from rfl] at g6
      omega
    have hgas := gasV_sum (cg := cg) (vg := vg) (pg := pg) (pv := pv) (po := po) ⟨lo64 h6, by omega⟩ ⟨lo64 h7, by omega⟩ ⟨lo64 h8, by omega⟩ ⟨lo64 h13, by omega⟩ ⟨lo64 h14, by omega⟩
    have gg : 0 ≤ gasV cg vg pg pv po ∧ gasV cg vg pg pv po ≤ 5242880 := by
      have := lo64 h6; have := lo64 h7; have := lo64 h8; have := lo64 h13; have := lo64 h14
      omega
    have wg := W4_small (gasV_range cg vg pg pv po)
    have wp := priceV_W4 (base := base) (tip := tip) w1
    have p0 := V_range wp
    have p1 := priceV_le w1 w2 w3
    have p2 := priceV_ge w1 w2 w3
    have pf := userop_Prefund_ok (n := 200000) (tip := tip) n1 f0 f1 hf fa fd cd cg vg pg hp pa pv po pd sg w1
    have ga := userop_Gas_ok 200000 f0 f1 hf fa fd cd cg vg pg (fee := fee) (tip := tip) hp pa pv po pd sg
    have pr := userop_Price_ok (n := 200000) n1 f0 f1 hf fa fd cd cg vg pg hp pa pv po pd sg w1 w2 w3
    have mm := q01_Mul_ok n1 wp wg
    rw [V_small] at mm
    generalize priceV base tip fee = P at *
    generalize gasV cg vg pg pv po = g at *
    have m1 : V P * g ≤ V fee * g := Int.mul_le_mul_of_nonneg_right p1 gg.1
    have m2 : V fee * g ≤ V fee * 5242880 := Int.mul_le_mul_of_nonneg_left gg.2 r.1
    have m0 : 0 ≤ V P * g := Int.mul_nonneg p0.1 gg.1
    have hB : V fee * 5242880 < B := by unfold B; omega
    have q1 : V (ofV (V P * g)) = V P * g := V_id m0 (by omega)
    have q2 : V (ofV (g * V fee)) = V fee * g := by rw [Int.mul_comm]; exact V_id (by omega) (by omega)
    have c1 : decide (B ≤ V P * g) = false := decide_eq_false (by omega)
    have c2 : decide (V P ≤ V fee) = true := decide_eq_true p1
    have c3 : decide (V P * g ≤ V fee * g) = true := decide_eq_true m1
    simp only [Bool.not_true, Bool.false_eq_true, if_false, pr, Option.bind_some, q01_Cmp_ok n1 w1 w3, cmp_neg]
    by_cases h : V fee < V base
    · have c4 : decide (V fee ≤ V P) = true := decide_eq_true (p2.1 h)
      simp only [decide_eq_true h, if_true, ga, pf, q01_From.m, q01_From.g, Option.bind_some, mm, q01_Cmp_ok n1 wp w1, cmp_le, cmp_ge, c1, c2, c4, Bool.not_false, q01_Cmp_ok n1 (ofV_W4 _) (ofV_W4 _), q1, q2, c3]
    · have c4 : decide (V base ≤ V P) = true := decide_eq_true (p2.2 h)
      simp only [decide_eq_false h, Bool.false_eq_true, if_false, if_true, ga, pf, q01_From.m, q01_From.g, Option.bind_some, mm, q01_Cmp_ok n1 wp w1, q01_Cmp_ok n1 wp w3, cmp_le, cmp_ge, c1, c2, c4, Bool.not_false, q01_Cmp_ok n1 (ofV_W4 _) (ofV_W4 _), q1, q2, c3]
end Go.Abs.Pure
end
