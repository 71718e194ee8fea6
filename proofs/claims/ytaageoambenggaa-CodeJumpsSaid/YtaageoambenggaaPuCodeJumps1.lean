/- Plain laws about what the functions compute. Conditions: the arguments' bounds, as each theorem says. -/
import Derived.Test.YtaageoambenggaaBinG1
import Derived.Test.YtaageoambenggaaAbsG6
import Derived.Test.YtaageoambenggaaProg
import Derived.Test.YtaageoambenggaaFnCodeJumps1
section
set_option linter.unusedVariables false
namespace Go.Abs.Pure
open Go Go.Abs
def W4 (l : List Int) : Prop := l.length = 4 ∧ ∀ x ∈ l, 0 ≤ x ∧ x < 18446744073709551616
theorem W4.split {l : List Int} (h : W4 l) : ∃ a b c d, l = [a, b, c, d] ∧ (0 ≤ a ∧ a < 18446744073709551616) ∧ (0 ≤ b ∧ b < 18446744073709551616) ∧ (0 ≤ c ∧ c < 18446744073709551616) ∧ (0 ≤ d ∧ d < 18446744073709551616) := by
  obtain ⟨h1, h2⟩ := h
  match l, h1 with
  | [a, b, c, d], _ => exact ⟨a, b, c, d, rfl, h2 a (by simp), h2 b (by simp), h2 c (by simp), h2 d (by simp)⟩
theorem W4.mk {a b c d : Int} (ha : 0 ≤ a ∧ a < 18446744073709551616) (hb : 0 ≤ b ∧ b < 18446744073709551616) (hc : 0 ≤ c ∧ c < 18446744073709551616) (hd : 0 ≤ d ∧ d < 18446744073709551616) : W4 [a, b, c, d] :=
  ⟨rfl, by simp; exact ⟨ha, hb, hc, hd⟩⟩
theorem lo8 {x : Int} (h : InK .u8 x) : 0 ≤ x := h.1
theorem hi8 {x : Int} (h : InK .u8 x) : x < 256 := by have := h.2; simp [IntKind.max, IntKind.bits, IntKind.signed] at this; omega
theorem lo64 {x : Int} (h : InK .u64 x) : 0 ≤ x := h.1
theorem hi64 {x : Int} (h : InK .u64 x) : x < 18446744073709551616 := by have := h.2; simp [IntKind.max, IntKind.bits, IntKind.signed] at this; omega
theorem W4.of {l : List Int} (h : InA .u64 4 l) : W4 l := ⟨h.1, fun x hx => ⟨lo64 (h.2 x hx), hi64 (h.2 x hx)⟩⟩
def V : List Int → Int
  | [a, b, c, d] => a + b * 18446744073709551616 + c * 340282366920938463463374607431768211456 + d * 6277101735386680763835789423207666416102355444464034512896
  | _ => 0
def B : Int := 115792089237316195423570985008687907853269984665640564039457584007913129639936
def ofV (x : Int) : List Int := [x % 18446744073709551616, x / 18446744073709551616 % 18446744073709551616, x / 340282366920938463463374607431768211456 % 18446744073709551616, x / 6277101735386680763835789423207666416102355444464034512896 % 18446744073709551616]
theorem V_range {l : List Int} (h : W4 l) : 0 ≤ V l ∧ V l < B := by
  obtain ⟨a, b, c, d, rfl, ha, hb, hc, hd⟩ := h.split
  simp only [V, B]; omega
theorem eq_ofV {l : List Int} (h : W4 l) {x : Int} (hx : V l = x % B) : l = ofV x := by
  obtain ⟨a, b, c, d, rfl, ha, hb, hc, hd⟩ := h.split
  simp only [V, B] at hx
  simp only [ofV, List.cons.injEq, and_true]
  refine ⟨?_, ?_, ?_, ?_⟩ <;> omega
theorem digits {a b c d t : Int} (q : Int) (ha : 0 ≤ a ∧ a < 18446744073709551616) (hb : 0 ≤ b ∧ b < 18446744073709551616) (hc : 0 ≤ c ∧ c < 18446744073709551616) (hd : 0 ≤ d ∧ d < 18446744073709551616) (h : t = V [a, b, c, d] + B * q) : [a, b, c, d] = ofV t := by
  have r := V_range (.mk ha hb hc hd)
  refine eq_ofV (.mk ha hb hc hd) ?_
  rw [h, Int.add_mul_emod_self_left, Int.emod_eq_of_lt r.1 r.2]
theorem ofV_V {l : List Int} (h : W4 l) : ofV (V l) = l := by
  obtain ⟨h0, h1⟩ := V_range h
  exact (eq_ofV h (by rw [Int.emod_eq_of_lt h0 h1])).symm
end Go.Abs.Pure
end
section
set_option linter.unusedVariables false
set_option linter.unusedSimpArgs false
namespace Go.Abs.Pure
open Go Go.Abs
def val (b : Int) : List Int → Int
  | [] => 0
  | x :: r => x + b * val b r
def Dig (b : Int) (l : List Int) : Prop := ∀ x ∈ l, 0 ≤ x ∧ x < b
theorem Dig.getD {b : Int} {l : List Int} (h : Dig b l) {i : Nat} (hi : i < l.length) : 0 ≤ l.getD i 0 ∧ l.getD i 0 < b := by
  rw [List.getD_eq_getElem?_getD, List.getElem?_eq_getElem hi]
  exact h _ (List.getElem_mem hi)
theorem Dig.set {b : Int} {l : List Int} (h : Dig b l) {i : Nat} {d : Int} (hd : 0 ≤ d ∧ d < b) : Dig b (l.set i d) := fun x hx => by
  rcases List.mem_or_eq_of_mem_set hx with h' | h'
  · exact h x h'
  · rw [h']; exact hd
theorem val_set {b : Int} : ∀ {l : List Int} {k : Nat} {d : Int}, k < l.length → val b (l.set k d) = val b l + (d - l.getD k 0) * b ^ k
  | x :: r, 0, d, _ => by simp only [List.set_cons_zero, val, List.getD_cons_zero]; grind
  | x :: r, k + 1, d, h => by
    have ih := val_set (b := b) (l := r) (k := k) (d := d) (by simpa using h)
    simp only [List.set_cons_succ, val, List.getD_cons_succ, ih]
    grind
theorem val_take {b : Int} : ∀ {l : List Int} {k : Nat}, k < l.length → val b (l.take (k + 1)) = val b (l.take k) + l.getD k 0 * b ^ k
  | x :: r, 0, _ => by simp [val]
  | x :: r, k + 1, h => by
    have ih := val_take (b := b) (l := r) (k := k) (by simpa using h)
    simp only [List.take_succ_cons, val, List.getD_cons_succ] at ih ⊢
    rw [ih]
    grind
theorem val_bound {b : Int} (hb : 0 < b) : ∀ {l : List Int}, Dig b l → 0 ≤ val b l ∧ val b l < b ^ l.length
  | [], _ => by simp [val]
  | x :: r, h => by
    have ih := val_bound hb (l := r) fun y hy => h y (by simp [hy])
    have hx := h x (by simp)
    have h1 : val b r + 1 ≤ b ^ r.length := by omega
    have h2 := Int.mul_le_mul_of_nonneg_left h1 (Int.le_of_lt hb)
    have h3 := Int.mul_nonneg (Int.le_of_lt hb) ih.1
    simp only [val, List.length_cons, Int.pow_succ]
    rw [Int.mul_comm (b ^ r.length) b]
    rw [Int.mul_add, Int.mul_one] at h2
    omega
theorem val_replicate (b : Int) : ∀ n, val b (List.replicate n 0) = 0
  | 0 => rfl
  | n + 1 => by simp [List.replicate_succ, val, val_replicate b n]
theorem getD_set {l : List Int} {i j : Nat} {d : Int} (h : i ≠ j) : (l.set i d).getD j 0 = l.getD j 0 := by
  simp [List.getD_eq_getElem?_getD, h]
structure Row (b x : Int) (y : List Int) (i k : Nat) (o0 o : List Int) (c : Int) : Prop where
  len : o.length = o0.length
  dig : Dig b o
  car : 0 ≤ c ∧ c < b
  eq : val b o + c * b ^ (i + k) = val b o0 + x * val b (y.take k) * b ^ i
  up : ∀ j, i + k ≤ j → o.getD j 0 = o0.getD j 0
theorem Row.start {b x : Int} {y : List Int} {i : Nat} {o : List Int} (hb : 0 < b) (h : Dig b o) : Row b x y i 0 o o 0 := ⟨rfl, h, ⟨by omega, hb⟩, by simp [val], fun _ _ => rfl⟩
theorem Row.step {b x : Int} {y : List Int} {i k : Nat} {o0 o : List Int} {c d c' : Int} (h : Row b x y i k o0 o c) (hk : k < y.length) (hi : i + k < o.length)
    (ht : o.getD (i + k) 0 + x * y.getD k 0 + c = d + b * c') (hd : 0 ≤ d ∧ d < b) (hc : 0 ≤ c' ∧ c' < b) : Row b x y i (k + 1) o0 (o.set (i + k) d) c' := by
  refine ⟨by simp [h.len], h.dig.set hd, hc, ?_, fun j hj => ?_⟩
  · rw [val_set hi, val_take hk]
    have e := h.eq
    rw [show i + (k + 1) = i + k + 1 by omega, Int.pow_succ]
    rw [Int.pow_add] at e ⊢
    generalize val b o = vo at *
    generalize val b o0 = v0 at *
    generalize val b (y.take k) = s at *
    generalize o.getD (i + k) 0 = oo at *
    generalize y.getD k 0 = yk at *
    generalize b ^ i = p at *
    generalize b ^ k = q at *
    grind
  · rw [getD_set (by omega)]
    exact h.up j (by omega)
structure Rows (b : Int) (x y : List Int) (i : Nat) (o : List Int) : Prop where
  len : o.length = x.length + y.length
  dig : Dig b o
  eq : val b o = val b (x.take i) * val b y
  up : ∀ j, i + y.length ≤ j → o.getD j 0 = 0
theorem Rows.start {b : Int} (hb : 0 < b) {x y : List Int} {n : Nat} (hn : n = x.length + y.length) : Rows b x y 0 (List.replicate n 0) :=
  ⟨by simp [hn], fun z hz => by have := List.eq_of_mem_replicate hz; omega, by simp [val, val_replicate], fun j _ => by
    simp only [List.getD_eq_getElem?_getD, List.getElem?_replicate]; split <;> rfl⟩
theorem Rows.step {b : Int} {x y : List Int} {i : Nat} {o0 o : List Int} {c : Int} (h : Rows b x y i o0) (hi : i < x.length) (r : Row b (x.getD i 0) y i y.length o0 o c) : Rows b x y (i + 1) (o.set (i + y.length) c) := by
  have hl : o.length = x.length + y.length := by rw [r.len, h.len]
  refine ⟨by simpa using hl, r.dig.set r.car, ?_, fun j hj => ?_⟩
  · rw [val_set (by omega), r.up _ (Nat.le_refl _), h.up _ (Nat.le_refl _), val_take hi]
    have e := r.eq
    rw [h.eq, List.take_length] at e
    generalize val b o = vo at *
    generalize val b (x.take i) = s at *
    generalize val b y = vy at *
    generalize b ^ i = p at *
    generalize b ^ (i + y.length) = q at *
    grind
  · rw [getD_set (by omega), r.up j (by omega)]
    exact h.up j (by omega)
theorem Rows.all {b : Int} {x y o : List Int} (h : Rows b x y x.length o) : val b o = val b x * val b y := by rw [h.eq, List.take_length]
theorem V_val {l : List Int} (h : l.length = 4) : V l = val 18446744073709551616 l := by
  match l, h with
  | [a, b, c, d], _ => simp only [V, val]; omega
theorem W4.dig {l : List Int} (h : W4 l) : Dig 18446744073709551616 l := h.2
theorem or_zero {a b : Int} (ha : 0 ≤ a) (ka : a < 18446744073709551616) (hb : 0 ≤ b) (kb : b < 18446744073709551616) : (0 ≤ ibits .or .u64 a b ∧ ibits .or .u64 a b < 18446744073709551616) ∧ (ibits .or .u64 a b = 0 ↔ a = 0 ∧ b = 0) := by
  rw [or_u64 ha ka hb kb]
  have h1 := Nat.or_lt_two_pow (x := a.toNat) (y := b.toNat) (n := 64) (by omega) (by omega)
  refine ⟨by omega, ?_⟩
  have h2 : a.toNat ||| b.toNat = 0 ↔ a.toNat = 0 ∧ b.toNat = 0 := Nat.or_eq_zero_iff
  omega
end Go.Abs.Pure
end
section
set_option linter.unusedVariables false
set_option linter.unusedSimpArgs false
namespace Go.Abs.Pure
open Go Go.Abs
def H : Int := 57896044618658097711785492504343953926634992332820282019728792003956564819968
def S (x : List Int) : Int := if V x < H then V x else V x - B
end Go.Abs.Pure
end
section
set_option linter.unusedVariables false
set_option linter.unusedSimpArgs false
namespace Go.Abs.Pure
open Go Go.Abs
theorem pow_pos' (k : Nat) : (0 : Int) < 2 ^ k := Int.pow_pos (by omega)
theorem pow_split {i k : Nat} (h : i ≤ k) : (2 : Int) ^ k = 2 ^ i * 2 ^ (k - i) := by rw [← Int.pow_add]; congr 1; omega
end Go.Abs.Pure
end
section
set_option linter.unusedVariables false
set_option linter.unusedSimpArgs false
set_option maxRecDepth 20000
namespace Go.Abs.Pure
open Go Go.Abs
theorem zero_W4 : W4 [0, 0, 0, 0] := .mk (by omega) (by omega) (by omega) (by omega)
end Go.Abs.Pure
end
section
set_option linter.unusedVariables false
set_option linter.unusedSimpArgs false
set_option maxRecDepth 20000
namespace Go.Abs.Pure
open Go Go.Abs
theorem pow_le_pow' {j k : Nat} (h : j ≤ k) : (2 : Int) ^ j ≤ 2 ^ k := by
  rw [pow_split h]
  have h1 := Int.mul_le_mul_of_nonneg_left (show (1 : Int) ≤ 2 ^ (k - j) by have := pow_pos' (k - j); omega) (Int.le_of_lt (pow_pos' j))
  omega
end Go.Abs.Pure
end
section
set_option linter.unusedVariables false
set_option linter.unusedSimpArgs false
set_option maxRecDepth 20000
namespace Go.Abs.Pure
open Go Go.Abs
theorem or_apart {x y : Int} {s : Nat} (hs : s ≤ 64) (hx : 0 ≤ x ∧ x * 2 ^ s < 18446744073709551616) (hy : 0 ≤ y ∧ y < 2 ^ s) : ibits .or .u64 (x * 2 ^ s) y = x * 2 ^ s + y := by
  obtain ⟨a, rfl⟩ := Int.eq_ofNat_of_zero_le hx.1
  obtain ⟨b, rfl⟩ := Int.eq_ofNat_of_zero_le hy.1
  have hp : ((2 : Int) ^ s) = ((2 ^ s : Nat) : Int) := by rw [Int.natCast_pow]; rfl
  have h1 : b < 2 ^ s := by have := hy.2; rw [hp] at this; exact Int.ofNat_lt.1 this
  have h2 : (a : Int) * 2 ^ s = ((a * 2 ^ s : Nat) : Int) := by rw [hp, Int.natCast_mul]
  have hle : 2 ^ s ≤ 2 ^ 64 := Nat.pow_le_pow_right (by omega) hs
  have hlt : a * 2 ^ s < 2 ^ 64 := by
    have := hx.2
    rw [h2] at this
    have e : (18446744073709551616 : Int) = ((2 ^ 64 : Nat) : Int) := rfl
    rw [e] at this
    exact Int.ofNat_lt.1 this
  rw [h2, or_u64 (Int.natCast_nonneg _) (by omega) (Int.natCast_nonneg _) (by omega), Int.toNat_natCast, Int.toNat_natCast, ← Nat.shiftLeft_eq, ← Nat.shiftLeft_add_eq_or_of_lt h1]
  rw [Nat.shiftLeft_eq, Int.natCast_add]
theorem or_apart' {x y : Int} {s : Nat} (hs : s ≤ 64) (hx : 0 ≤ x ∧ x * 2 ^ s < 18446744073709551616) (hy : 0 ≤ y ∧ y < 2 ^ s) : ibits .or .u64 y (x * 2 ^ s) = x * 2 ^ s + y := by
  rw [← or_apart hs hx hy]
  show IntKind.wrap .u64 ((BitVec.ofInt 64 y ||| BitVec.ofInt 64 (x * 2 ^ s)).toNat : Nat) = IntKind.wrap .u64 ((BitVec.ofInt 64 (x * 2 ^ s) ||| BitVec.ofInt 64 y).toNat : Nat)
  rw [BitVec.or_comm]
theorem set_same {l : List Int} {i : Nat} (h : l.getD i 0 = 0) (hi : i < l.length) : l = l.set i 0 := by
  have : l[i] = 0 := by rw [List.getD_eq_getElem?_getD, List.getElem?_eq_getElem hi] at h; simpa using h
  rw [← this, List.set_getElem_self]
end Go.Abs.Pure
end
section
set_option linter.unusedVariables false
set_option linter.unusedSimpArgs false
set_option maxRecDepth 20000
namespace Go.Abs.Pure
open Go Go.Abs
def readI (b : List Int) : Nat → Int
  | 0 => 0
  | i + 1 => readI b i + b.getD (b.length - 1 - i) 0 * 2 ^ (8 * i)
theorem digit_low {o : List Int} (ho : W4 o) {i : Nat} (hi : i < 32) (hv : V o < 2 ^ (8 * i)) : o.getD (i / 8) 0 < 2 ^ (i % 8 * 8) := by
  have hp : (2 : Int) ^ (8 * i) = 18446744073709551616 ^ (i / 8) * 2 ^ (i % 8 * 8) := by
    rw [show (18446744073709551616 : Int) = 2 ^ 64 from rfl, ← Int.pow_mul, ← Int.pow_add]; congr 1; omega
  have hd := ho.dig.getD (i := i / 8) (by rw [ho.1]; omega)
  rw [hp, V_val ho.1] at hv
  have key : ∀ {l : List Int}, Dig 18446744073709551616 l → ∀ k, l.getD k 0 * 18446744073709551616 ^ k ≤ val 18446744073709551616 l := by
    intro l
    induction l with
    | nil => intro _ k; simp [val]
    | cons x r ih =>
      intro h k
      have hx := h x (by simp)
      have hr : Dig 18446744073709551616 r := fun y hy => h y (by simp [hy])
      have hb := val_bound (b := 18446744073709551616) (by omega) hr
      cases k with
      | zero => simp only [List.getD_cons_zero, val, Int.pow_zero, Int.mul_one]; omega
      | succ k =>
        have := ih hr k
        simp only [List.getD_cons_succ, val, Int.pow_succ]
        rw [← Int.mul_assoc]
        generalize r.getD k 0 * 18446744073709551616 ^ k = t at *
        omega
  have := key ho.dig (i / 8)
  have p := Int.pow_pos (n := 18446744073709551616) (m := i / 8) (by omega)
  generalize o.getD (i / 8) 0 = d at *
  generalize (18446744073709551616 : Int) ^ (i / 8) = q at *
  exact Int.lt_of_mul_lt_mul_left (a := q) (by rw [Int.mul_comm]; omega) (Int.le_of_lt p)
theorem put_byte {o : List Int} (ho : W4 o) {i : Nat} (hi : i < 32) (hv : V o < 2 ^ (8 * i)) {x : Int} (hx : 0 ≤ x ∧ x < 256) :
    W4 (o.set (i / 8) (ibits .or .u64 (o.getD (i / 8) 0) (ishl .u64 x ((i % 8 * 8 : Nat) : Int)))) ∧ V (o.set (i / 8) (ibits .or .u64 (o.getD (i / 8) 0) (ishl .u64 x ((i % 8 * 8 : Nat) : Int)))) = V o + x * 2 ^ (8 * i) := by
  have hl := ho.1
  have hd := ho.dig.getD (i := i / 8) (by omega)
  have hlow := digit_low ho hi hv
  have p := pow_pos' (i % 8 * 8)
  have hs : x * 2 ^ (i % 8 * 8) < 18446744073709551616 := by
    have h1 := Int.mul_lt_mul_of_pos_right hx.2 p
    have h2 := pow_le_pow' (show 8 + i % 8 * 8 ≤ 64 by omega)
    rw [Int.pow_add, show (2 : Int) ^ 8 = 256 from rfl, show (2 : Int) ^ 64 = 18446744073709551616 from rfl] at h2
    omega
  have hn := Int.mul_nonneg hx.1 (Int.le_of_lt p)
  rw [ishl_ofNat .u64 x _ (by simp [IntKind.bits]; omega), wu64, Int.emod_eq_of_lt hn hs]
  have hr := (or_zero hd.1 hd.2 hn hs).1
  rw [or_apart' (by omega) ⟨hx.1, hs⟩ ⟨hd.1, hlow⟩] at hr ⊢
  have hw : W4 (o.set (i / 8) (x * 2 ^ (i % 8 * 8) + o.getD (i / 8) 0)) := ⟨by simp [hl], ho.dig.set hr⟩
  refine ⟨hw, ?_⟩
  rw [V_val hw.1, V_val hl, val_set (by omega)]
  have : (2 : Int) ^ (8 * i) = 2 ^ (i % 8 * 8) * 18446744073709551616 ^ (i / 8) := by
    rw [show (18446744073709551616 : Int) = 2 ^ 64 from rfl, ← Int.pow_mul, ← Int.pow_add]; congr 1; omega
  rw [this]
  generalize o.getD (i / 8) 0 = u
  generalize (2 : Int) ^ (i % 8 * 8) = p1
  generalize (18446744073709551616 : Int) ^ (i / 8) = p2
  grind
theorem readI_bound {b : List Int} (hb : ∀ x ∈ b, 0 ≤ x ∧ x < 256) : ∀ i, 0 ≤ readI b i ∧ readI b i < 2 ^ (8 * i)
  | 0 => by simp [readI]
  | i + 1 => by
    have ih := readI_bound hb i
    have hx : 0 ≤ b.getD (b.length - 1 - i) 0 ∧ b.getD (b.length - 1 - i) 0 < 256 := by
      rw [List.getD_eq_getElem?_getD]
      cases h : b[b.length - 1 - i]? with
      | none => simp
      | some x => exact hb x (List.mem_of_getElem? h)
    simp only [readI]
    have p := pow_pos' (8 * i)
    have h1 := Int.mul_nonneg hx.1 (Int.le_of_lt p)
    have h2 := Int.mul_le_mul_of_nonneg_right (show b.getD (b.length - 1 - i) 0 ≤ 255 by omega) (Int.le_of_lt p)
    rw [show 8 * (i + 1) = 8 * i + 8 by omega, Int.pow_add, show (2 : Int) ^ 8 = 256 from rfl]
    omega
theorem byte_getD {b : List Int} (hb : ∀ x ∈ b, 0 ≤ x ∧ x < 256) (i : Nat) : 0 ≤ b.getD i 0 ∧ b.getD i 0 < 256 := by
  rw [List.getD_eq_getElem?_getD]
  cases h : b[i]? with
  | none => simp
  | some x => exact hb x (List.mem_of_getElem? h)
end Go.Abs.Pure
end
section
set_option linter.unusedVariables false
set_option linter.unusedSimpArgs false
set_option maxRecDepth 20000
namespace Go.Abs.Pure
open Go Go.Abs
def Short (b : List Int) : Prop := b.length ≤ 100000
def rd (b : List Int) : Nat := if b.length ≤ 32 then b.length else 32
theorem rd_le (b : List Int) : rd b ≤ 32 ∧ rd b ≤ b.length ∧ (rd b = 32 ∨ rd b = b.length) := by unfold rd; split <;> omega
theorem at_next (i : Nat) (h : i < 32) : IntKind.wrap .i64 ((i : Int) + 1) = ((i + 1 : Nat) : Int) := by rw [wi64]; omega
theorem at_div (i : Nat) (h : i < 32) : IntKind.wrap .i64 (Int.tdiv (i : Int) 8) = ((i / 8 : Nat) : Int) := by rw [tdiv_nonneg' (by omega), wi64]; omega
theorem at_mod (i : Nat) (h : i < 32) : IntKind.wrap .u64 (IntKind.wrap .i64 (Int.tmod (i : Int) 8 * 8)) = ((i % 8 * 8 : Nat) : Int) := by rw [tmod_nonneg' (by omega), wi64, wu64]; omega
theorem last_at (L i : Nat) (h : L ≤ 100000) (hi : i < L) : IntKind.wrap .i64 (IntKind.wrap .i64 (((L : Nat) : Int) - 1) - (i : Int)) = ((L - 1 - i : Nat) : Int) := by
  rw [wi64_id (n := ((L : Nat) : Int) - 1) (by omega) (by omega)]
  rw [wi64_id (by omega) (by omega)]
  omega
theorem q01_Read_loop {n : Nat} {b : List Int} (hb : ∀ x ∈ b, 0 ≤ x ∧ x < 256) (hlen : Short b) (z : List Int) : ∀ (r i fuel : Nat) (o : List Int), i + r = rd b → r + 1 ≤ fuel → W4 o → V o = readI b i →
    Fal.l4_0.g (fun a0 a1 => (a0, a1)) n fuel (i : Int) ((b.length : Nat) : Int) b o z = some (ofV (readI b (rd b)), z)
  | 0, i, fuel + 1, o, hi, hf, ho, hv => by
    unfold Short at hlen
    have hr := rd_le b
    have he : i = rd b := by omega
    show Fal.l4_0.r _ _ _ _ _ _ _ _ = _
    have fin : o = ofV (readI b (rd b)) := by rw [← he, ← hv, ofV_V ho]
    by_cases h32 : i < 32
    · have h1 : (decide ((i : Int) < 32)) = true := by simp; omega
      have h2 : (decide ((i : Int) < ((b.length : Nat) : Int))) = false := by simp; omega
      simp only [Fal.l4_0.r, h1, h2, if_true, Bool.false_eq_true, if_false]
      rw [← fin]
    · have h1 : (decide ((i : Int) < 32)) = false := by simp; omega
      simp only [Fal.l4_0.r, h1, Bool.false_eq_true, if_false]
      rw [← fin]
  | r + 1, i, fuel + 1, o, hi, hf, ho, hv => by
    have hlen' := hlen
    unfold Short at hlen'
    have hr := rd_le b
    have h1 : (decide ((i : Int) < 32)) = true := decide_eq_true (by omega)
    have h2 : (decide ((i : Int) < ((b.length : Nat) : Int))) = true := decide_eq_true (by omega)
    have h32 : i < 32 := Nat.lt_of_lt_of_le (Nat.lt_of_lt_of_le (Nat.lt_add_of_pos_right (Nat.succ_pos r)) (Nat.le_of_eq hi)) hr.1
    have w1 := at_next i h32
    have hib : i < b.length := Nat.lt_of_lt_of_le (Nat.lt_of_lt_of_le (Nat.lt_add_of_pos_right (Nat.succ_pos r)) (Nat.le_of_eq hi)) hr.2.1
    have w2 := last_at b.length i hlen' hib
    have w3 := at_div i h32
    have w4 := at_mod i h32
    have g1 : (0 : Int) ≤ ((i / 8 : Nat) : Int) := by omega
    have g2 : ((i / 8 : Nat) : Int) < 4 := by omega
    have g3 : (0 : Int) ≤ ((i % 8 * 8 : Nat) : Int) := by omega
    have g4 : (0 : Int) ≤ ((b.length - 1 - i : Nat) : Int) := by omega
    have g5 : ((b.length - 1 - i : Nat) : Int) < ((b.length : Nat) : Int) := by omega
    have hx := byte_getD hb (b.length - 1 - i)
    show Fal.l4_0.r _ _ _ _ _ _ _ _ = _
    simp only [Fal.l4_0.r, h1, h2, w1, w2, w3, w4, g1, g2, g3, g4, g5, if_true, Int.toNat_natCast]
    rw [wu64_id hx.1 (by omega)]
    obtain ⟨k1, k2⟩ := put_byte ho (i := i) (by omega) (by rw [hv]; exact (readI_bound hb i).2) hx
    exact q01_Read_loop hb hlen z r (i + 1) fuel _ (by omega) (by omega) k1 (by rw [k2, hv]; rfl)
theorem q01_Read_ok {n : Nat} (hn : 100 ≤ n) {b : List Int} (hb : ∀ x ∈ b, 0 ≤ x ∧ x < 256) (hlen : Short b) : Fal.m n b = some (ofV (readI b (rd b))) := by
  have hr := rd_le b
  have := q01_Read_loop (n := n) hb hlen [0, 0, 0, 0] (rd b) 0 n [0, 0, 0, 0] (by omega) (by omega) zero_W4 rfl
  simp only [Fal.m, Fal.g, Fal.l4_0.m]
  rw [show ((0 : Nat) : Int) = 0 from rfl] at this
  rw [this]
  rfl
end Go.Abs.Pure
end
section
set_option linter.unusedVariables false
set_option linter.unusedSimpArgs false
set_option maxRecDepth 100000
namespace Go.Abs.Pure
open Go Go.Abs
theorem nextLt (o : Int) (k : Nat) : k < cNext o k := by unfold cNext; split <;> omega
theorem walk_fuel (b : List Int) : ∀ (f g k : Nat), b.length - k ≤ f → b.length - k ≤ g → cWalk b f k = cWalk b g k
  | 0, 0, _, _, _ => rfl
  | 0, g + 1, k, h, _ => by
    have : ¬ k < b.length := by omega
    simp [cWalk, this]
  | f + 1, 0, k, _, h => by
    have : ¬ k < b.length := by omega
    simp [cWalk, this]
  | f + 1, g + 1, k, h1, h2 => by
    simp only [cWalk]
    split
    · have := nextLt (cOp b k) k
      rw [walk_fuel b f g _ (by omega) (by omega)]
    · rfl
theorem steps_lt {b : List Int} {k : Nat} (h : k < b.length) : cSteps b k = (k, cOp b k) :: cSteps b (cNext (cOp b k) k) := by
  unfold cSteps
  obtain ⟨f, hf⟩ : ∃ f, b.length - k = f + 1 := ⟨b.length - k - 1, by omega⟩
  rw [hf]
  simp only [cWalk, if_pos h]
  have := nextLt (cOp b k) k
  rw [walk_fuel b f _ _ (by omega) (Nat.le_refl _)]
theorem steps_ge {b : List Int} {k : Nat} (h : b.length ≤ k) : cSteps b k = [] := by
  unfold cSteps
  rw [show b.length - k = 0 by omega]
  rfl
theorem places {b : List Int} {P : Nat → Prop} (h0 : ∀ k, b.length ≤ k → P k) (h1 : ∀ k, k < b.length → P (cNext (cOp b k) k) → P k) : ∀ k, P k := by
  have key : ∀ m k, b.length - k ≤ m → P k := by
    intro m
    induction m with
    | zero => intro k hk; exact h0 k (by omega)
    | succ m ih =>
      intro k hk
      by_cases h : k < b.length
      · exact h1 k h (ih _ (by have := nextLt (cOp b k) k; omega))
      · exact h0 k (by omega)
  exact fun k => key _ k (Nat.le_refl _)
theorem jump_cons (x : Nat × Int) (l : List (Nat × Int)) : cJump (x :: l) = if x.2 = 91 then (x.1 : Int) :: cJump l else cJump l := by
  unfold cJump
  by_cases h : x.2 = 91
  · simp [h]
  · simp [h]
theorem jump_mem {b : List Int} : ∀ k, ∀ x ∈ cJump (cSteps b k), ∃ j : Nat, x = (j : Int) ∧ k ≤ j ∧ j < b.length ∧ cOp b j = 91 := by
  refine places (b := b) (fun k h => ?_) fun k h ih => ?_
  · rw [steps_ge h]; simp [cJump]
  · rw [steps_lt h, jump_cons]
    intro x hx
    have hk := nextLt (cOp b k) k
    split at hx
    · rename_i h91
      rcases List.mem_cons.1 hx with rfl | hx
      · exact ⟨k, rfl, Nat.le_refl _, h, h91⟩
      · obtain ⟨j, e1, e2, e3, e4⟩ := ih x hx
        exact ⟨j, e1, by omega, e3, e4⟩
    · obtain ⟨j, e1, e2, e3, e4⟩ := ih x hx
      exact ⟨j, e1, by omega, e3, e4⟩
theorem jump_length {b : List Int} : ∀ k, (cJump (cSteps b k)).length ≤ b.length - k := by
  refine places (b := b) (fun k h => ?_) fun k h ih => ?_
  · rw [steps_ge h]; simp [cJump]
  · rw [steps_lt h, jump_cons]
    have hk := nextLt (cOp b k) k
    split
    · simp only [List.length_cons]; omega
    · omega
theorem may_jump {b : List Int} (n : Nat) (h91 : cOp b n = 91) : ∀ k, cGo (n : Int) (cSteps b k) = decide ((n : Int) ∈ cJump (cSteps b k)) := by
  refine places (b := b) (fun k h => ?_) fun k h ih => ?_
  · rw [steps_ge h]; simp [cJump, cGo]
  · rw [steps_lt h, jump_cons, cGo]
    by_cases hn : (n : Int) ≤ (k : Int)
    · rw [if_pos hn]
      by_cases e : n = k
      · subst e
        simp [h91]
      · have ne : ((k : Int) == (n : Int)) = false := by rw [beq_eq_false_iff_ne]; omega
        rw [ne]
        symm
        rw [decide_eq_false_iff_not]
        intro hm
        have hk := nextLt (cOp b k) k
        split at hm
        · rcases List.mem_cons.1 hm with h' | h'
          · simp only at h'; omega
          · obtain ⟨j, e1, e2, _⟩ := jump_mem _ _ h'; omega
        · obtain ⟨j, e1, e2, _⟩ := jump_mem _ _ hm; omega
    · rw [if_neg hn, ih]
      have : ((n : Int) = (k : Int)) = False := by rw [eq_iff_iff]; exact ⟨fun h' => by omega, fun h' => h'.elim⟩
      split
      · simp [this]
      · rfl
theorem no_jump {b : List Int} {n : Int} (h : ∀ j : Nat, n = (j : Int) → cOp b j ≠ 91) (k : Nat) : n ∉ cJump (cSteps b k) := by
  intro hm
  obtain ⟨j, e1, _, _, e4⟩ := jump_mem _ _ hm
  exact h j e1 e4
theorem wlen {l : Nat} (h : l ≤ 100000) : IntKind.wrap .u64 ((l : Nat) : Int) = (l : Int) := by rw [wu64]; omega
theorem getD_op (b : List Int) (k : Nat) : b.getD k 0 = cOp b k := by simp [cOp]
theorem op_ge {b : List Int} {k : Nat} (h : b.length ≤ k) : cOp b k = 0 := by simp [cOp, h]
theorem cAt_op (b : List Int) (k : Nat) : cAt b (k : Int) = cOp b k := by
  unfold cAt
  by_cases h : (k : Int) < (b.length : Int)
  · rw [if_pos h, Int.toNat_natCast, getD_op]
  · rw [if_neg h, op_ge (by omega)]
theorem q08_At_ok (n : Nat) {b : List Int} (hb : b.length ≤ 100000) (k : Nat) : Fbw.m n (b, (k : Int)) = some (cOp b k) := by
  simp only [Fbw.m, Fbw.g, wlen hb]
  by_cases h : k < b.length
  · have w : IntKind.wrap .i64 (k : Int) = (k : Int) := by rw [wi64]; omega
    rw [if_neg (by simp; omega), w, if_pos (by omega), if_pos (by omega), Int.toNat_natCast, getD_op]
  · rw [if_pos (by simp; omega), op_ge (by omega)]
def behind (b : List Int) (k m : Nat) : List Int := (List.range m).map fun i => cOp b (k + 1 + i)
theorem behind_succ (b : List Int) (k m : Nat) : behind b k (m + 1) = behind b k m ++ [cOp b (k + 1 + m)] := by simp [behind, List.range_succ]
theorem behind_length (b : List Int) (k m : Nat) : (behind b k m).length = m := by simp [behind]
theorem op_byte {b : List Int} (hb : ∀ x ∈ b, 0 ≤ x ∧ x < 256) (k : Nat) : 0 ≤ cOp b k ∧ cOp b k < 256 := by
  by_cases h : k < b.length
  · have : cOp b k = b[k] := by simp [cOp, h]
    rw [this]
    exact hb _ (List.getElem_mem h)
  · rw [op_ge (by omega)]; omega
theorem behind_byte {b : List Int} (hb : ∀ x ∈ b, 0 ≤ x ∧ x < 256) (k m : Nat) : ∀ x ∈ behind b k m, 0 ≤ x ∧ x < 256 := by
  intro x hx
  simp only [behind, List.mem_map] at hx
  obtain ⟨i, _, rfl⟩ := hx
  exact op_byte hb _
def pushN (o : Int) : Nat := if 95 ≤ o ∧ o ≤ 127 then (o - 95).toNat else 0
def pushW (b : List Int) (k : Nat) : List Int := if 95 ≤ cOp b k ∧ cOp b k ≤ 127 then ofV (readI (behind b k (pushN (cOp b k))) (rd (behind b k (pushN (cOp b k))))) else [0, 0, 0, 0]
theorem next_push (b : List Int) (k : Nat) : cNext (cOp b k) k = k + 1 + pushN (cOp b k) := by unfold cNext pushN; split <;> split <;> omega
theorem push_loop {n : Nat} {b : List Int} (hl : b.length ≤ 100000) (k m : Nat) (hk : k < b.length) (hm : m ≤ 32) (z : List Int) : ∀ (r i fuel : Nat), i + r = m → r + 1 ≤ fuel →
    Fam.l7_0.g (fun a0 a1 a2 => (a0, a1, a2)) n fuel ((i + 1 : Nat) : Int) (m : Int) b (k : Int) (behind b k i) z = some ((m : Int), behind b k m, z)
  | 0, i, fuel + 1, hi, hf => by
    obtain rfl : i = m := by omega
    show Fam.l7_0.r _ _ _ _ _ _ _ _ _ = _
    simp only [Fam.l7_0.r]
    rw [if_neg (by simp; omega)]
  | r + 1, i, fuel + 1, hi, hf => by
    show Fam.l7_0.r _ _ _ _ _ _ _ _ _ = _
    simp only [Fam.l7_0.r]
    have w1 : IntKind.wrap .u64 ((k : Int) + ((i + 1 : Nat) : Int)) = ((k + 1 + i : Nat) : Int) := by rw [wu64]; omega
    have w2 : IntKind.wrap .u64 (((i + 1 : Nat) : Int) + 1) = ((i + 1 + 1 : Nat) : Int) := by rw [wu64]; omega
    rw [if_pos (decide_eq_true (by omega)), w1, q08_At_ok n hl]
    simp only [bindO, Option.bind_some]
    rw [if_pos (by rw [behind_length]; omega), w2, ← behind_succ]
    exact push_loop hl k m hk hm z r (i + 1) fuel (by omega) (by omega)
theorem q08_Push_ok {n : Nat} (hn : 100 ≤ n) {b : List Int} (hb : ∀ x ∈ b, 0 ≤ x ∧ x < 256) (hl : b.length ≤ 100000) (k : Nat) : Fam.m n (b, (k : Int)) = some (pushW b k, (pushN (cOp b k) : Int)) := by
  simp only [Fam.m, Fam.g, q08_At_ok n hl k, bindO, Option.bind_some, pushW, pushN]
  have h0 := op_byte hb k
  by_cases h1 : cOp b k < 95
  · rw [if_pos (decide_eq_true h1), if_neg (by omega), if_neg (by omega)]; rfl
  · rw [if_neg (by simp; omega)]
    by_cases h2 : cOp b k > 127
    · rw [if_pos (decide_eq_true h2), if_neg (by omega), if_neg (by omega)]; rfl
    · rw [if_neg (by simp; omega)]
      have hk : k < b.length := by
        rcases Nat.lt_or_ge k b.length with h | h
        · exact h
        · rw [op_ge h] at h1; omega
      obtain ⟨m, hm⟩ : ∃ m : Nat, cOp b k = 95 + (m : Int) := ⟨(cOp b k - 95).toNat, by omega⟩
      have w1 : IntKind.wrap .u64 (IntKind.wrap .u64 (cOp b k) - 95) = (m : Int) := by rw [wu64, wu64]; omega
      have hmm : (cOp b k - 95).toNat = m := by omega
      rw [w1, if_pos (by omega), if_pos (by omega), hmm]
      have e := push_loop (n := n) hl k m hk (by omega) [0, 0, 0, 0] m 0 n (by omega) (by omega)
      have e' : Fam.l7_0.m n n (1, (m : Int), b, (k : Int), [], [0, 0, 0, 0]) = some ((m : Int), behind b k m, [0, 0, 0, 0]) := e
      rw [e']
      simp only [Option.bind_some]
      rw [q01_Read_ok hn (behind_byte hb k m) (by show _ ≤ 100000; rw [behind_length]; omega)]
      rfl
theorem jumps_loop {n : Nat} (hn : 100 ≤ n) {b : List Int} (hb : ∀ x ∈ b, 0 ≤ x ∧ x < 256) (hl : b.length ≤ 10000) : ∀ (fuel k : Nat) (o : List Int), b.length + 1 ≤ fuel + k → 1 ≤ fuel → k ≤ b.length + 33 → o.length + (cJump (cSteps b k)).length ≤ 100000 →
    Fac.l3_0.g (fun a0 => a0) n fuel (k : Int) b o = some (o ++ cJump (cSteps b k))
  | fuel + 1, k, o, hf, h1, hk, ho => by
    show Fac.l3_0.r _ _ _ _ _ _ = _
    simp only [Fac.l3_0.r, wlen (show b.length ≤ 100000 by omega)]
    by_cases h : k < b.length
    · rw [steps_lt h, jump_cons] at ho ⊢
      have w : IntKind.wrap .i64 (k : Int) = (k : Int) := by rw [wi64]; omega
      have hnx := nextLt (cOp b k) k
      have hpn : pushN (cOp b k) ≤ 32 := by unfold pushN; split <;> omega
      have w2 : IntKind.wrap .u64 ((k : Int) + IntKind.wrap .u64 (1 + (pushN (cOp b k) : Int))) = ((cNext (cOp b k) k : Nat) : Int) := by
        rw [next_push]
        rw [wu64_id (n := 1 + (pushN (cOp b k) : Int)) (by omega) (by omega), wu64_id (by omega) (by omega)]
        omega
      rw [if_pos (decide_eq_true (by omega)), w, if_pos (by omega), if_pos (by omega), Int.toNat_natCast, getD_op]
      have hp := q08_Push_ok hn hb (show b.length ≤ 100000 by omega) k
      have hcn := next_push b k
      by_cases h91 : cOp b k = 91
      · rw [if_pos (by rw [h91]; rfl), if_pos (by omega), hp]
        simp only [if_pos h91, List.length_cons] at ho
        simp only [bindO, Option.bind_some, w2, if_pos h91]
        rw [jumps_loop hn hb hl fuel _ (o ++ [(k : Int)]) (by omega) (by omega) (by omega) (by simp; omega)]
        simp
      · rw [if_neg (by simpa using h91), hp]
        simp only [if_neg h91] at ho
        simp only [bindO, Option.bind_some, w2, if_neg h91]
        exact jumps_loop hn hb hl fuel _ o (by omega) (by omega) (by omega) ho
    · rw [if_neg (by simp; omega), steps_ge (by omega)]
      simp [cJump]
theorem q08_Jumps_ok {n : Nat} {b : List Int} (hn : 100 ≤ n) (hb : ∀ x ∈ b, 0 ≤ x ∧ x < 256) (hl : b.length ≤ 10000) (hf : b.length + 1 ≤ n) : Fac.m n b = some (cJump (cSteps b 0)) := by
  have e := jumps_loop hn hb hl n 0 [] (by omega) (by omega) (by omega) (by have := jump_length (b := b) 0; simp only [List.length_nil]; omega)
  have e' : Fac.l3_0.m n n (0, b, []) = some (cJump (cSteps b 0)) := by
    unfold Fac.l3_0.m
    simpa using e
  simp only [Fac.m, Fac.g, e', bindO, Option.bind_some]
theorem code_Jumps_ok (n : Nat) {b : List Int} (hl : b.length ≤ 100000) : Fl.m n b = some (cJump (cSteps b 0)) := by
  simp only [Fl.m, if_pos hl]
end Go.Abs.Pure
end
section
set_option linter.unusedVariables false
set_option linter.unusedSimpArgs false
set_option maxRecDepth 100000
namespace Go.Abs.Pure
open Go Go.Abs
theorem known2 : Fab.m 2000 () = some true := by kernel_rfl
theorem b8_of {l : List Int} (h : ∀ x ∈ l, InK .u8 x) : ∀ x ∈ l, 0 ≤ x ∧ x < 256 := fun x hx => ⟨lo8 (h x hx), hi8 (h x hx)⟩
theorem jump_rise {b : List Int} : ∀ k, (cJump (cSteps b k)).Pairwise (· < ·) := by
  refine places (b := b) (fun k h => ?_) fun k h ih => ?_
  · rw [steps_ge h]; simp [cJump]
  · rw [steps_lt h, jump_cons]
    have hk := nextLt (cOp b k) k
    split
    · refine List.pairwise_cons.2 ⟨fun x hx => ?_, ih⟩
      obtain ⟨j, e1, e2, _⟩ := jump_mem _ x hx
      simp only
      omega
    · exact ih
def ahead (l : List Int) (i : Nat) : Nat := (l.filter fun x => decide (x < (i : Int))).length
theorem ahead_split : ∀ {l : List Int}, l.Pairwise (· < ·) → ∀ i : Nat, l = l.take (ahead l i) ++ l.drop (ahead l i) ∧ (∀ x ∈ l.take (ahead l i), x < (i : Int)) ∧ ∀ x ∈ l.drop (ahead l i), (i : Int) ≤ x
  | [], _, i => by simp [ahead]
  | a :: l, h, i => by
    obtain ⟨h1, h2⟩ := List.pairwise_cons.1 h
    by_cases ha : a < (i : Int)
    · have e : ahead (a :: l) i = ahead l i + 1 := by simp [ahead, ha]
      obtain ⟨_, k2, k3⟩ := ahead_split h2 i
      rw [e]
      refine ⟨(List.take_append_drop _ _).symm, fun x hx => ?_, fun x hx => ?_⟩
      · rw [List.take_succ_cons] at hx
        rcases List.mem_cons.1 hx with rfl | hx
        · exact ha
        · exact k2 x hx
      · rw [List.drop_succ_cons] at hx
        exact k3 x hx
    · have e : ahead (a :: l) i = 0 := by
        unfold ahead
        rw [List.length_eq_zero_iff, List.filter_eq_nil_iff]
        intro x hx
        rcases List.mem_cons.1 hx with rfl | hx
        · simpa using ha
        · have := h1 x hx; simp; omega
      rw [e]
      refine ⟨by simp, by simp, fun x hx => ?_⟩
      rw [List.drop_zero] at hx
      rcases List.mem_cons.1 hx with rfl | hx
      · omega
      · have := h1 x hx; omega
theorem ahead_le (l : List Int) (i : Nat) : ahead l i ≤ l.length := List.length_filter_le _ _
theorem ahead_succ {l : List Int} (h : l.Pairwise (· < ·)) (i : Nat) : ahead l (i + 1) = if (i : Int) ∈ l then ahead l i + 1 else ahead l i := by
  induction l with
  | nil => simp [ahead]
  | cons a l ih =>
    obtain ⟨h1, h2⟩ := List.pairwise_cons.1 h
    have ih := ih h2
    have step : ∀ j : Nat, ahead (a :: l) j = (if a < (j : Int) then 1 else 0) + ahead l j := by
      intro j
      unfold ahead
      by_cases c : a < (j : Int)
      · simp [c]; omega
      · simp [c]
    rw [step, step, ih]
    by_cases e : (i : Int) = a
    · have hn : (i : Int) ∉ l := fun hm => by have := h1 _ hm; omega
      have f1 : a < ((i + 1 : Nat) : Int) := by omega
      have f2 : ¬ a < (i : Int) := by omega
      simp only [if_neg hn, if_pos f1, if_neg f2, if_pos (List.mem_cons.2 (.inl e))]
      omega
    · have hc : ((i : Int) ∈ a :: l) = ((i : Int) ∈ l) := by
        rw [eq_iff_iff, List.mem_cons]
        exact ⟨fun h => h.resolve_left e, .inr⟩
      simp only [hc]
      by_cases f2 : a < (i : Int)
      · have f1 : a < ((i + 1 : Nat) : Int) := by omega
        simp only [if_pos f1, if_pos f2]
        split <;> omega
      · have f1 : ¬ a < ((i + 1 : Nat) : Int) := by omega
        simp only [if_neg f1, if_neg f2]
        split <;> omega
theorem ahead_at {l : List Int} (h : l.Pairwise (· < ·)) (i : Nat) : (if ahead l i < l.length then l.getD (ahead l i) 0 == (i : Int) else false) = decide ((i : Int) ∈ l) := by
  obtain ⟨k1, k2, k3⟩ := ahead_split h i
  by_cases hlt : ahead l i < l.length
  · rw [if_pos hlt, List.getD_eq_getElem?_getD, List.getElem?_eq_getElem hlt, Option.getD_some]
    have hd := List.drop_eq_getElem_cons hlt
    by_cases e : l[ahead l i] = (i : Int)
    · rw [beq_iff_eq.2 e]
      symm
      rw [decide_eq_true_eq, ← e]
      exact List.getElem_mem hlt
    · rw [beq_eq_false_iff_ne.2 e]
      symm
      rw [decide_eq_false_iff_not]
      intro hm
      rw [k1, List.mem_append] at hm
      rcases hm with hm | hm
      · have := k2 _ hm; omega
      · have h0 := k3 l[ahead l i] (by rw [hd]; exact List.mem_cons_self)
        have hp : (l.drop (ahead l i)).Pairwise (· < ·) := h.drop
        rw [hd] at hp hm
        rcases List.mem_cons.1 hm with hm | hm
        · exact e hm.symm
        · have := (List.pairwise_cons.1 hp).1 _ hm; omega
  · rw [if_neg hlt]
    symm
    rw [decide_eq_false_iff_not]
    intro hm
    rw [k1, List.mem_append, List.drop_eq_nil_of_le (by omega)] at hm
    rcases hm with hm | hm
    · have := k2 _ hm; omega
    · simp at hm
theorem may_at {b : List Int} (hl : b.length ≤ 10000) (i : Nat) (hi : i < 100000) : Fbf.m 2000 (b, [(i : Int), 0, 0, 0]) = some (decide ((i : Int) ∈ cJump (cSteps b 0))) := by
  simp only [Fbf.m, if_pos (show b.length ≤ 100000 by omega), if_pos (show (0 : Int) ≤ (i : Int) by omega)]
  have hs : cSm (i : Int) 0 0 0 = ((i : Int), true) := rfl
  have hm : cMay b (i : Int) 0 0 0 = if true = true ∧ cAt b (i : Int) = 91 then cGo (i : Int) (cSteps b 0) else false := by unfold cMay; rw [hs]
  rw [hm, cAt_op]
  by_cases h91 : cOp b i = 91
  · rw [if_pos ⟨rfl, h91⟩, may_jump i h91]
  · rw [if_neg (fun h => h91 h.2)]
    have := no_jump (b := b) (n := (i : Int)) (fun j hj => by
      have : i = j := by omega
      subst this
      exact h91) 0
    rw [decide_eq_false this]
theorem walk_loop {b : List Int} (hl : b.length ≤ 500) (J : List Int) (hJ : J = cJump (cSteps b 0)) (z : List Int) : ∀ (r i fuel : Nat), i + r = b.length → r + 1 ≤ fuel →
    Fc.l9_0.g (fun a0 a1 a2 a3 => .inl (a0, a1, a2, a3)) (fun a0 a1 a2 => .inr (a0, a1, a2)) 2000 fuel (i : Int) b ((ahead J i : Nat) : Int) J z = some (.inr (((J.length : Nat) : Int), J, z) : (Bool × (Int × (List Int × List Int))) ⊕ (Int × (List Int × List Int)))
  | 0, i, fuel + 1, hi, hf => by
    obtain rfl : i = b.length := by omega
    have hall : ahead J b.length = J.length := by
      unfold ahead
      rw [List.filter_eq_self.2]
      intro x hx
      rw [hJ] at hx
      obtain ⟨j, e1, _, e3, _⟩ := jump_mem 0 x hx
      simp; omega
    show Fc.l9_0.r _ _ _ _ _ _ _ _ _ = _
    simp only [Fc.l9_0.r]
    rw [if_neg (by simp), hall]
  | r + 1, i, fuel + 1, hi, hf => by
    have hr : J.Pairwise (· < ·) := by rw [hJ]; exact jump_rise 0
    have hjl : J.length ≤ b.length := by rw [hJ]; have := jump_length (b := b) 0; omega
    have hal := ahead_le J i
    have hat := ahead_at hr i
    have hsu := ahead_succ hr i
    have w : IntKind.wrap .u64 (i : Int) = (i : Int) := by rw [wu64]; omega
    have w1 : IntKind.wrap .i64 ((i : Int) + 1) = ((i + 1 : Nat) : Int) := by rw [wi64]; omega
    have w2 : IntKind.wrap .i64 (((ahead J i : Nat) : Int) + 1) = ((ahead J i + 1 : Nat) : Int) := by rw [wi64]; omega
    have hm := may_at (b := b) (by omega) i (by omega)
    rw [← hJ] at hm
    have rcc := walk_loop hl J hJ z r (i + 1) fuel (by omega) (by omega)
    show Fc.l9_0.r _ _ _ _ _ _ _ _ _ = _
    simp only [Fc.l9_0.r, w, w1, w2, hm, bindO, Option.bind_some, Int.toNat_natCast]
    rw [if_pos (decide_eq_true (by omega))]
    by_cases hlt : ahead J i < J.length
    · rw [if_pos (decide_eq_true (by omega)), if_pos (by omega), if_pos (by omega)]
      rw [if_pos hlt] at hat
      rw [hat]
      by_cases hin : (i : Int) ∈ J
      · rw [if_pos hin] at hsu
        rw [hsu] at rcc
        rw [decide_eq_true hin, if_pos rfl, if_neg (by simp)]
        exact rcc
      · rw [if_neg hin] at hsu
        rw [hsu] at rcc
        rw [decide_eq_false hin, if_neg (by simp), if_neg (by simp)]
        exact rcc
    · rw [if_neg hlt] at hat
      have hin : (i : Int) ∉ J := by
        have := hat.symm
        rwa [decide_eq_false_iff_not] at this
      rw [if_neg hin] at hsu
      rw [hsu] at rcc
      rw [if_neg (by simp; omega), decide_eq_false hin, if_neg (by simp)]
      exact rcc
theorem same_list {J : List Int} (hJ : J.length ≤ 10000) (v : Int) : ∀ (r i fuel : Nat), i + r = J.length → r + 1 ≤ fuel →
    Fc.l18_0.g (fun a0 a1 a2 => .inl (a0, a1, a2)) (fun a0 a1 => .inr (a0, a1)) 2000 fuel (i : Int) v J J = some (.inr (v, J) : (Bool × (Int × List Int)) ⊕ (Int × List Int))
  | 0, i, fuel + 1, hi, hf => by
    show Fc.l18_0.r _ _ _ _ _ _ _ _ = _
    simp only [Fc.l18_0.r]
    rw [if_neg (by simp; omega)]
  | r + 1, i, fuel + 1, hi, hf => by
    have w1 : IntKind.wrap .i64 ((i : Int) + 1) = ((i + 1 : Nat) : Int) := by rw [wi64]; omega
    show Fc.l18_0.r _ _ _ _ _ _ _ _ = _
    simp only [Fc.l18_0.r, w1]
    rw [if_pos (decide_eq_true (by omega)), if_pos (by omega), if_pos (by omega), if_pos (by omega), if_pos (by omega), if_neg (by simp)]
    exact same_list hJ v r (i + 1) fuel (by omega) (by omega)
theorem CodeJumps (b : List Int) (hb : InS .u8 b) : ∃ N, Fc.m N b = some true := by
  refine ⟨2000, ?_⟩
  have h8 := b8_of hb.2
  unfold Fc.m Fc.g
  by_cases h : ((b.length : Nat) : Int) > 500
  · rw [if_pos (decide_eq_true h)]
  · rw [if_neg (by simpa using h)]
    have hl : b.length ≤ 500 := by omega
    have e1 := code_Jumps_ok 2000 (b := b) (by omega)
    have e2 := q08_Jumps_ok (n := 2000) (by omega) h8 (by omega) (by omega)
    have hj := jump_length (b := b) 0
    have h0 : ahead (cJump (cSteps b 0)) 0 = 0 := by
      unfold ahead
      rw [List.length_eq_zero_iff, List.filter_eq_nil_iff]
      intro x hx
      obtain ⟨j, e1, _⟩ := jump_mem (b := b) 0 x hx
      simp; omega
    have e3 := walk_loop hl _ rfl (cJump (cSteps b 0)) b.length 0 2000 (by omega) (by omega)
    rw [h0] at e3
    have e3' : Fc.l9_0.m 2000 2000 (0, b, 0, cJump (cSteps b 0), cJump (cSteps b 0)) = _ := e3
    have e4 := same_list (J := cJump (cSteps b 0)) (by omega) (((cJump (cSteps b 0)).length : Nat) : Int) (cJump (cSteps b 0)).length 0 2000 (by omega) (by omega)
    have e4' : Fc.l18_0.m 2000 2000 (0, (((cJump (cSteps b 0)).length : Nat) : Int), cJump (cSteps b 0), cJump (cSteps b 0)) = _ := e4
    simp only [e1, e2, known2, bindO, Option.bind_some, Bool.not_true, Bool.false_eq_true, if_false]
    rw [if_neg (by simp), e3']
    simp only [Option.bind_some]
    rw [e4']
    simp
end Go.Abs.Pure
end
