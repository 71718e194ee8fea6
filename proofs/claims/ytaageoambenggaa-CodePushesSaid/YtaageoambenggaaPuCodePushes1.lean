/- Plain laws about what the functions compute. Conditions: the arguments' bounds, as each theorem says. -/
import Derived.Test.YtaageoambenggaaBinG1
import Derived.Test.YtaageoambenggaaAbsG6
import Derived.Test.YtaageoambenggaaProg
import Derived.Test.YtaageoambenggaaFnCodePushes1
section
set_option linter.unusedVariables false
namespace Go.Abs.Pure
open Go Go.Abs
def W4 (l : List Int) : Prop := l.length = 4 ∧ ∀ x ∈ l, 0 ≤ x ∧ x < 18446744073709551616
theorem W4.split {l : List Int} (h : W4 l) : ∃ a b c d, l = [a, b, c, d] ∧ (0 ≤ a ∧ a < 18446744073709551616) ∧ (0 ≤ b ∧ b < 18446744073709551616) ∧ (0 ≤ c ∧ c < 18446744073709551616) ∧ (0 ≤ d ∧ d < 18446744073709551616) := by
  obtain ⟨h1, h2⟩ := h
  match l, h1 with
  | [a, b, c, d], _ => exact ⟨a, b, c, d, rfl, h2 a (by simp), h2 b (by simp), h2 c (by simp), h2 d (by simp)⟩
theorem W4.mk {a b c d : Int} (ha : 0 ≤ a ∧ a < 18446744073709551616) (hb : 0 ≤ b ∧ b < 18446744073709551616) (hc : 0 ≤ c ∧ c < 18446744073709551616) (hd : 0 ≤ d ∧ d < 18446744073709551616) : W4 [a, b, c, d] :=
  ⟨rfl, by simp; exact ⟨ha, hb, hc, hd⟩⟩
theorem lo8 {x : Int} (h : InK .u8 x) : 0 ≤ x := h.1
theorem hi8 {x : Int} (h : InK .u8 x) : x < 256 := by have := h.2; simp [IntKind.max, IntKind.bits, IntKind.signed] at this; omega
theorem lo64 {x : Int} (h : InK .u64 x) : 0 ≤ x := h.1
theorem hi64 {x : Int} (h : InK .u64 x) : x < 18446744073709551616 := by have := h.2; simp [IntKind.max, IntKind.bits, IntKind.signed] at this; omega
theorem W4.of {l : List Int} (h : InA .u64 4 l) : W4 l := ⟨h.1, fun x hx => ⟨lo64 (h.2 x hx), hi64 (h.2 x hx)⟩⟩
def V : List Int → Int
  | [a, b, c, d] => a + b * 18446744073709551616 + c * 340282366920938463463374607431768211456 + d * 6277101735386680763835789423207666416102355444464034512896
  | _ => 0
def B : Int := 115792089237316195423570985008687907853269984665640564039457584007913129639936
def ofV (x : Int) : List Int := [x % 18446744073709551616, x / 18446744073709551616 % 18446744073709551616, x / 340282366920938463463374607431768211456 % 18446744073709551616, x / 6277101735386680763835789423207666416102355444464034512896 % 18446744073709551616]
theorem V_range {l : List Int} (h : W4 l) : 0 ≤ V l ∧ V l < B := by
  obtain ⟨a, b, c, d, rfl, ha, hb, hc, hd⟩ := h.split
  simp only [V, B]; omega
theorem eq_ofV {l : List Int} (h : W4 l) {x : Int} (hx : V l = x % B) : l = ofV x := by
  obtain ⟨a, b, c, d, rfl, ha, hb, hc, hd⟩ := h.split
  simp only [V, B] at hx
  simp only [ofV, List.cons.injEq, and_true]
  refine ⟨?_, ?_, ?_, ?_⟩ <;> omega
theorem digits {a b c d t : Int} (q : Int) (ha : 0 ≤ a ∧ a < 18446744073709551616) (hb : 0 ≤ b ∧ b < 18446744073709551616) (hc : 0 ≤ c ∧ c < 18446744073709551616) (hd : 0 ≤ d ∧ d < 18446744073709551616) (h : t = V [a, b, c, d] + B * q) : [a, b, c, d] = ofV t := by
  have r := V_range (.mk ha hb hc hd)
  refine eq_ofV (.mk ha hb hc hd) ?_
  rw [h, Int.add_mul_emod_self_left, Int.emod_eq_of_lt r.1 r.2]
theorem ofV_V {l : List Int} (h : W4 l) : ofV (V l) = l := by
  obtain ⟨h0, h1⟩ := V_range h
  exact (eq_ofV h (by rw [Int.emod_eq_of_lt h0 h1])).symm
end Go.Abs.Pure
end
section
set_option linter.unusedVariables false
set_option linter.unusedSimpArgs false
namespace Go.Abs.Pure
open Go Go.Abs
def val (b : Int) : List Int → Int
  | [] => 0
  | x :: r => x + b * val b r
def Dig (b : Int) (l : List Int) : Prop := ∀ x ∈ l, 0 ≤ x ∧ x < b
theorem Dig.getD {b : Int} {l : List Int} (h : Dig b l) {i : Nat} (hi : i < l.length) : 0 ≤ l.getD i 0 ∧ l.getD i 0 < b := by
  rw [List.getD_eq_getElem?_getD, List.getElem?_eq_getElem hi]
  exact h _ (List.getElem_mem hi)
theorem Dig.set {b : Int} {l : List Int} (h : Dig b l) {i : Nat} {d : Int} (hd : 0 ≤ d ∧ d < b) : Dig b (l.set i d) := fun x hx => by
  rcases List.mem_or_eq_of_mem_set hx with h' | h'
  · exact h x h'
  · rw [h']; exact hd
theorem val_set {b : Int} : ∀ {l : List Int} {k : Nat} {d : Int}, k < l.length → val b (l.set k d) = val b l + (d - l.getD k 0) * b ^ k
  | x :: r, 0, d, _ => by simp only [List.set_cons_zero, val, List.getD_cons_zero]; grind
  | x :: r, k + 1, d, h => by
    have ih := val_set (b := b) (l := r) (k := k) (d := d) (by simpa using h)
    simp only [List.set_cons_succ, val, List.getD_cons_succ, ih]
    grind
theorem val_take {b : Int} : ∀ {l : List Int} {k : Nat}, k < l.length → val b (l.take (k + 1)) = val b (l.take k) + l.getD k 0 * b ^ k
  | x :: r, 0, _ => by simp [val]
  | x :: r, k + 1, h => by
    have ih := val_take (b := b) (l := r) (k := k) (by simpa using h)
    simp only [List.take_succ_cons, val, List.getD_cons_succ] at ih ⊢
    rw [ih]
    grind
theorem val_bound {b : Int} (hb : 0 < b) : ∀ {l : List Int}, Dig b l → 0 ≤ val b l ∧ val b l < b ^ l.length
  | [], _ => by simp [val]
  | x :: r, h => by
    have ih := val_bound hb (l := r) fun y hy => h y (by simp [hy])
    have hx := h x (by simp)
    have h1 : val b r + 1 ≤ b ^ r.length := by omega
    have h2 := Int.mul_le_mul_of_nonneg_left h1 (Int.le_of_lt hb)
    have h3 := Int.mul_nonneg (Int.le_of_lt hb) ih.1
    simp only [val, List.length_cons, Int.pow_succ]
    rw [Int.mul_comm (b ^ r.length) b]
    rw [Int.mul_add, Int.mul_one] at h2
    omega
theorem val_replicate (b : Int) : ∀ n, val b (List.replicate n 0) = 0
  | 0 => rfl
  | n + 1 => by simp [List.replicate_succ, val, val_replicate b n]
theorem getD_set {l : List Int} {i j : Nat} {d : Int} (h : i ≠ j) : (l.set i d).getD j 0 = l.getD j 0 := by
  simp [List.getD_eq_getElem?_getD, h]
structure Row (b x : Int) (y : List Int) (i k : Nat) (o0 o : List Int) (c : Int) : Prop where
  len : o.length = o0.length
  dig : Dig b o
  car : 0 ≤ c ∧ c < b
  eq : val b o + c * b ^ (i + k) = val b o0 + x * val b (y.take k) * b ^ i
  up : ∀ j, i + k ≤ j → o.getD j 0 = o0.getD j 0
theorem Row.start {b x : Int} {y : List Int} {i : Nat} {o : List Int} (hb : 0 < b) (h : Dig b o) : Row b x y i 0 o o 0 := ⟨rfl, h, ⟨by omega, hb⟩, by simp [val], fun _ _ => rfl⟩
theorem Row.step {b x : Int} {y : List Int} {i k : Nat} {o0 o : List Int} {c d c' : Int} (h : Row b x y i k o0 o c) (hk : k < y.length) (hi : i + k < o.length)
    (ht : o.getD (i + k) 0 + x * y.getD k 0 + c = d + b * c') (hd : 0 ≤ d ∧ d < b) (hc : 0 ≤ c' ∧ c' < b) : Row b x y i (k + 1) o0 (o.set (i + k) d) c' := by
  refine ⟨by simp [h.len], h.dig.set hd, hc, ?_, fun j hj => ?_⟩
  · rw [val_set hi, val_take hk]
    have e := h.eq
    rw [show i + (k + 1) = i + k + 1 by omega, Int.pow_succ]
    rw [Int.pow_add] at e ⊢
    generalize val b o = vo at *
    generalize val b o0 = v0 at *
    generalize val b (y.take k) = s at *
    generalize o.getD (i + k) 0 = oo at *
    generalize y.getD k 0 = yk at *
    generalize b ^ i = p at *
    generalize b ^ k = q at *
    grind
  · rw [getD_set (by omega)]
    exact h.up j (by omega)
structure Rows (b : Int) (x y : List Int) (i : Nat) (o : List Int) : Prop where
  len : o.length = x.length + y.length
  dig : Dig b o
  eq : val b o = val b (x.take i) * val b y
  up : ∀ j, i + y.length ≤ j → o.getD j 0 = 0
theorem Rows.start {b : Int} (hb : 0 < b) {x y : List Int} {n : Nat} (hn : n = x.length + y.length) : Rows b x y 0 (List.replicate n 0) :=
  ⟨by simp [hn], fun z hz => by have := List.eq_of_mem_replicate hz; omega, by simp [val, val_replicate], fun j _ => by
    simp only [List.getD_eq_getElem?_getD, List.getElem?_replicate]; split <;> rfl⟩
theorem Rows.step {b : Int} {x y : List Int} {i : Nat} {o0 o : List Int} {c : Int} (h : Rows b x y i o0) (hi : i < x.length) (r : Row b (x.getD i 0) y i y.length o0 o c) : Rows b x y (i + 1) (o.set (i + y.length) c) := by
  have hl : o.length = x.length + y.length := by rw [r.len, h.len]
  refine ⟨by simpa using hl, r.dig.set r.car, ?_, fun j hj => ?_⟩
  · rw [val_set (by omega), r.up _ (Nat.le_refl _), h.up _ (Nat.le_refl _), val_take hi]
    have e := r.eq
    rw [h.eq, List.take_length] at e
    generalize val b o = vo at *
    generalize val b (x.take i) = s at *
    generalize val b y = vy at *
    generalize b ^ i = p at *
    generalize b ^ (i + y.length) = q at *
    grind
  · rw [getD_set (by omega), r.up j (by omega)]
    exact h.up j (by omega)
theorem Rows.all {b : Int} {x y o : List Int} (h : Rows b x y x.length o) : val b o = val b x * val b y := by rw [h.eq, List.take_length]
theorem V_val {l : List Int} (h : l.length = 4) : V l = val 18446744073709551616 l := by
  match l, h with
  | [a, b, c, d], _ => simp only [V, val]; omega
theorem W4.dig {l : List Int} (h : W4 l) : Dig 18446744073709551616 l := h.2
theorem or_zero {a b : Int} (ha : 0 ≤ a) (ka : a < 18446744073709551616) (hb : 0 ≤ b) (kb : b < 18446744073709551616) : (0 ≤ ibits .or .u64 a b ∧ ibits .or .u64 a b < 18446744073709551616) ∧ (ibits .or .u64 a b = 0 ↔ a = 0 ∧ b = 0) := by
  rw [or_u64 ha ka hb kb]
  have h1 := Nat.or_lt_two_pow (x := a.toNat) (y := b.toNat) (n := 64) (by omega) (by omega)
  refine ⟨by omega, ?_⟩
  have h2 : a.toNat ||| b.toNat = 0 ↔ a.toNat = 0 ∧ b.toNat = 0 := Nat.or_eq_zero_iff
  omega
end Go.Abs.Pure
end
section
set_option linter.unusedVariables false
set_option linter.unusedSimpArgs false
namespace Go.Abs.Pure
open Go Go.Abs
def H : Int := 57896044618658097711785492504343953926634992332820282019728792003956564819968
def S (x : List Int) : Int := if V x < H then V x else V x - B
end Go.Abs.Pure
end
section
set_option linter.unusedVariables false
set_option linter.unusedSimpArgs false
namespace Go.Abs.Pure
open Go Go.Abs
theorem pow_pos' (k : Nat) : (0 : Int) < 2 ^ k := Int.pow_pos (by omega)
theorem pow_split {i k : Nat} (h : i ≤ k) : (2 : Int) ^ k = 2 ^ i * 2 ^ (k - i) := by rw [← Int.pow_add]; congr 1; omega
end Go.Abs.Pure
end
section
set_option linter.unusedVariables false
set_option linter.unusedSimpArgs false
set_option maxRecDepth 20000
namespace Go.Abs.Pure
open Go Go.Abs
theorem zero_W4 : W4 [0, 0, 0, 0] := .mk (by omega) (by omega) (by omega) (by omega)
end Go.Abs.Pure
end
section
set_option linter.unusedVariables false
set_option linter.unusedSimpArgs false
set_option maxRecDepth 20000
namespace Go.Abs.Pure
open Go Go.Abs
theorem pow_le_pow' {j k : Nat} (h : j ≤ k) : (2 : Int) ^ j ≤ 2 ^ k := by
  rw [pow_split h]
  have h1 := Int.mul_le_mul_of_nonneg_left (show (1 : Int) ≤ 2 ^ (k - j) by have := pow_pos' (k - j); omega) (Int.le_of_lt (pow_pos' j))
  omega
end Go.Abs.Pure
end
section
set_option linter.unusedVariables false
set_option linter.unusedSimpArgs false
set_option maxRecDepth 20000
namespace Go.Abs.Pure
open Go Go.Abs
theorem or_apart {x y : Int} {s : Nat} (hs : s ≤ 64) (hx : 0 ≤ x ∧ x * 2 ^ s < 18446744073709551616) (hy : 0 ≤ y ∧ y < 2 ^ s) : ibits .or .u64 (x * 2 ^ s) y = x * 2 ^ s + y := by
  obtain ⟨a, rfl⟩ := Int.eq_ofNat_of_zero_le hx.1
  obtain ⟨b, rfl⟩ := Int.eq_ofNat_of_zero_le hy.1
  have hp : ((2 : Int) ^ s) = ((2 ^ s : Nat) : Int) := by rw [Int.natCast_pow]; rfl
  have h1 : b < 2 ^ s := by have := hy.2; rw [hp] at this; exact Int.ofNat_lt.1 this
  have h2 : (a : Int) * 2 ^ s = ((a * 2 ^ s : Nat) : Int) := by rw [hp, Int.natCast_mul]
  have hle : 2 ^ s ≤ 2 ^ 64 := Nat.pow_le_pow_right (by omega) hs
  have hlt : a * 2 ^ s < 2 ^ 64 := by
    have := hx.2
    rw [h2] at this
    have e : (18446744073709551616 : Int) = ((2 ^ 64 : Nat) : Int) := rfl
    rw [e] at this
    exact Int.ofNat_lt.1 this
  rw [h2, or_u64 (Int.natCast_nonneg _) (by omega) (Int.natCast_nonneg _) (by omega), Int.toNat_natCast, Int.toNat_natCast, ← Nat.shiftLeft_eq, ← Nat.shiftLeft_add_eq_or_of_lt h1]
  rw [Nat.shiftLeft_eq, Int.natCast_add]
theorem or_apart' {x y : Int} {s : Nat} (hs : s ≤ 64) (hx : 0 ≤ x ∧ x * 2 ^ s < 18446744073709551616) (hy : 0 ≤ y ∧ y < 2 ^ s) : ibits .or .u64 y (x * 2 ^ s) = x * 2 ^ s + y := by
  rw [← or_apart hs hx hy]
  show IntKind.wrap .u64 ((BitVec.ofInt 64 y ||| BitVec.ofInt 64 (x * 2 ^ s)).toNat : Nat) = IntKind.wrap .u64 ((BitVec.ofInt 64 (x * 2 ^ s) ||| BitVec.ofInt 64 y).toNat : Nat)
  rw [BitVec.or_comm]
theorem set_same {l : List Int} {i : Nat} (h : l.getD i 0 = 0) (hi : i < l.length) : l = l.set i 0 := by
  have : l[i] = 0 := by rw [List.getD_eq_getElem?_getD, List.getElem?_eq_getElem hi] at h; simpa using h
  rw [← this, List.set_getElem_self]
end Go.Abs.Pure
end
section
set_option linter.unusedVariables false
set_option linter.unusedSimpArgs false
set_option maxRecDepth 20000
namespace Go.Abs.Pure
open Go Go.Abs
def readI (b : List Int) : Nat → Int
  | 0 => 0
  | i + 1 => readI b i + b.getD (b.length - 1 - i) 0 * 2 ^ (8 * i)
theorem digit_low {o : List Int} (ho : W4 o) {i : Nat} (hi : i < 32) (hv : V o < 2 ^ (8 * i)) : o.getD (i / 8) 0 < 2 ^ (i % 8 * 8) := by
  have hp : (2 : Int) ^ (8 * i) = 18446744073709551616 ^ (i / 8) * 2 ^ (i % 8 * 8) := by
    rw [show (18446744073709551616 : Int) = 2 ^ 64 from rfl, ← Int.pow_mul, ← Int.pow_add]; congr 1; omega
  have hd := ho.dig.getD (i := i / 8) (by rw [ho.1]; omega)
  rw [hp, V_val ho.1] at hv
  have key : ∀ {l : List Int}, Dig 18446744073709551616 l → ∀ k, l.getD k 0 * 18446744073709551616 ^ k ≤ val 18446744073709551616 l := by
    intro l
    induction l with
    | nil => intro _ k; simp [val]
    | cons x r ih =>
      intro h k
      have hx := h x (by simp)
      have hr : Dig 18446744073709551616 r := fun y hy => h y (by simp [hy])
      have hb := val_bound (b := 18446744073709551616) (by omega) hr
      cases k with
      | zero => simp only [List.getD_cons_zero, val, Int.pow_zero, Int.mul_one]; omega
      | succ k =>
        have := ih hr k
        simp only [List.getD_cons_succ, val, Int.pow_succ]
        rw [← Int.mul_assoc]
        generalize r.getD k 0 * 18446744073709551616 ^ k = t at *
        omega
  have := key ho.dig (i / 8)
  have p := Int.pow_pos (n := 18446744073709551616) (m := i / 8) (by omega)
  generalize o.getD (i / 8) 0 = d at *
  generalize (18446744073709551616 : Int) ^ (i / 8) = q at *
  exact Int.lt_of_mul_lt_mul_left (a := q) (by rw [Int.mul_comm]; omega) (Int.le_of_lt p)
theorem put_byte {o : List Int} (ho : W4 o) {i : Nat} (hi : i < 32) (hv : V o < 2 ^ (8 * i)) {x : Int} (hx : 0 ≤ x ∧ x < 256) :
    W4 (o.set (i / 8) (ibits .or .u64 (o.getD (i / 8) 0) (ishl .u64 x ((i % 8 * 8 : Nat) : Int)))) ∧ V (o.set (i / 8) (ibits .or .u64 (o.getD (i / 8) 0) (ishl .u64 x ((i % 8 * 8 : Nat) : Int)))) = V o + x * 2 ^ (8 * i) := by
  have hl := ho.1
  have hd := ho.dig.getD (i := i / 8) (by omega)
  have hlow := digit_low ho hi hv
  have p := pow_pos' (i % 8 * 8)
  have hs : x * 2 ^ (i % 8 * 8) < 18446744073709551616 := by
    have h1 := Int.mul_lt_mul_of_pos_right hx.2 p
    have h2 := pow_le_pow' (show 8 + i % 8 * 8 ≤ 64 by omega)
    rw [Int.pow_add, show (2 : Int) ^ 8 = 256 from rfl, show (2 : Int) ^ 64 = 18446744073709551616 from rfl] at h2
    omega
  have hn := Int.mul_nonneg hx.1 (Int.le_of_lt p)
  rw [ishl_ofNat .u64 x _ (by simp [IntKind.bits]; omega), wu64, Int.emod_eq_of_lt hn hs]
  have hr := (or_zero hd.1 hd.2 hn hs).1
  rw [or_apart' (by omega) ⟨hx.1, hs⟩ ⟨hd.1, hlow⟩] at hr ⊢
  have hw : W4 (o.set (i / 8) (x * 2 ^ (i % 8 * 8) + o.getD (i / 8) 0)) := ⟨by simp [hl], ho.dig.set hr⟩
  refine ⟨hw, ?_⟩
  rw [V_val hw.1, V_val hl, val_set (by omega)]
  have : (2 : Int) ^ (8 * i) = 2 ^ (i % 8 * 8) * 18446744073709551616 ^ (i / 8) := by
    rw [show (18446744073709551616 : Int) = 2 ^ 64 from rfl, ← Int.pow_mul, ← Int.pow_add]; congr 1; omega
  rw [this]
  generalize o.getD (i / 8) 0 = u
  generalize (2 : Int) ^ (i % 8 * 8) = p1
  generalize (18446744073709551616 : Int) ^ (i / 8) = p2
  grind
theorem readI_bound {b : List Int} (hb : ∀ x ∈ b, 0 ≤ x ∧ x < 256) : ∀ i, 0 ≤ readI b i ∧ readI b i < 2 ^ (8 * i)
  | 0 => by simp [readI]
  | i + 1 => by
    have ih := readI_bound hb i
    have hx : 0 ≤ b.getD (b.length - 1 - i) 0 ∧ b.getD (b.length - 1 - i) 0 < 256 := by
      rw [List.getD_eq_getElem?_getD]
      cases h : b[b.length - 1 - i]? with
      | none => simp
      | some x => exact hb x (List.mem_of_getElem? h)
    simp only [readI]
    have p := pow_pos' (8 * i)
    have h1 := Int.mul_nonneg hx.1 (Int.le_of_lt p)
    have h2 := Int.mul_le_mul_of_nonneg_right (show b.getD (b.length - 1 - i) 0 ≤ 255 by omega) (Int.le_of_lt p)
    rw [show 8 * (i + 1) = 8 * i + 8 by omega, Int.pow_add, show (2 : Int) ^ 8 = 256 from rfl]
    omega
theorem byte_getD {b : List Int} (hb : ∀ x ∈ b, 0 ≤ x ∧ x < 256) (i : Nat) : 0 ≤ b.getD i 0 ∧ b.getD i 0 < 256 := by
  rw [List.getD_eq_getElem?_getD]
  cases h : b[i]? with
  | none => simp
  | some x => exact hb x (List.mem_of_getElem? h)
end Go.Abs.Pure
end
section
set_option linter.unusedVariables false
set_option linter.unusedSimpArgs false
set_option maxRecDepth 20000
namespace Go.Abs.Pure
open Go Go.Abs
def Short (b : List Int) : Prop := b.length ≤ 100000
def rd (b : List Int) : Nat := if b.length ≤ 32 then b.length else 32
theorem rd_le (b : List Int) : rd b ≤ 32 ∧ rd b ≤ b.length ∧ (rd b = 32 ∨ rd b = b.length) := by unfold rd; split <;> omega
theorem at_next (i : Nat) (h : i < 32) : IntKind.wrap .i64 ((i : Int) + 1) = ((i + 1 : Nat) : Int) := by rw [wi64]; omega
theorem at_div (i : Nat) (h : i < 32) : IntKind.wrap .i64 (Int.tdiv (i : Int) 8) = ((i / 8 : Nat) : Int) := by rw [tdiv_nonneg' (by omega), wi64]; omega
theorem at_mod (i : Nat) (h : i < 32) : IntKind.wrap .u64 (IntKind.wrap .i64 (Int.tmod (i : Int) 8 * 8)) = ((i % 8 * 8 : Nat) : Int) := by rw [tmod_nonneg' (by omega), wi64, wu64]; omega
theorem at_mod' (i : Nat) (h : i < 32) : IntKind.wrap .i64 (Int.tmod (i : Int) 8 * 8) = ((i % 8 * 8 : Nat) : Int) := by rw [tmod_nonneg' (by omega), wi64]; omega
theorem last_at (L i : Nat) (h : L ≤ 100000) (hi : i < L) : IntKind.wrap .i64 (IntKind.wrap .i64 (((L : Nat) : Int) - 1) - (i : Int)) = ((L - 1 - i : Nat) : Int) := by
  rw [wi64_id (n := ((L : Nat) : Int) - 1) (by omega) (by omega)]
  rw [wi64_id (by omega) (by omega)]
  omega
end Go.Abs.Pure
end
section
set_option linter.unusedVariables false
set_option linter.unusedSimpArgs false
set_option maxRecDepth 20000
namespace Go.Abs.Pure
open Go Go.Abs
theorem word_Read_loop {n : Nat} {b : List Int} (hb : ∀ x ∈ b, 0 ≤ x ∧ x < 256) (hlen : b.length ≤ 32) (z : List Int) : ∀ (r i fuel : Nat) (o : List Int), i + r = b.length → r + 1 ≤ fuel → W4 o → V o = readI b i →
    Fy.l4_0.g (fun a0 a1 => (a0, a1)) n fuel (i : Int) ((b.length : Nat) : Int) b o z = some (ofV (readI b b.length), z)
  | 0, i, fuel + 1, o, hi, hf, ho, hv => by
    have he : i = b.length := by omega
    show Fy.l4_0.r _ _ _ _ _ _ _ _ = _
    have fin : o = ofV (readI b b.length) := by rw [← he, ← hv, ofV_V ho]
    have h2 : (decide ((i : Int) < ((b.length : Nat) : Int))) = false := by simp; omega
    simp only [Fy.l4_0.r, h2, Bool.false_eq_true, if_false]
    rw [← fin]
  | r + 1, i, fuel + 1, o, hi, hf, ho, hv => by
    have h2 : (decide ((i : Int) < ((b.length : Nat) : Int))) = true := by simp; omega
    have hib : i < b.length := by omega
    have h32 : i < 32 := by omega
    have w1 := at_next i h32
    have w2 := last_at b.length i (by omega) hib
    have w3 := at_div i h32
    have w4 := at_mod' i h32
    have g1 : (0 : Int) ≤ ((i / 8 : Nat) : Int) := by omega
    have g2 : ((i / 8 : Nat) : Int) < 4 := by omega
    have g3 : (0 : Int) ≤ ((i % 8 * 8 : Nat) : Int) := by omega
    have g4 : (0 : Int) ≤ ((b.length - 1 - i : Nat) : Int) := by omega
    have g5 : ((b.length - 1 - i : Nat) : Int) < ((b.length : Nat) : Int) := by omega
    have hx := byte_getD hb (b.length - 1 - i)
    show Fy.l4_0.r _ _ _ _ _ _ _ _ = _
    simp only [Fy.l4_0.r, h2, w1, w2, w3, w4, g1, g2, g3, g4, g5, if_true, Int.toNat_natCast]
    rw [wu64_id hx.1 (by omega)]
    obtain ⟨k1, k2⟩ := put_byte ho (i := i) (by omega) (by rw [hv]; exact (readI_bound hb i).2) hx
    exact word_Read_loop hb hlen z r (i + 1) fuel _ (by omega) (by omega) k1 (by rw [k2, hv]; rfl)
theorem word_Read_short {n : Nat} (hn : 100 ≤ n) {b : List Int} (hb : ∀ x ∈ b, 0 ≤ x ∧ x < 256) (hlen : b.length ≤ 32) : Fy.l4_0.m n n (0, ((b.length : Nat) : Int), b, [0, 0, 0, 0], [0, 0, 0, 0]) = some (ofV (readI b b.length), [0, 0, 0, 0]) := by
  have := word_Read_loop (n := n) hb hlen [0, 0, 0, 0] b.length 0 n [0, 0, 0, 0] (by omega) (by omega) zero_W4 rfl
  simp only [Fy.l4_0.m]
  rw [show ((0 : Nat) : Int) = 0 from rfl] at this
  exact this
theorem readI_drop {b : List Int} {k : Nat} : ∀ {i : Nat}, i ≤ b.length - k → readI (b.drop k) i = readI b i
  | 0, _ => rfl
  | i + 1, h => by
    simp only [readI]
    rw [readI_drop (by omega)]
    have : (b.drop k).getD ((b.drop k).length - 1 - i) 0 = b.getD (b.length - 1 - i) 0 := by
      simp only [List.getD_eq_getElem?_getD, List.getElem?_drop, List.length_drop]
      congr 2
      omega
    rw [this]
theorem word_Read_ok {n : Nat} (hn : 100 ≤ n) {b : List Int} (hb : ∀ x ∈ b, 0 ≤ x ∧ x < 256) (hlen : Short b) : Fy.m n b = some (ofV (readI b (rd b))) := by
  have hr := rd_le b
  unfold Short at hlen
  have e : (if 0 > IntKind.wrap .i64 (((b.length : Nat) : Int) - 32) then (0 : Int) else IntKind.wrap .i64 (((b.length : Nat) : Int) - 32)) = ((b.length - rd b : Nat) : Int) := by
    rw [wi64_id (by omega) (by omega)]
    unfold rd
    split <;> split <;> omega
  have hd : (b.drop (b.length - rd b)).length = rd b := by simp; omega
  have hb' : ∀ x ∈ b.drop (b.length - rd b), 0 ≤ x ∧ x < 256 := fun x hx => hb x (List.mem_of_mem_drop hx)
  simp only [Fy.m, Fy.g, e]
  rw [if_pos (by omega), if_pos (by omega)]
  simp only [Int.toNat_natCast, cut]
  rw [word_Read_short hn hb' (by omega), hd, readI_drop (by omega)]
  rfl
end Go.Abs.Pure
end
section
set_option linter.unusedVariables false
set_option linter.unusedSimpArgs false
set_option maxRecDepth 100000
namespace Go.Abs.Pure
open Go Go.Abs
theorem nextLt (o : Int) (k : Nat) : k < cNext o k := by unfold cNext; split <;> omega
theorem walk_fuel (b : List Int) : ∀ (f g k : Nat), b.length - k ≤ f → b.length - k ≤ g → cWalk b f k = cWalk b g k
  | 0, 0, _, _, _ => rfl
  | 0, g + 1, k, h, _ => by
    have : ¬ k < b.length := by omega
    simp [cWalk, this]
  | f + 1, 0, k, _, h => by
    have : ¬ k < b.length := by omega
    simp [cWalk, this]
  | f + 1, g + 1, k, h1, h2 => by
    simp only [cWalk]
    split
    · have := nextLt (cOp b k) k
      rw [walk_fuel b f g _ (by omega) (by omega)]
    · rfl
theorem steps_lt {b : List Int} {k : Nat} (h : k < b.length) : cSteps b k = (k, cOp b k) :: cSteps b (cNext (cOp b k) k) := by
  unfold cSteps
  obtain ⟨f, hf⟩ : ∃ f, b.length - k = f + 1 := ⟨b.length - k - 1, by omega⟩
  rw [hf]
  simp only [cWalk, if_pos h]
  have := nextLt (cOp b k) k
  rw [walk_fuel b f _ _ (by omega) (Nat.le_refl _)]
theorem steps_ge {b : List Int} {k : Nat} (h : b.length ≤ k) : cSteps b k = [] := by
  unfold cSteps
  rw [show b.length - k = 0 by omega]
  rfl
theorem places {b : List Int} {P : Nat → Prop} (h0 : ∀ k, b.length ≤ k → P k) (h1 : ∀ k, k < b.length → P (cNext (cOp b k) k) → P k) : ∀ k, P k := by
  have key : ∀ m k, b.length - k ≤ m → P k := by
    intro m
    induction m with
    | zero => intro k hk; exact h0 k (by omega)
    | succ m ih =>
      intro k hk
      by_cases h : k < b.length
      · exact h1 k h (ih _ (by have := nextLt (cOp b k) k; omega))
      · exact h0 k (by omega)
  exact fun k => key _ k (Nat.le_refl _)
theorem jump_cons (x : Nat × Int) (l : List (Nat × Int)) : cJump (x :: l) = if x.2 = 91 then (x.1 : Int) :: cJump l else cJump l := by
  unfold cJump
  by_cases h : x.2 = 91
  · simp [h]
  · simp [h]
theorem jump_mem {b : List Int} : ∀ k, ∀ x ∈ cJump (cSteps b k), ∃ j : Nat, x = (j : Int) ∧ k ≤ j ∧ j < b.length ∧ cOp b j = 91 := by
  refine places (b := b) (fun k h => ?_) fun k h ih => ?_
  · rw [steps_ge h]; simp [cJump]
  · rw [steps_lt h, jump_cons]
    intro x hx
    have hk := nextLt (cOp b k) k
    split at hx
    · rename_i h91
      rcases List.mem_cons.1 hx with rfl | hx
      · exact ⟨k, rfl, Nat.le_refl _, h, h91⟩
      · obtain ⟨j, e1, e2, e3, e4⟩ := ih x hx
        exact ⟨j, e1, by omega, e3, e4⟩
    · obtain ⟨j, e1, e2, e3, e4⟩ := ih x hx
      exact ⟨j, e1, by omega, e3, e4⟩
theorem wlen {l : Nat} (h : l ≤ 100000) : IntKind.wrap .u64 ((l : Nat) : Int) = (l : Int) := by rw [wu64]; omega
theorem getD_op (b : List Int) (k : Nat) : b.getD k 0 = cOp b k := by simp [cOp]
theorem op_ge {b : List Int} {k : Nat} (h : b.length ≤ k) : cOp b k = 0 := by simp [cOp, h]
theorem code_At_ok (n : Nat) {b : List Int} (hb : b.length ≤ 100000) (k : Nat) : Fbf.m n (b, (k : Int)) = some (cOp b k) := by
  simp only [Fbf.m, Fbf.g, wlen hb]
  by_cases h : k < b.length
  · rw [if_neg (by simp; omega), if_pos (by omega), if_pos (by omega), Int.toNat_natCast, getD_op]
  · rw [if_pos (by simp; omega), op_ge (by omega)]
def behind (b : List Int) (k m : Nat) : List Int := (List.range m).map fun i => cOp b (k + 1 + i)
theorem behind_length (b : List Int) (k m : Nat) : (behind b k m).length = m := by simp [behind]
theorem op_byte {b : List Int} (hb : ∀ x ∈ b, 0 ≤ x ∧ x < 256) (k : Nat) : 0 ≤ cOp b k ∧ cOp b k < 256 := by
  by_cases h : k < b.length
  · have : cOp b k = b[k] := by simp [cOp, h]
    rw [this]
    exact hb _ (List.getElem_mem h)
  · rw [op_ge (by omega)]; omega
theorem behind_byte {b : List Int} (hb : ∀ x ∈ b, 0 ≤ x ∧ x < 256) (k m : Nat) : ∀ x ∈ behind b k m, 0 ≤ x ∧ x < 256 := by
  intro x hx
  simp only [behind, List.mem_map] at hx
  obtain ⟨i, _, rfl⟩ := hx
  exact op_byte hb _
theorem behind_read (b : List Int) (k m : Nat) (hk : k < b.length) : (List.take m (b.drop (k + 1))) ++ List.drop ((b.drop (k + 1)).length) (List.replicate m (0 : Int)) = behind b k m := by
  refine List.ext_getElem ?_ fun i h1 h2 => ?_
  · simp [behind_length]; omega
  · have hi : i < m := by rw [behind_length] at h2; exact h2
    simp only [behind, List.getElem_map, List.getElem_range]
    by_cases hlt : k + 1 + i < b.length
    · rw [List.getElem_append_left (by simp; omega)]
      simp [cOp, hlt]
    · rw [List.getElem_append_right (by simp; omega), op_ge (by omega)]
      simp
def pushN (o : Int) : Nat := if 95 ≤ o ∧ o ≤ 127 then (o - 95).toNat else 0
def pushW (b : List Int) (k : Nat) : List Int := if 95 ≤ cOp b k ∧ cOp b k ≤ 127 then ofV (readI (behind b k (pushN (cOp b k))) (rd (behind b k (pushN (cOp b k))))) else [0, 0, 0, 0]
theorem code_Push_ok {n : Nat} (hn : 100 ≤ n) {b : List Int} (hb : ∀ x ∈ b, 0 ≤ x ∧ x < 256) (hl : b.length ≤ 100000) (k : Nat) : Fz.m n (b, (k : Int)) = some (pushW b k, (pushN (cOp b k) : Int)) := by
  simp only [Fz.m, Fz.g, code_At_ok n hl k, bindO, Option.bind_some, pushW, pushN]
  have h0 := op_byte hb k
  by_cases h1 : cOp b k < 95
  · rw [if_pos (decide_eq_true h1), if_neg (by omega), if_neg (by omega)]; rfl
  · rw [if_neg (by simp; omega)]
    by_cases h2 : cOp b k > 127
    · rw [if_pos (decide_eq_true h2), if_neg (by omega), if_neg (by omega)]; rfl
    · rw [if_neg (by simp; omega)]
      have hk : k < b.length := by
        rcases Nat.lt_or_ge k b.length with h | h
        · exact h
        · rw [op_ge h] at h1; omega
      obtain ⟨m, hm⟩ : ∃ m : Nat, cOp b k = 95 + (m : Int) := ⟨(cOp b k - 95).toNat, by omega⟩
      have w1 : IntKind.wrap .u64 (IntKind.wrap .u8 (cOp b k - 95)) = (m : Int) := by rw [wu8, wu64]; omega
      have w2 : IntKind.wrap .u64 ((k : Int) + 1) = ((k + 1 : Nat) : Int) := by rw [wu64]; omega
      have hmm : (cOp b k - 95).toNat = m := by omega
      rw [w1, w2, if_pos (by omega), if_pos (by omega), if_pos (by omega), if_pos (by omega), if_pos (by omega), if_pos (by omega), if_pos (by omega), if_pos (by omega), hmm]
      simp only [Int.toNat_natCast, List.length_replicate, cut]
      rw [behind_read b k m hk, word_Read_ok hn (behind_byte hb k m) (by show _ ≤ 100000; rw [behind_length]; omega)]
      rfl
theorem code_Jumps_ok (n : Nat) {b : List Int} (hl : b.length ≤ 100000) : Fl.m n b = some (cJump (cSteps b 0)) := by
  simp only [Fl.m, if_pos hl]
end Go.Abs.Pure
end
section
set_option linter.unusedVariables false
set_option linter.unusedSimpArgs false
set_option maxRecDepth 100000
namespace Go.Abs.Pure
open Go Go.Abs
theorem known2 : Fab.m 2000 () = some true := by kernel_rfl
theorem b8_of {l : List Int} (h : ∀ x ∈ l, InK .u8 x) : ∀ x ∈ l, 0 ≤ x ∧ x < 256 := fun x hx => ⟨lo8 (h x hx), hi8 (h x hx)⟩
def orAt (o : List Int) (i : Nat) (x : Int) : List Int := o.set (i / 8) (ibits .or .u64 (o.getD (i / 8) 0) (ishl .u64 x ((i % 8 * 8 : Nat) : Int)))
theorem or_toNat (a b : Int) : ibits .or .u64 a b = (((BitVec.ofInt 64 a ||| BitVec.ofInt 64 b).toNat : Nat) : Int) := by
  show IntKind.wrap .u64 (((BitVec.ofInt 64 a ||| BitVec.ofInt 64 b).toNat : Nat) : Int) = _
  have := (BitVec.ofInt 64 a ||| BitVec.ofInt 64 b).isLt
  rw [wu64]
  exact Int.emod_eq_of_lt (by omega) (by omega)
theorem or_swap (a x y : Int) : ibits .or .u64 (ibits .or .u64 a x) y = ibits .or .u64 (ibits .or .u64 a y) x := by
  have back : ∀ v : BitVec 64, BitVec.ofInt 64 ((v.toNat : Nat) : Int) = v := fun v => by
    apply BitVec.eq_of_toNat_eq
    rw [BitVec.toNat_ofInt]
    have := v.isLt
    omega
  rw [or_toNat (ibits .or .u64 a x), or_toNat (ibits .or .u64 a y), or_toNat a x, or_toNat a y, back, back, BitVec.or_assoc, BitVec.or_assoc, BitVec.or_comm (BitVec.ofInt 64 x)]
theorem orAt_swap (o : List Int) (i j : Nat) (x y : Int) : orAt (orAt o i x) j y = orAt (orAt o j y) i x := by
  unfold orAt
  by_cases h : i / 8 = j / 8
  · rw [← h]
    by_cases hl : i / 8 < o.length
    · have g : ∀ v : Int, (o.set (i / 8) v).getD (i / 8) 0 = v := fun v => by rw [List.getD_eq_getElem?_getD, List.getElem?_set_self hl, Option.getD_some]
      rw [g, g, List.set_set, List.set_set, or_swap]
    · have k : ∀ (v : Int), o.set (i / 8) v = o := fun v => List.set_eq_of_length_le (by omega)
      simp only [k]
  · have g1 : ∀ v : Int, (o.set (i / 8) v).getD (j / 8) 0 = o.getD (j / 8) 0 := fun v => by rw [List.getD_eq_getElem?_getD, List.getElem?_set_ne h, List.getD_eq_getElem?_getD]
    have g2 : ∀ v : Int, (o.set (j / 8) v).getD (i / 8) 0 = o.getD (i / 8) 0 := fun v => by rw [List.getD_eq_getElem?_getD, List.getElem?_set_ne (Ne.symm h), List.getD_eq_getElem?_getD]
    rw [g1, g2, List.set_comm _ _ h]
def upA (f : Nat → Int) : Nat → List Int → List Int
  | 0, o => o
  | m + 1, o => orAt (upA f m o) m (f m)
def downA (f : Nat → Int) : Nat → List Int → List Int
  | 0, o => o
  | m + 1, o => downA f m (orAt o m (f m))
theorem upA_swap (f : Nat → Int) (x : Int) (j : Nat) : ∀ (m : Nat) (o : List Int), upA f m (orAt o j x) = orAt (upA f m o) j x
  | 0, o => rfl
  | m + 1, o => by rw [upA, upA_swap f x j m, orAt_swap, upA]
theorem down_up (f : Nat → Int) : ∀ (m : Nat) (o : List Int), downA f m o = upA f m o
  | 0, o => rfl
  | m + 1, o => by rw [downA, down_up f m, upA_swap, upA]
theorem up_val {b : List Int} (hb : ∀ x ∈ b, 0 ≤ x ∧ x < 256) : ∀ m, m ≤ 32 → W4 (upA (fun i => b.getD (b.length - 1 - i) 0) m [0, 0, 0, 0]) ∧ V (upA (fun i => b.getD (b.length - 1 - i) 0) m [0, 0, 0, 0]) = readI b m
  | 0, _ => ⟨.mk (by omega) (by omega) (by omega) (by omega), rfl⟩
  | m + 1, h => by
    obtain ⟨h1, h2⟩ := up_val hb m (by omega)
    obtain ⟨k1, k2⟩ := put_byte h1 (i := m) (by omega) (by rw [h2]; exact (readI_bound hb m).2) (byte_getD hb (b.length - 1 - m))
    exact ⟨k1, by rw [upA, orAt, k2, h2]; rfl⟩
theorem word_loop {b : List Int} {m : Nat} (hm : m ≤ 32) (hl : m ≤ b.length) (hb : ∀ x ∈ b, 0 ≤ x ∧ x < 256) (hlen : b.length ≤ 140737488351232) (x3 : Int) (x5 x6 : List Int) : ∀ (r i fuel : Nat) (o : List Int), i + r = m → r + 1 ≤ fuel →
    Fb.l10_0.g (fun a0 a1 a2 a3 a4 => (a0, a1, a2, a3, a4)) 2000 fuel (i : Int) (m : Int) b x3 o x5 x6 = some (x3, (m : Int), x5, x6, downA (fun j => (b.take m).getD ((b.take m).length - 1 - j) 0) r o)
  | 0, i, fuel + 1, o, hi, hf => by
    show Fb.l10_0.r _ _ _ _ _ _ _ _ _ _ = _
    simp only [Fb.l10_0.r]
    rw [if_neg (by simp; omega)]
    rfl
  | r + 1, i, fuel + 1, o, hi, hf => by
    have w : IntKind.wrap .i64 (IntKind.wrap .i64 ((m : Int) - 1) - (i : Int)) = (r : Int) := by
      rw [wi64_id (n := (m : Int) - 1) (by omega) (by omega), wi64_id (by omega) (by omega)]; omega
    have w1 : IntKind.wrap .i64 ((i : Int) + 1) = ((i + 1 : Nat) : Int) := by rw [wi64]; omega
    have w3 := at_div r (by omega)
    have w4 := at_mod r (by omega)
    have hlt : i < b.length := by omega
    have gi : b.getD i 0 = b[i] := by rw [List.getD_eq_getElem?_getD, List.getElem?_eq_getElem hlt, Option.getD_some]
    have hx := hb _ (List.getElem_mem hlt)
    have wx : IntKind.wrap .u64 (b.getD i 0) = b.getD i 0 := by rw [gi, wu64]; omega
    have ht : (b.take m).length = m := by rw [List.length_take]; omega
    have hg : (b.take m).getD ((b.take m).length - 1 - r) 0 = b.getD i 0 := by
      rw [ht, show m - 1 - r = i by omega, List.getD_eq_getElem?_getD, List.getElem?_take, if_pos (by omega), List.getD_eq_getElem?_getD]
    show Fb.l10_0.r _ _ _ _ _ _ _ _ _ _ = _
    simp only [Fb.l10_0.r, w, w1, w3, w4, wx, Int.toNat_natCast]
    rw [if_pos (decide_eq_true (by omega)), if_pos (by omega), if_pos (by omega), if_pos (by omega), if_pos (by omega), if_pos (by omega), if_pos (by omega), if_pos (by omega)]
    rw [downA, hg, orAt]
    exact word_loop hm hl hb hlen x3 x5 x6 r (i + 1) fuel _ (by omega) (by omega)
theorem CodePushes (n : Int) (hn : InK .u8 n) (b : List Int) (hb : InS .u8 b) (c : List Int) (hc : InS .u8 c) : ∃ N, Fb.m N (n, b, c) = some true := by
  refine ⟨2000, ?_⟩
  have h8 := b8_of hb.2
  have h8c := b8_of hc.2
  have n0 := lo8 hn
  have n1 := hi8 hn
  have wn : IntKind.wrap .i64 n = n := by rw [wi64]; omega
  obtain ⟨m, hm, hm32⟩ : ∃ m : Nat, Int.tmod (IntKind.wrap .i64 n) 33 = (m : Int) ∧ m ≤ 32 := by
    rw [wn, Int.tmod_eq_emod_of_nonneg n0]
    exact ⟨(n % 33).toNat, by omega, by omega⟩
  unfold Fb.m Fb.g
  simp only [hm, known2, bindO, Option.bind_some, Bool.not_true, Bool.false_eq_true, if_false]
  by_cases h : ((b.length : Nat) : Int) < (m : Int)
  · rw [if_pos (decide_eq_true h)]
  · rw [if_neg (by simpa using h)]
    by_cases h' : ((c.length : Nat) : Int) > 1500
    · rw [if_pos (decide_eq_true h')]
    · rw [if_neg (by simpa using h')]
      have hlm : m ≤ b.length := by omega
      have hcl : c.length ≤ 1500 := by omega
      have wm : IntKind.wrap .u8 (95 + IntKind.wrap .u8 (m : Int)) = 95 + (m : Int) := by rw [wu8, wu8]; omega
      have wm2 : IntKind.wrap .u64 (m : Int) = (m : Int) := by rw [wu64]; omega
      have hcut : cut b 0 (some m) = b.take m := rfl
      simp only [wm, wm2, Int.toNat_natCast, hcut]
      have ht : (b.take m).length = m := by rw [List.length_take]; omega
      obtain ⟨C, hC⟩ : ∃ C, [95 + (m : Int)] ++ b.take m ++ c = C := ⟨_, rfl⟩
      have hCl : C.length = 1 + m + c.length := by rw [← hC]; simp [ht]; omega
      have hC8 : ∀ x ∈ C, 0 ≤ x ∧ x < 256 := by
        rw [← hC]
        intro x hx
        simp only [List.mem_append, List.mem_singleton] at hx
        rcases hx with (rfl | hx) | hx
        · omega
        · exact h8 x (List.mem_of_mem_take hx)
        · exact h8c x hx
      have o0 : cOp C 0 = 95 + (m : Int) := by rw [← hC]; rfl
      have hpn : pushN (cOp C 0) = m := by rw [o0]; unfold pushN; rw [if_pos (by omega)]; omega
      have hbeh : behind C 0 m = b.take m := by
        refine List.ext_getElem (by rw [behind_length, ht]) fun i h1 h2 => ?_
        have hi : i < m := by rw [behind_length] at h1; exact h1
        simp only [behind, List.getElem_map, List.getElem_range, cOp]
        rw [← hC, List.append_assoc, List.getElem?_append_right (by simp), List.getElem?_append_left (by rw [ht]; simp; omega)]
        simp only [List.length_singleton]
        rw [show 0 + 1 + i - 1 = i by omega, List.getElem?_eq_getElem (by rw [ht]; exact hi), Option.getD_some]
      have hrd : rd (b.take m) = m := by unfold rd; rw [ht, if_pos hm32]
      have e1 := code_Push_ok (n := 2000) (by omega) hC8 (by omega) 0
      rw [hpn] at e1
      have hW : pushW C 0 = ofV (readI (b.take m) m) := by
        unfold pushW
        rw [hpn, if_pos (by rw [o0]; omega), hbeh, hrd]
      rw [hW] at e1
      have u := up_val (b := b.take m) (fun x hx => h8 x (List.mem_of_mem_take hx)) m hm32
      have e2 := word_loop hm32 hlm h8 hb.1 (m : Int) C (ofV (readI (b.take m) m)) m 0 2000 [0, 0, 0, 0] (by omega) (by omega)
      rw [down_up] at e2
      have hval : upA (fun j => (b.take m).getD ((b.take m).length - 1 - j) 0) m [0, 0, 0, 0] = ofV (readI (b.take m) m) := by rw [← u.2, ofV_V u.1]
      rw [hval] at e2
      have e2' : Fb.l10_0.m 2000 2000 (0, (m : Int), b, (m : Int), [0, 0, 0, 0], C, ofV (readI (b.take m) m)) = _ := e2
      have e3 := code_Jumps_ok 2000 (b := C) (by omega)
      have e1' : Fz.m 2000 (C, 0) = _ := e1
      rw [if_pos (by omega), if_pos (by omega), if_pos (by rw [ht]; omega), if_pos (by simp only [List.length_append, List.length_singleton, ht]; omega)]
      simp only [hC, e1', e2', e3, Option.bind_some, beq_self_eq_true, if_true, wm2]
      have hfirst : ∀ x ∈ cJump (cSteps C 0), (m : Int) < x := by
        intro x hx
        rw [steps_lt (by omega), jump_cons, o0, if_neg (by simp only; omega)] at hx
        obtain ⟨j, k1, k2, _⟩ := jump_mem _ x hx
        have : cNext (95 + (m : Int)) 0 = m + 1 := by unfold cNext; split <;> omega
        omega
      by_cases hz : (cJump (cSteps C 0)).length = 0
      · rw [if_pos (by simpa using hz)]
      · rw [if_neg (by simpa using hz), if_pos (by omega)]
        have hlt : 0 < (cJump (cSteps C 0)).length := by omega
        rw [List.getD_eq_getElem?_getD, List.getElem?_eq_getElem hlt, Option.getD_some]
        have := hfirst _ (List.getElem_mem hlt)
        rw [decide_eq_true this]
end Go.Abs.Pure
end
