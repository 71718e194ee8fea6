/- Plain laws about what the functions compute. Conditions: the arguments' bounds, as each theorem says. -/
import Derived.Test.YtaageoambenggaaBinG1
import Derived.Test.YtaageoambenggaaAbsG6
import Derived.Test.YtaageoambenggaaProg
import Derived.Test.YtaageoambenggaaFnCodeShifts1
section
set_option linter.unusedVariables false
namespace Go.Abs.Pure
open Go Go.Abs
def W4 (l : List Int) : Prop := l.length = 4 ∧ ∀ x ∈ l, 0 ≤ x ∧ x < 18446744073709551616
theorem W4.split {l : List Int} (h : W4 l) : ∃ a b c d, l = [a, b, c, d] ∧ (0 ≤ a ∧ a < 18446744073709551616) ∧ (0 ≤ b ∧ b < 18446744073709551616) ∧ (0 ≤ c ∧ c < 18446744073709551616) ∧ (0 ≤ d ∧ d < 18446744073709551616) := by
  obtain ⟨h1, h2⟩ := h
  match l, h1 with
  | [a, b, c, d], _ => exact ⟨a, b, c, d, rfl, h2 a (by simp), h2 b (by simp), h2 c (by simp), h2 d (by simp)⟩
theorem W4.mk {a b c d : Int} (ha : 0 ≤ a ∧ a < 18446744073709551616) (hb : 0 ≤ b ∧ b < 18446744073709551616) (hc : 0 ≤ c ∧ c < 18446744073709551616) (hd : 0 ≤ d ∧ d < 18446744073709551616) : W4 [a, b, c, d] :=
  ⟨rfl, by simp; exact ⟨ha, hb, hc, hd⟩⟩
theorem lo8 {x : Int} (h : InK .u8 x) : 0 ≤ x := h.1
theorem hi8 {x : Int} (h : InK .u8 x) : x < 256 := by have := h.2; simp [IntKind.max, IntKind.bits, IntKind.signed] at this; omega
theorem lo64 {x : Int} (h : InK .u64 x) : 0 ≤ x := h.1
theorem hi64 {x : Int} (h : InK .u64 x) : x < 18446744073709551616 := by have := h.2; simp [IntKind.max, IntKind.bits, IntKind.signed] at this; omega
theorem W4.of {l : List Int} (h : InA .u64 4 l) : W4 l := ⟨h.1, fun x hx => ⟨lo64 (h.2 x hx), hi64 (h.2 x hx)⟩⟩
def V : List Int → Int
  | [a, b, c, d] => a + b * 18446744073709551616 + c * 340282366920938463463374607431768211456 + d * 6277101735386680763835789423207666416102355444464034512896
  | _ => 0
def B : Int := 115792089237316195423570985008687907853269984665640564039457584007913129639936
def ofV (x : Int) : List Int := [x % 18446744073709551616, x / 18446744073709551616 % 18446744073709551616, x / 340282366920938463463374607431768211456 % 18446744073709551616, x / 6277101735386680763835789423207666416102355444464034512896 % 18446744073709551616]
theorem V_range {l : List Int} (h : W4 l) : 0 ≤ V l ∧ V l < B := by
  obtain ⟨a, b, c, d, rfl, ha, hb, hc, hd⟩ := h.split
  simp only [V, B]; omega
theorem eq_ofV {l : List Int} (h : W4 l) {x : Int} (hx : V l = x % B) : l = ofV x := by
  obtain ⟨a, b, c, d, rfl, ha, hb, hc, hd⟩ := h.split
  simp only [V, B] at hx
  simp only [ofV, List.cons.injEq, and_true]
  refine ⟨?_, ?_, ?_, ?_⟩ <;> omega
theorem digits {a b c d t : Int} (q : Int) (ha : 0 ≤ a ∧ a < 18446744073709551616) (hb : 0 ≤ b ∧ b < 18446744073709551616) (hc : 0 ≤ c ∧ c < 18446744073709551616) (hd : 0 ≤ d ∧ d < 18446744073709551616) (h : t = V [a, b, c, d] + B * q) : [a, b, c, d] = ofV t := by
  have r := V_range (.mk ha hb hc hd)
  refine eq_ofV (.mk ha hb hc hd) ?_
  rw [h, Int.add_mul_emod_self_left, Int.emod_eq_of_lt r.1 r.2]
end Go.Abs.Pure
end
section
set_option linter.unusedVariables false
set_option linter.unusedSimpArgs false
namespace Go.Abs.Pure
open Go Go.Abs
def val (b : Int) : List Int → Int
  | [] => 0
  | x :: r => x + b * val b r
def Dig (b : Int) (l : List Int) : Prop := ∀ x ∈ l, 0 ≤ x ∧ x < b
theorem Dig.getD {b : Int} {l : List Int} (h : Dig b l) {i : Nat} (hi : i < l.length) : 0 ≤ l.getD i 0 ∧ l.getD i 0 < b := by
  rw [List.getD_eq_getElem?_getD, List.getElem?_eq_getElem hi]
  exact h _ (List.getElem_mem hi)
theorem Dig.set {b : Int} {l : List Int} (h : Dig b l) {i : Nat} {d : Int} (hd : 0 ≤ d ∧ d < b) : Dig b (l.set i d) := fun x hx => by
  rcases List.mem_or_eq_of_mem_set hx with h' | h'
  · exact h x h'
  · rw [h']; exact hd
theorem val_set {b : Int} : ∀ {l : List Int} {k : Nat} {d : Int}, k < l.length → val b (l.set k d) = val b l + (d - l.getD k 0) * b ^ k
  | x :: r, 0, d, _ => by simp only [List.set_cons_zero, val, List.getD_cons_zero]; grind
  | x :: r, k + 1, d, h => by
    have ih := val_set (b := b) (l := r) (k := k) (d := d) (by simpa using h)
    simp only [List.set_cons_succ, val, List.getD_cons_succ, ih]
    grind
theorem val_take {b : Int} : ∀ {l : List Int} {k : Nat}, k < l.length → val b (l.take (k + 1)) = val b (l.take k) + l.getD k 0 * b ^ k
  | x :: r, 0, _ => by simp [val]
  | x :: r, k + 1, h => by
    have ih := val_take (b := b) (l := r) (k := k) (by simpa using h)
    simp only [List.take_succ_cons, val, List.getD_cons_succ] at ih ⊢
    rw [ih]
    grind
theorem val_replicate (b : Int) : ∀ n, val b (List.replicate n 0) = 0
  | 0 => rfl
  | n + 1 => by simp [List.replicate_succ, val, val_replicate b n]
theorem getD_set {l : List Int} {i j : Nat} {d : Int} (h : i ≠ j) : (l.set i d).getD j 0 = l.getD j 0 := by
  simp [List.getD_eq_getElem?_getD, h]
structure Row (b x : Int) (y : List Int) (i k : Nat) (o0 o : List Int) (c : Int) : Prop where
  len : o.length = o0.length
  dig : Dig b o
  car : 0 ≤ c ∧ c < b
  eq : val b o + c * b ^ (i + k) = val b o0 + x * val b (y.take k) * b ^ i
  up : ∀ j, i + k ≤ j → o.getD j 0 = o0.getD j 0
theorem Row.start {b x : Int} {y : List Int} {i : Nat} {o : List Int} (hb : 0 < b) (h : Dig b o) : Row b x y i 0 o o 0 := ⟨rfl, h, ⟨by omega, hb⟩, by simp [val], fun _ _ => rfl⟩
theorem Row.step {b x : Int} {y : List Int} {i k : Nat} {o0 o : List Int} {c d c' : Int} (h : Row b x y i k o0 o c) (hk : k < y.length) (hi : i + k < o.length)
    (ht : o.getD (i + k) 0 + x * y.getD k 0 + c = d + b * c') (hd : 0 ≤ d ∧ d < b) (hc : 0 ≤ c' ∧ c' < b) : Row b x y i (k + 1) o0 (o.set (i + k) d) c' := by
  refine ⟨by simp [h.len], h.dig.set hd, hc, ?_, fun j hj => ?_⟩
  · rw [val_set hi, val_take hk]
    have e := h.eq
    rw [show i + (k + 1) = i + k + 1 by omega, Int.pow_succ]
    rw [Int.pow_add] at e ⊢
    generalize val b o = vo at *
    generalize val b o0 = v0 at *
    generalize val b (y.take k) = s at *
    generalize o.getD (i + k) 0 = oo at *
    generalize y.getD k 0 = yk at *
    generalize b ^ i = p at *
    generalize b ^ k = q at *
    grind
  · rw [getD_set (by omega)]
    exact h.up j (by omega)
structure Rows (b : Int) (x y : List Int) (i : Nat) (o : List Int) : Prop where
  len : o.length = x.length + y.length
  dig : Dig b o
  eq : val b o = val b (x.take i) * val b y
  up : ∀ j, i + y.length ≤ j → o.getD j 0 = 0
theorem Rows.start {b : Int} (hb : 0 < b) {x y : List Int} {n : Nat} (hn : n = x.length + y.length) : Rows b x y 0 (List.replicate n 0) :=
  ⟨by simp [hn], fun z hz => by have := List.eq_of_mem_replicate hz; omega, by simp [val, val_replicate], fun j _ => by
    simp only [List.getD_eq_getElem?_getD, List.getElem?_replicate]; split <;> rfl⟩
theorem Rows.step {b : Int} {x y : List Int} {i : Nat} {o0 o : List Int} {c : Int} (h : Rows b x y i o0) (hi : i < x.length) (r : Row b (x.getD i 0) y i y.length o0 o c) : Rows b x y (i + 1) (o.set (i + y.length) c) := by
  have hl : o.length = x.length + y.length := by rw [r.len, h.len]
  refine ⟨by simpa using hl, r.dig.set r.car, ?_, fun j hj => ?_⟩
  · rw [val_set (by omega), r.up _ (Nat.le_refl _), h.up _ (Nat.le_refl _), val_take hi]
    have e := r.eq
    rw [h.eq, List.take_length] at e
    generalize val b o = vo at *
    generalize val b (x.take i) = s at *
    generalize val b y = vy at *
    generalize b ^ i = p at *
    generalize b ^ (i + y.length) = q at *
    grind
  · rw [getD_set (by omega), r.up j (by omega)]
    exact h.up j (by omega)
theorem Rows.all {b : Int} {x y o : List Int} (h : Rows b x y x.length o) : val b o = val b x * val b y := by rw [h.eq, List.take_length]
theorem W4.dig {l : List Int} (h : W4 l) : Dig 18446744073709551616 l := h.2
end Go.Abs.Pure
end
section
set_option linter.unusedVariables false
set_option linter.unusedSimpArgs false
namespace Go.Abs.Pure
open Go Go.Abs
def H : Int := 57896044618658097711785492504343953926634992332820282019728792003956564819968
def S (x : List Int) : Int := if V x < H then V x else V x - B
end Go.Abs.Pure
end
section
set_option linter.unusedVariables false
set_option linter.unusedSimpArgs false
set_option maxRecDepth 20000
namespace Go.Abs.Pure
open Go Go.Abs
theorem set_same {l : List Int} {i : Nat} (h : l.getD i 0 = 0) (hi : i < l.length) : l = l.set i 0 := by
  have : l[i] = 0 := by rw [List.getD_eq_getElem?_getD, List.getElem?_eq_getElem hi] at h; simpa using h
  rw [← this, List.set_getElem_self]
end Go.Abs.Pure
end
section
set_option linter.unusedVariables false
set_option linter.unusedSimpArgs false
set_option maxRecDepth 20000
namespace Go.Abs.Pure
open Go Go.Abs
def Short (b : List Int) : Prop := b.length ≤ 100000
def rd (b : List Int) : Nat := if b.length ≤ 32 then b.length else 32
end Go.Abs.Pure
end
section
set_option linter.unusedVariables false
set_option linter.unusedSimpArgs false
set_option maxRecDepth 100000
namespace Go.Abs.Pure
open Go Go.Abs
theorem nextLt (o : Int) (k : Nat) : k < cNext o k := by unfold cNext; split <;> omega
theorem walk_fuel (b : List Int) : ∀ (f g k : Nat), b.length - k ≤ f → b.length - k ≤ g → cWalk b f k = cWalk b g k
  | 0, 0, _, _, _ => rfl
  | 0, g + 1, k, h, _ => by
    have : ¬ k < b.length := by omega
    simp [cWalk, this]
  | f + 1, 0, k, _, h => by
    have : ¬ k < b.length := by omega
    simp [cWalk, this]
  | f + 1, g + 1, k, h1, h2 => by
    simp only [cWalk]
    split
    · have := nextLt (cOp b k) k
      rw [walk_fuel b f g _ (by omega) (by omega)]
    · rfl
theorem steps_lt {b : List Int} {k : Nat} (h : k < b.length) : cSteps b k = (k, cOp b k) :: cSteps b (cNext (cOp b k) k) := by
  unfold cSteps
  obtain ⟨f, hf⟩ : ∃ f, b.length - k = f + 1 := ⟨b.length - k - 1, by omega⟩
  rw [hf]
  simp only [cWalk, if_pos h]
  have := nextLt (cOp b k) k
  rw [walk_fuel b f _ _ (by omega) (Nat.le_refl _)]
theorem steps_ge {b : List Int} {k : Nat} (h : b.length ≤ k) : cSteps b k = [] := by
  unfold cSteps
  rw [show b.length - k = 0 by omega]
  rfl
theorem places {b : List Int} {P : Nat → Prop} (h0 : ∀ k, b.length ≤ k → P k) (h1 : ∀ k, k < b.length → P (cNext (cOp b k) k) → P k) : ∀ k, P k := by
  have key : ∀ m k, b.length - k ≤ m → P k := by
    intro m
    induction m with
    | zero => intro k hk; exact h0 k (by omega)
    | succ m ih =>
      intro k hk
      by_cases h : k < b.length
      · exact h1 k h (ih _ (by have := nextLt (cOp b k) k; omega))
      · exact h0 k (by omega)
  exact fun k => key _ k (Nat.le_refl _)
theorem jump_cons (x : Nat × Int) (l : List (Nat × Int)) : cJump (x :: l) = if x.2 = 91 then (x.1 : Int) :: cJump l else cJump l := by
  unfold cJump
  by_cases h : x.2 = 91
  · simp [h]
  · simp [h]
theorem jump_mem {b : List Int} : ∀ k, ∀ x ∈ cJump (cSteps b k), ∃ j : Nat, x = (j : Int) ∧ k ≤ j ∧ j < b.length ∧ cOp b j = 91 := by
  refine places (b := b) (fun k h => ?_) fun k h ih => ?_
  · rw [steps_ge h]; simp [cJump]
  · rw [steps_lt h, jump_cons]
    intro x hx
    have hk := nextLt (cOp b k) k
    split at hx
    · rename_i h91
      rcases List.mem_cons.1 hx with rfl | hx
      · exact ⟨k, rfl, Nat.le_refl _, h, h91⟩
      · obtain ⟨j, e1, e2, e3, e4⟩ := ih x hx
        exact ⟨j, e1, by omega, e3, e4⟩
    · obtain ⟨j, e1, e2, e3, e4⟩ := ih x hx
      exact ⟨j, e1, by omega, e3, e4⟩
theorem jump_length {b : List Int} : ∀ k, (cJump (cSteps b k)).length ≤ b.length - k := by
  refine places (b := b) (fun k h => ?_) fun k h ih => ?_
  · rw [steps_ge h]; simp [cJump]
  · rw [steps_lt h, jump_cons]
    have hk := nextLt (cOp b k) k
    split
    · simp only [List.length_cons]; omega
    · omega
def behind (b : List Int) (k m : Nat) : List Int := (List.range m).map fun i => cOp b (k + 1 + i)
theorem code_Jumps_ok (n : Nat) {b : List Int} (hl : b.length ≤ 100000) : Fl.m n b = some (cJump (cSteps b 0)) := by
  simp only [Fl.m, if_pos hl]
end Go.Abs.Pure
end
section
set_option linter.unusedVariables false
set_option linter.unusedSimpArgs false
set_option maxRecDepth 100000
namespace Go.Abs.Pure
open Go Go.Abs
theorem op_append {b c : List Int} {k : Nat} (h : k < b.length) : cOp (b ++ c) k = cOp b k := by simp [cOp, List.getElem?_append_left h]
theorem jump_shift (a b : List Int) : ∀ k, cJump (cSteps (a ++ b) (a.length + k)) = (cJump (cSteps b k)).map (· + (a.length : Int)) := by
  refine places (b := b) (fun k h => ?_) fun k h ih => ?_
  · rw [steps_ge h, steps_ge (by rw [List.length_append]; omega)]; rfl
  · have ho : cOp (a ++ b) (a.length + k) = cOp b k := by
      unfold cOp
      rw [List.getElem?_append_right (by omega), Nat.add_sub_cancel_left]
    have hn : cNext (cOp b k) (a.length + k) = a.length + cNext (cOp b k) k := by unfold cNext; split <;> omega
    rw [steps_lt h, steps_lt (b := a ++ b) (by rw [List.length_append]; omega), ho, hn, jump_cons, jump_cons, ih]
    split
    · simp only [List.map_cons]
      congr 1
      omega
    · rfl
theorem jump_plain (n : Nat) (b : List Int) : ∀ r k, k + r = n → cJump (cSteps (List.replicate n 80 ++ b) k) = cJump (cSteps (List.replicate n 80 ++ b) n)
  | 0, k, h => by rw [show k = n by omega]
  | r + 1, k, h => by
    have ho : cOp (List.replicate n 80 ++ b) k = 80 := by
      rw [op_append (by simp; omega)]
      simp [cOp, show k < n by omega]
    rw [steps_lt (by simp; omega), ho, jump_cons, if_neg (show ¬ (80 : Int) = 91 by decide)]
    exact jump_plain n b r (k + 1) (by omega)
theorem jumps_shift (n : Nat) (b : List Int) : cJump (cSteps (List.replicate n 80 ++ b) 0) = (cJump (cSteps b 0)).map (· + (n : Int)) := by
  rw [jump_plain n b n 0 (by omega)]
  have := jump_shift (List.replicate n 80) b 0
  simpa using this
end Go.Abs.Pure
end
section
set_option linter.unusedVariables false
set_option linter.unusedSimpArgs false
set_option maxRecDepth 100000
namespace Go.Abs.Pure
open Go Go.Abs
theorem known2 : Fab.m 2000 () = some true := by kernel_rfl
theorem fill_loop {N : Nat} {m : Nat} (hm : m ≤ 255) (b : List Int) : ∀ (r i fuel : Nat), i + r = m → r + 1 ≤ fuel →
    Fb.l5_0.g (fun a0 a1 a2 => (a0, a1, a2)) N fuel (i : Int) (m : Int) b (List.replicate i 80) = some (b, (m : Int), List.replicate m 80)
  | 0, i, fuel + 1, hi, hf => by
    obtain rfl : i = m := by omega
    have w : IntKind.wrap .i64 (i : Int) = (i : Int) := by rw [wi64]; omega
    show Fb.l5_0.r _ _ _ _ _ _ _ = _
    simp only [Fb.l5_0.r, w]
    rw [if_neg (by simp)]
  | r + 1, i, fuel + 1, hi, hf => by
    have w : IntKind.wrap .i64 (m : Int) = (m : Int) := by rw [wi64]; omega
    have w1 : IntKind.wrap .i64 ((i : Int) + 1) = ((i + 1 : Nat) : Int) := by rw [wi64]; omega
    show Fb.l5_0.r _ _ _ _ _ _ _ = _
    simp only [Fb.l5_0.r, w, w1]
    rw [if_pos (decide_eq_true (by omega)), if_pos (by simp; omega)]
    have := fill_loop (N := N) hm b r (i + 1) fuel (by omega) (by omega)
    rw [List.replicate_succ'] at this
    exact this
theorem cshift_loop {N : Nat} {m : Nat} (hm : m ≤ 255) {l : List Int} (hl : ∀ x ∈ l, ∃ j : Nat, x = (j : Int) ∧ j ≤ 100000) (hlen : l.length ≤ 100000) : ∀ (r i fuel : Nat), i + r = l.length → r + 1 ≤ fuel →
    Fb.l14_0.g (fun a0 => .inl a0) (.inr ()) N fuel (i : Int) (m : Int) l (l.map (· + (m : Int))) = some (.inr () : Bool ⊕ Unit)
  | 0, i, fuel + 1, hi, hf => by
    show Fb.l14_0.r _ _ _ _ _ _ _ _ = _
    simp only [Fb.l14_0.r]
    rw [if_neg (by simp; omega)]
  | r + 1, i, fuel + 1, hi, hf => by
    have hlt : i < l.length := by omega
    obtain ⟨j, e1, e2⟩ := hl l[i] (List.getElem_mem hlt)
    have g1 : l.getD i 0 = (j : Int) := by rw [List.getD_eq_getElem?_getD, List.getElem?_eq_getElem hlt]; exact e1
    have g2 : (l.map (· + (m : Int))).getD i 0 = (j : Int) + (m : Int) := by
      rw [List.getD_eq_getElem?_getD, List.getElem?_map, List.getElem?_eq_getElem hlt, Option.map_some, Option.getD_some, e1]
    have w : IntKind.wrap .i64 ((i : Int) + 1) = ((i + 1 : Nat) : Int) := by rw [wi64]; omega
    have wm : IntKind.wrap .u64 (m : Int) = (m : Int) := by rw [wu64]; omega
    have wj : IntKind.wrap .u64 ((j : Int) + (m : Int)) = (j : Int) + (m : Int) := by rw [wu64]; omega
    show Fb.l14_0.r _ _ _ _ _ _ _ _ = _
    simp only [Fb.l14_0.r, Int.toNat_natCast, g1, g2, wm, wj, w, List.length_map]
    rw [if_pos (decide_eq_true (by omega)), if_pos (by omega), if_pos (by omega), if_pos (by omega), if_pos (by omega), if_neg (by simp)]
    exact cshift_loop hm hl hlen r (i + 1) fuel (by omega) (by omega)
theorem CodeShifts (b : List Int) (hb : InS .u8 b) (n : Int) (hn : InK .u8 n) : ∃ N, Fb.m N (b, n) = some true := by
  refine ⟨2000, ?_⟩
  obtain ⟨m, rfl⟩ := Int.eq_ofNat_of_zero_le (lo8 hn)
  have hm := hi8 hn
  unfold Fb.m Fb.g
  simp only [known2, bindO, Option.bind_some, Bool.not_true, Bool.false_eq_true, if_false]
  by_cases h : ((b.length : Nat) : Int) > 750
  · rw [if_pos (decide_eq_true h)]
  · rw [if_neg (by simpa using h)]
    have hl : b.length ≤ 750 := by omega
    have f := fill_loop (N := 2000) (m := m) (by omega) b m 0 2000 (by omega) (by omega)
    have f' : Fb.l5_0.m 2000 2000 (0, (m : Int), b, []) = some (b, (m : Int), List.replicate m 80) := f
    rw [f']
    simp only [Option.bind_some]
    have e1 := code_Jumps_ok 2000 (b := b) (by omega)
    have e2 := code_Jumps_ok 2000 (b := List.replicate m 80 ++ b) (by simp; omega)
    rw [jumps_shift] at e2
    have hj := jump_length (b := b) 0
    have e3 := cshift_loop (N := 2000) (m := m) (by omega) (l := cJump (cSteps b 0)) (fun x hx => by
      obtain ⟨j, k1, _, k3, _⟩ := jump_mem (b := b) 0 x hx
      exact ⟨j, k1, by omega⟩) (by omega) (cJump (cSteps b 0)).length 0 2000 (by omega) (by omega)
    have e3' : Fb.l14_0.m 2000 2000 (0, (m : Int), cJump (cSteps b 0), (cJump (cSteps b 0)).map (· + (m : Int))) = some (.inr ()) := e3
    rw [if_pos (by simp; omega), e1]
    simp only [Option.bind_some, e2, List.length_map]
    rw [if_neg (by simp), e3']
    rfl
end Go.Abs.Pure
end
