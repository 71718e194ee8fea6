/- Plain laws about what the functions compute. Conditions: the arguments' bounds, as each theorem says. -/
import Derived.Test.YtkknbhapkdgcjaaGreatDoorRows
import Derived.LaidLaws
import Derived.Test.YtkknbhapkdgcjaaGreatDoorAbsQ8
import Derived.Test.YtkknbhapkdgcjaaGreatDoorFnDeskNonces1
import Derived.Test.YtkknbhapkdgcjaaGreatDoorBinQ1
import Derived.KernelRfl
import Derived.Test.YtkknbhapkdgcjaaGreatDoorFnDeskNonces3
import Derived.Test.YtkknbhapkdgcjaaGreatDoorFnDeskNonces2
section
set_option linter.unusedVariables false
set_option linter.unusedSimpArgs false
set_option maxRecDepth 100000
namespace Go.Abs
open Go Go.Proofs Go.RowKit Go.Proofs.YtkknbhapkdgcjaaGreatDoor
theorem star : "*" ++ "errors.errorString" = "*errors.errorString" := by decide
theorem row201 (u : TypeId) (h : Tryz.prog.typeName? 3 u = some "*errors.errorString") : u = 201 :=
 typeName_ptr_named (nm := "errors.errorString") (by rw [star]; kernel_rfl) (by kernel_rfl) (by decide) u (by rw [star]; exact h)
theorem one_sent {W : World} {name : String} {text : List UInt8} {ps : List MemPlace} {k : Nat} {r : List (String × DataW Unit)} (hk : Tryz.prog.globalNamed name = some k) (ht : (Tryz.prog.globals[k]?).map (·.type) = some 91)
  (h : DataW.LaidVars Tryz.prog W ((name, .iface "*errors.errorString" (.ptr (.agg [.lit (.string text)]))) :: r) ps)
  (hok : ∀ b off, MemPlace.cell b off ∈ ps → (∃ c t, W.heap[b]? = some (.cells c t (0, 0))) ∧ ∀ u v, W.cell? ⟨b, off, none⟩ = some (.iface u v) → Value.okWide Tryz.prog W .any 0 u v) :
  ∃ a s q, W.cell? ⟨k, 0, none⟩ = some (.iface 201 (.pointer (some a))) ∧ W.cell? a = some (.string s) ∧ s.data.toList = text ∧ (∃ c t, W.heap[a.block]? = some (.cells c t (0, 0))) ∧ DataW.LaidVars Tryz.prog W r q ∧ ∀ x ∈ q, x ∈ ps := by
 obtain ⟨g, t, cs, fuel, p, q, a1, a2, a3, a4, a5, rfl⟩ := h
 obtain rfl : g = k := Option.some.inj (a1.symm.trans hk)
 obtain rfl : t = 91 := Option.some.inj (a2.symm.trans ht)
 have hcell0 : ∀ i, W.cell? ⟨g, i, none⟩ = cs[i]? := fun i => World.var?_cell a1 a3 i
 have hmem0 : ∀ u v, cs.toList = [.iface u v] → MemPlace.cell g 0 ∈ MemPlace.row ⟨g, 0, none⟩ cs.size ++ p ++ q := fun u v hc => by
  have : cs.size = 1 := by rw [← Array.length_toList, hc]; rfl
  rw [this]
  simp [MemPlace.row]
 have hc0 : ∀ u v, cs.toList = [.iface u v] → W.cell? ⟨g, 0, none⟩ = some (.iface u v) := fun u v hc => by
  rw [hcell0, ← Array.getElem?_toList, hc]; rfl
 obtain ⟨a, s, e1, e2, e3, _, e5⟩ := errorString_of_trod (ts := 9) (te := 225) (f := ((match Tryz.prog.underlying 225 with | some (.struct fs) => fs | _ => #[]).getD 0 default)) Tryz.underlying91 row201 Tryz.underlying201 (by kernel_rfl) (by kernel_rfl) (by kernel_rfl) (by kernel_rfl) (by kernel_rfl) (by kernel_rfl) a4
  fun u v hc => (hok g 0 (hmem0 u v hc)).2 u v (hc0 u v hc)
 refine ⟨a, s, q, hc0 _ _ e1, e2, e3, (hok a.block a.off ?_).1, a5, fun x hx => List.mem_append_right _ hx⟩
 rw [e5]
 simp [MemPlace.row]
theorem spot_none {W : World} {a : Addr} {v : Value} (h : W.cell? a = some v) : a.spot = none := by
 unfold World.cell? at h
 split at h
 ·split at h
  ·cases h
  ·rename_i hs; simpa using hs
 ·cases h
theorem peel {X : Nat → Nat → Prop} {A q : List MemPlace} (h : ∀ b off, MemPlace.cell b off ∈ A ++ q → X b off) : ∀ b off, MemPlace.cell b off ∈ q → X b off := fun b off hb => h b off (List.mem_append_right _ hb)
abbrev theRow : List (String × DataW Unit) := Rows.deskNoncesRow.laid
theorem plainL : (theRow.filter fun x => x.2.handleName?.isNone) = [("quaestor/keccak.keys", Rows.laid_quaestor_keccak_keys), ("quaestor/keccak.turns", Rows.laid_quaestor_keccak_turns), ("quaestor/keccak.to", Rows.laid_quaestor_keccak_to), ("quaestor/abi.errEnd", Rows.laid_quaestor_abi_errEnd), ("quaestor/desk.errArgs", Rows.laid_quaestor_desk_errArgs), ("quaestor/desk.errValue", Rows.laid_quaestor_desk_errValue), ("quaestor/desk.errBook", Rows.laid_quaestor_desk_errBook)] := rfl
theorem globZ (W : World) (h : laidMetH Tryz.prog theRow W) : Glob dskG (E0 W) := by
 have hP := (laidMetH_iff.1 h).1
 rw [plainL] at hP
 obtain ⟨ps, hL, _, hok⟩ := hP
 obtain ⟨g0, t0, c0, f0, p0, q0, a0, b0, d0, e0, hL, rfl⟩ := hL
 have hok4 := peel hok
 clear hok
 obtain ⟨g1, t1, c1, f1, p1, q1, a1, b1, d1, e1, hL, rfl⟩ := hL
 have hok5 := peel hok4
 clear hok4
 obtain ⟨g2, t2, c2, f2, p2, q2, a2, b2, d2, e2, hL, rfl⟩ := hL
 have hok6 := peel hok5
 clear hok5
 obtain ⟨g3, t3, c3, f3, p3, q3, a3, b3, d3, e3, hL, rfl⟩ := hL
 have hok7 := peel hok6
 clear hok6
 obtain rfl : g0 = 5 := Option.some.inj (a0.symm.trans (by kernel_rfl))
 obtain rfl : t0 = 198 := Option.some.inj (b0.symm.trans (by kernel_rfl))
 have v0 := glob_ints a0 d0 (cells_of_ints (n := 24) (e := 24) (k := .u64) (l := kecKeys) (by kernel_rfl) (by kernel_rfl) (by kernel_rfl) (by kernel_rfl) rfl e0) rfl
 obtain rfl : g1 = 7 := Option.some.inj (a1.symm.trans (by kernel_rfl))
 obtain rfl : t1 = 200 := Option.some.inj (b1.symm.trans (by kernel_rfl))
 have v1 := glob_ints a1 d1 (cells_of_ints (n := 24) (e := 3) (k := .i64) (l := kecTurns) (by kernel_rfl) (by kernel_rfl) (by kernel_rfl) (by kernel_rfl) rfl e1) rfl
 obtain rfl : g2 = 6 := Option.some.inj (a2.symm.trans (by kernel_rfl))
 obtain rfl : t2 = 200 := Option.some.inj (b2.symm.trans (by kernel_rfl))
 have v2 := glob_ints a2 d2 (cells_of_ints (n := 24) (e := 3) (k := .i64) (l := kecTo) (by kernel_rfl) (by kernel_rfl) (by kernel_rfl) (by kernel_rfl) rfl e2) rfl
 clear a0 b0 d0 e0 a1 b1 d1 e1 a2 b2 d2 e2 a3 b3 d3 e3
 obtain ⟨a0, s0, q0, b0, c0, d0, e0, h2, m0⟩ := one_sent (k := 0) (by kernel_rfl) (by kernel_rfl) hL hok7
 have hok1 := fun b off hb => hok7 b off (m0 _ hb)
 obtain ⟨a1, s1, q1, b1, c1, d1, e1, h3, m1⟩ := one_sent (k := 1) (by kernel_rfl) (by kernel_rfl) h2 hok1
 have hok2 := fun b off hb => hok1 b off (m1 _ hb)
 obtain ⟨a2, s2, q2, b2, c2, d2, e2, _, _⟩ := one_sent (k := 2) (by kernel_rfl) (by kernel_rfl) h3 hok2
 have n01 : a0 ≠ a1 := fun h => by subst h; rw [c0] at c1; cases c1; rw [d0] at d1; exact absurd d1 (by decide)
 have n02 : a0 ≠ a2 := fun h => by subst h; rw [c0] at c2; cases c2; rw [d0] at d2; exact absurd d2 (by decide)
 have n12 : a1 ≠ a2 := fun h => by subst h; rw [c1] at c2; cases c2; rw [d1] at d2; exact absurd d2 (by decide)
 have cell : ∀ g tF ts k, dskG g = .errv tF ts k → (g = 0 ∨ g = 1 ∨ g = 2) ∧ tF = 124 ∧ ts = 201 ∧ k = g := fun g tF ts k he => by
  match g, he with
  | 0, he => cases he; exact ⟨.inl rfl, rfl, rfl, rfl⟩
  | 1, he => cases he; exact ⟨.inr (.inl rfl), rfl, rfl, rfl⟩
  | 2, he => cases he; exact ⟨.inr (.inr rfl), rfl, rfl, rfl⟩
  | 3, he => cases he
  | 4, he => cases he
  | 5, he => cases he
  | 6, he => cases he
  | 7, he => cases he
  | g + 8, he => cases he
 refine ⟨fun g => ?_, fun g tF ts k he => ?_, fun g g' tF ts k tF' ts' k' he he' hne u u' p x x' => ?_⟩
 ·match g with
  | 0 => exact glob_errv (by decide) b0
  | 1 => exact glob_errv (by decide) b1
  | 2 => exact glob_errv (by decide) b2
  | 3 => trivial
  | 4 => trivial
  | 5 => exact v0
  | 6 => exact v2
  | 7 => exact v1
  | g + 8 => trivial
 ·obtain ⟨hg, rfl, rfl, rfl⟩ := cell g tF ts k he
  refine ⟨rfl, ?_⟩
  rcases hg with rfl | rfl | rfl
  ·exact glob_errAt b0 (spot_none c0) e0
  ·exact glob_errAt b1 (spot_none c1) e1
  ·exact glob_errAt b2 (spot_none c2) e2
 ·obtain ⟨hg, -, -, -⟩ := cell g tF ts k he
  obtain ⟨hg', -, -, -⟩ := cell g' tF' ts' k' he'
  have x1 : W.cell? ⟨g, 0, none⟩ = some (.iface u p) := x
  have x2 : W.cell? ⟨g', 0, none⟩ = some (.iface u' p) := x'
  rcases hg with rfl | rfl | rfl <;> rcases hg' with rfl | rfl | rfl <;> (try exact absurd rfl hne) <;>
   simp only [b0, b1, b2, Option.some.injEq, Value.iface.injEq] at x1 x2 <;> obtain ⟨-, rfl⟩ := x1 <;> obtain ⟨-, x2⟩ := x2 <;> simp only [Value.pointer.injEq, Option.some.injEq] at x2 <;>
   first | exact n01 x2.symm | exact n01 x2 | exact n02 x2.symm | exact n02 x2 | exact n12 x2.symm | exact n12 x2
end Go.Abs
end
section
set_option linter.unusedVariables false
set_option linter.unusedSimpArgs false
set_option maxRecDepth 100000
namespace Go.Abs.Pure
open Go Go.Abs
theorem bO {α β : Type} {x : Option α} {a : α} {f : α → Option β} {r : Option β} (h : x = some a) (k : f a = r) : bindO x f = r := by
 rw [h]; exact k
theorem iT {α : Type} {c : Prop} [Decidable c] {a b r : Option α} (h : c) (k : a = r) : (if c then a else b) = r := by
 rw [if_pos h]; exact k
theorem iF {α : Type} {c : Prop} [Decidable c] {a b r : Option α} (h : ¬ c) (k : b = r) : (if c then a else b) = r := by
 rw [if_neg h]; exact k
end Go.Abs.Pure
end
section
set_option linter.unusedVariables false
namespace Go.Abs.Pure
open Go Go.Abs
def W4 (l : List Int) : Prop := l.length = 4 ∧ ∀ x ∈ l, 0 ≤ x ∧ x < 18446744073709551616
theorem W4.split {l : List Int} (h : W4 l) : ∃ a b c d, l = [a, b, c, d] ∧ (0 ≤ a ∧ a < 18446744073709551616) ∧ (0 ≤ b ∧ b < 18446744073709551616) ∧ (0 ≤ c ∧ c < 18446744073709551616) ∧ (0 ≤ d ∧ d < 18446744073709551616) := by
 obtain ⟨h1, h2⟩ := h
 match l, h1 with
 | [a, b, c, d], _ => exact ⟨a, b, c, d, rfl, h2 a (by simp), h2 b (by simp), h2 c (by simp), h2 d (by simp)⟩
theorem W4.mk {a b c d : Int} (ha : 0 ≤ a ∧ a < 18446744073709551616) (hb : 0 ≤ b ∧ b < 18446744073709551616) (hc : 0 ≤ c ∧ c < 18446744073709551616) (hd : 0 ≤ d ∧ d < 18446744073709551616) : W4 [a, b, c, d] :=
 ⟨rfl, by simp; exact ⟨ha, hb, hc, hd⟩⟩
theorem lo64 {x : Int} (h : InK .u64 x) : 0 ≤ x := h.1
theorem hi64 {x : Int} (h : InK .u64 x) : x < 18446744073709551616 := by have := h.2; simp [IntKind.max, IntKind.bits, IntKind.signed] at this; omega
theorem W4.of {l : List Int} (h : InA .u64 4 l) : W4 l := ⟨h.1, fun x hx => ⟨lo64 (h.2 x hx), hi64 (h.2 x hx)⟩⟩
def V : List Int → Int
 | [a, b, c, d] => a + b * 18446744073709551616 + c * 340282366920938463463374607431768211456 + d * 6277101735386680763835789423207666416102355444464034512896
 | _ => 0
def B : Int := 115792089237316195423570985008687907853269984665640564039457584007913129639936
def ofV (x : Int) : List Int := [x % 18446744073709551616, x / 18446744073709551616 % 18446744073709551616, x / 340282366920938463463374607431768211456 % 18446744073709551616, x / 6277101735386680763835789423207666416102355444464034512896 % 18446744073709551616]
theorem ofV_W4 (x : Int) : W4 (ofV x) := .mk (by omega) (by omega) (by omega) (by omega)
theorem V_ofV (x : Int) : V (ofV x) = x % B := by simp only [V, ofV, B]; omega
theorem V_range {l : List Int} (h : W4 l) : 0 ≤ V l ∧ V l < B := by
 obtain ⟨a, b, c, d, rfl, ha, hb, hc, hd⟩ := h.split
 simp only [V, B]; omega
theorem eq_ofV {l : List Int} (h : W4 l) {x : Int} (hx : V l = x % B) : l = ofV x := by
 obtain ⟨a, b, c, d, rfl, ha, hb, hc, hd⟩ := h.split
 simp only [V, B] at hx
 simp only [ofV, List.cons.injEq, and_true]
 refine ⟨?_, ?_, ?_, ?_⟩ <;> omega
theorem digits {a b c d t : Int} (q : Int) (ha : 0 ≤ a ∧ a < 18446744073709551616) (hb : 0 ≤ b ∧ b < 18446744073709551616) (hc : 0 ≤ c ∧ c < 18446744073709551616) (hd : 0 ≤ d ∧ d < 18446744073709551616) (h : t = V [a, b, c, d] + B * q) : [a, b, c, d] = ofV t := by
 have r := V_range (.mk ha hb hc hd)
 refine eq_ofV (.mk ha hb hc hd) ?_
 rw [h, Int.add_mul_emod_self_left, Int.emod_eq_of_lt r.1 r.2]
theorem ofV_V {l : List Int} (h : W4 l) : ofV (V l) = l := by
 obtain ⟨h0, h1⟩ := V_range h
 exact (eq_ofV h (by rw [Int.emod_eq_of_lt h0 h1])).symm
end Go.Abs.Pure
set_option linter.unusedVariables false
set_option linter.unusedSimpArgs false
namespace Go.Abs.Pure
open Go Go.Abs
def val (b : Int) : List Int → Int
 | [] => 0
 | x :: r => x + b * val b r
def Dig (b : Int) (l : List Int) : Prop := ∀ x ∈ l, 0 ≤ x ∧ x < b
theorem Dig.getD {b : Int} {l : List Int} (h : Dig b l) {i : Nat} (hi : i < l.length) : 0 ≤ l.getD i 0 ∧ l.getD i 0 < b := by
 rw [List.getD_eq_getElem?_getD, List.getElem?_eq_getElem hi]
 exact h _ (List.getElem_mem hi)
theorem Dig.set {b : Int} {l : List Int} (h : Dig b l) {i : Nat} {d : Int} (hd : 0 ≤ d ∧ d < b) : Dig b (l.set i d) := fun x hx => by
 rcases List.mem_or_eq_of_mem_set hx with h' | h'
 ·exact h x h'
 ·rw [h']; exact hd
theorem val_set {b : Int} : ∀ {l : List Int} {k : Nat} {d : Int}, k < l.length → val b (l.set k d) = val b l + (d - l.getD k 0) * b ^ k
 | x :: r, 0, d, _ => by simp only [List.set_cons_zero, val, List.getD_cons_zero]; grind
 | x :: r, k + 1, d, h => by
  have ih := val_set (b := b) (l := r) (k := k) (d := d) (by simpa using h)
  simp only [List.set_cons_succ, val, List.getD_cons_succ, ih]
  grind
theorem val_bound {b : Int} (hb : 0 < b) : ∀ {l : List Int}, Dig b l → 0 ≤ val b l ∧ val b l < b ^ l.length
 | [], _ => by simp [val]
 | x :: r, h => by
  have ih := val_bound hb (l := r) fun y hy => h y (by simp [hy])
  have hx := h x (by simp)
  have h1 : val b r + 1 ≤ b ^ r.length := by omega
  have h2 := Int.mul_le_mul_of_nonneg_left h1 (Int.le_of_lt hb)
  have h3 := Int.mul_nonneg (Int.le_of_lt hb) ih.1
  simp only [val, List.length_cons, Int.pow_succ]
  rw [Int.mul_comm (b ^ r.length) b]
  rw [Int.mul_add, Int.mul_one] at h2
  omega
theorem V_val {l : List Int} (h : l.length = 4) : V l = val 18446744073709551616 l := by
 match l, h with
 | [a, b, c, d], _ => simp only [V, val]; omega
theorem W4.dig {l : List Int} (h : W4 l) : Dig 18446744073709551616 l := h.2
theorem or_zero {a b : Int} (ha : 0 ≤ a) (ka : a < 18446744073709551616) (hb : 0 ≤ b) (kb : b < 18446744073709551616) : (0 ≤ ibits .or .u64 a b ∧ ibits .or .u64 a b < 18446744073709551616) ∧ (ibits .or .u64 a b = 0 ↔ a = 0 ∧ b = 0) := by
 rw [or_u64 ha ka hb kb]
 have h1 := Nat.or_lt_two_pow (x := a.toNat) (y := b.toNat) (n := 64) (by omega) (by omega)
 refine ⟨by omega, ?_⟩
 have h2 : a.toNat ||| b.toNat = 0 ↔ a.toNat = 0 ∧ b.toNat = 0 := Nat.or_eq_zero_iff
 omega
end Go.Abs.Pure
set_option linter.unusedVariables false
set_option linter.unusedSimpArgs false
namespace Go.Abs.Pure
open Go Go.Abs
theorem pow_pos' (k : Nat) : (0 : Int) < 2 ^ k := Int.pow_pos (by omega)
theorem pow_split {i k : Nat} (h : i ≤ k) : (2 : Int) ^ k = 2 ^ i * 2 ^ (k - i) := by rw [← Int.pow_add]; congr 1; omega
end Go.Abs.Pure
set_option linter.unusedVariables false
set_option linter.unusedSimpArgs false
namespace Go.Abs.Pure
open Go Go.Abs
end Go.Abs.Pure
set_option linter.unusedVariables false
set_option linter.unusedSimpArgs false
namespace Go.Abs.Pure
open Go Go.Abs
end Go.Abs.Pure
set_option linter.unusedVariables false
set_option linter.unusedSimpArgs false
namespace Go.Abs.Pure
open Go Go.Abs
end Go.Abs.Pure
set_option linter.unusedVariables false
set_option linter.unusedSimpArgs false
namespace Go.Abs.Pure
open Go Go.Abs
end Go.Abs.Pure
set_option linter.unusedVariables false
set_option linter.unusedSimpArgs false
set_option maxRecDepth 20000
namespace Go.Abs.Pure
open Go Go.Abs
theorem zero_W4 : W4 [0, 0, 0, 0] := .mk (by omega) (by omega) (by omega) (by omega)
end Go.Abs.Pure
set_option linter.unusedVariables false
set_option linter.unusedSimpArgs false
set_option maxRecDepth 20000
namespace Go.Abs.Pure
open Go Go.Abs
end Go.Abs.Pure
set_option linter.unusedVariables false
set_option linter.unusedSimpArgs false
set_option maxRecDepth 20000
namespace Go.Abs.Pure
open Go Go.Abs
end Go.Abs.Pure
set_option linter.unusedVariables false
set_option linter.unusedSimpArgs false
set_option maxRecDepth 20000
namespace Go.Abs.Pure
open Go Go.Abs
def farV (a : List Int) : Nat := if V a ≤ 256 then (V a).toNat else 256
theorem farV_le (a : List Int) : farV a ≤ 256 := by unfold farV; split <;> omega
end Go.Abs.Pure
set_option linter.unusedVariables false
set_option linter.unusedSimpArgs false
set_option maxRecDepth 20000
namespace Go.Abs.Pure
open Go Go.Abs
def smallV (a : List Int) : Int × Bool := if V a < 18446744073709551616 then (V a, true) else (0, false)
theorem word_Small_ok {n : Nat} {a : List Int} (ha : W4 a) : Fac.m n a = some (smallV a) := by
 obtain ⟨a, b, c, d, rfl, ha, hb, hc, hd⟩ := ha.split
 simp only [Fac.m, Fac.g, List.getD_cons_zero, List.getD_cons_succ, smallV]
 have o1 := or_zero hb.1 hb.2 hc.1 hc.2
 have o2 := or_zero o1.1.1 o1.1.2 hd.1 hd.2
 rw [o1.2] at o2
 generalize ibits .or .u64 (ibits .or .u64 b c) d = x at *
 by_cases h : V [a, b, c, d] < 18446744073709551616
 ·have : x = 0 := o2.2.2 (by simp only [V] at h; omega)
  subst this
  rw [if_pos h]
  have : V [a, b, c, d] = a := by simp only [V] at h ⊢; omega
  rw [this]
  rfl
 ·have : x ≠ 0 := fun e => by
   have := o2.2.1 e
   simp only [V] at h
   omega
  rw [if_neg h]
  simp [this]
theorem word_far_ok {n : Nat} {a : List Int} (ha : W4 a) : Fbb.m n a = some (farV a : Int) := by
 have ra := V_range ha
 simp only [Fbb.m, Fbb.g, word_Small_ok ha, bindO, Option.bind_some, smallV, farV]
 by_cases h : V a < 18446744073709551616
 ·simp only [h, if_true, Bool.not_true, Bool.false_eq_true, if_false]
  by_cases h2 : V a ≤ 256
  ·rw [if_neg (by omega), if_pos h2, Int.toNat_of_nonneg ra.1]
  ·rw [if_pos (by omega), if_neg h2]; rfl
 ·simp only [h, if_false, Bool.not_false, if_true]
  rw [if_neg (by omega)]; rfl
theorem pow_le_pow' {j k : Nat} (h : j ≤ k) : (2 : Int) ^ j ≤ 2 ^ k := by
 rw [pow_split h]
 have h1 := Int.mul_le_mul_of_nonneg_left (show (1 : Int) ≤ 2 ^ (k - j) by have := pow_pos' (k - j); omega) (Int.le_of_lt (pow_pos' j))
 omega
end Go.Abs.Pure
set_option linter.unusedVariables false
set_option linter.unusedSimpArgs false
set_option maxRecDepth 20000
namespace Go.Abs.Pure
open Go Go.Abs
theorem or_apart {x y : Int} {s : Nat} (hs : s ≤ 64) (hx : 0 ≤ x ∧ x * 2 ^ s < 18446744073709551616) (hy : 0 ≤ y ∧ y < 2 ^ s) : ibits .or .u64 (x * 2 ^ s) y = x * 2 ^ s + y := by
 obtain ⟨a, rfl⟩ := Int.eq_ofNat_of_zero_le hx.1
 obtain ⟨b, rfl⟩ := Int.eq_ofNat_of_zero_le hy.1
 have hp : ((2 : Int) ^ s) = ((2 ^ s : Nat) : Int) := by rw [Int.natCast_pow]; rfl
 have h1 : b < 2 ^ s := by have := hy.2; rw [hp] at this; exact Int.ofNat_lt.1 this
 have h2 : (a : Int) * 2 ^ s = ((a * 2 ^ s : Nat) : Int) := by rw [hp, Int.natCast_mul]
 have hle : 2 ^ s ≤ 2 ^ 64 := Nat.pow_le_pow_right (by omega) hs
 have hlt : a * 2 ^ s < 2 ^ 64 := by
  have := hx.2
  rw [h2] at this
  have e : (18446744073709551616 : Int) = ((2 ^ 64 : Nat) : Int) := rfl
  rw [e] at this
  exact Int.ofNat_lt.1 this
 rw [h2, or_u64 (Int.natCast_nonneg _) (by omega) (Int.natCast_nonneg _) (by omega), Int.toNat_natCast, Int.toNat_natCast, ← Nat.shiftLeft_eq, ← Nat.shiftLeft_add_eq_or_of_lt h1]
 rw [Nat.shiftLeft_eq, Int.natCast_add]
theorem or_apart' {x y : Int} {s : Nat} (hs : s ≤ 64) (hx : 0 ≤ x ∧ x * 2 ^ s < 18446744073709551616) (hy : 0 ≤ y ∧ y < 2 ^ s) : ibits .or .u64 y (x * 2 ^ s) = x * 2 ^ s + y := by
 rw [← or_apart hs hx hy]
 show IntKind.wrap .u64 ((BitVec.ofInt 64 y ||| BitVec.ofInt 64 (x * 2 ^ s)).toNat : Nat) = IntKind.wrap .u64 ((BitVec.ofInt 64 (x * 2 ^ s) ||| BitVec.ofInt 64 y).toNat : Nat)
 rw [BitVec.or_comm]
theorem left_part (x : Int) {s : Nat} (hs : s ≤ 64) : x * 2 ^ s % 18446744073709551616 = x % 2 ^ (64 - s) * 2 ^ s ∧ x * 2 ^ s / 18446744073709551616 = x / 2 ^ (64 - s) := by
 rw [show (18446744073709551616 : Int) = 2 ^ (64 - s) * 2 ^ s by rw [← Int.pow_add, show 64 - s + s = 64 by omega]; rfl]
 rw [Int.mul_comm x, Int.mul_comm (2 ^ (64 - s))]
 refine ⟨?_, Int.mul_ediv_mul_of_pos _ _ (pow_pos' s)⟩
 rw [Int.mul_emod_mul_of_pos _ _ (pow_pos' s), Int.mul_comm]
theorem pow_two_parts {s : Nat} (hs : s ≤ 64) : (2 : Int) ^ (64 - s) * 2 ^ s = 18446744073709551616 := by rw [← Int.pow_add, show 64 - s + s = 64 by omega]; rfl
def loP (s : Nat) (x : Int) : Int := x * 2 ^ s % 18446744073709551616
def hiP (s : Nat) (x : Int) : Int := x * 2 ^ s / 18446744073709551616
theorem hi_lt {s : Nat} {x : Int} (hs : s ≤ 64) (hx : 0 ≤ x ∧ x < 18446744073709551616) : 0 ≤ hiP s x ∧ hiP s x < 2 ^ s := by
 have p := pow_pos' s
 refine ⟨Int.ediv_nonneg (Int.mul_nonneg hx.1 (Int.le_of_lt p)) (by omega), Int.ediv_lt_of_lt_mul (by omega) ?_⟩
 rw [Int.mul_comm]
 exact Int.mul_lt_mul_of_pos_left hx.2 p
theorem lo_hi {s : Nat} (hs : s ≤ 64) {x y : Int} (hx : 0 ≤ x ∧ x < 18446744073709551616) (hy : 0 ≤ y ∧ y < 18446744073709551616) : ibits .or .u64 (loP s x) (ishr .u64 y ((64 - s : Nat) : Int)) = loP s x + hiP s y ∧ 0 ≤ loP s x + hiP s y ∧ loP s x + hiP s y < 18446744073709551616 := by
 have hlo : loP s x = x % 2 ^ (64 - s) * 2 ^ s := (left_part x hs).1
 have hhi : hiP s y = y / 2 ^ (64 - s) := (left_part y hs).2
 have hl := hi_lt hs hy
 have b0 : 0 ≤ loP s x ∧ loP s x < 18446744073709551616 := ⟨Int.emod_nonneg _ (by omega), Int.emod_lt_of_pos _ (by omega)⟩
 have e1 := Int.emod_nonneg x (Int.ne_of_gt (pow_pos' (64 - s)))
 have e2 := Int.emod_lt_of_pos x (pow_pos' (64 - s))
 rw [ishr_ofNat .u64 y (64 - s) (by simp [IntKind.bits]), ← hhi]
 rw [hlo] at b0 ⊢
 rw [or_apart hs ⟨e1, b0.2⟩ hl]
 refine ⟨rfl, by omega, ?_⟩
 have h3 := Int.mul_le_mul_of_nonneg_right (show x % 2 ^ (64 - s) ≤ 2 ^ (64 - s) - 1 by omega) (Int.le_of_lt (pow_pos' s))
 rw [Int.sub_mul, pow_two_parts hs] at h3
 omega
theorem shl_lo {s : Nat} (hs : s ≤ 64) (x : Int) : ishl .u64 x (s : Int) = loP s x := by
 rw [ishl_ofNat .u64 x s (by simp [IntKind.bits]; omega), wu64]; rfl
def leftD (k : Nat) (a : List Int) (i : Nat) : Int :=
 if i < k / 64 then 0 else if i = k / 64 then loP (k % 64) (a.getD 0 0) else loP (k % 64) (a.getD (i - k / 64) 0) + hiP (k % 64) (a.getD (i - k / 64 - 1) 0)
theorem set_same {l : List Int} {i : Nat} (h : l.getD i 0 = 0) (hi : i < l.length) : l = l.set i 0 := by
 have : l[i] = 0 := by rw [List.getD_eq_getElem?_getD, List.getElem?_eq_getElem hi] at h; simpa using h
 rw [← this, List.set_getElem_self]
theorem Shl_step {α : Type} (mk : List Int → List Int → α) (n : Nat) (rc : Int → Int → List Int → List Int → List Int → Option α) {k : Nat} (hk : k ≤ 256) {a o : List Int} (ha : W4 a) (o' : List Int) {i : Nat} (hi : i < 4) (hl : o.length = 4) (ho : o.getD i 0 = 0) :
  Fbc.l4_0.r mk n rc (i : Int) (k : Int) a o o' = rc ((i + 1 : Nat) : Int) (k : Int) a (o.set i (leftD k a i)) o' := by
 have hal := ha.1
 have h1 : (decide ((i : Int) < 4)) = true := by simp; omega
 have g1 : (0 : Int) ≤ (i : Int) := by omega
 have g2 : (i : Int) < 4 := by omega
 have w : IntKind.wrap .i64 ((i : Int) - IntKind.wrap .i64 (IntKind.wrap .u64 (Int.tdiv (k : Int) 64))) = (i : Int) - ((k / 64 : Nat) : Int) := by rw [tdiv_nonneg' (by omega), wu64, wi64, wi64]; omega
 have w2 : Int.tmod (k : Int) 64 = ((k % 64 : Nat) : Int) := by rw [tmod_nonneg' (by omega)]; omega
 have w1 : IntKind.wrap .i64 ((i : Int) + 1) = ((i + 1 : Nat) : Int) := by rw [wi64]; omega
 have w3 : IntKind.wrap .u64 (64 - ((k % 64 : Nat) : Int)) = ((64 - k % 64 : Nat) : Int) := by rw [wu64]; omega
 have w4 : IntKind.wrap .i64 ((i : Int) - ((k / 64 : Nat) : Int) - 1) = (i : Int) - ((k / 64 : Nat) : Int) - 1 := by rw [wi64]; omega
 have g5 : (0 : Int) ≤ ((k % 64 : Nat) : Int) := by omega
 have g6 : (0 : Int) ≤ ((64 - k % 64 : Nat) : Int) := by omega
 simp only [Fbc.l4_0.r, h1, g1, g2, w, w1, w2, w3, w4, g5, g6, if_true, eq_self_iff_true, Int.toNat_natCast, decide_eq_true_eq, shl_lo (show k % 64 ≤ 64 by omega)]
 unfold leftD
 by_cases c1 : i < k / 64
 ·have d1 : ¬ ((i : Int) - ((k / 64 : Nat) : Int) ≥ 0) := by omega
  have d2 : ¬ ((i : Int) - ((k / 64 : Nat) : Int) > 0) := by omega
  simp only [c1, d1, d2, if_true, if_false]
  rw [← set_same ho (by omega)]
 ·have d1 : ((i : Int) - ((k / 64 : Nat) : Int) ≥ 0) := by omega
  have d3 : (0 : Int) ≤ (i : Int) - ((k / 64 : Nat) : Int) := by omega
  have d4 : (i : Int) - ((k / 64 : Nat) : Int) < 4 := by omega
  have t1 : ((i : Int) - ((k / 64 : Nat) : Int)).toNat = i - k / 64 := by omega
  by_cases c2 : i = k / 64
  ·have d2 : ¬ ((i : Int) - ((k / 64 : Nat) : Int) > 0) := by omega
   simp only [c1, c2, d1, d2, d3, d4, t1, if_true, if_false]
   simp
  ·have d2 : ((i : Int) - ((k / 64 : Nat) : Int) > 0) := by omega
   have d5 : (0 : Int) ≤ (i : Int) - ((k / 64 : Nat) : Int) - 1 := by omega
   have d6 : (i : Int) - ((k / 64 : Nat) : Int) - 1 < 4 := by omega
   have t2 : ((i : Int) - ((k / 64 : Nat) : Int) - 1).toNat = i - k / 64 - 1 := by omega
   simp only [c1, c2, d1, d2, d3, d4, d5, d6, t1, t2, if_true, if_false]
   by_cases c3 : k % 64 = 0
   ·have e : ((((k % 64 : Nat) : Int)) != 0) = false := by rw [c3]; rfl
    simp only [e, Bool.false_eq_true, if_false]
    have hb := ha.dig.getD (i := i - k / 64 - 1) (by omega)
    have : hiP (k % 64) (a.getD (i - k / 64 - 1) 0) = 0 := by
     unfold hiP
     rw [c3, Int.pow_zero, Int.mul_one]
     exact Int.ediv_eq_zero_of_lt hb.1 hb.2
    rw [this, Int.add_zero]
   ·have e : ((((k % 64 : Nat) : Int)) != 0) = true := by simp; omega
    simp only [e, if_true]
    have hs : ∀ v : Int, (o.set i v).getD i 0 = v := fun v => by simp [List.getD_eq_getElem?_getD, show i < o.length by omega]
    rw [hs, (lo_hi (show k % 64 ≤ 64 by omega) (ha.dig.getD (i := i - k / 64) (by omega)) (ha.dig.getD (i := i - k / 64 - 1) (by omega))).1]
    simp
theorem word_Shl_ok {n : Nat} (hn : 600 ≤ n) {k a : List Int} (hk : W4 k) (ha : W4 a) : Fbc.m n (k, a) = some (ofV (V a * 2 ^ farV k)) := by
 have hf := farV_le k
 obtain ⟨m, rfl⟩ : ∃ m, n = m + 5 := ⟨n - 5, by omega⟩
 simp only [Fbc.m, Fbc.g, word_far_ok hk, bindO, Option.bind_some, Fbc.l4_0.m]
 generalize farV k = j at *
 have run : Fbc.l4_0.g (fun a0 a1 => (a0, a1)) (m + 5) (m + 5) 0 (j : Int) a [0, 0, 0, 0] [0, 0, 0, 0] = some ([leftD j a 0, leftD j a 1, leftD j a 2, leftD j a 3], [0, 0, 0, 0]) := by
  refine (Shl_step _ _ _ hf ha _ (i := 0) (by omega) rfl rfl).trans ?_
  refine (Shl_step _ _ _ hf ha _ (i := 1) (by omega) rfl rfl).trans ?_
  refine (Shl_step _ _ _ hf ha _ (i := 2) (by omega) rfl rfl).trans ?_
  refine (Shl_step _ _ _ hf ha _ (i := 3) (by omega) rfl rfl).trans ?_
  rfl
 rw [run]
 simp only [Option.bind_some]
 congr 1
 have hs : j % 64 ≤ 64 := by omega
 have hq : j / 64 ≤ 4 := by omega
 have hj : j = j % 64 + 64 * (j / 64) := by omega
 have hT : V a * 2 ^ j = V a * 2 ^ (j % 64) * 2 ^ (64 * (j / 64)) := by conv => lhs; rw [hj, Int.pow_add, ← Int.mul_assoc]
 rw [hT]
 obtain ⟨a0, a1, a2, a3, rfl, h0, h1, h2, h3⟩ := ha.split
 have b01 := (lo_hi hs h1 h0).2
 have b12 := (lo_hi hs h2 h1).2
 have b23 := (lo_hi hs h3 h2).2
 have bl : ∀ x, 0 ≤ loP (j % 64) x ∧ loP (j % 64) x < 18446744073709551616 := fun x => ⟨Int.emod_nonneg _ (by omega), Int.emod_lt_of_pos _ (by omega)⟩
 have ex : ∀ x, x * 2 ^ (j % 64) = loP (j % 64) x + 18446744073709551616 * hiP (j % 64) x := fun x => by
  have := Int.mul_ediv_add_emod (x * 2 ^ (j % 64)) 18446744073709551616
  unfold loP hiP; omega
 have hV : V [a0, a1, a2, a3] * 2 ^ (j % 64) = V [a0 * 2 ^ (j % 64), a1 * 2 ^ (j % 64), a2 * 2 ^ (j % 64), a3 * 2 ^ (j % 64)] := by
  simp only [V, Int.add_mul]
  rw [Int.mul_right_comm a1, Int.mul_right_comm a2, Int.mul_right_comm a3]
 rw [hV, ex a0, ex a1, ex a2, ex a3]
 have l0 := bl a0
 have l1 := bl a1
 have l2 := bl a2
 have l3 := bl a3
 clear run hT ex bl hV h0 h1 h2 h3
 have hz : (0 : Int) ≤ 0 ∧ (0 : Int) < 18446744073709551616 := by omega
 rcases (show j / 64 = 0 ∨ j / 64 = 1 ∨ j / 64 = 2 ∨ j / 64 = 3 ∨ j / 64 = 4 by omega) with h | h | h | h | h <;>
  simp only [leftD, h, Nat.reduceSub, Nat.reduceLT, Nat.reduceEqDiff, Nat.lt_irrefl, if_true, if_false, List.getD_cons_zero, List.getD_cons_succ, reduceCtorEq, Nat.reduceMul] <;> clear hj hq hf h <;>
  generalize loP (j % 64) a0 = u0 at * <;>
  generalize loP (j % 64) a1 = u1 at * <;>
  generalize loP (j % 64) a2 = u2 at * <;>
  generalize loP (j % 64) a3 = u3 at * <;>
  generalize hiP (j % 64) a0 = v0 at * <;>
  generalize hiP (j % 64) a1 = v1 at * <;>
  generalize hiP (j % 64) a2 = v2 at * <;>
  generalize hiP (j % 64) a3 = v3 at *
 ·refine digits v3 l0 b01 b12 b23 ?_
  simp only [V, B, Nat.mul_zero, Int.pow_zero]
  simp
  omega
 ·refine digits (v3 * 18446744073709551616 + u3 + v2) hz l0 b01 b12 ?_
  simp only [V, B, Nat.mul_one, show (2 : Int) ^ 64 = 18446744073709551616 from rfl]
  simp
  omega
 ·refine digits (v3 * 340282366920938463463374607431768211456 + (u3 + v2) * 18446744073709551616 + u2 + v1) hz hz l0 b01 ?_
  simp only [V, B, Nat.reduceMul, show (2 : Int) ^ 128 = 340282366920938463463374607431768211456 from rfl]
  simp
  omega
 ·refine digits (v3 * 6277101735386680763835789423207666416102355444464034512896 + (u3 + v2) * 340282366920938463463374607431768211456 + (u2 + v1) * 18446744073709551616 + u1 + v0) hz hz hz l0 ?_
  simp only [V, B, Nat.reduceMul, show (2 : Int) ^ 192 = 6277101735386680763835789423207666416102355444464034512896 from rfl]
  simp
  omega
 ·refine digits (u0 + (u1 + v0) * 18446744073709551616 + (u2 + v1) * 340282366920938463463374607431768211456 + (u3 + v2) * 6277101735386680763835789423207666416102355444464034512896 + v3 * 115792089237316195423570985008687907853269984665640564039457584007913129639936) hz hz hz hz ?_
  simp only [V, B, Nat.reduceMul, show (2 : Int) ^ 256 = 115792089237316195423570985008687907853269984665640564039457584007913129639936 from rfl]
  simp
  omega
end Go.Abs.Pure
set_option linter.unusedVariables false
set_option linter.unusedSimpArgs false
set_option maxRecDepth 20000
namespace Go.Abs.Pure
open Go Go.Abs
def byteI (a : List Int) (j : Nat) : Int := V a / 2 ^ (8 * j) % 256
def bytesV (a : List Int) : List Int := (List.range 32).map fun i => byteI a (31 - i)
end Go.Abs.Pure
set_option linter.unusedVariables false
set_option linter.unusedSimpArgs false
set_option maxRecDepth 20000
namespace Go.Abs.Pure
open Go Go.Abs
theorem list_ext0 {a b : List Int} (hl : a.length = b.length) (h : ∀ j, j < a.length → a.getD j 0 = b.getD j 0) : a = b := by
 apply List.ext_getElem hl
 intro j h1 h2
 have := h j h1
 simpa [List.getD_eq_getElem?_getD, h1, h2] using this
theorem bytesV_length (a : List Int) : (bytesV a).length = 32 := by simp [bytesV]
theorem bytesV_getD (a : List Int) {j : Nat} (h : j < 32) : (bytesV a).getD j 0 = byteI a (31 - j) := by simp [bytesV, List.getD_eq_getElem?_getD, h]
def readI (b : List Int) : Nat → Int
 | 0 => 0
 | i + 1 => readI b i + b.getD (b.length - 1 - i) 0 * 2 ^ (8 * i)
theorem digit_low {o : List Int} (ho : W4 o) {i : Nat} (hi : i < 32) (hv : V o < 2 ^ (8 * i)) : o.getD (i / 8) 0 < 2 ^ (i % 8 * 8) := by
 have hp : (2 : Int) ^ (8 * i) = 18446744073709551616 ^ (i / 8) * 2 ^ (i % 8 * 8) := by
  rw [show (18446744073709551616 : Int) = 2 ^ 64 from rfl, ← Int.pow_mul, ← Int.pow_add]; congr 1; omega
 have hd := ho.dig.getD (i := i / 8) (by rw [ho.1]; omega)
 rw [hp, V_val ho.1] at hv
 have key : ∀ {l : List Int}, Dig 18446744073709551616 l → ∀ k, l.getD k 0 * 18446744073709551616 ^ k ≤ val 18446744073709551616 l := by
  intro l
  induction l with
  | nil => intro _ k; simp [val]
  | cons x r ih =>
   intro h k
   have hx := h x (by simp)
   have hr : Dig 18446744073709551616 r := fun y hy => h y (by simp [hy])
   have hb := val_bound (b := 18446744073709551616) (by omega) hr
   cases k with
   | zero => simp only [List.getD_cons_zero, val, Int.pow_zero, Int.mul_one]; omega
   | succ k =>
    have := ih hr k
    simp only [List.getD_cons_succ, val, Int.pow_succ]
    rw [← Int.mul_assoc]
    generalize r.getD k 0 * 18446744073709551616 ^ k = t at *
    omega
 have := key ho.dig (i / 8)
 have p := Int.pow_pos (n := 18446744073709551616) (m := i / 8) (by omega)
 generalize o.getD (i / 8) 0 = d at *
 generalize (18446744073709551616 : Int) ^ (i / 8) = q at *
 exact Int.lt_of_mul_lt_mul_left (a := q) (by rw [Int.mul_comm]; omega) (Int.le_of_lt p)
theorem put_byte {o : List Int} (ho : W4 o) {i : Nat} (hi : i < 32) (hv : V o < 2 ^ (8 * i)) {x : Int} (hx : 0 ≤ x ∧ x < 256) :
  W4 (o.set (i / 8) (ibits .or .u64 (o.getD (i / 8) 0) (ishl .u64 x ((i % 8 * 8 : Nat) : Int)))) ∧ V (o.set (i / 8) (ibits .or .u64 (o.getD (i / 8) 0) (ishl .u64 x ((i % 8 * 8 : Nat) : Int)))) = V o + x * 2 ^ (8 * i) := by
 have hl := ho.1
 have hd := ho.dig.getD (i := i / 8) (by omega)
 have hlow := digit_low ho hi hv
 have p := pow_pos' (i % 8 * 8)
 have hs : x * 2 ^ (i % 8 * 8) < 18446744073709551616 := by
  have h1 := Int.mul_lt_mul_of_pos_right hx.2 p
  have h2 := pow_le_pow' (show 8 + i % 8 * 8 ≤ 64 by omega)
  rw [Int.pow_add, show (2 : Int) ^ 8 = 256 from rfl, show (2 : Int) ^ 64 = 18446744073709551616 from rfl] at h2
  omega
 have hn := Int.mul_nonneg hx.1 (Int.le_of_lt p)
 rw [ishl_ofNat .u64 x _ (by simp [IntKind.bits]; omega), wu64, Int.emod_eq_of_lt hn hs]
 have hr := (or_zero hd.1 hd.2 hn hs).1
 rw [or_apart' (by omega) ⟨hx.1, hs⟩ ⟨hd.1, hlow⟩] at hr ⊢
 have hw : W4 (o.set (i / 8) (x * 2 ^ (i % 8 * 8) + o.getD (i / 8) 0)) := ⟨by simp [hl], ho.dig.set hr⟩
 refine ⟨hw, ?_⟩
 rw [V_val hw.1, V_val hl, val_set (by omega)]
 have : (2 : Int) ^ (8 * i) = 2 ^ (i % 8 * 8) * 18446744073709551616 ^ (i / 8) := by
  rw [show (18446744073709551616 : Int) = 2 ^ 64 from rfl, ← Int.pow_mul, ← Int.pow_add]; congr 1; omega
 rw [this]
 generalize o.getD (i / 8) 0 = u
 generalize (2 : Int) ^ (i % 8 * 8) = p1
 generalize (18446744073709551616 : Int) ^ (i / 8) = p2
 grind
theorem readI_bound {b : List Int} (hb : ∀ x ∈ b, 0 ≤ x ∧ x < 256) : ∀ i, 0 ≤ readI b i ∧ readI b i < 2 ^ (8 * i)
 | 0 => by simp [readI]
 | i + 1 => by
  have ih := readI_bound hb i
  have hx : 0 ≤ b.getD (b.length - 1 - i) 0 ∧ b.getD (b.length - 1 - i) 0 < 256 := by
   rw [List.getD_eq_getElem?_getD]
   cases h : b[b.length - 1 - i]? with
   | none => simp
   | some x => exact hb x (List.mem_of_getElem? h)
  simp only [readI]
  have p := pow_pos' (8 * i)
  have h1 := Int.mul_nonneg hx.1 (Int.le_of_lt p)
  have h2 := Int.mul_le_mul_of_nonneg_right (show b.getD (b.length - 1 - i) 0 ≤ 255 by omega) (Int.le_of_lt p)
  rw [show 8 * (i + 1) = 8 * i + 8 by omega, Int.pow_add, show (2 : Int) ^ 8 = 256 from rfl]
  omega
theorem byte_getD {b : List Int} (hb : ∀ x ∈ b, 0 ≤ x ∧ x < 256) (i : Nat) : 0 ≤ b.getD i 0 ∧ b.getD i 0 < 256 := by
 rw [List.getD_eq_getElem?_getD]
 cases h : b[i]? with
 | none => simp
 | some x => exact hb x (List.mem_of_getElem? h)
end Go.Abs.Pure
set_option linter.unusedVariables false
set_option linter.unusedSimpArgs false
set_option maxRecDepth 20000
namespace Go.Abs.Pure
open Go Go.Abs
def Short (b : List Int) : Prop := b.length ≤ 100000
def rd (b : List Int) : Nat := if b.length ≤ 32 then b.length else 32
theorem rd_le (b : List Int) : rd b ≤ 32 ∧ rd b ≤ b.length ∧ (rd b = 32 ∨ rd b = b.length) := by unfold rd; split <;> omega
theorem at_next (i : Nat) (h : i < 32) : IntKind.wrap .i64 ((i : Int) + 1) = ((i + 1 : Nat) : Int) := by rw [wi64]; omega
theorem at_div (i : Nat) (h : i < 32) : IntKind.wrap .i64 (Int.tdiv (i : Int) 8) = ((i / 8 : Nat) : Int) := by rw [tdiv_nonneg' (by omega), wi64]; omega
theorem at_mod' (i : Nat) (h : i < 32) : IntKind.wrap .i64 (Int.tmod (i : Int) 8 * 8) = ((i % 8 * 8 : Nat) : Int) := by rw [tmod_nonneg' (by omega), wi64]; omega
theorem last_at (L i : Nat) (h : L ≤ 100000) (hi : i < L) : IntKind.wrap .i64 (IntKind.wrap .i64 (((L : Nat) : Int) - 1) - (i : Int)) = ((L - 1 - i : Nat) : Int) := by
 rw [wi64_id (n := ((L : Nat) : Int) - 1) (by omega) (by omega)]
 rw [wi64_id (by omega) (by omega)]
 omega
end Go.Abs.Pure
set_option linter.unusedVariables false
set_option linter.unusedSimpArgs false
set_option maxRecDepth 20000
namespace Go.Abs.Pure
open Go Go.Abs
theorem word_Read_loop {n : Nat} {b : List Int} (hb : ∀ x ∈ b, 0 ≤ x ∧ x < 256) (hlen : b.length ≤ 32) (z : List Int) : ∀ (r i fuel : Nat) (o : List Int), i + r = b.length → r + 1 ≤ fuel → W4 o → V o = readI b i →
  Fam.l4_0.g (fun a0 a1 => (a0, a1)) n fuel (i : Int) ((b.length : Nat) : Int) b o z = some (ofV (readI b b.length), z)
 | 0, i, fuel + 1, o, hi, hf, ho, hv => by
  have he : i = b.length := by omega
  show Fam.l4_0.r _ _ _ _ _ _ _ _ = _
  have fin : o = ofV (readI b b.length) := by rw [← he, ← hv, ofV_V ho]
  have h2 : (decide ((i : Int) < ((b.length : Nat) : Int))) = false := by simp; omega
  simp only [Fam.l4_0.r, h2, Bool.false_eq_true, if_false]
  rw [← fin]
 | r + 1, i, fuel + 1, o, hi, hf, ho, hv => by
  have h2 : (decide ((i : Int) < ((b.length : Nat) : Int))) = true := by simp; omega
  have hib : i < b.length := by omega
  have h32 : i < 32 := by omega
  have w1 := at_next i h32
  have w2 := last_at b.length i (by omega) hib
  have w3 := at_div i h32
  have w4 := at_mod' i h32
  have g1 : (0 : Int) ≤ ((i / 8 : Nat) : Int) := by omega
  have g2 : ((i / 8 : Nat) : Int) < 4 := by omega
  have g3 : (0 : Int) ≤ ((i % 8 * 8 : Nat) : Int) := by omega
  have g4 : (0 : Int) ≤ ((b.length - 1 - i : Nat) : Int) := by omega
  have g5 : ((b.length - 1 - i : Nat) : Int) < ((b.length : Nat) : Int) := by omega
  have hx := byte_getD hb (b.length - 1 - i)
  show Fam.l4_0.r _ _ _ _ _ _ _ _ = _
  simp only [Fam.l4_0.r, h2, w1, w2, w3, w4, g1, g2, g3, g4, g5, if_true, Int.toNat_natCast]
  rw [wu64_id hx.1 (by omega)]
  obtain ⟨k1, k2⟩ := put_byte ho (i := i) (by omega) (by rw [hv]; exact (readI_bound hb i).2) hx
  exact word_Read_loop hb hlen z r (i + 1) fuel _ (by omega) (by omega) k1 (by rw [k2, hv]; rfl)
theorem word_Read_short {n : Nat} (hn : 100 ≤ n) {b : List Int} (hb : ∀ x ∈ b, 0 ≤ x ∧ x < 256) (hlen : b.length ≤ 32) : Fam.l4_0.m n n (0, ((b.length : Nat) : Int), b, [0, 0, 0, 0], [0, 0, 0, 0]) = some (ofV (readI b b.length), [0, 0, 0, 0]) := by
 have := word_Read_loop (n := n) hb hlen [0, 0, 0, 0] b.length 0 n [0, 0, 0, 0] (by omega) (by omega) zero_W4 rfl
 simp only [Fam.l4_0.m]
 rw [show ((0 : Nat) : Int) = 0 from rfl] at this
 exact this
theorem readI_drop {b : List Int} {k : Nat} : ∀ {i : Nat}, i ≤ b.length - k → readI (b.drop k) i = readI b i
 | 0, _ => rfl
 | i + 1, h => by
  simp only [readI]
  rw [readI_drop (by omega)]
  have : (b.drop k).getD ((b.drop k).length - 1 - i) 0 = b.getD (b.length - 1 - i) 0 := by
   simp only [List.getD_eq_getElem?_getD, List.getElem?_drop, List.length_drop]
   congr 2
   omega
  rw [this]
theorem word_Read_ok {n : Nat} (hn : 100 ≤ n) {b : List Int} (hb : ∀ x ∈ b, 0 ≤ x ∧ x < 256) (hlen : Short b) : Fam.m n b = some (ofV (readI b (rd b))) := by
 have hr := rd_le b
 unfold Short at hlen
 have e : (if 0 > IntKind.wrap .i64 (((b.length : Nat) : Int) - 32) then (0 : Int) else IntKind.wrap .i64 (((b.length : Nat) : Int) - 32)) = ((b.length - rd b : Nat) : Int) := by
  rw [wi64_id (by omega) (by omega)]
  unfold rd
  split <;> split <;> omega
 have hd : (b.drop (b.length - rd b)).length = rd b := by simp; omega
 have hb' : ∀ x ∈ b.drop (b.length - rd b), 0 ≤ x ∧ x < 256 := fun x hx => hb x (List.mem_of_mem_drop hx)
 simp only [Fam.m, Fam.g, e]
 rw [if_pos (by omega), if_pos (by omega)]
 simp only [Int.toNat_natCast, cut]
 rw [word_Read_short hn hb' (by omega), hd, readI_drop (by omega)]
 rfl
theorem word_Wide_ok {n : Nat} (hn : 100 ≤ n) {x : List Int} (hl : x.length = 20) (hb : ∀ y ∈ x, 0 ≤ y ∧ y < 256) : Fan.m n x = some (ofV (readI x 20)) := by
 have e : List.take 20 (List.drop 0 x) = x := by rw [List.drop_zero, List.take_of_length_le (by omega)]
 simp only [Fan.m, Fan.g, e, word_Read_ok hn hb (by unfold Short; omega), bindO, Option.bind_some]
 rw [show rd x = 20 by unfold rd; rw [if_pos (by omega)]; exact hl]
def addrV (a : List Int) : List Int := (bytesV a).drop 12
theorem readI_digit {b : List Int} (hb : ∀ x ∈ b, 0 ≤ x ∧ x < 256) : ∀ {i j : Nat}, j < i → readI b i / 2 ^ (8 * j) % 256 = b.getD (b.length - 1 - j) 0
 | 0, _, h => by omega
 | i + 1, j, h => by
  simp only [readI]
  have hx := byte_getD hb (b.length - 1 - i)
  by_cases e : j = i
  ·subst e
   rw [Int.add_mul_ediv_right _ _ (Int.ne_of_gt (pow_pos' _)), Int.ediv_eq_zero_of_lt (readI_bound hb j).1 (readI_bound hb j).2, Int.zero_add, Int.emod_eq_of_lt hx.1 hx.2]
  ·rw [pow_split (show 8 * j ≤ 8 * i by omega), ← Int.mul_assoc, Int.mul_right_comm, Int.add_mul_ediv_right _ _ (Int.ne_of_gt (pow_pos' _)), pow_split (show 8 ≤ 8 * i - 8 * j by omega), show (2 : Int) ^ 8 = 256 from rfl]
   rw [← Int.mul_assoc, Int.mul_right_comm, Int.add_mul_emod_self_right]
   exact readI_digit hb (by omega)
theorem addr_wide {x : List Int} (hl : x.length = 20) (hb : ∀ y ∈ x, 0 ≤ y ∧ y < 256) : addrV (ofV (readI x 20)) = x := by
 apply list_ext0
 ·simp [addrV, bytesV_length, hl]
 ·intro j hj
  have hj' : j < 20 := by simpa [addrV, bytesV_length] using hj
  have e : (addrV (ofV (readI x 20))).getD j 0 = byteI (ofV (readI x 20)) (19 - j) := by
   have := bytesV_getD (ofV (readI x 20)) (j := 12 + j) (by omega)
   rw [show 31 - (12 + j) = 19 - j by omega] at this
   rw [← this]
   simp [addrV, List.getD_eq_getElem?_getD, List.getElem?_drop]
  have hbd := readI_bound hb 20
  have hlt : readI x 20 < B := by
   have : (2 : Int) ^ (8 * 20) ≤ B := pow_le_pow' (show 8 * 20 ≤ 256 by omega)
   omega
  rw [e]
  unfold byteI
  rw [V_ofV, Int.emod_eq_of_lt hbd.1 hlt, readI_digit hb (by omega), hl]
  congr 1
  omega
end Go.Abs.Pure
end
section
set_option linter.unusedVariables false
set_option linter.unusedSimpArgs false
set_option maxRecDepth 100000
namespace Go.Abs.Pure
open Go Go.Abs
def Adr (a : List Int) : Prop := a.length = 20 ∧ ∀ y ∈ a, 0 ≤ y ∧ y < 256
def selfL : List Int := [0, 0, 0, 0, 113, 114, 125, 226, 46, 94, 157, 139, 175, 14, 218, 198, 243, 125, 160, 50]
def hiV (a : List Int) : List Int := ofV (V (ofV (readI a 20)) * 2 ^ 96)
def slotL (a : List Int) (k : Int) : List Int := List.set (List.set (hiV a) 0 k) 1 (ibits .or .u64 (List.getD (hiV a) 1 0) 3)
theorem far96 : farV [96, 0, 0, 0] = 96 := by decide
theorem slot_is {n : Nat} (hn : 600 ≤ n) {a : List Int} (ha : Adr a) (k : Int) : Fap.m n (a, 3, k) = some (slotL a k) := by
 show bindO (Fan.m n a) (fun r4 => bindO (Fbc.m n ([96, 0, 0, 0], r4)) fun r6 => some (List.set (List.set r6 0 k) 1 (ibits .or .u64 (List.getD r6 1 0) 3))) = _
 refine bO (word_Wide_ok (by omega) ha.1 ha.2) (bO (word_Shl_ok hn (k := [96, 0, 0, 0]) (.mk (by omega) (by omega) (by omega) (by omega)) (ofV_W4 _)) ?_)
 rw [far96]
 rfl
theorem narrow_is (n : Nat) (k : Int) : Faa.m (n + 100) ([k, 0, 0, 0], 64) = some true := by kernel_rfl
theorem narrow_ok {n : Nat} (hn : 600 ≤ n) (k : Int) : Faa.m n ([k, 0, 0, 0], 64) = some true := by
 obtain ⟨m, rfl⟩ : ∃ m, n = m + 100 := ⟨n - 100, by omega⟩
 exact narrow_is m k
theorem or3 (x : Int) (h0 : 0 ≤ x) (h1 : x < 4294967296) : ibits .or .u64 (x * 4294967296) 3 = x * 4294967296 + 3 := by
 have := or_apart (x := x) (y := 3) (s := 32) (by omega) ⟨h0, by omega⟩ (by omega)
 simpa using this
theorem slot_inj {a b : List Int} (ha : Adr a) (hb : Adr b) {k k' : Int} (h : slotL a k = slotL b k') : a = b ∧ k = k' := by
 have ra := readI_bound (b := a) ha.2 20
 have rb := readI_bound (b := b) hb.2 20
 rw [← addr_wide ha.1 ha.2, ← addr_wide hb.1 hb.2]
 unfold slotL hiV at h
 generalize readI a 20 = A at *
 generalize readI b 20 = C at *
 have eA : V (ofV A) = A := by rw [V_ofV]; simp only [B]; omega
 have eC : V (ofV C) = C := by rw [V_ofV]; simp only [B]; omega
 rw [eA, eC] at h
 have q : ∀ X : Int, List.set (List.set (ofV (X * 2 ^ 96)) 0 k) 1 (ibits .or .u64 (List.getD (ofV (X * 2 ^ 96)) 1 0) 3) = [k, ibits .or .u64 (X * 79228162514264337593543950336 / 18446744073709551616 % 18446744073709551616) 3, X * 79228162514264337593543950336 / 340282366920938463463374607431768211456 % 18446744073709551616, X * 79228162514264337593543950336 / 6277101735386680763835789423207666416102355444464034512896 % 18446744073709551616] := fun X => by simp [ofV]
 have q' : ∀ X : Int, List.set (List.set (ofV (X * 2 ^ 96)) 0 k') 1 (ibits .or .u64 (List.getD (ofV (X * 2 ^ 96)) 1 0) 3) = [k', ibits .or .u64 (X * 79228162514264337593543950336 / 18446744073709551616 % 18446744073709551616) 3, X * 79228162514264337593543950336 / 340282366920938463463374607431768211456 % 18446744073709551616, X * 79228162514264337593543950336 / 6277101735386680763835789423207666416102355444464034512896 % 18446744073709551616] := fun X => by simp [ofV]
 have l1 : ∀ X : Int, ibits .or .u64 (X * 79228162514264337593543950336 / 18446744073709551616 % 18446744073709551616) 3 = X % 4294967296 * 4294967296 + 3 := fun X => by
  rw [show X * 79228162514264337593543950336 / 18446744073709551616 % 18446744073709551616 = X % 4294967296 * 4294967296 by omega]
  exact or3 _ (by omega) (by omega)
 rw [q, q', l1, l1] at h
 simp only [List.cons.injEq, and_true] at h
 obtain ⟨h0, h1, h2, h3⟩ := h
 refine ⟨?_, h0⟩
 rw [show A = C by omega]
end Go.Abs.Pure
end
section
set_option linter.unusedVariables false
set_option linter.unusedSimpArgs false
set_option maxRecDepth 100000
namespace Go.Abs.Pure
open Go Go.Abs
def PK (s : List Int) : AV := .agg [.ints .u8 20 selfL, .ints .u64 4 s]
def En (s v : List Int) : AV := .agg [PK s, .ints .u64 4 v]
def z4 : AV := .ints .u64 4 [0, 0, 0, 0]
theorem pk_eq (s t : List Int) : eqAV (PK s) (PK t) = some (s == t) := by
 simp [PK, eqAV, eqAVs]
theorem get_nil (s : List Int) : mgetL (PK s) z4 [] = some (.ints .u64 4 [0, 0, 0, 0], false) := rfl
theorem get_one (s v : List Int) : mgetL (PK s) z4 [En s v] = some (.ints .u64 4 v, true) := by
 simp only [mgetL, mfindL, En, pk_eq, beq_self_eq_true]
 rfl
theorem get_oth {s t : List Int} (h : s ≠ t) (v : List Int) : mgetL (PK s) z4 [En t v] = some (.ints .u64 4 [0, 0, 0, 0], false) := by
 have : (s == t) = false := by simpa using h
 simp only [mgetL, mfindL, En, pk_eq, this]
 rfl
theorem put_nil (s v : List Int) : mputL (PK s) (.ints .u64 4 v) [] = some [En s v] := rfl
theorem put_one (s u v : List Int) : mputL (PK s) (.ints .u64 4 v) [En s u] = some [En s v] := by
 simp only [mputL, mfindL, En, pk_eq, beq_self_eq_true]
 rfl
theorem nonce_is {n : Nat} (hn : 600 ≤ n) {a : List Int} (ha : Adr a) (k r x : Int) (p q o j : List AV) {v : List Int} {h : Bool} (hq : mgetL (PK (slotL a k)) z4 q = some (.ints .u64 4 v, h)) :
  Fae.m n (a, [k, 0, 0, 0], r, x, p, q, o, j) = some ([v.getD 0 0, k, 0, 0], r, x, p, q, o, j) := by
 refine bO (narrow_ok hn k) (iF (by simp) ?_)
 refine bO (a := selfL) rfl (bO (slot_is hn ha k) ?_)
 refine bO (a := (v, r, x, p, q, o, j)) ?_ rfl
 exact bO hq rfl
theorem use_no {n : Nat} (hn : 600 ≤ n) {a : List Int} (ha : Adr a) (i k r x : Int) (p q o j : List AV) {v : List Int} {h : Bool} (hq : mgetL (PK (slotL a k)) z4 q = some (.ints .u64 4 v, h)) (hi : v.getD 0 0 ≠ i) :
  Fbd.m n (a, [i, k, 0, 0], r, x, p, q, o, j) = some (false, r, x, p, q, o, j) := by
 refine bO (slot_is hn ha k) (bO (a := selfL) rfl (bO (a := (v, r, x, p, q, o, j)) (bO hq rfl) ?_))
 refine iF (show ¬ (ibits .or .u64 0 0 != 0) = true by decide) (iT ?_ rfl)
 show (v.getD 0 0 != i) = true
 simpa using hi
theorem use_yes {n : Nat} (hn : 600 ≤ n) {a : List Int} (ha : Adr a) (i k r x : Int) (p q o j : List AV) {v : List Int} {h : Bool} (hq : mgetL (PK (slotL a k)) z4 q = some (.ints .u64 4 v, h)) (hi : v.getD 0 0 = i) (hw : 0 ≤ i ∧ i < 1000)
  {q' o' j' : List AV} (hs : Fd.m n (selfL, slotL a k, v.set 0 (i + 1), r, x, p, q, o, j) = some (r, x, p, q', o', j')) :
  Fbd.m n (a, [i, k, 0, 0], r, x, p, q, o, j) = some (true, r, x, p, q', o', j') := by
 have e : IntKind.wrap .u64 (i + 1) = i + 1 := by rw [wu64]; omega
 refine bO (slot_is hn ha k) (bO (a := selfL) rfl (bO (a := (v, r, x, p, q, o, j)) (bO hq rfl) ?_))
 refine iF (show ¬ (ibits .or .u64 0 0 != 0) = true by decide) (iF ?_ (iF ?_ ?_))
 ·show ¬ (v.getD 0 0 != i) = true
  rw [hi]; simp
 ·show ¬ (IntKind.wrap .u64 (v.getD 0 0 + 1) == 0) = true
  rw [hi, e]
  simp
  omega
 ·refine bO (a := selfL) rfl (bO (a := (r, x, p, q', o', j')) ?_ rfl)
  show Fd.m n (selfL, slotL a k, v.set 0 (IntKind.wrap .u64 (v.getD 0 0 + 1)), r, x, p, q, o, j) = _
  rw [hi, e]
  exact hs
def stepA (s u : List Int) : AV := .agg [.int .i64 1, PK s, .agg [.int .u64 0, z4, .str ByteArray.empty], .ints .u64 4 u, .int .i64 0]
theorem set_first (n : Nat) (s v : List Int) (r x : Int) (p j : List AV) (hj : j.length ≤ 1000) : ∃ j', j'.length = j.length + 1 ∧ Fd.m n (selfL, s, v, r, x, p, [], [], j) = some (r, x, p, [En s v], [En s [0, 0, 0, 0]], j') := by
 refine ⟨j ++ [stepA s [0, 0, 0, 0]], by simp, ?_⟩
 unfold Fd.m Fd.g
 refine bO (get_nil s) (bO (a := [0, 0, 0, 0]) rfl (bO (get_nil s) (bO (a := [0, 0, 0, 0]) rfl (iT rfl (bO (put_nil s [0, 0, 0, 0]) (iT ⟨?_, ?_⟩ (bO (put_nil s v) rfl)))))))
 ·show (j.length + 1) * 160 ≤ 70368744177664; omega
 ·show j.length + 1 ≤ 9223372036854775807; omega
theorem set_next (n : Nat) (s u v w : List Int) (r x : Int) (p j : List AV) (hj : j.length ≤ 1000) : ∃ j', j'.length = j.length + 1 ∧ Fd.m n (selfL, s, v, r, x, p, [En s u], [En s w], j) = some (r, x, p, [En s v], [En s w], j') := by
 refine ⟨j ++ [stepA s u], by simp, ?_⟩
 unfold Fd.m Fd.g
 refine bO (get_one s u) (bO (a := u) rfl (bO (get_one s w) (bO (a := w) rfl (iF (by simp) (iT ⟨?_, ?_⟩ (bO (put_one s u v) rfl))))))
 ·show (j.length + 1) * 160 ≤ 70368744177664; omega
 ·show j.length + 1 ≤ 9223372036854775807; omega
end Go.Abs.Pure
end
section
set_option linter.unusedVariables false
set_option linter.unusedSimpArgs false
set_option maxRecDepth 100000
namespace Go.Abs.Pure
open Go Go.Abs
def qs (s : List Int) : Nat → List AV
 | 0 => []
 | i + 1 => [En s [((i + 1 : Nat) : Int), 0, 0, 0]]
def os (s : List Int) : Nat → List AV
 | 0 => []
 | _ + 1 => [En s [0, 0, 0, 0]]
theorem qs_get (s : List Int) (i : Nat) : ∃ h, mgetL (PK s) z4 (qs s i) = some (.ints .u64 4 [(i : Int), 0, 0, 0], h) := by
 cases i with
 | zero => exact ⟨_, get_nil s⟩
 | succ i => exact ⟨_, get_one s _⟩
theorem qs_set (n : Nat) (s : List Int) (i : Nat) (r x : Int) (p j : List AV) (hj : j.length ≤ 1000) : ∃ j', j'.length = j.length + 1 ∧ Fd.m n (selfL, s, List.set [(i : Int), 0, 0, 0] 0 ((i : Int) + 1), r, x, p, qs s i, os s i, j) = some (r, x, p, qs s (i + 1), os s (i + 1), j') := by
 cases i with
 | zero => exact set_first n s [1, 0, 0, 0] r x p j hj
 | succ i => exact set_next n s [((i + 1 : Nat) : Int), 0, 0, 0] [((i + 1 + 1 : Nat) : Int), 0, 0, 0] [0, 0, 0, 0] r x p j hj
theorem non_loop {α : Type} (mk0 : Bool → (List Int) → (List Int) → (List Int) → (List Int) → Int → Int → (List Int) → (List AV) → (List AV) → (List AV) → (List AV) → α) (mk1 : (List Int) → (List Int) → (List Int) → (List Int) → Int → Int → (List Int) → (List AV) → (List AV) → (List AV) → (List AV) → α)
  {n : Nat} (hn : 600 ≤ n) {a : List Int} (ha : Adr a) (k x1 : Int) (b kb w : List Int) (r x : Int) (p : List AV) {c : Nat} (hc : Int.tmod (IntKind.wrap .i64 x1) 20 = (c : Int)) (hc2 : c < 20) :
  ∀ (d i m : Nat) (j : List AV), i + d = c → d < m → j.length = i → ∃ j', Fv.l8_0.g mk0 mk1 n m (i : Int) x1 r x a [k, 0, 0, 0] b kb w p (qs (slotL a k) i) (os (slotL a k) i) j = some (mk1 a b [k, 0, 0, 0] kb r x w p (qs (slotL a k) c) (os (slotL a k) c) j')
 | 0, i, m + 1, j, hi, _, hj => by
  have : i = c := by omega
  subst this
  refine ⟨j, ?_⟩
  unfold Fv.l8_0.g Fv.l8_0.r
  exact iF (by rw [hc]; simp) rfl
 | d + 1, i, m + 1, j, hi, hm, hj => by
  obtain ⟨h0, hq⟩ := qs_get (slotL a k) i
  obtain ⟨h1, hq1⟩ := qs_get (slotL a k) (i + 1)
  obtain ⟨j1, l1, hs⟩ := qs_set n (slotL a k) i r x p j (by omega)
  obtain ⟨j2, ih⟩ := non_loop mk0 mk1 hn ha k x1 b kb w r x p hc hc2 d (i + 1) m j1 (by omega) (by omega) (by omega)
  have e1 : IntKind.wrap .u64 ((i : Int) + 1) = (i : Int) + 1 := by rw [wu64]; omega
  have e2 : IntKind.wrap .u64 (i : Int) = (i : Int) := by rw [wu64]; omega
  have e3 : IntKind.wrap .i64 ((i : Int) + 1) = ((i + 1 : Nat) : Int) := by rw [wi64]; omega
  refine ⟨j2, ?_⟩
  unfold Fv.l8_0.g Fv.l8_0.r
  refine iT (by rw [hc]; simp; omega) ?_
  refine bO (nonce_is hn ha k r x p _ _ j hq) ?_
  refine bO (use_no hn ha (IntKind.wrap .u64 ((i : Int) + 1)) k r x p _ _ j hq (by rw [e1]; simp; omega)) ?_
  refine bO (use_yes hn ha (i : Int) k r x p _ _ j hq rfl (by omega) hs) ?_
  refine bO (use_no hn ha (i : Int) k r x p _ _ j1 hq1 (by simp; omega)) ?_
  refine iF Bool.false_ne_true (iF (by simp) (iF Bool.false_ne_true (iF ?_ ?_)))
  ·show ¬ (!([(i : Int), k, 0, 0] == [IntKind.wrap .u64 (i : Int), k, 0, 0])) = true
   rw [e2]
   simp
  ·show Fv.l8_0.g mk0 mk1 n m (IntKind.wrap .i64 ((i : Int) + 1)) x1 r x a [k, 0, 0, 0] b kb w p (qs (slotL a k) (i + 1)) (os (slotL a k) (i + 1)) j1 = _
   rw [e3]
   exact ih
theorem qs_oth {s t : List Int} (h : s ≠ t) (c : Nat) : ∃ f, mgetL (PK s) z4 (qs t c) = some (.ints .u64 4 [0, 0, 0, 0], f) := by
 cases c with
 | zero => exact ⟨_, get_nil s⟩
 | succ i => exact ⟨_, get_oth h _⟩
theorem new0 (n : Nat) : Far.m (n + 2) [] = some (0, 0, [], [], [], []) := by kernel_rfl
theorem nonces {n : Nat} (hn : 600 ≤ n) (hk : Fba.m n () = some true) (a key : List Int) (nn : Int) (b other : List Int) (ha : Adr a) (hb : Adr b) (h8 : 0 ≤ nn ∧ nn < 256) :
  Fv.m n (a, key, nn, b, other) = some true := by
 have e : IntKind.wrap .i64 nn = nn := by rw [wi64]; omega
 obtain ⟨c, hc, hc2⟩ : ∃ c : Nat, Int.tmod (IntKind.wrap .i64 nn) 20 = (c : Int) ∧ c < 20 := by
  rw [e, Int.tmod_eq_emod_of_nonneg h8.1]
  exact ⟨(nn % 20).toNat, by omega, by omega⟩
 have hnew : Far.m n [] = some (0, 0, [], [], [], []) := by
  obtain ⟨m, rfl⟩ : ∃ m, n = m + 2 := ⟨n - 2, by omega⟩
  exact new0 m
 unfold Fv.m Fv.g
 refine bO hk (iF (by simp) (bO hnew ?_))
 show bindO (Fae.m n (b, [List.getD other 0 0, 0, 0, 0], 0, 0, [], [], [], [])) _ = _
 generalize List.getD other 0 0 = kb
 refine bO (nonce_is hn hb kb 0 0 [] [] [] [] (get_nil _)) ?_
 show bindO (Fv.l8_0.m n n (0, nn, 0, 0, a, [List.getD key 0 0, 0, 0, 0], b, [kb, 0, 0, 0], [0, kb, 0, 0], [], [], [], [])) _ = _
 generalize List.getD key 0 0 = k
 obtain ⟨j', hl⟩ := non_loop (fun a0 a1 a2 a3 a4 a5 a6 a7 a8 a9 a10 a11 => Sum.inl (a0, a1, a2, a3, a4, a5, a6, a7, a8, a9, a10, a11)) (fun a0 a1 a2 a3 a4 a5 a6 a7 a8 a9 a10 => Sum.inr (a0, a1, a2, a3, a4, a5, a6, a7, a8, a9, a10)) hn ha k nn b [kb, 0, 0, 0] [0, kb, 0, 0] 0 0 [] hc hc2 c 0 n [] (by omega) (by omega) rfl
 refine bO (a := Sum.inr (a, b, [k, 0, 0, 0], [kb, 0, 0, 0], 0, 0, [0, kb, 0, 0], [], qs (slotL a k) c, os (slotL a k) c, j')) hl ?_
 have last : slotL b kb ≠ slotL a k → Fae.m n (b, [kb, 0, 0, 0], 0, 0, [], qs (slotL a k) c, os (slotL a k) c, j') = some ([0, kb, 0, 0], 0, 0, [], qs (slotL a k) c, os (slotL a k) c, j') := fun hne => by
  obtain ⟨f, hq⟩ := qs_oth hne c
  exact nonce_is hn hb kb 0 0 [] _ _ j' hq
 by_cases h1 : a = b
 ·refine iT (by simpa using h1) ?_
  by_cases h2 : k = kb
  ·exact iT (by show ([k, 0, 0, 0] == [kb, 0, 0, 0]) = true; simp [h2]) rfl
  ·refine iF (by show ¬ ([k, 0, 0, 0] == [kb, 0, 0, 0]) = true; simp [h2]) ?_
   refine bO (last fun h => h2 (slot_inj hb ha h).2.symm) ?_
   show some ([0, kb, 0, 0] == [0, kb, 0, 0]) = _
   simp
 ·refine iF (by simpa using h1) ?_
  refine bO (last fun h => h1 (slot_inj hb ha h).1.symm) ?_
  show some ([0, kb, 0, 0] == [0, kb, 0, 0]) = _
  simp
end Go.Abs.Pure
end
section
set_option linter.unusedVariables false
set_option maxRecDepth 100000
namespace Go.Abs.Pure
open Go Go.Abs
def nm0 : ByteArray := (b8 [100, 101, 112, 111, 115, 105, 116, 84, 111, 40, 97, 100, 100, 114, 101, 115, 115, 41])
def nm1 : ByteArray := (b8 [98, 97, 108, 97, 110, 99, 101, 79, 102, 40, 97, 100, 100, 114, 101, 115, 115, 41])
def nm2 : ByteArray := (b8 [103, 101, 116, 78, 111, 110, 99, 101, 40, 97, 100, 100, 114, 101, 115, 115, 44, 117, 105, 110, 116, 49, 57, 50, 41])
def nm3 : ByteArray := (b8 [105, 110, 99, 114, 101, 109, 101, 110, 116, 78, 111, 110, 99, 101, 40, 117, 105, 110, 116, 49, 57, 50, 41])
def nm4 : ByteArray := (b8 [97, 100, 100, 83, 116, 97, 107, 101, 40, 117, 105, 110, 116, 51, 50, 41])
def nm5 : ByteArray := (b8 [117, 110, 108, 111, 99, 107, 83, 116, 97, 107, 101, 40, 41])
def nm6 : ByteArray := (b8 [119, 105, 116, 104, 100, 114, 97, 119, 83, 116, 97, 107, 101, 40, 97, 100, 100, 114, 101, 115, 115, 41])
def nm7 : ByteArray := (b8 [119, 105, 116, 104, 100, 114, 97, 119, 84, 111, 40, 97, 100, 100, 114, 101, 115, 115, 44, 117, 105, 110, 116, 50, 53, 54, 41])
theorem sel0 : Fy.m 1000 nm0 = some [183, 96, 250, 249] := by kernel_rfl
theorem sel1 : Fy.m 1000 nm1 = some [112, 160, 130, 49] := by kernel_rfl
theorem sel2 : Fy.m 1000 nm2 = some [53, 86, 126, 26] := by kernel_rfl
theorem sel3 : Fy.m 1000 nm3 = some [11, 210, 142, 59] := by kernel_rfl
theorem sel4 : Fy.m 1000 nm4 = some [3, 150, 203, 96] := by kernel_rfl
theorem sel5 : Fy.m 1000 nm5 = some [187, 159, 230, 191] := by kernel_rfl
theorem sel6 : Fy.m 1000 nm6 = some [194, 58, 92, 234] := by kernel_rfl
theorem sel7 : Fy.m 1000 nm7 = some [32, 92, 40, 120] := by kernel_rfl
theorem rsel : Fz.m 1000 nm7 = some [32, 92, 40, 120] := by kernel_rfl
end Go.Abs.Pure
end
section
set_option linter.unusedVariables false
set_option linter.unusedSimpArgs false
set_option maxRecDepth 100000
namespace Go.Abs.Pure
open Go Go.Abs
def encL : List Int := [0, 0, 0, 0, 0, 0, 0, 0, 0, 0, 0, 0, 2, 0, 0, 0, 0, 0, 0, 0, 0, 0, 0, 0, 0, 0, 0, 0, 0, 0, 0, 0, 0, 0, 0, 0, 0, 0, 0, 0, 0, 0, 0, 0, 0, 0, 0, 0, 0, 0, 0, 0, 0, 0, 0, 0, 0, 0, 0, 0, 0, 0, 0, 3]
def inpL : List Int := [32, 92, 40, 120] ++ encL
def rowsL : List AV := [.agg [.str nm0, .int .i64 1, .bool false, .bool true], .agg [.str nm1, .int .i64 1, .bool true, .bool false], .agg [.str nm2, .int .i64 2, .bool true, .bool false], .agg [.str nm3, .int .i64 1, .bool false, .bool false], .agg [.str nm4, .int .i64 1, .bool false, .bool true], .agg [.str nm5, .int .i64 0, .bool false, .bool false], .agg [.str nm6, .int .i64 1, .bool false, .bool false], .agg [.str nm7, .int .i64 2, .bool false, .bool false]]
theorem rows_is (n : Nat) : Fas.m n () = some rowsL := by kernel_rfl
theorem find_no {α : Type} (mk0 : Bool → ByteArray → Int → Bool → Bool → α) (mk1 : ByteArray → Int → Bool → Bool → α) {m0 m : Nat} (hm : m0 = m + 1) {j j' : Int} (hj : 0 ≤ j ∧ j < 8) (hj' : j' = j + 1) (x4 : ByteArray) (x5 : Int) (x6 x7 : Bool) {s : ByteArray} {w : Int} {l v : Bool} (hrow : List.getD rowsL j.toNat .any = .agg [.str s, .int .i64 w, .bool l, .bool v]) {r : List Int} (hs : Fy.m 1000 s = some r) (hne : (ByteArray.toList (strOf (cut inpL 0 (some 4))) == ByteArray.toList (strOf r)) = false) {R : Option α}
  (k : Fat.l2_0.g mk0 mk1 1000 m j' 8 rowsL inpL x4 x5 x6 x7 = R) : Fat.l2_0.g mk0 mk1 1000 m0 j 8 rowsL inpL x4 x5 x6 x7 = R := by
 subst hm
 unfold Fat.l2_0.g Fat.l2_0.r
 refine iT (by simp; omega) (iT (by omega) (iT (by show j < 8; omega) ?_))
 rw [hrow]
 refine bO (a := [.str s, .int .i64 w, .bool l, .bool v]) rfl (bO (a := s) rfl (bO (a := w) rfl (bO (a := l) rfl (bO (a := v) rfl (iT (by decide) (iT (by decide) (bO hs (iF ?_ ?_))))))))
 ·rw [hne]; exact Bool.false_ne_true
 ·rw [show IntKind.wrap .i64 (j + 1) = j' by rw [wi64]; omega]
  exact k
theorem find_yes {α : Type} (mk0 : Bool → ByteArray → Int → Bool → Bool → α) (mk1 : ByteArray → Int → Bool → Bool → α) {m0 m : Nat} (hm : m0 = m + 1) {j : Int} (hj : 0 ≤ j ∧ j < 8) (x4 : ByteArray) (x5 : Int) (x6 x7 : Bool) {s : ByteArray} {w : Int} {l v : Bool} (hrow : List.getD rowsL j.toNat .any = .agg [.str s, .int .i64 w, .bool l, .bool v]) {r : List Int} (hs : Fy.m 1000 s = some r) (hne : (ByteArray.toList (strOf (cut inpL 0 (some 4))) == ByteArray.toList (strOf r)) = true) :
  Fat.l2_0.g mk0 mk1 1000 m0 j 8 rowsL inpL x4 x5 x6 x7 = some (mk0 true s w l v) := by
 subst hm
 unfold Fat.l2_0.g Fat.l2_0.r
 refine iT (by simp; omega) (iT (by omega) (iT (by show j < 8; omega) ?_))
 rw [hrow]
 exact bO (a := [.str s, .int .i64 w, .bool l, .bool v]) rfl (bO (a := s) rfl (bO (a := w) rfl (bO (a := l) rfl (bO (a := v) rfl (iT (by decide) (iT (by decide) (bO hs (iT hne rfl))))))))
theorem go_is {α : Type} (mk0 : Bool → ByteArray → Int → Bool → Bool → α) (mk1 : ByteArray → Int → Bool → Bool → α) : Fat.l2_0.g mk0 mk1 1000 1000 0 8 rowsL inpL ByteArray.empty 0 false false = some (mk0 true nm7 2 false false) := by
 refine find_no mk0 mk1 (m0 := 1000) (m := 999) rfl (j := 0) (j' := 1) (by omega) rfl _ _ _ _ (s := nm0) rfl sel0 (by kernel_rfl) ?_
 refine find_no mk0 mk1 (m0 := 999) (m := 998) rfl (j := 1) (j' := 2) (by omega) rfl _ _ _ _ (s := nm1) rfl sel1 (by kernel_rfl) ?_
 refine find_no mk0 mk1 (m0 := 998) (m := 997) rfl (j := 2) (j' := 3) (by omega) rfl _ _ _ _ (s := nm2) rfl sel2 (by kernel_rfl) ?_
 refine find_no mk0 mk1 (m0 := 997) (m := 996) rfl (j := 3) (j' := 4) (by omega) rfl _ _ _ _ (s := nm3) rfl sel3 (by kernel_rfl) ?_
 refine find_no mk0 mk1 (m0 := 996) (m := 995) rfl (j := 4) (j' := 5) (by omega) rfl _ _ _ _ (s := nm4) rfl sel4 (by kernel_rfl) ?_
 refine find_no mk0 mk1 (m0 := 995) (m := 994) rfl (j := 5) (j' := 6) (by omega) rfl _ _ _ _ (s := nm5) rfl sel5 (by kernel_rfl) ?_
 refine find_no mk0 mk1 (m0 := 994) (m := 993) rfl (j := 6) (j' := 7) (by omega) rfl _ _ _ _ (s := nm6) rfl sel6 (by kernel_rfl) ?_
 exact find_yes mk0 mk1 (m0 := 993) (m := 992) rfl (j := 7) (by omega) _ _ _ _ (s := nm7) rfl sel7 (by kernel_rfl)
theorem rows_step {α : Type} {f : List AV → Option α} {r : Option α} (k : f rowsL = r) : bindO (Fas.m 1000 ()) f = r := by rw [rows_is]; exact k
theorem find_is : Fat.m 1000 inpL = some (nm7, 2, false, false, true) := by
 unfold Fat.m Fat.g
 refine rows_step ?_
 show bindO (Fat.l2_0.m 1000 1000 (0, 8, rowsL, inpL, ByteArray.empty, 0, false, false)) _ = _
 exact bO (a := Sum.inl (true, nm7, 2, false, false)) (go_is _ _) rfl
end Go.Abs.Pure
end
section
set_option linter.unusedVariables false
set_option linter.unusedSimpArgs false
set_option maxRecDepth 100000
namespace Go.Abs.Pure
open Go Go.Abs
def addr1 : List Int := [1, 0, 0, 0, 0, 0, 0, 0, 0, 0, 0, 0, 0, 0, 0, 0, 0, 0, 0, 0]
def addr2 : List Int := [2, 0, 0, 0, 0, 0, 0, 0, 0, 0, 0, 0, 0, 0, 0, 0, 0, 0, 0, 0]
def self0 : List Int := [0, 0, 0, 0, 113, 114, 125, 226, 46, 94, 157, 139, 175, 14, 218, 198, 243, 125, 160, 50]
def entL : List AV := [.agg [.ints .u8 20 self0, .agg [.int .u64 0, .ints .u64 4 [5, 0, 0, 0], .snil, .snil]]]
def s1 : Int × Int × List AV × List AV × List AV × List AV := (Far.m 1000 entL).getD (0, 0, [], [], [], [])
theorem s1_is : Far.m 1000 entL = some s1 := by kernel_rfl
def s2 : Bool × Int × Int × List AV × List AV × List AV × List Int × List AV := (Fax.m 1000 (0, addr1, [5, 0, 0, 0], [], false, s1.1, s1.2.1, s1.2.2.1, s1.2.2.2.1, s1.2.2.2.2.1, s1.2.2.2.2.2)).getD (false, 0, 0, [], [], [], [], [])
theorem s2_is : Fax.m 1000 (0, addr1, [5, 0, 0, 0], [], false, s1.1, s1.2.1, s1.2.2.1, s1.2.2.2.1, s1.2.2.2.2.1, s1.2.2.2.2.2) = some s2 := by kernel_rfl
def s3 : List Int × Int × Int × List AV × List AV × List AV × List AV := (Fx.m 1000 (addr1, s2.2.1, s2.2.2.1, s2.2.2.2.1, s2.2.2.2.2.1, s2.2.2.2.2.2.1, s2.2.2.2.2.2.2.2)).getD ([], 0, 0, [], [], [], [])
theorem s3_is : Fx.m 1000 (addr1, s2.2.1, s2.2.2.1, s2.2.2.2.1, s2.2.2.2.2.1, s2.2.2.2.2.2.1, s2.2.2.2.2.2.2.2) = some s3 := by kernel_rfl
theorem wide2 : Fbj.m 1000 addr2 = some [0, 0, 33554432, 0] := by kernel_rfl
theorem enc_is : Fal.m 1000 [.agg [.bool false, .ints .u64 4 [0, 0, 33554432, 0], .snil], .agg [.bool false, .ints .u64 4 [3, 0, 0, 0], .snil]] = some encL := by kernel_rfl
theorem known12 : Fba.m 1000 () = some true := by
 unfold Fba.m Fba.g
 refine bO (a := self0) rfl ?_
 refine bO s1_is (bO s2_is (bO s3_is (bO rsel (bO wide2 (bO enc_is ?_)))))
 refine iT ⟨by decide, by decide⟩ ?_
 unfold Fax.m Fax.g
 rw [if_neg (show ¬ (((List.length ([32, 92, 40, 120] ++ encL) : Nat) : Int) == 0) = true by decide)]
 unfold Fq.m Fq.g
 rw [show Fat.m 1000 ([32, 92, 40, 120] ++ encL) = some (nm7, 2, false, false, true) from find_is]
 kernel_rfl
end Go.Abs.Pure
end
section
set_option linter.unusedVariables false
set_option maxRecDepth 100000
namespace Go.Abs.Pure
open Go Go.Abs
theorem Adr.of {a : List Int} (h : InA .u8 20 a) : Adr a := ⟨h.1, fun y hy => ⟨(h.2 y hy).1, by have := (h.2 y hy).2; simp [IntKind.max, IntKind.bits, IntKind.signed] at this; omega⟩⟩
theorem DeskNonces (a0 : List Int) (h0 : InA .u8 20 a0) (a1 : List Int) (h1 : InA .u64 4 a1) (a2 : Int) (h2 : InK .u8 a2) (a3 : List Int) (h3 : InA .u8 20 a3) (a4 : List Int) (h4 : InA .u64 4 a4) : ∃ n, Fv.m n (a0, a1, a2, a3, a4) = some true :=
 ⟨1000, nonces (by decide) known12 a0 a1 a2 a3 a4 (.of h0) (.of h3) ⟨h2.1, by have := h2.2; simp [IntKind.max, IntKind.bits, IntKind.signed] at this; omega⟩⟩
end Go.Abs.Pure
end
