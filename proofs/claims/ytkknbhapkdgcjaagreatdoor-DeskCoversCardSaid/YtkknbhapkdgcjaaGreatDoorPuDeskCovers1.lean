/- Plain laws about what the functions compute. Conditions: the arguments' bounds, as each theorem says. -/
import Derived.Test.YtkknbhapkdgcjaaGreatDoorRows
import Derived.LaidLaws
import Derived.Test.YtkknbhapkdgcjaaGreatDoorAbsC7
import Derived.Test.YtkknbhapkdgcjaaGreatDoorFnDeskCovers1
import Derived.Test.YtkknbhapkdgcjaaGreatDoorBinC1
import Derived.KernelRfl
import Derived.Test.YtkknbhapkdgcjaaGreatDoorFnDeskCovers2
import Derived.Test.YtkknbhapkdgcjaaGreatDoorFnDeskCovers3
import Derived.Test.YtkknbhapkdgcjaaGreatDoorFnDeskCovers4
set_option linter.unusedVariables false
set_option linter.unusedSimpArgs false
set_option maxRecDepth 100000
section
namespace Go.Abs
open Go Go.Proofs Go.RowKit Go.Proofs.YtkknbhapkdgcjaaGreatDoor
theorem star : "*" ++ "errors.errorString" = "*errors.errorString" := by decide
theorem zOd (u : TypeId) (h : Tryz.prog.typeName? 3 u = some "*errors.errorString") : u = 201 :=
 typeName_ptr_named (nm := "errors.errorString") (by rw [star]; kernel_rfl) (by kernel_rfl) (by decide) u (by rw [star]; exact h)
theorem zGb {W : World} {name : String} {text : List UInt8} {ps : List MemPlace} {k : Nat} {r : List (String × DataW Unit)} (hk : Tryz.prog.globalNamed name = some k) (ht : (Tryz.prog.globals[k]?).map (·.type) = some 91)
  (h : DataW.LaidVars Tryz.prog W ((name, .iface "*errors.errorString" (.ptr (.agg [.lit (.string text)]))) :: r) ps)
  (hok : ∀ b off, MemPlace.cell b off ∈ ps → (∃ c t, W.heap[b]? = some (.cells c t (0, 0))) ∧ ∀ u v, W.cell? ⟨b, off, none⟩ = some (.iface u v) → Value.okWide Tryz.prog W .any 0 u v) :
  ∃ a s q, W.cell? ⟨k, 0, none⟩ = some (.iface 201 (.pointer (some a))) ∧ W.cell? a = some (.string s) ∧ s.data.toList = text ∧ (∃ c t, W.heap[a.block]? = some (.cells c t (0, 0))) ∧ DataW.LaidVars Tryz.prog W r q ∧ ∀ x ∈ q, x ∈ ps := by
 obtain ⟨g, t, cs, fuel, p, q, a1, a2, a3, a4, a5, rfl⟩ := h
 obtain rfl : g = k := Option.some.inj (a1.symm.trans hk)
 obtain rfl : t = 91 := Option.some.inj (a2.symm.trans ht)
 have hcell0 : ∀ i, W.cell? ⟨g, i, none⟩ = cs[i]? := fun i => World.var?_cell a1 a3 i
 have hmem0 : ∀ u v, cs.toList = [.iface u v] → MemPlace.cell g 0 ∈ MemPlace.row ⟨g, 0, none⟩ cs.size ++ p ++ q := fun u v hc => by
  have : cs.size = 1 := by rw [← Array.length_toList, hc]; rfl
  rw [this]
  simp [MemPlace.row]
 have hc0 : ∀ u v, cs.toList = [.iface u v] → W.cell? ⟨g, 0, none⟩ = some (.iface u v) := fun u v hc => by
  rw [hcell0, ← Array.getElem?_toList, hc]; rfl
 obtain ⟨a, s, e1, e2, e3, _, e5⟩ := errorString_of_trod (ts := 9) (te := 225) (f := ((match Tryz.prog.underlying 225 with | some (.struct fs) => fs | _ => #[]).getD 0 default)) Tryz.underlying91 zOd Tryz.underlying201 (by kernel_rfl) (by kernel_rfl) (by kernel_rfl) (by kernel_rfl) (by kernel_rfl) (by kernel_rfl) a4
  fun u v hc => (hok g 0 (hmem0 u v hc)).2 u v (hc0 u v hc)
 refine ⟨a, s, q, hc0 _ _ e1, e2, e3, (hok a.block a.off ?_).1, a5, fun x hx => List.mem_append_right _ hx⟩
 rw [e5]
 simp [MemPlace.row]
theorem zEE {W : World} {a : Addr} {v : Value} (h : W.cell? a = some v) : a.spot = none := by
 unfold World.cell? at h
 split at h
 ·split at h
  ·cases h
  ·rename_i hs; simpa using hs
 ·cases h
theorem peel {X : Nat → Nat → Prop} {A q : List MemPlace} (h : ∀ b off, MemPlace.cell b off ∈ A ++ q → X b off) : ∀ b off, MemPlace.cell b off ∈ q → X b off := fun b off hb => h b off (List.mem_append_right _ hb)
abbrev zLW : List (String × DataW Unit) := Rows.deskNoncesRow.laid
theorem zOe : (zLW.filter fun x => x.2.handleName?.isNone) = [("quaestor/keccak.keys", Rows.laid_quaestor_keccak_keys), ("quaestor/keccak.turns", Rows.laid_quaestor_keccak_turns), ("quaestor/keccak.to", Rows.laid_quaestor_keccak_to), ("quaestor/abi.errEnd", Rows.laid_quaestor_abi_errEnd), ("quaestor/desk.errArgs", Rows.laid_quaestor_desk_errArgs), ("quaestor/desk.errValue", Rows.laid_quaestor_desk_errValue), ("quaestor/desk.errBook", Rows.laid_quaestor_desk_errBook)] := rfl
theorem globZ (W : World) (h : laidMetH Tryz.prog zLW W) : Glob zI (E0 W) := by
 have hP := (laidMetH_iff.1 h).1
 rw [zOe] at hP
 obtain ⟨ps, hL, _, hok⟩ := hP
 obtain ⟨g0, t0, c0, f0, p0, q0, a0, b0, d0, e0, hL, rfl⟩ := hL
 have hok4 := peel hok
 clear hok
 obtain ⟨g1, t1, c1, f1, p1, q1, a1, b1, d1, e1, hL, rfl⟩ := hL
 have hok5 := peel hok4
 clear hok4
 obtain ⟨g2, t2, c2, f2, p2, q2, a2, b2, d2, e2, hL, rfl⟩ := hL
 have hok6 := peel hok5
 clear hok5
 obtain ⟨g3, t3, c3, f3, p3, q3, a3, b3, d3, e3, hL, rfl⟩ := hL
 have hok7 := peel hok6
 clear hok6
 obtain rfl : g0 = 5 := Option.some.inj (a0.symm.trans (by kernel_rfl))
 obtain rfl : t0 = 198 := Option.some.inj (b0.symm.trans (by kernel_rfl))
 have v0 := zES a0 d0 (zBj (n := 24) (e := 24) (k := .u64) (l := zKE) (by kernel_rfl) (by kernel_rfl) (by kernel_rfl) (by kernel_rfl) rfl e0) rfl
 obtain rfl : g1 = 7 := Option.some.inj (a1.symm.trans (by kernel_rfl))
 obtain rfl : t1 = 200 := Option.some.inj (b1.symm.trans (by kernel_rfl))
 have v1 := zES a1 d1 (zBj (n := 24) (e := 3) (k := .i64) (l := zJf) (by kernel_rfl) (by kernel_rfl) (by kernel_rfl) (by kernel_rfl) rfl e1) rfl
 obtain rfl : g2 = 6 := Option.some.inj (a2.symm.trans (by kernel_rfl))
 obtain rfl : t2 = 200 := Option.some.inj (b2.symm.trans (by kernel_rfl))
 have v2 := zES a2 d2 (zBj (n := 24) (e := 3) (k := .i64) (l := zNW) (by kernel_rfl) (by kernel_rfl) (by kernel_rfl) (by kernel_rfl) rfl e2) rfl
 clear a0 b0 d0 e0 a1 b1 d1 e1 a2 b2 d2 e2 a3 b3 d3 e3
 obtain ⟨a0, s0, q0, b0, c0, d0, e0, h2, m0⟩ := zGb (k := 0) (by kernel_rfl) (by kernel_rfl) hL hok7
 have hok1 := fun b off hb => hok7 b off (m0 _ hb)
 obtain ⟨a1, s1, q1, b1, c1, d1, e1, h3, m1⟩ := zGb (k := 1) (by kernel_rfl) (by kernel_rfl) h2 hok1
 have hok2 := fun b off hb => hok1 b off (m1 _ hb)
 obtain ⟨a2, s2, q2, b2, c2, d2, e2, _, _⟩ := zGb (k := 2) (by kernel_rfl) (by kernel_rfl) h3 hok2
 have n01 : a0 ≠ a1 := fun h => by subst h; rw [c0] at c1; cases c1; rw [d0] at d1; exact absurd d1 (by decide)
 have n02 : a0 ≠ a2 := fun h => by subst h; rw [c0] at c2; cases c2; rw [d0] at d2; exact absurd d2 (by decide)
 have n12 : a1 ≠ a2 := fun h => by subst h; rw [c1] at c2; cases c2; rw [d1] at d2; exact absurd d2 (by decide)
 have cell : ∀ g tF ts k, zI g = .errv tF ts k → (g = 0 ∨ g = 1 ∨ g = 2) ∧ tF = 124 ∧ ts = 201 ∧ k = g := fun g tF ts k he => by
  match g, he with
  | 0, he => cases he; exact ⟨.inl rfl, rfl, rfl, rfl⟩
  | 1, he => cases he; exact ⟨.inr (.inl rfl), rfl, rfl, rfl⟩
  | 2, he => cases he; exact ⟨.inr (.inr rfl), rfl, rfl, rfl⟩
  | 3, he => cases he
  | 4, he => cases he
  | 5, he => cases he
  | 6, he => cases he
  | 7, he => cases he
  | g + 8, he => cases he
 refine ⟨fun g => ?_, fun g tF ts k he => ?_, fun g g' tF ts k tF' ts' k' he he' hne u u' p x x' => ?_⟩
 ·match g with
  | 0 => exact zET (by decide) b0
  | 1 => exact zET (by decide) b1
  | 2 => exact zET (by decide) b2
  | 3 => trivial
  | 4 => trivial
  | 5 => exact v0
  | 6 => exact v2
  | 7 => exact v1
  | g + 8 => trivial
 ·obtain ⟨hg, rfl, rfl, rfl⟩ := cell g tF ts k he
  refine ⟨rfl, ?_⟩
  rcases hg with rfl | rfl | rfl
  ·exact zDy b0 (zEE c0) e0
  ·exact zDy b1 (zEE c1) e1
  ·exact zDy b2 (zEE c2) e2
 ·obtain ⟨hg, -, -, -⟩ := cell g tF ts k he
  obtain ⟨hg', -, -, -⟩ := cell g' tF' ts' k' he'
  have x1 : W.cell? ⟨g, 0, none⟩ = some (.iface u p) := x
  have x2 : W.cell? ⟨g', 0, none⟩ = some (.iface u' p) := x'
  rcases hg with rfl | rfl | rfl <;> rcases hg' with rfl | rfl | rfl <;> (try exact absurd rfl hne) <;>
   simp only [b0, b1, b2, Option.some.injEq, Value.iface.injEq] at x1 x2 <;> obtain ⟨-, rfl⟩ := x1 <;> obtain ⟨-, x2⟩ := x2 <;> simp only [Value.pointer.injEq, Option.some.injEq] at x2 <;>
   first | exact n01 x2.symm | exact n01 x2 | exact n02 x2.symm | exact n02 x2 | exact n12 x2.symm | exact n12 x2
end Go.Abs
end
section
namespace Go.Abs.Pure
open Go Go.Abs
theorem bO {α β : Type} {x : Option α} {a : α} {f : α → Option β} {r : Option β} (h : x = some a) (k : f a = r) : zD x f = r := by
 rw [h]; exact k
theorem iT {α : Type} {c : Prop} [Decidable c] {a b r : Option α} (h : c) (k : a = r) : (if c then a else b) = r := by
 rw [if_pos h]; exact k
theorem iF {α : Type} {c : Prop} [Decidable c] {a b r : Option α} (h : ¬ c) (k : b = r) : (if c then a else b) = r := by
 rw [if_neg h]; exact k
end Go.Abs.Pure
end
section
namespace Go.Abs.Pure
open Go Go.Abs
def W4 (l : List Int) : Prop := l.length = 4 ∧ ∀ x ∈ l, 0 ≤ x ∧ x < 18446744073709551616
theorem W4.split {l : List Int} (h : W4 l) : ∃ a b c d, l = [a, b, c, d] ∧ (0 ≤ a ∧ a < 18446744073709551616) ∧ (0 ≤ b ∧ b < 18446744073709551616) ∧ (0 ≤ c ∧ c < 18446744073709551616) ∧ (0 ≤ d ∧ d < 18446744073709551616) := by
 obtain ⟨h1, h2⟩ := h
 match l, h1 with
 | [a, b, c, d], _ => exact ⟨a, b, c, d, rfl, h2 a (by simp), h2 b (by simp), h2 c (by simp), h2 d (by simp)⟩
theorem W4.mk {a b c d : Int} (ha : 0 ≤ a ∧ a < 18446744073709551616) (hb : 0 ≤ b ∧ b < 18446744073709551616) (hc : 0 ≤ c ∧ c < 18446744073709551616) (hd : 0 ≤ d ∧ d < 18446744073709551616) : W4 [a, b, c, d] :=
 ⟨rfl, by simp; exact ⟨ha, hb, hc, hd⟩⟩
theorem lo64 {x : Int} (h : InK .u64 x) : 0 ≤ x := h.1
theorem hi64 {x : Int} (h : InK .u64 x) : x < 18446744073709551616 := by have := h.2; simp [IntKind.max, IntKind.bits, IntKind.signed] at this; omega
theorem W4.of {l : List Int} (h : InA .u64 4 l) : W4 l := ⟨h.1, fun x hx => ⟨lo64 (h.2 x hx), hi64 (h.2 x hx)⟩⟩
def V : List Int → Int
 | [a, b, c, d] => a + b * 18446744073709551616 + c * 340282366920938463463374607431768211456 + d * 6277101735386680763835789423207666416102355444464034512896
 | _ => 0
def B : Int := 115792089237316195423570985008687907853269984665640564039457584007913129639936
def ofV (x : Int) : List Int := [x % 18446744073709551616, x / 18446744073709551616 % 18446744073709551616, x / 340282366920938463463374607431768211456 % 18446744073709551616, x / 6277101735386680763835789423207666416102355444464034512896 % 18446744073709551616]
theorem zHY (x : Int) : W4 (ofV x) := .mk (by omega) (by omega) (by omega) (by omega)
theorem zOb (x : Int) : V (ofV x) = x % B := by simp only [V, ofV, B]; omega
theorem zFM {l : List Int} (h : W4 l) : 0 ≤ V l ∧ V l < B := by
 obtain ⟨a, b, c, d, rfl, ha, hb, hc, hd⟩ := h.split
 simp only [V, B]; omega
theorem zMI {l : List Int} (h : W4 l) {x : Int} (hx : V l = x % B) : l = ofV x := by
 obtain ⟨a, b, c, d, rfl, ha, hb, hc, hd⟩ := h.split
 simp only [V, B] at hx
 simp only [ofV, List.cons.injEq, and_true]
 refine ⟨?_, ?_, ?_, ?_⟩ <;> omega
theorem zFb {a b c d t : Int} (q : Int) (ha : 0 ≤ a ∧ a < 18446744073709551616) (hb : 0 ≤ b ∧ b < 18446744073709551616) (hc : 0 ≤ c ∧ c < 18446744073709551616) (hd : 0 ≤ d ∧ d < 18446744073709551616) (h : t = V [a, b, c, d] + B * q) : [a, b, c, d] = ofV t := by
 have r := zFM (.mk ha hb hc hd)
 refine zMI (.mk ha hb hc hd) ?_
 rw [h, Int.add_mul_emod_self_left, Int.emod_eq_of_lt r.1 r.2]
theorem zNU {l : List Int} (h : W4 l) : ofV (V l) = l := by
 obtain ⟨h0, h1⟩ := zFM h
 exact (zMI h (by rw [Int.emod_eq_of_lt h0 h1])).symm
end Go.Abs.Pure
namespace Go.Abs.Pure
open Go Go.Abs
def val (b : Int) : List Int → Int
 | [] => 0
 | x :: r => x + b * val b r
def Dig (b : Int) (l : List Int) : Prop := ∀ x ∈ l, 0 ≤ x ∧ x < b
theorem Dig.getD {b : Int} {l : List Int} (h : Dig b l) {i : Nat} (hi : i < l.length) : 0 ≤ l.getD i 0 ∧ l.getD i 0 < b := by
 rw [List.getD_eq_getElem?_getD, List.getElem?_eq_getElem hi]
 exact h _ (List.getElem_mem hi)
theorem Dig.set {b : Int} {l : List Int} (h : Dig b l) {i : Nat} {d : Int} (hd : 0 ≤ d ∧ d < b) : Dig b (l.set i d) := fun x hx => by
 rcases List.mem_or_eq_of_mem_set hx with h' | h'
 ·exact h x h'
 ·rw [h']; exact hd
theorem zKv {b : Int} : ∀ {l : List Int} {k : Nat} {d : Int}, k < l.length → val b (l.set k d) = val b l + (d - l.getD k 0) * b ^ k
 | x :: r, 0, d, _ => by simp only [List.set_cons_zero, val, List.getD_cons_zero]; grind
 | x :: r, k + 1, d, h => by
  have ih := zKv (b := b) (l := r) (k := k) (d := d) (by simpa using h)
  simp only [List.set_cons_succ, val, List.getD_cons_succ, ih]
  grind
theorem zGR {b : Int} (hb : 0 < b) : ∀ {l : List Int}, Dig b l → 0 ≤ val b l ∧ val b l < b ^ l.length
 | [], _ => by simp [val]
 | x :: r, h => by
  have ih := zGR hb (l := r) fun y hy => h y (by simp [hy])
  have hx := h x (by simp)
  have h1 : val b r + 1 ≤ b ^ r.length := by omega
  have h2 := Int.mul_le_mul_of_nonneg_left h1 (Int.le_of_lt hb)
  have h3 := Int.mul_nonneg (Int.le_of_lt hb) ih.1
  simp only [val, List.length_cons, Int.pow_succ]
  rw [Int.mul_comm (b ^ r.length) b]
  rw [Int.mul_add, Int.mul_one] at h2
  omega
theorem zMA {l : List Int} {i j : Nat} {d : Int} (h : i ≠ j) : (l.set i d).getD j 0 = l.getD j 0 := by
 simp [List.getD_eq_getElem?_getD, h]
theorem zKT {l : List Int} (h : l.length = 4) : V l = val 18446744073709551616 l := by
 match l, h with
 | [a, b, c, d], _ => simp only [V, val]; omega
theorem W4.dig {l : List Int} (h : W4 l) : Dig 18446744073709551616 l := h.2
theorem zHX {a b : Int} (ha : 0 ≤ a) (ka : a < 18446744073709551616) (hb : 0 ≤ b) (kb : b < 18446744073709551616) : (0 ≤ ibits .or .u64 a b ∧ ibits .or .u64 a b < 18446744073709551616) ∧ (ibits .or .u64 a b = 0 ↔ a = 0 ∧ b = 0) := by
 rw [zMh ha ka hb kb]
 have h1 := Nat.or_lt_two_pow (x := a.toNat) (y := b.toNat) (n := 64) (by omega) (by omega)
 refine ⟨by omega, ?_⟩
 have h2 : a.toNat ||| b.toNat = 0 ↔ a.toNat = 0 ∧ b.toNat = 0 := Nat.or_eq_zero_iff
 omega
end Go.Abs.Pure
namespace Go.Abs.Pure
open Go Go.Abs
theorem yR (k : Nat) : (0 : Int) < 2 ^ k := Int.pow_pos (by omega)
theorem zBp {i k : Nat} (h : i ≤ k) : (2 : Int) ^ k = 2 ^ i * 2 ^ (k - i) := by rw [← Int.pow_add]; congr 1; omega
theorem zNy (x : Int) (i j : Nat) : x / 2 ^ (i + j) = x / 2 ^ i / 2 ^ j := by rw [Int.pow_add, Int.ediv_ediv_of_nonneg (Int.le_of_lt (yR i))]
end Go.Abs.Pure
namespace Go.Abs.Pure
open Go Go.Abs
end Go.Abs.Pure
namespace Go.Abs.Pure
open Go Go.Abs
end Go.Abs.Pure
namespace Go.Abs.Pure
open Go Go.Abs
end Go.Abs.Pure
namespace Go.Abs.Pure
open Go Go.Abs
end Go.Abs.Pure
set_option maxRecDepth 20000
namespace Go.Abs.Pure
open Go Go.Abs
theorem zNi : W4 [0, 0, 0, 0] := .mk (by omega) (by omega) (by omega) (by omega)
end Go.Abs.Pure
set_option maxRecDepth 20000
namespace Go.Abs.Pure
open Go Go.Abs
end Go.Abs.Pure
set_option maxRecDepth 20000
namespace Go.Abs.Pure
open Go Go.Abs
end Go.Abs.Pure
set_option maxRecDepth 20000
namespace Go.Abs.Pure
open Go Go.Abs
def zKl (a : List Int) : Nat := if V a ≤ 256 then (V a).toNat else 256
theorem zNx (a : List Int) : zKl a ≤ 256 := by unfold zKl; split <;> omega
end Go.Abs.Pure
set_option maxRecDepth 20000
namespace Go.Abs.Pure
open Go Go.Abs
def zJT (a : List Int) : Int × Bool := if V a < 18446744073709551616 then (V a, true) else (0, false)
theorem zGG {n : Nat} {a : List Int} (ha : W4 a) : Fas.m n a = some (zJT a) := by
 obtain ⟨a, b, c, d, rfl, ha, hb, hc, hd⟩ := ha.split
 simp only [Fas.m, Fas.g, List.getD_cons_zero, List.getD_cons_succ, zJT]
 have o1 := zHX hb.1 hb.2 hc.1 hc.2
 have o2 := zHX o1.1.1 o1.1.2 hd.1 hd.2
 rw [o1.2] at o2
 generalize ibits .or .u64 (ibits .or .u64 b c) d = x at *
 by_cases h : V [a, b, c, d] < 18446744073709551616
 ·have : x = 0 := o2.2.2 (by simp only [V] at h; omega)
  subst this
  rw [if_pos h]
  have : V [a, b, c, d] = a := by simp only [V] at h ⊢; omega
  rw [this]
  rfl
 ·have : x ≠ 0 := fun e => by
   have := o2.2.1 e
   simp only [V] at h
   omega
  rw [if_neg h]
  simp [this]
theorem zIy {n : Nat} {a : List Int} (ha : W4 a) : Fbv.m n a = some (zKl a : Int) := by
 have ra := zFM ha
 simp only [Fbv.m, Fbv.g, zGG ha, zD, Option.bind_some, zJT, zKl]
 by_cases h : V a < 18446744073709551616
 ·simp only [h, if_true, Bool.not_true, Bool.false_eq_true, if_false]
  by_cases h2 : V a ≤ 256
  ·rw [if_neg (by omega), if_pos h2, Int.toNat_of_nonneg ra.1]
  ·rw [if_pos (by omega), if_neg h2]; rfl
 ·simp only [h, if_false, Bool.not_false, if_true]
  rw [if_neg (by omega)]; rfl
theorem zAX {j k : Nat} (h : j ≤ k) : (2 : Int) ^ j ≤ 2 ^ k := by
 rw [zBp h]
 have h1 := Int.mul_le_mul_of_nonneg_left (show (1 : Int) ≤ 2 ^ (k - j) by have := yR (k - j); omega) (Int.le_of_lt (yR j))
 omega
end Go.Abs.Pure
set_option maxRecDepth 20000
namespace Go.Abs.Pure
open Go Go.Abs
theorem zDV {x y : Int} {s : Nat} (hs : s ≤ 64) (hx : 0 ≤ x ∧ x * 2 ^ s < 18446744073709551616) (hy : 0 ≤ y ∧ y < 2 ^ s) : ibits .or .u64 (x * 2 ^ s) y = x * 2 ^ s + y := by
 obtain ⟨a, rfl⟩ := Int.eq_ofNat_of_zero_le hx.1
 obtain ⟨b, rfl⟩ := Int.eq_ofNat_of_zero_le hy.1
 have hp : ((2 : Int) ^ s) = ((2 ^ s : Nat) : Int) := by rw [Int.natCast_pow]; rfl
 have h1 : b < 2 ^ s := by have := hy.2; rw [hp] at this; exact Int.ofNat_lt.1 this
 have h2 : (a : Int) * 2 ^ s = ((a * 2 ^ s : Nat) : Int) := by rw [hp, Int.natCast_mul]
 have hle : 2 ^ s ≤ 2 ^ 64 := Nat.pow_le_pow_right (by omega) hs
 have hlt : a * 2 ^ s < 2 ^ 64 := by
  have := hx.2
  rw [h2] at this
  have e : (18446744073709551616 : Int) = ((2 ^ 64 : Nat) : Int) := rfl
  rw [e] at this
  exact Int.ofNat_lt.1 this
 rw [h2, zMh (Int.natCast_nonneg _) (by omega) (Int.natCast_nonneg _) (by omega), Int.toNat_natCast, Int.toNat_natCast, ← Nat.shiftLeft_eq, ← Nat.shiftLeft_add_eq_or_of_lt h1]
 rw [Nat.shiftLeft_eq, Int.natCast_add]
theorem zLf {x y : Int} {s : Nat} (hs : s ≤ 64) (hx : 0 ≤ x ∧ x * 2 ^ s < 18446744073709551616) (hy : 0 ≤ y ∧ y < 2 ^ s) : ibits .or .u64 y (x * 2 ^ s) = x * 2 ^ s + y := by
 rw [← zDV hs hx hy]
 show IntKind.wrap .u64 ((BitVec.ofInt 64 y ||| BitVec.ofInt 64 (x * 2 ^ s)).toNat : Nat) = IntKind.wrap .u64 ((BitVec.ofInt 64 (x * 2 ^ s) ||| BitVec.ofInt 64 y).toNat : Nat)
 rw [BitVec.or_comm]
theorem zHe (x : Int) {s : Nat} (hs : s ≤ 64) : x * 2 ^ s % 18446744073709551616 = x % 2 ^ (64 - s) * 2 ^ s ∧ x * 2 ^ s / 18446744073709551616 = x / 2 ^ (64 - s) := by
 rw [show (18446744073709551616 : Int) = 2 ^ (64 - s) * 2 ^ s by rw [← Int.pow_add, show 64 - s + s = 64 by omega]; rfl]
 rw [Int.mul_comm x, Int.mul_comm (2 ^ (64 - s))]
 refine ⟨?_, Int.mul_ediv_mul_of_pos _ _ (yR s)⟩
 rw [Int.mul_emod_mul_of_pos _ _ (yR s), Int.mul_comm]
theorem zDj {s : Nat} (hs : s ≤ 64) : (2 : Int) ^ (64 - s) * 2 ^ s = 18446744073709551616 := by rw [← Int.pow_add, show 64 - s + s = 64 by omega]; rfl
def loP (s : Nat) (x : Int) : Int := x * 2 ^ s % 18446744073709551616
def hiP (s : Nat) (x : Int) : Int := x * 2 ^ s / 18446744073709551616
theorem hi_lt {s : Nat} {x : Int} (hs : s ≤ 64) (hx : 0 ≤ x ∧ x < 18446744073709551616) : 0 ≤ hiP s x ∧ hiP s x < 2 ^ s := by
 have p := yR s
 refine ⟨Int.ediv_nonneg (Int.mul_nonneg hx.1 (Int.le_of_lt p)) (by omega), Int.ediv_lt_of_lt_mul (by omega) ?_⟩
 rw [Int.mul_comm]
 exact Int.mul_lt_mul_of_pos_left hx.2 p
theorem zKC {s : Nat} (hs : s ≤ 64) {x y : Int} (hx : 0 ≤ x ∧ x < 18446744073709551616) (hy : 0 ≤ y ∧ y < 18446744073709551616) : ibits .or .u64 (loP s x) (ishr .u64 y ((64 - s : Nat) : Int)) = loP s x + hiP s y ∧ 0 ≤ loP s x + hiP s y ∧ loP s x + hiP s y < 18446744073709551616 := by
 have hlo : loP s x = x % 2 ^ (64 - s) * 2 ^ s := (zHe x hs).1
 have hhi : hiP s y = y / 2 ^ (64 - s) := (zHe y hs).2
 have hl := hi_lt hs hy
 have b0 : 0 ≤ loP s x ∧ loP s x < 18446744073709551616 := ⟨Int.emod_nonneg _ (by omega), Int.emod_lt_of_pos _ (by omega)⟩
 have e1 := Int.emod_nonneg x (Int.ne_of_gt (yR (64 - s)))
 have e2 := Int.emod_lt_of_pos x (yR (64 - s))
 rw [zDv .u64 y (64 - s) (by simp [IntKind.bits]), ← hhi]
 rw [hlo] at b0 ⊢
 rw [zDV hs ⟨e1, b0.2⟩ hl]
 refine ⟨rfl, by omega, ?_⟩
 have h3 := Int.mul_le_mul_of_nonneg_right (show x % 2 ^ (64 - s) ≤ 2 ^ (64 - s) - 1 by omega) (Int.le_of_lt (yR s))
 rw [Int.sub_mul, zDj hs] at h3
 omega
theorem zMa {s : Nat} (hs : s ≤ 64) (x : Int) : ishl .u64 x (s : Int) = loP s x := by
 rw [zGi .u64 x s (by simp [IntKind.bits]; omega), zGF]; rfl
def zGg (k : Nat) (a : List Int) (i : Nat) : Int :=
 if i < k / 64 then 0 else if i = k / 64 then loP (k % 64) (a.getD 0 0) else loP (k % 64) (a.getD (i - k / 64) 0) + hiP (k % 64) (a.getD (i - k / 64 - 1) 0)
theorem set_same {l : List Int} {i : Nat} (h : l.getD i 0 = 0) (hi : i < l.length) : l = l.set i 0 := by
 have : l[i] = 0 := by rw [List.getD_eq_getElem?_getD, List.getElem?_eq_getElem hi] at h; simpa using h
 rw [← this, List.set_getElem_self]
theorem zEy {α : Type} (mk : List Int → List Int → α) (n : Nat) (rc : Int → Int → List Int → List Int → List Int → Option α) {k : Nat} (hk : k ≤ 256) {a o : List Int} (ha : W4 a) (o' : List Int) {i : Nat} (hi : i < 4) (hl : o.length = 4) (ho : o.getD i 0 = 0) :
  Fbw.l4.r mk n rc (i : Int) (k : Int) a o o' = rc ((i + 1 : Nat) : Int) (k : Int) a (o.set i (zGg k a i)) o' := by
 have hal := ha.1
 have h1 : (decide ((i : Int) < 4)) = true := by simp; omega
 have g1 : (0 : Int) ≤ (i : Int) := by omega
 have g2 : (i : Int) < 4 := by omega
 have w : IntKind.wrap .i64 ((i : Int) - IntKind.wrap .i64 (IntKind.wrap .u64 (Int.tdiv (k : Int) 64))) = (i : Int) - ((k / 64 : Nat) : Int) := by rw [zAp (by omega), zGF, zAT, zAT]; omega
 have w2 : Int.tmod (k : Int) 64 = ((k % 64 : Nat) : Int) := by rw [zAo (by omega)]; omega
 have w1 : IntKind.wrap .i64 ((i : Int) + 1) = ((i + 1 : Nat) : Int) := by rw [zAT]; omega
 have w3 : IntKind.wrap .u64 (64 - ((k % 64 : Nat) : Int)) = ((64 - k % 64 : Nat) : Int) := by rw [zGF]; omega
 have w4 : IntKind.wrap .i64 ((i : Int) - ((k / 64 : Nat) : Int) - 1) = (i : Int) - ((k / 64 : Nat) : Int) - 1 := by rw [zAT]; omega
 have g5 : (0 : Int) ≤ ((k % 64 : Nat) : Int) := by omega
 have g6 : (0 : Int) ≤ ((64 - k % 64 : Nat) : Int) := by omega
 simp only [Fbw.l4.r, h1, g1, g2, w, w1, w2, w3, w4, g5, g6, if_true, eq_self_iff_true, Int.toNat_natCast, decide_eq_true_eq, zMa (show k % 64 ≤ 64 by omega)]
 unfold zGg
 by_cases c1 : i < k / 64
 ·have d1 : ¬ ((i : Int) - ((k / 64 : Nat) : Int) ≥ 0) := by omega
  have d2 : ¬ ((i : Int) - ((k / 64 : Nat) : Int) > 0) := by omega
  simp only [c1, d1, d2, if_true, if_false]
  rw [← set_same ho (by omega)]
 ·have d1 : ((i : Int) - ((k / 64 : Nat) : Int) ≥ 0) := by omega
  have d3 : (0 : Int) ≤ (i : Int) - ((k / 64 : Nat) : Int) := by omega
  have d4 : (i : Int) - ((k / 64 : Nat) : Int) < 4 := by omega
  have t1 : ((i : Int) - ((k / 64 : Nat) : Int)).toNat = i - k / 64 := by omega
  by_cases c2 : i = k / 64
  ·have d2 : ¬ ((i : Int) - ((k / 64 : Nat) : Int) > 0) := by omega
   simp only [c1, c2, d1, d2, d3, d4, t1, if_true, if_false]
   simp
  ·have d2 : ((i : Int) - ((k / 64 : Nat) : Int) > 0) := by omega
   have d5 : (0 : Int) ≤ (i : Int) - ((k / 64 : Nat) : Int) - 1 := by omega
   have d6 : (i : Int) - ((k / 64 : Nat) : Int) - 1 < 4 := by omega
   have t2 : ((i : Int) - ((k / 64 : Nat) : Int) - 1).toNat = i - k / 64 - 1 := by omega
   simp only [c1, c2, d1, d2, d3, d4, d5, d6, t1, t2, if_true, if_false]
   by_cases c3 : k % 64 = 0
   ·have e : ((((k % 64 : Nat) : Int)) != 0) = false := by rw [c3]; rfl
    simp only [e, Bool.false_eq_true, if_false]
    have hb := ha.dig.getD (i := i - k / 64 - 1) (by omega)
    have : hiP (k % 64) (a.getD (i - k / 64 - 1) 0) = 0 := by
     unfold hiP
     rw [c3, Int.pow_zero, Int.mul_one]
     exact Int.ediv_eq_zero_of_lt hb.1 hb.2
    rw [this, Int.add_zero]
   ·have e : ((((k % 64 : Nat) : Int)) != 0) = true := by simp; omega
    simp only [e, if_true]
    have hs : ∀ v : Int, (o.set i v).getD i 0 = v := fun v => by simp [List.getD_eq_getElem?_getD, show i < o.length by omega]
    rw [hs, (zKC (show k % 64 ≤ 64 by omega) (ha.dig.getD (i := i - k / 64) (by omega)) (ha.dig.getD (i := i - k / 64 - 1) (by omega))).1]
    simp
theorem zIz {n : Nat} (hn : 600 ≤ n) {k a : List Int} (hk : W4 k) (ha : W4 a) : Fbw.m n (k, a) = some (ofV (V a * 2 ^ zKl k)) := by
 have hf := zNx k
 obtain ⟨m, rfl⟩ : ∃ m, n = m + 5 := ⟨n - 5, by omega⟩
 simp only [Fbw.m, Fbw.g, zIy hk, zD, Option.bind_some, Fbw.l4.m]
 generalize zKl k = j at *
 have run : Fbw.l4.g (fun a0 a1 => (a0, a1)) (m + 5) (m + 5) 0 (j : Int) a [0, 0, 0, 0] [0, 0, 0, 0] = some ([zGg j a 0, zGg j a 1, zGg j a 2, zGg j a 3], [0, 0, 0, 0]) := by
  refine (zEy _ _ _ hf ha _ (i := 0) (by omega) rfl rfl).trans ?_
  refine (zEy _ _ _ hf ha _ (i := 1) (by omega) rfl rfl).trans ?_
  refine (zEy _ _ _ hf ha _ (i := 2) (by omega) rfl rfl).trans ?_
  refine (zEy _ _ _ hf ha _ (i := 3) (by omega) rfl rfl).trans ?_
  rfl
 rw [run]
 simp only [Option.bind_some]
 congr 1
 have hs : j % 64 ≤ 64 := by omega
 have hq : j / 64 ≤ 4 := by omega
 have hj : j = j % 64 + 64 * (j / 64) := by omega
 have hT : V a * 2 ^ j = V a * 2 ^ (j % 64) * 2 ^ (64 * (j / 64)) := by conv => lhs; rw [hj, Int.pow_add, ← Int.mul_assoc]
 rw [hT]
 obtain ⟨a0, a1, a2, a3, rfl, h0, h1, h2, h3⟩ := ha.split
 have b01 := (zKC hs h1 h0).2
 have b12 := (zKC hs h2 h1).2
 have b23 := (zKC hs h3 h2).2
 have bl : ∀ x, 0 ≤ loP (j % 64) x ∧ loP (j % 64) x < 18446744073709551616 := fun x => ⟨Int.emod_nonneg _ (by omega), Int.emod_lt_of_pos _ (by omega)⟩
 have ex : ∀ x, x * 2 ^ (j % 64) = loP (j % 64) x + 18446744073709551616 * hiP (j % 64) x := fun x => by
  have := Int.mul_ediv_add_emod (x * 2 ^ (j % 64)) 18446744073709551616
  unfold loP hiP; omega
 have hV : V [a0, a1, a2, a3] * 2 ^ (j % 64) = V [a0 * 2 ^ (j % 64), a1 * 2 ^ (j % 64), a2 * 2 ^ (j % 64), a3 * 2 ^ (j % 64)] := by
  simp only [V, Int.add_mul]
  rw [Int.mul_right_comm a1, Int.mul_right_comm a2, Int.mul_right_comm a3]
 rw [hV, ex a0, ex a1, ex a2, ex a3]
 have l0 := bl a0
 have l1 := bl a1
 have l2 := bl a2
 have l3 := bl a3
 clear run hT ex bl hV h0 h1 h2 h3
 have hz : (0 : Int) ≤ 0 ∧ (0 : Int) < 18446744073709551616 := by omega
 rcases (show j / 64 = 0 ∨ j / 64 = 1 ∨ j / 64 = 2 ∨ j / 64 = 3 ∨ j / 64 = 4 by omega) with h | h | h | h | h <;>
  simp only [zGg, h, Nat.reduceSub, Nat.reduceLT, Nat.reduceEqDiff, Nat.lt_irrefl, if_true, if_false, List.getD_cons_zero, List.getD_cons_succ, reduceCtorEq, Nat.reduceMul] <;> clear hj hq hf h <;>
  generalize loP (j % 64) a0 = u0 at * <;>
  generalize loP (j % 64) a1 = u1 at * <;>
  generalize loP (j % 64) a2 = u2 at * <;>
  generalize loP (j % 64) a3 = u3 at * <;>
  generalize hiP (j % 64) a0 = v0 at * <;>
  generalize hiP (j % 64) a1 = v1 at * <;>
  generalize hiP (j % 64) a2 = v2 at * <;>
  generalize hiP (j % 64) a3 = v3 at *
 ·refine zFb v3 l0 b01 b12 b23 ?_
  simp only [V, B, Nat.mul_zero, Int.pow_zero]
  simp
  omega
 ·refine zFb (v3 * 18446744073709551616 + u3 + v2) hz l0 b01 b12 ?_
  simp only [V, B, Nat.mul_one, show (2 : Int) ^ 64 = 18446744073709551616 from rfl]
  simp
  omega
 ·refine zFb (v3 * 340282366920938463463374607431768211456 + (u3 + v2) * 18446744073709551616 + u2 + v1) hz hz l0 b01 ?_
  simp only [V, B, Nat.reduceMul, show (2 : Int) ^ 128 = 340282366920938463463374607431768211456 from rfl]
  simp
  omega
 ·refine zFb (v3 * 6277101735386680763835789423207666416102355444464034512896 + (u3 + v2) * 340282366920938463463374607431768211456 + (u2 + v1) * 18446744073709551616 + u1 + v0) hz hz hz l0 ?_
  simp only [V, B, Nat.reduceMul, show (2 : Int) ^ 192 = 6277101735386680763835789423207666416102355444464034512896 from rfl]
  simp
  omega
 ·refine zFb (u0 + (u1 + v0) * 18446744073709551616 + (u2 + v1) * 340282366920938463463374607431768211456 + (u3 + v2) * 6277101735386680763835789423207666416102355444464034512896 + v3 * 115792089237316195423570985008687907853269984665640564039457584007913129639936) hz hz hz hz ?_
  simp only [V, B, Nat.reduceMul, show (2 : Int) ^ 256 = 115792089237316195423570985008687907853269984665640564039457584007913129639936 from rfl]
  simp
  omega
end Go.Abs.Pure
set_option maxRecDepth 20000
namespace Go.Abs.Pure
open Go Go.Abs
def zCg (a : List Int) (j : Nat) : Int := V a / 2 ^ (8 * j) % 256
def yP (a : List Int) : List Int := (List.range 32).map fun i => zCg a (31 - i)
theorem zIn (x v : Int) {j : Nat} (h : j < 8) : (x + 2 ^ 64 * v) / 2 ^ (8 * j) % 256 = x / 2 ^ (8 * j) % 256 := by
 rw [zBp (show 8 * j ≤ 64 by omega), Int.mul_assoc, Int.add_mul_ediv_left _ _ (Int.ne_of_gt (yR _)), zBp (show 8 ≤ 64 - 8 * j by omega), Int.mul_assoc]
 exact Int.add_mul_emod_self_left _ _ _
theorem zIE : ∀ {l : List Int} (h : Dig 18446744073709551616 l) {j : Nat} (hj : j / 8 < l.length), l.getD (j / 8) 0 / 2 ^ (j % 8 * 8) % 256 = val 18446744073709551616 l / 2 ^ (8 * j) % 256
 | x :: r, h, j, hj => by
  have hx := h x (by simp)
  by_cases hlt : j < 8
  ·rw [show j / 8 = 0 by omega, show j % 8 * 8 = 8 * j by omega]
   simp only [List.getD_cons_zero, val]
   rw [show (18446744073709551616 : Int) = 2 ^ 64 from rfl, zIn x _ hlt]
  ·obtain ⟨i, rfl⟩ : ∃ i, j = 8 + i := ⟨j - 8, by omega⟩
   have ih := zIE (l := r) (fun y hy => h y (by simp [hy])) (j := i) (by simp at hj; omega)
   rw [show (8 + i) / 8 = i / 8 + 1 by omega, show (8 + i) % 8 = i % 8 by omega]
   simp only [List.getD_cons_succ, val]
   rw [ih, show 8 * (8 + i) = 64 + 8 * i by omega, zNy, show (2 : Int) ^ 64 = 18446744073709551616 from rfl, Int.add_mul_ediv_left _ _ (by omega), show x / 18446744073709551616 = 0 by omega, Int.zero_add]
theorem zOw {a : List Int} (h : W4 a) {j : Nat} (hj : j < 32) : a.getD (j / 8) 0 / 2 ^ (j % 8 * 8) % 256 = zCg a j := by
 unfold zCg
 rw [zKT h.1]
 exact zIE h.dig (by rw [h.1]; omega)
theorem zJm {a : List Int} (h : W4 a) {j : Nat} (hj : j < 32) : IntKind.wrap .u8 (ishr .u64 (a.getD (j / 8) 0) ((j % 8 * 8 : Nat) : Int)) = zCg a j := by
 rw [wu8, zDv .u64 _ _ (by simp [IntKind.bits]; omega), zOw h hj]
theorem zCr {n : Nat} {a : List Int} (ha : W4 a) : ∀ (r i fuel : Nat), i + r = 32 → r + 1 ≤ fuel → Fbg.l3.g (fun a0 => a0) n fuel (i : Int) ((List.range i).map fun j => zCg a (31 - j)) a = some (yP a)
 | 0, i, fuel + 1, hi, hf => by
  have : i = 32 := by omega
  subst this
  rfl
 | r + 1, i, fuel + 1, hi, hf => by
  have h1 : (decide ((i : Int) < 32)) = true := by simp; omega
  have w1 : IntKind.wrap .i64 ((i : Int) + 1) = ((i + 1 : Nat) : Int) := by rw [zAT]; omega
  have w2 : IntKind.wrap .i64 (31 - (i : Int)) = ((31 - i : Nat) : Int) := by rw [zAT]; omega
  have w3 : IntKind.wrap .i64 (Int.tdiv ((31 - i : Nat) : Int) 8) = (((31 - i) / 8 : Nat) : Int) := by rw [zAp (by omega), zAT]; omega
  have w4 : IntKind.wrap .u64 (IntKind.wrap .i64 (Int.tmod ((31 - i : Nat) : Int) 8 * 8)) = (((31 - i) % 8 * 8 : Nat) : Int) := by rw [zAo (by omega), zAT, zGF]; omega
  have g1 : (0 : Int) ≤ (((31 - i) / 8 : Nat) : Int) := by omega
  have g2 : (((31 - i) / 8 : Nat) : Int) < 4 := by omega
  have g3 : (0 : Int) ≤ (((31 - i) % 8 * 8 : Nat) : Int) := by omega
  have g4 : (((List.range i).map fun j => zCg a (31 - j)).length + 1) * 1 ≤ 70368744177664 ∧ ((List.range i).map fun j => zCg a (31 - j)).length + 1 ≤ 9223372036854775807 := by simp; omega
  show Fbg.l3.r _ _ _ _ _ _ = _
  simp only [Fbg.l3.r, h1, w1, w2, w3, w4, g1, g2, g3, if_true, Int.toNat_natCast]
  rw [if_pos g4, zJm ha (by omega)]
  have := zCr (n := n) ha r (i + 1) fuel (by omega) (by omega)
  rw [List.range_succ, List.map_append] at this
  exact this
theorem zDS {n : Nat} (hn : 100 ≤ n) {a : List Int} (ha : W4 a) : Fbg.m n a = some (yP a) := by
 have := zCr (n := n) ha 32 0 n (by omega) (by omega)
 simp only [Fbg.m, Fbg.g, Fbg.l3.m]
 rw [show ((0 : Nat) : Int) = 0 from rfl] at this
 simp only [List.range_zero, List.map_nil] at this
 rw [this]
 rfl
end Go.Abs.Pure
set_option maxRecDepth 20000
namespace Go.Abs.Pure
open Go Go.Abs
theorem zHd {a b : List Int} (hl : a.length = b.length) (h : ∀ j, j < a.length → a.getD j 0 = b.getD j 0) : a = b := by
 apply List.ext_getElem hl
 intro j h1 h2
 have := h j h1
 simpa [List.getD_eq_getElem?_getD, h1, h2] using this
theorem zGM {l : List Int} {i : Nat} {d : Int} (h : i < l.length) : (l.set i d).getD i 0 = d := by simp [List.getD_eq_getElem?_getD, h]
theorem z3 (a : List Int) : (yP a).length = 32 := by simp [yP]
theorem zCM (a : List Int) {j : Nat} (h : j < 32) : (yP a).getD j 0 = zCg a (31 - j) := by simp [yP, List.getD_eq_getElem?_getD, h]
theorem zCa {n : Nat} {a : List Int} (ha : W4 a) : ∀ (r i fuel : Nat) (o : List Int), i + r = 32 → r + 1 ≤ fuel → o.length = 32 → (∀ j, 32 - i ≤ j → j < 32 → o.getD j 0 = zCg a (31 - j)) → Fat.l3.g (fun a0 => a0) n fuel (i : Int) o a = some (yP a)
 | 0, i, fuel + 1, o, hi, hf, hl, hv => by
  have : i = 32 := by omega
  subst this
  show Fat.l3.r _ _ _ _ _ _ = _
  simp only [Fat.l3.r, show decide (((32 : Nat) : Int) < 32) = false from rfl, Bool.false_eq_true, if_false]
  rw [zHd (hl.trans (z3 a).symm) fun j hj => by rw [zCM a (by omega)]; exact hv j (by omega) (by omega)]
 | r + 1, i, fuel + 1, o, hi, hf, hl, hv => by
  have h1 : (decide ((i : Int) < 32)) = true := by simp; omega
  have w1 : IntKind.wrap .i64 ((i : Int) + 1) = ((i + 1 : Nat) : Int) := by rw [zAT]; omega
  have w2 : IntKind.wrap .i64 (31 - (i : Int)) = ((31 - i : Nat) : Int) := by rw [zAT]; omega
  have w3 : IntKind.wrap .i64 (Int.tdiv (i : Int) 8) = ((i / 8 : Nat) : Int) := by rw [zAp (by omega), zAT]; omega
  have w4 : IntKind.wrap .i64 (Int.tmod (i : Int) 8 * 8) = ((i % 8 * 8 : Nat) : Int) := by rw [zAo (by omega), zAT]; omega
  have g1 : (0 : Int) ≤ ((i / 8 : Nat) : Int) := by omega
  have g2 : ((i / 8 : Nat) : Int) < 4 := by omega
  have g3 : (0 : Int) ≤ ((i % 8 * 8 : Nat) : Int) := by omega
  have g4 : (0 : Int) ≤ ((31 - i : Nat) : Int) := by omega
  have g5 : ((31 - i : Nat) : Int) < ((o.length : Nat) : Int) := by omega
  show Fat.l3.r _ _ _ _ _ _ = _
  simp only [Fat.l3.r, h1, w1, w2, w3, w4, g1, g2, g3, g4, g5, if_true, Int.toNat_natCast]
  rw [zJm ha (by omega)]
  refine zCa (n := n) ha r (i + 1) fuel _ (by omega) (by omega) (by simpa using hl) fun j h2 h3 => ?_
  by_cases hj : j = 31 - i
  ·subst hj
   rw [zGM (by omega)]
   congr 1
   omega
  ·rw [zMA (by omega)]
   exact hv j (by omega) h3
theorem zGH {n : Nat} (hn : 100 ≤ n) {a : List Int} (ha : W4 a) : Fat.m n a = some (yP a) := by
 have := zCa (n := n) ha 32 0 n [0, 0, 0, 0, 0, 0, 0, 0, 0, 0, 0, 0, 0, 0, 0, 0, 0, 0, 0, 0, 0, 0, 0, 0, 0, 0, 0, 0, 0, 0, 0, 0] (by omega) (by omega) rfl (fun j h1 h2 => by omega)
 simp only [Fat.m, Fat.g, Fat.l3.m]
 rw [show ((0 : Nat) : Int) = 0 from rfl] at this
 rw [this]
 rfl
def yX (b : List Int) : Nat → Int
 | 0 => 0
 | i + 1 => yX b i + b.getD (b.length - 1 - i) 0 * 2 ^ (8 * i)
theorem zLx {o : List Int} (ho : W4 o) {i : Nat} (hi : i < 32) (hv : V o < 2 ^ (8 * i)) : o.getD (i / 8) 0 < 2 ^ (i % 8 * 8) := by
 have hp : (2 : Int) ^ (8 * i) = 18446744073709551616 ^ (i / 8) * 2 ^ (i % 8 * 8) := by
  rw [show (18446744073709551616 : Int) = 2 ^ 64 from rfl, ← Int.pow_mul, ← Int.pow_add]; congr 1; omega
 have hd := ho.dig.getD (i := i / 8) (by rw [ho.1]; omega)
 rw [hp, zKT ho.1] at hv
 have key : ∀ {l : List Int}, Dig 18446744073709551616 l → ∀ k, l.getD k 0 * 18446744073709551616 ^ k ≤ val 18446744073709551616 l := by
  intro l
  induction l with
  | nil => intro _ k; simp [val]
  | cons x r ih =>
   intro h k
   have hx := h x (by simp)
   have hr : Dig 18446744073709551616 r := fun y hy => h y (by simp [hy])
   have hb := zGR (b := 18446744073709551616) (by omega) hr
   cases k with
   | zero => simp only [List.getD_cons_zero, val, Int.pow_zero, Int.mul_one]; omega
   | succ k =>
    have := ih hr k
    simp only [List.getD_cons_succ, val, Int.pow_succ]
    rw [← Int.mul_assoc]
    generalize r.getD k 0 * 18446744073709551616 ^ k = t at *
    omega
 have := key ho.dig (i / 8)
 have p := Int.pow_pos (n := 18446744073709551616) (m := i / 8) (by omega)
 generalize o.getD (i / 8) 0 = d at *
 generalize (18446744073709551616 : Int) ^ (i / 8) = q at *
 exact Int.lt_of_mul_lt_mul_left (a := q) (by rw [Int.mul_comm]; omega) (Int.le_of_lt p)
theorem zMd {o : List Int} (ho : W4 o) {i : Nat} (hi : i < 32) (hv : V o < 2 ^ (8 * i)) {x : Int} (hx : 0 ≤ x ∧ x < 256) :
  W4 (o.set (i / 8) (ibits .or .u64 (o.getD (i / 8) 0) (ishl .u64 x ((i % 8 * 8 : Nat) : Int)))) ∧ V (o.set (i / 8) (ibits .or .u64 (o.getD (i / 8) 0) (ishl .u64 x ((i % 8 * 8 : Nat) : Int)))) = V o + x * 2 ^ (8 * i) := by
 have hl := ho.1
 have hd := ho.dig.getD (i := i / 8) (by omega)
 have hlow := zLx ho hi hv
 have p := yR (i % 8 * 8)
 have hs : x * 2 ^ (i % 8 * 8) < 18446744073709551616 := by
  have h1 := Int.mul_lt_mul_of_pos_right hx.2 p
  have h2 := zAX (show 8 + i % 8 * 8 ≤ 64 by omega)
  rw [Int.pow_add, show (2 : Int) ^ 8 = 256 from rfl, show (2 : Int) ^ 64 = 18446744073709551616 from rfl] at h2
  omega
 have hn := Int.mul_nonneg hx.1 (Int.le_of_lt p)
 rw [zGi .u64 x _ (by simp [IntKind.bits]; omega), zGF, Int.emod_eq_of_lt hn hs]
 have hr := (zHX hd.1 hd.2 hn hs).1
 rw [zLf (by omega) ⟨hx.1, hs⟩ ⟨hd.1, hlow⟩] at hr ⊢
 have hw : W4 (o.set (i / 8) (x * 2 ^ (i % 8 * 8) + o.getD (i / 8) 0)) := ⟨by simp [hl], ho.dig.set hr⟩
 refine ⟨hw, ?_⟩
 rw [zKT hw.1, zKT hl, zKv (by omega)]
 have : (2 : Int) ^ (8 * i) = 2 ^ (i % 8 * 8) * 18446744073709551616 ^ (i / 8) := by
  rw [show (18446744073709551616 : Int) = 2 ^ 64 from rfl, ← Int.pow_mul, ← Int.pow_add]; congr 1; omega
 rw [this]
 generalize o.getD (i / 8) 0 = u
 generalize (2 : Int) ^ (i % 8 * 8) = p1
 generalize (18446744073709551616 : Int) ^ (i / 8) = p2
 grind
theorem kT {b : List Int} (hb : ∀ x ∈ b, 0 ≤ x ∧ x < 256) : ∀ i, 0 ≤ yX b i ∧ yX b i < 2 ^ (8 * i)
 | 0 => by simp [yX]
 | i + 1 => by
  have ih := kT hb i
  have hx : 0 ≤ b.getD (b.length - 1 - i) 0 ∧ b.getD (b.length - 1 - i) 0 < 256 := by
   rw [List.getD_eq_getElem?_getD]
   cases h : b[b.length - 1 - i]? with
   | none => simp
   | some x => exact hb x (List.mem_of_getElem? h)
  simp only [yX]
  have p := yR (8 * i)
  have h1 := Int.mul_nonneg hx.1 (Int.le_of_lt p)
  have h2 := Int.mul_le_mul_of_nonneg_right (show b.getD (b.length - 1 - i) 0 ≤ 255 by omega) (Int.le_of_lt p)
  rw [show 8 * (i + 1) = 8 * i + 8 by omega, Int.pow_add, show (2 : Int) ^ 8 = 256 from rfl]
  omega
theorem zHz {b : List Int} (hb : ∀ x ∈ b, 0 ≤ x ∧ x < 256) (i : Nat) : 0 ≤ b.getD i 0 ∧ b.getD i 0 < 256 := by
 rw [List.getD_eq_getElem?_getD]
 cases h : b[i]? with
 | none => simp
 | some x => exact hb x (List.mem_of_getElem? h)
end Go.Abs.Pure
set_option maxRecDepth 20000
namespace Go.Abs.Pure
open Go Go.Abs
def zJN (b : List Int) : Prop := b.length ≤ 100000
def rd (b : List Int) : Nat := if b.length ≤ 32 then b.length else 32
theorem rd_le (b : List Int) : rd b ≤ 32 ∧ rd b ≤ b.length ∧ (rd b = 32 ∨ rd b = b.length) := by unfold rd; split <;> omega
theorem zNM (i : Nat) (h : i < 32) : IntKind.wrap .i64 ((i : Int) + 1) = ((i + 1 : Nat) : Int) := by rw [zAT]; omega
theorem zOu (i : Nat) (h : i < 32) : IntKind.wrap .i64 (Int.tdiv (i : Int) 8) = ((i / 8 : Nat) : Int) := by rw [zAp (by omega), zAT]; omega
theorem zNN (i : Nat) (h : i < 32) : IntKind.wrap .i64 (Int.tmod (i : Int) 8 * 8) = ((i % 8 * 8 : Nat) : Int) := by rw [zAo (by omega), zAT]; omega
theorem zNu (L i : Nat) (h : L ≤ 100000) (hi : i < L) : IntKind.wrap .i64 (IntKind.wrap .i64 (((L : Nat) : Int) - 1) - (i : Int)) = ((L - 1 - i : Nat) : Int) := by
 rw [zHH (n := ((L : Nat) : Int) - 1) (by omega) (by omega)]
 rw [zHH (by omega) (by omega)]
 omega
end Go.Abs.Pure
set_option maxRecDepth 20000
namespace Go.Abs.Pure
open Go Go.Abs
theorem zCk {n : Nat} {b : List Int} (hb : ∀ x ∈ b, 0 ≤ x ∧ x < 256) (hlen : b.length ≤ 32) (z : List Int) : ∀ (r i fuel : Nat) (o : List Int), i + r = b.length → r + 1 ≤ fuel → W4 o → V o = yX b i →
  Fbd.l4.g (fun a0 a1 => (a0, a1)) n fuel (i : Int) ((b.length : Nat) : Int) b o z = some (ofV (yX b b.length), z)
 | 0, i, fuel + 1, o, hi, hf, ho, hv => by
  have he : i = b.length := by omega
  show Fbd.l4.r _ _ _ _ _ _ _ _ = _
  have fin : o = ofV (yX b b.length) := by rw [← he, ← hv, zNU ho]
  have h2 : (decide ((i : Int) < ((b.length : Nat) : Int))) = false := by simp; omega
  simp only [Fbd.l4.r, h2, Bool.false_eq_true, if_false]
  rw [← fin]
 | r + 1, i, fuel + 1, o, hi, hf, ho, hv => by
  have h2 : (decide ((i : Int) < ((b.length : Nat) : Int))) = true := by simp; omega
  have hib : i < b.length := by omega
  have h32 : i < 32 := by omega
  have w1 := zNM i h32
  have w2 := zNu b.length i (by omega) hib
  have w3 := zOu i h32
  have w4 := zNN i h32
  have g1 : (0 : Int) ≤ ((i / 8 : Nat) : Int) := by omega
  have g2 : ((i / 8 : Nat) : Int) < 4 := by omega
  have g3 : (0 : Int) ≤ ((i % 8 * 8 : Nat) : Int) := by omega
  have g4 : (0 : Int) ≤ ((b.length - 1 - i : Nat) : Int) := by omega
  have g5 : ((b.length - 1 - i : Nat) : Int) < ((b.length : Nat) : Int) := by omega
  have hx := zHz hb (b.length - 1 - i)
  show Fbd.l4.r _ _ _ _ _ _ _ _ = _
  simp only [Fbd.l4.r, h2, w1, w2, w3, w4, g1, g2, g3, g4, g5, if_true, Int.toNat_natCast]
  rw [zNj hx.1 (by omega)]
  obtain ⟨k1, k2⟩ := zMd ho (i := i) (by omega) (by rw [hv]; exact (kT hb i).2) hx
  exact zCk hb hlen z r (i + 1) fuel _ (by omega) (by omega) k1 (by rw [k2, hv]; rfl)
theorem zFz {n : Nat} (hn : 100 ≤ n) {b : List Int} (hb : ∀ x ∈ b, 0 ≤ x ∧ x < 256) (hlen : b.length ≤ 32) : Fbd.l4.m n n (0, ((b.length : Nat) : Int), b, [0, 0, 0, 0], [0, 0, 0, 0]) = some (ofV (yX b b.length), [0, 0, 0, 0]) := by
 have := zCk (n := n) hb hlen [0, 0, 0, 0] b.length 0 n [0, 0, 0, 0] (by omega) (by omega) zNi rfl
 simp only [Fbd.l4.m]
 rw [show ((0 : Nat) : Int) = 0 from rfl] at this
 exact this
theorem zFZ {b : List Int} {k : Nat} : ∀ {i : Nat}, i ≤ b.length - k → yX (b.drop k) i = yX b i
 | 0, _ => rfl
 | i + 1, h => by
  simp only [yX]
  rw [zFZ (by omega)]
  have : (b.drop k).getD ((b.drop k).length - 1 - i) 0 = b.getD (b.length - 1 - i) 0 := by
   simp only [List.getD_eq_getElem?_getD, List.getElem?_drop, List.length_drop]
   congr 2
   omega
  rw [this]
theorem zDF {n : Nat} (hn : 100 ≤ n) {b : List Int} (hb : ∀ x ∈ b, 0 ≤ x ∧ x < 256) (hlen : zJN b) : Fbd.m n b = some (ofV (yX b (rd b))) := by
 have hr := rd_le b
 unfold zJN at hlen
 have e : (if 0 > IntKind.wrap .i64 (((b.length : Nat) : Int) - 32) then (0 : Int) else IntKind.wrap .i64 (((b.length : Nat) : Int) - 32)) = ((b.length - rd b : Nat) : Int) := by
  rw [zHH (by omega) (by omega)]
  unfold rd
  split <;> split <;> omega
 have hd : (b.drop (b.length - rd b)).length = rd b := by simp; omega
 have hb' : ∀ x ∈ b.drop (b.length - rd b), 0 ≤ x ∧ x < 256 := fun x hx => hb x (List.mem_of_mem_drop hx)
 simp only [Fbd.m, Fbd.g, e]
 rw [if_pos (by omega), if_pos (by omega)]
 simp only [Int.toNat_natCast, cut]
 rw [zFz hn hb' (by omega), hd, zFZ (by omega)]
 rfl
theorem zHF {n : Nat} (hn : 100 ≤ n) {x : List Int} (hl : x.length = 20) (hb : ∀ y ∈ x, 0 ≤ y ∧ y < 256) : Fbf.m n x = some (ofV (yX x 20)) := by
 have e : List.take 20 (List.drop 0 x) = x := by rw [List.drop_zero, List.take_of_length_le (by omega)]
 simp only [Fbf.m, Fbf.g, e, zDF hn hb (by unfold zJN; omega), zD, Option.bind_some]
 rw [show rd x = 20 by unfold rd; rw [if_pos (by omega)]; exact hl]
def zHC (a : List Int) : List Int := (yP a).drop 12
theorem zHG {n : Nat} (hn : 100 ≤ n) {a : List Int} (ha : W4 a) : Fbe.m n a = some (zHC a) := by
 have hl := z3 a
 simp only [Fbe.m, Fbe.g, zGH hn ha, zD, Option.bind_some, hl, span]
 rw [if_pos (by omega), if_pos (by omega)]
 rw [List.take_of_length_le (by simp [hl])]
 rfl
theorem zLw (v p q : Int) (hp : 0 < p) (hq : 0 < q) : v % (p * q) = v % p + v / p % q * p := by
 have h1 := Int.mul_ediv_add_emod v p
 have h2 := Int.mul_ediv_add_emod (v / p) q
 have a0 := Int.emod_nonneg v (Int.ne_of_gt hp)
 have a1 := Int.emod_lt_of_pos v hp
 have b0 := Int.emod_nonneg (v / p) (Int.ne_of_gt hq)
 have b1 := Int.emod_lt_of_pos (v / p) hq
 have e : v = (v % p + v / p % q * p) + (p * q) * (v / p / q) := by
  generalize v / p / q = x at *
  generalize v / p % q = y at *
  generalize v / p = z at *
  generalize v % p = w at *
  subst h2
  rw [← h1]
  grind
 have c0 := Int.mul_nonneg b0 (Int.le_of_lt hp)
 have c1 := Int.mul_le_mul_of_nonneg_right (show v / p % q ≤ q - 1 by omega) (Int.le_of_lt hp)
 have c2 : (q - 1) * p = p * q - p := by grind
 have : v % (p * q) = (v % p + v / p % q * p) % (p * q) := by
  conv => lhs; rw [e]
  exact Int.add_mul_emod_self_left _ _ _
 rw [this]
 exact Int.emod_eq_of_lt (by omega) (by omega)
theorem zKo {v : Int} (i : Nat) : v % 2 ^ (8 * (i + 1)) = v % 2 ^ (8 * i) + v / 2 ^ (8 * i) % 256 * 2 ^ (8 * i) := by
 rw [show 8 * (i + 1) = 8 * i + 8 by omega, Int.pow_add, zLw _ _ _ (yR _) (by decide)]
 rfl
theorem zDR {a : List Int} : ∀ {i : Nat}, i ≤ 32 → yX (yP a) i = V a % 2 ^ (8 * i)
 | 0, _ => by simp [yX]
 | i + 1, h => by
  simp only [yX]
  rw [zDR (by omega), z3, zCM a (by omega), zKo, show 31 - (32 - 1 - i) = i by omega]
  rfl
theorem zJX {a : List Int} (ha : W4 a) : ofV (yX (yP a) (rd (yP a))) = a := by
 rw [show rd (yP a) = 32 by unfold rd; rw [z3]; rfl, zDR (Nat.le_refl _)]
 have hr := zFM ha
 rw [Int.emod_eq_of_lt hr.1 (by have := hr.2; rwa [show (2 : Int) ^ (8 * 32) = B from rfl]), zNU ha]
theorem zFm {b : List Int} (hb : ∀ x ∈ b, 0 ≤ x ∧ x < 256) : ∀ {i j : Nat}, j < i → yX b i / 2 ^ (8 * j) % 256 = b.getD (b.length - 1 - j) 0
 | 0, _, h => by omega
 | i + 1, j, h => by
  simp only [yX]
  have hx := zHz hb (b.length - 1 - i)
  by_cases e : j = i
  ·subst e
   rw [Int.add_mul_ediv_right _ _ (Int.ne_of_gt (yR _)), Int.ediv_eq_zero_of_lt (kT hb j).1 (kT hb j).2, Int.zero_add, Int.emod_eq_of_lt hx.1 hx.2]
  ·rw [zBp (show 8 * j ≤ 8 * i by omega), ← Int.mul_assoc, Int.mul_right_comm, Int.add_mul_ediv_right _ _ (Int.ne_of_gt (yR _)), zBp (show 8 ≤ 8 * i - 8 * j by omega), show (2 : Int) ^ 8 = 256 from rfl]
   rw [← Int.mul_assoc, Int.mul_right_comm, Int.add_mul_emod_self_right]
   exact zFm hb (by omega)
theorem zFh {x : List Int} (hl : x.length = 20) (hb : ∀ y ∈ x, 0 ≤ y ∧ y < 256) : zHC (ofV (yX x 20)) = x := by
 apply zHd
 ·simp [zHC, z3, hl]
 ·intro j hj
  have hj' : j < 20 := by simpa [zHC, z3] using hj
  have e : (zHC (ofV (yX x 20))).getD j 0 = zCg (ofV (yX x 20)) (19 - j) := by
   have := zCM (ofV (yX x 20)) (j := 12 + j) (by omega)
   rw [show 31 - (12 + j) = 19 - j by omega] at this
   rw [← this]
   simp [zHC, List.getD_eq_getElem?_getD, List.getElem?_drop]
  have hbd := kT hb 20
  have hlt : yX x 20 < B := by
   have : (2 : Int) ^ (8 * 20) ≤ B := zAX (show 8 * 20 ≤ 256 by omega)
   omega
  rw [e]
  unfold zCg
  rw [zOb, Int.emod_eq_of_lt hbd.1 hlt, zFm hb (by omega), hl]
  congr 1
  omega
end Go.Abs.Pure
end
section
namespace Go.Abs.Pure
open Go Go.Abs
def Adr (a : List Int) : Prop := a.length = 20 ∧ ∀ y ∈ a, 0 ≤ y ∧ y < 256
def zY : List Int := [0, 0, 0, 0, 113, 114, 125, 226, 46, 94, 157, 139, 175, 14, 218, 198, 243, 125, 160, 50]
def hiV (a : List Int) : List Int := ofV (V (ofV (yX a 20)) * 2 ^ 96)
def qC (a : List Int) (w k : Int) : List Int := List.set (List.set (hiV a) 0 k) 1 (ibits .or .u64 (List.getD (hiV a) 1 0) w)
theorem far96 : zKl [96, 0, 0, 0] = 96 := by decide
theorem wQ {n : Nat} (hn : 600 ≤ n) {a : List Int} (ha : Adr a) (w k : Int) : Fbi.m n (a, w, k) = some (qC a w k) := by
 show zD (Fbf.m n a) (fun r4 => zD (Fbw.m n ([96, 0, 0, 0], r4)) fun r6 => some (List.set (List.set r6 0 k) 1 (ibits .or .u64 (List.getD r6 1 0) w))) = _
 refine bO (zHF (by omega) ha.1 ha.2) (bO (zIz hn (k := [96, 0, 0, 0]) (.mk (by omega) (by omega) (by omega) (by omega)) (zHY _)) ?_)
 rw [far96]
 rfl
theorem zLh (n : Nat) (k : Int) : Fao.m (n + 100) ([k, 0, 0, 0], 64) = some true := by kernel_rfl
theorem zCY {n : Nat} (hn : 600 ≤ n) (k : Int) : Fao.m n ([k, 0, 0, 0], 64) = some true := by
 obtain ⟨m, rfl⟩ : ∃ m, n = m + 100 := ⟨n - 100, by omega⟩
 exact zLh m k
theorem or3 (x w : Int) (h0 : 0 ≤ x) (h1 : x < 4294967296) (hw : 0 ≤ w ∧ w < 4) : ibits .or .u64 (x * 4294967296) w = x * 4294967296 + w := by
 have := zDV (x := x) (y := w) (s := 32) (by omega) ⟨h0, by omega⟩ (by omega)
 simpa using this
theorem zGW {a : List Int} (ha : Adr a) {w : Int} (hw : 0 ≤ w ∧ w < 4) (k : Int) : qC a w k = [k, yX a 20 % 4294967296 * 4294967296 + w, yX a 20 * 79228162514264337593543950336 / 340282366920938463463374607431768211456 % 18446744073709551616, yX a 20 * 79228162514264337593543950336 / 6277101735386680763835789423207666416102355444464034512896 % 18446744073709551616] := by
 have ra := kT (b := a) ha.2 20
 unfold qC hiV
 generalize yX a 20 = A at *
 have eA : V (ofV A) = A := by rw [zOb]; simp only [B]; omega
 rw [eA]
 have q : List.set (List.set (ofV (A * 2 ^ 96)) 0 k) 1 (ibits .or .u64 (List.getD (ofV (A * 2 ^ 96)) 1 0) w) = [k, ibits .or .u64 (A * 79228162514264337593543950336 / 18446744073709551616 % 18446744073709551616) w, A * 79228162514264337593543950336 / 340282366920938463463374607431768211456 % 18446744073709551616, A * 79228162514264337593543950336 / 6277101735386680763835789423207666416102355444464034512896 % 18446744073709551616] := by simp [ofV]
 rw [q, show A * 79228162514264337593543950336 / 18446744073709551616 % 18446744073709551616 = A % 4294967296 * 4294967296 by omega, or3 _ _ (by omega) (by omega) hw]
theorem zLZ {a b : List Int} (ha : Adr a) (hb : Adr b) {w w' k k' : Int} (hw : 0 ≤ w ∧ w < 4) (hw' : 0 ≤ w' ∧ w' < 4) (h : qC a w k = qC b w' k') : a = b ∧ w = w' ∧ k = k' := by
 have ra := kT (b := a) ha.2 20
 have rb := kT (b := b) hb.2 20
 rw [zGW ha hw, zGW hb hw'] at h
 rw [← zFh ha.1 ha.2, ← zFh hb.1 hb.2]
 generalize yX a 20 = A at *
 generalize yX b 20 = C at *
 simp only [List.cons.injEq, and_true] at h
 obtain ⟨h0, h1, h2, h3⟩ := h
 exact ⟨by rw [show A = C by omega], by omega, h0⟩
end Go.Abs.Pure
end
section
namespace Go.Abs.Pure
open Go Go.Abs
section
variable {κ ν : Type} [DecidableEq κ] (d : ν)
def zBD : List (κ × ν) → κ → ν
 | [], _ => d
 | e :: l, s => if s = e.1 then e.2 else zBD l s
def kD : List (κ × ν) → κ → ν → List (κ × ν)
 | [], s, v => [(s, v)]
 | e :: l, s, v => if s = e.1 then (s, v) :: l else e :: kD l s v
theorem j6 (s : κ) (v : ν) (t : κ) : ∀ l : List (κ × ν), zBD d (kD l s v) t = if t = s then v else zBD d l t
 | [] => by simp [zBD, kD]
 | e :: l => by
  simp only [kD]
  split
  ·rename_i h
   simp only [zBD, h]
   split <;> rfl
  ·rename_i h
   simp only [zBD, j6 s v t l]
   by_cases h1 : t = e.1
   ·rw [if_pos h1, if_neg (fun h2 => h (h2.symm.trans h1)), if_pos h1]
   ·rw [if_neg h1, if_neg h1]
def AL (K : κ → AV) (F : ν → AV) (l : List (κ × ν)) : List AV := l.map fun e => .agg [K e.1, F e.2]
theorem zIj {K : κ → AV} (F : ν → AV) (hK : ∀ s t, qT (K s) (K t) = some (decide (s = t))) (s : κ) : ∀ l : List (κ × ν), (∃ i, qH (K s) (AL K F l) = some (some i) ∧ zIF ((AL K F l).getD i .any) = F (zBD d l s) ∧ ∀ v, (AL K F l).set i (.agg [K s, F v]) = AL K F (kD l s v)) ∨
  (qH (K s) (AL K F l) = some none ∧ zBD d l s = d ∧ ∀ v, AL K F l ++ [.agg [K s, F v]] = AL K F (kD l s v))
 | [] => .inr ⟨rfl, rfl, fun _ => rfl⟩
 | e :: l => by
  by_cases h : s = e.1
  ·refine .inl ⟨0, ?_, ?_, fun v => ?_⟩
   ·simp [AL, qH, hK, h]
   ·simp [AL, zBD, h, zIF]
   ·simp [AL, kD, h]
  ·rcases zIj F hK s l with ⟨i, h1, h2, h3⟩ | ⟨h1, h2, h3⟩
   ·refine .inl ⟨i + 1, ?_, ?_, fun v => ?_⟩
    ·simp only [AL, List.map_cons, qH, hK, h, decide_false] at h1 ⊢
     rw [h1]
    ·simp only [zBD, if_neg h, ← h2, AL, List.map_cons, List.getD_cons_succ]
    ·have := h3 v
     simp only [AL, List.map_cons, List.set_cons_succ, kD, if_neg h] at this ⊢
     rw [this]
   ·refine .inr ⟨?_, ?_, fun v => ?_⟩
    ·simp only [AL, List.map_cons, qH, hK, h, decide_false] at h1 ⊢
     rw [h1]
    ·simp only [zBD, if_neg h, h2]
    ·have := h3 v
     simp only [AL, List.map_cons, List.cons_append, kD, if_neg h] at this ⊢
     rw [this]
theorem zEb {K : κ → AV} {F : ν → AV} (hK : ∀ s t, qT (K s) (K t) = some (decide (s = t))) (s : κ) (l : List (κ × ν)) : ∃ h, mgetL (K s) (F d) (AL K F l) = some (F (zBD d l s), h) := by
 unfold mgetL
 rcases zIj d F hK s l with ⟨i, h1, h2, h3⟩ | ⟨h1, h2, h3⟩ <;> rw [h1]
 ·exact ⟨true, by rw [← h2]⟩
 ·exact ⟨false, by rw [h2]⟩
theorem zDZ {K : κ → AV} {F : ν → AV} (hK : ∀ s t, qT (K s) (K t) = some (decide (s = t))) (s : κ) (v : ν) (l : List (κ × ν)) : mputL (K s) (F v) (AL K F l) = some (AL K F (kD l s v)) := by
 unfold mputL
 rcases zIj v F hK s l with ⟨i, h1, h2, h3⟩ | ⟨h1, h2, h3⟩ <;> rw [h1]
 ·exact congrArg some (h3 v)
 ·exact congrArg some (h3 v)
end
abbrev w1 (a : Int) : List Int := [a, 0, 0, 0]
theorem add_x {a b c : Int} (ha : 0 ≤ a) (hb : 0 ≤ b) (hc : 0 ≤ c ∧ c ≤ 1) (h : a + b + c < 18446744073709551616) : zBF (a, b, c) = some (a + b + c, 0) := by
 unfold zBF
 rw [if_pos ha, if_pos hb, if_pos hc.1, if_pos hc.2, show (a + b + c) % 18446744073709551616 = a + b + c by omega, show (a + b + c) / 18446744073709551616 = 0 by omega]
theorem sub_x {a b c : Int} (ha : 0 ≤ a ∧ a < 18446744073709551616) (hb : 0 ≤ b ∧ b < 18446744073709551616) (hc : 0 ≤ c ∧ c ≤ 1) : zBE (a, b, c) = some ((a - b - c) % 18446744073709551616, if a < b + c then 1 else 0) := by
 unfold zBE
 rw [if_pos ha.1, if_pos hb.1, if_pos hb.2, if_pos hc.1, if_pos hc.2]
theorem add1 {n : Nat} (hn : 100 ≤ n) {a b : Int} (ha : 0 ≤ a) (hb : 0 ≤ b) (h : a + b < 18446744073709551616) : Fca.m n (w1 a, w1 b) = some (w1 (a + b), false) := by
 obtain ⟨k, rfl⟩ : ∃ k, n = k + 5 := ⟨n - 5, by omega⟩
 have : Fca.l4.m (k + 5) (k + 5) (0, 0, w1 a, w1 b, [0, 0, 0, 0], [0, 0, 0, 0]) = zD (zBF (a, b, 0)) fun r => zD (zBF (0, 0, r.2)) fun s => zD (zBF (0, 0, s.2)) fun t => zD (zBF (0, 0, t.2)) fun u => some (u.2, [r.1, s.1, t.1, u.1], [0, 0, 0, 0]) := by kernel_rfl
 refine bO (a := (0, w1 (a + b), [0, 0, 0, 0])) ?_ rfl
 rw [this, add_x ha hb (by omega) (by omega), Int.add_zero]
 rfl
theorem sub1 {n : Nat} (hn : 100 ≤ n) {a b : Int} (ha : 0 ≤ a ∧ a < 18446744073709551616) (hb : 0 ≤ b ∧ b < 18446744073709551616) : ∃ w, Fcb.m n (w1 a, w1 b) = some (w, decide (a < b)) ∧ (b ≤ a → w = w1 (a - b)) := by
 obtain ⟨k, rfl⟩ : ∃ k, n = k + 5 := ⟨n - 5, by omega⟩
 have : Fcb.l4.m (k + 5) (k + 5) (0, 0, w1 a, w1 b, [0, 0, 0, 0], [0, 0, 0, 0]) = zD (zBE (a, b, 0)) fun r => zD (zBE (0, 0, r.2)) fun s => zD (zBE (0, 0, s.2)) fun t => zD (zBE (0, 0, t.2)) fun u => some (u.2, [r.1, s.1, t.1, u.1], [0, 0, 0, 0]) := by kernel_rfl
 rw [sub_x ha hb (by omega)] at this
 by_cases h : a < b
 ·rw [if_pos (by omega)] at this
  refine ⟨_, by rw [show decide (a < b) = true by simpa using h]; exact bO (this.trans rfl) rfl, fun h' => by omega⟩
 ·rw [if_neg (by omega), show (a - b - 0) % 18446744073709551616 = a - b by omega] at this
  exact ⟨_, by rw [show decide (a < b) = false by simpa using h]; exact bO (this.trans rfl) rfl, fun _ => rfl⟩
theorem zNV {n : Nat} (hn : 100 ≤ n) {a b : Int} (ha : 0 ≤ a ∧ a < 18446744073709551616) (hb : 0 ≤ b) (h : b ≤ a) : Fbz.m n (w1 a, w1 b) = some (w1 (a - b), true) := by
 obtain ⟨k, rfl⟩ : ∃ k, n = k + 5 := ⟨n - 5, by omega⟩
 have e : IntKind.wrap .u64 (a - b) = a - b := by rw [zGF]; omega
 have : ∀ c, (decide (a < b)) = false → IntKind.wrap .u64 (a - b) = c → (decide (c < 0)) = false → IntKind.wrap .u64 (c - 0) = c → Fbz.m (k + 5) (w1 a, w1 b) = some (w1 c, true) := fun c h1 h2 h3 h4 => by
  unfold Fbz.m Fbz.g Fbz.l4.m
  refine bO (a := (0, w1 c, [0, 0, 0, 0])) ?_ rfl
  show Fbz.l4.g _ _ (k + 5) 0 0 (w1 a) (w1 b) [0, 0, 0, 0] [0, 0, 0, 0] = _
  unfold Fbz.l4.g Fbz.l4.r
  refine iT rfl (iT (by decide) (iT (by decide) (iT (by decide) (iT (by decide) (iT (by decide) (iT (by decide) (iT (by decide) (iT (by decide) (iF ?_ (iF ?_ (iT (by decide) (iT (by decide) ?_))))))))))))
  ·show ¬ decide (a < b) = true
   rw [h1]; exact Bool.false_ne_true
  ·show ¬ decide (IntKind.wrap .u64 (a - b) < 0) = true
   rw [h2, h3]; exact Bool.false_ne_true
  ·show Fbz.l4.g _ _ (k + 4) 1 0 (w1 a) (w1 b) [IntKind.wrap .u64 (IntKind.wrap .u64 (a - b) - 0), 0, 0, 0] [0, 0, 0, 0] = _
   rw [h2, h4]
   kernel_rfl
 exact this (a - b) (by simp; omega) e (by simp; omega) (by rw [Int.sub_zero, e])
theorem zGh {c : Int} (h : 0 ≤ c ∧ c < 4294967296) : ibits .or .u64 (ishr .u64 c 32) 0 = 0 := by
 have : ishr .u64 c 32 = 0 := by
  have := zDv .u64 c 32 (by decide)
  rw [show (32 : Int) = ((32 : Nat) : Int) from rfl, this]
  omega
 rw [this]; decide
theorem zLi {n : Nat} (hn : 100 ≤ n) {a b c : Int} (h : 0 ≤ c ∧ c < 4294967296) : Fao.m n ([a, b, c, 0], 160) = some true := by
 obtain ⟨k, rfl⟩ : ∃ k, n = k + 100 := ⟨n - 100, by omega⟩
 have : Fao.m (k + 100) ([a, b, c, 0], 160) = some ([ibits .or .u64 (ishr .u64 c 32) 0, 0, 0, 0] == [0, 0, 0, 0]) := by kernel_rfl
 rw [this, zGh h]
 rfl
theorem zMm {n : Nat} (hn : 100 ≤ n) {c : Int} (h : 0 ≤ c ∧ c < 4294967296) : Fao.m n (w1 c, 32) = some true := by
 obtain ⟨k, rfl⟩ : ∃ k, n = k + 100 := ⟨n - 100, by omega⟩
 have : Fao.m (k + 100) (w1 c, 32) = some ([ibits .or .u64 (ishr .u64 c 32) 0, 0, 0, 0] == [0, 0, 0, 0]) := by kernel_rfl
 rw [this, zGh h]
 rfl
end Go.Abs.Pure
end
section
namespace Go.Abs.Pure
open Go Go.Abs
variable {n : Nat}
theorem qU : Fbj.m n () = some zY := rfl
def PK (s : List Int) : AV := .agg [.ints .u8 20 zY, .ints .u64 4 s]
def Fq (v : List Int) : AV := .ints .u64 4 v
def Ka (a : List Int) : AV := .ints .u8 20 a
def Fa (x : Int × List Int × ByteArray) : AV := .agg [.int .u64 x.1, .ints .u64 4 x.2.1, .str x.2.2]
def a0 : Int × List Int × ByteArray := (0, [0, 0, 0, 0], ByteArray.empty)
theorem hPK (s t : List Int) : qT (PK s) (PK t) = some (decide (s = t)) := by
 simp [PK, qT, k9, Bool.beq_eq_decide_eq]
theorem hKa (s t : List Int) : qT (Ka s) (Ka t) = some (decide (s = t)) := by
 simp [Ka, qT, Bool.beq_eq_decide_eq]
abbrev Sl := List (List Int × List Int)
abbrev Ac := List (List Int × Int × List Int × ByteArray)
abbrev qL (l : Sl) : List AV := AL PK Fq l
abbrev pL (l : Ac) : List AV := AL Ka Fa l
abbrev at' (l : Sl) (s : List Int) : List Int := zBD (w1 0) l s
abbrev acc (l : Ac) (a : List Int) : Int × List Int × ByteArray := zBD a0 l a
abbrev bal (l : Ac) (a : List Int) : List Int := (acc l a).2.1
variable (r x : Int) (p o j z : List AV) (lp : Ac) (lq lo : Sl)
theorem zDL (s : List Int) : Fv.m n (zY, s, r, x, p, qL lq, o, j, z) = some (at' lq s, r, x, p, qL lq, o, j, z) := by
 obtain ⟨h, e⟩ := zEb (w1 0) (F := Fq) hPK s lq
 exact bO e rfl
theorem zAB (s v : List Int) (hj : j.length ≤ 100000) : ∃ lo' j', j'.length = j.length + 1 ∧ Fh.m n (zY, s, v, r, x, p, qL lq, qL lo, j, z) = some (r, x, p, qL (kD lq s v), qL lo', z, j') := by
 obtain ⟨h, e⟩ := zEb (w1 0) (F := Fq) hPK s lq
 obtain ⟨h', e'⟩ := zEb (w1 0) (F := Fq) hPK s lo
 have hl : (j.length + 1) * 160 ≤ 70368744177664 ∧ j.length + 1 ≤ 9223372036854775807 := by omega
 cases h' with
 | false => exact ⟨kD lo s (at' lq s), _, by simp, bO e (bO (a := at' lq s) rfl (bO e' (bO (a := at' lo s) rfl (iT rfl (bO (zDZ (F := Fq) hPK s (at' lq s) lo) (iT hl (bO (zDZ (F := Fq) hPK s v lq) rfl)))))))⟩
 | true => exact ⟨lo, _, by simp, bO e (bO (a := at' lq s) rfl (bO e' (bO (a := at' lo s) rfl (iF (by simp) (iT hl (bO (zDZ (F := Fq) hPK s v lq) rfl))))))⟩
theorem zBY (a : List Int) (q : List AV) : Fi.m n (a, r, x, pL lp, q, o, j, z) = some (bal lp a, r, x, pL lp, q, o, j, z) := by
 obtain ⟨h, e⟩ := zEb a0 (F := Fa) hKa a lp
 exact bO e rfl
def j7 (a : List Int) (c : Int × List Int × ByteArray) : AV := .agg [.int .i64 0, .agg [.ints .u8 20 a, .ints .u64 4 [0, 0, 0, 0]], .agg [.int .u64 c.1, .ints .u64 4 c.2.1, .str c.2.2], .ints .u64 4 [0, 0, 0, 0], .int .i64 0]
theorem zBf (a v : List Int) (q : List AV) (hj : j.length ≤ 100000) : Ff.m n (a, v, r, x, pL lp, q, o, j, z) = some (r, x, pL (kD lp a ((acc lp a).1, v, (acc lp a).2.2)), q, o, z, j ++ [j7 a (acc lp a)]) := by
 obtain ⟨h, e⟩ := zEb a0 (F := Fa) hKa a lp
 have hl : (j.length + 1) * 160 ≤ 70368744177664 ∧ j.length + 1 ≤ 9223372036854775807 := by omega
 refine bO e (bO (a := [.int .u64 (acc lp a).1, .ints .u64 4 (acc lp a).2.1, .str (acc lp a).2.2]) rfl (bO (a := (acc lp a).1) rfl (bO (a := (acc lp a).2.1) rfl (bO (a := (acc lp a).2.2) rfl ?_))))
 refine bO (a := (r, x, pL (kD lp a ((acc lp a).1, v, (acc lp a).2.2)), q, o, z, j ++ [j7 a (acc lp a)])) ?_ rfl
 exact bO e (bO (a := [.int .u64 (acc lp a).1, .ints .u64 4 (acc lp a).2.1, .str (acc lp a).2.2]) rfl (bO (a := (acc lp a).1) rfl (bO (a := (acc lp a).2.1) rfl (bO (a := (acc lp a).2.2) rfl (iT hl (bO (zDZ (F := Fa) hKa a ((acc lp a).1, v, (acc lp a).2.2) lp) rfl))))))
abbrev dS (a : List Int) : List Int := qC a 0 0
abbrev sS (a : List Int) : List Int := qC a 1 0
abbrev tS (a : List Int) : List Int := qC a 2 0
theorem zAO (hn : 600 ≤ n) {a : List Int} (ha : Adr a) : Fak.m n (a, r, x, p, qL lq, o, j, z) = some (at' lq (dS a), r, x, p, qL lq, o, j, z) := by
 unfold Fak.m Fak.g
 exact bO qU (bO (wQ hn ha 0 0) (bO (zDL r x p o j z lq _) rfl))
theorem zHt (hn : 600 ≤ n) {a : List Int} (ha : Adr a) {d v : Int} (hd : at' lq (dS a) = w1 d) (h0 : 0 ≤ d) (hv : 0 ≤ v) (hs : d + v < 18446744073709551616) (hj : j.length ≤ 100000) :
  ∃ lo' j', j'.length = j.length + 1 ∧ Fap.m n (a, w1 v, r, x, p, qL lq, qL lo, j, z) = some (r, x, p, qL (kD lq (dS a) (w1 (d + v))), qL lo', z, j') := by
 obtain ⟨lo', j', hl, e⟩ := zAB (n := n) r x p j z lq lo (dS a) (w1 (d + v)) hj
 refine ⟨lo', j', hl, bO (zAO r x p (qL lo) j z lq hn ha) (bO (a := (w1 (d + v), false)) ?_ (bO qU (bO (wQ hn ha 0 0) (bO e rfl))))⟩
 rw [← add1 (n := n) (by omega) h0 hv hs, ← hd]
theorem zMM (hn : 600 ≤ n) {a : List Int} (ha : Adr a) {d v : Int} (hd : at' lq (dS a) = w1 d) (h0 : 0 ≤ d ∧ d < 18446744073709551616) (hv : 0 ≤ v ∧ v < 18446744073709551616) (hj : j.length ≤ 100000) :
  if d < v then Fay.m n (a, w1 v, r, x, p, qL lq, qL lo, j, z) = some (false, r, x, p, qL lq, qL lo, z, j)
  else ∃ lo' j', j'.length = j.length + 1 ∧ Fay.m n (a, w1 v, r, x, p, qL lq, qL lo, j, z) = some (true, r, x, p, qL (kD lq (dS a) (w1 (d - v))), qL lo', z, j') := by
 obtain ⟨w, e1, e2⟩ := sub1 (n := n) (by omega) h0 hv
 rw [← hd] at e1
 split
 ·rename_i h
  rw [show decide (d < v) = true by simpa using h] at e1
  exact bO (zAO r x p (qL lo) j z lq hn ha) (bO e1 (iF (by simp) rfl))
 ·rename_i h
  rw [show decide (d < v) = false by simpa using h, e2 (by omega)] at e1
  obtain ⟨lo', j', hl, e⟩ := zAB (n := n) r x p j z lq lo (dS a) (w1 (d - v)) hj
  exact ⟨lo', j', hl, bO (zAO r x p (qL lo) j z lq hn ha) (bO e1 (iT rfl (bO qU (bO (wQ hn ha 0 0) (bO e rfl)))))⟩
theorem zDK (hn : 600 ≤ n) {a : List Int} (ha : Adr a) : Fal.m n (a, r, x, p, qL lq, o, j, z) = some (at' lq (sS a), (at' lq (tS a)).getD 1 0, (at' lq (tS a)).getD 0 0, r, x, p, qL lq, o, j, z) := by
 unfold Fal.m Fal.g
 exact bO qU (bO (wQ hn ha 2 0) (bO (zDL r x p o j z lq _) (bO qU (bO (wQ hn ha 1 0) (bO (zDL r x p o j z lq _) rfl)))))
theorem zCn (hn : 600 ≤ n) {a : List Int} (ha : Adr a) (m : List Int) (d u : Int) (hj : j.length ≤ 99999) :
  ∃ lo' j', j'.length = j.length + 2 ∧ Fah.m n (a, m, d, u, r, x, p, qL lq, qL lo, j, z) = some (r, x, p, qL (kD (kD lq (sS a) m) (tS a) [u, d, 0, 0]), qL lo', z, j') := by
 obtain ⟨lo1, j1, h1, e1⟩ := zAB (n := n) r x p j z lq lo (sS a) m (by omega)
 obtain ⟨lo2, j2, h2, e2⟩ := zAB (n := n) r x p j1 z (kD lq (sS a) m) lo1 (tS a) [u, d, 0, 0] (by omega)
 refine ⟨lo2, j2, by omega, ?_⟩
 unfold Fah.m Fah.g
 exact bO qU (bO (wQ hn ha 1 0) (bO e1 (bO qU (bO (wQ hn ha 2 0) (bO e2 rfl)))))
theorem zOf (hn : 600 ≤ n) {b : List Int} (hb : b ≠ zY) (q : List AV) {B y k : Int} (h1 : bal lp zY = w1 B) (h2 : bal lp b = w1 y) (hk : 0 ≤ k ∧ k ≤ B) (hB : B < 18446744073709551616) (hy : 0 ≤ y ∧ y + k < 18446744073709551616) (hj : j.length ≤ 99999) :
  ∃ lp' j', j'.length = j.length + 2 ∧ (∀ a, bal lp' a = if a = b then w1 (y + k) else if a = zY then w1 (B - k) else bal lp a) ∧ Fad.m n (zY, b, w1 k, r, x, pL lp, q, o, j, z) = some (true, r, x, pL lp', q, o, z, j') := by
 obtain ⟨w, e1, e2⟩ := sub1 (n := n) (a := B) (b := k) (by omega) (by omega) (by omega)
 rw [show decide (B < k) = false by simp; omega, e2 hk.2, ← h1] at e1
 let lp1 := kD lp zY ((acc lp zY).1, w1 (B - k), (acc lp zY).2.2)
 let j1 := j ++ [j7 zY (acc lp zY)]
 have hb1 : bal lp1 b = w1 y := by
  show (zBD a0 (kD lp zY _) b).2.1 = _
  rw [j6, if_neg hb]
  exact h2
 have e3 := add1 (n := n) (by omega) hy.1 hk.1 hy.2
 rw [← hb1] at e3
 refine ⟨kD lp1 b ((acc lp1 b).1, w1 (y + k), (acc lp1 b).2.2), j1 ++ [j7 b (acc lp1 b)], by simp [j1], fun a => ?_, ?_⟩
 ·show (zBD a0 (kD lp1 b _) a).2.1 = _
  rw [j6]
  split
  ·rfl
  ·show (zBD a0 (kD lp zY _) a).2.1 = _
   rw [j6]
   split <;> rfl
 ·refine bO (zBY r x o j z lp zY q) (bO e1 (iF (by simp) (bO (zBf r x o j z lp zY (w1 (B - k)) q (by omega)) ?_)))
  refine bO (zBY r x o j1 z lp1 b q) (bO e3 (bO (zBf r x o j1 z lp1 b (w1 (y + k)) q (by simp [j1]; omega)) rfl))
end Go.Abs.Pure
end
section
namespace Go.Abs.Pure
open Go Go.Abs
def zAU (f : List Int → Int) : List (List Int) → Int
 | [] => 0
 | a :: L => f a + zAU f L
def Cov (f : List Int → Int) (B : Int) : Prop := ∀ L : List (List Int), L.Nodup → (∀ a ∈ L, Adr a) → zAU f L ≤ B
theorem zCV {f g : List Int → Int} : ∀ {L : List (List Int)}, (∀ a ∈ L, f a = g a) → zAU f L = zAU g L
 | [], _ => rfl
 | a :: L, h => by
  have := zCV (f := f) (g := g) (L := L) fun b hb => h b (by simp [hb])
  simp only [zAU, h a (by simp), this]
theorem zGV {f g : List Int → Int} {a : List Int} {e : Int} (ha : g a = f a + e) : ∀ {L : List (List Int)}, L.Nodup → (∀ b ∈ L, b ≠ a → g b = f b) → a ∈ L → zAU g L = zAU f L + e
 | [], _, _, h => by simp at h
 | b :: L, hn, ho, h => by
  rw [List.nodup_cons] at hn
  by_cases hb : b = a
  ·subst hb
   simp only [zAU, ha, zCV (f := g) (g := f) fun c hc => ho c (by simp [hc]) (fun hh => hn.1 (hh ▸ hc))]
   omega
  ·simp only [zAU, ho b (by simp) hb, zGV ha hn.2 (fun c hc => ho c (by simp [hc])) ((List.mem_cons.1 h).resolve_left (fun hh => hb hh.symm))]
   omega
theorem Cov.step {f g : List Int → Int} {B B' e : Int} {a : List Int} (hA : Adr a) (h : Cov f B) (ha : g a = f a + e) (h0 : 0 ≤ g a) (ho : ∀ b, Adr b → b ≠ a → g b = f b) (hB : B + e ≤ B') : Cov g B' := fun L hn hl => by
 by_cases hm : a ∈ L
 ·rw [zGV ha hn (fun b hb => ho b (hl b hb)) hm]
  have := h L hn hl
  omega
 ·rw [zCV (g := f) fun b hb => ho b (hl b hb) (fun hh => hm (hh ▸ hb))]
  have := h (a :: L) (List.nodup_cons.2 ⟨hm, hn⟩) (fun b hb => (List.mem_cons.1 hb).elim (fun e => e ▸ hA) (hl b))
  simp only [zAU] at this
  omega
def wt (lq : Sl) (a : List Int) : Int := (at' lq (dS a)).getD 0 0 + (at' lq (sS a)).getD 0 0
structure Inv (T B K : Int) (lp : Ac) (lq : Sl) : Prop where
 self : bal lp zY = w1 B
 pos : 0 ≤ B ∧ B ≤ T ∧ T < 9223372036854775808
 oth : ∀ b, b ≠ zY → ∃ y, bal lp b = w1 y ∧ 0 ≤ y ∧ y + B ≤ T
 ws : ∀ a, Adr a → ∃ d s, at' lq (dS a) = w1 d ∧ at' lq (sS a) = w1 s ∧ 0 ≤ d ∧ 0 ≤ s
 cov : Cov (wt lq) K
 le : K ≤ B
theorem Inv.mono {T B K K' : Int} {lp : Ac} {lq : Sl} (h : Inv T B K lp lq) (hk : K ≤ K') (hb : K' ≤ B) : Inv T B K' lp lq := ⟨h.self, h.pos, h.oth, h.ws, fun L hn hl => Int.le_trans (h.cov L hn hl) hk, hb⟩
theorem Inv.has {T B K : Int} {lp : Ac} {lq : Sl} (h : Inv T B K lp lq) {a : List Int} (ha : Adr a) : ∃ d s, at' lq (dS a) = w1 d ∧ at' lq (sS a) = w1 s ∧ 0 ≤ d ∧ 0 ≤ s ∧ d + s ≤ K := by
 obtain ⟨d, s, h1, h2, h3, h4⟩ := h.ws a ha
 refine ⟨d, s, h1, h2, h3, h4, ?_⟩
 have := h.cov [a] (by simp) (by simpa using ha)
 simp only [zAU, wt, h1, h2, List.getD_cons_zero] at this
 omega
theorem zAq {a b : List Int} (ha : Adr a) (hb : Adr b) {w w' k k' : Int} (hw : 0 ≤ w ∧ w < 4) (hw' : 0 ≤ w' ∧ w' < 4) (h : ¬ (a = b ∧ w = w' ∧ k = k')) : qC a w k ≠ qC b w' k' := fun e => h (zLZ ha hb hw hw' e)
theorem zAG (lq : Sl) (s v t : List Int) : at' (kD lq s v) t = if t = s then v else at' lq t := j6 _ _ _ _ _
theorem Inv.deposit {T B K K' : Int} {lp : Ac} {lq : Sl} (h : Inv T B K lp lq) {a : List Int} (ha : Adr a) {d d' : Int} (hd : at' lq (dS a) = w1 d) (h0 : 0 ≤ d') (hK : K + (d' - d) ≤ K') (hB : K' ≤ B) : Inv T B K' lp (kD lq (dS a) (w1 d')) := by
 have e1 : ∀ b, Adr b → at' (kD lq (dS a) (w1 d')) (sS b) = at' lq (sS b) := fun b hb => by rw [zAG, if_neg (zAq hb ha (by omega) (by omega) (by omega))]
 have e2 : ∀ b, Adr b → b ≠ a → at' (kD lq (dS a) (w1 d')) (dS b) = at' lq (dS b) := fun b hb hne => by rw [zAG, if_neg (zAq hb ha (by omega) (by omega) (fun q => hne q.1))]
 have e3 : at' (kD lq (dS a) (w1 d')) (dS a) = w1 d' := by rw [zAG, if_pos rfl]
 obtain ⟨d1, s, h1, h2, h3, h4, h5⟩ := h.has ha
 refine ⟨h.self, h.pos, h.oth, fun b hb => ?_, h.cov.step ha (e := d' - d) ?_ ?_ (fun b hb hne => ?_) hK, hB⟩
 ·rw [e1 b hb]
  by_cases hab : b = a
  ·subst hab; exact ⟨d', s, e3, h2, h0, h4⟩
  ·rw [e2 b hb hab]; exact h.ws b hb
 ·simp only [wt, e1 a ha, e3, hd, List.getD_cons_zero]; omega
 ·simp only [wt, e1 a ha, e3, h2, List.getD_cons_zero]; omega
 ·simp only [wt, e1 b hb, e2 b hb hne]
theorem Inv.stake {T B K K' : Int} {lp : Ac} {lq : Sl} (h : Inv T B K lp lq) {a : List Int} (ha : Adr a) {s s' : Int} (hs : at' lq (sS a) = w1 s) (h0 : 0 ≤ s') (hK : K + (s' - s) ≤ K') (hB : K' ≤ B) (t : List Int) : Inv T B K' lp (kD (kD lq (sS a) (w1 s')) (tS a) t) := by
 have e1 : ∀ b, Adr b → at' (kD (kD lq (sS a) (w1 s')) (tS a) t) (dS b) = at' lq (dS b) := fun b hb => by rw [zAG, if_neg (zAq hb ha (by omega) (by omega) (by omega)), zAG, if_neg (zAq hb ha (by omega) (by omega) (by omega))]
 have e2 : ∀ b, Adr b → b ≠ a → at' (kD (kD lq (sS a) (w1 s')) (tS a) t) (sS b) = at' lq (sS b) := fun b hb hne => by rw [zAG, if_neg (zAq hb ha (by omega) (by omega) (by omega)), zAG, if_neg (zAq hb ha (by omega) (by omega) (fun q => hne q.1))]
 have e3 : at' (kD (kD lq (sS a) (w1 s')) (tS a) t) (sS a) = w1 s' := by rw [zAG, if_neg (zAq ha ha (by omega) (by omega) (by omega)), zAG, if_pos rfl]
 obtain ⟨d, s1, h1, h2, h3, h4, h5⟩ := h.has ha
 refine ⟨h.self, h.pos, h.oth, fun b hb => ?_, h.cov.step ha (e := s' - s) ?_ ?_ (fun b hb hne => ?_) hK, hB⟩
 ·rw [e1 b hb]
  by_cases hab : b = a
  ·subst hab; exact ⟨d, s', h1, e3, h3, h0⟩
  ·rw [e2 b hb hab]; exact h.ws b hb
 ·simp only [wt, e1 a ha, e3, hs, List.getD_cons_zero]; omega
 ·simp only [wt, e1 a ha, e3, h1, List.getD_cons_zero]; omega
 ·simp only [wt, e1 b hb, e2 b hb hne]
theorem Inv.nonce {T B K : Int} {lp : Ac} {lq : Sl} (h : Inv T B K lp lq) {a : List Int} (ha : Adr a) (k : Int) (v : List Int) : Inv T B K lp (kD lq (qC a 3 k) v) := by
 have e : ∀ b, Adr b → at' (kD lq (qC a 3 k) v) (dS b) = at' lq (dS b) ∧ at' (kD lq (qC a 3 k) v) (sS b) = at' lq (sS b) := fun b hb => ⟨by rw [zAG, if_neg (zAq hb ha (by omega) (by omega) (by omega))], by rw [zAG, if_neg (zAq hb ha (by omega) (by omega) (by omega))]⟩
 refine ⟨h.self, h.pos, h.oth, fun b hb => by rw [(e b hb).1, (e b hb).2]; exact h.ws b hb, fun L hn hl => ?_, h.le⟩
 rw [zCV (g := wt lq) fun b hb => by simp only [wt, (e b (hl b hb)).1, (e b (hl b hb)).2]]
 exact h.cov L hn hl
theorem Inv.paid {T B K k y : Int} {lp lp' : Ac} {lq : Sl} (h : Inv T B K lp lq) (hK : K ≤ B - k) (hk : 0 ≤ k ∧ k ≤ B) {b : List Int} (hb : b ≠ zY) (hy : bal lp b = w1 y) (e : ∀ a, bal lp' a = if a = b then w1 (y + k) else if a = zY then w1 (B - k) else bal lp a) : Inv T (B - k) K lp' lq := by
 refine ⟨by rw [e, if_neg (Ne.symm hb), if_pos rfl], by have := h.pos; omega, fun a ha => ?_, h.ws, h.cov, hK⟩
 obtain ⟨y1, g1, g2, g3⟩ := h.oth b hb
 have : y = y1 := by have := hy.symm.trans g1; simpa using this
 subst this
 rw [e]
 split
 ·exact ⟨y + k, rfl, by omega, by omega⟩
 ·obtain ⟨y2, q1, q2, q3⟩ := h.oth a ha
  exact ⟨y2, q1, q2, by omega⟩
end Go.Abs.Pure
end
section
namespace Go.Abs.Pure
open Go Go.Abs
def nm0 : ByteArray := (b8 [100, 101, 112, 111, 115, 105, 116, 84, 111, 40, 97, 100, 100, 114, 101, 115, 115, 41])
def nm1 : ByteArray := (b8 [98, 97, 108, 97, 110, 99, 101, 79, 102, 40, 97, 100, 100, 114, 101, 115, 115, 41])
def nm2 : ByteArray := (b8 [103, 101, 116, 78, 111, 110, 99, 101, 40, 97, 100, 100, 114, 101, 115, 115, 44, 117, 105, 110, 116, 49, 57, 50, 41])
def nm3 : ByteArray := (b8 [105, 110, 99, 114, 101, 109, 101, 110, 116, 78, 111, 110, 99, 101, 40, 117, 105, 110, 116, 49, 57, 50, 41])
def nm4 : ByteArray := (b8 [97, 100, 100, 83, 116, 97, 107, 101, 40, 117, 105, 110, 116, 51, 50, 41])
def nm5 : ByteArray := (b8 [117, 110, 108, 111, 99, 107, 83, 116, 97, 107, 101, 40, 41])
def nm6 : ByteArray := (b8 [119, 105, 116, 104, 100, 114, 97, 119, 83, 116, 97, 107, 101, 40, 97, 100, 100, 114, 101, 115, 115, 41])
def nm7 : ByteArray := (b8 [119, 105, 116, 104, 100, 114, 97, 119, 84, 111, 40, 97, 100, 100, 114, 101, 115, 115, 44, 117, 105, 110, 116, 50, 53, 54, 41])
theorem sel0 : Fam.m 1000 nm0 = some [183, 96, 250, 249] := by kernel_rfl
theorem sel1 : Fam.m 1000 nm1 = some [112, 160, 130, 49] := by kernel_rfl
theorem sel2 : Fam.m 1000 nm2 = some [53, 86, 126, 26] := by kernel_rfl
theorem sel3 : Fam.m 1000 nm3 = some [11, 210, 142, 59] := by kernel_rfl
theorem sel4 : Fam.m 1000 nm4 = some [3, 150, 203, 96] := by kernel_rfl
theorem sel5 : Fam.m 1000 nm5 = some [187, 159, 230, 191] := by kernel_rfl
theorem sel6 : Fam.m 1000 nm6 = some [194, 58, 92, 234] := by kernel_rfl
theorem sel7 : Fam.m 1000 nm7 = some [32, 92, 40, 120] := by kernel_rfl
theorem rsel0 : Fan.m 1000 nm0 = some [183, 96, 250, 249] := by kernel_rfl
theorem rsel1 : Fan.m 1000 nm1 = some [112, 160, 130, 49] := by kernel_rfl
theorem rsel2 : Fan.m 1000 nm2 = some [53, 86, 126, 26] := by kernel_rfl
theorem rsel3 : Fan.m 1000 nm3 = some [11, 210, 142, 59] := by kernel_rfl
theorem rsel4 : Fan.m 1000 nm4 = some [3, 150, 203, 96] := by kernel_rfl
theorem rsel5 : Fan.m 1000 nm5 = some [187, 159, 230, 191] := by kernel_rfl
theorem rsel6 : Fan.m 1000 nm6 = some [194, 58, 92, 234] := by kernel_rfl
theorem zNS : Fan.m 1000 nm7 = some [32, 92, 40, 120] := by kernel_rfl
end Go.Abs.Pure
end
section
namespace Go.Abs.Pure
open Go Go.Abs
theorem iT' {α : Type} {c : Bool} {a b r : Option α} (h : c = true) (k : a = r) : (if c = true then a else b) = r := by rw [if_pos h]; exact k
theorem iF' {α : Type} {c : Bool} {a b r : Option α} (h : c = false) (k : b = r) : (if c = true then a else b) = r := by rw [h]; exact k
theorem zMq : (1 : Int) < ((2 : Nat) : Int) := by decide
theorem zJa : (0 : Int) < ((1 : Nat) : Int) := by decide
def wl (b : List Int) : List Int := ofV (yX b 20)
def W (a : List Int) : AV := .ints .u64 4 a
variable {n : Nat} (hn : 600 ≤ n) (t : Int) {c b : List Int} (hc : Adr c) (hb : Adr b) (hbs : b ≠ zY) (v : List Int) (r x : Int) (l : List AV) (p q o j z : List AV) (lp : Ac) (lq lo : Sl)
include hn hb in
theorem wO : Fn.m n (t, c, v, r, x, W (wl b) :: l, p, q, o, j, z) = some (.inr (b, t, c, v, r, x, W (wl b) :: l, p, q, o, j, z)) := by
 have rb := kT (b := b) hb.2 20
 have e : Fao.m n (wl b, 160) = some true := by
  unfold wl ofV
  rw [show yX b 20 / 6277101735386680763835789423207666416102355444464034512896 % 18446744073709551616 = 0 by omega]
  exact zLi (by omega) (by omega)
 have e2 : Fbe.m n (wl b) = some b := by
  rw [zHG (n := n) (by omega) (a := wl b) (zHY _)]
  exact congrArg some (zFh hb.1 hb.2)
 unfold Fn.m Fn.g
 have lt : (0 : Int) < ((W (wl b) :: l).length : Int) := by simp
 exact iT lt (bO (a := wl b) rfl (bO e (iF' rfl (iT lt (bO (a := wl b) rfl (bO e2 rfl))))))
include hn hb hbs in
theorem zKu {T B K k : Int} (h : Inv T B K lp lq) (hK : K ≤ B - k) (hk : 0 ≤ k ∧ k ≤ B) (hj : j.length ≤ 99999) : ∃ lp' j', Inv T (B - k) (B - k) lp' lq ∧ j'.length = j.length + 2 ∧
  Faf.m n (w1 k, t, c, v, r, x, W (wl b) :: l, pL lp, q, o, j, z) = some (.inr (t, c, v, r, x, W (wl b) :: l, pL lp', q, o, z, j')) := by
 obtain ⟨y, h1, h2, h3⟩ := h.oth b hbs
 have hp := h.pos
 obtain ⟨lp', j', e1, e2, e3⟩ := zOf (n := n) r x o j z lp hn hbs q h.self h1 hk (by omega) (by omega) hj
 refine ⟨lp', j', (h.paid hK hk hbs h1 e2).mono hK (Int.le_refl _), e1, ?_⟩
 unfold Faf.m Faf.g
 exact bO (wO hn t hb v r x l (pL lp) q o j z) (bO qU (bO e3 (bO (a := Sum.inl ()) rfl rfl)))
include hn hc hb hbs in
theorem zIA {T B K y : Int} (h : Inv T B K lp lq) (hy : 0 ≤ y ∧ y < 18446744073709551616) (hj : j.length ≤ 99990) :
  Fm.m n (t, c, v, r, x, [W (wl b), W (w1 y)], pL lp, qL lq, qL lo, j, z) = some (.inl (2, t, c, v, r, x, [W (wl b), W (w1 y)], pL lp, qL lq, qL lo, z, j)) ∨
  ∃ B' lp' lq' lo' j', Inv T B' B' lp' lq' ∧ j'.length ≤ j.length + 4 ∧ Fm.m n (t, c, v, r, x, [W (wl b), W (w1 y)], pL lp, qL lq, qL lo, j, z) = some (.inr (t, c, v, r, x, [W (wl b), W (w1 y)], pL lp', qL lq', qL lo', z, j')) := by
 obtain ⟨d, s, h1, h2, h3, h4, h5⟩ := h.has hc
 have hp := h.pos
 have hle := h.le
 have e := zMM (n := n) r x (pL lp) j z lq lo hn hc h1 (by omega) hy (by omega)
 unfold Fm.m Fm.g
 split at e
 ·exact .inl (bO (wO hn t hb v r x _ (pL lp) (qL lq) (qL lo) j z) (iT zMq (bO (a := w1 y) rfl (bO e (bO (a := Sum.inr 2) rfl rfl)))))
 ·rename_i hd
  obtain ⟨lo1, j1, e1, e2⟩ := e
  have i1 := h.deposit (K' := K - y) hc h1 (d' := d - y) (by omega) (by omega) (by omega)
  obtain ⟨lp2, j2, i2, e3, e4⟩ := zKu (c := c) hn t hb hbs v r x [W (w1 y)] (qL (kD lq (dS c) (w1 (d - y)))) (qL lo1) j1 z lp _ i1 (by omega) ⟨hy.1, by omega⟩ (by omega)
  exact .inr ⟨_, lp2, _, lo1, j2, i2, by omega, bO (wO hn t hb v r x _ (pL lp) (qL lq) (qL lo) j z) (iT zMq (bO (a := w1 y) rfl (bO e2 (bO (a := Sum.inl ()) rfl (iT zMq (bO (a := w1 y) rfl (bO e4 rfl)))))))⟩
include hn hc hb hbs in
theorem zED {T B K : Int} (h : Inv T B K lp lq) (hj : j.length ≤ 99990) :
  Fe.m n (t, c, v, r, x, [W (wl b)], pL lp, qL lq, qL lo, j, z) = some (.inl (2, t, c, v, r, x, [W (wl b)], pL lp, qL lq, qL lo, z, j)) ∨
  ∃ B' lp' lq' lo' j', Inv T B' B' lp' lq' ∧ j'.length ≤ j.length + 4 ∧ Fe.m n (t, c, v, r, x, [W (wl b)], pL lp, qL lq, qL lo, j, z) = some (.inr (t, c, v, r, x, [W (wl b)], pL lp', qL lq', qL lo', z, j')) := by
 obtain ⟨d, s, h1, h2, h3, h4, h5⟩ := h.has hc
 have hle := h.le
 have e := zDK (n := n) r x (pL lp) (qL lo) j z lq hn hc
 rw [h2] at e
 unfold Fe.m Fe.g
 by_cases g1 : (w1 s == [0, 0, 0, 0]) = true
 ·exact .inl (bO e (iT g1 rfl))
 by_cases g2 : ((at' lq (tS c)).getD 0 0 == 0) = true
 ·exact .inl (bO e (iF g1 (iT g2 rfl)))
 by_cases g3 : decide ((at' lq (tS c)).getD 0 0 > t) = true
 ·exact .inl (bO e (iF g1 (iF g2 (iT g3 rfl))))
 obtain ⟨lo1, j1, e1, e2⟩ := zCn (n := n) r x (pL lp) j z lq lo hn hc (w1 0) 0 0 (by omega)
 have i1 := h.stake (K' := K - s) hc h2 (s' := 0) (by omega) (by omega) (by omega) [0, 0, 0, 0]
 obtain ⟨lp2, j2, i2, e3, e4⟩ := zKu (c := c) hn t hb hbs v r x [] (qL (kD (kD lq (sS c) (w1 0)) (tS c) [0, 0, 0, 0])) (qL lo1) j1 z lp _ i1 (by omega) ⟨h4, by omega⟩ (by omega)
 exact .inr ⟨_, lp2, _, lo1, j2, i2, by omega, bO e (iF g1 (iF g2 (iF g3 (bO e2 (bO e4 rfl)))))⟩
include hn hc in
theorem zKX {T B K : Int} (h : Inv T B K lp lq) (hj : j.length ≤ 99990) :
  Ft.m n (t, c, v, r, x, l, pL lp, qL lq, qL lo, j, z) = some (.inl (2, t, c, v, r, x, l, pL lp, qL lq, qL lo, z, j)) ∨
  ∃ B' lp' lq' lo' j', Inv T B' B' lp' lq' ∧ j'.length ≤ j.length + 4 ∧ Ft.m n (t, c, v, r, x, l, pL lp, qL lq, qL lo, j, z) = some (.inr (t, c, v, r, x, l, pL lp', qL lq', qL lo', z, j')) := by
 obtain ⟨d, s, h1, h2, h3, h4, h5⟩ := h.has hc
 have hle := h.le
 have e := zDK (n := n) r x (pL lp) (qL lo) j z lq hn hc
 rw [h2] at e
 generalize (at' lq (tS c)).getD 1 0 = dl at e
 generalize (at' lq (tS c)).getD 0 0 = ul at e
 unfold Ft.m Ft.g
 by_cases g1 : (dl == 0) = true
 ·exact .inl (bO e (iT g1 rfl))
 by_cases g2 : (ul != 0) = true
 ·exact .inl (bO e (iF g1 (iT g2 rfl)))
 by_cases g3 : decide (IntKind.wrap .u64 (t + dl) < t) = true
 ·exact .inl (bO e (iF g1 (iF g2 (iT g3 rfl))))
 obtain ⟨lo1, j1, e1, e2⟩ := zCn (n := n) r x (pL lp) j z lq lo hn hc (w1 s) dl (IntKind.wrap .u64 (t + dl)) (by omega)
 have i1 := h.stake (K' := B) hc h2 (s' := s) (by omega) (by omega) (Int.le_refl _) [IntKind.wrap .u64 (t + dl), dl, 0, 0]
 exact .inr ⟨_, lp, _, lo1, j1, i1, by omega, bO e (iF g1 (iF g2 (iF g3 (bO e2 rfl))))⟩
include hn hc in
theorem zJI {T B K w y : Int} (h : Inv T B K lp lq) (hw : 0 ≤ w ∧ K + w ≤ B) (hy : 0 ≤ y ∧ y < 4294967296) (hj : j.length ≤ 99990) :
  Fl.m n (t, c, w1 w, r, x, [W (w1 y)], pL lp, qL lq, qL lo, j, z) = some (.inl (2, t, c, w1 w, r, x, [W (w1 y)], pL lp, qL lq, qL lo, z, j)) ∨
  ∃ B' lp' lq' lo' j', Inv T B' B' lp' lq' ∧ j'.length ≤ j.length + 4 ∧ Fl.m n (t, c, w1 w, r, x, [W (w1 y)], pL lp, qL lq, qL lo, j, z) = some (.inr (t, c, w1 w, r, x, [W (w1 y)], pL lp', qL lq', qL lo', z, j')) := by
 obtain ⟨d, s, h1, h2, h3, h4, h5⟩ := h.has hc
 have hp := h.pos
 have e := zDK (n := n) r x (pL lp) (qL lo) j z lq hn hc
 rw [h2] at e
 generalize (at' lq (tS c)).getD 1 0 = dl at e
 generalize (at' lq (tS c)).getD 0 0 = ul at e
 have ea := add1 (n := n) (by omega) h4 hw.1 (by omega)
 have en := zMm (n := n) (by omega) hy
 unfold Fl.m Fl.g
 by_cases g1 : (y == 0) = true
 ·exact .inl (bO e (iT zJa (bO (a := w1 y) rfl (bO ea (bO en (iF' rfl (iT g1 rfl)))))))
 by_cases g2 : decide (y < dl) = true
 ·exact .inl (bO e (iT zJa (bO (a := w1 y) rfl (bO ea (bO en (iF' rfl (iF g1 (iT g2 rfl))))))))
 by_cases g3 : (w1 (s + w) == [0, 0, 0, 0]) = true
 ·exact .inl (bO e (iT zJa (bO (a := w1 y) rfl (bO ea (bO en (iF' rfl (iF g1 (iF g2 (iF' rfl (iT g3 rfl))))))))))
 obtain ⟨lo1, j1, e1, e2⟩ := zCn (n := n) r x (pL lp) j z lq lo hn hc (w1 (s + w)) y 0 (by omega)
 have i1 := h.stake (K' := B) hc h2 (s' := s + w) (by omega) (by omega) (Int.le_refl _) [0, y, 0, 0]
 exact .inr ⟨_, lp, _, lo1, j1, i1, by omega, bO e (iT zJa (bO (a := w1 y) rfl (bO ea (bO en (iF' rfl (iF g1 (iF g2 (iF' rfl (iF g3 (bO e2 rfl))))))))))⟩
end Go.Abs.Pure
end
section
namespace Go.Abs.Pure
open Go Go.Abs
theorem or00 : (ibits .or .u64 0 0 != 0) = false := by decide
theorem zGz {n : Nat} (hn : 100 ≤ n) (a b c d : Int) : ∃ o, Fat.m n [a, b, c, d] = some o := by
 obtain ⟨k, rfl⟩ : ∃ k, n = k + 50 := ⟨n - 50, by omega⟩
 exact Option.isSome_iff_exists.1 (show (Fat.m (k + 50) [a, b, c, d]).isSome = true by kernel_rfl)
def zGP (n : Nat) (s : ByteArray) (t : Int) (c v : List Int) (r x : Int) (l : List AV) (lp : Ac) (lq lo : Sl) (j z : List AV) (T : Int) : Prop :=
 (∃ k, k ≤ 2 ∧ Fae.m n (s, t, c, v, r, x, l, pL lp, qL lq, qL lo, j, z) = some (.inl (k, t, c, v, r, x, l, pL lp, qL lq, qL lo, z, [], j))) ∨
  ∃ B lp' lq' lo' j' out, Inv T B B lp' lq' ∧ j'.length ≤ j.length + 4 ∧ Fae.m n (s, t, c, v, r, x, l, pL lp, qL lq, qL lo, j, z) = some (.inr (t, c, v, r, x, l, pL lp', qL lq', qL lo', z, out, j'))
variable {n : Nat} (hn : 600 ≤ n) (t : Int) {c b : List Int} (hc : Adr c) (hb : Adr b) (hbs : b ≠ zY) (r x : Int) (l : List AV) (p q o j z : List AV) (lp : Ac) (lq lo : Sl) {T B K w y : Int} (h : Inv T B K lp lq) (hw : 0 ≤ w ∧ K + w ≤ B) (hj : j.length ≤ 99990) (v : List Int)
include hn hb h hw hj in
theorem does0 : zGP n nm0 t c (w1 w) r x [W (wl b)] lp lq lo j z T := by
 obtain ⟨d, s, h1, h2, h3, h4, h5⟩ := h.has hb
 have hp := h.pos
 obtain ⟨lo1, j1, e1, e2⟩ := zHt (n := n) r x (pL lp) j z lq lo hn hb h1 h3 hw.1 (by omega) (by omega)
 refine .inr ⟨B, lp, _, lo1, j1, [], h.deposit (K' := B) hb h1 (d' := d + w) (by omega) (by omega) (Int.le_refl _), by omega, ?_⟩
 unfold Fae.m Fae.g
 exact iT' (by kernel_rfl) (bO (wO hn t hb (w1 w) r x [] (pL lp) (qL lq) (qL lo) j z) (iF' (by kernel_rfl) (bO e2 rfl)))
include hn hb h in
theorem does1 : zGP n nm1 t c v r x [W (wl b)] lp lq lo j z T := by
 obtain ⟨d, s, h1, h2, h3, h4, h5⟩ := h.has hb
 have e := zAO (n := n) r x (pL lp) (qL lo) j z lq hn hb
 rw [h1] at e
 obtain ⟨u, hu⟩ := zGz (n := n) (by omega) d 0 0 0
 refine .inr ⟨B, lp, lq, lo, j, u, h.mono h.le (Int.le_refl _), by omega, ?_⟩
 unfold Fae.m Fae.g
 exact iF' (by kernel_rfl) (iT' (by kernel_rfl) (bO (wO hn t hb v r x [] (pL lp) (qL lq) (qL lo) j z) (iT' (by kernel_rfl) (bO e (bO hu rfl)))))
include hn in
theorem zIX {a : List Int} (ha : Adr a) (k : Int) : Fav.m n (a, w1 k, r, x, p, qL lq, o, j, z) = some ([(at' lq (qC a 3 k)).getD 0 0, k, 0, 0], r, x, p, qL lq, o, j, z) :=
 bO (zCY hn k) (iF' rfl (bO qU (bO (wQ hn ha 3 k) (bO (zDL r x p o j z lq _) rfl))))
include hn hb h in
theorem does2 : zGP n nm2 t c v r x [W (wl b), W (w1 y)] lp lq lo j z T := by
 obtain ⟨u, hu⟩ := zGz (n := n) (by omega) ((at' lq (qC b 3 y)).getD 0 0) y 0 0
 refine .inr ⟨B, lp, lq, lo, j, u, h.mono h.le (Int.le_refl _), by omega, ?_⟩
 unfold Fae.m Fae.g
 refine iF' (by kernel_rfl) (iF' (by kernel_rfl) (iT' (by kernel_rfl) (bO (a := Sum.inr (t, c, v, r, x, [W (wl b), W (w1 y)], pL lp, qL lq, qL lo, j, z, u)) ?_ rfl)))
 unfold Fk.m Fk.g
 exact bO (wO hn t hb v r x [W (w1 y)] (pL lp) (qL lq) (qL lo) j z) (iT zMq (bO (a := w1 y) rfl (bO (zCY hn y) (iF' rfl (iT zMq (bO (a := w1 y) rfl (bO (zIX hn r x (pL lp) (qL lo) j z lq hb y) (bO hu rfl))))))))
include hn hc h hj in
theorem does3 : zGP n nm3 t c v r x [W (w1 y)] lp lq lo j z T := by
 have e1 := zIX hn r x (pL lp) (qL lo) j z lq hc y
 have e2 := zDL (n := n) r x (pL lp) (qL lo) j z lq (qC c 3 y)
 by_cases g : (IntKind.wrap .u64 ((at' lq (qC c 3 y)).getD 0 0 + 1) == 0) = true
 ·refine .inl ⟨2, Nat.le_refl _, ?_⟩
  unfold Fae.m Fae.g
  refine iF' (by kernel_rfl) (iF' (by kernel_rfl) (iF' (by kernel_rfl) (iT' (by kernel_rfl) (iT zJa (bO (a := w1 y) rfl (bO (zCY hn y) (iT rfl (iT zJa (bO (a := w1 y) rfl (bO e1 (bO (a := (false, r, x, pL lp, qL lq, qL lo, z, j)) ?_ (bO (a := Sum.inr 2) rfl rfl))))))))))))
  exact bO (wQ hn hc 3 y) (bO qU (bO e2 (iF' or00 (iF (by simp) (iT g rfl)))))
 ·obtain ⟨lo1, j1, e3, e4⟩ := zAB (n := n) r x (pL lp) j z lq lo (qC c 3 y) (List.set (at' lq (qC c 3 y)) 0 (IntKind.wrap .u64 ((at' lq (qC c 3 y)).getD 0 0 + 1))) (by omega)
  refine .inr ⟨B, lp, kD lq (qC c 3 y) (List.set (at' lq (qC c 3 y)) 0 (IntKind.wrap .u64 ((at' lq (qC c 3 y)).getD 0 0 + 1))), lo1, j1, [], (h.nonce hc y _).mono h.le (Int.le_refl _), by omega, ?_⟩
  unfold Fae.m Fae.g
  refine iF' (by kernel_rfl) (iF' (by kernel_rfl) (iF' (by kernel_rfl) (iT' (by kernel_rfl) (iT zJa (bO (a := w1 y) rfl (bO (zCY hn y) (iT rfl (iT zJa (bO (a := w1 y) rfl (bO e1 (bO (a := (true, r, x, pL lp, qL (kD lq (qC c 3 y) (List.set (at' lq (qC c 3 y)) 0 (IntKind.wrap .u64 ((at' lq (qC c 3 y)).getD 0 0 + 1)))), qL lo1, z, j1)) ?_ (bO (a := Sum.inl ()) rfl rfl))))))))))))
  exact bO (wQ hn hc 3 y) (bO qU (bO e2 (iF' or00 (iF (by simp) (iF g (bO qU (bO e4 rfl)))))))
include hn hc h hw hj in
theorem does4 (hy : 0 ≤ y ∧ y < 4294967296) : zGP n nm4 t c (w1 w) r x [W (w1 y)] lp lq lo j z T := by
 rcases zJI hn t hc r x j z lp lq lo h hw hy hj with e | ⟨B', lp', lq', lo', j', i, e1, e⟩
 ·refine .inl ⟨2, Nat.le_refl _, ?_⟩
  unfold Fae.m Fae.g
  exact iF' (by kernel_rfl) (iF' (by kernel_rfl) (iF' (by kernel_rfl) (iF' (by kernel_rfl) (iT' (by kernel_rfl) (bO e rfl)))))
 ·refine .inr ⟨B', lp', lq', lo', j', [], i, e1, ?_⟩
  unfold Fae.m Fae.g
  exact iF' (by kernel_rfl) (iF' (by kernel_rfl) (iF' (by kernel_rfl) (iF' (by kernel_rfl) (iT' (by kernel_rfl) (bO e rfl)))))
include hn hc h hj in
theorem does5 : zGP n nm5 t c v r x l lp lq lo j z T := by
 rcases zKX hn t hc v r x l j z lp lq lo h hj with e | ⟨B', lp', lq', lo', j', i, e1, e⟩
 ·refine .inl ⟨2, Nat.le_refl _, ?_⟩
  unfold Fae.m Fae.g
  exact iF' (by kernel_rfl) (iF' (by kernel_rfl) (iF' (by kernel_rfl) (iF' (by kernel_rfl) (iF' (by kernel_rfl) (iT' (by kernel_rfl) (bO e rfl))))))
 ·refine .inr ⟨B', lp', lq', lo', j', [], i, e1, ?_⟩
  unfold Fae.m Fae.g
  exact iF' (by kernel_rfl) (iF' (by kernel_rfl) (iF' (by kernel_rfl) (iF' (by kernel_rfl) (iF' (by kernel_rfl) (iT' (by kernel_rfl) (bO e rfl))))))
include hn hc hb hbs h hj in
theorem does6 : zGP n nm6 t c v r x [W (wl b)] lp lq lo j z T := by
 rcases zED hn t hc hb hbs v r x j z lp lq lo h hj with e | ⟨B', lp', lq', lo', j', i, e1, e⟩
 ·refine .inl ⟨2, Nat.le_refl _, ?_⟩
  unfold Fae.m Fae.g
  exact iF' (by kernel_rfl) (iF' (by kernel_rfl) (iF' (by kernel_rfl) (iF' (by kernel_rfl) (iF' (by kernel_rfl) (iF' (by kernel_rfl) (iT' (by kernel_rfl) (bO e rfl)))))))
 ·refine .inr ⟨B', lp', lq', lo', j', [], i, e1, ?_⟩
  unfold Fae.m Fae.g
  exact iF' (by kernel_rfl) (iF' (by kernel_rfl) (iF' (by kernel_rfl) (iF' (by kernel_rfl) (iF' (by kernel_rfl) (iF' (by kernel_rfl) (iT' (by kernel_rfl) (bO e rfl)))))))
include hn hc hb hbs h hj in
theorem does7 (hy : 0 ≤ y ∧ y < 18446744073709551616) : zGP n nm7 t c v r x [W (wl b), W (w1 y)] lp lq lo j z T := by
 rcases zIA hn t hc hb hbs v r x j z lp lq lo h hy hj with e | ⟨B', lp', lq', lo', j', i, e1, e⟩
 ·refine .inl ⟨2, Nat.le_refl _, ?_⟩
  unfold Fae.m Fae.g
  exact iF' (by kernel_rfl) (iF' (by kernel_rfl) (iF' (by kernel_rfl) (iF' (by kernel_rfl) (iF' (by kernel_rfl) (iF' (by kernel_rfl) (iF' (by kernel_rfl) (bO e rfl)))))))
 ·refine .inr ⟨B', lp', lq', lo', j', [], i, e1, ?_⟩
  unfold Fae.m Fae.g
  exact iF' (by kernel_rfl) (iF' (by kernel_rfl) (iF' (by kernel_rfl) (iF' (by kernel_rfl) (iF' (by kernel_rfl) (iF' (by kernel_rfl) (iF' (by kernel_rfl) (bO e rfl)))))))
end Go.Abs.Pure
end
section
namespace Go.Abs.Pure
open Go Go.Abs
def be : List Int → Int
 | [] => 0
 | b :: r => b * 2 ^ (8 * r.length) + be r
def orB (a : Int) : List Int → Int
 | [] => a
 | b :: r => orB (ibits .or .u64 a (ishl .u64 (IntKind.wrap .u64 b) ((8 * r.length : Nat) : Int))) r
theorem zJG : ∀ {l : List Int}, (∀ y ∈ l, 0 ≤ y ∧ y < 256) → 0 ≤ be l ∧ be l < 2 ^ (8 * l.length)
 | [], _ => by simp [be]
 | b :: r, h => by
  have hb := h b (by simp)
  have ih := zJG (l := r) fun y hy => h y (by simp [hy])
  simp only [be, List.length_cons]
  have hp : (2 : Int) ^ (8 * (r.length + 1)) = 256 * 2 ^ (8 * r.length) := by rw [show 8 * (r.length + 1) = 8 + 8 * r.length by omega, Int.pow_add]; rfl
  have h1 := yR (8 * r.length)
  rw [hp]
  generalize (2 : Int) ^ (8 * r.length) = P at *
  have h2 : 0 ≤ b * P := Int.mul_nonneg hb.1 (Int.le_of_lt h1)
  have h3 : (b + 1) * P ≤ 256 * P := Int.mul_le_mul_of_nonneg_right (by omega) (Int.le_of_lt h1)
  rw [Int.add_mul] at h3
  omega
theorem zMi : ∀ {l : List Int} {a : Int}, l.length ≤ 8 → (∀ y ∈ l, 0 ≤ y ∧ y < 256) → 0 ≤ a → a * 2 ^ (8 * l.length) < 18446744073709551616 → orB (a * 2 ^ (8 * l.length)) l = a * 2 ^ (8 * l.length) + be l
 | [], a, _, _, _, _ => by simp [orB, be]
 | b :: r, a, hl, h, h0, ha => by
  have hb := h b (by simp)
  simp only [List.length_cons] at hl ha ⊢
  have hp : (2 : Int) ^ (8 * (r.length + 1)) = 2 ^ (8 * r.length) * 256 := by rw [show 8 * (r.length + 1) = 8 * r.length + 8 by omega, Int.pow_add]; rfl
  have h1 := yR (8 * r.length)
  have hw : IntKind.wrap .u64 b = b := by rw [zGF]; omega
  have hbP : 0 ≤ b * 2 ^ (8 * r.length) := Int.mul_nonneg hb.1 (Int.le_of_lt h1)
  have hbP' : b * 2 ^ (8 * r.length) < 2 ^ (8 * (r.length + 1)) := by
   rw [hp, Int.mul_comm]; exact Int.mul_lt_mul_of_pos_left hb.2 h1
  have hP64 : (2 : Int) ^ (8 * (r.length + 1)) ≤ 2 ^ 64 := zAX (by omega)
  have hs : ishl .u64 b ((8 * r.length : Nat) : Int) = b * 2 ^ (8 * r.length) := by
   rw [zMa (s := 8 * r.length) (by omega)]
   unfold loP
   exact Int.emod_eq_of_lt hbP (by omega)
  have e : a * 2 ^ (8 * (r.length + 1)) + b * 2 ^ (8 * r.length) = (a * 256 + b) * 2 ^ (8 * r.length) := by rw [hp]; grind
  have ho := zDV (x := a) (y := b * 2 ^ (8 * r.length)) (s := 8 * (r.length + 1)) (by omega) ⟨h0, ha⟩ ⟨hbP, hbP'⟩
  simp only [orB, hw, hs, ho]
  rw [e, zMi (by omega) (fun y hy => h y (by simp [hy])) (by omega) ?_]
  ·simp only [be]; rw [← e]; omega
  ·have h3 : (a * 256 + b) * 2 ^ (8 * r.length) ≤ a * 2 ^ (8 * (r.length + 1)) + b * 2 ^ (8 * r.length) := Int.le_of_eq e.symm
   have h4 : a * 2 ^ (8 * (r.length + 1)) ≤ 18446744073709551616 - 2 ^ (8 * (r.length + 1)) := by
    have h5 := zDj (s := 8 * (r.length + 1)) (by omega)
    have h6 : a < 2 ^ (64 - 8 * (r.length + 1)) := Int.lt_of_mul_lt_mul_right (a := 2 ^ (8 * (r.length + 1))) (by rw [h5]; exact ha) (Int.le_of_lt (yR _))
    have h7 : (a + 1) * 2 ^ (8 * (r.length + 1)) ≤ 2 ^ (64 - 8 * (r.length + 1)) * 2 ^ (8 * (r.length + 1)) := Int.mul_le_mul_of_nonneg_right (by omega) (Int.le_of_lt (yR _))
    rw [h5, Int.add_mul] at h7
    omega
   omega
theorem orB0 {l : List Int} (hl : l.length ≤ 8) (h : ∀ y ∈ l, 0 ≤ y ∧ y < 256) : orB 0 l = be l := by
 have := zMi (l := l) (a := 0) hl h (by omega) (by simp)
 simpa using this
theorem zNm (k : Nat) (b0 b1 b2 b3 b4 b5 b6 b7 b8 b9 b10 b11 b12 b13 b14 b15 b16 b17 b18 b19 : Int) : Fce.m (k + 22) [b0, b1, b2, b3, b4, b5, b6, b7, b8, b9, b10, b11, b12, b13, b14, b15, b16, b17, b18, b19] = some [orB 0 [b12, b13, b14, b15, b16, b17, b18, b19], orB 0 [b4, b5, b6, b7, b8, b9, b10, b11], orB 0 [b0, b1, b2, b3], 0] := by kernel_rfl
theorem kF {l : List Int} {n : Nat} (h : l.length = n + 1) : ∃ a r, l = a :: r ∧ r.length = n := by
 cases l with
 | nil => simp at h
 | cons a r => exact ⟨a, r, rfl, by simpa using h⟩
theorem zOh {b : List Int} (h : b.length = 20) : ∃ b0 b1 b2 b3 b4 b5 b6 b7 b8 b9 b10 b11 b12 b13 b14 b15 b16 b17 b18 b19, b = [b0, b1, b2, b3, b4, b5, b6, b7, b8, b9, b10, b11, b12, b13, b14, b15, b16, b17, b18, b19] := by
 obtain ⟨b0, r0, rfl, h0⟩ := kF h
 obtain ⟨b1, r1, rfl, h1⟩ := kF h0
 obtain ⟨b2, r2, rfl, h2⟩ := kF h1
 obtain ⟨b3, r3, rfl, h3⟩ := kF h2
 obtain ⟨b4, r4, rfl, h4⟩ := kF h3
 obtain ⟨b5, r5, rfl, h5⟩ := kF h4
 obtain ⟨b6, r6, rfl, h6⟩ := kF h5
 obtain ⟨b7, r7, rfl, h7⟩ := kF h6
 obtain ⟨b8, r8, rfl, h8⟩ := kF h7
 obtain ⟨b9, r9, rfl, h9⟩ := kF h8
 obtain ⟨b10, r10, rfl, h10⟩ := kF h9
 obtain ⟨b11, r11, rfl, h11⟩ := kF h10
 obtain ⟨b12, r12, rfl, h12⟩ := kF h11
 obtain ⟨b13, r13, rfl, h13⟩ := kF h12
 obtain ⟨b14, r14, rfl, h14⟩ := kF h13
 obtain ⟨b15, r15, rfl, h15⟩ := kF h14
 obtain ⟨b16, r16, rfl, h16⟩ := kF h15
 obtain ⟨b17, r17, rfl, h17⟩ := kF h16
 obtain ⟨b18, r18, rfl, h18⟩ := kF h17
 obtain ⟨b19, r19, rfl, h19⟩ := kF h18
 obtain rfl := List.length_eq_zero_iff.1 h19
 exact ⟨b0, b1, b2, b3, b4, b5, b6, b7, b8, b9, b10, b11, b12, b13, b14, b15, b16, b17, b18, b19, rfl⟩
theorem zNq (b0 b1 b2 b3 b4 b5 b6 b7 b8 b9 b10 b11 b12 b13 b14 b15 b16 b17 b18 b19 : Int) : yX [b0, b1, b2, b3, b4, b5, b6, b7, b8, b9, b10, b11, b12, b13, b14, b15, b16, b17, b18, b19] 20 = be [b12, b13, b14, b15, b16, b17, b18, b19] + be [b4, b5, b6, b7, b8, b9, b10, b11] * 18446744073709551616 + be [b0, b1, b2, b3] * 340282366920938463463374607431768211456 := by
 simp only [yX, be, List.length_cons, List.length_nil, List.getD_cons_zero, List.getD_cons_succ, Nat.reduceAdd, Nat.reduceSub, Nat.reduceMul, Int.reducePow]
 omega
theorem zLg {x y z : Int} (hx : 0 ≤ x ∧ x < 18446744073709551616) (hy : 0 ≤ y ∧ y < 18446744073709551616) (hz : 0 ≤ z ∧ z < 18446744073709551616) : ofV (x + y * 18446744073709551616 + z * 340282366920938463463374607431768211456) = [x, y, z, 0] := by
 simp only [ofV, List.cons.injEq, and_true]
 refine ⟨?_, ?_, ?_, ?_⟩ <;> omega
theorem zMX {l : List Int} (hl : l.length ≤ 8) (h : ∀ y ∈ l, 0 ≤ y ∧ y < 256) : 0 ≤ be l ∧ be l < 18446744073709551616 := by
 have h1 := zJG h
 have h2 : (2 : Int) ^ (8 * l.length) ≤ 2 ^ 64 := zAX (by omega)
 rw [show (2 : Int) ^ 64 = 18446744073709551616 from rfl] at h2
 omega
theorem zNk (k : Nat) (b0 b1 b2 b3 b4 b5 b6 b7 b8 b9 b10 b11 b12 b13 b14 b15 b16 b17 b18 b19 : Int) (hy : ∀ y ∈ [b0, b1, b2, b3, b4, b5, b6, b7, b8, b9, b10, b11, b12, b13, b14, b15, b16, b17, b18, b19], 0 ≤ y ∧ y < 256) : Fce.m (k + 22) [b0, b1, b2, b3, b4, b5, b6, b7, b8, b9, b10, b11, b12, b13, b14, b15, b16, b17, b18, b19] = some (wl [b0, b1, b2, b3, b4, b5, b6, b7, b8, b9, b10, b11, b12, b13, b14, b15, b16, b17, b18, b19]) := by
 have m1 : ∀ y ∈ [b12, b13, b14, b15, b16, b17, b18, b19], 0 ≤ y ∧ y < 256 := fun y h => hy y (List.mem_of_mem_drop (i := 12) h)
 have m2 : ∀ y ∈ [b4, b5, b6, b7, b8, b9, b10, b11], 0 ≤ y ∧ y < 256 := fun y h => hy y (List.mem_of_mem_drop (i := 4) (List.mem_of_mem_take (i := 8) h))
 have m3 : ∀ y ∈ [b0, b1, b2, b3], 0 ≤ y ∧ y < 256 := fun y h => hy y (List.mem_of_mem_take (i := 4) h)
 rw [zNm, orB0 (l := [b12, b13, b14, b15, b16, b17, b18, b19]) (Nat.le_refl 8) m1, orB0 (l := [b4, b5, b6, b7, b8, b9, b10, b11]) (Nat.le_refl 8) m2, orB0 (l := [b0, b1, b2, b3]) (show 4 ≤ 8 by decide) m3]
 unfold wl
 rw [zNq, zLg (zMX (l := [b12, b13, b14, b15, b16, b17, b18, b19]) (Nat.le_refl 8) m1) (zMX (l := [b4, b5, b6, b7, b8, b9, b10, b11]) (Nat.le_refl 8) m2) (zMX (l := [b0, b1, b2, b3]) (show 4 ≤ 8 by decide) m3)]
theorem zNl {n : Nat} (hn : 100 ≤ n) {b : List Int} (hb : Adr b) : Fce.m n b = some (wl b) := by
 obtain ⟨k, e⟩ : ∃ k, n = k + 22 := ⟨n - 22, by omega⟩
 obtain ⟨b0, b1, b2, b3, b4, b5, b6, b7, b8, b9, b10, b11, b12, b13, b14, b15, b16, b17, b18, b19, h⟩ := zOh hb.1
 have hy := hb.2
 rw [h] at hy
 rw [h, e]
 exact zNk k b0 b1 b2 b3 b4 b5 b6 b7 b8 b9 b10 b11 b12 b13 b14 b15 b16 b17 b18 b19 hy
end Go.Abs.Pure
end
section
namespace Go.Abs.Pure
open Go Go.Abs
def Pt (w : List Int) : AV := .agg [.bool false, W w, .snil]
def j0 (w w' : List Int) : List Int := yP w ++ yP w'
theorem kV (w w' : List Int) : (j0 w w').length = 64 := by simp [j0, z3]
theorem zHr {n : Nat} (hn : 600 ≤ n) {w w' : List Int} (hw : W4 w) (hw' : W4 w') : Fba.m n [Pt w, Pt w'] = some (j0 w w') := by
 obtain ⟨k, rfl⟩ : ∃ k, n = k + 3 := ⟨n - 3, by omega⟩
 have h1 := zDS (n := k + 3) (by omega) hw
 have h2 := zDS (n := k + 3) (by omega) hw'
 have l1 := z3 w
 have l2 := z3 w'
 refine bO (a := (j0 w w', [])) ?_ (iT ?_ (by show some (j0 w w' ++ []) = _; rw [List.append_nil]))
 ·show Fba.l3.g _ (k + 3) (k + 3) 0 [Pt w, Pt w'] [] [] = _
  unfold Fba.l3.g Fba.l3.r
  refine iT rfl (iT (by decide) (iT (show (0 : Int) < 2 by decide) (bO (a := [.bool false, W w, .snil]) rfl (bO (a := false) rfl (bO (a := w) rfl (bO (a := []) rfl (iT rfl (iT (by decide) (iT (show (0 : Int) < 2 by decide) (bO (a := [.bool false, W w, .snil]) rfl (bO (a := false) rfl (bO (a := w) rfl (bO (a := []) rfl (bO h1 (iT ?_ ?_)))))))))))))))
  ·simp only [List.length_nil, l1]; omega
  ·show Fba.l3.g _ (k + 3) (k + 2) 1 [Pt w, Pt w'] ([] ++ yP w) [] = _
   unfold Fba.l3.g Fba.l3.r
   refine iT rfl (iT (by decide) (iT (show (1 : Int) < 2 by decide) (bO (a := [.bool false, W w', .snil]) rfl (bO (a := false) rfl (bO (a := w') rfl (bO (a := []) rfl (iT rfl (iT (by decide) (iT (show (1 : Int) < 2 by decide) (bO (a := [.bool false, W w', .snil]) rfl (bO (a := false) rfl (bO (a := w') rfl (bO (a := []) rfl (bO h2 (iT ?_ ?_)))))))))))))))
   ·simp only [List.nil_append, l1, l2]; omega
   ·show Fba.l3.g _ (k + 3) (k + 1) 2 [Pt w, Pt w'] (([] ++ yP w) ++ yP w') [] = _
    unfold Fba.l3.g Fba.l3.r
    exact iF (show ¬ (decide ((2 : Int) < 2)) = true by decide) rfl
 ·simp only [kV, List.length_nil]; omega
def zIb : List AV := [.str nm0, .str nm1, .str nm2, .str nm3, .str nm4, .str nm5, .str nm6, .str nm7]
theorem zIZ (n : Nat) : Fbm.m n () = some zIb := by kernel_rfl
theorem zMf (l : List Int) {n : Nat} (h : l.length = n) : partL l 0 n = l := by
 show l.take n = l
 rw [← h, List.take_length]
theorem w5 {n : Nat} (hn : 600 ≤ n) {k : Nat} (hk : k < 8) {nn n2 : Int} (hN : Int.tmod nn 9 = (k : Int)) {s : ByteArray} (hs : zIb.getD k .any = .str s) {sl : List Int} (hsel : Fan.m n s = some sl) (hsl : sl.length = 4)
  {b X Y : List Int} (hb : Adr b) (hX : W4 X) (hY : W4 Y) (kd : Int) (a v : List Int) (tm : Int) (st : Bool) (raw : List Int) {w : List Int} (h2 : (n2 = 0 ∧ w = wl b) ∨ (n2 = 1 ∧ w = X)) :
  Fbn.m n (kd, a, b, v, nn, n2, X, Y, tm, st, raw) = some (sl ++ j0 w Y) := by
 have e8 : ((Int.tmod nn 9) == 8) = false := by rw [hN]; simp; omega
 have ew : IntKind.wrap .i64 (Int.tmod nn 9) = (k : Int) := by rw [hN, zAT]; omega
 have g1 : 0 ≤ IntKind.wrap .i64 (Int.tmod nn 9) := by rw [ew]; omega
 have g2 : IntKind.wrap .i64 (Int.tmod nn 9) < ((zIb.length : Nat) : Int) := by rw [ew]; show (k : Int) < 8; omega
 have g3 : tkStr (zIb.getD (Int.toNat (IntKind.wrap .i64 (Int.tmod nn 9))) .any) = some s := by rw [ew, Int.toNat_natCast, hs]; rfl
 have gl : ∀ w, (sl ++ j0 w Y).length = 68 := fun w => by rw [List.length_append, hsl, kV]
 have g4 : ∀ w, ((sl.length + (j0 w Y).length) * 1 ≤ 70368744177664 ∧ sl.length + (j0 w Y).length ≤ 9223372036854775807) := fun w => by rw [hsl, kV]; omega
 have g5 : ∀ w (z : Int), z = 0 → IntKind.wrap .i64 (((sl ++ j0 w Y).length : Nat) - z) = 68 := fun w z hz => by rw [gl, hz]; rfl
 have g6 : ∀ w, 68 ≤ (((sl ++ j0 w Y).length : Nat) : Int) := fun w => by rw [gl]; omega
 have g7 : ∀ w, partL (sl ++ j0 w Y) 0 (span (sl ++ j0 w Y).length 0 (some (Int.toNat 68))) = sl ++ j0 w Y := fun w => zMf _ (gl w)
 rcases h2 with ⟨rfl, rfl⟩ | ⟨rfl, rfl⟩
 ·have hw : W4 (wl b) := zHY _
  have z0 : Int.tmod (IntKind.wrap .i64 (IntKind.wrap .u8 (Int.tdiv 0 2))) 68 = 0 := by decide
  unfold Fbn.m Fbn.g
  refine iF (by rw [e8]; exact Bool.false_ne_true) (iT rfl (bO (zNl (by omega) hb) (bO (zIZ n) (iT g1 (iT g2 (bO g3 (bO hsel (bO (zHr hn hw hY) (iT (g4 _) ?_)))))))))
  rw [g5 _ _ z0]
  exact iT (by decide) (iT (g6 _) (by rw [g7]))
 ·have z0 : Int.tmod (IntKind.wrap .i64 (IntKind.wrap .u8 (Int.tdiv 1 2))) 68 = 0 := by decide
  unfold Fbn.m Fbn.g
  refine iF (by rw [e8]; exact Bool.false_ne_true) (iF (show ¬ (Int.tmod 1 2 == 0) = true by decide) (bO (zIZ n) (iT g1 (iT g2 (bO g3 (bO hsel (bO (zHr hn hX hY) (iT (g4 _) ?_))))))))
  rw [g5 _ _ z0]
  exact iT (by decide) (iT (g6 _) (by rw [g7]))
theorem zLm {n : Nat} {nn n2 : Int} (hN : Int.tmod nn 9 = 8) (b X Y : List Int) (kd : Int) (a v : List Int) (tm : Int) (st : Bool) : Fbn.m n (kd, a, b, v, nn, n2, X, Y, tm, st, []) = some [] := by
 unfold Fbn.m Fbn.g
 refine iT (by rw [hN]; rfl) (bO (a := []) ?_ rfl)
 unfold Fai.m Fai.g
 exact iT (by simp) rfl
theorem zJC {w : List Int} : ∀ y ∈ yP w, 0 ≤ y ∧ y < 256 := fun y hy => by
 simp only [yP, List.mem_map] at hy
 obtain ⟨i, _, rfl⟩ := hy
 unfold zCg
 omega
theorem zHT {n : Nat} (hn : 600 ≤ n) {w : List Int} (hw : W4 w) : Fbd.m n (yP w) = some w := by
 rw [zDF (n := n) (by omega) zJC (by unfold zJN; rw [z3]; omega), zJX hw]
theorem zNF {n : Nat} (hn : 600 ≤ n) (w w' : List Int) : Fbb.m n ([], j0 w w') = some (0, []) := by
 obtain ⟨k, rfl⟩ : ∃ k, n = k + 3 := ⟨n - 3, by omega⟩
 refine iF ?_ (bO (a := []) ?_ rfl)
 ·show ¬ (decide (IntKind.wrap .i64 (Int.tdiv (((j0 w w').length : Nat) : Int) 32) < 0)) = true
  rw [kV]; decide
 ·show Fbb.l5.g _ (k + 3) (k + 3) 0 0 [] (j0 w w') [] = _
  unfold Fbb.l5.g Fbb.l5.r
  exact iF (by decide) rfl
theorem zEq {n : Nat} (hn : 600 ≤ n) {w : List Int} (hw : W4 w) (w' : List Int) : Fbb.m n ([.bool false], j0 w w') = some (0, [Pt w]) := by
 obtain ⟨k, rfl⟩ : ∃ k, n = k + 3 := ⟨n - 3, by omega⟩
 have c1 : cut (j0 w w') 0 (some 32) = yP w := by
  show (yP w ++ yP w').take 32 = _
  rw [List.take_append_of_le_length (by rw [z3]; omega), ← z3 w, List.take_length]
 refine iF ?_ (bO (a := [Pt w]) ?_ rfl)
 ·show ¬ (decide (IntKind.wrap .i64 (Int.tdiv (((j0 w w').length : Nat) : Int) 32) < 1)) = true
  rw [kV]; decide
 ·show Fbb.l5.g _ (k + 3) (k + 3) 0 1 [.bool false] (j0 w w') [] = _
  unfold Fbb.l5.g Fbb.l5.r
  refine iT (by decide) (iT (by decide) (iT (show (0 : Int) < 1 by decide) (bO (a := false) rfl (iT rfl (iT (by decide) (iT (by rw [kV]; decide) (iT (by decide) (iT (by decide) (bO (a := w) ?_ (iT (by decide) ?_))))))))))
  ·exact (congrArg (Fbd.m (k + 3)) c1).trans (zHT hn hw)
  ·show Fbb.l5.g _ (k + 3) (k + 2) 1 1 [.bool false] (j0 w w') [Pt w] = _
   unfold Fbb.l5.g Fbb.l5.r
   exact iF (by decide) rfl
theorem zKJ {n : Nat} (hn : 600 ≤ n) {w w' : List Int} (hw : W4 w) (hw' : W4 w') : Fbb.m n ([.bool false, .bool false], j0 w w') = some (0, [Pt w, Pt w']) := by
 obtain ⟨k, rfl⟩ : ∃ k, n = k + 3 := ⟨n - 3, by omega⟩
 have c1 : cut (j0 w w') 0 (some 32) = yP w := by
  show (yP w ++ yP w').take 32 = _
  rw [List.take_append_of_le_length (by rw [z3]; omega), ← z3 w, List.take_length]
 have c2 : cut (j0 w w') 32 (some 64) = yP w' := by
  show ((yP w ++ yP w').drop 32).take 32 = _
  rw [List.drop_append_of_le_length (by rw [z3]; omega), ← z3 w, List.drop_length, List.nil_append, z3, ← z3 w', List.take_length]
 refine iF ?_ (bO (a := [Pt w, Pt w']) ?_ rfl)
 ·show ¬ (decide (IntKind.wrap .i64 (Int.tdiv (((j0 w w').length : Nat) : Int) 32) < 2)) = true
  rw [kV]; decide
 ·show Fbb.l5.g _ (k + 3) (k + 3) 0 2 [.bool false, .bool false] (j0 w w') [] = _
  unfold Fbb.l5.g Fbb.l5.r
  refine iT (by decide) (iT (by decide) (iT (show (0 : Int) < 2 by decide) (bO (a := false) rfl (iT rfl (iT (by decide) (iT (by rw [kV]; decide) (iT (by decide) (iT (by decide) (bO (a := w) ?_ (iT (by decide) ?_))))))))))
  ·exact (congrArg (Fbd.m (k + 3)) c1).trans (zHT hn hw)
  ·show Fbb.l5.g _ (k + 3) (k + 2) 1 2 [.bool false, .bool false] (j0 w w') [Pt w] = _
   unfold Fbb.l5.g Fbb.l5.r
   refine iT (by decide) (iT (by decide) (iT (show (1 : Int) < 2 by decide) (bO (a := false) rfl (iT rfl (iT (by decide) (iT (by rw [kV]; decide) (iT (by decide) (iT (by decide) (bO (a := w') ?_ (iT (show (([Pt w] : List AV).length + 1) * 64 ≤ 70368744177664 ∧ ([Pt w] : List AV).length + 1 ≤ 9223372036854775807 by simp) ?_))))))))))
   ·exact (congrArg (Fbd.m (k + 3)) c2).trans (zHT hn hw')
   ·show Fbb.l5.g _ (k + 3) (k + 1) 2 2 [.bool false, .bool false] (j0 w w') [Pt w, Pt w'] = _
    unfold Fbb.l5.g Fbb.l5.r
    exact iF (by decide) rfl
end Go.Abs.Pure
end
section
namespace Go.Abs.Pure
open Go Go.Abs
def zAV : List AV := [.agg [.str nm0, .int .i64 1, .bool false, .bool true], .agg [.str nm1, .int .i64 1, .bool true, .bool false], .agg [.str nm2, .int .i64 2, .bool true, .bool false], .agg [.str nm3, .int .i64 1, .bool false, .bool false], .agg [.str nm4, .int .i64 1, .bool false, .bool true], .agg [.str nm5, .int .i64 0, .bool false, .bool false], .agg [.str nm6, .int .i64 1, .bool false, .bool false], .agg [.str nm7, .int .i64 2, .bool false, .bool false]]
theorem zNp (n : Nat) : Fbo.m n () = some zAV := by kernel_rfl
structure RowAt (j : Int) (s : ByteArray) (w : Int) (l v : Bool) (r : List Int) : Prop where
 row : List.getD zAV j.toNat .any = .agg [.str s, .int .i64 w, .bool l, .bool v]
 sel : Fam.m 1000 s = some r
 rng : 0 ≤ j ∧ j < 8
theorem yK {α : Type} (mk0 : Bool → ByteArray → Int → Bool → Bool → α) (mk1 : ByteArray → Int → Bool → Bool → α) {inp : List Int} (hi : 4 ≤ inp.length) {m : Nat} {j : Int} {s : ByteArray} {w : Int} {l v : Bool} {r : List Int} (h : RowAt j s w l v r) (x4 : ByteArray) (x5 : Int) (x6 x7 : Bool) (hne : (ByteArray.toList (strOf (cut inp 0 (some 4))) == ByteArray.toList (strOf r)) = false) {R : Option α} (j' : Int) (hj : IntKind.wrap .i64 (j + 1) = j')
  (k : Fbp.l2.g mk0 mk1 1000 m j' 8 zAV inp x4 x5 x6 x7 = R) : Fbp.l2.g mk0 mk1 1000 (m + 1) j 8 zAV inp x4 x5 x6 x7 = R := by
 have h0 := h.rng
 unfold Fbp.l2.g Fbp.l2.r
 refine iT (by simp; omega) (iT (by omega) (iT (by show j < 8; omega) ?_))
 rw [h.row]
 refine bO (a := [.str s, .int .i64 w, .bool l, .bool v]) rfl (bO (a := s) rfl (bO (a := w) rfl (bO (a := l) rfl (bO (a := v) rfl (iT (by simp; omega) (iT (by omega) (bO h.sel (iF ?_ ?_))))))))
 ·rw [hne]; exact Bool.false_ne_true
 ·rw [hj]; exact k
theorem w7 {α : Type} (mk0 : Bool → ByteArray → Int → Bool → Bool → α) (mk1 : ByteArray → Int → Bool → Bool → α) {inp : List Int} (hi : 4 ≤ inp.length) {m : Nat} {j : Int} {s : ByteArray} {w : Int} {l v : Bool} {r : List Int} (h : RowAt j s w l v r) (x4 : ByteArray) (x5 : Int) (x6 x7 : Bool) (hne : (ByteArray.toList (strOf (cut inp 0 (some 4))) == ByteArray.toList (strOf r)) = true) :
  Fbp.l2.g mk0 mk1 1000 (m + 1) j 8 zAV inp x4 x5 x6 x7 = some (mk0 true s w l v) := by
 have h0 := h.rng
 unfold Fbp.l2.g Fbp.l2.r
 refine iT (by simp; omega) (iT (by omega) (iT (by show j < 8; omega) ?_))
 rw [h.row]
 exact bO (a := [.str s, .int .i64 w, .bool l, .bool v]) rfl (bO (a := s) rfl (bO (a := w) rfl (bO (a := l) rfl (bO (a := v) rfl (iT (by simp; omega) (iT (by omega) (bO h.sel (iT hne rfl))))))))
theorem j3 {α : Type} {f : List AV → Option α} {r : Option α} (k : f zAV = r) : zD (Fbo.m 1000 ()) f = r := by rw [zNp]; exact k
def sl0 : List Int := [183, 96, 250, 249]
theorem rw0 : RowAt 0 nm0 1 false true sl0 := ⟨rfl, sel0, by omega⟩
def sl1 : List Int := [112, 160, 130, 49]
theorem rw1 : RowAt 1 nm1 1 true false sl1 := ⟨rfl, sel1, by omega⟩
def sl2 : List Int := [53, 86, 126, 26]
theorem rw2 : RowAt 2 nm2 2 true false sl2 := ⟨rfl, sel2, by omega⟩
def sl3 : List Int := [11, 210, 142, 59]
theorem rw3 : RowAt 3 nm3 1 false false sl3 := ⟨rfl, sel3, by omega⟩
def sl4 : List Int := [3, 150, 203, 96]
theorem rw4 : RowAt 4 nm4 1 false true sl4 := ⟨rfl, sel4, by omega⟩
def sl5 : List Int := [187, 159, 230, 191]
theorem rw5 : RowAt 5 nm5 0 false false sl5 := ⟨rfl, sel5, by omega⟩
def sl6 : List Int := [194, 58, 92, 234]
theorem rw6 : RowAt 6 nm6 1 false false sl6 := ⟨rfl, sel6, by omega⟩
def sl7 : List Int := [32, 92, 40, 120]
theorem rw7 : RowAt 7 nm7 2 false false sl7 := ⟨rfl, sel7, by omega⟩
theorem find0 (e : List Int) : Fbp.m 1000 (sl0 ++ e) = some (nm0, 1, false, true, true) := by
 have hi : 4 ≤ (sl0 ++ e).length := by rw [List.length_append]; show 4 ≤ 4 + e.length; omega
 unfold Fbp.m Fbp.g
 refine j3 (bO (a := Sum.inl (true, nm0, 1, false, true)) ?_ rfl)
 show Fbp.l2.g _ _ 1000 1000 0 8 zAV (sl0 ++ e) ByteArray.empty 0 false false = _
 exact w7 _ _ hi (m := 999) rw0 _ _ _ _ (by kernel_rfl)
theorem find1 (e : List Int) : Fbp.m 1000 (sl1 ++ e) = some (nm1, 1, true, false, true) := by
 have hi : 4 ≤ (sl1 ++ e).length := by rw [List.length_append]; show 4 ≤ 4 + e.length; omega
 unfold Fbp.m Fbp.g
 refine j3 (bO (a := Sum.inl (true, nm1, 1, true, false)) ?_ rfl)
 show Fbp.l2.g _ _ 1000 1000 0 8 zAV (sl1 ++ e) ByteArray.empty 0 false false = _
 refine yK _ _ hi (m := 999) rw0 _ _ _ _ (by kernel_rfl) 1 rfl ?_
 exact w7 _ _ hi (m := 998) rw1 _ _ _ _ (by kernel_rfl)
theorem find2 (e : List Int) : Fbp.m 1000 (sl2 ++ e) = some (nm2, 2, true, false, true) := by
 have hi : 4 ≤ (sl2 ++ e).length := by rw [List.length_append]; show 4 ≤ 4 + e.length; omega
 unfold Fbp.m Fbp.g
 refine j3 (bO (a := Sum.inl (true, nm2, 2, true, false)) ?_ rfl)
 show Fbp.l2.g _ _ 1000 1000 0 8 zAV (sl2 ++ e) ByteArray.empty 0 false false = _
 refine yK _ _ hi (m := 999) rw0 _ _ _ _ (by kernel_rfl) 1 rfl ?_
 refine yK _ _ hi (m := 998) rw1 _ _ _ _ (by kernel_rfl) 2 rfl ?_
 exact w7 _ _ hi (m := 997) rw2 _ _ _ _ (by kernel_rfl)
theorem find3 (e : List Int) : Fbp.m 1000 (sl3 ++ e) = some (nm3, 1, false, false, true) := by
 have hi : 4 ≤ (sl3 ++ e).length := by rw [List.length_append]; show 4 ≤ 4 + e.length; omega
 unfold Fbp.m Fbp.g
 refine j3 (bO (a := Sum.inl (true, nm3, 1, false, false)) ?_ rfl)
 show Fbp.l2.g _ _ 1000 1000 0 8 zAV (sl3 ++ e) ByteArray.empty 0 false false = _
 refine yK _ _ hi (m := 999) rw0 _ _ _ _ (by kernel_rfl) 1 rfl ?_
 refine yK _ _ hi (m := 998) rw1 _ _ _ _ (by kernel_rfl) 2 rfl ?_
 refine yK _ _ hi (m := 997) rw2 _ _ _ _ (by kernel_rfl) 3 rfl ?_
 exact w7 _ _ hi (m := 996) rw3 _ _ _ _ (by kernel_rfl)
theorem find4 (e : List Int) : Fbp.m 1000 (sl4 ++ e) = some (nm4, 1, false, true, true) := by
 have hi : 4 ≤ (sl4 ++ e).length := by rw [List.length_append]; show 4 ≤ 4 + e.length; omega
 unfold Fbp.m Fbp.g
 refine j3 (bO (a := Sum.inl (true, nm4, 1, false, true)) ?_ rfl)
 show Fbp.l2.g _ _ 1000 1000 0 8 zAV (sl4 ++ e) ByteArray.empty 0 false false = _
 refine yK _ _ hi (m := 999) rw0 _ _ _ _ (by kernel_rfl) 1 rfl ?_
 refine yK _ _ hi (m := 998) rw1 _ _ _ _ (by kernel_rfl) 2 rfl ?_
 refine yK _ _ hi (m := 997) rw2 _ _ _ _ (by kernel_rfl) 3 rfl ?_
 refine yK _ _ hi (m := 996) rw3 _ _ _ _ (by kernel_rfl) 4 rfl ?_
 exact w7 _ _ hi (m := 995) rw4 _ _ _ _ (by kernel_rfl)
theorem find5 (e : List Int) : Fbp.m 1000 (sl5 ++ e) = some (nm5, 0, false, false, true) := by
 have hi : 4 ≤ (sl5 ++ e).length := by rw [List.length_append]; show 4 ≤ 4 + e.length; omega
 unfold Fbp.m Fbp.g
 refine j3 (bO (a := Sum.inl (true, nm5, 0, false, false)) ?_ rfl)
 show Fbp.l2.g _ _ 1000 1000 0 8 zAV (sl5 ++ e) ByteArray.empty 0 false false = _
 refine yK _ _ hi (m := 999) rw0 _ _ _ _ (by kernel_rfl) 1 rfl ?_
 refine yK _ _ hi (m := 998) rw1 _ _ _ _ (by kernel_rfl) 2 rfl ?_
 refine yK _ _ hi (m := 997) rw2 _ _ _ _ (by kernel_rfl) 3 rfl ?_
 refine yK _ _ hi (m := 996) rw3 _ _ _ _ (by kernel_rfl) 4 rfl ?_
 refine yK _ _ hi (m := 995) rw4 _ _ _ _ (by kernel_rfl) 5 rfl ?_
 exact w7 _ _ hi (m := 994) rw5 _ _ _ _ (by kernel_rfl)
theorem find6 (e : List Int) : Fbp.m 1000 (sl6 ++ e) = some (nm6, 1, false, false, true) := by
 have hi : 4 ≤ (sl6 ++ e).length := by rw [List.length_append]; show 4 ≤ 4 + e.length; omega
 unfold Fbp.m Fbp.g
 refine j3 (bO (a := Sum.inl (true, nm6, 1, false, false)) ?_ rfl)
 show Fbp.l2.g _ _ 1000 1000 0 8 zAV (sl6 ++ e) ByteArray.empty 0 false false = _
 refine yK _ _ hi (m := 999) rw0 _ _ _ _ (by kernel_rfl) 1 rfl ?_
 refine yK _ _ hi (m := 998) rw1 _ _ _ _ (by kernel_rfl) 2 rfl ?_
 refine yK _ _ hi (m := 997) rw2 _ _ _ _ (by kernel_rfl) 3 rfl ?_
 refine yK _ _ hi (m := 996) rw3 _ _ _ _ (by kernel_rfl) 4 rfl ?_
 refine yK _ _ hi (m := 995) rw4 _ _ _ _ (by kernel_rfl) 5 rfl ?_
 refine yK _ _ hi (m := 994) rw5 _ _ _ _ (by kernel_rfl) 6 rfl ?_
 exact w7 _ _ hi (m := 993) rw6 _ _ _ _ (by kernel_rfl)
theorem zNZ (e : List Int) : Fbp.m 1000 (sl7 ++ e) = some (nm7, 2, false, false, true) := by
 have hi : 4 ≤ (sl7 ++ e).length := by rw [List.length_append]; show 4 ≤ 4 + e.length; omega
 unfold Fbp.m Fbp.g
 refine j3 (bO (a := Sum.inl (true, nm7, 2, false, false)) ?_ rfl)
 show Fbp.l2.g _ _ 1000 1000 0 8 zAV (sl7 ++ e) ByteArray.empty 0 false false = _
 refine yK _ _ hi (m := 999) rw0 _ _ _ _ (by kernel_rfl) 1 rfl ?_
 refine yK _ _ hi (m := 998) rw1 _ _ _ _ (by kernel_rfl) 2 rfl ?_
 refine yK _ _ hi (m := 997) rw2 _ _ _ _ (by kernel_rfl) 3 rfl ?_
 refine yK _ _ hi (m := 996) rw3 _ _ _ _ (by kernel_rfl) 4 rfl ?_
 refine yK _ _ hi (m := 995) rw4 _ _ _ _ (by kernel_rfl) 5 rfl ?_
 refine yK _ _ hi (m := 994) rw5 _ _ _ _ (by kernel_rfl) 6 rfl ?_
 refine yK _ _ hi (m := 993) rw6 _ _ _ _ (by kernel_rfl) 7 rfl ?_
 exact w7 _ _ hi (m := 992) rw7 _ _ _ _ (by kernel_rfl)
end Go.Abs.Pure
end
section
namespace Go.Abs.Pure
open Go Go.Abs
section
variable (n k : Nat) (t : Int) (c v : List Int) (r x : Int) (p q o j z : List AV) (nm : ByteArray) (w : Int) (lk vl : Bool)
theorem args0 : Fy.l10.m n (k + 5) (0, 0, t, c, v, r, x, p, q, o, j, z, [], nm, w, lk, vl, []) = some (t, c, v, r, x, p, q, o, j, z, nm, w, lk, vl, []) := by kernel_rfl
theorem args1 (a : List Int) : Fy.l10.m n (k + 5) (0, 1, t, c, v, r, x, p, q, o, j, z, [Pt a], nm, w, lk, vl, []) = some (t, c, v, r, x, p, q, o, j, z, nm, w, lk, vl, [W a]) := by kernel_rfl
theorem args2 (a b : List Int) : Fy.l10.m n (k + 5) (0, 2, t, c, v, r, x, p, q, o, j, z, [Pt a, Pt b], nm, w, lk, vl, []) = some (t, c, v, r, x, p, q, o, j, z, nm, w, lk, vl, [W a, W b]) := by kernel_rfl
end
variable {n : Nat} (t : Int) {c : List Int} (v : List Int) (r x : Int) (j z : List AV) (lp : Ac) (lq lo : Sl) {T : Int}
def zNh (n : Nat) (inp : List Int) (s : Bool) (t : Int) (c v : List Int) (r x : Int) (lp : Ac) (lq lo : Sl) (j z : List AV) (T : Int) : Prop :=
 (∃ nm k, k ≤ 2 ∧ Fy.m n (inp, s, t, c, v, r, x, pL lp, qL lq, qL lo, j, z) = some (.inl (nm, k, t, c, v, r, x, pL lp, qL lq, qL lo, z, [], j))) ∨
 (∃ nm k l, k ≤ 2 ∧ Fy.m n (inp, s, t, c, v, r, x, pL lp, qL lq, qL lo, j, z) = some (.inr (.inl (nm, k, t, c, v, r, x, pL lp, qL lq, qL lo, z, [], l, j)))) ∨
  ∃ B lp' lq' lo' j' out l, Inv T B B lp' lq' ∧ j'.length ≤ j.length + 4 ∧ Fy.m n (inp, s, t, c, v, r, x, pL lp, qL lq, qL lo, j, z) = some (.inr (.inr (t, c, v, r, x, pL lp', qL lq', qL lo', z, out, l, j')))
theorem zAc {inp : List Int} (s : Bool) {nm : ByteArray} {w : Int} {lk vl : Bool} (hf : Fbp.m n inp = some (nm, w, lk, vl, true)) (hl : 4 ≤ inp.length) (hw : 0 ≤ w ∧ w ≤ 2) {ps ws : List AV}
  (hd : Fbb.m n (List.replicate w.toNat (.bool false), cut inp 4 none) = some (0, ps)) (ha : Fy.l10.m n n (0, ((ps.length : Nat) : Int), t, c, v, r, x, pL lp, qL lq, qL lo, j, z, ps, nm, w, lk, vl, []) = some (t, c, v, r, x, pL lp, qL lq, qL lo, j, z, nm, w, lk, vl, ws))
  (h : (vl = true ∨ v = [0, 0, 0, 0]) → zGP n nm t c v r x ws lp lq lo j z T) : zNh n inp s t c v r x lp lq lo j z T := by
 have c1 : w * ((1 : Nat) : Int) ≤ 140737488355328 := by omega
 have c2 : w ≤ 1152921504606846976 := by omega
 have c3 : 4 ≤ ((inp.length : Nat) : Int) := by omega
 have hz : ∀ {α : Type} {a b r : Option α}, v = [0, 0, 0, 0] → b = r → (if (!(v == [0, 0, 0, 0])) = true then a else b) = r := fun e k => iF (by rw [e]; decide) k
 have hz' : ∀ {α : Type} {a b r : Option α}, v ≠ [0, 0, 0, 0] → a = r → (if (!(v == [0, 0, 0, 0])) = true then a else b) = r := fun e k => iT (by simpa using e) k
 by_cases hs : s = true ∧ lk = false
 ·obtain ⟨rfl, rfl⟩ := hs
  refine .inl ⟨nm, 1, by omega, ?_⟩
  unfold Fy.m Fy.g
  exact bO hf (iF' rfl (iT hw.1 (iT (Int.le_refl w) (iT c1 (iT c2 (iT c3 (bO hd (iF' rfl (iT rfl (iT rfl rfl))))))))))
 by_cases hv : vl = true ∨ v = [0, 0, 0, 0]
 ·have hd2 := h hv
  unfold zNh
  unfold zGP at hd2
  unfold Fy.m Fy.g
  rcases hd2 with ⟨k, hk, e⟩ | ⟨B, lp', lq', lo', j', out, i, e1, e⟩
  ·refine .inr (.inl ⟨nm, k, ws, hk, ?_⟩)
   refine bO hf (iF' rfl (iT hw.1 (iT (Int.le_refl w) (iT c1 (iT c2 (iT c3 (bO hd (iF' rfl ?_))))))))
   cases s
   ·refine iF' rfl ?_
    cases vl
    ·exact iT rfl (hz (hv.resolve_left (by decide)) (bO ha (bO e rfl)))
    ·exact iF' rfl (bO ha (bO e rfl))
   ·cases lk
    ·exact absurd ⟨rfl, rfl⟩ hs
    ·refine iT rfl (iF' rfl ?_)
     cases vl
     ·exact iT rfl (hz (hv.resolve_left (by decide)) (bO ha (bO e rfl)))
     ·exact iF' rfl (bO ha (bO e rfl))
  ·refine .inr (.inr ⟨B, lp', lq', lo', j', out, ws, i, e1, ?_⟩)
   refine bO hf (iF' rfl (iT hw.1 (iT (Int.le_refl w) (iT c1 (iT c2 (iT c3 (bO hd (iF' rfl ?_))))))))
   cases s
   ·refine iF' rfl ?_
    cases vl
    ·exact iT rfl (hz (hv.resolve_left (by decide)) (bO ha (bO e rfl)))
    ·exact iF' rfl (bO ha (bO e rfl))
   ·cases lk
    ·exact absurd ⟨rfl, rfl⟩ hs
    ·refine iT rfl (iF' rfl ?_)
     cases vl
     ·exact iT rfl (hz (hv.resolve_left (by decide)) (bO ha (bO e rfl)))
     ·exact iF' rfl (bO ha (bO e rfl))
 ·have hv1 : vl = false := by cases vl <;> simp_all
  have hv2 : v ≠ [0, 0, 0, 0] := fun e => hv (.inr e)
  subst hv1
  refine .inl ⟨nm, 1, by omega, ?_⟩
  unfold Fy.m Fy.g
  refine bO hf (iF' rfl (iT hw.1 (iT (Int.le_refl w) (iT c1 (iT c2 (iT c3 (bO hd (iF' rfl ?_))))))))
  cases s
  ·exact iF' rfl (iT rfl (hz' hv2 rfl))
  ·cases lk
   ·exact absurd ⟨rfl, rfl⟩ hs
   ·exact iT rfl (iF' rfl (iT rfl (hz' hv2 rfl)))
def zIw (n : Nat) (inp : List Int) (s : Bool) (t : Int) (c v : List Int) (r x : Int) (lp : Ac) (lq lo : Sl) (j z : List AV) (T : Int) : Prop :=
 Fbr.m n (t, c, v, inp, s, r, x, pL lp, qL lq, qL lo, j, z) = some (false, r, x, pL lp, qL lq, qL lo, z, [], j) ∨
  ∃ B lp' lq' lo' j' out, Inv T B B lp' lq' ∧ j'.length ≤ j.length + 4 ∧ Fbr.m n (t, c, v, inp, s, r, x, pL lp, qL lq, qL lo, j, z) = some (true, r, x, pL lp', qL lq', qL lo', z, out, j')
theorem is1 (n : Nat) (nm : ByteArray) (b : Bool) {k m : Nat} (hk : k ≤ 2) (hm : m ≤ 2) (e : decide (k = m) = b) : errors_Is1.m n (nm, k, m) = some b := iT hk (iT hm (congrArg some e))
theorem zBb {inp : List Int} {s : Bool} (hl : 4 ≤ inp.length) (h : zNh n inp s t c v r x lp lq lo j z T) : zIw n inp s t c v r x lp lq lo j z T := by
 have c0 : ¬ (((inp.length : Nat) : Int) == 0) = true := by simp; intro e; rw [e] at hl; simp at hl
 rcases h with ⟨nm, k, hk, e⟩ | ⟨nm, k, l, hk, e⟩ | ⟨B, lp', lq', lo', j', out, l, i, e1, e⟩
 ·refine .inl ?_
  unfold Fbr.m Fbr.g
  refine iF c0 (bO e ?_)
  match k, hk with
  | 0, hk => exact bO (is1 n nm true hk (by omega) rfl) (iT rfl rfl)
  | 1, hk => exact bO (is1 n nm false hk (by omega) rfl) (iF' rfl (bO (is1 n nm true hk (by omega) rfl) (iT rfl rfl)))
  | 2, hk => exact bO (is1 n nm false hk (by omega) rfl) (iF' rfl (bO (is1 n nm false hk (by omega) rfl) (iF' rfl (bO (is1 n nm true hk (by omega) rfl) (iT rfl rfl)))))
 ·refine .inl ?_
  unfold Fbr.m Fbr.g
  refine iF c0 (bO e ?_)
  match k, hk with
  | 0, hk => exact bO (is1 n nm true hk (by omega) rfl) (iT rfl rfl)
  | 1, hk => exact bO (is1 n nm false hk (by omega) rfl) (iF' rfl (bO (is1 n nm true hk (by omega) rfl) (iT rfl rfl)))
  | 2, hk => exact bO (is1 n nm false hk (by omega) rfl) (iF' rfl (bO (is1 n nm false hk (by omega) rfl) (iF' rfl (bO (is1 n nm true hk (by omega) rfl) (iT rfl rfl)))))
 ·refine .inr ⟨B, lp', lq', lo', j', out, i, e1, ?_⟩
  unfold Fbr.m Fbr.g
  exact iF c0 (bO e (bO (a := false) rfl (iF' rfl (bO (a := false) rfl (iF' rfl (bO (a := false) rfl (iF' rfl rfl)))))))
end Go.Abs.Pure
end
section
namespace Go.Abs.Pure
open Go Go.Abs
variable (t : Int) {c b : List Int} (hc : Adr c) (hb : Adr b) (hbs : b ≠ zY) (r x : Int) (j z : List AV) (lp : Ac) (lq lo : Sl) {T B K w y xx : Int} (h : Inv T B K lp lq) (hw : 0 ≤ w ∧ K + w ≤ B) (hj : j.length ≤ 99990) (hy : 0 ≤ y ∧ y < 18446744073709551616) (hx : 0 ≤ xx ∧ xx < 4294967296) (s : Bool)
theorem wl_W4 (b : List Int) : W4 (wl b) := zHY _
theorem zIB {y : Int} (h : 0 ≤ y ∧ y < 18446744073709551616) : W4 (w1 y) := .mk h (by omega) (by omega) (by omega)
theorem zJu {sl e : List Int} (h : sl.length = 4) : cut (sl ++ e) 4 none = e := by
 show (sl ++ e).drop 4 = e
 rw [List.drop_append_of_le_length (by omega), ← h, List.drop_length, List.nil_append]
theorem zDd {sl e : List Int} (h : sl.length = 4) : 4 ≤ (sl ++ e).length := by rw [List.length_append]; omega
theorem ag0 {n : Nat} (hn : 600 ≤ n) (t : Int) (c v : List Int) (r x : Int) (p q o j z : List AV) (nm : ByteArray) (w : Int) (lk vl : Bool) : Fy.l10.m n n (0, ((([] : List AV).length : Nat) : Int), t, c, v, r, x, p, q, o, j, z, [], nm, w, lk, vl, []) = some (t, c, v, r, x, p, q, o, j, z, nm, w, lk, vl, []) := by
 obtain ⟨k, rfl⟩ : ∃ k, n = k + 5 := ⟨n - 5, by omega⟩
 exact args0 _ _ _ _ _ _ _ _ _ _ _ _ _ _ _ _
theorem ag1 {n : Nat} (hn : 600 ≤ n) (t : Int) (c v : List Int) (r x : Int) (p q o j z : List AV) (nm : ByteArray) (w : Int) (lk vl : Bool) (a : List Int) : Fy.l10.m n n (0, ((([Pt a] : List AV).length : Nat) : Int), t, c, v, r, x, p, q, o, j, z, [Pt a], nm, w, lk, vl, []) = some (t, c, v, r, x, p, q, o, j, z, nm, w, lk, vl, [W a]) := by
 obtain ⟨k, rfl⟩ : ∃ k, n = k + 5 := ⟨n - 5, by omega⟩
 exact args1 _ _ _ _ _ _ _ _ _ _ _ _ _ _ _ _ _
theorem ag2 {n : Nat} (hn : 600 ≤ n) (t : Int) (c v : List Int) (r x : Int) (p q o j z : List AV) (nm : ByteArray) (w : Int) (lk vl : Bool) (a b : List Int) : Fy.l10.m n n (0, ((([Pt a, Pt b] : List AV).length : Nat) : Int), t, c, v, r, x, p, q, o, j, z, [Pt a, Pt b], nm, w, lk, vl, []) = some (t, c, v, r, x, p, q, o, j, z, nm, w, lk, vl, [W a, W b]) := by
 obtain ⟨k, rfl⟩ : ∃ k, n = k + 5 := ⟨n - 5, by omega⟩
 exact args2 _ _ _ _ _ _ _ _ _ _ _ _ _ _ _ _ _ _
theorem hn : 600 ≤ 1000 := by decide
theorem zMs : (0 : Int) ≤ 1 ∧ (1 : Int) ≤ 2 := by decide
def first (k : Nat) (b : List Int) (xx : Int) : List Int := if k = 3 ∨ k = 4 then w1 xx else wl b
def slk : Nat → List Int
 | 0 => sl0 | 1 => sl1 | 2 => sl2 | 3 => sl3 | 4 => sl4 | 5 => sl5 | 6 => sl6 | _ => sl7
include hc hb hbs h hw hj hy hx in
theorem zOs {k : Nat} (hk : k < 8) : zIw 1000 (slk k ++ j0 (first k b xx) (w1 y)) s t c (w1 w) r x lp lq lo j z T := by
 have hY := zIB hy
 have hB := wl_W4 b
 match k, hk with
 | 0, _ => exact zBb t _ r x j z lp lq lo (zDd rfl) (zAc t _ r x j z lp lq lo s (find0 _) (zDd rfl) zMs (by rw [zJu rfl]; exact zEq hn hB _) (ag1 hn _ _ _ _ _ _ _ _ _ _ _ _ _ _ _) fun _ => does0 hn t hb r x j z lp lq lo h hw hj)
 | 1, _ => exact zBb t _ r x j z lp lq lo (zDd rfl) (zAc t _ r x j z lp lq lo s (find1 _) (zDd rfl) zMs (by rw [zJu rfl]; exact zEq hn hB _) (ag1 hn _ _ _ _ _ _ _ _ _ _ _ _ _ _ _) fun _ => does1 hn t hb r x j z lp lq lo h _)
 | 2, _ => exact zBb t _ r x j z lp lq lo (zDd rfl) (zAc t _ r x j z lp lq lo s (find2 _) (zDd rfl) (by decide) (by rw [zJu rfl]; exact zKJ hn hB hY) (ag2 hn _ _ _ _ _ _ _ _ _ _ _ _ _ _ _ _) fun _ => does2 hn t hb r x j z lp lq lo h _)
 | 3, _ => exact zBb t _ r x j z lp lq lo (zDd rfl) (zAc t _ r x j z lp lq lo s (find3 _) (zDd rfl) zMs (by rw [zJu rfl]; exact zEq hn (zIB (y := xx) (by omega)) _) (ag1 hn _ _ _ _ _ _ _ _ _ _ _ _ _ _ _) fun _ => does3 hn t hc r x j z lp lq lo h hj _)
 | 4, _ => exact zBb t _ r x j z lp lq lo (zDd rfl) (zAc t _ r x j z lp lq lo s (find4 _) (zDd rfl) zMs (by rw [zJu rfl]; exact zEq hn (zIB (y := xx) (by omega)) _) (ag1 hn _ _ _ _ _ _ _ _ _ _ _ _ _ _ _) fun _ => does4 hn t hc r x j z lp lq lo h hw hj hx)
 | 5, _ => exact zBb t _ r x j z lp lq lo (zDd rfl) (zAc t _ r x j z lp lq lo s (find5 _) (zDd rfl) (by decide) (by rw [zJu rfl]; exact zNF hn _ _) (ag0 hn _ _ _ _ _ _ _ _ _ _ _ _ _ _) fun _ => does5 hn t hc r x _ j z lp lq lo h hj _)
 | 6, _ => exact zBb t _ r x j z lp lq lo (zDd rfl) (zAc t _ r x j z lp lq lo s (find6 _) (zDd rfl) zMs (by rw [zJu rfl]; exact zEq hn hB _) (ag1 hn _ _ _ _ _ _ _ _ _ _ _ _ _ _ _) fun _ => does6 hn t hc hb hbs r x j z lp lq lo h hj _)
 | 7, _ => exact zBb t _ r x j z lp lq lo (zDd rfl) (zAc t _ r x j z lp lq lo s (zNZ _) (zDd rfl) (by decide) (by rw [zJu rfl]; exact zKJ hn hB hY) (ag2 hn _ _ _ _ _ _ _ _ _ _ _ _ _ _ _ _) fun _ => does7 hn t hc hb hbs r x j z lp lq lo h hj _ hy)
include hc h hw hj in
theorem zMO : zIw 1000 [] s t c (w1 w) r x lp lq lo j z T := by
 obtain ⟨d, s1, h1, h2, h3, h4, h5⟩ := h.has hc
 have hp := h.pos
 unfold zIw Fbr.m Fbr.g
 cases s
 ·obtain ⟨lo1, j1, e1, e2⟩ := zHt (n := 1000) r x (pL lp) j z lq lo hn hc h1 h3 hw.1 (by omega) (by omega)
  exact .inr ⟨B, lp, _, lo1, j1, [], h.deposit (K' := B) hc h1 (d' := d + w) (by omega) (by omega) (Int.le_refl _), by omega, iT rfl (iT rfl (bO e2 rfl))⟩
 ·exact .inl (iT rfl (iF' rfl rfl))
end Go.Abs.Pure
end
section
namespace Go.Abs.Pure
open Go Go.Abs
abbrev kL (L : List (List Int)) : List AV := L.map Ka
theorem zAj (L : List (List Int)) : (kL L).length = L.length := by simp
theorem zKF {L : List (List Int)} {i : Nat} (h : i < L.length) : tkInts .u8 20 ((kL L).getD (Int.toNat (i : Int)) .any) = some (L.getD i []) := by
 rw [Int.toNat_natCast]
 simp [List.getD_eq_getElem?_getD, h, Ka, tkInts]
theorem zEJ {i : Nat} (h : i < 1000) : IntKind.wrap .i64 ((i : Int) + 1) = ((i + 1 : Nat) : Int) := by rw [zAT]; omega
theorem zDG {n : Nat} {L : List (List Int)} (hL : L.length ≤ 900) {i : Nat} (hi : i < L.length) : ∀ (r k m : Nat), k + r = L.length → r < m →
  Faq.l3.g (fun a0 a1 => (a0, a1)) n m (k : Int) (i : Int) (kL L) (kL (if k ≤ i then L.take k else (L.take k).eraseIdx i)) = some (kL L, kL (L.eraseIdx i))
 | 0, k, m + 1, hk, hm => by
  unfold Faq.l3.g Faq.l3.r
  refine iF (by rw [zAj]; simp; omega) ?_
  rw [if_neg (by omega), show k = L.length by omega, List.take_length]
 | r + 1, k, m + 1, hk, hm => by
  have ih := zDG (n := n) hL hi r (k + 1) m (by omega) (by omega)
  have hkl : k < L.length := by omega
  unfold Faq.l3.g Faq.l3.r
  refine iT (by rw [zAj]; simp; omega) ?_
  rw [zEJ (by omega)]
  by_cases h : k = i
  ·subst h
   refine iF (by simp) ?_
   rw [if_neg (by omega)] at ih
   rw [if_pos (Nat.le_refl k)]
   have e : (L.take (k + 1)).eraseIdx k = L.take k := by
    rw [List.take_add_one, List.eraseIdx_append_of_length_le (by simp; omega)]
    simp [List.getElem?_eq_getElem hkl, Nat.min_eq_left (Nat.le_of_lt hkl)]
   rw [e] at ih
   exact ih
  ·refine iT (by simp; omega) (iT (by omega) (iT (by rw [zAj]; omega) (bO (zKF hkl) (iT ?_ ?_))))
   ·rw [zAj]
    have : (if k ≤ i then L.take k else (L.take k).eraseIdx i).length ≤ L.length := by
     split
     ·simp; omega
     ·exact Nat.le_trans (List.length_eraseIdx_le _ _) (by simp; omega)
    omega
   ·have e : kL (if k ≤ i then L.take k else (L.take k).eraseIdx i) ++ [AV.ints .u8 20 (L.getD k [])] = kL (if k + 1 ≤ i then L.take (k + 1) else (L.take (k + 1)).eraseIdx i) := by
     have e1 : L.take (k + 1) = L.take k ++ [L.getD k []] := by
      rw [List.take_add_one, List.getElem?_eq_getElem hkl, List.getD_eq_getElem?_getD, List.getElem?_eq_getElem hkl]; rfl
     by_cases h1 : k ≤ i
     ·rw [if_pos h1, if_pos (by omega), e1]; simp [Ka]
     ·rw [if_neg h1, if_neg (by omega), e1, List.eraseIdx_append_of_lt_length (by simp; omega)]; simp [Ka]
    rw [e]
    exact ih
theorem zJP {n : Nat} (hn : 950 ≤ n) {L : List (List Int)} (hL : L.length ≤ 900) {i : Nat} (hi : i < L.length) : Faq.m n ((i : Int), kL L) = some (kL L, kL (L.eraseIdx i)) := by
 have := zDG (n := n) hL hi L.length 0 n (by omega) (by omega)
 rw [if_pos (Nat.zero_le i)] at this
 refine bO (a := (kL L, kL (L.eraseIdx i))) ?_ rfl
 exact this
section
variable {α : Type} {n : Nat} (hn : 950 ≤ n) {r x : Int} {p q o j z : List AV} {L : List (List Int)} (hL : L.length ≤ 900)
 {self : (Int × (Int × ((List AV) × ((List AV) × ((List AV) × ((List AV) × ((List AV) × (List AV)))))))) → Option (Bool × (Int × (Int × ((List AV) × ((List AV) × ((List AV) × ((List AV) × ((List AV) × (List AV)))))))))}
 (hs : ∀ i, i < L.length → self (r, x, kL (L.eraseIdx i), p, q, o, j, z) = some (true, r, x, kL (L.eraseIdx i), p, q, o, j, z)) (w : List Int)
include hn hL hs in
theorem zNY {mk0 : Bool → Int → Int → Int → (List AV) → (List AV) → (List AV) → (List AV) → (List AV) → (List AV) → (List Int) → α} {mk1 : Int → Int → Int → (List AV) → (List AV) → (List AV) → (List AV) → (List AV) → (List AV) → (List Int) → α} {i : Nat} (hi : i < L.length) : ∀ (d k m : Nat), k + d = i → d < m →
  Fbc.l6.g mk0 mk1 n self m (k : Int) (i : Int) r x (kL L) p q o j z w = some (mk0 true (i : Int) r x (kL L) p q o j z w) ∨
  (Fbc.l6.g mk0 mk1 n self m (k : Int) (i : Int) r x (kL L) p q o j z w = some (mk1 (i : Int) r x (kL L) p q o j z w) ∧ ∀ k', k ≤ k' → k' < i → L.getD k' [] ≠ L.getD i [])
 | 0, k, m + 1, hk, hm => by
  refine .inr ⟨?_, fun k' h1 h2 => by omega⟩
  unfold Fbc.l6.g Fbc.l6.r
  exact iF (by simp; omega) rfl
 | d + 1, k, m + 1, hk, hm => by
  have g0 : (decide ((k : Int) < (i : Int))) = true := by simp; omega
  have g1 : (0 : Int) ≤ (k : Int) := by omega
  have g2 : (k : Int) < (((kL L).length : Nat) : Int) := by rw [zAj]; omega
  have g3 : (0 : Int) ≤ (i : Int) := by omega
  have g4 : (i : Int) < (((kL L).length : Nat) : Int) := by rw [zAj]; omega
  have a1 := zKF (L := L) (i := k) (by omega)
  have a2 := zKF (L := L) (i := i) hi
  unfold Fbc.l6.g Fbc.l6.r
  by_cases h : L.getD k [] = L.getD i []
  ·exact .inl (iT g0 (iT g1 (iT g2 (bO a1 (iT g3 (iT g4 (bO a2 (iT (by simpa using h) (bO (zJP hn hL hi) (bO (hs i hi) rfl))))))))))
  ·rcases zNY (mk0 := mk0) (mk1 := mk1) hi d (k + 1) m (by omega) (by omega) with e | ⟨e, e2⟩
   ·refine .inl (iT g0 (iT g1 (iT g2 (bO a1 (iT g3 (iT g4 (bO a2 (iF (by simpa using h) ?_))))))))
    rw [zEJ (by omega)]
    exact e
   ·refine .inr ⟨iT g0 (iT g1 (iT g2 (bO a1 (iT g3 (iT g4 (bO a2 (iF (by simpa using h) ?_))))))), fun k' h1 h2 => ?_⟩
    ·rw [zEJ (by omega)]
     exact e
    ·by_cases hk' : k' = k
     ·subst hk'; exact h
     ·exact e2 k' (by omega) h2
include hn hL hs in
theorem zNT {mk0 : Bool → Int → Int → (List AV) → (List AV) → (List AV) → (List AV) → (List AV) → (List AV) → (List Int) → α} {mk1 : Int → Int → (List AV) → (List AV) → (List AV) → (List AV) → (List AV) → (List AV) → (List Int) → α} : ∀ (d i m : Nat), i + d = L.length → d < m →
  Fbc.l3.g mk0 mk1 n self m (i : Int) r x (kL L) p q o j z w = some (mk0 true r x (kL L) p q o j z w) ∨
  (Fbc.l3.g mk0 mk1 n self m (i : Int) r x (kL L) p q o j z w = some (mk1 r x (kL L) p q o j z w) ∧ ∀ i', i ≤ i' → i' < L.length → ∀ k', k' < i' → L.getD k' [] ≠ L.getD i' [])
 | 0, i, m + 1, hi, hm => by
  refine .inr ⟨?_, fun i' h1 h2 => by omega⟩
  unfold Fbc.l3.g Fbc.l3.r
  exact iF (by rw [zAj]; simp; omega) rfl
 | d + 1, i, m + 1, hi, hm => by
  have g0 : (decide ((i : Int) < (((kL L).length : Nat) : Int))) = true := by rw [zAj]; simp; omega
  have hil : i < L.length := by omega
  unfold Fbc.l3.g Fbc.l3.r
  rcases zNY (mk0 := fun a0 a1 a2 a3 a4 a5 a6 a7 a8 a9 a10 => Sum.inl (a0, a1, a2, a3, a4, a5, a6, a7, a8, a9, a10)) (mk1 := fun a0 a1 a2 a3 a4 a5 a6 a7 a8 a9 => Sum.inr (a0, a1, a2, a3, a4, a5, a6, a7, a8, a9)) hn hL hs w hil i 0 n (by omega) (by omega) with e | ⟨e, e2⟩
  ·exact .inl (iT g0 (bO (a := Sum.inl (true, (i : Int), r, x, kL L, p, q, o, j, z, w)) e rfl))
  ·rcases zNT (mk0 := mk0) (mk1 := mk1) d (i + 1) m (by omega) (by omega) with f | ⟨f, f2⟩
   ·refine .inl (iT g0 (bO (a := Sum.inr ((i : Int), r, x, kL L, p, q, o, j, z, w)) e ?_))
    show Fbc.l3.g mk0 mk1 n self m (IntKind.wrap .i64 ((i : Int) + 1)) r x (kL L) p q o j z w = _
    rw [zEJ (by omega)]
    exact f
   ·refine .inr ⟨iT g0 (bO (a := Sum.inr ((i : Int), r, x, kL L, p, q, o, j, z, w)) e ?_), fun i' h1 h2 k' h3 => ?_⟩
    ·show Fbc.l3.g mk0 mk1 n self m (IntKind.wrap .i64 ((i : Int) + 1)) r x (kL L) p q o j z w = _
     rw [zEJ (by omega)]
     exact f
    ·by_cases hh : i' = i
     ·subst hh; exact e2 k' (Nat.zero_le _) h3
     ·exact f2 i' (by omega) h2 k' h3
end
theorem zFR (f : List Int → Int) : ∀ (L : List (List Int)) (i : Nat), i < L.length → zAU f (L.drop i) = f (L.getD i []) + zAU f (L.drop (i + 1))
 | a :: L, 0, _ => by simp [zAU]
 | a :: L, i + 1, h => by
  have := zFR f L i (by simpa using h)
  simpa using this
theorem zFj {f : List Int → Int} : ∀ {L : List (List Int)}, (∀ a ∈ L, 0 ≤ f a) → 0 ≤ zAU f L
 | [], _ => by simp [zAU]
 | a :: L, h => by
  have h1 := h a (by simp)
  have h2 := zFj (f := f) (L := L) fun b hb => h b (by simp [hb])
  simp only [zAU]; omega
section
variable {α : Type} {n : Nat} (hn : 950 ≤ n) {r x : Int} {p o j z : List AV} {L : List (List Int)} (hL : L.length ≤ 900) (hA : ∀ a ∈ L, Adr a) {T B K : Int} {lp : Ac} {lq : Sl} (h : Inv T B K lp lq)
 (self : (Int × (Int × ((List AV) × ((List AV) × ((List AV) × ((List AV) × ((List AV) × (List AV)))))))) → Option (Bool × (Int × (Int × ((List AV) × ((List AV) × ((List AV) × ((List AV) × ((List AV) × (List AV))))))))))
include hn hL hA h in
theorem sums {mk0 : Bool → Int → Int → (List AV) → (List AV) → (List AV) → (List AV) → (List AV) → (List AV) → α} {mk1 : Int → Int → (List AV) → (List AV) → (List AV) → (List AV) → (List AV) → (List AV) → α} : ∀ (d i m : Nat) (left : Int), i + d = L.length → d < m → zAU (wt lq) (L.drop i) ≤ left → left ≤ T →
  Fbc.l11.g mk0 mk1 n self m (i : Int) r x (kL L) p (qL lq) o j z (w1 left) = some (mk1 r x (kL L) p (qL lq) o j z)
 | 0, i, m + 1, left, hi, hm, hle, hT => by
  unfold Fbc.l11.g Fbc.l11.r
  exact iF (by rw [zAj]; simp; omega) rfl
 | d + 1, i, m + 1, left, hi, hm, hle, hT => by
  have hil : i < L.length := by omega
  have g0 : (decide ((i : Int) < (((kL L).length : Nat) : Int))) = true := by rw [zAj]; simp; omega
  have g1 : (0 : Int) ≤ (i : Int) := by omega
  have g2 : (i : Int) < (((kL L).length : Nat) : Int) := by rw [zAj]; omega
  have a1 := zKF (L := L) (i := i) hil
  have hm1 : L.getD i [] ∈ L := by rw [List.getD_eq_getElem?_getD, List.getElem?_eq_getElem hil]; exact List.getElem_mem hil
  have ha := hA _ hm1
  obtain ⟨dd, s, h1, h2, h3, h4⟩ := h.ws _ ha
  have hp := h.pos
  have e1 := zDK (n := n) r x p o j z lq (by omega) ha
  have e2 := zAO (n := n) r x p o j z lq (by omega) ha
  rw [h2] at e1
  rw [h1] at e2
  have e3 : wt lq (L.getD i []) = dd + s := by simp only [wt, h1, h2, List.getD_cons_zero]
  rw [zFR _ _ _ hil, e3] at hle
  have hnn : 0 ≤ zAU (wt lq) (L.drop (i + 1)) := zFj fun a ha' => by
   obtain ⟨d', s', k1, k2, k3, k4⟩ := h.ws a (hA a (List.mem_of_mem_drop ha'))
   simp only [wt, k1, k2, List.getD_cons_zero]; omega
  have l1 := zNV (n := n) (a := left) (b := dd) (by omega) (by omega) h3 (by omega)
  have l2 := zNV (n := n) (a := left - dd) (b := s) (by omega) (by omega) h4 (by omega)
  have ih := sums (mk0 := mk0) (mk1 := mk1) d (i + 1) m (left - dd - s) (by omega) (by omega) (by omega) (by omega)
  unfold Fbc.l11.g Fbc.l11.r
  refine iT g0 (iT g1 (iT g2 (bO a1 (bO e1 (iT g1 (iT g2 (bO a1 (bO e2 (bO l1 (bO l2 (iF (by simp) (iF (by simp) ?_))))))))))))
  show Fbc.l11.g mk0 mk1 n self m (IntKind.wrap .i64 ((i : Int) + 1)) r x (kL L) p (qL lq) o j z (w1 (left - dd - s)) = _
  rw [zEJ (by omega)]
  exact ih
end
theorem zIY : ∀ {L : List (List Int)}, (∀ i', i' < L.length → ∀ k', k' < i' → L.getD k' [] ≠ L.getD i' []) → L.Nodup
 | [], _ => List.nodup_nil
 | a :: L, h => by
  refine List.nodup_cons.2 ⟨fun hm => ?_, zIY fun i' h1 k' h2 => ?_⟩
  ·obtain ⟨i, hi, e⟩ := List.mem_iff_getElem.1 hm
   have := h (i + 1) (by simpa using hi) 0 (by omega)
   simp [List.getD_eq_getElem?_getD, List.getElem?_eq_getElem hi, e] at this
  ·have := h (i' + 1) (by simpa using h1) (k' + 1) (by omega)
   simpa using this
theorem zHu {n : Nat} (hn : 950 ≤ n) {r x : Int} {o j z : List AV} {T B K : Int} {lp : Ac} {lq : Sl} (h : Inv T B K lp lq) : ∀ (d : Nat) (L : List (List Int)), L.length < d → L.length ≤ 900 → (∀ a ∈ L, Adr a) →
  Fbc.mr n d (r, x, kL L, pL lp, qL lq, o, j, z) = some (true, r, x, kL L, pL lp, qL lq, o, j, z)
 | d + 1, L, hd, hL, hA => by
  have hs : ∀ i, i < L.length → Fbc.mr n d (r, x, kL (L.eraseIdx i), pL lp, qL lq, o, j, z) = some (true, r, x, kL (L.eraseIdx i), pL lp, qL lq, o, j, z) := fun i hi =>
   zHu hn h d (L.eraseIdx i) (by rw [List.length_eraseIdx_of_lt hi]; omega) (by rw [List.length_eraseIdx_of_lt hi]; omega) fun a ha => hA a (List.mem_of_mem_eraseIdx ha)
  have hp := h.pos
  unfold Fbc.mr Fbc.h Fbc.g
  refine bO (qU (n := n)) (bO (zBY r x o j z lp zY (qL lq)) ?_)
  rw [h.self]
  rcases zNT (mk0 := fun a0 a1 a2 a3 a4 a5 a6 a7 a8 a9 => Sum.inl (a0, a1, a2, a3, a4, a5, a6, a7, a8, a9)) (mk1 := fun a0 a1 a2 a3 a4 a5 a6 a7 a8 => Sum.inr (a0, a1, a2, a3, a4, a5, a6, a7, a8)) hn hL hs (w1 B) L.length 0 n (by omega) (by omega) with e | ⟨e, e2⟩
  ·exact bO (a := Sum.inl (true, r, x, kL L, pL lp, qL lq, o, j, z, w1 B)) e rfl
  ·refine bO (a := Sum.inr (r, x, kL L, pL lp, qL lq, o, j, z, w1 B)) e ?_
   have hc : zAU (wt lq) (L.drop 0) ≤ B := Int.le_trans (h.cov L (zIY fun i' h1 => e2 i' (Nat.zero_le _) h1) hA) h.le
   have es := sums (mk0 := fun a0 a1 a2 a3 a4 a5 a6 a7 a8 => Sum.inl (a0, a1, a2, a3, a4, a5, a6, a7, a8)) (mk1 := fun a0 a1 a2 a3 a4 a5 a6 a7 => Sum.inr (a0, a1, a2, a3, a4, a5, a6, a7)) (r := r) (x := x) (p := pL lp) (o := o) (j := j) (z := z) hn hL hA h (Fbc.mr n d) L.length 0 n B (by omega) (by omega) hc (by omega)
   exact bO (a := Sum.inr (r, x, kL L, pL lp, qL lq, o, j, z)) es rfl
theorem zHv {n : Nat} (hn : 950 ≤ n) {r x : Int} {o j z : List AV} {T B K : Int} {lp : Ac} {lq : Sl} (h : Inv T B K lp lq) {L : List (List Int)} (hL : L.length ≤ 900) (hA : ∀ a ∈ L, Adr a) :
  Fbc.m n (r, x, kL L, pL lp, qL lq, o, j, z) = some (true, r, x, kL L, pL lp, qL lq, o, j, z) := zHu hn h n L (by omega) hL hA
end Go.Abs.Pure
end
section
namespace Go.Abs.Pure
open Go Go.Abs
def zAh (a s : Int) : AV := .agg [.int .i64 a, .int .i64 s]
def zHE (z : List AV) (x : Int) : Prop := ∀ i, i < z.length → ∃ a s, z.getD i .any = zAh a s ∧ a ≤ x
theorem zNs (n : Nat) (r x : Int) (p q o j z : List AV) (hx : 0 ≤ x ∧ x < 1000) (hz : z.length ≤ 1000) : Fab.m n (r, x, p, q, o, j, z) = some (x + 1, r, x + 1, p, q, o, j, z ++ [zAh (x + 1) (j.length : Int)]) := by
 have e : IntKind.wrap .i64 (x + 1) = x + 1 := by rw [zAT]; omega
 unfold Fab.m Fab.g
 refine iT ⟨by show (z.length + 1) * 16 ≤ _; omega, by show z.length + 1 ≤ _; omega⟩ ?_
 rw [e]
 rfl
theorem zKc {z : List AV} {x : Int} (h : zHE z x) (s : Int) : zHE (z ++ [zAh (x + 1) s]) (x + 1) := fun i hi => by
 by_cases h1 : i < z.length
 ·obtain ⟨a, s', e, h2⟩ := h i h1
  refine ⟨a, s', ?_, by omega⟩
  rw [← e, List.getD_eq_getElem?_getD, List.getD_eq_getElem?_getD, List.getElem?_append_left h1]
 ·have : i = z.length := by simp at hi; omega
  subst this
  exact ⟨x + 1, s, by simp [List.getD_eq_getElem?_getD], Int.le_refl _⟩
theorem zJj {n : Nat} {z : List AV} {x : Int} (h : zHE z x) (hz : z.length ≤ 900) (s : Int) : ∀ (d k m : Nat), k + d = z.length → d < m →
  Fb.l2.g (fun a0 => (Sum.inl a0 : Int ⊕ Unit)) (Sum.inr ()) n m (k : Int) (((z ++ [zAh (x + 1) s]).length : Nat) : Int) (x + 1) (z ++ [zAh (x + 1) s]) = some (Sum.inl (z.length : Int))
 | 0, k, m + 1, hk, hm => by
  have hl : (z ++ [zAh (x + 1) s]).length = z.length + 1 := by simp
  have e : (z ++ [zAh (x + 1) s]).getD (Int.toNat (k : Int)) .any = zAh (x + 1) s := by
   rw [Int.toNat_natCast, show k = z.length by omega]; simp [List.getD_eq_getElem?_getD]
  unfold Fb.l2.g Fb.l2.r
  refine iT (by rw [hl]; simp; omega) (iT (by omega) (iT (by rw [hl]; omega) ?_))
  rw [e]
  refine bO (a := [.int .i64 (x + 1), .int .i64 s]) rfl (bO (a := x + 1) rfl (bO (a := s) rfl (bO (a := true) (congrArg some (beq_self_eq_true (x + 1))) (iT rfl ?_))))
  rw [show (k : Int) = (z.length : Int) by omega]
 | d + 1, k, m + 1, hk, hm => by
  have hl : (z ++ [zAh (x + 1) s]).length = z.length + 1 := by simp
  obtain ⟨a, s', e0, h2⟩ := h k (by omega)
  have e : (z ++ [zAh (x + 1) s]).getD (Int.toNat (k : Int)) .any = zAh a s' := by
   rw [Int.toNat_natCast, ← e0, List.getD_eq_getElem?_getD, List.getD_eq_getElem?_getD, List.getElem?_append_left (by omega)]
  have en : IntKind.wrap .i64 ((k : Int) + 1) = ((k + 1 : Nat) : Int) := by rw [zAT]; omega
  have ih := zJj (n := n) h hz s d (k + 1) m (by omega) (by omega)
  unfold Fb.l2.g Fb.l2.r
  refine iT (by rw [hl]; simp; omega) (iT (by omega) (iT (by rw [hl]; omega) ?_))
  rw [e]
  refine bO (a := [.int .i64 a, .int .i64 s']) rfl (bO (a := a) rfl (bO (a := s') rfl (bO (a := false) (congrArg some (show (a == x + 1) = false by simp; omega)) (iF (by simp) ?_))))
  rw [en]
  exact ih
theorem zOl {n : Nat} (hn : 950 ≤ n) {z : List AV} {x : Int} (h : zHE z x) (hz : z.length ≤ 900) (s : Int) : Fb.m n (z ++ [zAh (x + 1) s], x + 1) = some (z.length : Int) :=
 bO (a := Sum.inl (z.length : Int)) (zJj h hz s z.length 0 n (by omega) (by omega)) rfl
theorem zNK {n : Nat} (hn : 950 ≤ n) (r x : Int) (lp : Ac) (q o j : List AV) {z : List AV} (h : zHE z x) (hz : z.length ≤ 900) (v : List Int) :
  ∃ lp', (∀ a, bal lp' a = bal lp a) ∧ Faa.m n (x + 1, r, x + 1, pL (kD lp zY ((acc lp zY).1, v, (acc lp zY).2.2)), q, o, j ++ [j7 zY (acc lp zY)], z ++ [zAh (x + 1) (j.length : Int)]) = some (r, x + 1, pL lp', q, o, j, z) := by
 let lp1 := kD lp zY ((acc lp zY).1, v, (acc lp zY).2.2)
 refine ⟨kD lp1 zY (acc lp zY), fun a => ?_, ?_⟩
 ·show (zBD a0 (kD lp1 zY (acc lp zY)) a).2.1 = _
  rw [j6]
  split
  ·rename_i h; subst h; rfl
  ·rename_i h
   show (zBD a0 (kD lp zY _) a).2.1 = _
   rw [j6, if_neg h]
 ·have e1 := zOl hn h hz (j.length : Int)
  have e2 : (z ++ [zAh (x + 1) (j.length : Int)]).getD (Int.toNat (z.length : Int)) .any = zAh (x + 1) (j.length : Int) := by
   rw [Int.toNat_natCast]; simp [List.getD_eq_getElem?_getD]
  have e3 : (j ++ [j7 zY (acc lp zY)]).drop (Int.toNat (j.length : Int)) = [j7 zY (acc lp zY)] := by
   rw [Int.toNat_natCast]; simp
  have e4 := zDZ (F := Fa) hKa zY (acc lp zY) lp1
  have e5 : (j ++ [j7 zY (acc lp zY)]).take (Int.toNat (j.length : Int)) = j := by rw [Int.toNat_natCast]; simp
  have e6 : (z ++ [zAh (x + 1) (j.length : Int)]).take (Int.toNat (z.length : Int)) = z := by rw [Int.toNat_natCast]; simp
  unfold Faa.m
  simp only []
  rw [e1]
  show (if 0 ≤ (z.length : Int) ∧ (z.length : Int) < (((z ++ [zAh (x + 1) (j.length : Int)]).length : Nat) : Int) then _ else _) = _
  refine iT ⟨by omega, by simp; omega⟩ ?_
  rw [e2]
  show (if 0 ≤ (j.length : Int) ∧ (j.length : Int) ≤ (((j ++ [j7 zY (acc lp zY)]).length : Nat) : Int) then _ else _) = _
  refine iT ⟨by omega, by simp; omega⟩ ?_
  rw [e3, e5, e6]
  show (match mputL (Ka zY) (Fa (acc lp zY)) (pL lp1) with | some p' => _ | none => _) = _
  rw [e4]
end Go.Abs.Pure
end
section
namespace Go.Abs.Pure
open Go Go.Abs
def encL : List Int := [0, 0, 0, 0, 0, 0, 0, 0, 0, 0, 0, 0, 2, 0, 0, 0, 0, 0, 0, 0, 0, 0, 0, 0, 0, 0, 0, 0, 0, 0, 0, 0, 0, 0, 0, 0, 0, 0, 0, 0, 0, 0, 0, 0, 0, 0, 0, 0, 0, 0, 0, 0, 0, 0, 0, 0, 0, 0, 0, 0, 0, 0, 0, 3]
def zKR : List Int := [1, 0, 0, 0, 0, 0, 0, 0, 0, 0, 0, 0, 0, 0, 0, 0, 0, 0, 0, 0]
def addr2 : List Int := [2, 0, 0, 0, 0, 0, 0, 0, 0, 0, 0, 0, 0, 0, 0, 0, 0, 0, 0, 0]
def zNR : List Int := [0, 0, 0, 0, 113, 114, 125, 226, 46, 94, 157, 139, 175, 14, 218, 198, 243, 125, 160, 50]
def entL : List AV := [.agg [.ints .u8 20 zNR, .agg [.int .u64 0, .ints .u64 4 [5, 0, 0, 0], .snil, .snil]]]
def s1 : Int × Int × List AV × List AV × List AV × List AV × List AV := (Fbs.m 1000 entL).getD (0, 0, [], [], [], [], [])
theorem s1_is : Fbs.m 1000 entL = some s1 := by kernel_rfl
def s2 : Bool × Int × Int × List AV × List AV × List AV × List AV × List Int × List AV := (Fbr.m 1000 (0, zKR, [5, 0, 0, 0], [], false, s1.1, s1.2.1, s1.2.2.1, s1.2.2.2.1, s1.2.2.2.2.1, s1.2.2.2.2.2.1, s1.2.2.2.2.2.2)).getD (false, 0, 0, [], [], [], [], [], [])
theorem s2_is : Fbr.m 1000 (0, zKR, [5, 0, 0, 0], [], false, s1.1, s1.2.1, s1.2.2.1, s1.2.2.2.1, s1.2.2.2.2.1, s1.2.2.2.2.2.1, s1.2.2.2.2.2.2) = some s2 := by kernel_rfl
def s3 : List Int × Int × Int × List AV × List AV × List AV × List AV × List AV := (Fak.m 1000 (zKR, s2.2.1, s2.2.2.1, s2.2.2.2.1, s2.2.2.2.2.1, s2.2.2.2.2.2.1, s2.2.2.2.2.2.2.2.2, s2.2.2.2.2.2.2.1)).getD ([], 0, 0, [], [], [], [], [])
theorem s3_is : Fak.m 1000 (zKR, s2.2.1, s2.2.2.1, s2.2.2.2.1, s2.2.2.2.2.1, s2.2.2.2.2.2.1, s2.2.2.2.2.2.2.2.2, s2.2.2.2.2.2.2.1) = some s3 := by kernel_rfl
theorem wide2 : Fce.m 1000 addr2 = some [0, 0, 33554432, 0] := by kernel_rfl
theorem zOo : Fba.m 1000 [.agg [.bool false, .ints .u64 4 [0, 0, 33554432, 0], .snil], .agg [.bool false, .ints .u64 4 [3, 0, 0, 0], .snil]] = some encL := by kernel_rfl
theorem zKD : Fbt.m 1000 () = some true := by
 unfold Fbt.m Fbt.g
 refine bO (a := zNR) rfl ?_
 refine bO s1_is (bO s2_is (bO s3_is (bO zNS (bO wide2 (bO zOo ?_)))))
 refine iT ⟨by decide, by decide⟩ ?_
 unfold Fbr.m Fbr.g
 rw [if_neg (show ¬ (((List.length ([32, 92, 40, 120] ++ encL) : Nat) : Int) == 0) = true by decide)]
 unfold Fy.m Fy.g
 rw [show Fbp.m 1000 ([32, 92, 40, 120] ++ encL) = some (nm7, 2, false, false, true) from zNZ encL]
 kernel_rfl
end Go.Abs.Pure
end
section
namespace Go.Abs.Pure
open Go Go.Abs
def zEA (o : Option (Bool ⊕ Unit)) : Prop := o = some (.inl true) ∨ o = some (.inr ())
theorem gB {β : Type} {x : Option β} {a : β} {f : β → Option (Bool ⊕ Unit)} (h : x = some a) (k : zEA (f a)) : zEA (zD x f) := by rw [h]; exact k
theorem gT {c : Prop} [Decidable c] {a b : Option (Bool ⊕ Unit)} (h : c) (k : zEA a) : zEA (if c then a else b) := by rw [if_pos h]; exact k
theorem gF {c : Prop} [Decidable c] {a b : Option (Bool ⊕ Unit)} (h : ¬ c) (k : zEA b) : zEA (if c then a else b) := by rw [if_neg h]; exact k
theorem gF' {c : Bool} {a b : Option (Bool ⊕ Unit)} (h : c = false) (k : zEA b) : zEA (if c = true then a else b) := by rw [h]; exact k
theorem Inv.given {T B K v : Int} {lp : Ac} {lq : Sl} (h : Inv T B K lp lq) (hv : 0 ≤ v) (hT : T + v < 9223372036854775808) : Inv (T + v) (B + v) K (kD lp zY ((acc lp zY).1, w1 (B + v), (acc lp zY).2.2)) lq := by
 have hp := h.pos
 have e : ∀ a, bal (kD lp zY ((acc lp zY).1, w1 (B + v), (acc lp zY).2.2)) a = if a = zY then w1 (B + v) else bal lp a := fun a => by
  show (zBD a0 (kD lp zY _) a).2.1 = _
  rw [j6]
  split <;> rfl
 refine ⟨by rw [e, if_pos rfl], by omega, fun b hb => ?_, h.ws, h.cov, by have := h.le; omega⟩
 rw [e, if_neg hb]
 obtain ⟨y, h1, h2, h3⟩ := h.oth b hb
 exact ⟨y, h1, h2, by omega⟩
theorem Inv.back {T B K : Int} {lp lp' : Ac} {lq : Sl} (h : Inv T B K lp lq) (e : ∀ a, bal lp' a = bal lp a) : Inv T B K lp' lq :=
 ⟨by rw [e]; exact h.self, h.pos, fun b hb => by rw [e]; exact h.oth b hb, h.ws, h.cov, h.le⟩
def zNc (z : AV) : Prop := ∃ c0 c1 c2 c3 c4 c5 c6 c7 c8 c9 c10, z = AV.agg [.int .u8 c0, .ints .u8 20 c1, .ints .u8 20 c2, .ints .u64 4 c3, .int .u8 c4, .int .u8 c5, .ints .u64 4 c6, .ints .u64 4 c7, .int .u64 c8, .bool c9, .rints .u8 c10] ∧ InK .u8 c0 ∧ InA .u8 20 c1 ∧ InA .u8 20 c2 ∧ InA .u64 4 c3 ∧ InK .u8 c4 ∧ InK .u8 c5 ∧ InA .u64 4 c6 ∧ InA .u64 4 c7 ∧ InK .u64 c8 ∧ InS .u8 c10
theorem Adr.of {a : List Int} (h : InA .u8 20 a) : Adr a := ⟨h.1, fun y hy => ⟨(h.2 y hy).1, by have := (h.2 y hy).2; simp [IntKind.max, IntKind.bits, IntKind.signed] at this; omega⟩⟩
theorem zGp {a : List Int} (h : InA .u64 4 a) (m : Int) (hm : 0 < m) : 0 ≤ Int.tmod (a.getD 0 0) m ∧ Int.tmod (a.getD 0 0) m < m := by
 have w := W4.of h
 obtain ⟨a, b, c, d, rfl, ha, hb, hc, hd⟩ := w.split
 simp only [List.getD_cons_zero]
 rw [Int.tmod_eq_emod_of_nonneg ha.1]
 exact ⟨Int.emod_nonneg _ (by omega), Int.emod_lt_of_pos _ hm⟩
theorem zNw {k : Nat} (hk : k < 8) {nn xx y : Int} (hN : Int.tmod nn 9 = (k : Int)) {b : List Int} (hb : Adr b) (hx : 0 ≤ xx ∧ xx < 4294967296) (hy : 0 ≤ y ∧ y < 18446744073709551616) (kd : Int) (a v : List Int) (tm : Int) (st : Bool) (raw : List Int) :
  Fbn.m 1000 (kd, a, b, v, nn, (if k = 3 ∨ k = 4 then 1 else 0), w1 xx, w1 y, tm, st, raw) = some (slk k ++ j0 (first k b xx) (w1 y)) := by
 have hX := zIB (y := xx) (by omega)
 have hY := zIB hy
 match k, hk with
 | 0, hk => exact w5 hn hk hN rfl rsel0 rfl hb hX hY kd a v tm st raw (.inl ⟨rfl, rfl⟩)
 | 1, hk => exact w5 hn hk hN rfl rsel1 rfl hb hX hY kd a v tm st raw (.inl ⟨rfl, rfl⟩)
 | 2, hk => exact w5 hn hk hN rfl rsel2 rfl hb hX hY kd a v tm st raw (.inl ⟨rfl, rfl⟩)
 | 3, hk => exact w5 hn hk hN rfl rsel3 rfl hb hX hY kd a v tm st raw (.inr ⟨rfl, rfl⟩)
 | 4, hk => exact w5 hn hk hN rfl rsel4 rfl hb hX hY kd a v tm st raw (.inr ⟨rfl, rfl⟩)
 | 5, hk => exact w5 hn hk hN rfl rsel5 rfl hb hX hY kd a v tm st raw (.inl ⟨rfl, rfl⟩)
 | 6, hk => exact w5 hn hk hN rfl rsel6 rfl hb hX hY kd a v tm st raw (.inl ⟨rfl, rfl⟩)
 | 7, hk => exact w5 hn hk hN rfl zNS rfl hb hX hY kd a v tm st raw (.inl ⟨rfl, rfl⟩)
theorem zOi {k : Nat} {nn : Int} (hN : Int.tmod nn 9 = (k : Int)) (n : Nat) (x0 x1 : Int) (x2 : List AV) (x3 : Int) (x4 x5 x6 x9 x10 : List Int) (x11 : Int) (x12 : Bool) (x13 : List Int) (x14 x15 : Int) (x16 : List Int) (x17 : List AV) (x18 : List Int) (x19 x20 x21 x22 x23 : List AV) :
  Fag.j18.m n (x0, x1, x2, x3, x4, x5, x6, nn, 0, x9, x10, x11, x12, x13, x14, x15, x16, x17, x18, x19, x20, x21, x22, x23) = some (x0, x1, x2, x3, x4, x5, x6, nn, (if k = 3 ∨ k = 4 then 1 else 0), x9, x10, x11, x12, x13, x14, x15, x16, x17, x18, x19, x20, x21, x22, x23) := by
 unfold Fag.j18.m Fag.j18.g
 by_cases h3 : k = 3
 ·subst h3
  exact iT (by show (Int.tmod nn 9 == 3) = true; rw [hN]; rfl) rfl
 ·by_cases h4 : k = 4
  ·subst h4
   exact iF (by show ¬ (Int.tmod nn 9 == 3) = true; rw [hN]; decide) (iT (by show (Int.tmod nn 9 == 4) = true; rw [hN]; rfl) rfl)
  ·rw [if_neg (show ¬ (k = 3 ∨ k = 4) by omega)]
   exact iF (by show ¬ (Int.tmod nn 9 == 3) = true; rw [hN]; simp; omega) (iF (by show ¬ (Int.tmod nn 9 == 4) = true; rw [hN]; simp; omega) rfl)
def At (l : List AV) (i m : Nat) : Prop := ∀ (L : List (List Int)) (r x : Int) (lp : Ac) (lq lo : Sl) (j z : List AV) (T B K : Int), L.length = 2 * i → (∀ a ∈ L, Adr a) → Inv T B K lp lq → T ≤ (i : Int) * 1099511627776 → x = (i : Int) → zHE z x → z.length ≤ i → j.length ≤ 10 * i →
  zEA (Fag.l7.g (fun a0 => (.inl a0)) (.inr ()) 1000 m (i : Int) l zY (kL L) r x (pL lp) (qL lq) (qL lo) j z)
theorem round {l : List AV} (hl : l.length ≤ 40) (hi : ∀ z ∈ l, zNc z) {i m : Nat} (hil : i < l.length) (ih : At l (i + 1) m) : At l i (m + 1) := by
 intro L r x lp lq lo j z T B K hL hA h hT hx hz hz2 hj
 obtain ⟨c0, c1, c2, c3, c4, c5, c6, c7, c8, c9, c10, hel, i0, i1, i2, i3, i4, i5, i6, i7, i8, i10⟩ := hi _ (List.getElem_mem hil)
 have hel2 : tkAgg 11 (l.getD (Int.toNat (i : Int)) .any) = some [.int .u8 c0, .ints .u8 20 c1, .ints .u8 20 c2, .ints .u64 4 c3, .int .u8 c4, .int .u8 c5, .ints .u64 4 c6, .ints .u64 4 c7, .int .u64 c8, .bool c9, .rints .u8 c10] := by
  rw [Int.toNat_natCast, List.getD_eq_getElem?_getD, List.getElem?_eq_getElem hil, Option.getD_some, hel]; rfl
 have hc1 := Adr.of i1
 have hc2 := Adr.of i2
 have n4 : 0 ≤ c4 ∧ c4 < 256 := ⟨i4.1, by have := i4.2; simp [IntKind.max, IntKind.bits, IntKind.signed] at this; omega⟩
 obtain ⟨k, hN, hk⟩ : ∃ k : Nat, Int.tmod c4 9 = (k : Int) ∧ k < 9 := by
  rw [Int.tmod_eq_emod_of_nonneg n4.1]
  exact ⟨(c4 % 9).toNat, by omega, by omega⟩
 have hv := zGp i3 1099511627776 (by omega)
 have hX := zGp i6 1048576 (by omega)
 have hY := zGp i7 2199023255552 (by omega)
 have hp := h.pos
 unfold Fag.l7.g Fag.l7.r
 refine gT (by simp; omega) (gT (by omega) (gT (by omega) (gB hel2 (gB (a := c0) rfl (gB (a := c1) rfl (gB (a := c2) rfl (gB (a := c3) rfl (gB (a := c4) rfl (gB (a := c5) rfl (gB (a := c6) rfl (gB (a := c7) rfl (gB (a := c8) rfl (gB (a := c9) rfl (gB (a := c10) rfl ?_))))))))))))))
 by_cases e1 : c1 = zY
 ·exact gT (by simpa using e1) (.inl rfl)
 by_cases e2 : c2 = zY
 ·exact gF (by simpa using e1) (gT (by simpa using e2) (.inl rfl))
 refine gF (by simpa using e1) (gF (by simpa using e2) (gT (by rw [zAj]; omega) ?_))
 refine gB (zNs 1000 r x (pL lp) (qL lq) (qL lo) j z (by omega) (by omega)) ?_
 refine gB (zBY (n := 1000) r (x + 1) (qL lo) j (z ++ [zAh (x + 1) (j.length : Int)]) lp zY (qL lq)) ?_
 have hvw : IntKind.wrap .u64 ((bal lp zY).getD 0 0 + Int.tmod (c3.getD 0 0) 1099511627776) = B + Int.tmod (c3.getD 0 0) 1099511627776 := by
  rw [h.self, List.getD_cons_zero, zGF]; omega
 have hw0 : [IntKind.wrap .u64 ((bal lp zY).getD 0 0 + Int.tmod (c3.getD 0 0) 1099511627776), (bal lp zY).getD 1 0, 0, 0] = w1 (B + Int.tmod (c3.getD 0 0) 1099511627776) := by
  rw [hvw, h.self]; rfl
 have hsb := zBf (n := 1000) r (x + 1) (qL lo) j (z ++ [zAh (x + 1) (j.length : Int)]) lp zY (w1 (B + Int.tmod (c3.getD 0 0) 1099511627776)) (qL lq) (by omega)
 rw [← hw0] at hsb
 refine gB hsb ?_
 rw [hw0]
 clear hsb hw0 hvw
 generalize hve : Int.tmod (c3.getD 0 0) 1099511627776 = v at *
 have hg := h.given hv.1 (by omega)
 have eA : kL L ++ [AV.ints .u8 20 c1, AV.ints .u8 20 c2] = kL (L ++ [c1, c2]) := by simp [Ka]
 have hA' : ∀ a ∈ L ++ [c1, c2], Adr a := fun a ha => by
  rcases List.mem_append.1 ha with h1 | h1
  ·exact hA a h1
  ·simp only [List.mem_cons, List.not_mem_nil, or_false] at h1
   rcases h1 with rfl | rfl
   ·exact hc1
   ·exact hc2
 have hL' : (L ++ [c1, c2]).length = 2 * (i + 1) := by simp; omega
 have hjl : (j ++ [j7 zY (acc lp zY)]).length ≤ 99990 := by simp; omega
 have hjl2 : (j ++ [j7 zY (acc lp zY)]).length = j.length + 1 := by simp
 have hzl : (z ++ [zAh (x + 1) (j.length : Int)]).length ≤ i + 1 := by simp; omega
 have hm' := zKc hz (j.length : Int)
 obtain ⟨lpb, hb1, hb2⟩ := zNK (n := 1000) (by decide) r x lp (qL lq) (qL lo) j hz (by omega) (w1 (B + v))
 have hib := (h.back hb1)
 have ei : IntKind.wrap .i64 ((i : Int) + 1) = ((i + 1 : Nat) : Int) := by rw [zAT]; omega
 have ex : x + 1 = ((i + 1 : Nat) : Int) := by omega
 have hcov1 := zHv (n := 1000) (by decide) (r := r) (x := x + 1) (o := qL lo) (j := j) (z := z) hib (L := L ++ [c1, c2]) (by omega) hA'
 have ih1 := ih (L ++ [c1, c2]) r (x + 1) lpb lq lo j z T B K hL' hA' hib (by omega) ex (fun i' hi' => by obtain ⟨a, s, q1, q2⟩ := hz i' hi'; exact ⟨a, s, q1, by omega⟩) (by omega) (by omega)
 rw [← eA] at hcov1 ih1
 refine gB (zOi hN 1000 _ _ _ _ _ _ _ _ _ _ _ _ _ _ _ _ _ _ _ _ _ _) ?_
 have tail : ∀ B' lp' lq' lo' (j' : List AV), Inv (T + v) B' B' lp' lq' → j'.length ≤ (j ++ [j7 zY (acc lp zY)]).length + 4 →
   Fbc.m 1000 (r, x + 1, kL L ++ [AV.ints .u8 20 c1, AV.ints .u8 20 c2], pL lp', qL lq', qL lo', j', z ++ [zAh (x + 1) (j.length : Int)]) = some (true, r, x + 1, kL L ++ [AV.ints .u8 20 c1, AV.ints .u8 20 c2], pL lp', qL lq', qL lo', j', z ++ [zAh (x + 1) (j.length : Int)]) ∧
   zEA (Fag.l7.g (fun a0 => (.inl a0)) (.inr ()) 1000 m ((i + 1 : Nat) : Int) l zY (kL L ++ [AV.ints .u8 20 c1, AV.ints .u8 20 c2]) r (x + 1) (pL lp') (qL lq') (qL lo') j' (z ++ [zAh (x + 1) (j.length : Int)])) := fun B' lp' lq' lo' j' hi' hj' => by
  rw [eA]
  exact ⟨zHv (by decide) hi' (by omega) hA', ih (L ++ [c1, c2]) r (x + 1) lp' lq' lo' j' _ (T + v) B' B' hL' hA' hi' (by omega) ex hm' hzl (by omega)⟩
 by_cases h8 : k = 8
 ·subst h8
  refine gT (show (Int.tmod c4 9 == 8) = true by rw [hN]; rfl) (gB (zLm hN _ _ _ _ _ _ _ _) ?_)
  rcases zMO c8 hc1 r (x + 1) (j ++ [j7 zY (acc lp zY)]) (z ++ [zAh (x + 1) (j.length : Int)]) _ lq lo hg ⟨hv.1, by have := h.le; omega⟩ hjl c9 with e | ⟨B', lp', lq', lo', j', out, hi', hj', e⟩
  ·refine gB e (gT rfl (gB hb2 (gB hcov1 (gF' rfl ?_))))
   show zEA (Fag.l7.g _ _ 1000 m (IntKind.wrap .i64 ((i : Int) + 1)) l zY _ r (x + 1) (pL lpb) (qL lq) (qL lo) j z)
   rw [ei]; exact ih1
  ·obtain ⟨t1, t2⟩ := tail B' lp' lq' lo' j' hi' hj'
   refine gB e (gF' rfl (gB t1 (gF' rfl ?_)))
   show zEA (Fag.l7.g _ _ 1000 m (IntKind.wrap .i64 ((i : Int) + 1)) l zY _ r (x + 1) (pL lp') (qL lq') (qL lo') j' _)
   rw [ei]; exact t2
 ·have hk8 : k < 8 := by omega
  refine gF (show ¬ (Int.tmod c4 9 == 8) = true by rw [hN]; simp; omega) (gB (zNw hk8 hN hc2 (xx := Int.tmod (c6.getD 0 0) 1048576) (by omega) (y := Int.tmod (c7.getD 0 0) 2199023255552) (by omega) _ _ _ _ _ _) ?_)
  rcases zOs c8 hc1 hc2 e2 r (x + 1) (j ++ [j7 zY (acc lp zY)]) (z ++ [zAh (x + 1) (j.length : Int)]) _ lq lo hg ⟨hv.1, by have := h.le; omega⟩ hjl (y := Int.tmod (c7.getD 0 0) 2199023255552) (by omega) (xx := Int.tmod (c6.getD 0 0) 1048576) (by omega) c9 hk8 with e | ⟨B', lp', lq', lo', j', out, hi', hj', e⟩
  ·refine gB e (gT rfl (gB hb2 (gB hcov1 (gF' rfl ?_))))
   show zEA (Fag.l7.g _ _ 1000 m (IntKind.wrap .i64 ((i : Int) + 1)) l zY _ r (x + 1) (pL lpb) (qL lq) (qL lo) j z)
   rw [ei]; exact ih1
  ·obtain ⟨t1, t2⟩ := tail B' lp' lq' lo' j' hi' hj'
   refine gB e (gF' rfl (gB t1 (gF' rfl ?_)))
   show zEA (Fag.l7.g _ _ 1000 m (IntKind.wrap .i64 ((i : Int) + 1)) l zY _ r (x + 1) (pL lp') (qL lq') (qL lo') j' _)
   rw [ei]; exact t2
theorem rounds {l : List AV} (hl : l.length ≤ 40) (hi : ∀ z ∈ l, zNc z) : ∀ (d i m : Nat), i + d = l.length → d < m → At l i m
 | 0, i, m + 1, hd, hm => by
  intro L r x lp lq lo j z T B K hL hA h hT hx hz hz2 hj
  unfold Fag.l7.g Fag.l7.r
  exact gF (by simp; omega) (.inr rfl)
 | d + 1, i, m + 1, hd, hm => round hl hi (by omega) (rounds hl hi d (i + 1) m (by omega) (by omega))
end Go.Abs.Pure
end
section
namespace Go.Abs.Pure
open Go Go.Abs
theorem zGj {n : Nat} {l : List AV} (hi : ∀ z ∈ l, zNc z) : ∀ (d i m : Nat), i + d = l.length → i + d ≤ 40 → d < m → ∃ r, Fbu.l4.g (fun a0 => (Sum.inl a0 : Bool ⊕ Unit)) (Sum.inr ()) n m (i : Int) l = some r ∧ (r = .inl true ∨ r = .inr ())
 | 0, i, m + 1, hd, h4, hm => by
  refine ⟨.inr (), ?_, .inr rfl⟩
  unfold Fbu.l4.g Fbu.l4.r
  exact iF (by simp; omega) rfl
 | d + 1, i, m + 1, hd, h4, hm => by
  have hil : i < l.length := by omega
  obtain ⟨c0, c1, c2, c3, c4, c5, c6, c7, c8, c9, c10, hel, -⟩ := hi _ (List.getElem_mem hil)
  have hel2 : tkAgg 11 (l.getD (Int.toNat (i : Int)) .any) = some [.int .u8 c0, .ints .u8 20 c1, .ints .u8 20 c2, .ints .u64 4 c3, .int .u8 c4, .int .u8 c5, .ints .u64 4 c6, .ints .u64 4 c7, .int .u64 c8, .bool c9, .rints .u8 c10] := by
   rw [Int.toNat_natCast, List.getD_eq_getElem?_getD, List.getElem?_eq_getElem hil, Option.getD_some, hel]; rfl
  obtain ⟨r, e, hr⟩ := zGj (n := n) hi d (i + 1) m (by omega) (by omega) (by omega)
  have ei : IntKind.wrap .i64 ((i : Int) + 1) = ((i + 1 : Nat) : Int) := by rw [zAT]; omega
  unfold Fbu.l4.g Fbu.l4.r
  by_cases h : c10.length > 200
  ·refine ⟨.inl true, ?_, .inl rfl⟩
   exact iT (by simp; omega) (iT (by omega) (iT (by omega) (bO hel2 (bO (a := c0) rfl (bO (a := c1) rfl (bO (a := c2) rfl (bO (a := c3) rfl (bO (a := c4) rfl (bO (a := c5) rfl (bO (a := c6) rfl (bO (a := c7) rfl (bO (a := c8) rfl (bO (a := c9) rfl (bO (a := c10) rfl (iT (by simp; omega) rfl)))))))))))))))
  ·refine ⟨r, ?_, hr⟩
   refine iT (by simp; omega) (iT (by omega) (iT (by omega) (bO hel2 (bO (a := c0) rfl (bO (a := c1) rfl (bO (a := c2) rfl (bO (a := c3) rfl (bO (a := c4) rfl (bO (a := c5) rfl (bO (a := c6) rfl (bO (a := c7) rfl (bO (a := c8) rfl (bO (a := c9) rfl (bO (a := c10) rfl (iF (by simp; omega) ?_)))))))))))))))
   rw [ei]
   exact e
theorem zMx {l : List AV} (hi : ∀ z ∈ l, zNc z) : ∃ b, Fbu.m 1000 ([], l) = some b ∧ (b = false → l.length ≤ 40) := by
 have h0 : Far.m 1000 ([], 200) = some 0 := by kernel_rfl
 unfold Fbu.m Fbu.g
 by_cases h : l.length > 40
 ·exact ⟨true, bO h0 (iF (by decide) (iT (by simp; omega) rfl)), fun e => by cases e⟩
 ·obtain ⟨r, e, hr⟩ := zGj (n := 1000) hi l.length 0 1000 (by omega) (by omega) (by omega)
  rcases hr with rfl | rfl
  ·exact ⟨true, bO h0 (iF (by decide) (iF (by simp; omega) (bO (a := Sum.inl true) e rfl))), fun e => by cases e⟩
  ·exact ⟨false, bO h0 (iF (by decide) (iF (by simp; omega) (bO (a := Sum.inr ()) e rfl))), fun _ => by omega⟩
theorem zOg : Fbs.m 1000 [] = some (0, 0, [], [], [], [], []) := by kernel_rfl
theorem inv0 : Inv 0 0 0 [] [] :=
 ⟨rfl, by omega, fun b _ => ⟨0, rfl, by omega, by omega⟩, fun a _ => ⟨0, 0, rfl, rfl, by omega, by omega⟩, fun L _ _ => by
  have : ∀ L : List (List Int), zAU (wt []) L = 0 := fun L => by
   induction L with
   | nil => rfl
   | cons a L ih => simp only [zAU, ih]; rfl
  rw [this]; omega, by omega⟩
theorem DeskCovers (l : List AV) (h : l.length ≤ 140737488351232 ∧ ∀ z ∈ l, zNc z) : ∃ n, Fag.m n l = some true := by
 obtain ⟨b, e, hb⟩ := zMx h.2
 refine ⟨1000, ?_⟩
 unfold Fag.m Fag.g
 cases b
 ·have hl := hb rfl
  refine bO e (iF' rfl (bO zKD (iF' rfl (bO zOg (bO qU ?_)))))
  rcases rounds hl h.2 l.length 0 1000 (by omega) (by omega) [] 0 0 [] [] [] [] [] 0 0 0 rfl (fun a ha => by simp at ha) inv0 (by omega) rfl (fun i hi => by simp at hi) (by simp) (by simp) with g | g
  ·exact bO g rfl
  ·exact bO g rfl
 ·exact bO e (iT rfl (bO zKD rfl))
end Go.Abs.Pure
end
