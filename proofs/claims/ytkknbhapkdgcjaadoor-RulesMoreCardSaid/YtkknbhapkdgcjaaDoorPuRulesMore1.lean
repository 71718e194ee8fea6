/- Plain laws about what the functions compute. Conditions: the arguments' bounds, as each theorem says. -/
import Derived.Test.YtkknbhapkdgcjaaDoorBinO1
import Derived.Test.YtkknbhapkdgcjaaDoorAbsO8
import Derived.Test.YtkknbhapkdgcjaaDoorFnRulesMore1
import Derived.KernelRfl
import Derived.Test.YtkknbhapkdgcjaaDoorFnRulesMore2
section
set_option linter.unusedVariables false
set_option linter.unusedSimpArgs false
set_option maxRecDepth 100000
namespace Go.Abs.Pure
open Go Go.Abs Go.Proofs
def Tot {α : Type} (x : Option α) : Prop := ∃ r, x = some r
theorem tS {α : Type} (r : α) : Tot (some r) := ⟨r, rfl⟩
theorem tO {α β : Type} {x : Option α} {f : α → Option β} (h : Tot x) (k : ∀ r, x = some r → Tot (f r)) : Tot (bindO x f) := by
  obtain ⟨r, hr⟩ := h
  subst hr
  exact k r rfl
theorem tI {α : Type} {c : Prop} [Decidable c] {a b : Option α} (h1 : c → Tot a) (h2 : ¬ c → Tot b) : Tot (if c then a else b) := by
  by_cases h : c
  · rw [if_pos h]; exact h1 h
  · rw [if_neg h]; exact h2 h
theorem bO {α β : Type} {x : Option α} {a : α} {f : α → Option β} {r : Option β} (h : x = some a) (k : f a = r) : bindO x f = r := by
  rw [h]; exact k
theorem iT {α : Type} {c : Prop} [Decidable c] {a b r : Option α} (h : c) (k : a = r) : (if c then a else b) = r := by
  rw [if_pos h]; exact k
theorem iF {α : Type} {c : Prop} [Decidable c] {a b r : Option α} (h : ¬ c) (k : b = r) : (if c then a else b) = r := by
  rw [if_neg h]; exact k
theorem at_nat {l : List AV} {j : Nat} (h : j < l.length) : List.getD l (Int.toNat (j : Int)) Go.Abs.AV.any = l[j] := by
  simp [List.getD_eq_getElem?_getD, List.getElem?_eq_getElem h]
theorem next_at {j : Nat} (h : j ≤ 1000000) : IntKind.wrap .i64 ((j : Int) + 1) = ((j + 1 : Nat) : Int) := by rw [wi64]; omega
def bytX (a : List Int) : List Int := (List.range 32).map fun i => IntKind.wrap .u8 (ishr .u64 (a.getD ((31 - i) / 8) 0) (((31 - i) % 8 * 8 : Nat) : Int))
theorem bytX_length (a : List Int) : (bytX a).length = 32 := by simp [bytX]
theorem bytes_eq (k : Nat) (a : List Int) : Fao.m (k + 33) a = some (bytX a) := by kernel_rfl
theorem bytes_tot {n : Nat} (hn : 100 ≤ n) (a : List Int) : Fao.m n a = some (bytX a) := by
  obtain ⟨k, rfl⟩ : ∃ k, n = k + 33 := ⟨n - 33, by omega⟩
  exact bytes_eq k a
def addrX (a : List Int) : List Int := (bytX a).drop 12
theorem addrX_length (a : List Int) : (addrX a).length = 20 := by simp [addrX, bytX_length]
theorem addr_tot {n : Nat} (hn : 100 ≤ n) (a : List Int) : Fat.m n a = some (addrX a) := by
  have h : List.take 20 (List.drop 12 (bytX a)) = addrX a := List.take_of_length_le (by simp [bytX_length])
  refine bO (bytes_tot hn a) ?_
  refine iT (by rw [bytX_length]; decide) (iT (by rw [bytX_length]; decide) ?_)
  rw [h]
def wideX (x : List Int) : List Int := (Fav.m 100 x).getD []
theorem wide_eq (k : Nat) (a b c d e f g h i j l m o p q r s t u v : Int) : Fav.m (k + 100) [a, b, c, d, e, f, g, h, i, j, l, m, o, p, q, r, s, t, u, v] = some (wideX [a, b, c, d, e, f, g, h, i, j, l, m, o, p, q, r, s, t, u, v]) := by kernel_rfl
theorem wide_tot {n : Nat} (hn : 100 ≤ n) {x : List Int} (h : x.length = 20) : Fav.m n x = some (wideX x) := by
  obtain ⟨k, rfl⟩ : ∃ k, n = k + 100 := ⟨n - 100, by omega⟩
  match x, h with
  | [a, b, c, d, e, f, g, h, i, j, l, m, o, p, q, r, s, t, u, v], _ => exact wide_eq k a b c d e f g h i j l m o p q r s t u v
theorem small_tot (n : Nat) (a : List Int) : Tot (Fap.m n a) := tI (fun _ => tS _) fun _ => tS _
def W4 (l : List Int) : Prop := l.length = 4 ∧ ∀ x ∈ l, 0 ≤ x ∧ x < 18446744073709551616
theorem W4.split {l : List Int} (h : W4 l) : ∃ a b c d, l = [a, b, c, d] ∧ (0 ≤ a ∧ a < 18446744073709551616) ∧ (0 ≤ b ∧ b < 18446744073709551616) ∧ (0 ≤ c ∧ c < 18446744073709551616) ∧ (0 ≤ d ∧ d < 18446744073709551616) := by
  obtain ⟨h1, h2⟩ := h
  match l, h1 with
  | [a, b, c, d], _ => exact ⟨a, b, c, d, rfl, h2 a (by simp), h2 b (by simp), h2 c (by simp), h2 d (by simp)⟩
theorem W4.of {l : List Int} (h : InA .u64 4 l) : W4 l := ⟨h.1, fun x hx => ⟨(h.2 x hx).1, by have := (h.2 x hx).2; simp [IntKind.max, IntKind.bits, IntKind.signed] at this; omega⟩⟩
theorem word_Sub_unroll {α : Type} (mk : Int → List Int → List Int → α) (n k : Nat) (a b c d e f g h : Int) : Fba.l4_0.g mk n (k + 5) 0 0 [a, b, c, d] [e, f, g, h] [0, 0, 0, 0] [0, 0, 0, 0] = bindO (xSub64 (a, e, 0)) fun r => bindO (xSub64 (b, f, r.2)) fun s => bindO (xSub64 (c, g, s.2)) fun t => bindO (xSub64 (d, h, t.2)) fun u => some (mk u.2 [r.1, s.1, t.1, u.1] [0, 0, 0, 0]) := by kernel_rfl
theorem xsub_tot {a b c : Int} (ha : 0 ≤ a) (hb : 0 ≤ b ∧ b < 18446744073709551616) (hc : c = 0 ∨ c = 1) : ∃ r s, xSub64 (a, b, c) = some (r, s) ∧ (s = 0 ∨ s = 1) := by
  refine ⟨_, _, iT ha (iT hb.1 (iT hb.2 (iT (by rcases hc with rfl | rfl <;> simp) (iT (by rcases hc with rfl | rfl <;> simp) rfl)))), ?_⟩
  split
  · exact .inr rfl
  · exact .inl rfl
theorem sub_tot {n : Nat} (hn : 100 ≤ n) {x y : List Int} (hx : W4 x) (hy : W4 y) : Tot (Fba.m n (x, y)) := by
  obtain ⟨a, b, c, d, rfl, ha, hb, hc, hd⟩ := hx.split
  obtain ⟨e, f, g, h, rfl, he, hf, hg, hh⟩ := hy.split
  obtain ⟨k, rfl⟩ : ∃ k, n = k + 5 := ⟨n - 5, by omega⟩
  obtain ⟨r0, s0, e0, h0⟩ := xsub_tot ha.1 he (.inl rfl)
  obtain ⟨r1, s1, e1, h1⟩ := xsub_tot hb.1 hf h0
  obtain ⟨r2, s2, e2, h2⟩ := xsub_tot hc.1 hg h1
  obtain ⟨r3, s3, e3, h3⟩ := xsub_tot hd.1 hh h2
  refine ⟨_, bO (a := (s3, [r0, r1, r2, r3], [0, 0, 0, 0])) ((word_Sub_unroll _ _ _ _ _ _ _ _ _ _ _).trans (bO e0 (bO e1 (bO e2 (bO e3 rfl))))) rfl⟩
theorem prefix_tot (n : Nat) (a b : List Int) : Tot (Fad.m n (a, b)) := by
  refine tI (fun h => tI (fun _ => tO (tS _) fun _ _ => tS _) fun h2 => ?_) fun _ => tS _
  exact absurd (by simpa using h) h2
theorem selector8000 : Tot (Fah.m 8000 (b8 [100, 101, 112, 111, 115, 105, 116, 84, 111, 40, 97, 100, 100, 114, 101, 115, 115, 41])) :=
  Option.isSome_iff_exists.1 (by kernel_rfl)
end Go.Abs.Pure
end
section
set_option linter.unusedVariables false
set_option linter.unusedSimpArgs false
set_option maxRecDepth 100000
namespace Go.Abs.Pure
open Go Go.Abs Go.Proofs
theorem tB {α β : Type} {x : Option α} {a : α} {f : α → Option β} (h : x = some a) (k : Tot (f a)) : Tot (bindO x f) := by
  rw [h]; exact k
def mkEv (op dp : Int) (se ar va da : List Int) (fa : Int) : AV := .agg [.int .u8 op, .int .i64 dp, .ints .u8 20 se, .ints .u64 4 ar, .ints .u64 4 va, .rints .u8 da, .int .u16 fa]
def EvT (v : AV) : Prop := ∃ op dp se ar va da fa, v = mkEv op dp se ar va da fa ∧ W4 ar ∧ W4 va
theorem tEv {β : Type} {evs : List AV} (hq : ∀ v ∈ evs, EvT v) {i : Int} (h0 : 0 ≤ i) (h1 : i < ((evs.length : Nat) : Int)) {f : Int → Int → List Int → List Int → List Int → List Int → Int → Option β}
    (k : ∀ op dp se ar va da fa, W4 ar → W4 va → Tot (f op dp se ar va da fa)) :
    Tot (bindO (Go.Abs.tkAgg 7 (List.getD evs (Int.toNat i) Go.Abs.AV.any)) fun r10 => bindO (Go.Abs.tkInt .u8 (List.getD r10 0 Go.Abs.AV.any)) fun r12 => bindO (Go.Abs.tkInt .i64 (List.getD r10 1 Go.Abs.AV.any)) fun r14 =>
      bindO (Go.Abs.tkInts .u8 20 (List.getD r10 2 Go.Abs.AV.any)) fun r16 => bindO (Go.Abs.tkInts .u64 4 (List.getD r10 3 Go.Abs.AV.any)) fun r18 => bindO (Go.Abs.tkInts .u64 4 (List.getD r10 4 Go.Abs.AV.any)) fun r20 =>
      bindO (Go.Abs.tkRints .u8 (List.getD r10 5 Go.Abs.AV.any)) fun r22 => bindO (Go.Abs.tkInt .u16 (List.getD r10 6 Go.Abs.AV.any)) fun r24 => f r12 r14 r16 r18 r20 r22 r24) := by
  obtain ⟨j, rfl⟩ : ∃ j : Nat, i = (j : Int) := ⟨i.toNat, by omega⟩
  have hj : j < evs.length := by omega
  rw [at_nat hj]
  obtain ⟨op, dp, se, ar, va, da, fa, he, h1, h2⟩ := hq _ (List.getElem_mem hj)
  rw [he]
  exact k op dp se ar va da fa h1 h2
theorem tcalls_tot (n : Nat) (t) : Tot (Fak.m n t) := by
  unfold Fak.m Fak.g
  repeat' first | exact tS _ | refine tI (fun _ => ?_) fun _ => ?_
def Tq {α : Type} (P : α → Prop) (x : Option α) : Prop := ∃ r, x = some r ∧ P r
theorem qS {α : Type} {P : α → Prop} {r : α} (h : P r) : Tq P (some r) := ⟨r, rfl, h⟩
theorem qO {α β : Type} {P : β → Prop} {x : Option α} {f : α → Option β} (h : Tot x) (k : ∀ r, x = some r → Tq P (f r)) : Tq P (bindO x f) := by
  obtain ⟨r, hr⟩ := h
  subst hr
  exact k r rfl
theorem qI {α : Type} {P : α → Prop} {c : Prop} [Decidable c] {a b : Option α} (h1 : c → Tq P a) (h2 : ¬ c → Tq P b) : Tq P (if c then a else b) := by
  by_cases h : c
  · rw [if_pos h]; exact h1 h
  · rw [if_neg h]; exact h2 h
theorem qEv {β : Type} {P : β → Prop} {evs : List AV} (hq : ∀ v ∈ evs, EvT v) {i : Int} (h0 : 0 ≤ i) (h1 : i < ((evs.length : Nat) : Int)) {f : Int → Int → List Int → List Int → List Int → List Int → Int → Option β}
    (k : ∀ op dp se ar va da fa, W4 ar → W4 va → Tq P (f op dp se ar va da fa)) :
    Tq P (bindO (Go.Abs.tkAgg 7 (List.getD evs (Int.toNat i) Go.Abs.AV.any)) fun r10 => bindO (Go.Abs.tkInt .u8 (List.getD r10 0 Go.Abs.AV.any)) fun r12 => bindO (Go.Abs.tkInt .i64 (List.getD r10 1 Go.Abs.AV.any)) fun r14 =>
      bindO (Go.Abs.tkInts .u8 20 (List.getD r10 2 Go.Abs.AV.any)) fun r16 => bindO (Go.Abs.tkInts .u64 4 (List.getD r10 3 Go.Abs.AV.any)) fun r18 => bindO (Go.Abs.tkInts .u64 4 (List.getD r10 4 Go.Abs.AV.any)) fun r20 =>
      bindO (Go.Abs.tkRints .u8 (List.getD r10 5 Go.Abs.AV.any)) fun r22 => bindO (Go.Abs.tkInt .u16 (List.getD r10 6 Go.Abs.AV.any)) fun r24 => f r12 r14 r16 r18 r20 r22 r24) := by
  obtain ⟨j, rfl⟩ : ∃ j : Nat, i = (j : Int) := ⟨i.toNat, by omega⟩
  have hj : j < evs.length := by omega
  rw [at_nat hj]
  obtain ⟨op, dp, se, ar, va, da, fa, he, h1, h2⟩ := hq _ (List.getElem_mem hj)
  rw [he]
  exact k op dp se ar va da fa h1 h2
theorem loose_loop {n : Nat} (evs : List AV) (hq : ∀ v ∈ evs, EvT v) (hl : evs.length ≤ 1000) : ∀ (k m j : Nat) (out : List Int), j + k = evs.length → k < m → out.length ≤ j →
    Tq (fun r => r.length ≤ evs.length) (Fal.l3_0.g (fun a => a) n m (j : Int) ((evs.length : Nat) : Int) evs evs out)
  | 0, m + 1, j, out, hj, _, ho => by
    unfold Fal.l3_0.g Fal.l3_0.r
    exact qI (fun h => by simp at h; omega) fun _ => qS (by show out.length ≤ evs.length; omega)
  | k + 1, m + 1, j, out, hj, hm, ho => by
    have ih0 := loose_loop (n := n) evs hq hl k m (j + 1) out (by omega) (by omega) (by omega)
    have ih1 := fun x => loose_loop (n := n) evs hq hl k m (j + 1) (out ++ [x]) (by omega) (by omega) (by simp; omega)
    have hnx := next_at (j := j) (by omega)
    unfold Fal.l3_0.g Fal.l3_0.r
    simp only [hnx]
    refine qI (fun _ => qI (fun _ => qI (fun _ => qEv hq (by omega) (by omega) fun op dp se ar va da fa h1 h2 => ?_) fun h => by omega) fun h => by omega) fun _ => qS (by show out.length ≤ evs.length; omega)
    repeat' first | exact ih0 | exact ih1 _ | refine qI (fun _ => ?_) fun _ => ?_ | refine qO (tcalls_tot _ _) fun _ _ => ?_ | refine qEv hq (by omega) (by omega) fun _ _ _ _ _ _ _ _ _ => ?_
    all_goals first | omega | (simp at *; omega) | skip
theorem loose_tot {n : Nat} (hn : 400 ≤ n) {evs : List AV} (hq : ∀ v ∈ evs, EvT v) (hl : evs.length ≤ 300) : ∃ lo, Fal.m n evs = some lo ∧ lo.length ≤ 300 := by
  obtain ⟨r, h, hr⟩ := loose_loop (n := n) evs hq (by omega) evs.length n 0 [] (by omega) (by omega) (by simp)
  exact ⟨r, bO h rfl, by omega⟩
theorem makesS1_tot (n : Nat) (t) : Tot (Fi.m n t) := by
  unfold Fi.m Fi.g
  repeat' first | exact tS _ | refine tI (fun _ => ?_) fun _ => ?_
theorem ixm_loop {α : Type} {n : Nat} (mk : Int → α) (mk1 : α) (evs : List AV) (hq : ∀ v ∈ evs, EvT v) (hl : evs.length ≤ 1000) : ∀ (k m j : Nat), j + k = evs.length → k < m →
    Tot (Fc.l2_0.g mk mk1 n m (j : Int) ((evs.length : Nat) : Int) evs)
  | 0, m + 1, j, hj, _ => by
    unfold Fc.l2_0.g Fc.l2_0.r
    exact tI (fun h => by simp at h; omega) fun _ => tS _
  | k + 1, m + 1, j, hj, hm => by
    have ih := ixm_loop (n := n) mk mk1 evs hq hl k m (j + 1) (by omega) (by omega)
    have hnx := next_at (j := j) (by omega)
    unfold Fc.l2_0.g Fc.l2_0.r
    simp only [hnx]
    exact tI (fun _ => tI (fun _ => tI (fun _ => tEv hq (by omega) (by omega) fun op dp se ar va da fa h1 h2 => tO (makesS1_tot _ _) fun _ _ => tI (fun _ => tS _) fun _ => ih) fun h => by omega) fun h => by omega) fun _ => tS _
theorem ixm_tot {n : Nat} (hn : 400 ≤ n) {evs : List AV} (hq : ∀ v ∈ evs, EvT v) (hl : evs.length ≤ 300) : Tot (Fc.m n evs) :=
  tO (ixm_loop _ _ evs hq (by omega) evs.length n 0 (by omega) (by omega)) fun r _ => by rcases r with r | r <;> exact tS _
theorem blS1_tot {n : Nat} (hn : 100 ≤ n) (op dp : Int) (se ar va da : List Int) (fa : Int) (o s : List Int) (hva : W4 va) (hs : W4 s) : Tot (Fae.m n (op, dp, se, ar, va, da, fa, o, s)) :=
  tI (fun _ => tS _) fun _ => tI (fun _ => tS _) fun _ => tO (prefix_tot n _ _) fun _ _ => tI (fun _ => tS _) fun _ => tO (sub_tot hn hs hva) fun _ _ => tO (small_tot n _) fun _ _ => tI (fun _ => tS _) fun _ => tS _
theorem ixb_loop {α : Type} {n : Nat} (hn : 100 ≤ n) (mk : Int → α) (mk1 : α) (evs : List AV) (hq : ∀ v ∈ evs, EvT v) (hl : evs.length ≤ 1000) (o s : List Int) (hs : W4 s) : ∀ (k m j : Nat), j + k = evs.length → k < m →
    Tot (Fd.l2_0.g mk mk1 n m (j : Int) ((evs.length : Nat) : Int) o s evs)
  | 0, m + 1, j, hj, _ => by
    unfold Fd.l2_0.g Fd.l2_0.r
    exact tI (fun h => by simp at h; omega) fun _ => tS _
  | k + 1, m + 1, j, hj, hm => by
    have ih := ixb_loop (n := n) hn mk mk1 evs hq hl o s hs k m (j + 1) (by omega) (by omega)
    have hnx := next_at (j := j) (by omega)
    unfold Fd.l2_0.g Fd.l2_0.r
    simp only [hnx]
    exact tI (fun _ => tI (fun _ => tI (fun _ => tEv hq (by omega) (by omega) fun op dp se ar va da fa h1 h2 => tO (blS1_tot hn _ _ _ _ _ _ _ _ _ h2 hs) fun _ _ => tI (fun _ => tS _) fun _ => ih) fun h => by omega) fun h => by omega) fun _ => tS _
theorem belongs_tot {n : Nat} (hn : 400 ≤ n) {evs : List AV} (hq : ∀ v ∈ evs, EvT v) (hl : evs.length ≤ 300) {a s : List Int} (ha : a.length = 20) (hs : W4 s) : Tot (Faf.m n (evs, a, s)) := by
  refine tB (wide_tot (by omega) ha) (tB (bytes_tot (by omega) _) (tB (wide_tot (by omega) ha) (tI (fun _ => tS _) fun _ => ?_)))
  refine tO (tO (tO (ixb_loop (by omega) _ _ evs hq (by omega) _ s hs evs.length n 0 (by omega) (by omega)) fun r _ => by rcases r with r | r <;> exact tS _) fun _ _ => tS _) fun _ _ => tS _
theorem ixi_loop {α : Type} {n : Nat} (mk : Int → α) (mk1 : α) (v : Int) (l : List Int) (hl : l.length ≤ 1000) : ∀ (k m j : Nat), j + k = l.length → k < m → Tot (Fk.l2_0.g mk mk1 n m (j : Int) ((l.length : Nat) : Int) v l)
  | 0, m + 1, j, hj, _ => by
    unfold Fk.l2_0.g Fk.l2_0.r
    exact tI (fun h => by simp at h; omega) fun _ => tS _
  | k + 1, m + 1, j, hj, hm => by
    have ih := ixi_loop (n := n) mk mk1 v l hl k m (j + 1) (by omega) (by omega)
    have hnx := next_at (j := j) (by omega)
    unfold Fk.l2_0.g Fk.l2_0.r
    simp only [hnx]
    exact tI (fun _ => tI (fun _ => tI (fun _ => tI (fun _ => tS _) fun _ => ih) fun h => by omega) fun h => by omega) fun _ => tS _
theorem has_tot {n : Nat} (hn : 400 ≤ n) {l : List Int} (hl : l.length ≤ 300) (v : Int) : Tot (Fe.m n (l, v)) :=
  tO (tO (ixi_loop _ _ v l (by omega) l.length n 0 (by omega) (by omega)) fun r _ => by rcases r with r | r <;> exact tS _) fun _ _ => tS _
structure Cl (n : Nat) : Prop where
  hn : 400 ≤ n
  sel : Tot (Fah.m n (b8 [100, 101, 112, 111, 115, 105, 116, 84, 111, 40, 97, 100, 100, 114, 101, 115, 115, 41]))
theorem cl8000 : Cl 8000 := ⟨by decide, selector8000⟩
section
variable {n : Nat} (c : Cl n) (op : Int) (dp : Int) (se : List Int) (ar : List Int) (va : List Int) (da : List Int) (fa : Int) (al : List AV) (sl : List AV) (w6 : Int) (w7 : Int) (x0 : List Int) (x1 : List Int) (x2 : Bool) (x3 : List Int) (x4 : List Int) (x5 : List Int) (x6 : Int) (x7 : Int) (x8 : Int) (x9 : List Int) (x10 : List Int) (x11 : Bool) (x12 : List Int) (x13 : Int) (x14 : Int) (x15 : List Int) (x16 : List Int) (ro : Int) (st : Bool) (bo : Bool) (evs : List AV) (pl : Int)
theorem banned_tot (n : Nat) : Tot (Fj.m n (op, dp, se, ar, va, da, fa, al, sl, w6, w7, x0, x1, x2, x3, x4, x5, x6, x7, x8, x9, x10, x11, x12, x13, x14, x15, x16, ro, st, bo, evs, pl)) := by
  unfold Fj.m Fj.g
  repeat' first | exact tS _ | refine tI (fun _ => ?_) fun _ => ?_
theorem calls_tot (n : Nat) : Tot (Fv.m n (op, dp, se, ar, va, da, fa, al, sl, w6, w7, x0, x1, x2, x3, x4, x5, x6, x7, x8, x9, x10, x11, x12, x13, x14, x15, x16, ro, st, bo, evs, pl)) := by
  unfold Fv.m Fv.g
  repeat' first | exact tS _ | refine tI (fun _ => ?_) fun _ => ?_
theorem looks_tot (n : Nat) : Tot (Fw.m n (op, dp, se, ar, va, da, fa, al, sl, w6, w7, x0, x1, x2, x3, x4, x5, x6, x7, x8, x9, x10, x11, x12, x13, x14, x15, x16, ro, st, bo, evs, pl)) := by
  unfold Fw.m Fw.g
  repeat' first | exact tS _ | refine tI (fun _ => ?_) fun _ => ?_ | refine tO (calls_tot op dp se ar va da fa al sl w6 w7 x0 x1 x2 x3 x4 x5 x6 x7 x8 x9 x10 x11 x12 x13 x14 x15 x16 ro st bo evs pl n) fun _ _ => ?_
include c in
theorem other_eq : Ft.m n (op, dp, se, ar, va, da, fa, al, sl, w6, w7, x0, x1, x2, x3, x4, x5, x6, x7, x8, x9, x10, x11, x12, x13, x14, x15, x16, ro, st, bo, evs, pl) = some (addrX ar) := bO (addr_tot (by have := c.hn; omega) ar) rfl
include c in
theorem toDesk_tot : Tot (Fl.m n (op, dp, se, ar, va, da, fa, al, sl, w6, w7, x0, x1, x2, x3, x4, x5, x6, x7, x8, x9, x10, x11, x12, x13, x14, x15, x16, ro, st, bo, evs, pl)) := tB (other_eq c op dp se ar va da fa al sl w6 w7 x0 x1 x2 x3 x4 x5 x6 x7 x8 x9 x10 x11 x12 x13 x14 x15 x16 ro st bo evs pl) (tB rfl (tS _))
include c in
theorem makes_tot (hq : ∀ v ∈ evs, EvT v) (hl : evs.length ≤ 300) : Tot (Fu.m n (op, dp, se, ar, va, da, fa, al, sl, w6, w7, x0, x1, x2, x3, x4, x5, x6, x7, x8, x9, x10, x11, x12, x13, x14, x15, x16, ro, st, bo, evs, pl)) := by
  unfold Fu.m Fu.g
  repeat' first | exact tS _ | refine tI (fun _ => ?_) fun _ => ?_ | refine tO (ixm_tot c.hn hq hl) fun _ _ => ?_ | refine tB (other_eq c op dp se ar va da fa al sl w6 w7 x0 x1 x2 x3 x4 x5 x6 x7 x8 x9 x10 x11 x12 x13 x14 x15 x16 ro st bo evs pl) ?_
include c in
theorem empty_tot (hC : ∀ a, Tot (Fab.m n (al, sl, w6, w7, a))) : Tot (Fx.m n (op, dp, se, ar, va, da, fa, al, sl, w6, w7, x0, x1, x2, x3, x4, x5, x6, x7, x8, x9, x10, x11, x12, x13, x14, x15, x16, ro, st, bo, evs, pl)) := by
  have hw := wide_tot (n := n) (by have := c.hn; omega) (addrX_length ar)
  unfold Fx.m Fx.g
  refine tB (other_eq c op dp se ar va da fa al sl w6 w7 x0 x1 x2 x3 x4 x5 x6 x7 x8 x9 x10 x11 x12 x13 x14 x15 x16 ro st bo evs pl) (tB hw (tO (small_tot n _) fun _ _ => tO (looks_tot op dp se ar va da fa al sl w6 w7 x0 x1 x2 x3 x4 x5 x6 x7 x8 x9 x10 x11 x12 x13 x14 x15 x16 ro st bo evs pl n) fun _ _ => ?_))
  repeat' first | exact tS _ | refine tI (fun _ => ?_) fun _ => ?_ | refine tO (toDesk_tot c op dp se ar va da fa al sl w6 w7 x0 x1 x2 x3 x4 x5 x6 x7 x8 x9 x10 x11 x12 x13 x14 x15 x16 ro st bo evs pl) fun _ _ => ?_ | refine tB (other_eq c op dp se ar va da fa al sl w6 w7 x0 x1 x2 x3 x4 x5 x6 x7 x8 x9 x10 x11 x12 x13 x14 x15 x16 ro st bo evs pl) ?_ | refine tO (hC _) fun _ _ => ?_
include c in
theorem pays_tot : Tot (Fac.m n (op, dp, se, ar, va, da, fa, al, sl, w6, w7, x0, x1, x2, x3, x4, x5, x6, x7, x8, x9, x10, x11, x12, x13, x14, x15, x16, ro, st, bo, evs, pl)) := by
  unfold Fac.m Fac.g
  repeat' first | exact tS _ | refine tI (fun _ => ?_) fun _ => ?_ | refine tO (toDesk_tot c op dp se ar va da fa al sl w6 w7 x0 x1 x2 x3 x4 x5 x6 x7 x8 x9 x10 x11 x12 x13 x14 x15 x16 ro st bo evs pl) fun _ _ => ?_
include c in
theorem visits_tot : Tot (Fm.m n (op, dp, se, ar, va, da, fa, al, sl, w6, w7, x0, x1, x2, x3, x4, x5, x6, x7, x8, x9, x10, x11, x12, x13, x14, x15, x16, ro, st, bo, evs, pl)) := by
  unfold Fm.m Fm.g
  refine tO (calls_tot op dp se ar va da fa al sl w6 w7 x0 x1 x2 x3 x4 x5 x6 x7 x8 x9 x10 x11 x12 x13 x14 x15 x16 ro st bo evs pl n) fun _ _ => ?_
  repeat' first | exact tS _ | refine tI (fun _ => ?_) fun _ => ?_ | refine tO (toDesk_tot c op dp se ar va da fa al sl w6 w7 x0 x1 x2 x3 x4 x5 x6 x7 x8 x9 x10 x11 x12 x13 x14 x15 x16 ro st bo evs pl) fun _ _ => ?_ | refine tO c.sel fun _ _ => ?_ | refine tB (x := Faj.m n _) rfl ?_
theorem entity_eq (n : Nat) (h0 : x0.length = 20) (h3 : x3.length = 20) (h12 : x12.length = 20) : ∃ r b, Fai.m n (x0, x1, x2, x3, x4, x5, x6, x7, x8, x9, x10, x11, x12, x13, x14, x15, x16, ro) = some (r, b) ∧ r.length = 20 := by
  unfold Fai.m Fai.g
  repeat' first | exact ⟨_, _, rfl, h0⟩ | exact ⟨_, _, rfl, h3⟩ | exact ⟨_, _, rfl, h12⟩ | exact ⟨_, _, rfl, rfl⟩ | split
include c in
theorem stores_tot (hq : ∀ v ∈ evs, EvT v) (hl : evs.length ≤ 300) (har : W4 ar) (h0 : x0.length = 20) (h3 : x3.length = 20) (h12 : x12.length = 20) : Tot (Fn.m n (op, dp, se, ar, va, da, fa, al, sl, w6, w7, x0, x1, x2, x3, x4, x5, x6, x7, x8, x9, x10, x11, x12, x13, x14, x15, x16, ro, st, bo, evs, pl)) := by
  obtain ⟨er, eb, he, hel⟩ := entity_eq x0 x1 x2 x3 x4 x5 x6 x7 x8 x9 x10 x11 x12 x13 x14 x15 x16 ro n h0 h3 h12
  unfold Fn.m Fn.g
  repeat' first | exact tS _ | refine tI (fun _ => ?_) fun _ => ?_ | refine tB he ?_ | refine tO (belongs_tot c.hn hq hl h0 har) fun _ _ => ?_ | refine tO (belongs_tot c.hn hq hl hel har) fun _ _ => ?_
end
theorem note_eq (n : Nat) (r : Int) (b : Bool) (l : List Int) (h : l.length ≤ 100) : Ff.m n (r, b, l) = some (l ++ if b = true then [r] else []) := by
  cases b
  · show some l = _
    simp
  · show (if ((l.length + 1) * 1 ≤ 70368744177664 ∧ l.length + 1 ≤ 9223372036854775807) then some (l ++ [r]) else none) = _
    rw [if_pos (by constructor <;> omega)]
    simp
end Go.Abs.Pure
end
section
set_option linter.unusedVariables false
set_option linter.unusedSimpArgs false
set_option maxRecDepth 100000
namespace Go.Abs.Pure
open Go Go.Abs Go.Proofs
theorem add_len {l : List Int} {k : Nat} (h : l.length ≤ k) (b : Bool) (r : Int) : (l ++ if b = true then [r] else []).length ≤ k + 1 := by
  cases b <;> simp <;> omega
def RL (fa : Int) (b1 b2 b4 b5 b6 b7 b8 : Bool) : List Int := if fa = 130 then [3] else if fa = 0 then (((((((([] : List Int) ++ if b1 = true then [1] else []) ++ if b2 = true then [2] else []) ++ if b4 = true then [4] else []) ++ if b5 = true then [5] else []) ++ if b6 = true then [6] else []) ++ if b7 = true then [7] else []) ++ if b8 = true then [8] else []) else []
theorem RL_len (fa : Int) (b1 b2 b4 b5 b6 b7 b8 : Bool) : (RL fa b1 b2 b4 b5 b6 b7 b8).length ≤ 7 := by
  unfold RL
  split
  · decide
  split
  · exact (add_len (add_len (add_len (add_len (add_len (add_len (add_len (Nat.le_refl 0 : ([] : List Int).length ≤ 0) b1 1) b2 2) b4 4) b5 5) b6 6) b7 7) b8 8)
  · decide
theorem broken_eq {n : Nat} {op : Int} {dp : Int} {se : List Int} {ar : List Int} {va : List Int} {da : List Int} {fa : Int} {al : List AV} {sl : List AV} {w6 : Int} {w7 : Int} {x0 : List Int} {x1 : List Int} {x2 : Bool} {x3 : List Int} {x4 : List Int} {x5 : List Int} {x6 : Int} {x7 : Int} {x8 : Int} {x9 : List Int} {x10 : List Int} {x11 : Bool} {x12 : List Int} {x13 : Int} {x14 : Int} {x15 : List Int} {x16 : List Int} {ro : Int} {st : Bool} {bo : Bool} {evs : List AV} {pl : Int} (lo : List Int) {b1 b2 b4 b5 b6 b7 b8 : Bool} (h1 : Fj.m n (op, dp, se, ar, va, da, fa, al, sl, w6, w7, x0, x1, x2, x3, x4, x5, x6, x7, x8, x9, x10, x11, x12, x13, x14, x15, x16, ro, st, bo, evs, pl) = some b1) (h2 : Fe.m n (lo, pl) = some b2) (h4 : Fu.m n (op, dp, se, ar, va, da, fa, al, sl, w6, w7, x0, x1, x2, x3, x4, x5, x6, x7, x8, x9, x10, x11, x12, x13, x14, x15, x16, ro, st, bo, evs, pl) = some b4) (h5 : Fx.m n (op, dp, se, ar, va, da, fa, al, sl, w6, w7, x0, x1, x2, x3, x4, x5, x6, x7, x8, x9, x10, x11, x12, x13, x14, x15, x16, ro, st, bo, evs, pl) = some b5) (h6 : Fac.m n (op, dp, se, ar, va, da, fa, al, sl, w6, w7, x0, x1, x2, x3, x4, x5, x6, x7, x8, x9, x10, x11, x12, x13, x14, x15, x16, ro, st, bo, evs, pl) = some b6) (h7 : Fm.m n (op, dp, se, ar, va, da, fa, al, sl, w6, w7, x0, x1, x2, x3, x4, x5, x6, x7, x8, x9, x10, x11, x12, x13, x14, x15, x16, ro, st, bo, evs, pl) = some b7) (h8 : Fn.m n (op, dp, se, ar, va, da, fa, al, sl, w6, w7, x0, x1, x2, x3, x4, x5, x6, x7, x8, x9, x10, x11, x12, x13, x14, x15, x16, ro, st, bo, evs, pl) = some b8) : Fo.m n (op, dp, se, ar, va, da, fa, al, sl, w6, w7, x0, x1, x2, x3, x4, x5, x6, x7, x8, x9, x10, x11, x12, x13, x14, x15, x16, ro, st, bo, evs, pl, lo) = some (RL fa b1 b2 b4 b5 b6 b7 b8) := by
  unfold RL
  by_cases f1 : fa = 130
  · rw [if_pos f1]
    exact iT (by simpa using f1) rfl
  rw [if_neg f1]
  by_cases f2 : fa = 0
  · rw [if_pos f2]
    refine iF (by simpa using f1) (iF (by simpa using f2) (bO rfl ?_))
    refine bO h1 (bO (note_eq n 1 b1 _ (Nat.le_trans (Nat.le_refl 0 : ([] : List Int).length ≤ 0) (by decide))) ?_)
    refine bO h2 (bO (note_eq n 2 b2 _ (Nat.le_trans (add_len (Nat.le_refl 0 : ([] : List Int).length ≤ 0) b1 1) (by decide))) ?_)
    refine bO h4 (bO (note_eq n 4 b4 _ (Nat.le_trans (add_len (add_len (Nat.le_refl 0 : ([] : List Int).length ≤ 0) b1 1) b2 2) (by decide))) ?_)
    refine bO h5 (bO (note_eq n 5 b5 _ (Nat.le_trans (add_len (add_len (add_len (Nat.le_refl 0 : ([] : List Int).length ≤ 0) b1 1) b2 2) b4 4) (by decide))) ?_)
    refine bO h6 (bO (note_eq n 6 b6 _ (Nat.le_trans (add_len (add_len (add_len (add_len (Nat.le_refl 0 : ([] : List Int).length ≤ 0) b1 1) b2 2) b4 4) b5 5) (by decide))) ?_)
    refine bO h7 (bO (note_eq n 7 b7 _ (Nat.le_trans (add_len (add_len (add_len (add_len (add_len (Nat.le_refl 0 : ([] : List Int).length ≤ 0) b1 1) b2 2) b4 4) b5 5) b6 6) (by decide))) ?_)
    refine bO h8 (bO (note_eq n 8 b8 _ (Nat.le_trans (add_len (add_len (add_len (add_len (add_len (add_len (Nat.le_refl 0 : ([] : List Int).length ≤ 0) b1 1) b2 2) b4 4) b5 5) b6 6) b7 7) (by decide))) ?_)
    rfl
  · rw [if_neg f2]
    exact iF (by simpa using f1) (iT (by simpa using f2) rfl)
theorem broken_tot {n : Nat} (op : Int) (dp : Int) (se : List Int) (ar : List Int) (va : List Int) (da : List Int) (fa : Int) (al : List AV) (sl : List AV) (w6 : Int) (w7 : Int) (x0 : List Int) (x1 : List Int) (x2 : Bool) (x3 : List Int) (x4 : List Int) (x5 : List Int) (x6 : Int) (x7 : Int) (x8 : Int) (x9 : List Int) (x10 : List Int) (x11 : Bool) (x12 : List Int) (x13 : Int) (x14 : Int) (x15 : List Int) (x16 : List Int) (ro : Int) (st : Bool) (bo : Bool) (evs : List AV) (pl : Int) (lo : List Int) (c : Cl n) (hC : ∀ a, Tot (Fab.m n (al, sl, w6, w7, a))) (hq : ∀ v ∈ evs, EvT v) (hl : evs.length ≤ 300) (har : W4 ar) (h0 : x0.length = 20) (h3 : x3.length = 20) (h12 : x12.length = 20) (hlo : lo.length ≤ 300) : ∃ r, Fo.m n (op, dp, se, ar, va, da, fa, al, sl, w6, w7, x0, x1, x2, x3, x4, x5, x6, x7, x8, x9, x10, x11, x12, x13, x14, x15, x16, ro, st, bo, evs, pl, lo) = some r ∧ r.length ≤ 7 := by
  obtain ⟨b1, e1⟩ := banned_tot op dp se ar va da fa al sl w6 w7 x0 x1 x2 x3 x4 x5 x6 x7 x8 x9 x10 x11 x12 x13 x14 x15 x16 ro st bo evs pl n
  obtain ⟨b2, e2⟩ := has_tot c.hn hlo pl
  obtain ⟨b4, e4⟩ := makes_tot c op dp se ar va da fa al sl w6 w7 x0 x1 x2 x3 x4 x5 x6 x7 x8 x9 x10 x11 x12 x13 x14 x15 x16 ro st bo evs pl hq hl
  obtain ⟨b5, e5⟩ := empty_tot c op dp se ar va da fa al sl w6 w7 x0 x1 x2 x3 x4 x5 x6 x7 x8 x9 x10 x11 x12 x13 x14 x15 x16 ro st bo evs pl hC
  obtain ⟨b6, e6⟩ := pays_tot c op dp se ar va da fa al sl w6 w7 x0 x1 x2 x3 x4 x5 x6 x7 x8 x9 x10 x11 x12 x13 x14 x15 x16 ro st bo evs pl
  obtain ⟨b7, e7⟩ := visits_tot c op dp se ar va da fa al sl w6 w7 x0 x1 x2 x3 x4 x5 x6 x7 x8 x9 x10 x11 x12 x13 x14 x15 x16 ro st bo evs pl
  obtain ⟨b8, e8⟩ := stores_tot c op dp se ar va da fa al sl w6 w7 x0 x1 x2 x3 x4 x5 x6 x7 x8 x9 x10 x11 x12 x13 x14 x15 x16 ro st bo evs pl hq hl har h0 h3 h12
  exact ⟨_, broken_eq lo e1 e2 e4 e5 e6 e7 e8, RL_len _ _ _ _ _ _ _ _⟩
end Go.Abs.Pure
end
section
set_option linter.unusedVariables false
set_option linter.unusedSimpArgs false
set_option maxRecDepth 100000
namespace Go.Abs.Pure
open Go Go.Abs Go.Proofs
def one (ro pl q : Int) : AV := .agg [.int .u8 q, .int .u8 ro, .int .i64 pl]
def Outs (B : Nat → AV → List Int) (ro : Int) : Nat → List AV → List AV
  | _, [] => []
  | j, v :: r => (B j v).map (one ro (j : Int)) ++ Outs B ro (j + 1) r
theorem Outs_len {B : Nat → AV → List Int} {ro : Int} : ∀ (j : Nat) (l : List AV), (∀ (i : Nat) v, v ∈ l → (B i v).length ≤ 7) → (Outs B ro j l).length ≤ 7 * l.length
  | _, [], _ => by simp [Outs]
  | j, v :: r, h => by
    have := Outs_len (ro := ro) (j + 1) r fun i w hw => h i w (by simp [hw])
    have := h j v (by simp)
    simp only [Outs, List.length_append, List.length_map, List.length_cons]; omega
theorem l11_loop {α : Type} (mk : Int → Int → (List AV) → Int → (List AV) → (List AV) → Int → Int → (List AV) → (List AV) → Int → Int → (List Int) → (List Int) → Bool → (List Int) → (List Int) → (List Int) → Int → Int → Int → (List Int) → (List Int) → Bool → (List Int) → Int → Int → (List Int) → (List Int) → Int → Bool → Bool → (List AV) → (List Int) → (List AV) → (List Int) → (List Int) → Bool → (List Int) → (List Int) → (List Int) → Int → Int → Int → (List Int) → (List Int) → Bool → (List Int) → Int → Int → (List Int) → (List Int) → Bool → Bool → Bool → Bool → (List AV) → (List AV) → (List AV) → (List AV) → α) (n : Nat) (x2 : Int) (x3 : Int) (x4 : Int) (x5 : Int) (x6 : List AV) (x7 : List AV) (x8 : List AV) (x9 : Int) (x10 : Int) (x11 : List Int) (x13 : List AV) (x14 : List AV) (x15 : Int) (x16 : Int) (x17 : List Int) (x18 : List Int) (x19 : Bool) (x20 : List Int) (x21 : List Int) (x22 : List Int) (x23 : Int) (x24 : Int) (x25 : Int) (x26 : List Int) (x27 : List Int) (x28 : Bool) (x29 : List Int) (x30 : Int) (x31 : Int) (x32 : List Int) (x33 : List Int) (x34 : Int) (x35 : Bool) (x36 : Bool) (x37 : List AV) (x38 : List Int) (x39 : List Int) (x40 : List Int) (x41 : Bool) (x42 : List Int) (x43 : List Int) (x44 : List Int) (x45 : Int) (x46 : Int) (x47 : Int) (x48 : List Int) (x49 : List Int) (x50 : Bool) (x51 : List Int) (x52 : Int) (x53 : Int) (x54 : List Int) (x55 : List Int) (x56 : Bool) (x57 : Bool) (x58 : Bool) (x59 : Bool) (x60 : List AV) (x61 : List AV) (x62 : List AV) (x63 : List AV)  (h11 : x11.length ≤ 1000) : ∀ (k m j : Nat) (x12 : List AV), j + k = x11.length → k < m → x12.length + k ≤ 100000 →
    Fam.l11_0.g mk n m (j : Int) ((x11.length : Nat) : Int) x2 x3 x4 x5 x6 x7 x8 x9 x10 x11 x12 x13 x14 x15 x16 x17 x18 x19 x20 x21 x22 x23 x24 x25 x26 x27 x28 x29 x30 x31 x32 x33 x34 x35 x36 x37 x38 x39 x40 x41 x42 x43 x44 x45 x46 x47 x48 x49 x50 x51 x52 x53 x54 x55 x56 x57 x58 x59 x60 x61 x62 x63 = some (mk x4 x5 x6 x2 x7 x8 x9 x10 x13 x14 x15 x16 x17 x18 x19 x20 x21 x22 x23 x24 x25 x26 x27 x28 x29 x30 x31 x32 x33 x34 x35 x36 x37 x38 (x12 ++ (x11.drop j).map (one x2 x3)) x39 x40 x41 x42 x43 x44 x45 x46 x47 x48 x49 x50 x51 x52 x53 x54 x55 x56 x57 x58 x59 x60 x61 x62 x63)
  | 0, m + 1, j, x12, hj, _, _ => by
    have : x11.drop j = [] := List.drop_of_length_le (by omega)
    rw [this]
    simp only [List.map_nil, List.append_nil]
    exact iF (by simp; omega) rfl
  | k + 1, m + 1, j, x12, hj, hm, ho => by
    have hlt : j < x11.length := by omega
    have ih := l11_loop mk n x2 x3 x4 x5 x6 x7 x8 x9 x10 x11 x13 x14 x15 x16 x17 x18 x19 x20 x21 x22 x23 x24 x25 x26 x27 x28 x29 x30 x31 x32 x33 x34 x35 x36 x37 x38 x39 x40 x41 x42 x43 x44 x45 x46 x47 x48 x49 x50 x51 x52 x53 x54 x55 x56 x57 x58 x59 x60 x61 x62 x63 h11 k m (j + 1) (x12 ++ [one x2 x3 x11[j]]) (by omega) (by omega) (by simp; omega)
    have hnx := next_at (j := j) (by omega)
    have hg : List.getD x11 (Int.toNat (j : Int)) 0 = x11[j] := by simp [List.getD_eq_getElem?_getD, List.getElem?_eq_getElem hlt]
    have hd : x12 ++ (x11.drop j).map (one x2 x3) = (x12 ++ [one x2 x3 x11[j]]) ++ (x11.drop (j + 1)).map (one x2 x3) := by
      rw [List.drop_eq_getElem_cons hlt, List.map_cons, List.append_assoc]; rfl
    rw [hd]
    refine iT (by simp; omega) (iT (by omega) (iT (by omega) (iT (by constructor <;> omega) ?_)))
    rw [← hnx] at ih
    rw [hg]
    exact ih
theorem l11_eq {n : Nat} (x2 : Int) (x3 : Int) (x4 : Int) (x5 : Int) (x6 : List AV) (x7 : List AV) (x8 : List AV) (x9 : Int) (x10 : Int) (x11 : List Int) (x12 : List AV) (x13 : List AV) (x14 : List AV) (x15 : Int) (x16 : Int) (x17 : List Int) (x18 : List Int) (x19 : Bool) (x20 : List Int) (x21 : List Int) (x22 : List Int) (x23 : Int) (x24 : Int) (x25 : Int) (x26 : List Int) (x27 : List Int) (x28 : Bool) (x29 : List Int) (x30 : Int) (x31 : Int) (x32 : List Int) (x33 : List Int) (x34 : Int) (x35 : Bool) (x36 : Bool) (x37 : List AV) (x38 : List Int) (x39 : List Int) (x40 : List Int) (x41 : Bool) (x42 : List Int) (x43 : List Int) (x44 : List Int) (x45 : Int) (x46 : Int) (x47 : Int) (x48 : List Int) (x49 : List Int) (x50 : Bool) (x51 : List Int) (x52 : Int) (x53 : Int) (x54 : List Int) (x55 : List Int) (x56 : Bool) (x57 : Bool) (x58 : Bool) (x59 : Bool) (x60 : List AV) (x61 : List AV) (x62 : List AV) (x63 : List AV) (hx : x11.length < n) (h11 : x11.length ≤ 1000) (hy : x12.length + x11.length ≤ 100000) : Fam.l11_0.m n n (0, ((x11.length : Nat) : Int), x2, x3, x4, x5, x6, x7, x8, x9, x10, x11, x12, x13, x14, x15, x16, x17, x18, x19, x20, x21, x22, x23, x24, x25, x26, x27, x28, x29, x30, x31, x32, x33, x34, x35, x36, x37, x38, x39, x40, x41, x42, x43, x44, x45, x46, x47, x48, x49, x50, x51, x52, x53, x54, x55, x56, x57, x58, x59, x60, x61, x62, x63) = some (x4, x5, x6, x2, x7, x8, x9, x10, x13, x14, x15, x16, x17, x18, x19, x20, x21, x22, x23, x24, x25, x26, x27, x28, x29, x30, x31, x32, x33, x34, x35, x36, x37, x38, (x12 ++ x11.map (one x2 x3)), x39, x40, x41, x42, x43, x44, x45, x46, x47, x48, x49, x50, x51, x52, x53, x54, x55, x56, x57, x58, x59, x60, x61, x62, x63) := by
  have := l11_loop (fun y0 y1 y2 y3 y4 y5 y6 y7 y8 y9 y10 y11 y12 y13 y14 y15 y16 y17 y18 y19 y20 y21 y22 y23 y24 y25 y26 y27 y28 y29 y30 y31 y32 y33 y34 y35 y36 y37 y38 y39 y40 y41 y42 y43 y44 y45 y46 y47 y48 y49 y50 y51 y52 y53 y54 y55 y56 y57 y58 y59 => (y0, y1, y2, y3, y4, y5, y6, y7, y8, y9, y10, y11, y12, y13, y14, y15, y16, y17, y18, y19, y20, y21, y22, y23, y24, y25, y26, y27, y28, y29, y30, y31, y32, y33, y34, y35, y36, y37, y38, y39, y40, y41, y42, y43, y44, y45, y46, y47, y48, y49, y50, y51, y52, y53, y54, y55, y56, y57, y58, y59)) n x2 x3 x4 x5 x6 x7 x8 x9 x10 x11 x13 x14 x15 x16 x17 x18 x19 x20 x21 x22 x23 x24 x25 x26 x27 x28 x29 x30 x31 x32 x33 x34 x35 x36 x37 x38 x39 x40 x41 x42 x43 x44 x45 x46 x47 x48 x49 x50 x51 x52 x53 x54 x55 x56 x57 x58 x59 x60 x61 x62 x63 h11 x11.length n 0 x12 (by omega) hx hy
  simp only [List.drop_zero] at this
  exact this
def BrokenIs (n : Nat) (B : Nat → AV → List Int) (evs : List AV) (x8 : List AV) (x9 : List AV) (x10 : Int) (x11 : Int) (x12 : List Int) (x13 : List Int) (x14 : Bool) (x15 : List Int) (x16 : List Int) (x17 : List Int) (x18 : Int) (x19 : Int) (x20 : Int) (x21 : List Int) (x22 : List Int) (x23 : Bool) (x24 : List Int) (x25 : Int) (x26 : Int) (x27 : List Int) (x28 : List Int) (x29 : Int) (x30 : Bool) (x31 : Bool) (x32 : List AV) (x33 : List Int) : Prop := ∀ (j : Nat) op dp se ar va da fa, W4 ar → W4 va → mkEv op dp se ar va da fa ∈ evs → Fo.m n (op, dp, se, ar, va, da, fa, x8, x9, x10, x11, x12, x13, x14, x15, x16, x17, x18, x19, x20, x21, x22, x23, x24, x25, x26, x27, x28, x29, x30, x31, x32, (j : Int), x33) = some (B j (mkEv op dp se ar va da fa)) ∧ (B j (mkEv op dp se ar va da fa)).length ≤ 7
theorem l8_loop {α : Type} (mk : Int → (List AV) → (List AV) → Int → Int → (List Int) → (List Int) → Bool → (List Int) → (List Int) → (List Int) → Int → Int → Int → (List Int) → (List Int) → Bool → (List Int) → Int → Int → (List Int) → (List Int) → Bool → Bool → Bool → Bool → (List AV) → (List AV) → (List AV) → (List AV) → (List AV) → α) {n : Nat} (hn : 400 ≤ n) (B : Nat → AV → List Int) (x2 : List AV) (x3 : Int) (x4 : List AV) (x5 : List AV) (x6 : Int) (x7 : Int) (x8 : List AV) (x9 : List AV) (x10 : Int) (x11 : Int) (x12 : List Int) (x13 : List Int) (x14 : Bool) (x15 : List Int) (x16 : List Int) (x17 : List Int) (x18 : Int) (x19 : Int) (x20 : Int) (x21 : List Int) (x22 : List Int) (x23 : Bool) (x24 : List Int) (x25 : Int) (x26 : Int) (x27 : List Int) (x28 : List Int) (x29 : Int) (x30 : Bool) (x31 : Bool) (x32 : List AV) (x33 : List Int) (x35 : List Int) (x36 : List Int) (x37 : Bool) (x38 : List Int) (x39 : List Int) (x40 : List Int) (x41 : Int) (x42 : Int) (x43 : Int) (x44 : List Int) (x45 : List Int) (x46 : Bool) (x47 : List Int) (x48 : Int) (x49 : Int) (x50 : List Int) (x51 : List Int) (x52 : Bool) (x53 : Bool) (x54 : Bool) (x55 : Bool) (x56 : List AV) (x57 : List AV) (x58 : List AV) (x59 : List AV) (hq : ∀ v ∈ x2, EvT v) (hl : x2.length ≤ 300) (hB : BrokenIs n B x2 x8 x9 x10 x11 x12 x13 x14 x15 x16 x17 x18 x19 x20 x21 x22 x23 x24 x25 x26 x27 x28 x29 x30 x31 x32 x33) : ∀ (k m j : Nat) (x34 : List AV), j + k = x2.length → k < m → x34.length + 7 * k ≤ 50000 →
    Fam.l8_0.g mk n m (j : Int) ((x2.length : Nat) : Int) x2 x3 x4 x5 x6 x7 x8 x9 x10 x11 x12 x13 x14 x15 x16 x17 x18 x19 x20 x21 x22 x23 x24 x25 x26 x27 x28 x29 x30 x31 x32 x33 x34 x35 x36 x37 x38 x39 x40 x41 x42 x43 x44 x45 x46 x47 x48 x49 x50 x51 x52 x53 x54 x55 x56 x57 x58 x59 = some (mk x3 x4 x5 x6 x7 x35 x36 x37 x38 x39 x40 x41 x42 x43 x44 x45 x46 x47 x48 x49 x50 x51 x52 x53 x54 x55 x56 x57 x58 x59 (x34 ++ Outs B x3 j (x2.drop j)))
  | 0, m + 1, j, x34, hj, _, _ => by
    have : x2.drop j = [] := List.drop_of_length_le (by omega)
    rw [this]
    simp only [Outs, List.append_nil]
    exact iF (by simp; omega) rfl
  | k + 1, m + 1, j, x34, hj, hm, ho => by
    have hlt : j < x2.length := by omega
    obtain ⟨op, dp, se, ar, va, da, fa, hv, h1, h2⟩ := hq x2[j] (List.getElem_mem hlt)
    obtain ⟨hb1, hb2⟩ := hB j op dp se ar va da fa h1 h2 (by rw [← hv]; exact List.getElem_mem hlt)
    have ih := l8_loop mk hn B x2 x3 x4 x5 x6 x7 x8 x9 x10 x11 x12 x13 x14 x15 x16 x17 x18 x19 x20 x21 x22 x23 x24 x25 x26 x27 x28 x29 x30 x31 x32 x33 x35 x36 x37 x38 x39 x40 x41 x42 x43 x44 x45 x46 x47 x48 x49 x50 x51 x52 x53 x54 x55 x56 x57 x58 x59 hq hl hB k m (j + 1) (x34 ++ (B j (mkEv op dp se ar va da fa)).map (one x3 (j : Int))) (by omega) (by omega) (by simp; omega)
    have hnx := next_at (j := j) (by omega)
    have hd : x34 ++ Outs B x3 j (x2.drop j) = (x34 ++ (B j (mkEv op dp se ar va da fa)).map (one x3 (j : Int))) ++ Outs B x3 (j + 1) (x2.drop (j + 1)) := by
      rw [List.drop_eq_getElem_cons hlt, hv]; simp [Outs]
    rw [hd]
    refine iT (by simp; omega) (iT (by omega) (iT (by omega) ?_))
    rw [at_nat hlt, hv]
    refine bO rfl (bO rfl (bO rfl (bO rfl (bO rfl (bO rfl (bO rfl (bO rfl ?_)))))))
    refine bO hb1 ?_
    refine bO (l11_eq x3 (j : Int) (j : Int) ((x2.length : Nat) : Int) x2 x4 x5 x6 x7 (B j (mkEv op dp se ar va da fa)) x34 x8 x9 x10 x11 x12 x13 x14 x15 x16 x17 x18 x19 x20 x21 x22 x23 x24 x25 x26 x27 x28 x29 x30 x31 x32 x33 x35 x36 x37 x38 x39 x40 x41 x42 x43 x44 x45 x46 x47 x48 x49 x50 x51 x52 x53 x54 x55 x56 x57 x58 x59 (by omega) (by omega) (by omega)) ?_
    rw [← hnx] at ih
    exact ih
end Go.Abs.Pure
end
section
set_option linter.unusedVariables false
set_option linter.unusedSimpArgs false
set_option maxRecDepth 100000
namespace Go.Abs.Pure
open Go Go.Abs Go.Proofs
def born (w s : Bool) : Bool := match w with | true => !s | false => false
def Bf (n : Nat) (al : List AV) (sl : List AV) (w6 : Int) (w7 : Int) (x0 : List Int) (x1 : List Int) (x2 : Bool) (x3 : List Int) (x4 : List Int) (x5 : List Int) (x6 : Int) (x7 : Int) (x8 : Int) (x9 : List Int) (x10 : List Int) (x11 : Bool) (x12 : List Int) (x13 : Int) (x14 : Int) (x15 : List Int) (x16 : List Int) (ro : Int) (st bo : Bool) (evs : List AV) (lo : List Int) (j : Nat) (v : AV) : List Int := match v with
  | .agg [.int .u8 op, .int .i64 dp, .ints .u8 20 se, .ints .u64 4 ar, .ints .u64 4 va, .rints .u8 da, .int .u16 fa] => (Fo.m n (op, dp, se, ar, va, da, fa, al, sl, w6, w7, x0, x1, x2, x3, x4, x5, x6, x7, x8, x9, x10, x11, x12, x13, x14, x15, x16, ro, st, bo, evs, (j : Int), lo)).getD []
  | _ => []
theorem bf_is {n : Nat} {al : List AV} {sl : List AV} {w6 : Int} {w7 : Int} {x0 : List Int} {x1 : List Int} {x2 : Bool} {x3 : List Int} {x4 : List Int} {x5 : List Int} {x6 : Int} {x7 : Int} {x8 : Int} {x9 : List Int} {x10 : List Int} {x11 : Bool} {x12 : List Int} {x13 : Int} {x14 : Int} {x15 : List Int} {x16 : List Int} (c : Cl n) (hC : ∀ a, Tot (Fab.m n (al, sl, w6, w7, a))) (h0 : x0.length = 20) (h3 : x3.length = 20) (h12 : x12.length = 20) (ro : Int) (st bo : Bool) {evs : List AV} (hq : ∀ v ∈ evs, EvT v) (hl : evs.length ≤ 300) {lo : List Int} (hlo : lo.length ≤ 300) : BrokenIs n (Bf n al sl w6 w7 x0 x1 x2 x3 x4 x5 x6 x7 x8 x9 x10 x11 x12 x13 x14 x15 x16 ro st bo evs lo) evs al sl w6 w7 x0 x1 x2 x3 x4 x5 x6 x7 x8 x9 x10 x11 x12 x13 x14 x15 x16 ro st bo evs lo := fun j op dp se ar va da fa h1 h2 _ => by
  obtain ⟨r, e, hr⟩ := broken_tot op dp se ar va da fa al sl w6 w7 x0 x1 x2 x3 x4 x5 x6 x7 x8 x9 x10 x11 x12 x13 x14 x15 x16 ro st bo evs (j : Int) lo c hC hq hl h1 h0 h3 h12 hlo
  have : Bf n al sl w6 w7 x0 x1 x2 x3 x4 x5 x6 x7 x8 x9 x10 x11 x12 x13 x14 x15 x16 ro st bo evs lo j (mkEv op dp se ar va da fa) = r := by
    show (Fo.m n _).getD [] = r
    rw [e]; rfl
  rw [this]
  exact ⟨e, hr⟩
def Ro (n : Nat) (al : List AV) (sl : List AV) (w6 : Int) (w7 : Int) (x0 : List Int) (x1 : List Int) (x2 : Bool) (x3 : List Int) (x4 : List Int) (x5 : List Int) (x6 : Int) (x7 : Int) (x8 : Int) (x9 : List Int) (x10 : List Int) (x11 : Bool) (x12 : List Int) (x13 : Int) (x14 : Int) (x15 : List Int) (x16 : List Int) (ro : Int) (st bo : Bool) (evs : List AV) : List AV := Outs (Bf n al sl w6 w7 x0 x1 x2 x3 x4 x5 x6 x7 x8 x9 x10 x11 x12 x13 x14 x15 x16 ro st bo evs ((Fal.m n evs).getD [])) ro 0 evs
theorem Ro_nil (n : Nat) (al : List AV) (sl : List AV) (w6 : Int) (w7 : Int) (x0 : List Int) (x1 : List Int) (x2 : Bool) (x3 : List Int) (x4 : List Int) (x5 : List Int) (x6 : Int) (x7 : Int) (x8 : Int) (x9 : List Int) (x10 : List Int) (x11 : Bool) (x12 : List Int) (x13 : Int) (x14 : Int) (x15 : List Int) (x16 : List Int) (ro : Int) (st bo : Bool) : Ro n al sl w6 w7 x0 x1 x2 x3 x4 x5 x6 x7 x8 x9 x10 x11 x12 x13 x14 x15 x16 ro st bo [] = [] := rfl
theorem Bf_len {n : Nat} {al : List AV} {sl : List AV} {w6 : Int} {w7 : Int} {x0 : List Int} {x1 : List Int} {x2 : Bool} {x3 : List Int} {x4 : List Int} {x5 : List Int} {x6 : Int} {x7 : Int} {x8 : Int} {x9 : List Int} {x10 : List Int} {x11 : Bool} {x12 : List Int} {x13 : Int} {x14 : Int} {x15 : List Int} {x16 : List Int} (c : Cl n) (hC : ∀ a, Tot (Fab.m n (al, sl, w6, w7, a))) (h0 : x0.length = 20) (h3 : x3.length = 20) (h12 : x12.length = 20) (ro : Int) (st bo : Bool) {evs : List AV} (hq : ∀ v ∈ evs, EvT v) (hl : evs.length ≤ 300) {lo : List Int} (hlo : lo.length ≤ 300) : ∀ (i : Nat) v, v ∈ evs → (Bf n al sl w6 w7 x0 x1 x2 x3 x4 x5 x6 x7 x8 x9 x10 x11 x12 x13 x14 x15 x16 ro st bo evs lo i v).length ≤ 7 := fun i v hv => by
  obtain ⟨op, dp, se, ar, va, da, fa, rfl, h1, h2⟩ := hq v hv
  exact (bf_is c hC h0 h3 h12 ro st bo hq hl hlo i op dp se ar va da fa h1 h2 hv).2
theorem Ro_len {n : Nat} {al : List AV} {sl : List AV} {w6 : Int} {w7 : Int} {x0 : List Int} {x1 : List Int} {x2 : Bool} {x3 : List Int} {x4 : List Int} {x5 : List Int} {x6 : Int} {x7 : Int} {x8 : Int} {x9 : List Int} {x10 : List Int} {x11 : Bool} {x12 : List Int} {x13 : Int} {x14 : Int} {x15 : List Int} {x16 : List Int} (c : Cl n) (hC : ∀ a, Tot (Fab.m n (al, sl, w6, w7, a))) (h0 : x0.length = 20) (h3 : x3.length = 20) (h12 : x12.length = 20) (ro : Int) (st bo : Bool) {evs : List AV} (hq : ∀ v ∈ evs, EvT v) (hl : evs.length ≤ 300) : (Ro n al sl w6 w7 x0 x1 x2 x3 x4 x5 x6 x7 x8 x9 x10 x11 x12 x13 x14 x15 x16 ro st bo evs).length ≤ 2100 := by
  obtain ⟨lo, e, hlo⟩ := loose_tot c.hn hq hl
  unfold Ro
  rw [e]
  have : (Outs (Bf n al sl w6 w7 x0 x1 x2 x3 x4 x5 x6 x7 x8 x9 x10 x11 x12 x13 x14 x15 x16 ro st bo evs lo) ro 0 evs).length ≤ 7 * evs.length := Outs_len 0 evs fun i v hv => Bf_len c hC h0 h3 h12 ro st bo hq hl hlo i v hv
  simp only [Option.getD_some]
  omega
theorem role1 {α : Type} (mk : (List AV) → α) {n : Nat} (rc : Int → (List AV) → (List AV) → Int → Int → (List Int) → (List Int) → Bool → (List Int) → (List Int) → (List Int) → Int → Int → Int → (List Int) → (List Int) → Bool → (List Int) → Int → Int → (List Int) → (List Int) → Bool → Bool → Bool → Bool → (List AV) → (List AV) → (List AV) → (List AV) → (List AV) → Option α) (x1 : List AV) (x2 : List AV) (x3 : Int) (x4 : Int) (x5 : List Int) (x6 : List Int) (x7 : Bool) (x8 : List Int) (x9 : List Int) (x10 : List Int) (x11 : Int) (x12 : Int) (x13 : Int) (x14 : List Int) (x15 : List Int) (x16 : Bool) (x17 : List Int) (x18 : Int) (x19 : Int) (x20 : List Int) (x21 : List Int) (x22 : Bool) (x23 : Bool) (x24 : Bool) (x25 : Bool) (x26 : List AV) (x27 : List AV) (x28 : List AV) (x29 : List AV) (x30 : List AV) (c : Cl n) (hC : ∀ a, Tot (Fab.m n (x1, x2, x3, x4, a))) (h0 : x5.length = 20) (h3 : x8.length = 20) (h12 : x17.length = 20) (hq : ∀ v ∈ x27, EvT v) (hl : x27.length ≤ 300) (ho : x30.length ≤ 40000) : Fam.l3_0.r mk n rc 1 x1 x2 x3 x4 x5 x6 x7 x8 x9 x10 x11 x12 x13 x14 x15 x16 x17 x18 x19 x20 x21 x22 x23 x24 x25 x26 x27 x28 x29 x30 = rc 2 x1 x2 x3 x4 x5 x6 x7 x8 x9 x10 x11 x12 x13 x14 x15 x16 x17 x18 x19 x20 x21 x22 x23 x24 x25 x26 x27 x28 x29 (x30 ++ (Ro n x1 x2 x3 x4 x5 x6 x7 x8 x9 x10 x11 x12 x13 x14 x15 x16 x17 x18 x19 x20 x21 1 x23 (born x7 x24) x27)) := by
  obtain ⟨lo, e, hlo⟩ := loose_tot c.hn hq hl
  unfold Ro
  rw [e]
  unfold Fam.l3_0.r
  refine iT (by decide) (iT rfl ?_)
  cases x7
  · refine iF Bool.false_ne_true ?_
    refine bO e ?_
    refine bO (l8_loop _ (by have := c.hn; omega) (Bf n x1 x2 x3 x4 x5 x6 false x8 x9 x10 x11 x12 x13 x14 x15 x16 x17 x18 x19 x20 x21 1 x23 false x27 lo) _ _ _ _ _ _ _ _ _ _ _ _ _ _ _ _ _ _ _ _ _ _ _ _ _ _ _ _ _ _ _ _ _ _ _ _ _ _ _ _ _ _ _ _ _ _ _ _ _ _ _ _ _ _ _ _ _ hq hl (bf_is c hC h0 h3 h12 1 x23 false hq hl hlo) x27.length n 0 x30 (by omega) (by have := c.hn; omega) (by omega)) ?_
    rfl
  · refine iT rfl ?_
    refine bO e ?_
    refine bO (l8_loop _ (by have := c.hn; omega) (Bf n x1 x2 x3 x4 x5 x6 true x8 x9 x10 x11 x12 x13 x14 x15 x16 x17 x18 x19 x20 x21 1 x23 (!x24) x27 lo) _ _ _ _ _ _ _ _ _ _ _ _ _ _ _ _ _ _ _ _ _ _ _ _ _ _ _ _ _ _ _ _ _ _ _ _ _ _ _ _ _ _ _ _ _ _ _ _ _ _ _ _ _ _ _ _ _ hq hl (bf_is c hC h0 h3 h12 1 x23 (!x24) hq hl hlo) x27.length n 0 x30 (by omega) (by have := c.hn; omega) (by omega)) ?_
    rfl
theorem role2 {α : Type} (mk : (List AV) → α) {n : Nat} (rc : Int → (List AV) → (List AV) → Int → Int → (List Int) → (List Int) → Bool → (List Int) → (List Int) → (List Int) → Int → Int → Int → (List Int) → (List Int) → Bool → (List Int) → Int → Int → (List Int) → (List Int) → Bool → Bool → Bool → Bool → (List AV) → (List AV) → (List AV) → (List AV) → (List AV) → Option α) (x1 : List AV) (x2 : List AV) (x3 : Int) (x4 : Int) (x5 : List Int) (x6 : List Int) (x7 : Bool) (x8 : List Int) (x9 : List Int) (x10 : List Int) (x11 : Int) (x12 : Int) (x13 : Int) (x14 : List Int) (x15 : List Int) (x16 : Bool) (x17 : List Int) (x18 : Int) (x19 : Int) (x20 : List Int) (x21 : List Int) (x22 : Bool) (x23 : Bool) (x24 : Bool) (x25 : Bool) (x26 : List AV) (x27 : List AV) (x28 : List AV) (x29 : List AV) (x30 : List AV) (c : Cl n) (hC : ∀ a, Tot (Fab.m n (x1, x2, x3, x4, a))) (h0 : x5.length = 20) (h3 : x8.length = 20) (h12 : x17.length = 20) (hq : ∀ v ∈ x28, EvT v) (hl : x28.length ≤ 300) (ho : x30.length ≤ 40000) : Fam.l3_0.r mk n rc 2 x1 x2 x3 x4 x5 x6 x7 x8 x9 x10 x11 x12 x13 x14 x15 x16 x17 x18 x19 x20 x21 x22 x23 x24 x25 x26 x27 x28 x29 x30 = rc 3 x1 x2 x3 x4 x5 x6 x7 x8 x9 x10 x11 x12 x13 x14 x15 x16 x17 x18 x19 x20 x21 x22 x23 x24 x25 x26 x27 x28 x29 (x30 ++ (Ro n x1 x2 x3 x4 x5 x6 x7 x8 x9 x10 x11 x12 x13 x14 x15 x16 x17 x18 x19 x20 x21 2 x24 (born x7 x24) x28)) := by
  obtain ⟨lo, e, hlo⟩ := loose_tot c.hn hq hl
  unfold Ro
  rw [e]
  unfold Fam.l3_0.r
  refine iT (by decide) (iF (by decide) (iT rfl ?_))
  cases x7
  · refine iF Bool.false_ne_true ?_
    refine bO e ?_
    refine bO (l8_loop _ (by have := c.hn; omega) (Bf n x1 x2 x3 x4 x5 x6 false x8 x9 x10 x11 x12 x13 x14 x15 x16 x17 x18 x19 x20 x21 2 x24 false x28 lo) _ _ _ _ _ _ _ _ _ _ _ _ _ _ _ _ _ _ _ _ _ _ _ _ _ _ _ _ _ _ _ _ _ _ _ _ _ _ _ _ _ _ _ _ _ _ _ _ _ _ _ _ _ _ _ _ _ hq hl (bf_is c hC h0 h3 h12 2 x24 false hq hl hlo) x28.length n 0 x30 (by omega) (by have := c.hn; omega) (by omega)) ?_
    rfl
  · refine iT rfl ?_
    refine bO e ?_
    refine bO (l8_loop _ (by have := c.hn; omega) (Bf n x1 x2 x3 x4 x5 x6 true x8 x9 x10 x11 x12 x13 x14 x15 x16 x17 x18 x19 x20 x21 2 x24 (!x24) x28 lo) _ _ _ _ _ _ _ _ _ _ _ _ _ _ _ _ _ _ _ _ _ _ _ _ _ _ _ _ _ _ _ _ _ _ _ _ _ _ _ _ _ _ _ _ _ _ _ _ _ _ _ _ _ _ _ _ _ hq hl (bf_is c hC h0 h3 h12 2 x24 (!x24) hq hl hlo) x28.length n 0 x30 (by omega) (by have := c.hn; omega) (by omega)) ?_
    rfl
theorem role3 {α : Type} (mk : (List AV) → α) {n : Nat} (rc : Int → (List AV) → (List AV) → Int → Int → (List Int) → (List Int) → Bool → (List Int) → (List Int) → (List Int) → Int → Int → Int → (List Int) → (List Int) → Bool → (List Int) → Int → Int → (List Int) → (List Int) → Bool → Bool → Bool → Bool → (List AV) → (List AV) → (List AV) → (List AV) → (List AV) → Option α) (x1 : List AV) (x2 : List AV) (x3 : Int) (x4 : Int) (x5 : List Int) (x6 : List Int) (x7 : Bool) (x8 : List Int) (x9 : List Int) (x10 : List Int) (x11 : Int) (x12 : Int) (x13 : Int) (x14 : List Int) (x15 : List Int) (x16 : Bool) (x17 : List Int) (x18 : Int) (x19 : Int) (x20 : List Int) (x21 : List Int) (x22 : Bool) (x23 : Bool) (x24 : Bool) (x25 : Bool) (x26 : List AV) (x27 : List AV) (x28 : List AV) (x29 : List AV) (x30 : List AV) (c : Cl n) (hC : ∀ a, Tot (Fab.m n (x1, x2, x3, x4, a))) (h0 : x5.length = 20) (h3 : x8.length = 20) (h12 : x17.length = 20) (hq : ∀ v ∈ x29, EvT v) (hl : x29.length ≤ 300) (ho : x30.length ≤ 40000) : Fam.l3_0.r mk n rc 3 x1 x2 x3 x4 x5 x6 x7 x8 x9 x10 x11 x12 x13 x14 x15 x16 x17 x18 x19 x20 x21 x22 x23 x24 x25 x26 x27 x28 x29 x30 = rc 4 x1 x2 x3 x4 x5 x6 x7 x8 x9 x10 x11 x12 x13 x14 x15 x16 x17 x18 x19 x20 x21 x22 x23 x24 x25 x26 x27 x28 x29 (x30 ++ (Ro n x1 x2 x3 x4 x5 x6 x7 x8 x9 x10 x11 x12 x13 x14 x15 x16 x17 x18 x19 x20 x21 3 x25 (born x7 x24) x29)) := by
  obtain ⟨lo, e, hlo⟩ := loose_tot c.hn hq hl
  unfold Ro
  rw [e]
  unfold Fam.l3_0.r
  refine iT (by decide) (iF (by decide) (iF (by decide) (iT rfl ?_)))
  cases x7
  · refine iF Bool.false_ne_true ?_
    refine bO e ?_
    refine bO (l8_loop _ (by have := c.hn; omega) (Bf n x1 x2 x3 x4 x5 x6 false x8 x9 x10 x11 x12 x13 x14 x15 x16 x17 x18 x19 x20 x21 3 x25 false x29 lo) _ _ _ _ _ _ _ _ _ _ _ _ _ _ _ _ _ _ _ _ _ _ _ _ _ _ _ _ _ _ _ _ _ _ _ _ _ _ _ _ _ _ _ _ _ _ _ _ _ _ _ _ _ _ _ _ _ hq hl (bf_is c hC h0 h3 h12 3 x25 false hq hl hlo) x29.length n 0 x30 (by omega) (by have := c.hn; omega) (by omega)) ?_
    rfl
  · refine iT rfl ?_
    refine bO e ?_
    refine bO (l8_loop _ (by have := c.hn; omega) (Bf n x1 x2 x3 x4 x5 x6 true x8 x9 x10 x11 x12 x13 x14 x15 x16 x17 x18 x19 x20 x21 3 x25 (!x24) x29 lo) _ _ _ _ _ _ _ _ _ _ _ _ _ _ _ _ _ _ _ _ _ _ _ _ _ _ _ _ _ _ _ _ _ _ _ _ _ _ _ _ _ _ _ _ _ _ _ _ _ _ _ _ _ _ _ _ _ hq hl (bf_is c hC h0 h3 h12 3 x25 (!x24) hq hl hlo) x29.length n 0 x30 (by omega) (by have := c.hn; omega) (by omega)) ?_
    rfl
theorem check_eq {n : Nat} (a0_0 : List AV) (a0_1 : List AV) (a0_6 : Int) (a0_10 : Int) (a1_0 : List Int) (a1_1 : List Int) (a1_2 : Bool) (a1_3 : List Int) (a1_4 : List Int) (a1_5 : List Int) (a1_6 : Int) (a1_7 : Int) (a1_8 : Int) (a1_9 : List Int) (a1_10 : List Int) (a1_11 : Bool) (a1_12 : List Int) (a1_13 : Int) (a1_14 : Int) (a1_15 : List Int) (a1_16 : List Int) (a2_0 : List AV) (a2_1 : List AV) (a2_2 : List AV) (a2_3 : List AV) (a3_0 : Bool) (a3_1 : Bool) (a3_2 : Bool) (a3_3 : Bool) (c : Cl n) (hC : ∀ a, Tot (Fab.m n (a0_0, a0_1, a0_6, a0_10, a))) (h0 : a1_0.length = 20) (h3 : a1_3.length = 20) (h12 : a1_12.length = 20) (hq1 : ∀ v ∈ a2_1, EvT v) (hl1 : a2_1.length ≤ 300) (hq2 : ∀ v ∈ a2_2, EvT v) (hl2 : a2_2.length ≤ 300) (hq3 : ∀ v ∈ a2_3, EvT v) (hl3 : a2_3.length ≤ 300) : Fam.m n (a0_0, a0_1, a0_6, a0_10, a1_0, a1_1, a1_2, a1_3, a1_4, a1_5, a1_6, a1_7, a1_8, a1_9, a1_10, a1_11, a1_12, a1_13, a1_14, a1_15, a1_16, a2_0, a2_1, a2_2, a2_3, a3_0, a3_1, a3_2, a3_3) = some (Ro n a0_0 a0_1 a0_6 a0_10 a1_0 a1_1 a1_2 a1_3 a1_4 a1_5 a1_6 a1_7 a1_8 a1_9 a1_10 a1_11 a1_12 a1_13 a1_14 a1_15 a1_16 1 a3_1 (born a1_2 a3_2) a2_1 ++ Ro n a0_0 a0_1 a0_6 a0_10 a1_0 a1_1 a1_2 a1_3 a1_4 a1_5 a1_6 a1_7 a1_8 a1_9 a1_10 a1_11 a1_12 a1_13 a1_14 a1_15 a1_16 2 a3_2 (born a1_2 a3_2) a2_2 ++ Ro n a0_0 a0_1 a0_6 a0_10 a1_0 a1_1 a1_2 a1_3 a1_4 a1_5 a1_6 a1_7 a1_8 a1_9 a1_10 a1_11 a1_12 a1_13 a1_14 a1_15 a1_16 3 a3_3 (born a1_2 a3_2) a2_3) := by
  have k1 : (Ro n a0_0 a0_1 a0_6 a0_10 a1_0 a1_1 a1_2 a1_3 a1_4 a1_5 a1_6 a1_7 a1_8 a1_9 a1_10 a1_11 a1_12 a1_13 a1_14 a1_15 a1_16 1 a3_1 (born a1_2 a3_2) a2_1).length ≤ 2100 := Ro_len c hC h0 h3 h12 1 a3_1 (born a1_2 a3_2) hq1 hl1
  have k2 : (Ro n a0_0 a0_1 a0_6 a0_10 a1_0 a1_1 a1_2 a1_3 a1_4 a1_5 a1_6 a1_7 a1_8 a1_9 a1_10 a1_11 a1_12 a1_13 a1_14 a1_15 a1_16 2 a3_2 (born a1_2 a3_2) a2_2).length ≤ 2100 := Ro_len c hC h0 h3 h12 2 a3_2 (born a1_2 a3_2) hq2 hl2
  obtain ⟨m, rfl⟩ : ∃ m, n = m + 4 := ⟨n - 4, by have := c.hn; omega⟩
  show bindO (Fam.l3_0.g (fun a0 => a0) (m + 4) (m + 4) 1 a0_0 a0_1 a0_6 a0_10 a1_0 a1_1 a1_2 a1_3 a1_4 a1_5 a1_6 a1_7 a1_8 a1_9 a1_10 a1_11 a1_12 a1_13 a1_14 a1_15 a1_16 a3_0 a3_1 a3_2 a3_3 a2_0 a2_1 a2_2 a2_3 []) (fun r => some r) = _
  refine bO ((role1 (fun a0 => a0) _ a0_0 a0_1 a0_6 a0_10 a1_0 a1_1 a1_2 a1_3 a1_4 a1_5 a1_6 a1_7 a1_8 a1_9 a1_10 a1_11 a1_12 a1_13 a1_14 a1_15 a1_16 a3_0 a3_1 a3_2 a3_3 a2_0 a2_1 a2_2 a2_3 [] c hC h0 h3 h12 hq1 hl1 (by simp)).trans ((role2 _ _ a0_0 a0_1 a0_6 a0_10 a1_0 a1_1 a1_2 a1_3 a1_4 a1_5 a1_6 a1_7 a1_8 a1_9 a1_10 a1_11 a1_12 a1_13 a1_14 a1_15 a1_16 a3_0 a3_1 a3_2 a3_3 a2_0 a2_1 a2_2 a2_3 _ c hC h0 h3 h12 hq2 hl2 (by simp only [List.nil_append]; omega)).trans ((role3 _ _ a0_0 a0_1 a0_6 a0_10 a1_0 a1_1 a1_2 a1_3 a1_4 a1_5 a1_6 a1_7 a1_8 a1_9 a1_10 a1_11 a1_12 a1_13 a1_14 a1_15 a1_16 a3_0 a3_1 a3_2 a3_3 a2_0 a2_1 a2_2 a2_3 _ c hC h0 h3 h12 hq3 hl3 (by simp only [List.nil_append, List.length_append]; omega)).trans ?_))) rfl
  rfl
end Go.Abs.Pure
end
section
set_option linter.unusedVariables false
set_option linter.unusedSimpArgs false
set_option maxRecDepth 100000
namespace Go.Abs.Pure
open Go Go.Abs Go.Proofs
def Mo (x y : Option Bool) : Prop := ∃ b b', x = some b ∧ y = some b' ∧ (b = true → b' = true)
theorem mS {b b' : Bool} (h : b = true → b' = true) : Mo (some b) (some b') := ⟨b, b', rfl, rfl, h⟩
theorem mF {y : Option Bool} (h : Tot y) : Mo (some false) y := by
  obtain ⟨b, hb⟩ := h
  exact ⟨false, b, rfl, hb, fun h => by cases h⟩
theorem mT {x : Option Bool} (h : Tot x) : Mo x (some true) := by
  obtain ⟨b, hb⟩ := h
  exact ⟨b, true, hb, rfl, fun _ => rfl⟩
theorem mI {c : Prop} [Decidable c] {a b a' b' : Option Bool} (h1 : c → Mo a a') (h2 : ¬ c → Mo b b') : Mo (if c then a else b) (if c then a' else b') := by
  by_cases h : c
  · rw [if_pos h, if_pos h]; exact h1 h
  · rw [if_neg h, if_neg h]; exact h2 h
theorem mO {α : Type} {x : Option α} {f g : α → Option Bool} (h : Tot x) (k : ∀ r, x = some r → Mo (f r) (g r)) : Mo (bindO x f) (bindO x g) := by
  obtain ⟨r, hr⟩ := h
  subst hr
  exact k r rfl
theorem mB {α : Type} {x : Option α} {a : α} {f g : α → Option Bool} (h : x = some a) (k : Mo (f a) (g a)) : Mo (bindO x f) (bindO x g) := by
  rw [h]; exact k
theorem mOL {α : Type} {x : Option α} {f : α → Option Bool} {y : Option Bool} (h : Tot x) (k : ∀ r, x = some r → Mo (f r) y) : Mo (bindO x f) y := by
  obtain ⟨r, hr⟩ := h
  subst hr
  exact k r rfl
theorem mIL {c : Prop} [Decidable c] {a b y : Option Bool} (h1 : c → Mo a y) (h2 : ¬ c → Mo b y) : Mo (if c then a else b) y := by
  by_cases h : c
  · rw [if_pos h]; exact h1 h
  · rw [if_neg h]; exact h2 h
def Sa {α : Type} (x y : Option α) : Prop := ∃ b, x = some b ∧ y = some b
theorem sS {α : Type} (b : α) : Sa (some b) (some b) := ⟨b, rfl, rfl⟩
theorem sI {α : Type} {c : Prop} [Decidable c] {a b a' b' : Option α} (h1 : c → Sa a a') (h2 : ¬ c → Sa b b') : Sa (if c then a else b) (if c then a' else b') := by
  by_cases h : c
  · rw [if_pos h, if_pos h]; exact h1 h
  · rw [if_neg h, if_neg h]; exact h2 h
theorem sO {α β : Type} {x : Option α} {f g : α → Option β} (h : Tot x) (k : ∀ r, x = some r → Sa (f r) (g r)) : Sa (bindO x f) (bindO x g) := by
  obtain ⟨r, hr⟩ := h
  subst hr
  exact k r rfl
theorem sB {α β : Type} {x x' : Option α} {a : α} {f g : α → Option β} (h : x = some a) (h' : x' = some a) (k : Sa (f a) (g a)) : Sa (bindO x f) (bindO x' g) := by
  rw [h, h']; exact k
theorem sX {α β : Type} {x x' : Option α} {f g : α → Option β} (h : Sa x x') (k : ∀ r, Sa (f r) (g r)) : Sa (bindO x f) (bindO x' g) := by
  obtain ⟨a, h1, h2⟩ := h
  rw [h1, h2]; exact k a
theorem Sa.of {α : Type} {x y : Option α} {b : α} (h : Sa x y) (e : x = some b) : y = some b := by
  obtain ⟨a, h1, h2⟩ := h
  rw [h2, ← h1, e]
section
variable {n : Nat} (c : Cl n) (op : Int) (dp : Int) (se : List Int) (ar : List Int) (va : List Int) (da : List Int) (fa : Int) (al : List AV) (sl : List AV) (w6 : Int) (w7 : Int) (x0 : List Int) (x1 : List Int) (x2 : Bool) (x3 : List Int) (x4 : List Int) (x5 : List Int) (x6 : Int) (x7 : Int) (x8 : Int) (x9 : List Int) (x10 : List Int) (x11 : Bool) (x12 : List Int) (x13 : Int) (x14 : Int) (x15 : List Int) (x16 : List Int) (ro : Int) (st : Bool) (bo : Bool) (evs : List AV) (pl : Int) (st' bo' : Bool)
theorem calls_sa  : Sa (Fv.m n (op, dp, se, ar, va, da, fa, al, sl, w6, w7, x0, x1, x2, x3, x4, x5, x6, x7, x8, x9, x10, x11, x12, x13, x14, x15, x16, ro, st, bo, evs, pl)) (Fv.m n (op, dp, se, ar, va, da, fa, al, sl, w6, w7, x0, x1, x2, x3, x4, x5, x6, x7, x8, x9, x10, x11, x12, x13, x14, x15, x16, ro, st', bo', evs, pl)) := by
  unfold Fv.m Fv.g
  dsimp only
  repeat' first | exact sS _ | with_reducible refine sI (fun _ => ?_) fun _ => ?_
theorem looks_sa  : Sa (Fw.m n (op, dp, se, ar, va, da, fa, al, sl, w6, w7, x0, x1, x2, x3, x4, x5, x6, x7, x8, x9, x10, x11, x12, x13, x14, x15, x16, ro, st, bo, evs, pl)) (Fw.m n (op, dp, se, ar, va, da, fa, al, sl, w6, w7, x0, x1, x2, x3, x4, x5, x6, x7, x8, x9, x10, x11, x12, x13, x14, x15, x16, ro, st', bo', evs, pl)) := by
  unfold Fw.m Fw.g
  dsimp only
  repeat' first | exact sS _ | with_reducible refine sI (fun _ => ?_) fun _ => ?_ | refine sX (calls_sa op dp se ar va da fa al sl w6 w7 x0 x1 x2 x3 x4 x5 x6 x7 x8 x9 x10 x11 x12 x13 x14 x15 x16 ro st bo evs pl st' bo') fun _ => ?_
include c in
theorem toDesk_sa  : Sa (Fl.m n (op, dp, se, ar, va, da, fa, al, sl, w6, w7, x0, x1, x2, x3, x4, x5, x6, x7, x8, x9, x10, x11, x12, x13, x14, x15, x16, ro, st, bo, evs, pl)) (Fl.m n (op, dp, se, ar, va, da, fa, al, sl, w6, w7, x0, x1, x2, x3, x4, x5, x6, x7, x8, x9, x10, x11, x12, x13, x14, x15, x16, ro, st', bo', evs, pl)) := by
  unfold Fl.m Fl.g
  dsimp only
  exact sB (other_eq c op dp se ar va da fa al sl w6 w7 x0 x1 x2 x3 x4 x5 x6 x7 x8 x9 x10 x11 x12 x13 x14 x15 x16 ro st bo evs pl) (other_eq c op dp se ar va da fa al sl w6 w7 x0 x1 x2 x3 x4 x5 x6 x7 x8 x9 x10 x11 x12 x13 x14 x15 x16 ro st' bo' evs pl) (sB rfl rfl (sS _))
include c in
theorem makes_sa (hq : ∀ v ∈ evs, EvT v) (hl : evs.length ≤ 300) : Sa (Fu.m n (op, dp, se, ar, va, da, fa, al, sl, w6, w7, x0, x1, x2, x3, x4, x5, x6, x7, x8, x9, x10, x11, x12, x13, x14, x15, x16, ro, st, bo, evs, pl)) (Fu.m n (op, dp, se, ar, va, da, fa, al, sl, w6, w7, x0, x1, x2, x3, x4, x5, x6, x7, x8, x9, x10, x11, x12, x13, x14, x15, x16, ro, st', bo', evs, pl)) := by
  unfold Fu.m Fu.g
  dsimp only
  repeat' first | exact sS _ | with_reducible refine sI (fun _ => ?_) fun _ => ?_ | with_reducible refine sO (ixm_tot c.hn hq hl) fun _ _ => ?_ | refine sB (other_eq c op dp se ar va da fa al sl w6 w7 x0 x1 x2 x3 x4 x5 x6 x7 x8 x9 x10 x11 x12 x13 x14 x15 x16 ro st bo evs pl) (other_eq c op dp se ar va da fa al sl w6 w7 x0 x1 x2 x3 x4 x5 x6 x7 x8 x9 x10 x11 x12 x13 x14 x15 x16 ro st' bo' evs pl) ?_
include c in
theorem empty_sa (hC : ∀ a, Tot (Fab.m n (al, sl, w6, w7, a))) : Sa (Fx.m n (op, dp, se, ar, va, da, fa, al, sl, w6, w7, x0, x1, x2, x3, x4, x5, x6, x7, x8, x9, x10, x11, x12, x13, x14, x15, x16, ro, st, bo, evs, pl)) (Fx.m n (op, dp, se, ar, va, da, fa, al, sl, w6, w7, x0, x1, x2, x3, x4, x5, x6, x7, x8, x9, x10, x11, x12, x13, x14, x15, x16, ro, st', bo', evs, pl)) := by
  have hw := wide_tot (n := n) (by have := c.hn; omega) (addrX_length ar)
  unfold Fx.m Fx.g
  dsimp only
  refine sB (other_eq c op dp se ar va da fa al sl w6 w7 x0 x1 x2 x3 x4 x5 x6 x7 x8 x9 x10 x11 x12 x13 x14 x15 x16 ro st bo evs pl) (other_eq c op dp se ar va da fa al sl w6 w7 x0 x1 x2 x3 x4 x5 x6 x7 x8 x9 x10 x11 x12 x13 x14 x15 x16 ro st' bo' evs pl) (sB hw hw (sO (small_tot n _) fun _ _ => sX (looks_sa op dp se ar va da fa al sl w6 w7 x0 x1 x2 x3 x4 x5 x6 x7 x8 x9 x10 x11 x12 x13 x14 x15 x16 ro st bo evs pl st' bo') fun _ => ?_))
  repeat' first | exact sS _ | with_reducible refine sI (fun _ => ?_) fun _ => ?_ | refine sX (toDesk_sa c op dp se ar va da fa al sl w6 w7 x0 x1 x2 x3 x4 x5 x6 x7 x8 x9 x10 x11 x12 x13 x14 x15 x16 ro st bo evs pl st' bo') fun _ => ?_ | refine sB (other_eq c op dp se ar va da fa al sl w6 w7 x0 x1 x2 x3 x4 x5 x6 x7 x8 x9 x10 x11 x12 x13 x14 x15 x16 ro st bo evs pl) (other_eq c op dp se ar va da fa al sl w6 w7 x0 x1 x2 x3 x4 x5 x6 x7 x8 x9 x10 x11 x12 x13 x14 x15 x16 ro st' bo' evs pl) ?_ | refine sO (hC _) fun _ _ => ?_
include c in
theorem pays_sa  : Sa (Fac.m n (op, dp, se, ar, va, da, fa, al, sl, w6, w7, x0, x1, x2, x3, x4, x5, x6, x7, x8, x9, x10, x11, x12, x13, x14, x15, x16, ro, st, bo, evs, pl)) (Fac.m n (op, dp, se, ar, va, da, fa, al, sl, w6, w7, x0, x1, x2, x3, x4, x5, x6, x7, x8, x9, x10, x11, x12, x13, x14, x15, x16, ro, st', bo', evs, pl)) := by
  unfold Fac.m Fac.g
  dsimp only
  repeat' first | exact sS _ | with_reducible refine sI (fun _ => ?_) fun _ => ?_ | refine sX (toDesk_sa c op dp se ar va da fa al sl w6 w7 x0 x1 x2 x3 x4 x5 x6 x7 x8 x9 x10 x11 x12 x13 x14 x15 x16 ro st bo evs pl st' bo') fun _ => ?_
include c in
theorem visits_sa  : Sa (Fm.m n (op, dp, se, ar, va, da, fa, al, sl, w6, w7, x0, x1, x2, x3, x4, x5, x6, x7, x8, x9, x10, x11, x12, x13, x14, x15, x16, ro, st, bo, evs, pl)) (Fm.m n (op, dp, se, ar, va, da, fa, al, sl, w6, w7, x0, x1, x2, x3, x4, x5, x6, x7, x8, x9, x10, x11, x12, x13, x14, x15, x16, ro, st', bo', evs, pl)) := by
  unfold Fm.m Fm.g
  dsimp only
  refine sX (calls_sa op dp se ar va da fa al sl w6 w7 x0 x1 x2 x3 x4 x5 x6 x7 x8 x9 x10 x11 x12 x13 x14 x15 x16 ro st bo evs pl st' bo') fun _ => ?_
  repeat' first | exact sS _ | with_reducible refine sI (fun _ => ?_) fun _ => ?_ | refine sX (toDesk_sa c op dp se ar va da fa al sl w6 w7 x0 x1 x2 x3 x4 x5 x6 x7 x8 x9 x10 x11 x12 x13 x14 x15 x16 ro st bo evs pl st' bo') fun _ => ?_ | with_reducible refine sO c.sel fun _ _ => ?_ | refine sB (x := Faj.m n _) rfl rfl ?_
end
theorem banned_mo (n : Nat) (op : Int) (dp : Int) (se : List Int) (ar : List Int) (va : List Int) (da : List Int) (fa : Int) (al : List AV) (sl : List AV) (w6 : Int) (w7 : Int) (x0 : List Int) (x1 : List Int) (x2 : Bool) (x3 : List Int) (x4 : List Int) (x5 : List Int) (x6 : Int) (x7 : Int) (x8 : Int) (x9 : List Int) (x10 : List Int) (x11 : Bool) (x12 : List Int) (x13 : Int) (x14 : Int) (x15 : List Int) (x16 : List Int) (ro : Int) (evs : List AV) (pl : Int) (st bo : Bool) : Mo (Fj.m n (op, dp, se, ar, va, da, fa, al, sl, w6, w7, x0, x1, x2, x3, x4, x5, x6, x7, x8, x9, x10, x11, x12, x13, x14, x15, x16, ro, true, false, evs, pl)) (Fj.m n (op, dp, se, ar, va, da, fa, al, sl, w6, w7, x0, x1, x2, x3, x4, x5, x6, x7, x8, x9, x10, x11, x12, x13, x14, x15, x16, ro, st, bo, evs, pl)) := by
  unfold Fj.m Fj.g
  dsimp only
  cases st
  · repeat' first | exact mS (by decide) | exact mS id | refine mI (fun _ => ?_) fun _ => ?_
  · repeat' first | exact mS (by decide) | exact mS id | refine mI (fun _ => ?_) fun _ => ?_
theorem stores_mo {n : Nat} (op : Int) (dp : Int) (se : List Int) (ar : List Int) (va : List Int) (da : List Int) (fa : Int) (al : List AV) (sl : List AV) (w6 : Int) (w7 : Int) (x0 : List Int) (x1 : List Int) (x2 : Bool) (x3 : List Int) (x4 : List Int) (x5 : List Int) (x6 : Int) (x7 : Int) (x8 : Int) (x9 : List Int) (x10 : List Int) (x11 : Bool) (x12 : List Int) (x13 : Int) (x14 : Int) (x15 : List Int) (x16 : List Int) (ro : Int) (evs : List AV) (pl : Int) (st bo : Bool) (c : Cl n) (hq : ∀ v ∈ evs, EvT v) (hl : evs.length ≤ 300) (har : W4 ar) (h0 : x0.length = 20) (h3 : x3.length = 20) (h12 : x12.length = 20) : Mo (Fn.m n (op, dp, se, ar, va, da, fa, al, sl, w6, w7, x0, x1, x2, x3, x4, x5, x6, x7, x8, x9, x10, x11, x12, x13, x14, x15, x16, ro, true, false, evs, pl)) (Fn.m n (op, dp, se, ar, va, da, fa, al, sl, w6, w7, x0, x1, x2, x3, x4, x5, x6, x7, x8, x9, x10, x11, x12, x13, x14, x15, x16, ro, st, bo, evs, pl)) := by
  obtain ⟨er, eb, he, hel⟩ := entity_eq x0 x1 x2 x3 x4 x5 x6 x7 x8 x9 x10 x11 x12 x13 x14 x15 x16 ro n h0 h3 h12
  unfold Fn.m Fn.g
  dsimp only
  have b1 := belongs_tot c.hn hq hl h0 har
  have b2 := belongs_tot c.hn hq hl hel har
  cases st <;> cases bo
  all_goals
    simp only [Bool.not_false, Bool.not_true, reduceIte, Bool.false_eq_true, if_true, if_false]
    repeat' first | exact mF (tS _) | exact mT (tS _) | exact mS id | with_reducible refine mB he ?_ | with_reducible refine mI (fun _ => ?_) fun _ => ?_ | with_reducible refine mO b1 fun _ _ => ?_ | with_reducible refine mO b2 fun _ _ => ?_ | with_reducible refine mOL b1 fun _ _ => ?_ | with_reducible refine mOL b2 fun _ _ => ?_ | with_reducible refine mIL (fun _ => ?_) fun _ => ?_ | with_reducible refine mT ?_ | with_reducible refine mF ?_ | exact tS _ | with_reducible refine tI (fun _ => ?_) fun _ => ?_ | with_reducible refine tO b1 fun _ _ => ?_ | with_reducible refine tO b2 fun _ _ => ?_
theorem add_sub {l l' : List Int} (h : l.Sublist l') {b b' : Bool} (hb : b = true → b' = true) (r : Int) : (l ++ if b = true then [r] else []).Sublist (l' ++ if b' = true then [r] else []) := by
  refine h.append ?_
  cases b
  · simp
  · rw [hb rfl]; exact List.Sublist.refl _
theorem RL_sub (fa : Int) (b1 b2 b4 b5 b6 b7 b8 b1' b8' : Bool) (h1 : b1 = true → b1' = true) (h8 : b8 = true → b8' = true) : (RL fa b1 b2 b4 b5 b6 b7 b8).Sublist (RL fa b1' b2 b4 b5 b6 b7 b8') := by
  unfold RL
  split
  · exact List.Sublist.refl _
  split
  · exact (add_sub (add_sub (add_sub (add_sub (add_sub (add_sub (add_sub (List.Sublist.refl ([] : List Int)) h1 1) id 2) id 4) id 5) id 6) id 7) h8 8)
  · exact List.Sublist.refl _
theorem broken_mo {n : Nat} (op : Int) (dp : Int) (se : List Int) (ar : List Int) (va : List Int) (da : List Int) (fa : Int) (al : List AV) (sl : List AV) (w6 : Int) (w7 : Int) (x0 : List Int) (x1 : List Int) (x2 : Bool) (x3 : List Int) (x4 : List Int) (x5 : List Int) (x6 : Int) (x7 : Int) (x8 : Int) (x9 : List Int) (x10 : List Int) (x11 : Bool) (x12 : List Int) (x13 : Int) (x14 : Int) (x15 : List Int) (x16 : List Int) (ro : Int) (evs : List AV) (pl : Int) (st bo : Bool) (lo : List Int) (c : Cl n) (hC : ∀ a, Tot (Fab.m n (al, sl, w6, w7, a))) (hq : ∀ v ∈ evs, EvT v) (hl : evs.length ≤ 300) (har : W4 ar) (h0 : x0.length = 20) (h3 : x3.length = 20) (h12 : x12.length = 20) (hlo : lo.length ≤ 300) : ∃ r r', Fo.m n (op, dp, se, ar, va, da, fa, al, sl, w6, w7, x0, x1, x2, x3, x4, x5, x6, x7, x8, x9, x10, x11, x12, x13, x14, x15, x16, ro, true, false, evs, pl, lo) = some r ∧ Fo.m n (op, dp, se, ar, va, da, fa, al, sl, w6, w7, x0, x1, x2, x3, x4, x5, x6, x7, x8, x9, x10, x11, x12, x13, x14, x15, x16, ro, st, bo, evs, pl, lo) = some r' ∧ r.Sublist r' := by
  obtain ⟨b1, b1', e1, e1', k1⟩ := banned_mo n op dp se ar va da fa al sl w6 w7 x0 x1 x2 x3 x4 x5 x6 x7 x8 x9 x10 x11 x12 x13 x14 x15 x16 ro evs pl st bo
  obtain ⟨b2, e2⟩ := has_tot c.hn hlo pl
  obtain ⟨b4, e4⟩ := makes_tot c op dp se ar va da fa al sl w6 w7 x0 x1 x2 x3 x4 x5 x6 x7 x8 x9 x10 x11 x12 x13 x14 x15 x16 ro true false evs pl hq hl
  obtain ⟨b5, e5⟩ := empty_tot c op dp se ar va da fa al sl w6 w7 x0 x1 x2 x3 x4 x5 x6 x7 x8 x9 x10 x11 x12 x13 x14 x15 x16 ro true false evs pl hC
  obtain ⟨b6, e6⟩ := pays_tot c op dp se ar va da fa al sl w6 w7 x0 x1 x2 x3 x4 x5 x6 x7 x8 x9 x10 x11 x12 x13 x14 x15 x16 ro true false evs pl
  obtain ⟨b7, e7⟩ := visits_tot c op dp se ar va da fa al sl w6 w7 x0 x1 x2 x3 x4 x5 x6 x7 x8 x9 x10 x11 x12 x13 x14 x15 x16 ro true false evs pl
  obtain ⟨b8, b8', e8, e8', k8⟩ := stores_mo op dp se ar va da fa al sl w6 w7 x0 x1 x2 x3 x4 x5 x6 x7 x8 x9 x10 x11 x12 x13 x14 x15 x16 ro evs pl st bo c hq hl har h0 h3 h12
  exact ⟨_, _, broken_eq lo e1 e2 e4 e5 e6 e7 e8, broken_eq lo e1' e2 ((makes_sa c op dp se ar va da fa al sl w6 w7 x0 x1 x2 x3 x4 x5 x6 x7 x8 x9 x10 x11 x12 x13 x14 x15 x16 ro true false evs pl st bo hq hl).of e4) ((empty_sa c op dp se ar va da fa al sl w6 w7 x0 x1 x2 x3 x4 x5 x6 x7 x8 x9 x10 x11 x12 x13 x14 x15 x16 ro true false evs pl st bo hC).of e5) ((pays_sa c op dp se ar va da fa al sl w6 w7 x0 x1 x2 x3 x4 x5 x6 x7 x8 x9 x10 x11 x12 x13 x14 x15 x16 ro true false evs pl st bo).of e6) ((visits_sa c op dp se ar va da fa al sl w6 w7 x0 x1 x2 x3 x4 x5 x6 x7 x8 x9 x10 x11 x12 x13 x14 x15 x16 ro true false evs pl st bo).of e7) e8', RL_sub _ _ _ _ _ _ _ _ _ _ k1 k8⟩
theorem Outs_sub {B B' : Nat → AV → List Int} {ro : Int} : ∀ (j : Nat) (l : List AV), (∀ (i : Nat) v, v ∈ l → (B i v).Sublist (B' i v)) → (Outs B ro j l).Sublist (Outs B' ro j l)
  | _, [], _ => List.Sublist.refl _
  | j, v :: r, h => ((h j v (by simp)).map _).append (Outs_sub (j + 1) r fun i w hw => h i w (by simp [hw]))
theorem Ro_sub {n : Nat} {al : List AV} {sl : List AV} {w6 : Int} {w7 : Int} {x0 : List Int} {x1 : List Int} {x2 : Bool} {x3 : List Int} {x4 : List Int} {x5 : List Int} {x6 : Int} {x7 : Int} {x8 : Int} {x9 : List Int} {x10 : List Int} {x11 : Bool} {x12 : List Int} {x13 : Int} {x14 : Int} {x15 : List Int} {x16 : List Int} (c : Cl n) (hC : ∀ a, Tot (Fab.m n (al, sl, w6, w7, a))) (h0 : x0.length = 20) (h3 : x3.length = 20) (h12 : x12.length = 20) (ro : Int) (st bo : Bool) {evs : List AV} (hq : ∀ v ∈ evs, EvT v) (hl : evs.length ≤ 300) : (Ro n al sl w6 w7 x0 x1 x2 x3 x4 x5 x6 x7 x8 x9 x10 x11 x12 x13 x14 x15 x16 ro true false evs).Sublist (Ro n al sl w6 w7 x0 x1 x2 x3 x4 x5 x6 x7 x8 x9 x10 x11 x12 x13 x14 x15 x16 ro st bo evs) := by
  obtain ⟨lo, e, hlo⟩ := loose_tot c.hn hq hl
  unfold Ro
  rw [e]
  refine Outs_sub _ _ fun i v hv => ?_
  obtain ⟨op, dp, se, ar, va, da, fa, rfl, h1, h2⟩ := hq v hv
  obtain ⟨r, r', e1, e2, hs⟩ := broken_mo op dp se ar va da fa al sl w6 w7 x0 x1 x2 x3 x4 x5 x6 x7 x8 x9 x10 x11 x12 x13 x14 x15 x16 ro evs (i : Int) st bo lo c hC hq hl h1 h0 h3 h12 hlo
  obtain rfl := Option.some.inj (e1.symm.trans (bf_is c hC h0 h3 h12 ro true false hq hl hlo i op dp se ar va da fa h1 h2 hv).1)
  obtain rfl := Option.some.inj (e2.symm.trans (bf_is c hC h0 h3 h12 ro st bo hq hl hlo i op dp se ar va da fa h1 h2 hv).1)
  exact hs
end Go.Abs.Pure
end
section
set_option linter.unusedVariables false
set_option linter.unusedSimpArgs false
set_option maxRecDepth 100000
namespace Go.Abs.Pure
open Go Go.Abs Go.Proofs
theorem find_tot {β : Type} [DecidableEq β] (f : AV → β) (kk : β) (k : AV) : ∀ (l : List AV), (∀ x ∈ l, ∃ k' v', x = .agg [k', v'] ∧ eqAV k k' = some (decide (f x = kk))) →
    (∃ i, ∃ h : i < l.length, mfindL k l = some (some i) ∧ f l[i] = kk) ∨ (mfindL k l = some none ∧ ∀ x ∈ l, f x ≠ kk)
  | [], _ => .inr ⟨rfl, by simp⟩
  | x :: r, h => by
    obtain ⟨k', v', rfl, e⟩ := h x (by simp)
    by_cases hd : f (.agg [k', v']) = kk
    · refine .inl ⟨0, by simp, ?_, hd⟩
      simp only [mfindL, e, hd, decide_true]
    · rw [decide_eq_false hd] at e
      rcases find_tot f kk k r fun y hy => h y (by simp [hy]) with ⟨i, hi, e', hf⟩ | ⟨e', hf⟩
      · refine .inl ⟨i + 1, by simpa using hi, ?_, by simpa using hf⟩
        simp only [mfindL, e, e']
      · refine .inr ⟨?_, ?_⟩
        · simp only [mfindL, e, e']
        · intro y hy
          rcases List.mem_cons.1 hy with rfl | hy
          · exact hd
          · exact hf y hy
def AccT (l : List AV) : Prop := ∀ x ∈ l, ∃ a n w s, x = .agg [.ints .u8 20 a, .agg [.int .u64 n, .ints .u64 4 w, .str s]]
def SlT (l : List AV) : Prop := (∀ x ∈ l, ∃ a k v, x = .agg [.agg [.ints .u8 20 a, .ints .u64 4 k], .ints .u64 4 v]) ∧ (l.map dfDec).Nodup
def accD : AV → List Int
  | .ints _ _ a => a
  | _ => []
def accK : AV → List Int
  | .agg (y :: _) => accD y
  | _ => []
theorem accK_is (b : List Int) (y : AV) : accK (.agg [.ints .u8 20 b, y]) = b := rfl
theorem AccT.key {l : List AV} (h : AccT l) (a : List Int) : ∀ x ∈ l, ∃ k' v', x = .agg [k', v'] ∧ eqAV (.ints .u8 20 a) k' = some (decide (accK x = a)) := fun x hx => by
  obtain ⟨b, n, w, s, rfl⟩ := h x hx
  refine ⟨_, _, rfl, ?_⟩
  have : eqAV (.ints .u8 20 a) (.ints .u8 20 b) = some (a == b) := rfl
  rw [this, accK_is]
  refine congrArg some ?_
  rw [Bool.eq_iff_iff, beq_iff_eq, decide_eq_true_eq]
  exact ⟨Eq.symm, Eq.symm⟩
theorem SlT.key {l : List AV} (h : SlT l) (a k : List Int) : ∀ x ∈ l, ∃ k' v', x = .agg [k', v'] ∧ eqAV (.agg [.ints .u8 20 a, .ints .u64 4 k]) k' = some (decide (dfDec x = some (a, k))) := fun x hx => by
  obtain ⟨b, k', v, rfl⟩ := h.1 x hx
  refine ⟨_, _, rfl, ?_⟩
  have : eqAV (.agg [.ints .u8 20 a, .ints .u64 4 k]) (.agg [.ints .u8 20 b, .ints .u64 4 k']) = some ((a == b) && ((k == k') && true)) := rfl
  rw [this]
  congr 1
  show ((a == b) && ((k == k') && true)) = decide (some (b, k') = some (a, k))
  rw [Bool.eq_iff_iff]; simp only [Bool.and_true, Bool.and_eq_true, beq_iff_eq, decide_eq_true_eq, Option.some.injEq, Prod.mk.injEq]
  exact ⟨fun h => ⟨h.1.symm, h.2.symm⟩, fun h => ⟨h.1.symm, h.2.symm⟩⟩
theorem AccT.put {l : List AV} (h : AccT l) (a : List Int) (n : Int) (w : List Int) (s : ByteArray) : ∃ l', mputL (.ints .u8 20 a) (.agg [.int .u64 n, .ints .u64 4 w, .str s]) l = some l' ∧ AccT l' := by
  rcases find_tot accK a (.ints .u8 20 a) l (h.key a) with ⟨i, hi, e, _⟩ | ⟨e, _⟩
  · refine ⟨_, by simp only [mputL, e]; rfl, fun x hx => ?_⟩
    rcases List.mem_or_eq_of_mem_set hx with hx | rfl
    · exact h x hx
    · exact ⟨_, _, _, _, rfl⟩
  · refine ⟨_, by simp only [mputL, e]; rfl, fun x hx => ?_⟩
    rcases List.mem_append.1 hx with hx | hx
    · exact h x hx
    · obtain rfl := List.mem_singleton.1 hx
      exact ⟨_, _, _, _, rfl⟩
theorem AccT.del {l : List AV} (h : AccT l) (a : List Int) : ∃ l', mdelL (.ints .u8 20 a) l = some l' ∧ AccT l' := by
  rcases find_tot accK a (.ints .u8 20 a) l (h.key a) with ⟨i, hi, e, _⟩ | ⟨e, _⟩
  · exact ⟨_, by simp only [mdelL, e]; rfl, fun x hx => h x ((List.eraseIdx_sublist ..).subset hx)⟩
  · exact ⟨_, by simp only [mdelL, e], h⟩
theorem SlT.put {l : List AV} (h : SlT l) (a k v : List Int) : ∃ l', mputL (.agg [.ints .u8 20 a, .ints .u64 4 k]) (.ints .u64 4 v) l = some l' ∧ SlT l' := by
  rcases find_tot dfDec (some (a, k)) (.agg [.ints .u8 20 a, .ints .u64 4 k]) l (h.key a k) with ⟨i, hi, e, hf⟩ | ⟨e, hf⟩
  · refine ⟨_, by simp only [mputL, e]; rfl, fun x hx => ?_, ?_⟩
    · rcases List.mem_or_eq_of_mem_set hx with hx | rfl
      · exact h.1 x hx
      · exact ⟨_, _, _, rfl⟩
    · have : (l.set i (.agg [.agg [.ints .u8 20 a, .ints .u64 4 k], .ints .u64 4 v])).map dfDec = l.map dfDec := by
        rw [List.map_set]
        have : dfDec (.agg [.agg [.ints .u8 20 a, .ints .u64 4 k], .ints .u64 4 v]) = (l.map dfDec)[i]'(by simpa using hi) := by
          rw [List.getElem_map]; exact hf.symm
        rw [this]
        exact List.set_getElem_self (by simpa using hi)
      rw [this]
      exact h.2
  · refine ⟨_, by simp only [mputL, e]; rfl, fun x hx => ?_, ?_⟩
    · rcases List.mem_append.1 hx with hx | hx
      · exact h.1 x hx
      · obtain rfl := List.mem_singleton.1 hx
        exact ⟨_, _, _, rfl⟩
    · rw [List.map_append, List.nodup_append]
      refine ⟨h.2, by simp, fun x hx y hy => ?_⟩
      obtain ⟨z, hz, rfl⟩ := List.mem_map.1 hx
      obtain rfl := List.mem_singleton.1 hy
      exact hf z hz
theorem SlT.ok {l : List AV} (h : SlT l) : dfOk l = true := by
  unfold dfOk
  simp only [Bool.and_eq_true, List.all_eq_true, decide_eq_true_eq]
  refine ⟨fun x hx => ?_, h.2⟩
  obtain ⟨a, k, v, rfl⟩ := h.1 x hx
  rfl
theorem SlT.filter {l : List AV} (h : SlT l) (p : AV → Bool) : SlT (l.filter p) :=
  ⟨fun x hx => h.1 x (List.mem_filter.1 hx).1, h.2.sublist (List.filter_sublist.map _)⟩
theorem forget_tot {n : Nat} (a : List Int) (r x : Int) {p q : List AV} (hp : AccT p) (hq : SlT q) : ∃ p' q', Fp.m n (a, r, x, p, q) = some (r, x, p', q') ∧ AccT p' ∧ SlT q' := by
  obtain ⟨p', e, hp'⟩ := hp.del a
  exact ⟨_, _, bO e (bO (if_pos hq.ok) rfl), hp', hq.filter _⟩
def KvT (v : AV) : Prop := ∃ k w, v = .agg [.ints .u64 4 k, .ints .u64 4 w]
def mkEn (a : List Int) (n : Int) (w : List Int) (c : List Int) (s : List AV) : AV := .agg [.ints .u8 20 a, .agg [.int .u64 n, .ints .u64 4 w, .rints .u8 c, .robjs 77 8 s]]
def EnT (v : AV) : Prop := ∃ a n w c s, v = mkEn a n w c s ∧ (∀ x ∈ s, KvT x) ∧ s.length ≤ 140737488351232 ∧ c.length ≤ 140737488351232
def EnL (v : AV) : Prop := ∃ a n w c s, v = mkEn a n w c s ∧ (∀ x ∈ s, KvT x) ∧ s.length ≤ 300
theorem new_l8 {α : Type} (mk : Int → Int → List AV → Int → Int → List AV → List AV → α) (n : Nat) (x2 : List AV) (hx : ∀ x ∈ x2, KvT x) (hl : x2.length ≤ 300) (x3 x4 : Int) (x5 : List AV) (x6 x7 : Int) (x8 : List Int) (x9 : Int) (x10 x11 : List Int) (x12 x13 : List AV) : ∀ (k m j : Nat) (x14 : List AV), SlT x14 → j + k = x2.length → k < m →
    ∃ q, Fax.l8_0.g mk n m (j : Int) ((x2.length : Nat) : Int) x2 x3 x4 x5 x6 x7 x8 x9 x10 x11 x12 x13 x14 = some (mk x3 x4 x5 x6 x7 x13 q) ∧ SlT q
  | 0, m + 1, j, x14, h, hj, _ => ⟨x14, iF (by simp; omega) rfl, h⟩
  | k + 1, m + 1, j, x14, h, hj, hm => by
    have hlt : j < x2.length := by omega
    obtain ⟨kk, w, hv⟩ := hx x2[j] (List.getElem_mem hlt)
    obtain ⟨l', e, h'⟩ := h.put x8 kk w
    obtain ⟨q, ih, hq⟩ := new_l8 mk n x2 hx hl x3 x4 x5 x6 x7 x8 x9 x10 x11 x12 x13 k m (j + 1) l' h' (by omega) (by omega)
    rw [← next_at (j := j) (by omega)] at ih
    refine ⟨q, ?_, hq⟩
    refine iT (by simp; omega) (iT (by omega) (iT (by omega) ?_))
    rw [at_nat hlt, hv]
    exact bO rfl (bO rfl (bO rfl (bO e ih)))
theorem new_l3 {α : Type} (mk : Int → Int → List AV → List AV → α) (n : Nat) (hn : 301 ≤ n) (x2 : List AV) (hx : ∀ x ∈ x2, EnL x) (hl : x2.length ≤ 300) (x3 x4 : Int) : ∀ (k m j : Nat) (x5 x6 : List AV), AccT x5 → SlT x6 → j + k = x2.length → k < m →
    ∃ p q, Fax.l3_0.g mk n m (j : Int) ((x2.length : Nat) : Int) x2 x3 x4 x5 x6 = some (mk x3 x4 p q) ∧ AccT p ∧ SlT q
  | 0, m + 1, j, x5, x6, h5, h6, hj, _ => ⟨x5, x6, iF (by simp; omega) rfl, h5, h6⟩
  | k + 1, m + 1, j, x5, x6, h5, h6, hj, hm => by
    have hlt : j < x2.length := by omega
    obtain ⟨a, nn, w, c, s, hv, hs, hsl⟩ := hx x2[j] (List.getElem_mem hlt)
    obtain ⟨p1, q1, e1, hp1, hq1⟩ := forget_tot (n := n) a x3 x4 h5 h6
    obtain ⟨p2, e2, hp2⟩ := hp1.put a nn w (strOf c)
    obtain ⟨q2, e3, hq2⟩ := new_l8 (fun a0 a1 a2 a3 a4 a5 a6 => (a0, a1, a2, a3, a4, a5, a6)) n s hs hsl (j : Int) ((x2.length : Nat) : Int) x2 x3 x4 a nn w c s p2 s.length n 0 q1 hq1 (by omega) (by omega)
    obtain ⟨p, q, ih, hp, hq⟩ := new_l3 mk n hn x2 hx hl x3 x4 k m (j + 1) p2 q2 hp2 hq2 (by omega) (by omega)
    rw [← next_at (j := j) (by omega)] at ih
    refine ⟨p, q, ?_, hp, hq⟩
    refine iT (by simp; omega) (iT (by omega) (iT (by omega) ?_))
    rw [at_nat hlt, hv]
    refine bO rfl (bO rfl (bO rfl (bO rfl (bO rfl (bO rfl (bO rfl ?_))))))
    exact bO e1 (bO e2 (bO e3 ih))
theorem new_tot {n : Nat} (hn : 301 ≤ n) {e : List AV} (hx : ∀ x ∈ e, EnL x) (hl : e.length ≤ 300) : ∃ p q, Fax.m n e = some (0, 0, p, q) ∧ AccT p ∧ SlT q := by
  obtain ⟨p, q, h, hp, hq⟩ := new_l3 (fun a0 a1 a2 a3 => (a0, a1, a2, a3)) n hn e hx hl 0 0 e.length n 0 [] [] (by intro x hx; simp at hx) ⟨by intro x hx; simp at hx, by simp⟩ (by omega) (by omega)
  exact ⟨p, q, bO h rfl, hp, hq⟩
theorem code_tot {n : Nat} {p : List AV} (hp : AccT p) (sl : List AV) (w6 w7 : Int) (a : List Int) : Tot (Fab.m n (p, sl, w6, w7, a)) := by
  rcases find_tot accK a (.ints .u8 20 a) p (hp.key a) with ⟨i, hi, e, _⟩ | ⟨e, _⟩
  · obtain ⟨b, nn, w, s, hv⟩ := hp p[i] (List.getElem_mem hi)
    have : mgetL (.ints .u8 20 a) (.agg [.int .u64 0, .ints .u64 4 [0, 0, 0, 0], .str ByteArray.empty]) p = some (.agg [.int .u64 nn, .ints .u64 4 w, .str s], true) := by
      simp only [mgetL, e, List.getD_eq_getElem?_getD, List.getElem?_eq_getElem hi, Option.getD_some, hv]; rfl
    exact ⟨_, bO this (bO rfl (bO rfl (bO rfl (bO rfl rfl))))⟩
  · have : mgetL (.ints .u8 20 a) (.agg [.int .u64 0, .ints .u64 4 [0, 0, 0, 0], .str ByteArray.empty]) p = some (.agg [.int .u64 0, .ints .u64 4 [0, 0, 0, 0], .str ByteArray.empty], false) := by
      simp only [mgetL, e]
    exact ⟨_, bO this (bO rfl (bO rfl (bO rfl (bO rfl rfl))))⟩
theorem td16 {a : Nat} (b : Int) (hb : 0 < b) (h : a ≤ 140737488351232) : 0 ≤ Int.tdiv (a : Int) b ∧ Int.tdiv (a : Int) b ≤ 140737488351232 := by
  rw [Int.tdiv_eq_ediv_of_nonneg (by omega)]
  exact ⟨Int.ediv_nonneg (by omega) (by omega), Int.le_trans (Int.ediv_le_self _ (by omega)) (by omega)⟩
theorem ents_loop {α : Type} (mk : Int → α) (n : Nat) (x1 : List AV) (hx : ∀ x ∈ x1, EnT x) : ∀ (m j : Nat) (x2 : Int), 0 ≤ x2 → x2 ≤ 300000000000000 → j ≤ x1.length → j ≤ 301 → (j : Int) ≤ x2 → 302 - x2 ≤ m → 1 ≤ m →
    ∃ r, Fan.l3_0.g mk n m (j : Int) x1 x2 300 = some (mk r) ∧ (r ≤ 300 → x2 + (x1.length - j : Nat) ≤ r ∧ ∀ x ∈ x1.drop j, EnL x)
  | 0, j, x2, _, _, _, _, _, _, h => by omega
  | m + 1, j, x2, h0, h1, hj, hj3, hjx, hm, _ => by
    by_cases hlt : j < x1.length
    · by_cases hx2 : x2 ≤ 300
      · obtain ⟨a, nn, w, c, s, hv, hs, hsl, hcl⟩ := hx x1[j] (List.getElem_mem hlt)
        have t := td16 16 (by decide) hcl
        obtain ⟨r, ih, hr⟩ := ents_loop mk n x1 hx m (j + 1) (x2 + (1 + Int.tdiv (c.length : Int) 16 + (s.length : Int))) (by omega) (by omega) (by omega) (by omega) (by omega) (by omega) (by omega)
        rw [← next_at (j := j) (by omega)] at ih
        refine ⟨r, ?_, fun hr3 => ?_⟩
        · refine iT (by simp; omega) (iT (by simp; omega) (iT (by omega) (iT (by omega) ?_)))
          rw [at_nat hlt, hv]
          refine bO rfl (bO rfl (bO rfl (bO rfl (bO rfl (bO rfl (bO rfl ?_))))))
          refine iT (by omega) (iT (by omega) ?_)
          refine bO rfl (bO rfl (bO rfl (bO rfl (bO rfl (bO rfl (bO rfl ?_))))))
          have hw : IntKind.wrap .i64 (x2 + IntKind.wrap .i64 (IntKind.wrap .i64 (1 + IntKind.wrap .i64 (Int.tdiv (c.length : Int) 16)) + ((s.length : Nat) : Int))) = x2 + (1 + Int.tdiv (c.length : Int) 16 + (s.length : Int)) := by
            rw [wi64_id (n := Int.tdiv (c.length : Int) 16) (by omega) (by omega), wi64_id (n := 1 + Int.tdiv (c.length : Int) 16) (by omega) (by omega), wi64_id (n := 1 + Int.tdiv (c.length : Int) 16 + (s.length : Int)) (by omega) (by omega), wi64_id (by omega) (by omega)]
          show Fan.l3_0.g mk n m _ x1 (IntKind.wrap .i64 (x2 + IntKind.wrap .i64 (IntKind.wrap .i64 (1 + IntKind.wrap .i64 (Int.tdiv (c.length : Int) 16)) + ((s.length : Nat) : Int)))) 300 = _
          rw [hw]
          exact ih
        · obtain ⟨r1, r2⟩ := hr hr3
          refine ⟨by omega, fun x hxd => ?_⟩
          rw [List.drop_eq_getElem_cons hlt] at hxd
          rcases List.mem_cons.1 hxd with rfl | hxd
          · exact ⟨a, nn, w, c, s, hv, hs, by omega⟩
          · exact r2 x hxd
      · exact ⟨x2, iT (by simp; omega) (iF (by simp; omega) rfl), fun h => by omega⟩
    · refine ⟨x2, iF (by simp; omega) rfl, fun h => ⟨by omega, fun x hxd => ?_⟩⟩
      rw [List.drop_of_length_le (by omega)] at hxd
      simp at hxd
def EvH (v : AV) : Prop := ∃ op dp se ar va da fa, v = mkEv op dp se ar va da fa ∧ W4 ar ∧ W4 va ∧ da.length ≤ 140737488351232
theorem EvH.t {v : AV} : EvH v → EvT v := fun ⟨op, dp, se, ar, va, da, fa, h, h1, h2, _⟩ => ⟨op, dp, se, ar, va, da, fa, h, h1, h2⟩
theorem evs_loop {α : Type} (mk : Int → α) (n : Nat) (x1 : List AV) (hx : ∀ x ∈ x1, EvH x) : ∀ (m j : Nat) (x2 : Int), 0 ≤ x2 → x2 ≤ 300000000000000 → j ≤ x1.length → j ≤ 301 → (j : Int) ≤ x2 → 302 - x2 ≤ m → 1 ≤ m →
    ∃ r, Fas.l3_0.g mk n m (j : Int) x1 x2 300 = some (mk r) ∧ (r ≤ 300 → x2 + (x1.length - j : Nat) ≤ r)
  | 0, j, x2, _, _, _, _, _, _, h => by omega
  | m + 1, j, x2, h0, h1, hj, hj3, hjx, hm, _ => by
    by_cases hlt : j < x1.length
    · by_cases hx2 : x2 ≤ 300
      · obtain ⟨op, dp, se, ar, va, da, fa, hv, _, _, hdl⟩ := hx x1[j] (List.getElem_mem hlt)
        have t := td16 32 (by decide) hdl
        obtain ⟨r, ih, hr⟩ := evs_loop mk n x1 hx m (j + 1) (x2 + (1 + Int.tdiv (da.length : Int) 32)) (by omega) (by omega) (by omega) (by omega) (by omega) (by omega) (by omega)
        rw [← next_at (j := j) (by omega)] at ih
        refine ⟨r, ?_, fun hr3 => by have := hr hr3; omega⟩
        refine iT (by simp; omega) (iT (by simp; omega) (iT (by omega) (iT (by omega) ?_)))
        rw [at_nat hlt, hv]
        refine bO rfl (bO rfl (bO rfl (bO rfl (bO rfl (bO rfl (bO rfl (bO rfl ?_)))))))
        have hw : IntKind.wrap .i64 (x2 + IntKind.wrap .i64 (1 + IntKind.wrap .i64 (Int.tdiv (da.length : Int) 32))) = x2 + (1 + Int.tdiv (da.length : Int) 32) := by
          rw [wi64_id (n := Int.tdiv (da.length : Int) 32) (by omega) (by omega), wi64_id (n := 1 + Int.tdiv (da.length : Int) 32) (by omega) (by omega), wi64_id (by omega) (by omega)]
        show Fas.l3_0.g mk n m _ x1 (IntKind.wrap .i64 (x2 + IntKind.wrap .i64 (1 + IntKind.wrap .i64 (Int.tdiv (da.length : Int) 32)))) 300 = _
        rw [hw]
        exact ih
      · exact ⟨x2, iT (by simp; omega) (iF (by simp; omega) rfl), fun h => by omega⟩
    · exact ⟨x2, iF (by simp; omega) rfl, fun h => by omega⟩
theorem heavy_tot {n : Nat} (hn : 302 ≤ n) {e a : List AV} (he : ∀ x ∈ e, EnT x) (ha : ∀ x ∈ a, EvH x) : Fay.m n (e, a) = some true ∨ (Fay.m n (e, a) = some false ∧ (∀ x ∈ e, EnL x) ∧ e.length ≤ 300 ∧ a.length ≤ 300) := by
  obtain ⟨r, h1, k1⟩ := ents_loop (fun a0 => a0) n e he n 0 0 (by omega) (by omega) (by omega) (by omega) (by omega) (by omega) (by omega)
  have h1' : Fan.m n (e, 300) = some r := bO h1 rfl
  obtain ⟨s, h2, k2⟩ := evs_loop (fun a0 => a0) n a ha n 0 0 (by omega) (by omega) (by omega) (by omega) (by omega) (by omega) (by omega)
  have h2' : Fas.m n (a, 300) = some s := bO h2 rfl
  by_cases hr : r > 300
  · exact .inl (bO h1' (iT (by simp; omega) rfl))
  · by_cases hs : s > 300
    · refine .inl (bO h1' (iF (by simp; omega) (bO h2' ?_)))
      rw [decide_eq_true hs]
    · refine .inr ⟨bO h1' (iF (by simp; omega) (bO h2' ?_)), ?_, ?_, ?_⟩
      · rw [decide_eq_false hs]
      · have := (k1 (by omega)).2; simpa using this
      · have := (k1 (by omega)).1; omega
      · have := k2 (by omega); omega
end Go.Abs.Pure
end
section
set_option linter.unusedVariables false
set_option linter.unusedSimpArgs false
set_option maxRecDepth 100000
namespace Go.Abs.Pure
open Go Go.Abs Go.Proofs
theorem known17 : Faz.m 8000 () = some true := by kernel_rfl
def IsOne (v : AV) : Prop := ∃ ro pl q, v = one ro pl q
theorem Outs_one {B : Nat → AV → List Int} {ro : Int} : ∀ (j : Nat) (l : List AV), ∀ v ∈ Outs B ro j l, IsOne v
  | _, [], v, h => by simp [Outs] at h
  | j, x :: r, v, h => by
    simp only [Outs, List.mem_append, List.mem_map] at h
    rcases h with ⟨q, _, rfl⟩ | h
    · exact ⟨ro, j, q, rfl⟩
    · exact Outs_one (j + 1) r v h
theorem more_l19 {α : Type} (mk0 : Bool → Int → List AV → List AV → α) (n : Nat) (F M : List AV) (hF : ∀ v ∈ F, IsOne v) (hM : ∀ v ∈ M, IsOne v) (hl : M.length ≤ 100000) (i : Nat) (hi : i < F.length) : ∀ (k m j : Nat) (b : Bool), j + k = M.length → k < m → (b = true ∨ F[i] ∈ M.drop j) →
    Fag.l19_0.g mk0 n m (j : Int) b (i : Int) M F = some (mk0 true (i : Int) F M)
  | 0, m + 1, j, b, hj, _, h => by
    have hb : b = true := by
      rcases h with h | h
      · exact h
      · rw [List.drop_of_length_le (by omega)] at h; simp at h
    subst hb
    exact iF (by simp; omega) rfl
  | k + 1, m + 1, j, b, hj, hm, h => by
    have hlt : j < M.length := by omega
    refine iT (by simp; omega) ?_
    cases b
    · refine iF Bool.false_ne_true ?_
      obtain ⟨ro, pl, q, hv⟩ := hM M[j] (List.getElem_mem hlt)
      obtain ⟨ro', pl', q', hw⟩ := hF F[i] (List.getElem_mem hi)
      have hd : ((q == q') && ((ro == ro') && ((pl == pl') && true))) = true ∨ F[i] ∈ M.drop (j + 1) := by
        rcases h with h | h
        · cases h
        · rw [List.drop_eq_getElem_cons hlt, hv] at h
          rcases List.mem_cons.1 h with h | h
          · rw [hw] at h
            have h' : one ro' pl' q' = one ro pl q := h
            unfold one at h'
            injection h' with h'
            injection h' with h1 h'
            injection h' with h2 h'
            injection h' with h3 h'
            injection h1 with _ h1
            injection h2 with _ h2
            injection h3 with _ h3
            left; rw [h1, h2, h3]; simp
          · exact .inr h
      have ih := more_l19 mk0 n F M hF hM hl i hi k m (j + 1) ((q == q') && ((ro == ro') && ((pl == pl') && true))) (by omega) (by omega) hd
      rw [← next_at (j := j) (by omega)] at ih
      refine iT (by omega) (iT (by omega) ?_)
      rw [at_nat hlt, hv]
      refine bO rfl (bO rfl (bO rfl (bO rfl ?_)))
      refine iT (by omega) (iT (by omega) ?_)
      rw [at_nat hi, hw]
      refine bO rfl (bO rfl (bO rfl (bO rfl ?_)))
      exact ih
    · have ih := more_l19 mk0 n F M hF hM hl i hi k m (j + 1) true (by omega) (by omega) (.inl rfl)
      rw [← next_at (j := j) (by omega)] at ih
      exact iT rfl ih
theorem more_l15 {α : Type} (mk0 : Bool → List AV → List AV → α) (mk1 : List AV → List AV → α) (n : Nat) (F M : List AV) (hF : ∀ v ∈ F, IsOne v) (hM : ∀ v ∈ M, IsOne v) (hl : M.length ≤ 100000) (hlF : F.length ≤ 100000) (hn : M.length < n) (hs : ∀ v ∈ F, v ∈ M) : ∀ (k m j : Nat), j + k = F.length → k < m →
    Fag.l15_0.g mk0 mk1 n m (j : Int) F M = some (mk1 F M)
  | 0, m + 1, j, hj, _ => iF (by simp; omega) rfl
  | k + 1, m + 1, j, hj, hm => by
    have hlt : j < F.length := by omega
    have ih := more_l15 mk0 mk1 n F M hF hM hl hlF hn hs k m (j + 1) (by omega) (by omega)
    rw [← next_at (j := j) (by omega)] at ih
    have e := more_l19 (fun a0 a1 a2 a3 => (a0, a1, a2, a3)) n F M hF hM hl j hlt M.length n 0 false (by omega) hn (.inr (by simpa using hs _ (List.getElem_mem hlt)))
    exact iT (by simp; omega) (bO e (iF (by simp) ih))
theorem more_l8_0 {n : Nat} (hn : 5 ≤ n) (x1 : List AV) (x2 : Bool) (x3 : Bool) (x4 : Bool) (x5 : Bool) (x6 : List Int) (x7 : List Int) (x8 : Bool) (x9 : List Int) (x10 : List Int) (x11 : List Int) (x12 : Int) (x13 : Int) (x14 : Int) (x15 : List Int) (x16 : List Int) (x17 : Bool) (x18 : List Int) (x19 : Int) (x20 : Int) (x21 : List Int) (x22 : List Int) (x23 : List AV) (x24 : Bool) (x25 : Bool) (x26 : Bool) (x27 : Bool) (x28 : List AV) (x29 : List AV) (x30 : List AV) : Fag.l8_0.m n n (1, x1, x2, x3, x4, x5, x6, x7, x8, x9, x10, x11, x12, x13, x14, x15, x16, x17, x18, x19, x20, x21, x22, x23, x24, x25, x26, x27, x28, x29, x30) = some (x1, x6, x7, x8, x9, x10, x11, x12, x13, x14, x15, x16, x17, x18, x19, x20, x21, x22, x23, x2, true, true, true, x24, x25, x26, x27, x28, x29, x30) := by
  obtain ⟨m, rfl⟩ : ∃ m, n = m + 5 := ⟨n - 5, by omega⟩
  rfl
theorem more_l8v1_0 {n : Nat} (hn : 5 ≤ n) (x1 : List AV) (x2 : Bool) (x3 : Bool) (x4 : Bool) (x5 : Bool) (x6 : List Int) (x7 : List Int) (x8 : Bool) (x9 : List Int) (x10 : List Int) (x11 : List Int) (x12 : Int) (x13 : Int) (x14 : Int) (x15 : List Int) (x16 : List Int) (x17 : Bool) (x18 : List Int) (x19 : Int) (x20 : Int) (x21 : List Int) (x22 : List Int) (x23 : List AV) (x24 : Bool) (x25 : Bool) (x26 : Bool) (x27 : Bool) (x28 : List AV) (x29 : List AV) (x30 : List AV) : Fag.l8v1_0.m n n (1, x1, x2, x3, x4, x5, x6, x7, x8, x9, x10, x11, x12, x13, x14, x15, x16, x17, x18, x19, x20, x21, x22, x23, x24, x25, x26, x27, x28, x29, x30) = some (x1, x6, x7, x8, x9, x10, x11, x12, x13, x14, x15, x16, x17, x18, x19, x20, x21, x22, x23, x2, true, true, true, x24, x25, x26, x27, x28, x29, x30) := by
  obtain ⟨m, rfl⟩ : ∃ m, n = m + 5 := ⟨n - 5, by omega⟩
  rfl
theorem more_l8v2_0 {n : Nat} (hn : 5 ≤ n) (x1 : List AV) (x2 : Bool) (x3 : Bool) (x4 : Bool) (x5 : Bool) (x6 : List Int) (x7 : List Int) (x8 : Bool) (x9 : List Int) (x10 : List Int) (x11 : List Int) (x12 : Int) (x13 : Int) (x14 : Int) (x15 : List Int) (x16 : List Int) (x17 : Bool) (x18 : List Int) (x19 : Int) (x20 : Int) (x21 : List Int) (x22 : List Int) (x23 : List AV) (x24 : Bool) (x25 : Bool) (x26 : Bool) (x27 : Bool) (x28 : List AV) (x29 : List AV) (x30 : List AV) : Fag.l8v2_0.m n n (1, x1, x2, x3, x4, x5, x6, x7, x8, x9, x10, x11, x12, x13, x14, x15, x16, x17, x18, x19, x20, x21, x22, x23, x24, x25, x26, x27, x28, x29, x30) = some (x1, x6, x7, x8, x9, x10, x11, x12, x13, x14, x15, x16, x17, x18, x19, x20, x21, x22, x23, x2, true, true, true, x24, x25, x26, x27, x28, x29, x30) := by
  obtain ⟨m, rfl⟩ : ∃ m, n = m + 5 := ⟨n - 5, by omega⟩
  rfl
theorem born_true (b : Bool) : born b true = false := by cases b <;> rfl
theorem whichM (r : Int) (h0 : 0 ≤ r) (h1 : r ≤ 255) : IntKind.wrap .i64 ((Int.tmod (IntKind.wrap .i64 r) 3) + 1) = 1 ∨ IntKind.wrap .i64 ((Int.tmod (IntKind.wrap .i64 r) 3) + 1) = 2 ∨ IntKind.wrap .i64 ((Int.tmod (IntKind.wrap .i64 r) 3) + 1) = 3 := by
  rw [wi64_id (n := r) (by omega) (by omega), Int.tmod_eq_emod_of_nonneg h0, wi64_id (by omega) (by omega)]
  omega
theorem more {n : Nat} (hkn : Faz.m n () = some true) (c : Cl n) (hn : 7000 ≤ n) (a0 : List AV) (a1_0 : List Int) (a1_1 : List Int) (a1_2 : Bool) (a1_3 : List Int) (a1_4 : List Int) (a1_5 : List Int) (a1_6 : Int) (a1_7 : Int) (a1_8 : Int) (a1_9 : List Int) (a1_10 : List Int) (a1_11 : Bool) (a1_12 : List Int) (a1_13 : Int) (a1_14 : Int) (a1_15 : List Int) (a1_16 : List Int) (a2 : List AV) (a3_0 a3_1 a3_2 a3_3 : Bool) (a4 : Int) (h4 : 0 ≤ a4 ∧ a4 ≤ 255) (he : ∀ x ∈ a0, EnT x) (h0 : a1_0.length = 20) (h3 : a1_3.length = 20) (h12 : a1_12.length = 20) (k2 : ∀ x ∈ a2, EvH x) : Fag.m n (a0, a1_0, a1_1, a1_2, a1_3, a1_4, a1_5, a1_6, a1_7, a1_8, a1_9, a1_10, a1_11, a1_12, a1_13, a1_14, a1_15, a1_16, a2, a3_0, a3_1, a3_2, a3_3, a4) = some true := by
  unfold Fag.m Fag.g
  have vnil : ∀ v ∈ ([] : List AV), EvT v := by intro x hx; simp at hx
  have lnil : ([] : List AV).length ≤ 300 := by simp
  rcases heavy_tot (n := n) (by omega) he k2 with e1 | ⟨e1, eL, el, l2⟩
  · exact bO e1 (iT rfl (bO hkn rfl))
  obtain ⟨p, q, en, hp, hq⟩ := new_tot (n := n) (by omega) eL el
  have hC := code_tot (n := n) hp q 0 0
  have t2 : ∀ v ∈ a2, EvT v := fun v hv => (k2 v hv).t
  refine bO e1 (iF Bool.false_ne_true (bO hkn (iF Bool.false_ne_true ?_)))
  dsimp only
  rcases whichM a4 h4.1 h4.2 with hw | hw | hw
  · have c1 := check_eq p q 0 0 a1_0 a1_1 a1_2 a1_3 a1_4 a1_5 a1_6 a1_7 a1_8 a1_9 a1_10 a1_11 a1_12 a1_13 a1_14 a1_15 a1_16 [] a2 [] [] a3_0 true true true c hC h0 h3 h12 t2 l2 vnil lnil vnil lnil
    have c2 := check_eq p q 0 0 a1_0 a1_1 a1_2 a1_3 a1_4 a1_5 a1_6 a1_7 a1_8 a1_9 a1_10 a1_11 a1_12 a1_13 a1_14 a1_15 a1_16 [] a2 [] [] a3_0 a3_1 a3_2 a3_3 c hC h0 h3 h12 t2 l2 vnil lnil vnil lnil
    simp only [Ro_nil, List.nil_append, List.append_nil, born_true] at c1 c2
    have hs : (Ro n p q 0 0 a1_0 a1_1 a1_2 a1_3 a1_4 a1_5 a1_6 a1_7 a1_8 a1_9 a1_10 a1_11 a1_12 a1_13 a1_14 a1_15 a1_16 1 true false a2).Sublist (Ro n p q 0 0 a1_0 a1_1 a1_2 a1_3 a1_4 a1_5 a1_6 a1_7 a1_8 a1_9 a1_10 a1_11 a1_12 a1_13 a1_14 a1_15 a1_16 1 a3_1 (born a1_2 a3_2) a2) := Ro_sub c hC h0 h3 h12 1 a3_1 (born a1_2 a3_2) t2 l2
    have hb : (Ro n p q 0 0 a1_0 a1_1 a1_2 a1_3 a1_4 a1_5 a1_6 a1_7 a1_8 a1_9 a1_10 a1_11 a1_12 a1_13 a1_14 a1_15 a1_16 1 a3_1 (born a1_2 a3_2) a2).length ≤ 2100 := Ro_len c hC h0 h3 h12 1 a3_1 (born a1_2 a3_2) t2 l2
    have oF : ∀ v ∈ Ro n p q 0 0 a1_0 a1_1 a1_2 a1_3 a1_4 a1_5 a1_6 a1_7 a1_8 a1_9 a1_10 a1_11 a1_12 a1_13 a1_14 a1_15 a1_16 1 true false a2, IsOne v := Outs_one _ _
    have oM : ∀ v ∈ Ro n p q 0 0 a1_0 a1_1 a1_2 a1_3 a1_4 a1_5 a1_6 a1_7 a1_8 a1_9 a1_10 a1_11 a1_12 a1_13 a1_14 a1_15 a1_16 1 a3_1 (born a1_2 a3_2) a2, IsOne v := Outs_one _ _
    generalize Ro n p q 0 0 a1_0 a1_1 a1_2 a1_3 a1_4 a1_5 a1_6 a1_7 a1_8 a1_9 a1_10 a1_11 a1_12 a1_13 a1_14 a1_15 a1_16 1 true false a2 = F at *
    generalize Ro n p q 0 0 a1_0 a1_1 a1_2 a1_3 a1_4 a1_5 a1_6 a1_7 a1_8 a1_9 a1_10 a1_11 a1_12 a1_13 a1_14 a1_15 a1_16 1 a3_1 (born a1_2 a3_2) a2 = M at *
    have hl := hs.length_le
    have e := more_l15 (fun a0 a1 a2 => Sum.inl (a0, a1, a2)) (fun a0 a1 => Sum.inr (a0, a1)) n F M oF oM (by omega) (by omega) (by omega) (fun v hv => hs.subset hv) F.length n 0 (by omega) (by omega)
    refine iT hw ?_
    refine bO (more_l8_0 (by omega) _ _ _ _ _ _ _ _ _ _ _ _ _ _ _ _ _ _ _ _ _ _ _ _ _ _ _ _ _ _) ?_
    refine bO en (bO c1 (bO c2 (bO e ?_)))
    show some (decide (((F.length : Nat) : Int) ≤ ((M.length : Nat) : Int))) = some true
    rw [decide_eq_true (by omega)]
  · have c1 := check_eq p q 0 0 a1_0 a1_1 a1_2 a1_3 a1_4 a1_5 a1_6 a1_7 a1_8 a1_9 a1_10 a1_11 a1_12 a1_13 a1_14 a1_15 a1_16 [] [] a2 [] a3_0 true true true c hC h0 h3 h12 vnil lnil t2 l2 vnil lnil
    have c2 := check_eq p q 0 0 a1_0 a1_1 a1_2 a1_3 a1_4 a1_5 a1_6 a1_7 a1_8 a1_9 a1_10 a1_11 a1_12 a1_13 a1_14 a1_15 a1_16 [] [] a2 [] a3_0 a3_1 a3_2 a3_3 c hC h0 h3 h12 vnil lnil t2 l2 vnil lnil
    simp only [Ro_nil, List.nil_append, List.append_nil, born_true] at c1 c2
    have hs : (Ro n p q 0 0 a1_0 a1_1 a1_2 a1_3 a1_4 a1_5 a1_6 a1_7 a1_8 a1_9 a1_10 a1_11 a1_12 a1_13 a1_14 a1_15 a1_16 2 true false a2).Sublist (Ro n p q 0 0 a1_0 a1_1 a1_2 a1_3 a1_4 a1_5 a1_6 a1_7 a1_8 a1_9 a1_10 a1_11 a1_12 a1_13 a1_14 a1_15 a1_16 2 a3_2 (born a1_2 a3_2) a2) := Ro_sub c hC h0 h3 h12 2 a3_2 (born a1_2 a3_2) t2 l2
    have hb : (Ro n p q 0 0 a1_0 a1_1 a1_2 a1_3 a1_4 a1_5 a1_6 a1_7 a1_8 a1_9 a1_10 a1_11 a1_12 a1_13 a1_14 a1_15 a1_16 2 a3_2 (born a1_2 a3_2) a2).length ≤ 2100 := Ro_len c hC h0 h3 h12 2 a3_2 (born a1_2 a3_2) t2 l2
    have oF : ∀ v ∈ Ro n p q 0 0 a1_0 a1_1 a1_2 a1_3 a1_4 a1_5 a1_6 a1_7 a1_8 a1_9 a1_10 a1_11 a1_12 a1_13 a1_14 a1_15 a1_16 2 true false a2, IsOne v := Outs_one _ _
    have oM : ∀ v ∈ Ro n p q 0 0 a1_0 a1_1 a1_2 a1_3 a1_4 a1_5 a1_6 a1_7 a1_8 a1_9 a1_10 a1_11 a1_12 a1_13 a1_14 a1_15 a1_16 2 a3_2 (born a1_2 a3_2) a2, IsOne v := Outs_one _ _
    generalize Ro n p q 0 0 a1_0 a1_1 a1_2 a1_3 a1_4 a1_5 a1_6 a1_7 a1_8 a1_9 a1_10 a1_11 a1_12 a1_13 a1_14 a1_15 a1_16 2 true false a2 = F at *
    generalize Ro n p q 0 0 a1_0 a1_1 a1_2 a1_3 a1_4 a1_5 a1_6 a1_7 a1_8 a1_9 a1_10 a1_11 a1_12 a1_13 a1_14 a1_15 a1_16 2 a3_2 (born a1_2 a3_2) a2 = M at *
    have hl := hs.length_le
    have e := more_l15 (fun a0 a1 a2 => Sum.inl (a0, a1, a2)) (fun a0 a1 => Sum.inr (a0, a1)) n F M oF oM (by omega) (by omega) (by omega) (fun v hv => hs.subset hv) F.length n 0 (by omega) (by omega)
    refine iF (by omega) (iT hw ?_)
    refine bO (more_l8v1_0 (by omega) _ _ _ _ _ _ _ _ _ _ _ _ _ _ _ _ _ _ _ _ _ _ _ _ _ _ _ _ _ _) ?_
    refine bO en (bO c1 (bO c2 (bO e ?_)))
    show some (decide (((F.length : Nat) : Int) ≤ ((M.length : Nat) : Int))) = some true
    rw [decide_eq_true (by omega)]
  · have c1 := check_eq p q 0 0 a1_0 a1_1 a1_2 a1_3 a1_4 a1_5 a1_6 a1_7 a1_8 a1_9 a1_10 a1_11 a1_12 a1_13 a1_14 a1_15 a1_16 [] [] [] a2 a3_0 true true true c hC h0 h3 h12 vnil lnil vnil lnil t2 l2
    have c2 := check_eq p q 0 0 a1_0 a1_1 a1_2 a1_3 a1_4 a1_5 a1_6 a1_7 a1_8 a1_9 a1_10 a1_11 a1_12 a1_13 a1_14 a1_15 a1_16 [] [] [] a2 a3_0 a3_1 a3_2 a3_3 c hC h0 h3 h12 vnil lnil vnil lnil t2 l2
    simp only [Ro_nil, List.nil_append, List.append_nil, born_true] at c1 c2
    have hs : (Ro n p q 0 0 a1_0 a1_1 a1_2 a1_3 a1_4 a1_5 a1_6 a1_7 a1_8 a1_9 a1_10 a1_11 a1_12 a1_13 a1_14 a1_15 a1_16 3 true false a2).Sublist (Ro n p q 0 0 a1_0 a1_1 a1_2 a1_3 a1_4 a1_5 a1_6 a1_7 a1_8 a1_9 a1_10 a1_11 a1_12 a1_13 a1_14 a1_15 a1_16 3 a3_3 (born a1_2 a3_2) a2) := Ro_sub c hC h0 h3 h12 3 a3_3 (born a1_2 a3_2) t2 l2
    have hb : (Ro n p q 0 0 a1_0 a1_1 a1_2 a1_3 a1_4 a1_5 a1_6 a1_7 a1_8 a1_9 a1_10 a1_11 a1_12 a1_13 a1_14 a1_15 a1_16 3 a3_3 (born a1_2 a3_2) a2).length ≤ 2100 := Ro_len c hC h0 h3 h12 3 a3_3 (born a1_2 a3_2) t2 l2
    have oF : ∀ v ∈ Ro n p q 0 0 a1_0 a1_1 a1_2 a1_3 a1_4 a1_5 a1_6 a1_7 a1_8 a1_9 a1_10 a1_11 a1_12 a1_13 a1_14 a1_15 a1_16 3 true false a2, IsOne v := Outs_one _ _
    have oM : ∀ v ∈ Ro n p q 0 0 a1_0 a1_1 a1_2 a1_3 a1_4 a1_5 a1_6 a1_7 a1_8 a1_9 a1_10 a1_11 a1_12 a1_13 a1_14 a1_15 a1_16 3 a3_3 (born a1_2 a3_2) a2, IsOne v := Outs_one _ _
    generalize Ro n p q 0 0 a1_0 a1_1 a1_2 a1_3 a1_4 a1_5 a1_6 a1_7 a1_8 a1_9 a1_10 a1_11 a1_12 a1_13 a1_14 a1_15 a1_16 3 true false a2 = F at *
    generalize Ro n p q 0 0 a1_0 a1_1 a1_2 a1_3 a1_4 a1_5 a1_6 a1_7 a1_8 a1_9 a1_10 a1_11 a1_12 a1_13 a1_14 a1_15 a1_16 3 a3_3 (born a1_2 a3_2) a2 = M at *
    have hl := hs.length_le
    have e := more_l15 (fun a0 a1 a2 => Sum.inl (a0, a1, a2)) (fun a0 a1 => Sum.inr (a0, a1)) n F M oF oM (by omega) (by omega) (by omega) (fun v hv => hs.subset hv) F.length n 0 (by omega) (by omega)
    refine iF (by omega) (iF (by omega) (iT hw ?_))
    refine bO (more_l8v2_0 (by omega) _ _ _ _ _ _ _ _ _ _ _ _ _ _ _ _ _ _ _ _ _ _ _ _ _ _ _ _ _ _) ?_
    refine bO en (bO c1 (bO c2 (bO e ?_)))
    show some (decide (((F.length : Nat) : Int) ≤ ((M.length : Nat) : Int))) = some true
    rw [decide_eq_true (by omega)]
theorem EvH.of {a : List AV} (h : (a.length ≤ 140737488351232 ∧ ∀ z ∈ a, ∃ c0 c1 c2 c3 c4 c5 c6, z = AV.agg [.int .u8 c0, .int .i64 c1, .ints .u8 20 c2, .ints .u64 4 c3, .ints .u64 4 c4, .rints .u8 c5, .int .u16 c6] ∧ InK .u8 c0 ∧ InK .i64 c1 ∧ InA .u8 20 c2 ∧ InA .u64 4 c3 ∧ InA .u64 4 c4 ∧ InS .u8 c5 ∧ InK .u16 c6)) : ∀ v ∈ a, EvH v := fun v hv => by
  obtain ⟨c0, c1, c2, c3, c4, c5, c6, e, _, _, _, h3, h4, h5, _⟩ := h.2 v hv
  exact ⟨c0, c1, c2, c3, c4, c5, c6, e, .of h3, .of h4, h5.1⟩
theorem EnT.of {a : List AV} (h : (a.length ≤ 140737488351232 ∧ ∀ z ∈ a, ∃ c0 c1 c2 c3 c4, z = AV.agg [.ints .u8 20 c0, .agg [.int .u64 c1, .ints .u64 4 c2, .rints .u8 c3, .robjs 77 8 c4]] ∧ InA .u8 20 c0 ∧ InK .u64 c1 ∧ InA .u64 4 c2 ∧ InS .u8 c3 ∧ (c4.length ≤ 140737488351232 ∧ ∀ z ∈ c4, ∃ c0 c1, z = AV.agg [.ints .u64 4 c0, .ints .u64 4 c1] ∧ InA .u64 4 c0 ∧ InA .u64 4 c1))) : ∀ v ∈ a, EnT v := fun v hv => by
  obtain ⟨c0, c1, c2, c3, c4, e, _, _, _, h3, h4⟩ := h.2 v hv
  refine ⟨c0, c1, c2, c3, c4, e, fun x hx => ?_, h4.1, h3.1⟩
  obtain ⟨d0, d1, e, _⟩ := h4.2 x hx
  exact ⟨d0, d1, e⟩
theorem RulesMore (a0 : List AV) (g0 : (a0.length ≤ 140737488351232 ∧ ∀ z ∈ a0, ∃ c0 c1 c2 c3 c4, z = AV.agg [.ints .u8 20 c0, .agg [.int .u64 c1, .ints .u64 4 c2, .rints .u8 c3, .robjs 77 8 c4]] ∧ InA .u8 20 c0 ∧ InK .u64 c1 ∧ InA .u64 4 c2 ∧ InS .u8 c3 ∧ (c4.length ≤ 140737488351232 ∧ ∀ z ∈ c4, ∃ c0 c1, z = AV.agg [.ints .u64 4 c0, .ints .u64 4 c1] ∧ InA .u64 4 c0 ∧ InA .u64 4 c1))) (a1_0 : List Int) (h0 : InA .u8 20 a1_0) (a1_1 : List Int) (h1 : InA .u64 4 a1_1) (a1_2 : Bool)  (a1_3 : List Int) (h3 : InA .u8 20 a1_3) (a1_4 : List Int) (h_4 : InS .u8 a1_4) (a1_5 : List Int) (h5 : InS .u8 a1_5) (a1_6 : Int) (h6 : InK .u64 a1_6) (a1_7 : Int) (h7 : InK .u64 a1_7) (a1_8 : Int) (h8 : InK .u64 a1_8) (a1_9 : List Int) (h9 : InA .u64 4 a1_9) (a1_10 : List Int) (h10 : InA .u64 4 a1_10) (a1_11 : Bool)  (a1_12 : List Int) (h12 : InA .u8 20 a1_12) (a1_13 : Int) (h13 : InK .u64 a1_13) (a1_14 : Int) (h14 : InK .u64 a1_14) (a1_15 : List Int) (h15 : InS .u8 a1_15) (a1_16 : List Int) (h16 : InS .u8 a1_16) (a2 : List AV) (g2 : (a2.length ≤ 140737488351232 ∧ ∀ z ∈ a2, ∃ c0 c1 c2 c3 c4 c5 c6, z = AV.agg [.int .u8 c0, .int .i64 c1, .ints .u8 20 c2, .ints .u64 4 c3, .ints .u64 4 c4, .rints .u8 c5, .int .u16 c6] ∧ InK .u8 c0 ∧ InK .i64 c1 ∧ InA .u8 20 c2 ∧ InA .u64 4 c3 ∧ InA .u64 4 c4 ∧ InS .u8 c5 ∧ InK .u16 c6)) (a3_0 a3_1 a3_2 a3_3 : Bool) (a4 : Int) (h4 : InK .u8 a4) : ∃ n, Fag.m n (a0, a1_0, a1_1, a1_2, a1_3, a1_4, a1_5, a1_6, a1_7, a1_8, a1_9, a1_10, a1_11, a1_12, a1_13, a1_14, a1_15, a1_16, a2, a3_0, a3_1, a3_2, a3_3, a4) = some true :=
  ⟨8000, more known17 cl8000 (by decide) a0 a1_0 a1_1 a1_2 a1_3 a1_4 a1_5 a1_6 a1_7 a1_8 a1_9 a1_10 a1_11 a1_12 a1_13 a1_14 a1_15 a1_16 a2 a3_0 a3_1 a3_2 a3_3 a4 h4 (EnT.of g0) h0.1 h3.1 h12.1 (EvH.of g2)⟩
end Go.Abs.Pure
end
