/- Plain laws about what the functions compute. Conditions: the arguments' bounds, as each theorem says. -/
import Derived.Test.YtkknbhapkdgcjaaDoorBinP1
import Derived.Test.YtkknbhapkdgcjaaDoorAbsP8
import Derived.Test.YtkknbhapkdgcjaaDoorFnRulesStakes1
import Derived.KernelRfl
import Derived.Test.YtkknbhapkdgcjaaDoorFnRulesStakes2
import Derived.Test.YtkknbhapkdgcjaaDoorFnRulesStakes3
import Derived.Test.YtkknbhapkdgcjaaDoorFnRulesStakes4
section
set_option linter.unusedVariables false
set_option linter.unusedSimpArgs false
set_option maxRecDepth 100000
namespace Go.Abs.Pure
open Go Go.Abs Go.Proofs
def Tot {α : Type} (x : Option α) : Prop := ∃ r, x = some r
theorem bO {α β : Type} {x : Option α} {a : α} {f : α → Option β} {r : Option β} (h : x = some a) (k : f a = r) : bindO x f = r := by
 rw [h]; exact k
theorem iT {α : Type} {c : Prop} [Decidable c] {a b r : Option α} (h : c) (k : a = r) : (if c then a else b) = r := by
 rw [if_pos h]; exact k
theorem iF {α : Type} {c : Prop} [Decidable c] {a b r : Option α} (h : ¬ c) (k : b = r) : (if c then a else b) = r := by
 rw [if_neg h]; exact k
theorem at_nat {l : List AV} {j : Nat} (h : j < l.length) : List.getD l (Int.toNat (j : Int)) Go.Abs.AV.any = l[j] := by
 simp [List.getD_eq_getElem?_getD, List.getElem?_eq_getElem h]
theorem next_at {j : Nat} (h : j ≤ 1000000) : IntKind.wrap .i64 ((j : Int) + 1) = ((j + 1 : Nat) : Int) := by rw [wi64]; omega
def W4 (l : List Int) : Prop := l.length = 4 ∧ ∀ x ∈ l, 0 ≤ x ∧ x < 18446744073709551616
theorem W4.split {l : List Int} (h : W4 l) : ∃ a b c d, l = [a, b, c, d] ∧ (0 ≤ a ∧ a < 18446744073709551616) ∧ (0 ≤ b ∧ b < 18446744073709551616) ∧ (0 ≤ c ∧ c < 18446744073709551616) ∧ (0 ≤ d ∧ d < 18446744073709551616) := by
 obtain ⟨h1, h2⟩ := h
 match l, h1 with
 | [a, b, c, d], _ => exact ⟨a, b, c, d, rfl, h2 a (by simp), h2 b (by simp), h2 c (by simp), h2 d (by simp)⟩
theorem W4.of {l : List Int} (h : InA .u64 4 l) : W4 l := ⟨h.1, fun x hx => ⟨(h.2 x hx).1, by have := (h.2 x hx).2; simp [IntKind.max, IntKind.bits, IntKind.signed] at this; omega⟩⟩
theorem word_Sub_unroll {α : Type} (mk : Int → List Int → List Int → α) (n k : Nat) (a b c d e f g h : Int) : Fbr.l4_0.g mk n (k + 5) 0 0 [a, b, c, d] [e, f, g, h] [0, 0, 0, 0] [0, 0, 0, 0] = bindO (xSub64 (a, e, 0)) fun r => bindO (xSub64 (b, f, r.2)) fun s => bindO (xSub64 (c, g, s.2)) fun t => bindO (xSub64 (d, h, t.2)) fun u => some (mk u.2 [r.1, s.1, t.1, u.1] [0, 0, 0, 0]) := by kernel_rfl
end Go.Abs.Pure
end
section
set_option linter.unusedVariables false
set_option linter.unusedSimpArgs false
set_option maxRecDepth 100000
namespace Go.Abs.Pure
open Go Go.Abs Go.Proofs
def mkEv (op dp : Int) (se ar va da : List Int) (fa : Int) : AV := .agg [.int .u8 op, .int .i64 dp, .ints .u8 20 se, .ints .u64 4 ar, .ints .u64 4 va, .rints .u8 da, .int .u16 fa]
def EvT (v : AV) : Prop := ∃ op dp se ar va da fa, v = mkEv op dp se ar va da fa ∧ W4 ar ∧ W4 va
structure Cl (n : Nat) : Prop where
 hn : 400 ≤ n
 sel : Tot (Fan.m n (b8 [100, 101, 112, 111, 115, 105, 116, 84, 111, 40, 97, 100, 100, 114, 101, 115, 115, 41]))
section
variable {n : Nat} (c : Cl n) (op : Int) (dp : Int) (se : List Int) (ar : List Int) (va : List Int) (da : List Int) (fa : Int) (al : List AV) (sl : List AV) (w6 : Int) (w7 : Int) (x0 : List Int) (x1 : List Int) (x2 : Bool) (x3 : List Int) (x4 : List Int) (x5 : List Int) (x6 : Int) (x7 : Int) (x8 : Int) (x9 : List Int) (x10 : List Int) (x11 : Bool) (x12 : List Int) (x13 : Int) (x14 : Int) (x15 : List Int) (x16 : List Int) (ro : Int) (st : Bool) (bo : Bool) (evs : List AV) (pl : Int)
end
end Go.Abs.Pure
end
section
set_option linter.unusedVariables false
set_option linter.unusedSimpArgs false
set_option maxRecDepth 100000
namespace Go.Abs.Pure
open Go Go.Abs Go.Proofs
theorem find_tot {β : Type} [DecidableEq β] (f : AV → β) (kk : β) (k : AV) : ∀ (l : List AV), (∀ x ∈ l, ∃ k' v', x = .agg [k', v'] ∧ eqAV k k' = some (decide (f x = kk))) →
  (∃ i, ∃ h : i < l.length, mfindL k l = some (some i) ∧ f l[i] = kk) ∨ (mfindL k l = some none ∧ ∀ x ∈ l, f x ≠ kk)
 | [], _ => .inr ⟨rfl, by simp⟩
 | x :: r, h => by
  obtain ⟨k', v', rfl, e⟩ := h x (by simp)
  by_cases hd : f (.agg [k', v']) = kk
  ·refine .inl ⟨0, by simp, ?_, hd⟩
   simp only [mfindL, e, hd, decide_true]
  ·rw [decide_eq_false hd] at e
   rcases find_tot f kk k r fun y hy => h y (by simp [hy]) with ⟨i, hi, e', hf⟩ | ⟨e', hf⟩
   ·refine .inl ⟨i + 1, by simpa using hi, ?_, by simpa using hf⟩
    simp only [mfindL, e, e']
   ·refine .inr ⟨?_, ?_⟩
    ·simp only [mfindL, e, e']
    ·intro y hy
     rcases List.mem_cons.1 hy with rfl | hy
     ·exact hd
     ·exact hf y hy
def AccT (l : List AV) : Prop := ∀ x ∈ l, ∃ a n w s, x = .agg [.ints .u8 20 a, .agg [.int .u64 n, .ints .u64 4 w, .str s]]
def SlT (l : List AV) : Prop := (∀ x ∈ l, ∃ a k v, x = .agg [.agg [.ints .u8 20 a, .ints .u64 4 k], .ints .u64 4 v]) ∧ (l.map dfDec).Nodup
def accD : AV → List Int
 | .ints _ _ a => a
 | _ => []
def accK : AV → List Int
 | .agg (y :: _) => accD y
 | _ => []
theorem accK_is (b : List Int) (y : AV) : accK (.agg [.ints .u8 20 b, y]) = b := rfl
theorem AccT.key {l : List AV} (h : AccT l) (a : List Int) : ∀ x ∈ l, ∃ k' v', x = .agg [k', v'] ∧ eqAV (.ints .u8 20 a) k' = some (decide (accK x = a)) := fun x hx => by
 obtain ⟨b, n, w, s, rfl⟩ := h x hx
 refine ⟨_, _, rfl, ?_⟩
 have : eqAV (.ints .u8 20 a) (.ints .u8 20 b) = some (a == b) := rfl
 rw [this, accK_is]
 refine congrArg some ?_
 rw [Bool.eq_iff_iff, beq_iff_eq, decide_eq_true_eq]
 exact ⟨Eq.symm, Eq.symm⟩
theorem SlT.key {l : List AV} (h : SlT l) (a k : List Int) : ∀ x ∈ l, ∃ k' v', x = .agg [k', v'] ∧ eqAV (.agg [.ints .u8 20 a, .ints .u64 4 k]) k' = some (decide (dfDec x = some (a, k))) := fun x hx => by
 obtain ⟨b, k', v, rfl⟩ := h.1 x hx
 refine ⟨_, _, rfl, ?_⟩
 have : eqAV (.agg [.ints .u8 20 a, .ints .u64 4 k]) (.agg [.ints .u8 20 b, .ints .u64 4 k']) = some ((a == b) && ((k == k') && true)) := rfl
 rw [this]
 congr 1
 show ((a == b) && ((k == k') && true)) = decide (some (b, k') = some (a, k))
 rw [Bool.eq_iff_iff]; simp only [Bool.and_true, Bool.and_eq_true, beq_iff_eq, decide_eq_true_eq, Option.some.injEq, Prod.mk.injEq]
 exact ⟨fun h => ⟨h.1.symm, h.2.symm⟩, fun h => ⟨h.1.symm, h.2.symm⟩⟩
theorem AccT.put {l : List AV} (h : AccT l) (a : List Int) (n : Int) (w : List Int) (s : ByteArray) : ∃ l', mputL (.ints .u8 20 a) (.agg [.int .u64 n, .ints .u64 4 w, .str s]) l = some l' ∧ AccT l' := by
 rcases find_tot accK a (.ints .u8 20 a) l (h.key a) with ⟨i, hi, e, _⟩ | ⟨e, _⟩
 ·refine ⟨_, by simp only [mputL, e]; rfl, fun x hx => ?_⟩
  rcases List.mem_or_eq_of_mem_set hx with hx | rfl
  ·exact h x hx
  ·exact ⟨_, _, _, _, rfl⟩
 ·refine ⟨_, by simp only [mputL, e]; rfl, fun x hx => ?_⟩
  rcases List.mem_append.1 hx with hx | hx
  ·exact h x hx
  ·obtain rfl := List.mem_singleton.1 hx
   exact ⟨_, _, _, _, rfl⟩
theorem AccT.del {l : List AV} (h : AccT l) (a : List Int) : ∃ l', mdelL (.ints .u8 20 a) l = some l' ∧ AccT l' := by
 rcases find_tot accK a (.ints .u8 20 a) l (h.key a) with ⟨i, hi, e, _⟩ | ⟨e, _⟩
 ·exact ⟨_, by simp only [mdelL, e]; rfl, fun x hx => h x ((List.eraseIdx_sublist ..).subset hx)⟩
 ·exact ⟨_, by simp only [mdelL, e], h⟩
theorem SlT.put {l : List AV} (h : SlT l) (a k v : List Int) : ∃ l', mputL (.agg [.ints .u8 20 a, .ints .u64 4 k]) (.ints .u64 4 v) l = some l' ∧ SlT l' := by
 rcases find_tot dfDec (some (a, k)) (.agg [.ints .u8 20 a, .ints .u64 4 k]) l (h.key a k) with ⟨i, hi, e, hf⟩ | ⟨e, hf⟩
 ·refine ⟨_, by simp only [mputL, e]; rfl, fun x hx => ?_, ?_⟩
  ·rcases List.mem_or_eq_of_mem_set hx with hx | rfl
   ·exact h.1 x hx
   ·exact ⟨_, _, _, rfl⟩
  ·have : (l.set i (.agg [.agg [.ints .u8 20 a, .ints .u64 4 k], .ints .u64 4 v])).map dfDec = l.map dfDec := by
    rw [List.map_set]
    have : dfDec (.agg [.agg [.ints .u8 20 a, .ints .u64 4 k], .ints .u64 4 v]) = (l.map dfDec)[i]'(by simpa using hi) := by
     rw [List.getElem_map]; exact hf.symm
    rw [this]
    exact List.set_getElem_self (by simpa using hi)
   rw [this]
   exact h.2
 ·refine ⟨_, by simp only [mputL, e]; rfl, fun x hx => ?_, ?_⟩
  ·rcases List.mem_append.1 hx with hx | hx
   ·exact h.1 x hx
   ·obtain rfl := List.mem_singleton.1 hx
    exact ⟨_, _, _, rfl⟩
  ·rw [List.map_append, List.nodup_append]
   refine ⟨h.2, by simp, fun x hx y hy => ?_⟩
   obtain ⟨z, hz, rfl⟩ := List.mem_map.1 hx
   obtain rfl := List.mem_singleton.1 hy
   exact hf z hz
theorem SlT.ok {l : List AV} (h : SlT l) : dfOk l = true := by
 unfold dfOk
 simp only [Bool.and_eq_true, List.all_eq_true, decide_eq_true_eq]
 refine ⟨fun x hx => ?_, h.2⟩
 obtain ⟨a, k, v, rfl⟩ := h.1 x hx
 rfl
theorem SlT.filter {l : List AV} (h : SlT l) (p : AV → Bool) : SlT (l.filter p) :=
 ⟨fun x hx => h.1 x (List.mem_filter.1 hx).1, h.2.sublist (List.filter_sublist.map _)⟩
def KvT (v : AV) : Prop := ∃ k w, v = .agg [.ints .u64 4 k, .ints .u64 4 w]
def mkEn (a : List Int) (n : Int) (w : List Int) (c : List Int) (s : List AV) : AV := .agg [.ints .u8 20 a, .agg [.int .u64 n, .ints .u64 4 w, .rints .u8 c, .robjs 77 8 s]]
def EnT (v : AV) : Prop := ∃ a n w c s, v = mkEn a n w c s ∧ (∀ x ∈ s, KvT x) ∧ s.length ≤ 140737488351232 ∧ c.length ≤ 140737488351232
def EnL (v : AV) : Prop := ∃ a n w c s, v = mkEn a n w c s ∧ (∀ x ∈ s, KvT x) ∧ s.length ≤ 300 ∧ c.length ≤ 5000
theorem td16 {a : Nat} (b : Int) (hb : 0 < b) (h : a ≤ 140737488351232) : 0 ≤ Int.tdiv (a : Int) b ∧ Int.tdiv (a : Int) b ≤ 140737488351232 ∧ (a : Int) < b * (Int.tdiv (a : Int) b + 1) := by
 rw [Int.tdiv_eq_ediv_of_nonneg (by omega)]
 refine ⟨Int.ediv_nonneg (by omega) (by omega), Int.le_trans (Int.ediv_le_self _ (by omega)) (by omega), ?_⟩
 have h1 := Int.emod_lt_of_pos (a : Int) hb
 have h2 := Int.mul_ediv_add_emod (a : Int) b
 rw [Int.mul_add, Int.mul_one]
 omega
theorem ents_loop {α : Type} (mk : Int → α) (n : Nat) (x1 : List AV) (hx : ∀ x ∈ x1, EnT x) : ∀ (m j : Nat) (x2 : Int), 0 ≤ x2 → x2 ≤ 300000000000000 → j ≤ x1.length → j ≤ 301 → (j : Int) ≤ x2 → 302 - x2 ≤ m → 1 ≤ m →
  ∃ r, Fav.l3_0.g mk n m (j : Int) x1 x2 300 = some (mk r) ∧ (r ≤ 300 → x2 + (x1.length - j : Nat) ≤ r ∧ ∀ x ∈ x1.drop j, EnL x)
 | 0, j, x2, _, _, _, _, _, _, h => by omega
 | m + 1, j, x2, h0, h1, hj, hj3, hjx, hm, _ => by
  by_cases hlt : j < x1.length
  ·by_cases hx2 : x2 ≤ 300
   ·obtain ⟨a, nn, w, c, s, hv, hs, hsl, hcl⟩ := hx x1[j] (List.getElem_mem hlt)
    have t := td16 16 (by decide) hcl
    obtain ⟨r, ih, hr⟩ := ents_loop mk n x1 hx m (j + 1) (x2 + (1 + Int.tdiv (c.length : Int) 16 + (s.length : Int))) (by omega) (by omega) (by omega) (by omega) (by omega) (by omega) (by omega)
    rw [← next_at (j := j) (by omega)] at ih
    refine ⟨r, ?_, fun hr3 => ?_⟩
    ·refine iT (by simp; omega) (iT (by simp; omega) (iT (by omega) (iT (by omega) ?_)))
     rw [at_nat hlt, hv]
     refine bO rfl (bO rfl (bO rfl (bO rfl (bO rfl (bO rfl (bO rfl ?_))))))
     refine iT (by omega) (iT (by omega) ?_)
     refine bO rfl (bO rfl (bO rfl (bO rfl (bO rfl (bO rfl (bO rfl ?_))))))
     have hw : IntKind.wrap .i64 (x2 + IntKind.wrap .i64 (IntKind.wrap .i64 (1 + IntKind.wrap .i64 (Int.tdiv (c.length : Int) 16)) + ((s.length : Nat) : Int))) = x2 + (1 + Int.tdiv (c.length : Int) 16 + (s.length : Int)) := by
      rw [wi64_id (n := Int.tdiv (c.length : Int) 16) (by omega) (by omega), wi64_id (n := 1 + Int.tdiv (c.length : Int) 16) (by omega) (by omega), wi64_id (n := 1 + Int.tdiv (c.length : Int) 16 + (s.length : Int)) (by omega) (by omega), wi64_id (by omega) (by omega)]
     show Fav.l3_0.g mk n m _ x1 (IntKind.wrap .i64 (x2 + IntKind.wrap .i64 (IntKind.wrap .i64 (1 + IntKind.wrap .i64 (Int.tdiv (c.length : Int) 16)) + ((s.length : Nat) : Int)))) 300 = _
     rw [hw]
     exact ih
    ·obtain ⟨r1, r2⟩ := hr hr3
     refine ⟨by omega, fun x hxd => ?_⟩
     rw [List.drop_eq_getElem_cons hlt] at hxd
     rcases List.mem_cons.1 hxd with rfl | hxd
     ·exact ⟨a, nn, w, c, s, hv, hs, by omega, by omega⟩
     ·exact r2 x hxd
   ·exact ⟨x2, iT (by simp; omega) (iF (by simp; omega) rfl), fun h => by omega⟩
  ·refine ⟨x2, iF (by simp; omega) rfl, fun h => ⟨by omega, fun x hxd => ?_⟩⟩
   rw [List.drop_of_length_le (by omega)] at hxd
   simp at hxd
def EvH (v : AV) : Prop := ∃ op dp se ar va da fa, v = mkEv op dp se ar va da fa ∧ W4 ar ∧ W4 va ∧ da.length ≤ 140737488351232
theorem EvH.t {v : AV} : EvH v → EvT v := fun ⟨op, dp, se, ar, va, da, fa, h, h1, h2, _⟩ => ⟨op, dp, se, ar, va, da, fa, h, h1, h2⟩
theorem evs_loop {α : Type} (mk : Int → α) (n : Nat) (x1 : List AV) (hx : ∀ x ∈ x1, EvH x) : ∀ (m j : Nat) (x2 : Int), 0 ≤ x2 → x2 ≤ 300000000000000 → j ≤ x1.length → j ≤ 301 → (j : Int) ≤ x2 → 302 - x2 ≤ m → 1 ≤ m →
  ∃ r, Fbc.l3_0.g mk n m (j : Int) x1 x2 300 = some (mk r) ∧ (r ≤ 300 → x2 + (x1.length - j : Nat) ≤ r)
 | 0, j, x2, _, _, _, _, _, _, h => by omega
 | m + 1, j, x2, h0, h1, hj, hj3, hjx, hm, _ => by
  by_cases hlt : j < x1.length
  ·by_cases hx2 : x2 ≤ 300
   ·obtain ⟨op, dp, se, ar, va, da, fa, hv, _, _, hdl⟩ := hx x1[j] (List.getElem_mem hlt)
    have t := td16 32 (by decide) hdl
    obtain ⟨r, ih, hr⟩ := evs_loop mk n x1 hx m (j + 1) (x2 + (1 + Int.tdiv (da.length : Int) 32)) (by omega) (by omega) (by omega) (by omega) (by omega) (by omega) (by omega)
    rw [← next_at (j := j) (by omega)] at ih
    refine ⟨r, ?_, fun hr3 => by have := hr hr3; omega⟩
    refine iT (by simp; omega) (iT (by simp; omega) (iT (by omega) (iT (by omega) ?_)))
    rw [at_nat hlt, hv]
    refine bO rfl (bO rfl (bO rfl (bO rfl (bO rfl (bO rfl (bO rfl (bO rfl ?_)))))))
    have hw : IntKind.wrap .i64 (x2 + IntKind.wrap .i64 (1 + IntKind.wrap .i64 (Int.tdiv (da.length : Int) 32))) = x2 + (1 + Int.tdiv (da.length : Int) 32) := by
     rw [wi64_id (n := Int.tdiv (da.length : Int) 32) (by omega) (by omega), wi64_id (n := 1 + Int.tdiv (da.length : Int) 32) (by omega) (by omega), wi64_id (by omega) (by omega)]
    show Fbc.l3_0.g mk n m _ x1 (IntKind.wrap .i64 (x2 + IntKind.wrap .i64 (1 + IntKind.wrap .i64 (Int.tdiv (da.length : Int) 32)))) 300 = _
    rw [hw]
    exact ih
   ·exact ⟨x2, iT (by simp; omega) (iF (by simp; omega) rfl), fun h => by omega⟩
  ·exact ⟨x2, iF (by simp; omega) rfl, fun h => by omega⟩
theorem heavy_tot {n : Nat} (hn : 302 ≤ n) {e a : List AV} (he : ∀ x ∈ e, EnT x) (ha : ∀ x ∈ a, EvH x) : Fbj.m n (e, a) = some true ∨ (Fbj.m n (e, a) = some false ∧ (∀ x ∈ e, EnL x) ∧ e.length ≤ 300 ∧ a.length ≤ 300) := by
 obtain ⟨r, h1, k1⟩ := ents_loop (fun a0 => a0) n e he n 0 0 (by omega) (by omega) (by omega) (by omega) (by omega) (by omega) (by omega)
 have h1' : Fav.m n (e, 300) = some r := bO h1 rfl
 obtain ⟨s, h2, k2⟩ := evs_loop (fun a0 => a0) n a ha n 0 0 (by omega) (by omega) (by omega) (by omega) (by omega) (by omega) (by omega)
 have h2' : Fbc.m n (a, 300) = some s := bO h2 rfl
 by_cases hr : r > 300
 ·exact .inl (bO h1' (iT (by simp; omega) rfl))
 ·by_cases hs : s > 300
  ·refine .inl (bO h1' (iF (by simp; omega) (bO h2' ?_)))
   rw [decide_eq_true hs]
  ·refine .inr ⟨bO h1' (iF (by simp; omega) (bO h2' ?_)), ?_, ?_, ?_⟩
   ·rw [decide_eq_false hs]
   ·have := (k1 (by omega)).2; simpa using this
   ·have := (k1 (by omega)).1; omega
   ·have := k2 (by omega); omega
end Go.Abs.Pure
end
section
set_option linter.unusedVariables false
namespace Go.Abs.Pure
open Go Go.Abs
theorem W4.mk {a b c d : Int} (ha : 0 ≤ a ∧ a < 18446744073709551616) (hb : 0 ≤ b ∧ b < 18446744073709551616) (hc : 0 ≤ c ∧ c < 18446744073709551616) (hd : 0 ≤ d ∧ d < 18446744073709551616) : W4 [a, b, c, d] :=
 ⟨rfl, by simp; exact ⟨ha, hb, hc, hd⟩⟩
def V : List Int → Int
 | [a, b, c, d] => a + b * 18446744073709551616 + c * 340282366920938463463374607431768211456 + d * 6277101735386680763835789423207666416102355444464034512896
 | _ => 0
def B : Int := 115792089237316195423570985008687907853269984665640564039457584007913129639936
def ofV (x : Int) : List Int := [x % 18446744073709551616, x / 18446744073709551616 % 18446744073709551616, x / 340282366920938463463374607431768211456 % 18446744073709551616, x / 6277101735386680763835789423207666416102355444464034512896 % 18446744073709551616]
theorem ofV_W4 (x : Int) : W4 (ofV x) := .mk (by omega) (by omega) (by omega) (by omega)
theorem V_ofV (x : Int) : V (ofV x) = x % B := by simp only [V, ofV, B]; omega
theorem V_range {l : List Int} (h : W4 l) : 0 ≤ V l ∧ V l < B := by
 obtain ⟨a, b, c, d, rfl, ha, hb, hc, hd⟩ := h.split
 simp only [V, B]; omega
theorem eq_ofV {l : List Int} (h : W4 l) {x : Int} (hx : V l = x % B) : l = ofV x := by
 obtain ⟨a, b, c, d, rfl, ha, hb, hc, hd⟩ := h.split
 simp only [V, B] at hx
 simp only [ofV, List.cons.injEq, and_true]
 refine ⟨?_, ?_, ?_, ?_⟩ <;> omega
theorem digits {a b c d t : Int} (q : Int) (ha : 0 ≤ a ∧ a < 18446744073709551616) (hb : 0 ≤ b ∧ b < 18446744073709551616) (hc : 0 ≤ c ∧ c < 18446744073709551616) (hd : 0 ≤ d ∧ d < 18446744073709551616) (h : t = V [a, b, c, d] + B * q) : [a, b, c, d] = ofV t := by
 have r := V_range (.mk ha hb hc hd)
 refine eq_ofV (.mk ha hb hc hd) ?_
 rw [h, Int.add_mul_emod_self_left, Int.emod_eq_of_lt r.1 r.2]
theorem sum_parts {a b c d e f g h : Int} (ha : 0 ≤ a ∧ a < 18446744073709551616) (hb : 0 ≤ b ∧ b < 18446744073709551616) (hc : 0 ≤ c ∧ c < 18446744073709551616) (hd : 0 ≤ d ∧ d < 18446744073709551616) (he : 0 ≤ e ∧ e < 18446744073709551616) (hf : 0 ≤ f ∧ f < 18446744073709551616) (hg : 0 ≤ g ∧ g < 18446744073709551616) (hh : 0 ≤ h ∧ h < 18446744073709551616) :
  ∃ q0 q1 q2 q3 : Int, (a + e + 0) / 18446744073709551616 = q0 ∧ (b + f + q0) / 18446744073709551616 = q1 ∧ (c + g + q1) / 18446744073709551616 = q2 ∧ (d + h + q2) / 18446744073709551616 = q3 ∧ (0 ≤ q0 ∧ q0 ≤ 1) ∧ (0 ≤ q1 ∧ q1 ≤ 1) ∧ (0 ≤ q2 ∧ q2 ≤ 1) ∧ (0 ≤ q3 ∧ q3 ≤ 1) ∧
   [(a + e + 0) % 18446744073709551616, (b + f + q0) % 18446744073709551616, (c + g + q1) % 18446744073709551616, (d + h + q2) % 18446744073709551616] = ofV (V [a, b, c, d] + V [e, f, g, h]) ∧ (q3 = 1 ↔ B ≤ V [a, b, c, d] + V [e, f, g, h]) := by
 refine ⟨_, _, _, _, rfl, rfl, rfl, rfl, ?_⟩
 generalize h0 : (a + e + 0) / 18446744073709551616 = q0
 have k0 : 0 ≤ q0 ∧ q0 ≤ 1 := by omega
 generalize h1 : (b + f + q0) / 18446744073709551616 = q1
 have k1 : 0 ≤ q1 ∧ q1 ≤ 1 := by omega
 generalize h2 : (c + g + q1) / 18446744073709551616 = q2
 have k2 : 0 ≤ q2 ∧ q2 ≤ 1 := by omega
 generalize h3 : (d + h + q2) / 18446744073709551616 = q3
 have k3 : 0 ≤ q3 ∧ q3 ≤ 1 := by omega
 generalize e0 : (a + e + 0) % 18446744073709551616 = d0
 generalize e1 : (b + f + q0) % 18446744073709551616 = d1
 generalize e2 : (c + g + q1) % 18446744073709551616 = d2
 generalize e3 : (d + h + q2) % 18446744073709551616 = d3
 have f0 : a + e = d0 + 18446744073709551616 * q0 ∧ 0 ≤ d0 ∧ d0 < 18446744073709551616 := by omega
 have f1 : b + f + q0 = d1 + 18446744073709551616 * q1 ∧ 0 ≤ d1 ∧ d1 < 18446744073709551616 := by omega
 have f2 : c + g + q1 = d2 + 18446744073709551616 * q2 ∧ 0 ≤ d2 ∧ d2 < 18446744073709551616 := by omega
 have f3 : d + h + q2 = d3 + 18446744073709551616 * q3 ∧ 0 ≤ d3 ∧ d3 < 18446744073709551616 := by omega
 clear h0 h1 h2 h3 e0 e1 e2 e3
 have hs : V [a, b, c, d] + V [e, f, g, h] = V [d0, d1, d2, d3] + B * q3 := by
  simp only [V, B]; omega
 have hr := V_range (.mk f0.2 f1.2 f2.2 f3.2)
 refine ⟨k0, k1, k2, k3, digits q3 f0.2 f1.2 f2.2 f3.2 hs, ?_⟩
 rw [hs]
 generalize V [d0, d1, d2, d3] = v at *
 simp only [B] at *
 omega
theorem ofV_V {l : List Int} (h : W4 l) : ofV (V l) = l := by
 obtain ⟨h0, h1⟩ := V_range h
 exact (eq_ofV h (by rw [Int.emod_eq_of_lt h0 h1])).symm
theorem V_inj {a b : List Int} (ha : W4 a) (hb : W4 b) (h : V a = V b) : a = b := by rw [← ofV_V ha, ← ofV_V hb, h]
theorem beq_V {a b : List Int} (ha : W4 a) (hb : W4 b) : (a == b) = decide (V a = V b) := by
 by_cases h : a = b
 ·subst h; simp
 ·have : V a ≠ V b := fun e => h (V_inj ha hb e)
  simp [h, this]
theorem xSub64_some {x y c : Int} (hx : 0 ≤ x) (hy : 0 ≤ y) (hy1 : y < 18446744073709551616) (hc : 0 ≤ c) (hc1 : c ≤ 1) : xSub64 (x, y, c) = some ((x - y - c) % 18446744073709551616, if x < y + c then 1 else 0) := by
 simp [xSub64, hx, hy, hy1, hc, hc1]
end Go.Abs.Pure
set_option linter.unusedVariables false
set_option linter.unusedSimpArgs false
namespace Go.Abs.Pure
open Go Go.Abs
def val (b : Int) : List Int → Int
 | [] => 0
 | x :: r => x + b * val b r
def Dig (b : Int) (l : List Int) : Prop := ∀ x ∈ l, 0 ≤ x ∧ x < b
theorem Dig.getD {b : Int} {l : List Int} (h : Dig b l) {i : Nat} (hi : i < l.length) : 0 ≤ l.getD i 0 ∧ l.getD i 0 < b := by
 rw [List.getD_eq_getElem?_getD, List.getElem?_eq_getElem hi]
 exact h _ (List.getElem_mem hi)
theorem Dig.set {b : Int} {l : List Int} (h : Dig b l) {i : Nat} {d : Int} (hd : 0 ≤ d ∧ d < b) : Dig b (l.set i d) := fun x hx => by
 rcases List.mem_or_eq_of_mem_set hx with h' | h'
 ·exact h x h'
 ·rw [h']; exact hd
theorem val_set {b : Int} : ∀ {l : List Int} {k : Nat} {d : Int}, k < l.length → val b (l.set k d) = val b l + (d - l.getD k 0) * b ^ k
 | x :: r, 0, d, _ => by simp only [List.set_cons_zero, val, List.getD_cons_zero]; grind
 | x :: r, k + 1, d, h => by
  have ih := val_set (b := b) (l := r) (k := k) (d := d) (by simpa using h)
  simp only [List.set_cons_succ, val, List.getD_cons_succ, ih]
  grind
theorem val_bound {b : Int} (hb : 0 < b) : ∀ {l : List Int}, Dig b l → 0 ≤ val b l ∧ val b l < b ^ l.length
 | [], _ => by simp [val]
 | x :: r, h => by
  have ih := val_bound hb (l := r) fun y hy => h y (by simp [hy])
  have hx := h x (by simp)
  have h1 : val b r + 1 ≤ b ^ r.length := by omega
  have h2 := Int.mul_le_mul_of_nonneg_left h1 (Int.le_of_lt hb)
  have h3 := Int.mul_nonneg (Int.le_of_lt hb) ih.1
  simp only [val, List.length_cons, Int.pow_succ]
  rw [Int.mul_comm (b ^ r.length) b]
  rw [Int.mul_add, Int.mul_one] at h2
  omega
theorem V_val {l : List Int} (h : l.length = 4) : V l = val 18446744073709551616 l := by
 match l, h with
 | [a, b, c, d], _ => simp only [V, val]; omega
theorem W4.dig {l : List Int} (h : W4 l) : Dig 18446744073709551616 l := h.2
theorem or_zero {a b : Int} (ha : 0 ≤ a) (ka : a < 18446744073709551616) (hb : 0 ≤ b) (kb : b < 18446744073709551616) : (0 ≤ ibits .or .u64 a b ∧ ibits .or .u64 a b < 18446744073709551616) ∧ (ibits .or .u64 a b = 0 ↔ a = 0 ∧ b = 0) := by
 rw [or_u64 ha ka hb kb]
 have h1 := Nat.or_lt_two_pow (x := a.toNat) (y := b.toNat) (n := 64) (by omega) (by omega)
 refine ⟨by omega, ?_⟩
 have h2 : a.toNat ||| b.toNat = 0 ↔ a.toNat = 0 ∧ b.toNat = 0 := Nat.or_eq_zero_iff
 omega
end Go.Abs.Pure
set_option linter.unusedVariables false
set_option linter.unusedSimpArgs false
namespace Go.Abs.Pure
open Go Go.Abs
theorem pow_pos' (k : Nat) : (0 : Int) < 2 ^ k := Int.pow_pos (by omega)
theorem pow_split {i k : Nat} (h : i ≤ k) : (2 : Int) ^ k = 2 ^ i * 2 ^ (k - i) := by rw [← Int.pow_add]; congr 1; omega
theorem div_pow (x : Int) (i j : Nat) : x / 2 ^ (i + j) = x / 2 ^ i / 2 ^ j := by rw [Int.pow_add, Int.ediv_ediv_of_nonneg (Int.le_of_lt (pow_pos' i))]
theorem bit_add_mul (x v : Int) {i k : Nat} (h : i < k) : (x + 2 ^ k * v) / 2 ^ i % 2 = x / 2 ^ i % 2 := by
 obtain ⟨d, rfl⟩ : ∃ d, k = i + (d + 1) := ⟨k - i - 1, by omega⟩
 rw [Int.pow_add, Int.mul_assoc, Int.add_mul_ediv_left _ _ (Int.ne_of_gt (pow_pos' i)), Int.pow_succ, show (2 : Int) ^ d * 2 * v = 2 * (2 ^ d * v) by rw [Int.mul_comm (2 ^ d) 2, Int.mul_assoc], Int.add_mul_emod_self_left]
theorem val_bit : ∀ {l : List Int} (h : Dig 18446744073709551616 l) {i : Nat} (hi : i / 64 < l.length), l.getD (i / 64) 0 / 2 ^ (i % 64) % 2 = val 18446744073709551616 l / 2 ^ i % 2
 | x :: r, h, i, hi => by
  have hx := h x (by simp)
  by_cases hlt : i < 64
  ·rw [show i / 64 = 0 by omega, show i % 64 = i by omega]
   simp only [List.getD_cons_zero, val]
   rw [show (18446744073709551616 : Int) = 2 ^ 64 from rfl, bit_add_mul x _ hlt]
  ·obtain ⟨j, rfl⟩ : ∃ j, i = 64 + j := ⟨i - 64, by omega⟩
   have ih := val_bit (l := r) (fun y hy => h y (by simp [hy])) (i := j) (by simp at hi; omega)
   rw [show (64 + j) / 64 = j / 64 + 1 by omega, show (64 + j) % 64 = j % 64 by omega]
   simp only [List.getD_cons_succ, val]
   rw [ih, div_pow, show (2 : Int) ^ 64 = 18446744073709551616 from rfl, Int.add_mul_ediv_left _ _ (by omega), show x / 18446744073709551616 = 0 by omega, Int.zero_add]
theorem V_bit {l : List Int} (h : W4 l) {i : Nat} (hi : i < 256) : l.getD (i / 64) 0 / 2 ^ (i % 64) % 2 = V l / 2 ^ i % 2 := by
 rw [V_val h.1]
 exact val_bit h.dig (by rw [h.1]; omega)
theorem nat_or_bit {a k : Nat} (h : a / 2 ^ k % 2 = 0) : a ||| 2 ^ k = a + 2 ^ k := by
 have hw : a % 2 ^ k < 2 ^ k := Nat.mod_lt _ (Nat.pow_pos (by omega))
 have e1 : a = (a / 2 ^ (k + 1)) <<< (k + 1) + a % 2 ^ k := by
  rw [Nat.shiftLeft_eq, Nat.pow_succ, ← Nat.div_div_eq_div_mul]
  have := Nat.div_add_mod a (2 ^ k)
  have h2 := Nat.div_add_mod (a / 2 ^ k) 2
  rw [h, Nat.add_zero] at h2
  rw [← h2] at this
  conv => lhs; rw [← this]
  rw [← Nat.mul_assoc, Nat.mul_comm]
 generalize a / 2 ^ (k + 1) = u at *
 generalize a % 2 ^ k = w at *
 have h3 : 2 ^ k ||| w = 2 ^ k + w := by
  have := Nat.shiftLeft_add_eq_or_of_lt hw 1
  rw [Nat.shiftLeft_eq, Nat.one_mul] at this
  exact this.symm
 have h4 : 2 ^ k + w < 2 ^ (k + 1) := by rw [Nat.pow_succ]; omega
 rw [e1, Nat.shiftLeft_add_eq_or_of_lt (by omega), Nat.or_assoc, Nat.or_comm w, h3, ← Nat.shiftLeft_add_eq_or_of_lt h4]
 rw [← Nat.shiftLeft_add_eq_or_of_lt (by omega)]
 omega
theorem or_bit {a : Int} {k : Nat} (ha : 0 ≤ a ∧ a < 18446744073709551616) (hk : k < 64) (h : a / 2 ^ k % 2 = 0) : ibits .or .u64 a (2 ^ k) = a + 2 ^ k := by
 have hp : (2 : Int) ^ k < 18446744073709551616 := by
  have : (2 : Nat) ^ k < 2 ^ 64 := Nat.pow_lt_pow_right (by omega) hk
  have h2 : ((2 ^ k : Nat) : Int) < ((2 ^ 64 : Nat) : Int) := by omega
  rw [Int.natCast_pow] at h2
  exact h2
 obtain ⟨n, rfl⟩ := Int.eq_ofNat_of_zero_le ha.1
 rw [or_u64 (by omega) ha.2 (Int.le_of_lt (pow_pos' k)) hp]
 have e : Int.toNat ((2 : Int) ^ k) = 2 ^ k := by
  have : ((2 : Int) ^ k) = ((2 ^ k : Nat) : Int) := by rw [Int.natCast_pow]; rfl
  rw [this, Int.toNat_natCast]
 have h' : n / 2 ^ k % 2 = 0 := by
  have : ((n / 2 ^ k % 2 : Nat) : Int) = 0 := by rw [Int.natCast_emod, Int.natCast_ediv, Int.natCast_pow]; exact h
  omega
 rw [e, Int.toNat_natCast, nat_or_bit h']
 rw [Int.natCast_add, Int.natCast_pow]; rfl
theorem shl_one {k : Nat} (hk : k < 64) : ishl .u64 1 (k : Int) = 2 ^ k := by
 rw [ishl_ofNat .u64 1 k (by simp [IntKind.bits]; omega), wu64, Int.one_mul]
 have : (2 : Nat) ^ k < 2 ^ 64 := Nat.pow_lt_pow_right (by omega) hk
 have h2 : ((2 ^ k : Nat) : Int) < ((2 ^ 64 : Nat) : Int) := by omega
 rw [Int.natCast_pow] at h2
 exact Int.emod_eq_of_lt (Int.le_of_lt (pow_pos' k)) h2
theorem get_bit {x : Int} (hx : 0 ≤ x ∧ x < 18446744073709551616) {k : Nat} (hk : k < 64) : ibits .and .u64 (ishr .u64 x (k : Int)) 1 = x / 2 ^ k % 2 := by
 rw [ishr_ofNat .u64 x k (by simp [IntKind.bits]; omega)]
 have h1 : 0 ≤ x / 2 ^ k := Int.ediv_nonneg hx.1 (Int.le_of_lt (pow_pos' k))
 have h2 : x / 2 ^ k ≤ x := Int.ediv_le_self _ hx.1
 have := and_mask h1 (by omega) 1 (by omega)
 simpa using this
end Go.Abs.Pure
set_option linter.unusedVariables false
set_option linter.unusedSimpArgs false
namespace Go.Abs.Pure
open Go Go.Abs
theorem word_Sub_ok {n : Nat} (hn : 100 ≤ n) {x y : List Int} (hx : W4 x) (hy : W4 y) : Fbr.m n (x, y) = some (ofV (V x - V y), decide (V x < V y)) := by
 obtain ⟨a, b, c, d, rfl, ha, hb, hc, hd⟩ := hx.split
 obtain ⟨e, f, g, h, rfl, he, hf, hg, hh⟩ := hy.split
 obtain ⟨k, rfl⟩ : ∃ k, n = k + 5 := ⟨n - 5, by omega⟩
 have bit : ∀ p : Prop, [Decidable p] → 0 ≤ (if p then (1 : Int) else 0) ∧ (if p then (1 : Int) else 0) ≤ 1 := fun p _ => by split <;> omega
 simp only [Fbr.m, Fbr.g, Fbr.l4_0.m]
 rw [word_Sub_unroll, xSub64_some ha.1 he.1 he.2 (by omega) (by omega)]
 simp only [bindO, Option.bind_some]
 rw [xSub64_some hb.1 hf.1 hf.2 (bit _).1 (bit _).2]
 simp only [Option.bind_some]
 rw [xSub64_some hc.1 hg.1 hg.2 (bit _).1 (bit _).2]
 simp only [Option.bind_some]
 rw [xSub64_some hd.1 hh.1 hh.2 (bit _).1 (bit _).2]
 simp only [Option.bind_some]
 generalize hc0 : (if a < e + 0 then (1 : Int) else 0) = c0
 have k0 : (0 ≤ c0 ∧ c0 ≤ 1) ∧ 0 ≤ a - e + 18446744073709551616 * c0 ∧ a - e + 18446744073709551616 * c0 < 18446744073709551616 := by subst hc0; split <;> omega
 generalize hc1 : (if b < f + c0 then (1 : Int) else 0) = c1
 have k1 : (0 ≤ c1 ∧ c1 ≤ 1) ∧ 0 ≤ b - f - c0 + 18446744073709551616 * c1 ∧ b - f - c0 + 18446744073709551616 * c1 < 18446744073709551616 := by subst hc1; split <;> omega
 generalize hc2 : (if c < g + c1 then (1 : Int) else 0) = c2
 have k2 : (0 ≤ c2 ∧ c2 ≤ 1) ∧ 0 ≤ c - g - c1 + 18446744073709551616 * c2 ∧ c - g - c1 + 18446744073709551616 * c2 < 18446744073709551616 := by subst hc2; split <;> omega
 generalize hc3 : (if d < h + c2 then (1 : Int) else 0) = c3
 have k3 : (0 ≤ c3 ∧ c3 ≤ 1) ∧ 0 ≤ d - h - c2 + 18446744073709551616 * c3 ∧ d - h - c2 + 18446744073709551616 * c3 < 18446744073709551616 := by subst hc3; split <;> omega
 clear hc0 hc1 hc2 hc3 bit
 have e0 : (a - e - 0) % 18446744073709551616 = a - e + 18446744073709551616 * c0 := by omega
 have e1 : (b - f - c0) % 18446744073709551616 = b - f - c0 + 18446744073709551616 * c1 := by omega
 have e2 : (c - g - c1) % 18446744073709551616 = c - g - c1 + 18446744073709551616 * c2 := by omega
 have e3 : (d - h - c2) % 18446744073709551616 = d - h - c2 + 18446744073709551616 * c3 := by omega
 rw [e0, e1, e2, e3]
 have hs : V [a, b, c, d] - V [e, f, g, h] = V [a - e + 18446744073709551616 * c0, b - f - c0 + 18446744073709551616 * c1, c - g - c1 + 18446744073709551616 * c2, d - h - c2 + 18446744073709551616 * c3] + B * (- c3) := by
  simp only [V, B]; omega
 have hr := V_range (.mk k0.2 k1.2 k2.2 k3.2)
 rw [digits (- c3) k0.2 k1.2 k2.2 k3.2 hs]
 have : (c3 != 0) = decide (V [a, b, c, d] < V [e, f, g, h]) := by
  rw [Bool.eq_iff_iff]
  simp only [bne_iff_ne, decide_eq_true_eq, ne_eq]
  generalize V [a, b, c, d] = v at *
  generalize V [e, f, g, h] = u at *
  generalize V [a - e + 18446744073709551616 * c0, b - f - c0 + 18446744073709551616 * c1, c - g - c1 + 18446744073709551616 * c2, d - h - c2 + 18446744073709551616 * c3] = z at *
  simp only [B] at *
  omega
 rw [this]
theorem q01_Add_step {α : Type} (mk0 : Int → List Int → List Int → α) (n : Nat) (rc : Int → Int → List Int → List Int → List Int → List Int → Option α) (i : Nat) (hi : i < 4) (c : Int) (hc : 0 ≤ c ∧ c ≤ 1) (x y o o' : List Int) (hx : 0 ≤ x.getD i 0 ∧ x.getD i 0 < 18446744073709551616) (hy : 0 ≤ y.getD i 0 ∧ y.getD i 0 < 18446744073709551616) :
  Fce.l4_0.r mk0 n rc (i : Int) c x y o o' = rc ((i + 1 : Nat) : Int) ((x.getD i 0 + y.getD i 0 + c) / 18446744073709551616) x y (o.set i ((x.getD i 0 + y.getD i 0 + c) % 18446744073709551616)) o' := by
 have h1 : (decide ((i : Int) < 4)) = true := by simp; omega
 have h2 : (0 : Int) ≤ (i : Int) := by omega
 have h3 : (i : Int) < 4 := by omega
 simp only [Fce.l4_0.r, h1, h2, h3, if_true, eq_self_iff_true, Int.toNat_natCast, wu64]
 generalize x.getD i 0 = p at *
 generalize y.getD i 0 = q at *
 rw [show IntKind.wrap .i64 ((i : Int) + 1) = ((i + 1 : Nat) : Int) by rw [wi64]; omega]
 have e : ((p + q) % 18446744073709551616 + c) % 18446744073709551616 = (p + q + c) % 18446744073709551616 := by omega
 rw [e]
 simp only [decide_eq_true_eq]
 by_cases g1 : (p + q) % 18446744073709551616 < p
 ·rw [show (p + q + c) / 18446744073709551616 = 1 by omega]
  simp only [g1, if_true, ite_self]
 ·by_cases g2 : (p + q + c) % 18446744073709551616 < (p + q) % 18446744073709551616
  ·rw [show (p + q + c) / 18446744073709551616 = 1 by omega]
   simp only [g1, g2, if_true, if_false]
  ·rw [show (p + q + c) / 18446744073709551616 = 0 by omega]
   simp only [g1, g2, if_false, if_true]
theorem q01_Add_ok {n : Nat} (hn : 100 ≤ n) {x y : List Int} (hx : W4 x) (hy : W4 y) : Fce.m n (x, y) = some (ofV (V x + V y), decide (B ≤ V x + V y)) := by
 obtain ⟨a, b, c, d, rfl, ha, hb, hc, hd⟩ := hx.split
 obtain ⟨e, f, g, h, rfl, he, hf, hg, hh⟩ := hy.split
 obtain ⟨q0, q1, q2, q3, h0, h1, h2, h3, k0, k1, k2, k3, hs, hq⟩ := sum_parts ha hb hc hd he hf hg hh
 obtain ⟨k, rfl⟩ : ∃ k, n = k + 5 := ⟨n - 5, by omega⟩
 have key : Fce.l4_0.g (fun a0 a1 a2 => (a0, a1, a2)) (k + 5) (k + 5) 0 0 [a, b, c, d] [e, f, g, h] [0, 0, 0, 0] [0, 0, 0, 0] = some (q3, [(a + e + 0) % 18446744073709551616, (b + f + q0) % 18446744073709551616, (c + g + q1) % 18446744073709551616, (d + h + q2) % 18446744073709551616], [0, 0, 0, 0]) := by
  refine (q01_Add_step _ _ _ 0 (by omega) 0 (by omega) [a, b, c, d] [e, f, g, h] _ _ ha he).trans ?_
  simp only [List.getD_cons_zero, List.getD_cons_succ, h0]
  refine (q01_Add_step _ _ _ 1 (by omega) _ k0 [a, b, c, d] [e, f, g, h] _ _ hb hf).trans ?_
  simp only [List.getD_cons_zero, List.getD_cons_succ, h1]
  refine (q01_Add_step _ _ _ 2 (by omega) _ k1 [a, b, c, d] [e, f, g, h] _ _ hc hg).trans ?_
  simp only [List.getD_cons_zero, List.getD_cons_succ, h2]
  refine (q01_Add_step _ _ _ 3 (by omega) _ k2 [a, b, c, d] [e, f, g, h] _ _ hd hh).trans ?_
  simp only [List.getD_cons_zero, List.getD_cons_succ, h3]
  rfl
 simp only [Fce.m, Fce.g, Fce.l4_0.m, key, bindO, Option.bind_some]
 rw [hs]
 have : (q3 == 1) = decide (B ≤ V [a, b, c, d] + V [e, f, g, h]) := by
  rw [Bool.eq_iff_iff]
  simp only [beq_iff_eq, decide_eq_true_eq]
  exact hq
 rw [this]
def cmpOf (x y : Int) : Int := if x < y then -1 else if x = y then 0 else 1
theorem q01_Cmp_unroll (k : Nat) (a b c d e f g h : Int) : Fcf.m (k + 6) ([a, b, c, d], [e, f, g, h]) =
  if (decide (d < h)) = true then some (-1) else if (decide (d > h)) = true then some 1 else
  if (decide (c < g)) = true then some (-1) else if (decide (c > g)) = true then some 1 else
  if (decide (b < f)) = true then some (-1) else if (decide (b > f)) = true then some 1 else
  if (decide (a < e)) = true then some (-1) else if (decide (a > e)) = true then some 1 else some 0 := by
 simp only [Fcf.m, Fcf.g, Fcf.l2_0.m]
 have u : ∀ (m : Nat) (i : Int) (x y : List Int), Fcf.l2_0.g (fun a0 => Sum.inl a0) (Sum.inr ()) (k + 6) (m + 1) i x y = Fcf.l2_0.r (fun a0 => Sum.inl a0) (Sum.inr ()) (k + 6) (fun y0 y1 y2 => Fcf.l2_0.g (fun a0 => Sum.inl a0) (Sum.inr ()) (k + 6) m y0 y1 y2) i x y := fun _ _ _ _ => rfl
 rw [u (k + 5)]
 simp only [Fcf.l2_0.r, show decide ((3 : Int) ≥ 0) = true from rfl, show (0 : Int) ≤ 3 by omega, show (3 : Int) < 4 by omega, if_true, eq_self_iff_true]
 rw [show IntKind.wrap .i64 (3 - 1) = 2 by rw [wi64]; rfl, u (k + 4)]
 simp only [Fcf.l2_0.r, show decide ((2 : Int) ≥ 0) = true from rfl, show (0 : Int) ≤ 2 by omega, show (2 : Int) < 4 by omega, if_true, eq_self_iff_true]
 rw [show IntKind.wrap .i64 (2 - 1) = 1 by rw [wi64]; rfl, u (k + 3)]
 simp only [Fcf.l2_0.r, show decide ((1 : Int) ≥ 0) = true from rfl, show (0 : Int) ≤ 1 by omega, show (1 : Int) < 4 by omega, if_true, eq_self_iff_true]
 rw [show IntKind.wrap .i64 (1 - 1) = 0 by rw [wi64]; rfl, u (k + 2)]
 simp only [Fcf.l2_0.r, show decide ((0 : Int) ≥ 0) = true from rfl, show (0 : Int) ≤ 0 by omega, show (0 : Int) < 4 by omega, if_true, eq_self_iff_true]
 rw [show IntKind.wrap .i64 (0 - 1) = -1 by rw [wi64]; rfl, u (k + 1)]
 simp only [Fcf.l2_0.r, show decide ((-1 : Int) ≥ 0) = false from rfl, Bool.false_eq_true, if_false]
 simp only [show Int.toNat 3 = 3 from rfl, show Int.toNat 2 = 2 from rfl, show Int.toNat 1 = 1 from rfl, show Int.toNat 0 = 0 from rfl, List.getD_cons_zero, List.getD_cons_succ]
 by_cases h1 : d < h
 ·simp [h1, bindO]
 ·by_cases h2 : d > h
  ·simp [h1, h2, bindO]
  ·simp only [h1, h2, decide_false, Bool.false_eq_true, if_false]
   by_cases h3 : c < g
   ·simp [h3, bindO]
   ·by_cases h4 : c > g
    ·simp [h3, h4, bindO]
    ·simp only [h3, h4, decide_false, Bool.false_eq_true, if_false]
     by_cases h5 : b < f
     ·simp [h5, bindO]
     ·by_cases h6 : b > f
      ·simp [h5, h6, bindO]
      ·simp only [h5, h6, decide_false, Bool.false_eq_true, if_false]
       by_cases h7 : a < e
       ·simp [h7, bindO]
       ·by_cases h8 : a > e
        ·simp [h7, h8, bindO]
        ·simp [h7, h8, bindO]
theorem q01_Cmp_ok {n : Nat} (hn : 100 ≤ n) {x y : List Int} (hx : W4 x) (hy : W4 y) : Fcf.m n (x, y) = some (cmpOf (V x) (V y)) := by
 obtain ⟨a, b, c, d, rfl, ha, hb, hc, hd⟩ := hx.split
 obtain ⟨e, f, g, h, rfl, he, hf, hg, hh⟩ := hy.split
 obtain ⟨k, rfl⟩ : ∃ k, n = k + 6 := ⟨n - 6, by omega⟩
 rw [q01_Cmp_unroll]
 simp only [decide_eq_true_eq]
 have lt : V [a, b, c, d] < V [e, f, g, h] → some (-1) = some (cmpOf (V [a, b, c, d]) (V [e, f, g, h])) := fun h => by rw [cmpOf, if_pos h]
 have gt : V [a, b, c, d] > V [e, f, g, h] → some 1 = some (cmpOf (V [a, b, c, d]) (V [e, f, g, h])) := fun h => by rw [cmpOf, if_neg (by omega), if_neg (by omega)]
 have eq : V [a, b, c, d] = V [e, f, g, h] → some 0 = some (cmpOf (V [a, b, c, d]) (V [e, f, g, h])) := fun h => by rw [cmpOf, if_neg (by omega), if_pos h]
 split
 ·exact lt (by simp only [V]; omega)
 split
 ·exact gt (by simp only [V]; omega)
 split
 ·exact lt (by simp only [V]; omega)
 split
 ·exact gt (by simp only [V]; omega)
 split
 ·exact lt (by simp only [V]; omega)
 split
 ·exact gt (by simp only [V]; omega)
 split
 ·exact lt (by simp only [V]; omega)
 split
 ·exact gt (by simp only [V]; omega)
 ·exact eq (by simp only [V]; omega)
end Go.Abs.Pure
set_option linter.unusedVariables false
set_option linter.unusedSimpArgs false
namespace Go.Abs.Pure
open Go Go.Abs
end Go.Abs.Pure
set_option linter.unusedVariables false
set_option linter.unusedSimpArgs false
namespace Go.Abs.Pure
open Go Go.Abs
end Go.Abs.Pure
set_option linter.unusedVariables false
set_option linter.unusedSimpArgs false
namespace Go.Abs.Pure
open Go Go.Abs
theorem word_Cmp_ok {n : Nat} (hn : 100 ≤ n) {x y : List Int} (hx : W4 x) (hy : W4 y) : Fbx.m n (x, y) = some (cmpOf (V x) (V y)) := by
 simp only [Fbx.m, Fbx.g, word_Sub_ok hn hx hy, bindO, Option.bind_some, beq_V hx hy, decide_eq_true_eq]
 unfold cmpOf
 split
 ·rfl
 split <;> rfl
end Go.Abs.Pure
set_option linter.unusedVariables false
set_option linter.unusedSimpArgs false
set_option maxRecDepth 20000
namespace Go.Abs.Pure
open Go Go.Abs
theorem B_pow : B = 2 ^ 256 := rfl
theorem zero_W4 : W4 [0, 0, 0, 0] := .mk (by omega) (by omega) (by omega) (by omega)
theorem V_zero : V [0, 0, 0, 0] = 0 := rfl
theorem q01_bit_ok {n : Nat} {a : List Int} (ha : W4 a) {i : Nat} (hi : i < 256) : Fch.m n (a, (i : Int)) = some (decide (V a / 2 ^ i % 2 = 1)) := by
 have w : IntKind.wrap .i64 (Int.tdiv (i : Int) 64) = ((i / 64 : Nat) : Int) := by rw [tdiv_nonneg' (by omega), wi64]; omega
 have w2 : IntKind.wrap .u64 (Int.tmod (i : Int) 64) = ((i % 64 : Nat) : Int) := by rw [tmod_nonneg' (by omega), wu64]; omega
 have g3 : (0 : Int) ≤ ((i / 64 : Nat) : Int) := by omega
 have g4 : ((i / 64 : Nat) : Int) < 4 := by omega
 have g5 : (0 : Int) ≤ ((i % 64 : Nat) : Int) := by omega
 simp only [Fch.m, Fch.g, w, w2, g3, g4, g5, if_true, Int.toNat_natCast]
 rw [get_bit (ha.dig.getD (by rw [ha.1]; omega)) (by omega), V_bit ha hi]
 congr 1
end Go.Abs.Pure
set_option linter.unusedVariables false
set_option linter.unusedSimpArgs false
set_option maxRecDepth 20000
namespace Go.Abs.Pure
open Go Go.Abs
end Go.Abs.Pure
set_option linter.unusedVariables false
set_option linter.unusedSimpArgs false
set_option maxRecDepth 20000
namespace Go.Abs.Pure
open Go Go.Abs
end Go.Abs.Pure
set_option linter.unusedVariables false
set_option linter.unusedSimpArgs false
set_option maxRecDepth 20000
namespace Go.Abs.Pure
open Go Go.Abs
theorem low_step (T : Int) (i : Nat) : T % 2 ^ (i + 1) = T % 2 ^ i + T / 2 ^ i % 2 * 2 ^ i := by
 have h1 := Int.mul_ediv_add_emod T (2 ^ i)
 have h2 := Int.mul_ediv_add_emod (T / 2 ^ i) 2
 have e : T = (T % 2 ^ i + T / 2 ^ i % 2 * 2 ^ i) + 2 ^ (i + 1) * (T / 2 ^ i / 2) := by
  rw [Int.pow_succ]
  generalize T % 2 ^ i = u at *
  generalize T / 2 ^ i % 2 = v at *
  generalize T / 2 ^ i / 2 = w at *
  generalize T / 2 ^ i = x at *
  generalize (2 : Int) ^ i = p at *
  grind
 have b1 := Int.emod_nonneg T (Int.ne_of_gt (pow_pos' i))
 have b2 := Int.emod_lt_of_pos T (pow_pos' i)
 have b3 : T / 2 ^ i % 2 = 0 ∨ T / 2 ^ i % 2 = 1 := by omega
 have b4 : 0 ≤ T % 2 ^ i + T / 2 ^ i % 2 * 2 ^ i ∧ T % 2 ^ i + T / 2 ^ i % 2 * 2 ^ i < 2 ^ (i + 1) := by
  rw [Int.pow_succ]
  rcases b3 with h | h <;> rw [h] <;> omega
 conv => lhs; rw [e]
 rw [Int.add_mul_emod_self_left, Int.emod_eq_of_lt b4.1 b4.2]
theorem bit_nat {a k : Nat} : a / 2 ^ k % 2 = if a.testBit k then 1 else 0 := by
 rw [Nat.testBit_eq_decide_div_mod_eq]
 have : a / 2 ^ k % 2 = 0 ∨ a / 2 ^ k % 2 = 1 := by omega
 rcases this with h | h <;> simp [h]
theorem andNot_nat {a k : Nat} (ha : a < 2 ^ 64) (hk : k < 64) (i : Nat) : (BitVec.ofNat 64 a &&& ~~~ BitVec.ofNat 64 (2 ^ k)).toNat.testBit i = (a.testBit i && !decide (k = i)) := by
 have hp : 2 ^ k < 2 ^ 64 := Nat.pow_lt_pow_right (by omega) hk
 rw [BitVec.toNat_and, BitVec.toNat_not, Nat.testBit_and, BitVec.toNat_ofNat, BitVec.toNat_ofNat, Nat.mod_eq_of_lt ha, Nat.mod_eq_of_lt hp, Nat.sub_sub, Nat.add_comm 1 (2 ^ k), Nat.testBit_two_pow_sub_succ hp, Nat.testBit_two_pow]
 by_cases hi : i < 64
 ·simp [hi]
 ·have : a.testBit i = false := Nat.testBit_lt_two_pow (Nat.lt_of_lt_of_le ha (Nat.pow_le_pow_right (by omega) (by omega)))
  simp [hi, this]
theorem andNot_bit {a : Int} {k : Nat} (ha : 0 ≤ a ∧ a < 18446744073709551616) (hk : k < 64) : ibits .andNot .u64 a (2 ^ k) = a - a / 2 ^ k % 2 * 2 ^ k := by
 obtain ⟨n, rfl⟩ := Int.eq_ofNat_of_zero_le ha.1
 have hp : 2 ^ k < 2 ^ 64 := Nat.pow_lt_pow_right (by omega) hk
 have hn : n < 2 ^ 64 := by omega
 have e1 : BitVec.ofInt 64 (n : Int) = BitVec.ofNat 64 n := BitVec.ofInt_natCast 64 n
 have e2 : BitVec.ofInt 64 ((2 : Int) ^ k) = BitVec.ofNat 64 (2 ^ k) := by
  rw [show ((2 : Int) ^ k) = ((2 ^ k : Nat) : Int) by rw [Int.natCast_pow]; rfl]
  exact BitVec.ofInt_natCast 64 _
 show IntKind.wrap .u64 ((BitVec.ofInt 64 (n : Int) &&& ~~~ BitVec.ofInt 64 ((2 : Int) ^ k)).toNat : Nat) = _
 rw [e1, e2]
 have hb := andNot_nat hn hk
 have hl := (BitVec.ofNat 64 n &&& ~~~ BitVec.ofNat 64 (2 ^ k)).isLt
 generalize (BitVec.ofNat 64 n &&& ~~~ BitVec.ofNat 64 (2 ^ k)).toNat = R at *
 rw [wu64, Int.emod_eq_of_lt (by omega) (by omega)]
 have hc : ((n : Int) / 2 ^ k % 2) = ((n / 2 ^ k % 2 : Nat) : Int) := by rw [Int.natCast_emod, Int.natCast_ediv, Int.natCast_pow]; rfl
 rw [hc, bit_nat]
 have hR : R / 2 ^ k % 2 = 0 := by rw [bit_nat, hb k]; simp
 by_cases ht : n.testBit k = true
 ·have : R ||| 2 ^ k = n := by
   apply Nat.eq_of_testBit_eq
   intro i
   rw [Nat.testBit_or, hb i, Nat.testBit_two_pow]
   by_cases hki : k = i
   ·subst hki; simp [ht]
   ·simp [hki]
  rw [nat_or_bit hR] at this
  rw [if_pos ht, ← this]
  rw [Int.natCast_add, Int.natCast_pow]
  simp
 ·have : R = n := by
   apply Nat.eq_of_testBit_eq
   intro i
   rw [hb i]
   by_cases hki : k = i
   ·subst hki; simp at ht; simp [ht]
   ·simp [hki]
  rw [if_neg ht, this]
  simp
theorem or_bit' {a : Int} {k : Nat} (ha : 0 ≤ a ∧ a < 18446744073709551616) (hk : k < 64) : ibits .or .u64 a (2 ^ k) = a + (1 - a / 2 ^ k % 2) * 2 ^ k := by
 by_cases h : a / 2 ^ k % 2 = 0
 ·rw [or_bit ha hk h, h]; omega
 ·have h1 : a / 2 ^ k % 2 = 1 := by omega
  rw [h1]
  have hp : (2 : Nat) ^ k < 2 ^ 64 := Nat.pow_lt_pow_right (by omega) hk
  have hpi : ((2 : Int) ^ k) = ((2 ^ k : Nat) : Int) := by rw [Int.natCast_pow]; rfl
  obtain ⟨n, rfl⟩ := Int.eq_ofNat_of_zero_le ha.1
  have hc : ((n : Int) / 2 ^ k % 2) = ((n / 2 ^ k % 2 : Nat) : Int) := by rw [Int.natCast_emod, Int.natCast_ediv, Int.natCast_pow]; rfl
  rw [hc, bit_nat] at h1
  have ht : n.testBit k = true := by
   by_cases ht : n.testBit k = true
   ·exact ht
   ·rw [if_neg ht] at h1; simp at h1
  have hp2 : ((2 ^ k : Nat) : Int) < 18446744073709551616 := Int.ofNat_lt.2 hp
  rw [hpi, or_u64 ha.1 ha.2 (Int.natCast_nonneg _) hp2, Int.toNat_natCast, Int.toNat_natCast]
  have : n ||| 2 ^ k = n := by
   apply Nat.eq_of_testBit_eq
   intro i
   rw [Nat.testBit_or, Nat.testBit_two_pow]
   by_cases hki : k = i
   ·subst hki; simp [ht]
   ·simp [hki]
  rw [this]; omega
theorem set_digit {q : List Int} (h : W4 q) {i : Nat} (hi : i < 256) {t : Int} (hd : 0 ≤ q.getD (i / 64) 0 + t * 2 ^ (i % 64) ∧ q.getD (i / 64) 0 + t * 2 ^ (i % 64) < 18446744073709551616) :
  W4 (q.set (i / 64) (q.getD (i / 64) 0 + t * 2 ^ (i % 64))) ∧ V (q.set (i / 64) (q.getD (i / 64) 0 + t * 2 ^ (i % 64))) = V q + t * 2 ^ i := by
 have hl := h.1
 have hw : W4 (q.set (i / 64) (q.getD (i / 64) 0 + t * 2 ^ (i % 64))) := ⟨by simp [hl], h.dig.set hd⟩
 refine ⟨hw, ?_⟩
 rw [V_val hw.1, V_val hl, val_set (by omega)]
 have : (2 : Int) ^ i = 2 ^ (i % 64) * 18446744073709551616 ^ (i / 64) := by
  rw [show (18446744073709551616 : Int) = 2 ^ 64 from rfl, ← Int.pow_mul, ← Int.pow_add]; congr 1; omega
 rw [this]
 generalize q.getD (i / 64) 0 = u
 generalize (2 : Int) ^ (i % 64) = p1
 generalize (18446744073709551616 : Int) ^ (i / 64) = p2
 grind
theorem pow_lt64 {k : Nat} (hk : k < 64) : (2 : Int) ^ k < 18446744073709551616 := by
 have : (2 : Nat) ^ k < 2 ^ 64 := Nat.pow_lt_pow_right (by omega) hk
 have h2 : ((2 ^ k : Nat) : Int) < ((2 ^ 64 : Nat) : Int) := by omega
 rw [Int.natCast_pow] at h2
 exact h2
def b2i (c : Bool) : Int := if c = true then 1 else 0
theorem q01_with_ok {n : Nat} {q : List Int} (h : W4 q) {i : Nat} (hi : i < 256) (c : Bool) : ∃ q', Fbs.m n (q, (i : Int), c) = some q' ∧ W4 q' ∧ V q' = V q + (b2i c - V q / 2 ^ i % 2) * 2 ^ i := by
 have w : IntKind.wrap .i64 (Int.tdiv (i : Int) 64) = ((i / 64 : Nat) : Int) := by rw [tdiv_nonneg' (by omega), wi64]; omega
 have w2 : IntKind.wrap .u64 (Int.tmod (i : Int) 64) = ((i % 64 : Nat) : Int) := by rw [tmod_nonneg' (by omega), wu64]; omega
 have g3 : (0 : Int) ≤ ((i / 64 : Nat) : Int) := by omega
 have g4 : ((i / 64 : Nat) : Int) < 4 := by omega
 have g5 : (0 : Int) ≤ ((i % 64 : Nat) : Int) := by omega
 have hl := h.1
 have hd := h.dig.getD (i := i / 64) (by omega)
 have hk : i % 64 < 64 := by omega
 have hbit := V_bit h hi
 simp only [Fbs.m, Fbs.g, w, w2, g3, g4, g5, if_true, Int.toNat_natCast, shl_one hk]
 cases c with
 | true =>
  rw [or_bit' hd hk]
  have hr := (or_zero hd.1 hd.2 (Int.le_of_lt (pow_pos' (i % 64))) (pow_lt64 hk)).1
  rw [or_bit' hd hk] at hr
  obtain ⟨h1, h2⟩ := set_digit h hi hr
  exact ⟨_, rfl, h1, by rw [h2, hbit]; rfl⟩
 | false =>
  rw [andNot_bit hd hk]
  have hr : 0 ≤ ibits .andNot .u64 (q.getD (i / 64) 0) (2 ^ (i % 64)) ∧ ibits .andNot .u64 (q.getD (i / 64) 0) (2 ^ (i % 64)) < 18446744073709551616 := by
   show 0 ≤ IntKind.wrap .u64 _ ∧ IntKind.wrap .u64 _ < _
   rw [wu64]
   omega
  rw [andNot_bit hd hk] at hr
  have e : q.getD (i / 64) 0 - q.getD (i / 64) 0 / 2 ^ (i % 64) % 2 * 2 ^ (i % 64) = q.getD (i / 64) 0 + (- (q.getD (i / 64) 0 / 2 ^ (i % 64) % 2)) * 2 ^ (i % 64) := by rw [Int.neg_mul]; omega
  rw [e] at hr ⊢
  obtain ⟨h1, h2⟩ := set_digit h hi hr
  refine ⟨_, rfl, h1, ?_⟩
  rw [h2, hbit]
  simp [b2i]
theorem shift_loop {n : Nat} {a : List Int} (ha : W4 a) (T : Int) (k : Int) (hk : -256 ≤ k ∧ k ≤ 256) (fill : Bool) (z : List Int)
  (hT1 : ∀ i : Nat, i < 256 → 0 ≤ (i : Int) - k → (i : Int) - k < 256 → T / 2 ^ i % 2 = V a / 2 ^ ((i : Int) - k).toNat % 2)
  (hT2 : ∀ i : Nat, i < 256 → ¬ (0 ≤ (i : Int) - k ∧ (i : Int) - k < 256) → T / 2 ^ i % 2 = b2i fill) :
  ∀ (r i fuel : Nat) (o : List Int), i + r = 256 → r + 1 ≤ fuel → W4 o → V o = T % 2 ^ i → Fbl.l3_0.g (fun a0 a1 => (a0, a1)) n fuel (i : Int) fill k a o z = some (ofV T, z)
 | 0, i, fuel + 1, o, hi, hf, ho, hv => by
  have : i = 256 := by omega
  subst this
  show Fbl.l3_0.r _ _ _ _ _ _ _ _ _ = _
  simp only [Fbl.l3_0.r, show decide (((256 : Nat) : Int) < 256) = false from rfl, Bool.false_eq_true, if_false]
  rw [eq_ofV ho (x := T) (by rw [hv, B_pow])]
 | r + 1, i, fuel + 1, o, hi, hf, ho, hv => by
  have g1 : (decide ((i : Int) < 256)) = true := by simp; omega
  have w1 : IntKind.wrap .i64 ((i : Int) + 1) = ((i + 1 : Nat) : Int) := by rw [wi64]; omega
  have w2 : IntKind.wrap .i64 ((i : Int) - k) = (i : Int) - k := by rw [wi64]; omega
  have next : ∀ c : Bool, T / 2 ^ i % 2 = b2i c → ((Fbs.m n (o, (i : Int), c)).bind fun r12 => Fbl.l3_0.g (fun a0 a1 => (a0, a1)) n fuel ((i + 1 : Nat) : Int) fill k a r12 z) = some (ofV T, z) := fun c hc => by
   obtain ⟨o', h1, h2, h3⟩ := q01_with_ok (n := n) ho (i := i) (by omega) c
   rw [h1]
   refine shift_loop ha T k hk fill z hT1 hT2 r (i + 1) fuel o' (by omega) (by omega) h2 ?_
   have hlt : V o < 2 ^ i := by rw [hv]; exact Int.emod_lt_of_pos _ (pow_pos' i)
   have h0 := (V_range ho).1
   have hz : V o / 2 ^ i = 0 := Int.ediv_eq_zero_of_lt h0 hlt
   rw [h3, hz, low_step, hc, hv]
   simp
  show Fbl.l3_0.r _ _ _ _ _ _ _ _ _ = _
  simp only [Fbl.l3_0.r, g1, w1, w2, if_true, bindO, decide_eq_true_eq]
  by_cases h1 : (i : Int) - k ≥ 0
  ·by_cases h2 : (i : Int) - k < 256
   ·have hb := q01_bit_ok (n := n) ha (i := ((i : Int) - k).toNat) (by omega)
    rw [show ((((i : Int) - k).toNat : Nat) : Int) = (i : Int) - k by omega] at hb
    simp only [h1, h2, if_true, hb, Option.bind_some]
    refine next _ ?_
    rw [hT1 i (by omega) h1 h2]
    unfold b2i
    split
    ·rename_i h; simpa using h
    ·rename_i h
     simp only [decide_eq_true_eq] at h
     omega
   ·simp only [h1, h2, if_true, if_false]
    exact next fill (hT2 i (by omega) (by omega))
  ·simp only [h1, if_false]
   exact next fill (hT2 i (by omega) (by omega))
theorem q01_shift_ok {n : Nat} (hn : 600 ≤ n) {a : List Int} (ha : W4 a) (T : Int) (k : Int) (hk : -256 ≤ k ∧ k ≤ 256) (fill : Bool)
  (hT1 : ∀ i : Nat, i < 256 → 0 ≤ (i : Int) - k → (i : Int) - k < 256 → T / 2 ^ i % 2 = V a / 2 ^ ((i : Int) - k).toNat % 2)
  (hT2 : ∀ i : Nat, i < 256 → ¬ (0 ≤ (i : Int) - k ∧ (i : Int) - k < 256) → T / 2 ^ i % 2 = b2i fill) : Fbl.m n (a, k, fill) = some (ofV T) := by
 have := shift_loop (n := n) ha T k hk fill [0, 0, 0, 0] hT1 hT2 256 0 n [0, 0, 0, 0] (by omega) (by omega) zero_W4 (by rw [V_zero]; simp)
 simp only [Fbl.m, Fbl.g, Fbl.l3_0.m]
 rw [show ((0 : Nat) : Int) = 0 from rfl] at this
 rw [this]
 rfl
def farV (a : List Int) : Nat := if V a ≤ 256 then (V a).toNat else 256
theorem farV_le (a : List Int) : farV a ≤ 256 := by unfold farV; split <;> omega
end Go.Abs.Pure
set_option linter.unusedVariables false
set_option linter.unusedSimpArgs false
set_option maxRecDepth 20000
namespace Go.Abs.Pure
open Go Go.Abs
def smallV (a : List Int) : Int × Bool := if V a < 18446744073709551616 then (V a, true) else (0, false)
theorem word_Small_ok {n : Nat} {a : List Int} (ha : W4 a) : Faz.m n a = some (smallV a) := by
 obtain ⟨a, b, c, d, rfl, ha, hb, hc, hd⟩ := ha.split
 simp only [Faz.m, Faz.g, List.getD_cons_zero, List.getD_cons_succ, smallV]
 have o1 := or_zero hb.1 hb.2 hc.1 hc.2
 have o2 := or_zero o1.1.1 o1.1.2 hd.1 hd.2
 rw [o1.2] at o2
 generalize ibits .or .u64 (ibits .or .u64 b c) d = x at *
 by_cases h : V [a, b, c, d] < 18446744073709551616
 ·have : x = 0 := o2.2.2 (by simp only [V] at h; omega)
  subst this
  rw [if_pos h]
  have : V [a, b, c, d] = a := by simp only [V] at h ⊢; omega
  rw [this]
  rfl
 ·have : x ≠ 0 := fun e => by
   have := o2.2.1 e
   simp only [V] at h
   omega
  rw [if_neg h]
  simp [this]
theorem q01_Small_ok {n : Nat} {a : List Int} (ha : W4 a) : Fbk.m n a = some (smallV a) := by
 obtain ⟨a, b, c, d, rfl, ha, hb, hc, hd⟩ := ha.split
 simp only [Fbk.m, Fbk.g, List.getD_cons_zero, List.getD_cons_succ, smallV, bne_iff_ne, ne_eq]
 by_cases h : V [a, b, c, d] < 18446744073709551616
 ·have h1 : b = 0 ∧ c = 0 ∧ d = 0 := by simp only [V] at h; omega
  obtain ⟨rfl, rfl, rfl⟩ := h1
  rw [if_pos h]
  have : V [a, 0, 0, 0] = a := by simp only [V]; omega
  rw [this]
  simp
 ·rw [if_neg h]
  by_cases h1 : b = 0
  ·by_cases h2 : c = 0
   ·have h3 : d ≠ 0 := fun e => by simp only [V] at h; omega
    simp [h1, h2, h3]
   ·simp [h1, h2]
  ·simp [h1]
theorem word_far_ok {n : Nat} {a : List Int} (ha : W4 a) : Fbt.m n a = some (farV a : Int) := by
 have ra := V_range ha
 simp only [Fbt.m, Fbt.g, word_Small_ok ha, bindO, Option.bind_some, smallV, farV]
 by_cases h : V a < 18446744073709551616
 ·simp only [h, if_true, Bool.not_true, Bool.false_eq_true, if_false]
  by_cases h2 : V a ≤ 256
  ·rw [if_neg (by omega), if_pos h2, Int.toNat_of_nonneg ra.1]
  ·rw [if_pos (by omega), if_neg h2]; rfl
 ·simp only [h, if_false, Bool.not_false, if_true]
  rw [if_neg (by omega)]; rfl
theorem q01_far_ok {n : Nat} {a : List Int} (ha : W4 a) : Fcg.m n a = some (farV a : Int) := by
 have ra := V_range ha
 simp only [Fcg.m, Fcg.g, q01_Small_ok ha, bindO, Option.bind_some, smallV, farV, decide_eq_true_eq]
 by_cases h : V a < 18446744073709551616
 ·simp only [h, if_true, Bool.not_true, Bool.false_eq_true, if_false]
  by_cases h2 : V a ≤ 256
  ·rw [if_neg (by omega), if_pos h2, wi64_id (by omega) (by omega), Int.toNat_of_nonneg ra.1]
  ·rw [if_pos (by omega), if_neg h2]; rfl
 ·simp only [h, if_false, Bool.not_false, if_true]
  rw [if_neg (by omega)]; rfl
theorem q01_Shl_ok {n : Nat} (hn : 600 ≤ n) {k a : List Int} (hk : W4 k) (ha : W4 a) : Fci.m n (k, a) = some (ofV (V a * 2 ^ farV k)) := by
 have hf := farV_le k
 simp only [Fci.m, Fci.g, q01_far_ok hk, bindO, Option.bind_some]
 rw [q01_shift_ok hn ha (V a * 2 ^ farV k) (farV k : Int) (by omega) false (fun i hi h1 h2 => ?_) fun i hi h => ?_]
 ·rfl
 ·rw [show ((i : Int) - (farV k : Int)).toNat = i - farV k by omega, pow_split (show farV k ≤ i by omega), Int.mul_comm (V a), Int.mul_ediv_mul_of_pos _ _ (pow_pos' _)]
 ·have hlt : i < farV k := by omega
  have := bit_add_mul 0 (V a) hlt
  rw [Int.zero_add, Int.mul_comm] at this
  rw [this]
  simp [b2i]
theorem pow_le_pow' {j k : Nat} (h : j ≤ k) : (2 : Int) ^ j ≤ 2 ^ k := by
 rw [pow_split h]
 have h1 := Int.mul_le_mul_of_nonneg_left (show (1 : Int) ≤ 2 ^ (k - j) by have := pow_pos' (k - j); omega) (Int.le_of_lt (pow_pos' j))
 omega
end Go.Abs.Pure
set_option linter.unusedVariables false
set_option linter.unusedSimpArgs false
set_option maxRecDepth 20000
namespace Go.Abs.Pure
open Go Go.Abs
theorem or_apart {x y : Int} {s : Nat} (hs : s ≤ 64) (hx : 0 ≤ x ∧ x * 2 ^ s < 18446744073709551616) (hy : 0 ≤ y ∧ y < 2 ^ s) : ibits .or .u64 (x * 2 ^ s) y = x * 2 ^ s + y := by
 obtain ⟨a, rfl⟩ := Int.eq_ofNat_of_zero_le hx.1
 obtain ⟨b, rfl⟩ := Int.eq_ofNat_of_zero_le hy.1
 have hp : ((2 : Int) ^ s) = ((2 ^ s : Nat) : Int) := by rw [Int.natCast_pow]; rfl
 have h1 : b < 2 ^ s := by have := hy.2; rw [hp] at this; exact Int.ofNat_lt.1 this
 have h2 : (a : Int) * 2 ^ s = ((a * 2 ^ s : Nat) : Int) := by rw [hp, Int.natCast_mul]
 have hle : 2 ^ s ≤ 2 ^ 64 := Nat.pow_le_pow_right (by omega) hs
 have hlt : a * 2 ^ s < 2 ^ 64 := by
  have := hx.2
  rw [h2] at this
  have e : (18446744073709551616 : Int) = ((2 ^ 64 : Nat) : Int) := rfl
  rw [e] at this
  exact Int.ofNat_lt.1 this
 rw [h2, or_u64 (Int.natCast_nonneg _) (by omega) (Int.natCast_nonneg _) (by omega), Int.toNat_natCast, Int.toNat_natCast, ← Nat.shiftLeft_eq, ← Nat.shiftLeft_add_eq_or_of_lt h1]
 rw [Nat.shiftLeft_eq, Int.natCast_add]
theorem or_apart' {x y : Int} {s : Nat} (hs : s ≤ 64) (hx : 0 ≤ x ∧ x * 2 ^ s < 18446744073709551616) (hy : 0 ≤ y ∧ y < 2 ^ s) : ibits .or .u64 y (x * 2 ^ s) = x * 2 ^ s + y := by
 rw [← or_apart hs hx hy]
 show IntKind.wrap .u64 ((BitVec.ofInt 64 y ||| BitVec.ofInt 64 (x * 2 ^ s)).toNat : Nat) = IntKind.wrap .u64 ((BitVec.ofInt 64 (x * 2 ^ s) ||| BitVec.ofInt 64 y).toNat : Nat)
 rw [BitVec.or_comm]
theorem left_part (x : Int) {s : Nat} (hs : s ≤ 64) : x * 2 ^ s % 18446744073709551616 = x % 2 ^ (64 - s) * 2 ^ s ∧ x * 2 ^ s / 18446744073709551616 = x / 2 ^ (64 - s) := by
 rw [show (18446744073709551616 : Int) = 2 ^ (64 - s) * 2 ^ s by rw [← Int.pow_add, show 64 - s + s = 64 by omega]; rfl]
 rw [Int.mul_comm x, Int.mul_comm (2 ^ (64 - s))]
 refine ⟨?_, Int.mul_ediv_mul_of_pos _ _ (pow_pos' s)⟩
 rw [Int.mul_emod_mul_of_pos _ _ (pow_pos' s), Int.mul_comm]
theorem pow_two_parts {s : Nat} (hs : s ≤ 64) : (2 : Int) ^ (64 - s) * 2 ^ s = 18446744073709551616 := by rw [← Int.pow_add, show 64 - s + s = 64 by omega]; rfl
def loP (s : Nat) (x : Int) : Int := x * 2 ^ s % 18446744073709551616
def hiP (s : Nat) (x : Int) : Int := x * 2 ^ s / 18446744073709551616
theorem hi_lt {s : Nat} {x : Int} (hs : s ≤ 64) (hx : 0 ≤ x ∧ x < 18446744073709551616) : 0 ≤ hiP s x ∧ hiP s x < 2 ^ s := by
 have p := pow_pos' s
 refine ⟨Int.ediv_nonneg (Int.mul_nonneg hx.1 (Int.le_of_lt p)) (by omega), Int.ediv_lt_of_lt_mul (by omega) ?_⟩
 rw [Int.mul_comm]
 exact Int.mul_lt_mul_of_pos_left hx.2 p
theorem lo_hi {s : Nat} (hs : s ≤ 64) {x y : Int} (hx : 0 ≤ x ∧ x < 18446744073709551616) (hy : 0 ≤ y ∧ y < 18446744073709551616) : ibits .or .u64 (loP s x) (ishr .u64 y ((64 - s : Nat) : Int)) = loP s x + hiP s y ∧ 0 ≤ loP s x + hiP s y ∧ loP s x + hiP s y < 18446744073709551616 := by
 have hlo : loP s x = x % 2 ^ (64 - s) * 2 ^ s := (left_part x hs).1
 have hhi : hiP s y = y / 2 ^ (64 - s) := (left_part y hs).2
 have hl := hi_lt hs hy
 have b0 : 0 ≤ loP s x ∧ loP s x < 18446744073709551616 := ⟨Int.emod_nonneg _ (by omega), Int.emod_lt_of_pos _ (by omega)⟩
 have e1 := Int.emod_nonneg x (Int.ne_of_gt (pow_pos' (64 - s)))
 have e2 := Int.emod_lt_of_pos x (pow_pos' (64 - s))
 rw [ishr_ofNat .u64 y (64 - s) (by simp [IntKind.bits]), ← hhi]
 rw [hlo] at b0 ⊢
 rw [or_apart hs ⟨e1, b0.2⟩ hl]
 refine ⟨rfl, by omega, ?_⟩
 have h3 := Int.mul_le_mul_of_nonneg_right (show x % 2 ^ (64 - s) ≤ 2 ^ (64 - s) - 1 by omega) (Int.le_of_lt (pow_pos' s))
 rw [Int.sub_mul, pow_two_parts hs] at h3
 omega
theorem shl_lo {s : Nat} (hs : s ≤ 64) (x : Int) : ishl .u64 x (s : Int) = loP s x := by
 rw [ishl_ofNat .u64 x s (by simp [IntKind.bits]; omega), wu64]; rfl
def leftD (k : Nat) (a : List Int) (i : Nat) : Int :=
 if i < k / 64 then 0 else if i = k / 64 then loP (k % 64) (a.getD 0 0) else loP (k % 64) (a.getD (i - k / 64) 0) + hiP (k % 64) (a.getD (i - k / 64 - 1) 0)
theorem set_same {l : List Int} {i : Nat} (h : l.getD i 0 = 0) (hi : i < l.length) : l = l.set i 0 := by
 have : l[i] = 0 := by rw [List.getD_eq_getElem?_getD, List.getElem?_eq_getElem hi] at h; simpa using h
 rw [← this, List.set_getElem_self]
theorem Shl_step {α : Type} (mk : List Int → List Int → α) (n : Nat) (rc : Int → Int → List Int → List Int → List Int → Option α) {k : Nat} (hk : k ≤ 256) {a o : List Int} (ha : W4 a) (o' : List Int) {i : Nat} (hi : i < 4) (hl : o.length = 4) (ho : o.getD i 0 = 0) :
  Fbu.l4_0.r mk n rc (i : Int) (k : Int) a o o' = rc ((i + 1 : Nat) : Int) (k : Int) a (o.set i (leftD k a i)) o' := by
 have hal := ha.1
 have h1 : (decide ((i : Int) < 4)) = true := by simp; omega
 have g1 : (0 : Int) ≤ (i : Int) := by omega
 have g2 : (i : Int) < 4 := by omega
 have w : IntKind.wrap .i64 ((i : Int) - IntKind.wrap .i64 (IntKind.wrap .u64 (Int.tdiv (k : Int) 64))) = (i : Int) - ((k / 64 : Nat) : Int) := by rw [tdiv_nonneg' (by omega), wu64, wi64, wi64]; omega
 have w2 : Int.tmod (k : Int) 64 = ((k % 64 : Nat) : Int) := by rw [tmod_nonneg' (by omega)]; omega
 have w1 : IntKind.wrap .i64 ((i : Int) + 1) = ((i + 1 : Nat) : Int) := by rw [wi64]; omega
 have w3 : IntKind.wrap .u64 (64 - ((k % 64 : Nat) : Int)) = ((64 - k % 64 : Nat) : Int) := by rw [wu64]; omega
 have w4 : IntKind.wrap .i64 ((i : Int) - ((k / 64 : Nat) : Int) - 1) = (i : Int) - ((k / 64 : Nat) : Int) - 1 := by rw [wi64]; omega
 have g5 : (0 : Int) ≤ ((k % 64 : Nat) : Int) := by omega
 have g6 : (0 : Int) ≤ ((64 - k % 64 : Nat) : Int) := by omega
 simp only [Fbu.l4_0.r, h1, g1, g2, w, w1, w2, w3, w4, g5, g6, if_true, eq_self_iff_true, Int.toNat_natCast, decide_eq_true_eq, shl_lo (show k % 64 ≤ 64 by omega)]
 unfold leftD
 by_cases c1 : i < k / 64
 ·have d1 : ¬ ((i : Int) - ((k / 64 : Nat) : Int) ≥ 0) := by omega
  have d2 : ¬ ((i : Int) - ((k / 64 : Nat) : Int) > 0) := by omega
  simp only [c1, d1, d2, if_true, if_false]
  rw [← set_same ho (by omega)]
 ·have d1 : ((i : Int) - ((k / 64 : Nat) : Int) ≥ 0) := by omega
  have d3 : (0 : Int) ≤ (i : Int) - ((k / 64 : Nat) : Int) := by omega
  have d4 : (i : Int) - ((k / 64 : Nat) : Int) < 4 := by omega
  have t1 : ((i : Int) - ((k / 64 : Nat) : Int)).toNat = i - k / 64 := by omega
  by_cases c2 : i = k / 64
  ·have d2 : ¬ ((i : Int) - ((k / 64 : Nat) : Int) > 0) := by omega
   simp only [c1, c2, d1, d2, d3, d4, t1, if_true, if_false]
   simp
  ·have d2 : ((i : Int) - ((k / 64 : Nat) : Int) > 0) := by omega
   have d5 : (0 : Int) ≤ (i : Int) - ((k / 64 : Nat) : Int) - 1 := by omega
   have d6 : (i : Int) - ((k / 64 : Nat) : Int) - 1 < 4 := by omega
   have t2 : ((i : Int) - ((k / 64 : Nat) : Int) - 1).toNat = i - k / 64 - 1 := by omega
   simp only [c1, c2, d1, d2, d3, d4, d5, d6, t1, t2, if_true, if_false]
   by_cases c3 : k % 64 = 0
   ·have e : ((((k % 64 : Nat) : Int)) != 0) = false := by rw [c3]; rfl
    simp only [e, Bool.false_eq_true, if_false]
    have hb := ha.dig.getD (i := i - k / 64 - 1) (by omega)
    have : hiP (k % 64) (a.getD (i - k / 64 - 1) 0) = 0 := by
     unfold hiP
     rw [c3, Int.pow_zero, Int.mul_one]
     exact Int.ediv_eq_zero_of_lt hb.1 hb.2
    rw [this, Int.add_zero]
   ·have e : ((((k % 64 : Nat) : Int)) != 0) = true := by simp; omega
    simp only [e, if_true]
    have hs : ∀ v : Int, (o.set i v).getD i 0 = v := fun v => by simp [List.getD_eq_getElem?_getD, show i < o.length by omega]
    rw [hs, (lo_hi (show k % 64 ≤ 64 by omega) (ha.dig.getD (i := i - k / 64) (by omega)) (ha.dig.getD (i := i - k / 64 - 1) (by omega))).1]
    simp
theorem word_Shl_ok {n : Nat} (hn : 600 ≤ n) {k a : List Int} (hk : W4 k) (ha : W4 a) : Fbu.m n (k, a) = some (ofV (V a * 2 ^ farV k)) := by
 have hf := farV_le k
 obtain ⟨m, rfl⟩ : ∃ m, n = m + 5 := ⟨n - 5, by omega⟩
 simp only [Fbu.m, Fbu.g, word_far_ok hk, bindO, Option.bind_some, Fbu.l4_0.m]
 generalize farV k = j at *
 have run : Fbu.l4_0.g (fun a0 a1 => (a0, a1)) (m + 5) (m + 5) 0 (j : Int) a [0, 0, 0, 0] [0, 0, 0, 0] = some ([leftD j a 0, leftD j a 1, leftD j a 2, leftD j a 3], [0, 0, 0, 0]) := by
  refine (Shl_step _ _ _ hf ha _ (i := 0) (by omega) rfl rfl).trans ?_
  refine (Shl_step _ _ _ hf ha _ (i := 1) (by omega) rfl rfl).trans ?_
  refine (Shl_step _ _ _ hf ha _ (i := 2) (by omega) rfl rfl).trans ?_
  refine (Shl_step _ _ _ hf ha _ (i := 3) (by omega) rfl rfl).trans ?_
  rfl
 rw [run]
 simp only [Option.bind_some]
 congr 1
 have hs : j % 64 ≤ 64 := by omega
 have hq : j / 64 ≤ 4 := by omega
 have hj : j = j % 64 + 64 * (j / 64) := by omega
 have hT : V a * 2 ^ j = V a * 2 ^ (j % 64) * 2 ^ (64 * (j / 64)) := by conv => lhs; rw [hj, Int.pow_add, ← Int.mul_assoc]
 rw [hT]
 obtain ⟨a0, a1, a2, a3, rfl, h0, h1, h2, h3⟩ := ha.split
 have b01 := (lo_hi hs h1 h0).2
 have b12 := (lo_hi hs h2 h1).2
 have b23 := (lo_hi hs h3 h2).2
 have bl : ∀ x, 0 ≤ loP (j % 64) x ∧ loP (j % 64) x < 18446744073709551616 := fun x => ⟨Int.emod_nonneg _ (by omega), Int.emod_lt_of_pos _ (by omega)⟩
 have ex : ∀ x, x * 2 ^ (j % 64) = loP (j % 64) x + 18446744073709551616 * hiP (j % 64) x := fun x => by
  have := Int.mul_ediv_add_emod (x * 2 ^ (j % 64)) 18446744073709551616
  unfold loP hiP; omega
 have hV : V [a0, a1, a2, a3] * 2 ^ (j % 64) = V [a0 * 2 ^ (j % 64), a1 * 2 ^ (j % 64), a2 * 2 ^ (j % 64), a3 * 2 ^ (j % 64)] := by
  simp only [V, Int.add_mul]
  rw [Int.mul_right_comm a1, Int.mul_right_comm a2, Int.mul_right_comm a3]
 rw [hV, ex a0, ex a1, ex a2, ex a3]
 have l0 := bl a0
 have l1 := bl a1
 have l2 := bl a2
 have l3 := bl a3
 clear run hT ex bl hV h0 h1 h2 h3
 have hz : (0 : Int) ≤ 0 ∧ (0 : Int) < 18446744073709551616 := by omega
 rcases (show j / 64 = 0 ∨ j / 64 = 1 ∨ j / 64 = 2 ∨ j / 64 = 3 ∨ j / 64 = 4 by omega) with h | h | h | h | h <;>
  simp only [leftD, h, Nat.reduceSub, Nat.reduceLT, Nat.reduceEqDiff, Nat.lt_irrefl, if_true, if_false, List.getD_cons_zero, List.getD_cons_succ, reduceCtorEq, Nat.reduceMul] <;> clear hj hq hf h <;>
  generalize loP (j % 64) a0 = u0 at * <;>
  generalize loP (j % 64) a1 = u1 at * <;>
  generalize loP (j % 64) a2 = u2 at * <;>
  generalize loP (j % 64) a3 = u3 at * <;>
  generalize hiP (j % 64) a0 = v0 at * <;>
  generalize hiP (j % 64) a1 = v1 at * <;>
  generalize hiP (j % 64) a2 = v2 at * <;>
  generalize hiP (j % 64) a3 = v3 at *
 ·refine digits v3 l0 b01 b12 b23 ?_
  simp only [V, B, Nat.mul_zero, Int.pow_zero]
  simp
  omega
 ·refine digits (v3 * 18446744073709551616 + u3 + v2) hz l0 b01 b12 ?_
  simp only [V, B, Nat.mul_one, show (2 : Int) ^ 64 = 18446744073709551616 from rfl]
  simp
  omega
 ·refine digits (v3 * 340282366920938463463374607431768211456 + (u3 + v2) * 18446744073709551616 + u2 + v1) hz hz l0 b01 ?_
  simp only [V, B, Nat.reduceMul, show (2 : Int) ^ 128 = 340282366920938463463374607431768211456 from rfl]
  simp
  omega
 ·refine digits (v3 * 6277101735386680763835789423207666416102355444464034512896 + (u3 + v2) * 340282366920938463463374607431768211456 + (u2 + v1) * 18446744073709551616 + u1 + v0) hz hz hz l0 ?_
  simp only [V, B, Nat.reduceMul, show (2 : Int) ^ 192 = 6277101735386680763835789423207666416102355444464034512896 from rfl]
  simp
  omega
 ·refine digits (u0 + (u1 + v0) * 18446744073709551616 + (u2 + v1) * 340282366920938463463374607431768211456 + (u3 + v2) * 6277101735386680763835789423207666416102355444464034512896 + v3 * 115792089237316195423570985008687907853269984665640564039457584007913129639936) hz hz hz hz ?_
  simp only [V, B, Nat.reduceMul, show (2 : Int) ^ 256 = 115792089237316195423570985008687907853269984665640564039457584007913129639936 from rfl]
  simp
  omega
end Go.Abs.Pure
set_option linter.unusedVariables false
set_option linter.unusedSimpArgs false
set_option maxRecDepth 20000
namespace Go.Abs.Pure
open Go Go.Abs
end Go.Abs.Pure
set_option linter.unusedVariables false
set_option linter.unusedSimpArgs false
set_option maxRecDepth 20000
namespace Go.Abs.Pure
open Go Go.Abs
def readI (b : List Int) : Nat → Int
 | 0 => 0
 | i + 1 => readI b i + b.getD (b.length - 1 - i) 0 * 2 ^ (8 * i)
theorem digit_low {o : List Int} (ho : W4 o) {i : Nat} (hi : i < 32) (hv : V o < 2 ^ (8 * i)) : o.getD (i / 8) 0 < 2 ^ (i % 8 * 8) := by
 have hp : (2 : Int) ^ (8 * i) = 18446744073709551616 ^ (i / 8) * 2 ^ (i % 8 * 8) := by
  rw [show (18446744073709551616 : Int) = 2 ^ 64 from rfl, ← Int.pow_mul, ← Int.pow_add]; congr 1; omega
 have hd := ho.dig.getD (i := i / 8) (by rw [ho.1]; omega)
 rw [hp, V_val ho.1] at hv
 have key : ∀ {l : List Int}, Dig 18446744073709551616 l → ∀ k, l.getD k 0 * 18446744073709551616 ^ k ≤ val 18446744073709551616 l := by
  intro l
  induction l with
  | nil => intro _ k; simp [val]
  | cons x r ih =>
   intro h k
   have hx := h x (by simp)
   have hr : Dig 18446744073709551616 r := fun y hy => h y (by simp [hy])
   have hb := val_bound (b := 18446744073709551616) (by omega) hr
   cases k with
   | zero => simp only [List.getD_cons_zero, val, Int.pow_zero, Int.mul_one]; omega
   | succ k =>
    have := ih hr k
    simp only [List.getD_cons_succ, val, Int.pow_succ]
    rw [← Int.mul_assoc]
    generalize r.getD k 0 * 18446744073709551616 ^ k = t at *
    omega
 have := key ho.dig (i / 8)
 have p := Int.pow_pos (n := 18446744073709551616) (m := i / 8) (by omega)
 generalize o.getD (i / 8) 0 = d at *
 generalize (18446744073709551616 : Int) ^ (i / 8) = q at *
 exact Int.lt_of_mul_lt_mul_left (a := q) (by rw [Int.mul_comm]; omega) (Int.le_of_lt p)
theorem put_byte {o : List Int} (ho : W4 o) {i : Nat} (hi : i < 32) (hv : V o < 2 ^ (8 * i)) {x : Int} (hx : 0 ≤ x ∧ x < 256) :
  W4 (o.set (i / 8) (ibits .or .u64 (o.getD (i / 8) 0) (ishl .u64 x ((i % 8 * 8 : Nat) : Int)))) ∧ V (o.set (i / 8) (ibits .or .u64 (o.getD (i / 8) 0) (ishl .u64 x ((i % 8 * 8 : Nat) : Int)))) = V o + x * 2 ^ (8 * i) := by
 have hl := ho.1
 have hd := ho.dig.getD (i := i / 8) (by omega)
 have hlow := digit_low ho hi hv
 have p := pow_pos' (i % 8 * 8)
 have hs : x * 2 ^ (i % 8 * 8) < 18446744073709551616 := by
  have h1 := Int.mul_lt_mul_of_pos_right hx.2 p
  have h2 := pow_le_pow' (show 8 + i % 8 * 8 ≤ 64 by omega)
  rw [Int.pow_add, show (2 : Int) ^ 8 = 256 from rfl, show (2 : Int) ^ 64 = 18446744073709551616 from rfl] at h2
  omega
 have hn := Int.mul_nonneg hx.1 (Int.le_of_lt p)
 rw [ishl_ofNat .u64 x _ (by simp [IntKind.bits]; omega), wu64, Int.emod_eq_of_lt hn hs]
 have hr := (or_zero hd.1 hd.2 hn hs).1
 rw [or_apart' (by omega) ⟨hx.1, hs⟩ ⟨hd.1, hlow⟩] at hr ⊢
 have hw : W4 (o.set (i / 8) (x * 2 ^ (i % 8 * 8) + o.getD (i / 8) 0)) := ⟨by simp [hl], ho.dig.set hr⟩
 refine ⟨hw, ?_⟩
 rw [V_val hw.1, V_val hl, val_set (by omega)]
 have : (2 : Int) ^ (8 * i) = 2 ^ (i % 8 * 8) * 18446744073709551616 ^ (i / 8) := by
  rw [show (18446744073709551616 : Int) = 2 ^ 64 from rfl, ← Int.pow_mul, ← Int.pow_add]; congr 1; omega
 rw [this]
 generalize o.getD (i / 8) 0 = u
 generalize (2 : Int) ^ (i % 8 * 8) = p1
 generalize (18446744073709551616 : Int) ^ (i / 8) = p2
 grind
theorem readI_bound {b : List Int} (hb : ∀ x ∈ b, 0 ≤ x ∧ x < 256) : ∀ i, 0 ≤ readI b i ∧ readI b i < 2 ^ (8 * i)
 | 0 => by simp [readI]
 | i + 1 => by
  have ih := readI_bound hb i
  have hx : 0 ≤ b.getD (b.length - 1 - i) 0 ∧ b.getD (b.length - 1 - i) 0 < 256 := by
   rw [List.getD_eq_getElem?_getD]
   cases h : b[b.length - 1 - i]? with
   | none => simp
   | some x => exact hb x (List.mem_of_getElem? h)
  simp only [readI]
  have p := pow_pos' (8 * i)
  have h1 := Int.mul_nonneg hx.1 (Int.le_of_lt p)
  have h2 := Int.mul_le_mul_of_nonneg_right (show b.getD (b.length - 1 - i) 0 ≤ 255 by omega) (Int.le_of_lt p)
  rw [show 8 * (i + 1) = 8 * i + 8 by omega, Int.pow_add, show (2 : Int) ^ 8 = 256 from rfl]
  omega
theorem byte_getD {b : List Int} (hb : ∀ x ∈ b, 0 ≤ x ∧ x < 256) (i : Nat) : 0 ≤ b.getD i 0 ∧ b.getD i 0 < 256 := by
 rw [List.getD_eq_getElem?_getD]
 cases h : b[i]? with
 | none => simp
 | some x => exact hb x (List.mem_of_getElem? h)
end Go.Abs.Pure
set_option linter.unusedVariables false
set_option linter.unusedSimpArgs false
set_option maxRecDepth 20000
namespace Go.Abs.Pure
open Go Go.Abs
def Short (b : List Int) : Prop := b.length ≤ 100000
def rd (b : List Int) : Nat := if b.length ≤ 32 then b.length else 32
theorem rd_le (b : List Int) : rd b ≤ 32 ∧ rd b ≤ b.length ∧ (rd b = 32 ∨ rd b = b.length) := by unfold rd; split <;> omega
theorem at_next (i : Nat) (h : i < 32) : IntKind.wrap .i64 ((i : Int) + 1) = ((i + 1 : Nat) : Int) := by rw [wi64]; omega
theorem at_div (i : Nat) (h : i < 32) : IntKind.wrap .i64 (Int.tdiv (i : Int) 8) = ((i / 8 : Nat) : Int) := by rw [tdiv_nonneg' (by omega), wi64]; omega
theorem at_mod (i : Nat) (h : i < 32) : IntKind.wrap .u64 (IntKind.wrap .i64 (Int.tmod (i : Int) 8 * 8)) = ((i % 8 * 8 : Nat) : Int) := by rw [tmod_nonneg' (by omega), wi64, wu64]; omega
theorem at_mod' (i : Nat) (h : i < 32) : IntKind.wrap .i64 (Int.tmod (i : Int) 8 * 8) = ((i % 8 * 8 : Nat) : Int) := by rw [tmod_nonneg' (by omega), wi64]; omega
theorem last_at (L i : Nat) (h : L ≤ 100000) (hi : i < L) : IntKind.wrap .i64 (IntKind.wrap .i64 (((L : Nat) : Int) - 1) - (i : Int)) = ((L - 1 - i : Nat) : Int) := by
 rw [wi64_id (n := ((L : Nat) : Int) - 1) (by omega) (by omega)]
 rw [wi64_id (by omega) (by omega)]
 omega
theorem q01_Read_loop {n : Nat} {b : List Int} (hb : ∀ x ∈ b, 0 ≤ x ∧ x < 256) (hlen : Short b) (z : List Int) : ∀ (r i fuel : Nat) (o : List Int), i + r = rd b → r + 1 ≤ fuel → W4 o → V o = readI b i →
  Fbv.l4_0.g (fun a0 a1 => (a0, a1)) n fuel (i : Int) ((b.length : Nat) : Int) b o z = some (ofV (readI b (rd b)), z)
 | 0, i, fuel + 1, o, hi, hf, ho, hv => by
  unfold Short at hlen
  have hr := rd_le b
  have he : i = rd b := by omega
  show Fbv.l4_0.r _ _ _ _ _ _ _ _ = _
  have fin : o = ofV (readI b (rd b)) := by rw [← he, ← hv, ofV_V ho]
  by_cases h32 : i < 32
  ·have h1 : (decide ((i : Int) < 32)) = true := by simp; omega
   have h2 : (decide ((i : Int) < ((b.length : Nat) : Int))) = false := by simp; omega
   simp only [Fbv.l4_0.r, h1, h2, if_true, Bool.false_eq_true, if_false]
   rw [← fin]
  ·have h1 : (decide ((i : Int) < 32)) = false := by simp; omega
   simp only [Fbv.l4_0.r, h1, Bool.false_eq_true, if_false]
   rw [← fin]
 | r + 1, i, fuel + 1, o, hi, hf, ho, hv => by
  have hlen' := hlen
  unfold Short at hlen'
  have hr := rd_le b
  have h1 : (decide ((i : Int) < 32)) = true := decide_eq_true (by omega)
  have h2 : (decide ((i : Int) < ((b.length : Nat) : Int))) = true := decide_eq_true (by omega)
  have h32 : i < 32 := Nat.lt_of_lt_of_le (Nat.lt_of_lt_of_le (Nat.lt_add_of_pos_right (Nat.succ_pos r)) (Nat.le_of_eq hi)) hr.1
  have w1 := at_next i h32
  have hib : i < b.length := Nat.lt_of_lt_of_le (Nat.lt_of_lt_of_le (Nat.lt_add_of_pos_right (Nat.succ_pos r)) (Nat.le_of_eq hi)) hr.2.1
  have w2 := last_at b.length i hlen' hib
  have w3 := at_div i h32
  have w4 := at_mod i h32
  have g1 : (0 : Int) ≤ ((i / 8 : Nat) : Int) := by omega
  have g2 : ((i / 8 : Nat) : Int) < 4 := by omega
  have g3 : (0 : Int) ≤ ((i % 8 * 8 : Nat) : Int) := by omega
  have g4 : (0 : Int) ≤ ((b.length - 1 - i : Nat) : Int) := by omega
  have g5 : ((b.length - 1 - i : Nat) : Int) < ((b.length : Nat) : Int) := by omega
  have hx := byte_getD hb (b.length - 1 - i)
  show Fbv.l4_0.r _ _ _ _ _ _ _ _ = _
  simp only [Fbv.l4_0.r, h1, h2, w1, w2, w3, w4, g1, g2, g3, g4, g5, if_true, Int.toNat_natCast]
  rw [wu64_id hx.1 (by omega)]
  obtain ⟨k1, k2⟩ := put_byte ho (i := i) (by omega) (by rw [hv]; exact (readI_bound hb i).2) hx
  exact q01_Read_loop hb hlen z r (i + 1) fuel _ (by omega) (by omega) k1 (by rw [k2, hv]; rfl)
theorem q01_Read_ok {n : Nat} (hn : 100 ≤ n) {b : List Int} (hb : ∀ x ∈ b, 0 ≤ x ∧ x < 256) (hlen : Short b) : Fbv.m n b = some (ofV (readI b (rd b))) := by
 have hr := rd_le b
 have := q01_Read_loop (n := n) hb hlen [0, 0, 0, 0] (rd b) 0 n [0, 0, 0, 0] (by omega) (by omega) zero_W4 rfl
 simp only [Fbv.m, Fbv.g, Fbv.l4_0.m]
 rw [show ((0 : Nat) : Int) = 0 from rfl] at this
 rw [this]
 rfl
end Go.Abs.Pure
set_option linter.unusedVariables false
set_option linter.unusedSimpArgs false
set_option maxRecDepth 20000
namespace Go.Abs.Pure
open Go Go.Abs
theorem word_Read_loop {n : Nat} {b : List Int} (hb : ∀ x ∈ b, 0 ≤ x ∧ x < 256) (hlen : b.length ≤ 32) (z : List Int) : ∀ (r i fuel : Nat) (o : List Int), i + r = b.length → r + 1 ≤ fuel → W4 o → V o = readI b i →
  Fbg.l4_0.g (fun a0 a1 => (a0, a1)) n fuel (i : Int) ((b.length : Nat) : Int) b o z = some (ofV (readI b b.length), z)
 | 0, i, fuel + 1, o, hi, hf, ho, hv => by
  have he : i = b.length := by omega
  show Fbg.l4_0.r _ _ _ _ _ _ _ _ = _
  have fin : o = ofV (readI b b.length) := by rw [← he, ← hv, ofV_V ho]
  have h2 : (decide ((i : Int) < ((b.length : Nat) : Int))) = false := by simp; omega
  simp only [Fbg.l4_0.r, h2, Bool.false_eq_true, if_false]
  rw [← fin]
 | r + 1, i, fuel + 1, o, hi, hf, ho, hv => by
  have h2 : (decide ((i : Int) < ((b.length : Nat) : Int))) = true := by simp; omega
  have hib : i < b.length := by omega
  have h32 : i < 32 := by omega
  have w1 := at_next i h32
  have w2 := last_at b.length i (by omega) hib
  have w3 := at_div i h32
  have w4 := at_mod' i h32
  have g1 : (0 : Int) ≤ ((i / 8 : Nat) : Int) := by omega
  have g2 : ((i / 8 : Nat) : Int) < 4 := by omega
  have g3 : (0 : Int) ≤ ((i % 8 * 8 : Nat) : Int) := by omega
  have g4 : (0 : Int) ≤ ((b.length - 1 - i : Nat) : Int) := by omega
  have g5 : ((b.length - 1 - i : Nat) : Int) < ((b.length : Nat) : Int) := by omega
  have hx := byte_getD hb (b.length - 1 - i)
  show Fbg.l4_0.r _ _ _ _ _ _ _ _ = _
  simp only [Fbg.l4_0.r, h2, w1, w2, w3, w4, g1, g2, g3, g4, g5, if_true, Int.toNat_natCast]
  rw [wu64_id hx.1 (by omega)]
  obtain ⟨k1, k2⟩ := put_byte ho (i := i) (by omega) (by rw [hv]; exact (readI_bound hb i).2) hx
  exact word_Read_loop hb hlen z r (i + 1) fuel _ (by omega) (by omega) k1 (by rw [k2, hv]; rfl)
theorem word_Read_short {n : Nat} (hn : 100 ≤ n) {b : List Int} (hb : ∀ x ∈ b, 0 ≤ x ∧ x < 256) (hlen : b.length ≤ 32) : Fbg.l4_0.m n n (0, ((b.length : Nat) : Int), b, [0, 0, 0, 0], [0, 0, 0, 0]) = some (ofV (readI b b.length), [0, 0, 0, 0]) := by
 have := word_Read_loop (n := n) hb hlen [0, 0, 0, 0] b.length 0 n [0, 0, 0, 0] (by omega) (by omega) zero_W4 rfl
 simp only [Fbg.l4_0.m]
 rw [show ((0 : Nat) : Int) = 0 from rfl] at this
 exact this
theorem readI_drop {b : List Int} {k : Nat} : ∀ {i : Nat}, i ≤ b.length - k → readI (b.drop k) i = readI b i
 | 0, _ => rfl
 | i + 1, h => by
  simp only [readI]
  rw [readI_drop (by omega)]
  have : (b.drop k).getD ((b.drop k).length - 1 - i) 0 = b.getD (b.length - 1 - i) 0 := by
   simp only [List.getD_eq_getElem?_getD, List.getElem?_drop, List.length_drop]
   congr 2
   omega
  rw [this]
theorem word_Read_ok {n : Nat} (hn : 100 ≤ n) {b : List Int} (hb : ∀ x ∈ b, 0 ≤ x ∧ x < 256) (hlen : Short b) : Fbg.m n b = some (ofV (readI b (rd b))) := by
 have hr := rd_le b
 unfold Short at hlen
 have e : (if 0 > IntKind.wrap .i64 (((b.length : Nat) : Int) - 32) then (0 : Int) else IntKind.wrap .i64 (((b.length : Nat) : Int) - 32)) = ((b.length - rd b : Nat) : Int) := by
  rw [wi64_id (by omega) (by omega)]
  unfold rd
  split <;> split <;> omega
 have hd : (b.drop (b.length - rd b)).length = rd b := by simp; omega
 have hb' : ∀ x ∈ b.drop (b.length - rd b), 0 ≤ x ∧ x < 256 := fun x hx => hb x (List.mem_of_mem_drop hx)
 simp only [Fbg.m, Fbg.g, e]
 rw [if_pos (by omega), if_pos (by omega)]
 simp only [Int.toNat_natCast, cut]
 rw [word_Read_short hn hb' (by omega), hd, readI_drop (by omega)]
 rfl
theorem word_Wide_ok {n : Nat} (hn : 100 ≤ n) {x : List Int} (hl : x.length = 20) (hb : ∀ y ∈ x, 0 ≤ y ∧ y < 256) : Fbh.m n x = some (ofV (readI x 20)) := by
 have e : List.take 20 (List.drop 0 x) = x := by rw [List.drop_zero, List.take_of_length_le (by omega)]
 simp only [Fbh.m, Fbh.g, e, word_Read_ok hn hb (by unfold Short; omega), bindO, Option.bind_some]
 rw [show rd x = 20 by unfold rd; rw [if_pos (by omega)]; exact hl]
theorem q01_Wide_loop {n : Nat} {x : List Int} (hl : x.length = 20) (z : List Int) : ∀ (r i fuel : Nat), i + r = 20 → r + 1 ≤ fuel → Fbw.l3_0.g (fun a0 a1 => (a0, a1)) n fuel (i : Int) (x.take i) x z = some (x, z)
 | 0, i, fuel + 1, hi, hf => by
  have he : i = 20 := by omega
  subst he
  show Fbw.l3_0.r _ _ _ _ _ _ _ = _
  simp only [Fbw.l3_0.r, show decide (((20 : Nat) : Int) < 20) = false from rfl, Bool.false_eq_true, if_false]
  rw [List.take_of_length_le (by omega)]
 | r + 1, i, fuel + 1, hi, hf => by
  have h1 : (decide ((i : Int) < 20)) = true := by simp; omega
  have w1 : IntKind.wrap .i64 ((i : Int) + 1) = ((i + 1 : Nat) : Int) := by rw [wi64]; omega
  have g1 : (0 : Int) ≤ (i : Int) := by omega
  have g2 : (i : Int) < 20 := by omega
  have g4 : ((x.take i).length + 1) * 1 ≤ 70368744177664 ∧ (x.take i).length + 1 ≤ 9223372036854775807 := by simp; omega
  show Fbw.l3_0.r _ _ _ _ _ _ _ = _
  simp only [Fbw.l3_0.r, h1, w1, g1, g2, if_true, Int.toNat_natCast]
  rw [if_pos g4]
  have := q01_Wide_loop (n := n) hl z r (i + 1) fuel (by omega) (by omega)
  rw [List.take_add_one, List.getElem?_eq_getElem (by omega)] at this
  rw [List.getD_eq_getElem?_getD, List.getElem?_eq_getElem (by omega)]
  exact this
theorem q01_Wide_ok {n : Nat} (hn : 100 ≤ n) {x : List Int} (hl : x.length = 20) (hb : ∀ y ∈ x, 0 ≤ y ∧ y < 256) : Fbw.m n x = some (ofV (readI x 20)) := by
 have := q01_Wide_loop (n := n) hl [0, 0, 0, 0] 20 0 n (by omega) (by omega)
 rw [show ((0 : Nat) : Int) = 0 from rfl, List.take_zero] at this
 simp only [Fbw.m, Fbw.g, Fbw.l3_0.m]
 rw [this]
 simp only [bindO, Option.bind_some, q01_Read_ok hn hb (show Short x by unfold Short; omega)]
 rw [show rd x = 20 by unfold rd; rw [if_pos (by omega)]; exact hl]
end Go.Abs.Pure
end
section
set_option linter.unusedVariables false
set_option linter.unusedSimpArgs false
set_option maxRecDepth 100000
namespace Go.Abs.Pure
open Go Go.Abs Go.Proofs
def KvW (v : AV) : Prop := ∃ k w, v = .agg [.ints .u64 4 k, .ints .u64 4 w] ∧ W4 k ∧ W4 w
def mkKv (k w : List Int) : AV := .agg [.ints .u64 4 k, .ints .u64 4 w]
def EnW (v : AV) : Prop := ∃ a n w c s, v = mkEn a n w c s ∧ (∀ x ∈ s, KvW x) ∧ s.length ≤ 301 ∧ c.length ≤ 5000
def isA (a : List Int) (v : AV) : Bool := accK v == a
def valK : AV → List Int
 | .agg (_ :: y :: _) => accD y
 | _ => []
def slotsOf : AV → List AV
 | .agg [_, .agg [_, _, _, .robjs _ _ s]] => s
 | _ => []
theorem isA_mk (a b : List Int) (n : Int) (w c : List Int) (s : List AV) : isA a (mkEn b n w c s) = (b == a) := rfl
theorem slotsOf_mk (b : List Int) (n : Int) (w c : List Int) (s : List AV) : slotsOf (mkEn b n w c s) = s := rfl
theorem accK_kv (k w : List Int) : accK (mkKv k w) = k := rfl
def atA (L : List AV) (a : List Int) : List AV := L.filter (isA a)
theorem atA_append (L M : List AV) (a : List Int) : atA (L ++ M) a = atA L a ++ atA M a := List.filter_append _ _
theorem atA_one_eq (a : List Int) (n : Int) (w c : List Int) (s : List AV) : atA [mkEn a n w c s] a = [mkEn a n w c s] := by
 simp [atA, isA_mk]
theorem atA_one_ne {a b : List Int} (h : b ≠ a) (n : Int) (w c : List Int) (s : List AV) : atA [mkEn b n w c s] a = [] := by
 simp [atA, isA_mk, h]
theorem atA_cons (v : AV) (L : List AV) (a : List Int) : atA (v :: L) a = atA [v] a ++ atA L a := by
 rw [← atA_append]; rfl
theorem less_loop {α : Type} (mk0 : Bool → α) (mk1 : α) (n : Nat) (x y : List Int) : ∀ (k m j : Nat), j + k = 20 → k < m → Tot (Fbz.l2_0.g mk0 mk1 n m (j : Int) x y)
 | 0, m + 1, j, hj, _ => by
  obtain rfl : j = 20 := by omega
  exact ⟨mk1, rfl⟩
 | k + 1, m + 1, j, hj, hm => by
  obtain ⟨r, ih⟩ := less_loop mk0 mk1 n x y k m (j + 1) (by omega) (by omega)
  rw [← next_at (j := j) (by omega)] at ih
  by_cases hc : (List.getD x (Int.toNat (j : Int)) 0 != List.getD y (Int.toNat (j : Int)) 0) = true
  ·exact ⟨_, iT (by simp; omega) (iT (by omega) (iT (by omega) (iT (by omega) (iT (by omega) (iT hc (iT (by omega) (iT (by omega) (iT (by omega) (iT (by omega) rfl)))))))))⟩
  ·exact ⟨_, iT (by simp; omega) (iT (by omega) (iT (by omega) (iT (by omega) (iT (by omega) (iF hc ih)))))⟩
theorem less_tot {n : Nat} (hn : 100 ≤ n) (x y : List Int) : Tot (Fbz.m n (x, y)) := by
 obtain ⟨r, h⟩ := less_loop (fun a0 => Sum.inl a0) (Sum.inr ()) n x y 20 n 0 (by omega) (by omega)
 rcases r with r | r
 ·exact ⟨_, bO h rfl⟩
 ·exact ⟨_, bO h rfl⟩
structure PutQ (a : List Int) (E : AV) (D : List AV) (d : Bool) (o : List AV) (d' : Bool) (o' : List AV) : Prop where
 ty : (∀ v ∈ o, EnW v) → ∀ v ∈ o', EnW v
 own : atA o' a = atA o a ++ if !d && d' then [E] else []
 oth : ∀ b, b ≠ a → atA o' b = atA o b ++ atA D b
 mon : d = true → d' = true
 len : o'.length + (atA D a).length = o.length + D.length + if !d && d' then 1 else 0
section
variable {α : Type} (mk : Bool → List AV → Int → Int → List AV → List Int → Int → List Int → List Int → List AV → α) (n : Nat) (hn : 100 ≤ n) (x2 : List AV) (hx : ∀ v ∈ x2, EnW v) (hl : x2.length ≤ 1000) (x3 x4 : Int) (x5 : List Int) (x7 : Int) (x8 x9 : List Int) (x10 : List AV)
 (h10 : ∀ v ∈ x10, KvW v) (l10 : x10.length ≤ 301) (l9 : x9.length ≤ 5000)
include hn hx hl h10 l10 l9
theorem put_loop : ∀ (k m j : Nat) (d : Bool) (o : List AV), j + k = x2.length → k < m → o.length ≤ j + 1 → (d = false → o.length ≤ j) →
  ∃ d' o', Fal.l4_0.g mk n m (j : Int) d x2 x3 x4 x5 o x7 x8 x9 x10 = some (mk d' x2 x3 x4 o' x5 x7 x8 x9 x10) ∧ PutQ x5 (mkEn x5 x7 x8 x9 x10) (x2.drop j) d o d' o'
 | 0, m + 1, j, d, o, hj, _, _, _ => by
  refine ⟨d, o, iF (by simp; omega) rfl, ?_⟩
  rw [List.drop_of_length_le (by omega)]
  exact ⟨id, by cases d <;> simp, fun b _ => by simp [atA], id, by cases d <;> simp [atA]⟩
 | k + 1, m + 1, j, d, o, hj, hm, ho, hod => by
  have hlt : j < x2.length := by omega
  have hin := List.getElem_mem hlt
  obtain ⟨c0, nn, w, c, s, hv, hs⟩ := hx x2[j] hin
  have hE : EnW (mkEn x5 x7 x8 x9 x10) := ⟨_, _, _, _, _, rfl, h10, l10, l9⟩
  have hV : EnW (mkEn c0 nn w c s) := ⟨_, _, _, _, _, rfl, hs⟩
  have hnx := next_at (j := j) (by omega)
  rw [List.drop_eq_getElem_cons hlt, hv]
  have ih := put_loop k m (j + 1)
  rw [← hnx] at ih
  by_cases hc : c0 = x5
  ·subst hc
   cases d
   ·have hod' := hod rfl
    obtain ⟨lb, hlb⟩ := less_tot (n := n) hn c0 c0
    cases lb
    ·obtain ⟨d', o', e, q⟩ := ih true (o ++ [mkEn c0 x7 x8 x9 x10]) (by omega) (by omega) (by first | omega | (simp; omega)) (fun h => by cases h)
     refine ⟨d', o', ?_, ⟨fun h => q.ty fun v hv => ?_, ?_, fun b hb => ?_, fun _ => q.mon rfl, ?_⟩⟩
     ·refine iT (by simp; omega) (iT rfl (iT (by omega) (iT (by omega) ?_)))
      rw [at_nat hlt, hv]
      refine bO rfl (bO rfl (bO rfl (bO rfl (bO rfl (bO rfl (bO rfl (bO hlb ?_)))))))
      refine iT rfl (iT (by constructor <;> omega) (iT (by omega) (iT (by omega) ?_)))
      refine bO rfl (bO rfl (bO rfl (bO rfl (bO rfl (bO rfl (bO rfl ?_))))))
      exact iF (by simp) e
     ·rcases List.mem_append.1 hv with hv | hv
      ·exact h v hv
      ·rw [List.mem_singleton.1 hv]; exact hE
     ·rw [q.own, atA_append, atA_one_eq, q.mon rfl]; simp
     ·rw [q.oth b hb, atA_append, atA_one_ne (Ne.symm hb), atA_cons _ (List.drop (j + 1) x2), atA_one_ne (Ne.symm hb)]; simp
     ·have := q.len
      rw [q.mon rfl] at this ⊢
      rw [atA_cons _ (List.drop (j + 1) x2), atA_one_eq]
      simp at this ⊢; omega
    ·obtain ⟨d', o', e, q⟩ := ih false o (by omega) (by omega) (by first | omega | (simp; omega)) (by first | omega | (simp; omega))
     refine ⟨d', o', ?_, ⟨q.ty, q.own, fun b hb => ?_, fun h => (by cases h), ?_⟩⟩
     ·refine iT (by simp; omega) (iT rfl (iT (by omega) (iT (by omega) ?_)))
      rw [at_nat hlt, hv]
      refine bO rfl (bO rfl (bO rfl (bO rfl (bO rfl (bO rfl (bO rfl (bO hlb ?_)))))))
      refine iF (by simp) (iT (by omega) (iT (by omega) ?_))
      refine bO rfl (bO rfl (bO rfl (bO rfl (bO rfl (bO rfl (bO rfl ?_))))))
      exact iF (by simp) e
     ·rw [q.oth b hb, atA_cons _ (List.drop (j + 1) x2), atA_one_ne (Ne.symm hb)]; simp
     ·have := q.len
      rw [atA_cons _ (List.drop (j + 1) x2), atA_one_eq]
      simp at this ⊢; omega
   ·obtain ⟨d', o', e, q⟩ := ih true o (by omega) (by omega) (by first | omega | (simp; omega)) (fun h => by cases h)
    refine ⟨d', o', ?_, ⟨q.ty, by rw [q.own], fun b hb => ?_, fun _ => q.mon rfl, ?_⟩⟩
    ·refine iT (by simp; omega) (iF (by simp) (iT (by omega) (iT (by omega) ?_)))
     rw [at_nat hlt, hv]
     refine bO rfl (bO rfl (bO rfl (bO rfl (bO rfl (bO rfl (bO rfl ?_))))))
     exact iF (by simp) e
    ·rw [q.oth b hb, atA_cons _ (List.drop (j + 1) x2), atA_one_ne (Ne.symm hb)]; simp
    ·have := q.len
     rw [atA_cons _ (List.drop (j + 1) x2), atA_one_eq]
     simp at this ⊢; omega
  ·cases d
   ·have hod' := hod rfl
    obtain ⟨lb, hlb⟩ := less_tot (n := n) hn c0 x5
    cases lb
    ·obtain ⟨d', o', e, q⟩ := ih true ((o ++ [mkEn x5 x7 x8 x9 x10]) ++ [mkEn c0 nn w c s]) (by omega) (by omega) (by first | omega | (simp; omega)) (fun h => by cases h)
     refine ⟨d', o', ?_, ⟨fun h => q.ty fun v hv => ?_, ?_, fun b hb => ?_, fun _ => q.mon rfl, ?_⟩⟩
     ·refine iT (by simp; omega) (iT rfl (iT (by omega) (iT (by omega) ?_)))
      rw [at_nat hlt, hv]
      refine bO rfl (bO rfl (bO rfl (bO rfl (bO rfl (bO rfl (bO rfl (bO hlb ?_)))))))
      refine iT rfl (iT (by constructor <;> omega) (iT (by omega) (iT (by omega) ?_)))
      refine bO rfl (bO rfl (bO rfl (bO rfl (bO rfl (bO rfl (bO rfl ?_))))))
      refine iT (by simpa using hc) (iT (by omega) (iT (by omega) ?_))
      refine bO rfl (bO rfl (bO rfl (bO rfl (bO rfl (bO rfl (bO rfl ?_))))))
      exact iT (by simp only [List.length_append, List.length_singleton]; constructor <;> omega) e
     ·rcases List.mem_append.1 hv with hv | hv
      ·rcases List.mem_append.1 hv with hv | hv
       ·exact h v hv
       ·rw [List.mem_singleton.1 hv]; exact hE
      ·rw [List.mem_singleton.1 hv]; exact hV
     ·rw [q.own, atA_append, atA_append, atA_one_eq, atA_one_ne hc, q.mon rfl]; simp
     ·rw [q.oth b hb, atA_append, atA_append, atA_one_ne (Ne.symm hb), atA_cons _ (List.drop (j + 1) x2)]; simp
     ·have := q.len
      rw [q.mon rfl] at this ⊢
      rw [atA_cons _ (List.drop (j + 1) x2), atA_one_ne hc]
      simp at this ⊢; omega
    ·obtain ⟨d', o', e, q⟩ := ih false (o ++ [mkEn c0 nn w c s]) (by omega) (by omega) (by first | omega | (simp; omega)) (by first | omega | (simp; omega))
     refine ⟨d', o', ?_, ⟨fun h => q.ty fun v hv => ?_, ?_, fun b hb => ?_, fun h => (by cases h), ?_⟩⟩
     ·refine iT (by simp; omega) (iT rfl (iT (by omega) (iT (by omega) ?_)))
      rw [at_nat hlt, hv]
      refine bO rfl (bO rfl (bO rfl (bO rfl (bO rfl (bO rfl (bO rfl (bO hlb ?_)))))))
      refine iF (by simp) (iT (by omega) (iT (by omega) ?_))
      refine bO rfl (bO rfl (bO rfl (bO rfl (bO rfl (bO rfl (bO rfl ?_))))))
      refine iT (by simpa using hc) (iT (by omega) (iT (by omega) ?_))
      refine bO rfl (bO rfl (bO rfl (bO rfl (bO rfl (bO rfl (bO rfl ?_))))))
      exact iT (by constructor <;> omega) e
     ·rcases List.mem_append.1 hv with hv | hv
      ·exact h v hv
      ·rw [List.mem_singleton.1 hv]; exact hV
     ·rw [q.own, atA_append, atA_one_ne hc]; simp
     ·rw [q.oth b hb, atA_append, atA_cons _ (List.drop (j + 1) x2)]; simp
     ·have := q.len
      rw [atA_cons _ (List.drop (j + 1) x2), atA_one_ne hc]
      simp at this ⊢; omega
   ·obtain ⟨d', o', e, q⟩ := ih true (o ++ [mkEn c0 nn w c s]) (by omega) (by omega) (by first | omega | (simp; omega)) (fun h => by cases h)
    refine ⟨d', o', ?_, ⟨fun h => q.ty fun v hv => ?_, ?_, fun b hb => ?_, fun _ => q.mon rfl, ?_⟩⟩
    ·refine iT (by simp; omega) (iF (by simp) (iT (by omega) (iT (by omega) ?_)))
     rw [at_nat hlt, hv]
     refine bO rfl (bO rfl (bO rfl (bO rfl (bO rfl (bO rfl (bO rfl ?_))))))
     refine iT (by simpa using hc) (iT (by omega) (iT (by omega) ?_))
     refine bO rfl (bO rfl (bO rfl (bO rfl (bO rfl (bO rfl (bO rfl ?_))))))
     exact iT (by constructor <;> omega) e
    ·rcases List.mem_append.1 hv with hv | hv
     ·exact h v hv
     ·rw [List.mem_singleton.1 hv]; exact hV
    ·rw [q.own, atA_append, atA_one_ne hc]; simp
    ·rw [q.oth b hb, atA_append, atA_cons _ (List.drop (j + 1) x2)]; simp
    ·have := q.len
     rw [atA_cons _ (List.drop (j + 1) x2), atA_one_ne hc]
     simp at this ⊢; omega
end
theorem put_ok {n : Nat} (hn : 1002 ≤ n) (a : List Int) (nn : Int) (w c : List Int) (s L : List AV) (g x : Int) (hL : ∀ v ∈ L, EnW v) (hl : L.length ≤ 1000) (hs : ∀ v ∈ s, KvW v) (ls : s.length ≤ 301) (lc : c.length ≤ 5000) :
  ∃ L', Fal.m n (a, nn, w, c, s, L, g, x) = some (L', g, x) ∧ (∀ v ∈ L', EnW v) ∧ atA L' a = [mkEn a nn w c s] ∧ (∀ b, b ≠ a → atA L' b = atA L b) ∧ L'.length + (atA L a).length = L.length + 1 := by
 obtain ⟨d', o', e, q⟩ := put_loop (fun a0 a1 a2 a3 a4 a5 a6 a7 a8 a9 => (a0, a1, a2, a3, a4, a5, a6, a7, a8, a9)) n (by omega) L hL hl g x a nn w c s hs ls lc L.length n 0 false [] (by omega) (by omega) (by simp) (by simp)
 have hE : EnW (mkEn a nn w c s) := ⟨_, _, _, _, _, rfl, hs, ls, lc⟩
 have hb := q.len
 simp only [List.drop_zero] at hb q
 cases d'
 ·refine ⟨o' ++ [mkEn a nn w c s], bO e (iT rfl (iT ?_ rfl)), fun v hv => ?_, ?_, fun b hb => ?_, ?_⟩
  ·simp at hb; constructor <;> simp <;> omega
  ·rcases List.mem_append.1 hv with hv | hv
   ·exact q.ty (by simp) v hv
   ·rw [List.mem_singleton.1 hv]; exact hE
  ·rw [atA_append, q.own, atA_one_eq]; simp [atA]
  ·rw [atA_append, q.oth b hb, atA_one_ne (Ne.symm hb)]; simp [atA]
  ·simp at hb ⊢; omega
 ·refine ⟨o', bO e (iF (by simp) rfl), q.ty (by simp), ?_, fun b hb => ?_, ?_⟩
  ·rw [q.own]; simp [atA]
  ·rw [q.oth b hb]; simp [atA]
  ·simp at hb ⊢; omega
end Go.Abs.Pure
end
section
set_option linter.unusedVariables false
set_option linter.unusedSimpArgs false
set_option maxRecDepth 100000
namespace Go.Abs.Pure
open Go Go.Abs Go.Proofs
theorem at_loop {α : Type} (mk0 : Int → α) (mk1 : α) (n : Nat) (L : List AV) (hL : ∀ v ∈ L, EnW v) (hl : L.length ≤ 1000) (g x : Int) (a : List Int) : ∀ (k m j : Nat), j + k = L.length → k < m →
  (∃ i, ∃ h : i < L.length, Fap.l2_0.g mk0 mk1 n m (j : Int) L g x a = some (mk0 (i : Int)) ∧ ∃ r, atA (L.drop j) a = L[i] :: r) ∨ (Fap.l2_0.g mk0 mk1 n m (j : Int) L g x a = some mk1 ∧ atA (L.drop j) a = [])
 | 0, m + 1, j, hj, _ => by
  refine .inr ⟨iF (by simp; omega) rfl, ?_⟩
  rw [List.drop_of_length_le (by omega)]; rfl
 | k + 1, m + 1, j, hj, hm => by
  have hlt : j < L.length := by omega
  obtain ⟨c0, nn, w, c, s, hv, _⟩ := hL L[j] (List.getElem_mem hlt)
  have ih := at_loop mk0 mk1 n L hL hl g x a k m (j + 1) (by omega) (by omega)
  rw [← next_at (j := j) (by omega)] at ih
  rw [List.drop_eq_getElem_cons hlt, atA_cons _ (L.drop (j + 1))]
  by_cases hc : c0 = a
  ·subst hc
   refine .inl ⟨j, hlt, ?_, atA (L.drop (j + 1)) c0, by rw [hv, atA_one_eq]; rfl⟩
   refine iT (by simp; omega) (iT (by omega) (iT (by omega) ?_))
   rw [at_nat hlt, hv]
   refine bO rfl (bO rfl (bO rfl (bO rfl (bO rfl (bO rfl (bO rfl ?_))))))
   exact iT (by simp) rfl
  ·have hno : atA [L[j]] a = [] := by rw [hv, atA_one_ne hc]
   rw [hno, List.nil_append]
   have key : ∀ {r : Option α}, Fap.l2_0.g mk0 mk1 n m (IntKind.wrap .i64 ((j : Int) + 1)) L g x a = r → Fap.l2_0.g mk0 mk1 n (m + 1) (j : Int) L g x a = r := fun {r} e => by
    refine iT (by simp; omega) (iT (by omega) (iT (by omega) ?_))
    rw [at_nat hlt, hv]
    refine bO rfl (bO rfl (bO rfl (bO rfl (bO rfl (bO rfl (bO rfl ?_))))))
    exact iF (by simpa using hc) e
   rcases ih with ⟨i, hi, e, hr⟩ | ⟨e, hr⟩
   ·exact .inl ⟨i, hi, key e, hr⟩
   ·exact .inr ⟨key e, hr⟩
theorem get_ok {n : Nat} (hn : 1001 ≤ n) {a : List Int} {L : List AV} (hL : ∀ v ∈ L, EnW v) (hl : L.length ≤ 1000) (g x : Int) {nn : Int} {w c : List Int} {s : List AV} (ha : atA L a = [mkEn a nn w c s]) : Fam.m n (a, L, g, x) = some (.inr (nn, w, c, s, L, g, x)) := by
 rcases at_loop (fun a0 => Sum.inl a0) (Sum.inr ()) n L hL hl g x a L.length n 0 (by omega) (by omega) with ⟨i, hi, e, r, hr⟩ | ⟨e, hr⟩
 ·rw [List.drop_zero, ha] at hr
  have hv : L[i] = mkEn a nn w c s := by injection hr with h _; exact h.symm
  have e' : Fap.m n (L, g, x, a) = some (i : Int) := bO e rfl
  refine bO e' (iF (by simp) (iT (by omega) (iT (show (i : Int) < ((L.length : Nat) : Int) by omega) ?_)))
  rw [at_nat hi, hv]
  exact bO rfl (bO rfl (bO rfl (bO rfl (bO rfl (bO rfl (bO rfl rfl))))))
 ·rw [List.drop_zero, ha] at hr; cases hr
def fnd (s : List AV) (k : List Int) : Option AV := s.find? fun v => accK v == k
def valO : Option AV → List Int
 | some v => valK v
 | none => [0, 0, 0, 0]
def lks (s : List AV) (k : List Int) : List Int := valO (fnd s k)
theorem fnd_append (s t : List AV) (k : List Int) : fnd (s ++ t) k = (fnd s k).or (fnd t k) := List.find?_append
theorem fnd_one_eq (k w : List Int) : fnd [mkKv k w] k = some (mkKv k w) := by simp [fnd, accK_kv]
theorem fnd_one_ne {k k' : List Int} (h : k ≠ k') (w : List Int) : fnd [mkKv k w] k' = none := by simp [fnd, accK_kv, h]
theorem fnd_cons (v : AV) (s : List AV) (k : List Int) : fnd (v :: s) k = (fnd [v] k).or (fnd s k) := by rw [← fnd_append]; rfl
theorem fnd_nil (k : List Int) : fnd [] k = none := rfl
structure SetQ (key v : List Int) (D : List AV) (d : Bool) (o : List AV) (d' : Bool) (o' : List AV) : Prop where
 ty : (∀ z ∈ o, KvW z) → ∀ z ∈ o', KvW z
 own : fnd o' key = (fnd o key).or (if !d && d' then some (mkKv key v) else none)
 oth : ∀ k, k ≠ key → fnd o' k = (fnd o k).or (fnd D k)
 mon : d = true → d' = true
 len : o'.length ≤ o.length + D.length + if !d && d' then 1 else 0
theorem cmp_ne {x y : List Int} (hx : W4 x) (hy : W4 y) : (cmpOf (V x) (V y) != 0) = !(x == y) := by
 rw [beq_V hx hy]
 unfold cmpOf
 by_cases h1 : V x < V y
 ·rw [if_pos h1, decide_eq_false (by omega)]; rfl
 ·rw [if_neg h1]
  by_cases h2 : V x = V y
  ·rw [if_pos h2, decide_eq_true h2]; rfl
  ·rw [if_neg h2, decide_eq_false h2]; rfl
section
variable {α : Type} (mk : Bool → List AV → Int → Int → List AV → List Int → List Int → Int → List Int → List Int → List AV → List Int → α) (n : Nat) (hn : 100 ≤ n) (x2 : List AV) (x3 x4 x5 : Int) (x6 x7 : List Int) (x8 : List AV) (hx : ∀ v ∈ x8, KvW v) (hl : x8.length ≤ 1000) (x9 x11 x12 : List Int) (h9 : W4 x9) (h11 : W4 x11)
include hn hx hl h9 h11
theorem set_loop : ∀ (k m j : Nat) (d : Bool) (o : List AV), j + k = x8.length → k < m → o.length ≤ j + 1 → (d = false → o.length ≤ j) →
  ∃ d' o', Fy.l5v1_0.g mk n m (j : Int) d x2 x3 x4 x5 x6 x7 x8 x9 o x11 x12 = some (mk d' x2 x3 x4 o' x9 x11 x5 x6 x7 x8 x12) ∧ SetQ x9 x11 (x8.drop j) d o d' o'
 | 0, m + 1, j, d, o, hj, _, _, _ => by
  refine ⟨d, o, iF (by simp; omega) rfl, ?_⟩
  rw [List.drop_of_length_le (by omega)]
  exact ⟨id, by cases d <;> simp, fun k _ => by simp [fnd_nil], id, by cases d <;> simp⟩
 | k + 1, m + 1, j, d, o, hj, hm, ho, hod => by
  have hlt : j < x8.length := by omega
  obtain ⟨kz, wz, hv, h1, h2⟩ := hx x8[j] (List.getElem_mem hlt)
  have hE : KvW (mkKv x9 x11) := ⟨_, _, rfl, h9, h11⟩
  have hV : KvW (mkKv kz wz) := ⟨_, _, rfl, h1, h2⟩
  have hcmp := q01_Cmp_ok (n := n) hn h1 h9
  have hne := cmp_ne h1 h9
  have ih := set_loop k m (j + 1)
  rw [← next_at (j := j) (by omega)] at ih
  rw [List.drop_eq_getElem_cons hlt, hv]
  generalize hcv : cmpOf (V kz) (V x9) = cv at hcmp hne
  by_cases hc : kz = x9
  ·subst hc
   have hz : cv = 0 := by simpa using hne
   subst hz
   cases d
   ·have hod' := hod rfl
    obtain ⟨d', o', e, q⟩ := ih true (o ++ [mkKv kz x11]) (by omega) (by omega) (by first | omega | (simp; omega)) (fun h => by cases h)
    refine ⟨d', o', ?_, ⟨fun h => q.ty fun z hz => ?_, ?_, fun k' hk => ?_, fun _ => q.mon rfl, ?_⟩⟩
    ·refine iT (by simp; omega) (iT (by omega) (iT (by omega) ?_))
     rw [at_nat hlt, hv]
     refine bO rfl (bO rfl (bO rfl (bO hcmp ?_)))
     refine iT rfl (iT (by decide) (iT (by constructor <;> omega) ?_))
     exact iF (by decide) e
    ·rcases List.mem_append.1 hz with hz | hz
     ·exact h z hz
     ·rw [List.mem_singleton.1 hz]; exact hE
    ·rw [q.own, fnd_append, fnd_one_eq, q.mon rfl]; simp
    ·show _ = (fnd o k').or (fnd (mkKv kz wz :: List.drop (j + 1) x8) k')
     rw [q.oth k' hk, fnd_append, fnd_one_ne (Ne.symm hk), fnd_cons _ (List.drop (j + 1) x8), fnd_one_ne (Ne.symm hk)]; simp
    ·have := q.len
     rw [q.mon rfl] at this ⊢
     simp at this ⊢; omega
   ·obtain ⟨d', o', e, q⟩ := ih true o (by omega) (by omega) (by omega) (fun h => by cases h)
    refine ⟨d', o', ?_, ⟨q.ty, by rw [q.own], fun k' hk => ?_, fun _ => q.mon rfl, ?_⟩⟩
    ·refine iT (by simp; omega) (iT (by omega) (iT (by omega) ?_))
     rw [at_nat hlt, hv]
     refine bO rfl (bO rfl (bO rfl (bO hcmp ?_)))
     exact iF (by simp) (iF (by decide) e)
    ·show _ = (fnd o k').or (fnd (mkKv kz wz :: List.drop (j + 1) x8) k')
     rw [q.oth k' hk, fnd_cons _ (List.drop (j + 1) x8), fnd_one_ne (Ne.symm hk)]; simp
    ·have := q.len
     simp at this ⊢; omega
  ·have hz : (cv != 0) = true := by rw [hne]; simpa using hc
   cases d
   ·have hod' := hod rfl
    by_cases hge : cv ≥ 0
    ·obtain ⟨d', o', e, q⟩ := ih true ((o ++ [mkKv x9 x11]) ++ [mkKv kz wz]) (by omega) (by omega) (by first | omega | (simp; omega)) (fun h => by cases h)
     refine ⟨d', o', ?_, ⟨fun h => q.ty fun z hz => ?_, ?_, fun k' hk => ?_, fun _ => q.mon rfl, ?_⟩⟩
     ·refine iT (by simp; omega) (iT (by omega) (iT (by omega) ?_))
      rw [at_nat hlt, hv]
      refine bO rfl (bO rfl (bO rfl (bO hcmp ?_)))
      refine iT rfl (iT (by simpa using hge) (iT (by constructor <;> omega) ?_))
      refine iT hz (iT (by omega) (iT (by omega) ?_))
      refine bO rfl (bO rfl (bO rfl ?_))
      exact iT (by simp only [List.length_append, List.length_singleton]; constructor <;> omega) e
     ·rcases List.mem_append.1 hz with hz | hz
      ·rcases List.mem_append.1 hz with hz | hz
       ·exact h z hz
       ·rw [List.mem_singleton.1 hz]; exact hE
      ·rw [List.mem_singleton.1 hz]; exact hV
     ·rw [q.own, fnd_append, fnd_append, fnd_one_eq, fnd_one_ne hc, q.mon rfl]; simp
     ·show _ = (fnd o k').or (fnd (mkKv kz wz :: List.drop (j + 1) x8) k')
      rw [q.oth k' hk, fnd_append, fnd_append, fnd_one_ne (Ne.symm hk), fnd_cons _ (List.drop (j + 1) x8)]; simp [Option.or_assoc]
     ·have := q.len
      rw [q.mon rfl] at this ⊢
      simp at this ⊢; omega
    ·obtain ⟨d', o', e, q⟩ := ih false (o ++ [mkKv kz wz]) (by omega) (by omega) (by first | omega | (simp; omega)) (by first | omega | (simp; omega))
     refine ⟨d', o', ?_, ⟨fun h => q.ty fun z hz => ?_, ?_, fun k' hk => ?_, fun h => (by cases h), ?_⟩⟩
     ·refine iT (by simp; omega) (iT (by omega) (iT (by omega) ?_))
      rw [at_nat hlt, hv]
      refine bO rfl (bO rfl (bO rfl (bO hcmp ?_)))
      refine iT rfl (iF (by simpa using hge) ?_)
      refine iT hz (iT (by omega) (iT (by omega) ?_))
      refine bO rfl (bO rfl (bO rfl ?_))
      exact iT (by constructor <;> omega) e
     ·rcases List.mem_append.1 hz with hz | hz
      ·exact h z hz
      ·rw [List.mem_singleton.1 hz]; exact hV
     ·rw [q.own, fnd_append, fnd_one_ne hc]; simp
     ·show _ = (fnd o k').or (fnd (mkKv kz wz :: List.drop (j + 1) x8) k')
      rw [q.oth k' hk, fnd_append, fnd_cons _ (List.drop (j + 1) x8), Option.or_assoc]
     ·have := q.len
      simp at this ⊢; omega
   ·obtain ⟨d', o', e, q⟩ := ih true (o ++ [mkKv kz wz]) (by omega) (by omega) (by first | omega | (simp; omega)) (fun h => by cases h)
    refine ⟨d', o', ?_, ⟨fun h => q.ty fun z hz => ?_, ?_, fun k' hk => ?_, fun _ => q.mon rfl, ?_⟩⟩
    ·refine iT (by simp; omega) (iT (by omega) (iT (by omega) ?_))
     rw [at_nat hlt, hv]
     refine bO rfl (bO rfl (bO rfl (bO hcmp ?_)))
     refine iF (by simp) (iT hz (iT (by omega) (iT (by omega) ?_)))
     refine bO rfl (bO rfl (bO rfl ?_))
     exact iT (by constructor <;> omega) e
    ·rcases List.mem_append.1 hz with hz | hz
     ·exact h z hz
     ·rw [List.mem_singleton.1 hz]; exact hV
    ·rw [q.own, fnd_append, fnd_one_ne hc]; simp
    ·show _ = (fnd o k').or (fnd (mkKv kz wz :: List.drop (j + 1) x8) k')
     rw [q.oth k' hk, fnd_append, fnd_cons _ (List.drop (j + 1) x8), Option.or_assoc]
    ·have := q.len
     simp at this ⊢; omega
end
theorem setSlot_ok {n : Nat} (hn : 1002 ≤ n) {a : List Int} (key v : List Int) {L : List AV} (hL : ∀ z ∈ L, EnW z) (hl : L.length ≤ 1000) (g x : Int) {nn : Int} {w c : List Int} {s : List AV} (ha : atA L a = [mkEn a nn w c s]) (hs : ∀ z ∈ s, KvW z) (ls : s.length ≤ 300) (lc : c.length ≤ 5000) (h9 : W4 key) (h11 : W4 v) :
  ∃ L' s', Fy.m n (a, key, v, L, g, x) = some (L', g, x) ∧ (∀ z ∈ L', EnW z) ∧ atA L' a = [mkEn a nn w c s'] ∧ (∀ b, b ≠ a → atA L' b = atA L b) ∧ L'.length = L.length ∧ (∀ z ∈ s', KvW z) ∧ s'.length ≤ s.length + 1 ∧ lks s' key = v ∧ ∀ k, k ≠ key → lks s' k = lks s k := by
 have eg := get_ok (n := n) (by omega) hL hl g x ha
 obtain ⟨d', o', e, q⟩ := set_loop (fun a0 a1 a2 a3 a4 a5 a6 a7 a8 a9 a10 a11 => (a0, a1, a2, a3, a4, a5, a6, a7, a8, a9, a10, a11)) n (by omega) L g x nn w c s hs (by omega) key v a h9 h11 s.length n 0 (v == [0, 0, 0, 0]) [] (by omega) (by omega) (by simp) (by simp)
 have hb := q.len
 have hE : KvW (mkKv key v) := ⟨_, _, rfl, h9, h11⟩
 simp only [List.drop_zero] at hb q
 have hoth : ∀ k, k ≠ key → fnd o' k = fnd s k := fun k hk => by rw [q.oth k hk, fnd_nil]; rfl
 cases d'
 ·have hv : (v == [0, 0, 0, 0]) = false := by
   cases hh : v == [0, 0, 0, 0]
   ·rfl
   ·exact absurd (q.mon hh) (by simp)
  obtain ⟨L', e2, t1, t2, t3, t4⟩ := put_ok (n := n) hn a nn w c (o' ++ [mkKv key v]) L g x hL hl (fun z hz => by
   rcases List.mem_append.1 hz with hz | hz
   ·exact q.ty (by simp) z hz
   ·rw [List.mem_singleton.1 hz]; exact hE) (by simp at hb ⊢; omega) lc
  refine ⟨L', o' ++ [mkKv key v], bO eg (bO e (iT rfl (iT ?_ (bO e2 rfl)))), t1, t2, t3, by rw [ha] at t4; simpa using t4, fun z hz => ?_, by simp at hb ⊢; omega, ?_, fun k hk => ?_⟩
  ·simp at hb; constructor <;> simp <;> omega
  ·rcases List.mem_append.1 hz with hz | hz
   ·exact q.ty (by simp) z hz
   ·rw [List.mem_singleton.1 hz]; exact hE
  ·unfold lks
   rw [fnd_append, q.own, fnd_nil, hv, fnd_one_eq]; rfl
  ·unfold lks
   rw [fnd_append, hoth k hk, fnd_one_ne (Ne.symm hk)]; simp
 ·obtain ⟨L', e2, t1, t2, t3, t4⟩ := put_ok (n := n) hn a nn w c o' L g x hL hl (q.ty (by simp)) (by simp at hb; split at hb <;> omega) lc
  refine ⟨L', o', bO eg (bO e (iF (by simp) (bO e2 rfl))), t1, t2, t3, by rw [ha] at t4; simpa using t4, q.ty (by simp), by simp at hb; split at hb <;> omega, ?_, fun k hk => ?_⟩
  ·unfold lks
   rw [q.own, fnd_nil]
   by_cases hv : v = [0, 0, 0, 0]
   ·subst hv; rfl
   ·have : (v == [0, 0, 0, 0]) = false := by simpa using hv
    rw [this]; rfl
  ·unfold lks
   rw [hoth k hk]
end Go.Abs.Pure
end
section
set_option linter.unusedVariables false
set_option linter.unusedSimpArgs false
set_option maxRecDepth 100000
namespace Go.Abs.Pure
open Go Go.Abs Go.Proofs
abbrev Fc := List Int → List Int → List Int
def zeroF : Fc := fun _ _ => [0, 0, 0, 0]
def upS (a : List Int) (f : Fc) (z : AV) : Fc := fun b k => if b = a ∧ k = accK z then valK z else f b k
def clr (a : List Int) (f : Fc) : Fc := fun b k => if b = a then [0, 0, 0, 0] else f b k
def upE (f : Fc) (v : AV) : Fc := (slotsOf v).foldl (upS (accK v)) (clr (accK v) f)
def fL (L : List AV) : Fc := fun b k => lks ((atA L b).flatMap slotsOf) k
theorem new9 {α : Type} (mk : Int → List AV → List AV → Int → Int → α) {n : Nat} (hn : 1002 ≤ n) (x1 : Int) (x2 : List AV) (x3 : List Int) (x4 : Int) (x5 x6 : List Int) (S : List AV) (hS : ∀ z ∈ S, KvW z) (lS : S.length ≤ 300) (a : List Int) (nn : Int) (w c : List Int) (lc : c.length ≤ 5000) (g x : Int) : ∀ (k m j : Nat) (L s : List AV), j + k = S.length → k < m →
  (∀ z ∈ L, EnW z) → L.length ≤ 1000 → atA L a = [mkEn a nn w c s] → (∀ z ∈ s, KvW z) → s.length ≤ j →
  ∃ L', Fcj.l9_0.g mk n m (j : Int) x1 x2 x3 x4 x5 x6 S L g x a = some (mk x1 x2 L' g x) ∧ (∀ z ∈ L', EnW z) ∧ L'.length = L.length ∧ fL L' = (S.drop j).foldl (upS a) (fL L)
 | 0, m + 1, j, L, s, hj, _, hL, hl, ha, hs, ls => by
  refine ⟨L, iF (by simp; omega) rfl, hL, rfl, ?_⟩
  rw [List.drop_of_length_le (by omega)]; rfl
 | k + 1, m + 1, j, L, s, hj, hm, hL, hl, ha, hs, ls => by
  have hlt : j < S.length := by omega
  obtain ⟨kz, wz, hv, h1, h2⟩ := hS S[j] (List.getElem_mem hlt)
  obtain ⟨L1, s1, e1, t1, t2, t3, t4, t5, t6, t7, t8⟩ := setSlot_ok (n := n) hn kz wz hL hl g x ha hs (by omega) lc h1 h2
  obtain ⟨L', e, u1, u2, u3⟩ := new9 mk hn x1 x2 x3 x4 x5 x6 S hS lS a nn w c lc g x k m (j + 1) L1 s1 (by omega) (by omega) t1 (by omega) t2 t5 (by omega)
  rw [← next_at (j := j) (by omega)] at e
  refine ⟨L', ?_, u1, by omega, ?_⟩
  ·refine iT (by simp; omega) (iT (by omega) (iT (by omega) ?_))
   rw [at_nat hlt, hv]
   refine bO rfl (bO rfl (bO rfl (iT (by omega) (iT (by omega) (bO rfl (bO rfl (bO rfl ?_)))))))
   exact bO e1 e
  ·rw [u3, List.drop_eq_getElem_cons hlt, List.foldl_cons]
   congr 1
   funext b k'
   show lks ((atA L1 b).flatMap slotsOf) k' = if b = a ∧ k' = accK S[j] then valK S[j] else lks ((atA L b).flatMap slotsOf) k'
   by_cases hb : b = a
   ·subst hb
    rw [t2, ha, hv]
    have hk1 : accK (AV.agg [.ints .u64 4 kz, .ints .u64 4 wz]) = kz := rfl
    have hk2 : valK (AV.agg [.ints .u64 4 kz, .ints .u64 4 wz]) = wz := rfl
    rw [hk1, hk2]
    show lks (s1 ++ []) k' = if b = b ∧ k' = kz then wz else lks (s ++ []) k'
    rw [List.append_nil, List.append_nil]
    by_cases hk : k' = kz
    ·rw [if_pos ⟨rfl, hk⟩, hk]; exact t7
    ·rw [if_neg fun h => hk h.2]; exact t8 k' hk
   ·rw [t3 b hb, if_neg fun h => hb h.1]
theorem new3 {α : Type} (mk : List AV → Int → Int → α) {n : Nat} (hn : 1002 ≤ n) (e : List AV) (he : ∀ v ∈ e, EnW v) (he3 : ∀ v ∈ e, (slotsOf v).length ≤ 300) (le : e.length ≤ 300) (g x : Int) : ∀ (k m j : Nat) (L : List AV), j + k = e.length → k < m → (∀ z ∈ L, EnW z) → L.length ≤ j →
  ∃ L', Fcj.l3_0.g mk n m (j : Int) e L g x = some (mk L' g x) ∧ (∀ z ∈ L', EnW z) ∧ L'.length ≤ e.length ∧ fL L' = (e.drop j).foldl upE (fL L)
 | 0, m + 1, j, L, hj, _, hL, hl => by
  refine ⟨L, iF (by simp; omega) rfl, hL, by omega, ?_⟩
  rw [List.drop_of_length_le (by omega)]; rfl
 | k + 1, m + 1, j, L, hj, hm, hL, hl => by
  have hlt : j < e.length := by omega
  obtain ⟨a, nn, w, c, s, hv, hs, ls, lc⟩ := he e[j] (List.getElem_mem hlt)
  have ls3 := he3 e[j] (List.getElem_mem hlt)
  rw [hv, slotsOf_mk] at ls3
  obtain ⟨L1, e1, t1, t2, t3, t4⟩ := put_ok (n := n) hn a nn w c [] L g x hL (by omega) (by simp) (by simp) lc
  obtain ⟨L2, e2, u1, u2, u3⟩ := new9 (fun a0 a1 a2 a3 a4 => (a0, a1, a2, a3, a4)) hn (j : Int) e a nn w c s hs ls3 a nn w c lc g x s.length n 0 L1 [] (by omega) (by omega) t1 (by omega) t2 (by simp) (by simp)
  obtain ⟨L', e3, v1, v2, v3⟩ := new3 mk hn e he he3 le g x k m (j + 1) L2 (by omega) (by omega) u1 (by omega)
  rw [← next_at (j := j) (by omega)] at e3
  refine ⟨L', ?_, v1, v2, ?_⟩
  ·refine iT (by simp; omega) (iT (by omega) (iT (by omega) ?_))
   rw [at_nat hlt, hv]
   refine bO rfl (bO rfl (bO rfl (bO rfl (bO rfl (bO rfl (bO rfl ?_))))))
   have elc : Fby.m n c = some c := iT (show c.length * 1 ≤ 70368744177664 ∧ c.length ≤ 9223372036854775807 by constructor <;> omega) rfl
   exact bO elc (bO e1 (bO e2 e3))
  ·rw [v3, List.drop_eq_getElem_cons hlt, List.foldl_cons]
   congr 1
   rw [u3, hv]
   show List.foldl (upS a) (fL L1) (s.drop 0) = List.foldl (upS a) (clr a (fL L)) s
   rw [List.drop_zero]
   congr 1
   funext b k'
   show lks ((atA L1 b).flatMap slotsOf) k' = if b = a then [0, 0, 0, 0] else lks ((atA L b).flatMap slotsOf) k'
   by_cases hb : b = a
   ·subst hb; rw [t2, if_pos rfl]; rfl
   ·rw [t3 b hb, if_neg hb]
theorem lent_loop {α : Type} (mk : List AV → α) (n : Nat) (L : List AV) (hL : ∀ v ∈ L, EnW v) (hl : L.length ≤ 1000) : ∀ (k m j : Nat) (o : List AV), j + k = L.length → k < m → o.length = j → Tot (Fca.l3_0.g mk n m (j : Int) L o)
 | 0, m + 1, j, o, hj, _, _ => ⟨mk o, iF (by simp; omega) rfl⟩
 | k + 1, m + 1, j, o, hj, hm, ho => by
  have hlt : j < L.length := by omega
  obtain ⟨a, nn, w, c, s, hv, hs, ls, lc⟩ := hL L[j] (List.getElem_mem hlt)
  obtain ⟨r, ih⟩ := lent_loop mk n L hL hl k m (j + 1) (o ++ [mkEn a nn w c s]) (by omega) (by omega) (by simp; omega)
  rw [← next_at (j := j) (by omega)] at ih
  refine ⟨r, iT (by simp; omega) (iT (by omega) (iT (by omega) ?_))⟩
  rw [at_nat hlt, hv]
  refine bO rfl (bO rfl (bO rfl (bO rfl (bO rfl (bO rfl (bO rfl ?_))))))
  have elc : Fby.m n c = some c := iT (show c.length * 1 ≤ 70368744177664 ∧ c.length ≤ 9223372036854775807 by constructor <;> omega) rfl
  exact bO elc (iT (by constructor <;> omega) (iT (by constructor <;> omega) ih))
theorem newRef {n : Nat} (hn : 1002 ≤ n) {e : List AV} (he : ∀ v ∈ e, EnW v) (he3 : ∀ v ∈ e, (slotsOf v).length ≤ 300) (le : e.length ≤ 300) : ∃ L W, Fcj.m n e = some (L, W, 0, 0) ∧ (∀ z ∈ L, EnW z) ∧ L.length ≤ 300 ∧ fL L = e.foldl upE zeroF := by
 obtain ⟨L, e1, t1, t2, t3⟩ := new3 (fun a0 a1 a2 => (a0, a1, a2)) hn e he he3 le 0 0 e.length n 0 [] (by omega) (by omega) (by simp) (by simp)
 obtain ⟨W, e2⟩ := lent_loop (fun a0 => a0) n L t1 (by omega) L.length n 0 [] (by omega) (by omega) (by simp)
 have e3 : Fca.m n L = some W := bO e2 rfl
 have e4 : Fah.m n (L, 0, 0) = some (L, W, 0, 0) := bO e3 rfl
 exact ⟨L, W, bO e1 (bO e4 rfl), t1, by omega, t3⟩
theorem of5 {α : Type} (mk0 mk1 : Int → List AV → List Int → List Int → List Int → α) (n : Nat) (L : List AV) (hL : ∀ v ∈ L, EnW v) (hl : L.length ≤ 1000) (a key z : List Int) (i : Nat) (hi : i < L.length) : ∀ (k m j : Nat), j + k = (slotsOf L[i]).length → k < m →
  Fcl.l5_0.g mk0 mk1 n m L (i : Int) (j : Int) a key z = some (match fnd ((atA [L[i]] a).flatMap slotsOf |>.drop j) key with | some v => mk0 i L (valK v) a key | none => mk1 i L z a key) := by
 intro k m j hj hm
 obtain ⟨c0, nn, w, c, s, hv, hs, ls, lc⟩ := hL L[i] (List.getElem_mem hi)
 rw [hv, slotsOf_mk] at hj
 by_cases hc : c0 = a
 ·subst hc
  have hat : (atA [L[i]] c0).flatMap slotsOf = s := by rw [hv, atA_one_eq]; show s ++ [] = s; simp
  rw [hat]
  revert hj hm
  induction k generalizing m j with
  | zero =>
   intro hj hm
   obtain ⟨m, rfl⟩ : ∃ m', m = m' + 1 := ⟨m - 1, by omega⟩
   rw [List.drop_of_length_le (by omega), fnd_nil]
   refine iT (by omega) ?_
   rw [at_nat hi, hv]
   refine bO rfl (bO rfl (bO rfl (bO rfl (bO rfl (bO rfl (bO rfl ?_))))))
   refine iT (by simp) (iT (by omega) (iT (by omega) ?_))
   refine bO rfl (bO rfl (bO rfl (bO rfl (bO rfl (bO rfl (bO rfl ?_))))))
   exact iF (by simp; omega) rfl
  | succ k ih =>
   intro hj hm
   obtain ⟨m, rfl⟩ : ∃ m', m = m' + 1 := ⟨m - 1, by omega⟩
   have hlt : j < s.length := by omega
   obtain ⟨kz, wz, hz, h1, h2⟩ := hs s[j] (List.getElem_mem hlt)
   have ih' := ih m (j + 1) (by omega) (by omega)
   rw [← next_at (j := j) (by omega)] at ih'
   rw [List.drop_eq_getElem_cons hlt, hz]
   refine iT (by omega) ?_
   rw [at_nat hi, hv]
   refine bO rfl (bO rfl (bO rfl (bO rfl (bO rfl (bO rfl (bO rfl ?_))))))
   refine iT (by simp) (iT (by omega) (iT (by omega) ?_))
   refine bO rfl (bO rfl (bO rfl (bO rfl (bO rfl (bO rfl (bO rfl ?_))))))
   refine iT (by simp; omega) (iT (by omega) (iT (by omega) ?_))
   refine bO rfl (bO rfl (bO rfl (bO rfl (bO rfl (bO rfl (bO rfl ?_))))))
   refine iT (by omega) (iT (by omega) ?_)
   rw [at_nat hlt, hz]
   refine bO rfl (bO rfl (bO rfl ?_))
   by_cases hk : kz = key
   ·subst hk
    have hf : fnd (AV.agg [.ints .u64 4 kz, .ints .u64 4 wz] :: s.drop (j + 1)) kz = some (AV.agg [.ints .u64 4 kz, .ints .u64 4 wz]) := by
     show List.find? _ (_ :: _) = _
     rw [List.find?_cons_of_pos]
     show (kz == kz) = true
     simp
    rw [hf]
    refine iT (by simp) (iT (by omega) (iT (by omega) ?_))
    refine bO rfl (bO rfl (bO rfl (bO rfl (bO rfl (bO rfl (bO rfl ?_))))))
    refine iT (by omega) (iT (by omega) ?_)
    rw [at_nat hlt, hz]
    exact bO rfl (bO rfl (bO rfl rfl))
   ·have hf : fnd (AV.agg [.ints .u64 4 kz, .ints .u64 4 wz] :: s.drop (j + 1)) key = fnd (s.drop (j + 1)) key := by
     show List.find? _ (_ :: _) = _
     rw [List.find?_cons_of_neg]
     ·rfl
     ·show ¬ (kz == key) = true
      simpa using hk
    rw [hf]
    exact iF (by simpa using hk) ih'
 ·have hat : (atA [L[i]] a).flatMap slotsOf = [] := by rw [hv, atA_one_ne hc]; rfl
  rw [hat, List.drop_nil, fnd_nil]
  obtain ⟨m, rfl⟩ : ∃ m', m = m' + 1 := ⟨m - 1, by omega⟩
  refine iT (by omega) ?_
  rw [at_nat hi, hv]
  refine bO rfl (bO rfl (bO rfl (bO rfl (bO rfl (bO rfl (bO rfl ?_))))))
  exact iF (by simpa using hc) rfl
theorem of2 {α : Type} (mk0 mk1 : List Int → α) {n : Nat} (hn : 400 ≤ n) (L : List AV) (hL : ∀ v ∈ L, EnW v) (hl : L.length ≤ 1000) (a key z : List Int) : ∀ (k m j : Nat), j + k = L.length → k < m →
  Fcl.l2_0.g mk0 mk1 n m (j : Int) L a key z = some (match fnd ((atA (L.drop j) a).flatMap slotsOf) key with | some v => mk0 (valK v) | none => mk1 z)
 | 0, m + 1, j, hj, _ => by
  rw [List.drop_of_length_le (by omega)]
  exact iF (by simp; omega) rfl
 | k + 1, m + 1, j, hj, hm => by
  have hlt : j < L.length := by omega
  have ih := of2 mk0 mk1 hn L hL hl a key z k m (j + 1) (by omega) (by omega)
  rw [← next_at (j := j) (by omega)] at ih
  obtain ⟨c0, nn, w, c, s, hv, hs, ls, lc⟩ := hL L[j] (List.getElem_mem hlt)
  have e := of5 (fun a0 a1 a2 a3 a4 => Sum.inl (a0, a1, a2, a3, a4)) (fun a0 a1 a2 a3 a4 => Sum.inr (a0, a1, a2, a3, a4)) n L hL hl a key z j hlt (slotsOf L[j]).length n 0 (by omega) (by rw [hv, slotsOf_mk]; omega)
  rw [List.drop_zero] at e
  have hd : fnd ((atA (L.drop j) a).flatMap slotsOf) key = (fnd ((atA [L[j]] a).flatMap slotsOf) key).or (fnd ((atA (L.drop (j + 1)) a).flatMap slotsOf) key) := by
   rw [List.drop_eq_getElem_cons hlt, atA_cons _ (L.drop (j + 1)), List.flatMap_append, fnd_append]
  rw [hd]
  refine iT (by simp; omega) (bO e ?_)
  cases fnd ((atA [L[j]] a).flatMap slotsOf) key with
  | some v => rfl
  | none => exact ih
theorem of_ok {n : Nat} (hn : 1002 ≤ n) {L : List AV} (hL : ∀ v ∈ L, EnW v) (hl : L.length ≤ 1000) (a key : List Int) : Fcl.m n (L, a, key) = some (fL L a key) := by
 have e := of2 (fun a0 => Sum.inl a0) (fun a0 => Sum.inr a0) (n := n) (by omega) L hL hl a key [0, 0, 0, 0] L.length n 0 (by omega) (by omega)
 rw [List.drop_zero] at e
 unfold fL lks
 refine bO e ?_
 cases fnd ((atA L a).flatMap slotsOf) key <;> rfl
end Go.Abs.Pure
end
section
set_option linter.unusedVariables false
set_option linter.unusedSimpArgs false
set_option maxRecDepth 100000
namespace Go.Abs.Pure
open Go Go.Abs Go.Proofs
section
variable {β : Type} [DecidableEq β] (f : AV → β) (kk : β)
theorem mget_is (k z : AV) : ∀ (l : List AV), (∀ x ∈ l, ∃ k' v', x = .agg [k', v'] ∧ eqAV k k' = some (decide (f x = kk))) →
  mgetL k z l = some (match l.find? (fun x => decide (f x = kk)) with | some x => (valOf x, true) | none => (z, false))
 | [], _ => rfl
 | x :: r, h => by
  obtain ⟨k', v', rfl, e⟩ := h x (by simp)
  have ih := mget_is k z r fun y hy => h y (by simp [hy])
  by_cases hd : f (.agg [k', v']) = kk
  ·rw [List.find?_cons_of_pos (by simpa using hd)]
   simp only [mgetL, mfindL, e, hd, decide_true]; rfl
  ·rw [List.find?_cons_of_neg (by simpa using hd), ← ih]
   rw [decide_eq_false hd] at e
   simp only [mgetL, mfindL, e]
   cases mfindL k r with
   | none => rfl
   | some o => cases o <;> rfl
def putS (new : AV) : List AV → List AV
 | [] => [new]
 | x :: r => if f x = kk then new :: r else x :: putS new r
theorem mput_is (k v : AV) : ∀ (l : List AV), (∀ x ∈ l, ∃ k' v', x = .agg [k', v'] ∧ eqAV k k' = some (decide (f x = kk))) → mputL k v l = some (putS f kk (.agg [k, v]) l)
 | [], _ => rfl
 | x :: r, h => by
  obtain ⟨k', v', rfl, e⟩ := h x (by simp)
  have ih := mput_is k v r fun y hy => h y (by simp [hy])
  by_cases hd : f (.agg [k', v']) = kk
  ·simp only [putS, if_pos hd]
   simp only [mputL, mfindL, e, hd, decide_true]; rfl
  ·simp only [putS, if_neg hd]
   rw [decide_eq_false hd] at e
   simp only [mputL] at ih
   simp only [mputL, mfindL, e]
   cases hm : mfindL k r with
   | none => rw [hm] at ih; cases ih
   | some o =>
    rw [hm] at ih
    cases o <;> (injection ih with ih; rw [← ih]; rfl)
theorem find_putS (new : AV) (hn : f new = kk) (k2 : β) : ∀ (l : List AV), (putS f kk new l).find? (fun x => decide (f x = k2)) = if k2 = kk then some new else l.find? (fun x => decide (f x = k2))
 | [] => by
  by_cases h : k2 = kk
  ·subst h; simp [putS, hn]
  ·rw [if_neg h]; simp only [putS, List.find?_cons, hn, decide_eq_false (Ne.symm h)]
 | x :: r => by
  have ih := find_putS new hn k2 r
  by_cases hx : f x = kk
  ·simp only [putS, if_pos hx]
   by_cases h : k2 = kk
   ·subst h; simp [hn]
   ·simp only [List.find?_cons, hn, hx, decide_eq_false (Ne.symm h), if_neg h]
  ·simp only [putS, if_neg hx, List.find?_cons]
   by_cases h : k2 = kk
   ·subst h
    rw [decide_eq_false hx, ih, if_pos rfl]
   ·rw [ih, if_neg h, if_neg h]
end
theorem find_filter (p q : AV → Bool) : ∀ (l : List AV), (l.filter p).find? q = l.find? fun x => p x && q x
 | [] => rfl
 | x :: r => by
  have ih := find_filter p q r
  cases hp : p x
  ·simp [List.filter_cons, List.find?_cons, hp, ih]
  ·cases hq : q x <;> simp [List.filter_cons, List.find?_cons, hp, hq, ih]
def lkm (q : List AV) : Fc := fun b k => valO (q.find? fun x => decide (dfDec x = some (b, k)))
theorem SlT.putF {l : List AV} (h : SlT l) (a k v : List Int) : ∃ l', mputL (.agg [.ints .u8 20 a, .ints .u64 4 k]) (.ints .u64 4 v) l = some l' ∧ SlT l' ∧ lkm l' = upS a (lkm l) (.agg [.ints .u64 4 k, .ints .u64 4 v]) := by
 obtain ⟨l', e, t⟩ := h.put a k v
 refine ⟨l', e, t, ?_⟩
 have e2 := mput_is dfDec (some (a, k)) _ (.ints .u64 4 v) l (h.key a k)
 obtain rfl := Option.some.inj (e.symm.trans e2)
 funext b k'
 show valO (List.find? _ _) = if b = a ∧ k' = k then v else _
 rw [find_putS dfDec (some (a, k)) _ rfl]
 by_cases hh : b = a ∧ k' = k
 ·rw [if_pos hh, if_pos (by rw [hh.1, hh.2])]; rfl
 ·rw [if_neg hh, if_neg fun e => hh (by injection e with e; injection e with e1 e2; exact ⟨e1, e2⟩)]; rfl
theorem SlT.forgetF {l : List AV} (h : SlT l) (a : List Int) : lkm (l.filter fun x => !dfDrop a x) = clr a (lkm l) := by
 funext b k
 show valO (List.find? _ _) = if b = a then [0, 0, 0, 0] else valO (List.find? _ _)
 rw [find_filter]
 by_cases hb : b = a
 ·rw [if_pos hb]
  have : List.find? (fun x => !dfDrop a x && decide (dfDec x = some (b, k))) l = none := by
   rw [List.find?_eq_none]
   intro x hx hc
   simp only [Bool.and_eq_true, decide_eq_true_eq] at hc
   have : dfDrop a x = true := by unfold dfDrop; rw [hc.2, hb]; simp
   rw [this] at hc
   exact absurd hc.1 (by simp)
  rw [this]; rfl
 ·rw [if_neg hb]
  refine congrArg valO ?_
  refine congrArg (fun p => List.find? p l) ?_
  funext x
  by_cases hc : dfDec x = some (b, k)
  ·have : dfDrop a x = false := by unfold dfDrop; rw [hc]; simpa using hb
   rw [this]; simp
  ·rw [decide_eq_false hc]; simp
theorem forgetF {n : Nat} (a : List Int) (r x : Int) {p q : List AV} (hp : AccT p) (hq : SlT q) : ∃ p' q', Fp.m n (a, r, x, p, q) = some (r, x, p', q') ∧ AccT p' ∧ SlT q' ∧ lkm q' = clr a (lkm q) := by
 obtain ⟨p', e, hp'⟩ := hp.del a
 exact ⟨_, _, bO e (bO (if_pos hq.ok) rfl), hp', hq.filter _, hq.forgetF a⟩
theorem newS8 {α : Type} (mk : Int → Int → List AV → Int → Int → List AV → List AV → α) (n : Nat) (x2 : List AV) (hx : ∀ x ∈ x2, KvW x) (hl : x2.length ≤ 300) (x3 x4 : Int) (x5 : List AV) (x6 x7 : Int) (x8 : List Int) (x9 : Int) (x10 x11 : List Int) (x12 x13 : List AV) : ∀ (k m j : Nat) (x14 : List AV), SlT x14 → j + k = x2.length → k < m →
  ∃ q, Fbm.l8_0.g mk n m (j : Int) ((x2.length : Nat) : Int) x2 x3 x4 x5 x6 x7 x8 x9 x10 x11 x12 x13 x14 = some (mk x3 x4 x5 x6 x7 x13 q) ∧ SlT q ∧ lkm q = (x2.drop j).foldl (upS x8) (lkm x14)
 | 0, m + 1, j, x14, h, hj, _ => by
  refine ⟨x14, iF (by simp; omega) rfl, h, ?_⟩
  rw [List.drop_of_length_le (by omega)]; rfl
 | k + 1, m + 1, j, x14, h, hj, hm => by
  have hlt : j < x2.length := by omega
  obtain ⟨kk, w, hv, h1, h2⟩ := hx x2[j] (List.getElem_mem hlt)
  obtain ⟨l', e, h', hF⟩ := h.putF x8 kk w
  obtain ⟨q, ih, hq, hq2⟩ := newS8 mk n x2 hx hl x3 x4 x5 x6 x7 x8 x9 x10 x11 x12 x13 k m (j + 1) l' h' (by omega) (by omega)
  rw [← next_at (j := j) (by omega)] at ih
  refine ⟨q, ?_, hq, ?_⟩
  ·refine iT (by simp; omega) (iT (by omega) (iT (by omega) ?_))
   rw [at_nat hlt, hv]
   exact bO rfl (bO rfl (bO rfl (bO e ih)))
  ·rw [hq2, List.drop_eq_getElem_cons hlt, List.foldl_cons, hv, hF]
theorem newS3 {α : Type} (mk : Int → Int → List AV → List AV → α) (n : Nat) (hn : 301 ≤ n) (x2 : List AV) (hx : ∀ x ∈ x2, EnW x) (h3 : ∀ v ∈ x2, (slotsOf v).length ≤ 300) (hl : x2.length ≤ 300) (x3 x4 : Int) : ∀ (k m j : Nat) (x5 x6 : List AV), AccT x5 → SlT x6 → j + k = x2.length → k < m →
  ∃ p q, Fbm.l3_0.g mk n m (j : Int) ((x2.length : Nat) : Int) x2 x3 x4 x5 x6 = some (mk x3 x4 p q) ∧ AccT p ∧ SlT q ∧ lkm q = (x2.drop j).foldl upE (lkm x6)
 | 0, m + 1, j, x5, x6, h5, h6, hj, _ => by
  refine ⟨x5, x6, iF (by simp; omega) rfl, h5, h6, ?_⟩
  rw [List.drop_of_length_le (by omega)]; rfl
 | k + 1, m + 1, j, x5, x6, h5, h6, hj, hm => by
  have hlt : j < x2.length := by omega
  obtain ⟨a, nn, w, c, s, hv, hs, ls, lc⟩ := hx x2[j] (List.getElem_mem hlt)
  have ls3 := h3 x2[j] (List.getElem_mem hlt)
  rw [hv, slotsOf_mk] at ls3
  obtain ⟨p1, q1, e1, hp1, hq1, hF1⟩ := forgetF (n := n) a x3 x4 h5 h6
  obtain ⟨p2, e2, hp2⟩ := hp1.put a nn w (strOf c)
  obtain ⟨q2, e3, hq2, hF2⟩ := newS8 (fun a0 a1 a2 a3 a4 a5 a6 => (a0, a1, a2, a3, a4, a5, a6)) n s hs ls3 (j : Int) ((x2.length : Nat) : Int) x2 x3 x4 a nn w c s p2 s.length n 0 q1 hq1 (by omega) (by omega)
  obtain ⟨p, q, ih, hp, hq, hF⟩ := newS3 mk n hn x2 hx h3 hl x3 x4 k m (j + 1) p2 q2 hp2 hq2 (by omega) (by omega)
  rw [← next_at (j := j) (by omega)] at ih
  refine ⟨p, q, ?_, hp, hq, ?_⟩
  ·refine iT (by simp; omega) (iT (by omega) (iT (by omega) ?_))
   rw [at_nat hlt, hv]
   refine bO rfl (bO rfl (bO rfl (bO rfl (bO rfl (bO rfl (bO rfl ?_))))))
   exact bO e1 (bO e2 (bO e3 ih))
  ·rw [hF, List.drop_eq_getElem_cons hlt, List.foldl_cons, hF2, hF1, hv]
   rfl
theorem newStore {n : Nat} (hn : 301 ≤ n) {e : List AV} (hx : ∀ x ∈ e, EnW x) (h3 : ∀ v ∈ e, (slotsOf v).length ≤ 300) (hl : e.length ≤ 300) : ∃ p q, Fbm.m n e = some (p, q, 0, 0) ∧ SlT q ∧ lkm q = e.foldl upE zeroF := by
 obtain ⟨p, q, h, hp, hq, hF⟩ := newS3 (fun a0 a1 a2 a3 => (a0, a1, a2, a3)) n hn e hx h3 hl 0 0 e.length n 0 [] [] (by intro x hx; simp at hx) ⟨by intro x hx; simp at hx, by simp⟩ (by omega) (by omega)
 exact ⟨p, q, bO h rfl, hq, hF⟩
theorem slotS {n : Nat} (p : List AV) {q : List AV} (hq : SlT q) (x6 x7 : Int) (a k : List Int) : Fae.m n (p, q, x6, x7, a, k) = some (lkm q a k) := by
 have e := mget_is dfDec (some (a, k)) _ (.ints .u64 4 [0, 0, 0, 0]) q (hq.key a k)
 refine bO e ?_
 show bindO _ _ = some (valO _)
 cases hf : q.find? fun x => decide (dfDec x = some (a, k)) with
 | none => rfl
 | some x =>
  obtain ⟨b, k', v, rfl⟩ := hq.1 x (List.mem_of_find?_eq_some hf)
  rfl
theorem upE_W4 {f : Fc} (hf : ∀ b k, W4 (f b k)) {v : AV} (hv : EnW v) : ∀ b k, W4 (upE f v b k) := by
 obtain ⟨a, nn, w, c, s, rfl, hs, _, _⟩ := hv
 have key : ∀ (s : List AV), (∀ z ∈ s, KvW z) → ∀ (g : Fc), (∀ b k, W4 (g b k)) → ∀ b k, W4 (s.foldl (upS a) g b k) := by
  intro s
  induction s with
  | nil => intro _ g hg; exact hg
  | cons z r ih =>
   intro hz g hg
   rw [List.foldl_cons]
   refine ih (fun y hy => hz y (by simp [hy])) _ fun b k => ?_
   obtain ⟨kz, wz, rfl, h1, h2⟩ := hz z (by simp)
   unfold upS
   split
   ·exact h2
   ·exact hg b k
 refine key s hs _ fun b k => ?_
 unfold clr
 split
 ·exact .mk (by omega) (by omega) (by omega) (by omega)
 ·exact hf b k
theorem fold_W4 : ∀ (e : List AV), (∀ v ∈ e, EnW v) → ∀ (f : Fc), (∀ b k, W4 (f b k)) → ∀ b k, W4 (e.foldl upE f b k)
 | [], _, f, hf => hf
 | v :: r, he, f, hf => by
  rw [List.foldl_cons]
  exact fold_W4 r (fun y hy => he y (by simp [hy])) _ (upE_W4 hf (he v (by simp)))
def Adr (a : List Int) : Prop := a.length = 20 ∧ ∀ y ∈ a, 0 ≤ y ∧ y < 256
def keyOf (a : List Int) (what : Int) : List Int := ofV (readI a 20 * 79228162514264337593543950336 + what * 18446744073709551616)
theorem keyD {n : Nat} (hn : 600 ≤ n) {a : List Int} (ha : Adr a) {what : Int} (hw : what = 1 ∨ what = 2) : Fbo.m n (a, what, 0) = some (keyOf a what) := by
 have hR := readI_bound ha.2 20
 simp only [Nat.reduceMul, Int.reducePow] at hR
 have e1 := word_Wide_ok (n := n) (by omega) ha.1 ha.2
 have hk : W4 [96, 0, 0, 0] := .mk (by omega) (by omega) (by omega) (by omega)
 have e2 := word_Shl_ok hn hk (ofV_W4 (readI a 20))
 have hf : farV [96, 0, 0, 0] = 96 := by decide
 rw [hf, V_ofV] at e2
 unfold Fbo.m Fbo.g
 refine bO (show Fbn.m n 96 = some [96, 0, 0, 0] from rfl) (bO e1 (bO e2 ?_))
 unfold keyOf
 generalize readI a 20 = R at hR ⊢
 have hor : ibits .or .u64 (((R % B * 2 ^ 96) / 18446744073709551616) % 18446744073709551616) what = ((R % B * 2 ^ 96) / 18446744073709551616) % 18446744073709551616 + what := by
  rcases hw with rfl | rfl
  ·exact or_bit (k := 0) (by omega) (by omega) (by simp only [B]; omega)
  ·exact or_bit (k := 1) (by omega) (by omega) (by simp only [B]; omega)
 show some (List.set (List.set (ofV (R % B * 2 ^ 96)) 0 0) 1 (ibits .or .u64 (List.getD (ofV (R % B * 2 ^ 96)) 1 0) what)) = _
 have hg : List.getD (ofV (R % B * 2 ^ 96)) 1 0 = ((R % B * 2 ^ 96) / 18446744073709551616) % 18446744073709551616 := rfl
 rw [hg, hor]
 unfold ofV
 simp only [List.set, B]
 congr 1
 rcases hw with rfl | rfl
 all_goals
  simp only [List.cons.injEq, and_true, Int.reducePow]
  omega
theorem keyR {n : Nat} (hn : 600 ≤ n) {a : List Int} (ha : Adr a) {what : Int} (hw : what = 1 ∨ what = 2) : Fcc.m n (a, what) = some (keyOf a what) := by
 have hR := readI_bound ha.2 20
 simp only [Nat.reduceMul, Int.reducePow] at hR
 have e1 := q01_Wide_ok (n := n) (by omega) ha.1 ha.2
 have hk : W4 [96, 0, 0, 0] := .mk (by omega) (by omega) (by omega) (by omega)
 have e2 := q01_Shl_ok hn hk (ofV_W4 (readI a 20))
 have hf : farV [96, 0, 0, 0] = 96 := by decide
 rw [hf, V_ofV] at e2
 have hz : W4 [0, what, 0, 0] := .mk (by omega) (by omega) (by omega) (by omega)
 have e3 := q01_Add_ok (n := n) (by omega) (ofV_W4 (readI a 20 % B * 2 ^ 96)) hz
 have e4 : Fbp.m n (a, what, 0) = some (ofV (V (ofV (readI a 20 % B * 2 ^ 96)) + V [0, what, 0, 0])) := by
  unfold Fbp.m Fbp.g
  exact bO (show Fcb.m n 96 = some [96, 0, 0, 0] from rfl) (bO e1 (bO e2 (bO e3 rfl)))
 refine bO e4 ?_
 congr 1
 rw [V_ofV]
 have hv : V [0, what, 0, 0] = what * 18446744073709551616 := by simp only [V]; omega
 rw [hv]
 unfold keyOf
 have hb : readI a 20 % B = readI a 20 := Int.emod_eq_of_lt (by omega) (by simp only [B]; omega)
 have hb2 : (readI a 20 * 2 ^ 96) % B = readI a 20 * 79228162514264337593543950336 := by
  rw [Int.emod_eq_of_lt (by omega) (by simp only [B, Int.reducePow]; omega)]; simp only [Int.reducePow]
 rw [hb, hb2]
end Go.Abs.Pure
end
section
set_option linter.unusedVariables false
set_option linter.unusedSimpArgs false
set_option maxRecDepth 100000
namespace Go.Abs.Pure
open Go Go.Abs Go.Proofs
def selfA : List Int := [0, 0, 0, 0, 113, 114, 125, 226, 46, 94, 157, 139, 175, 14, 218, 198, 243, 125, 160, 50]
def zeroA : List Int := [0, 0, 0, 0, 0, 0, 0, 0, 0, 0, 0, 0, 0, 0, 0, 0, 0, 0, 0, 0]
theorem zeroA_adr : Adr zeroA := ⟨rfl, by decide⟩
def amtF (F : Fc) (a : List Int) : List Int := F selfA (keyOf a 1)
def timF (F : Fc) (a : List Int) : List Int := F selfA (keyOf a 2)
theorem stakeD {n : Nat} (hn : 600 ≤ n) (p : List AV) {q : List AV} (hq : SlT q) {a : List Int} (ha : Adr a) : Faq.m n (p, q, 0, 0, a) = some (amtF (lkm q) a, (timF (lkm q) a).getD 1 0, (timF (lkm q) a).getD 0 0) := by
 unfold Faq.m Faq.g
 exact bO (show Fbi.m n () = some selfA from rfl) (bO (keyD hn ha (.inr rfl)) (bO (slotS p hq 0 0 selfA (keyOf a 2)) (bO (show Fbi.m n () = some selfA from rfl) (bO (keyD hn ha (.inl rfl)) (bO (slotS p hq 0 0 selfA (keyOf a 1)) rfl)))))
theorem getR {n : Nat} (hn : 1002 ≤ n) {L W : List AV} (hL : ∀ v ∈ L, EnW v) (hl : L.length ≤ 300) (k : List Int) : Fck.m n (L, W, 0, 0, k) = some (fL L selfA k) := by
 have e := of_ok hn hL (by omega) selfA k
 have e2 : Faj.m n (L, W, 0, 0, selfA, k) = some (fL L selfA k) := bO e rfl
 unfold Fck.m Fck.g
 exact bO (show Fcd.m n () = some selfA from rfl) (bO e2 rfl)
theorem stakeR {n : Nat} (hn : 1002 ≤ n) {L W : List AV} (hL : ∀ v ∈ L, EnW v) (hl : L.length ≤ 300) {a : List Int} (ha : Adr a) : Faw.m n (L, W, 0, 0, a) = some (amtF (fL L) a, (timF (fL L) a).getD 1 0, (timF (fL L) a).getD 0 0) := by
 unfold Faw.m Faw.g
 exact bO (keyR (n := n) (by omega) ha (.inr rfl)) (bO (getR hn hL hl _) (bO (keyR (n := n) (by omega) ha (.inl rfl)) (bO (getR hn hL hl _) rfl)))
def goodS (F : Fc) (a : List Int) : Bool := decide (cmpOf (V (amtF F a)) (V [1000000000000000000, 0, 0, 0]) ≥ 0) && (decide ((timF F a).getD 1 0 ≥ 86400) && ((timF F a).getD 0 0 == 0))
theorem leastW : W4 [1000000000000000000, 0, 0, 0] := .mk (by omega) (by omega) (by omega) (by omega)
def entV (a0_0 : List Int) (a0_1 : List Int) (a0_2 : Bool) (a0_3 : List Int) (a0_4 : List Int) (a0_5 : List Int) (a0_6 : Int) (a0_7 : Int) (a0_8 : Int) (a0_9 : List Int) (a0_10 : List Int) (a0_11 : Bool) (a0_12 : List Int) (a0_13 : Int) (a0_14 : Int) (a0_15 : List Int) (a0_16 : List Int) (a1 : Int) : List Int × Bool := (if a1 = 1 then (a0_0, true) else if a1 = 2 then (if a0_2 = true then (a0_3, true) else (zeroA, false)) else if a1 = 3 then (if a0_11 = true then (a0_12, true) else (zeroA, false)) else (zeroA, false))
theorem rules_Entity_is (n : Nat) (a0_0 : List Int) (a0_1 : List Int) (a0_2 : Bool) (a0_3 : List Int) (a0_4 : List Int) (a0_5 : List Int) (a0_6 : Int) (a0_7 : Int) (a0_8 : Int) (a0_9 : List Int) (a0_10 : List Int) (a0_11 : Bool) (a0_12 : List Int) (a0_13 : Int) (a0_14 : Int) (a0_15 : List Int) (a0_16 : List Int) (a1 : Int) : Fao.m n (a0_0, a0_1, a0_2, a0_3, a0_4, a0_5, a0_6, a0_7, a0_8, a0_9, a0_10, a0_11, a0_12, a0_13, a0_14, a0_15, a0_16, a1) = some (entV a0_0 a0_1 a0_2 a0_3 a0_4 a0_5 a0_6 a0_7 a0_8 a0_9 a0_10 a0_11 a0_12 a0_13 a0_14 a0_15 a0_16 a1) := by
 by_cases h1 : a1 = 1
 ·subst h1; rfl
 by_cases h2 : a1 = 2
 ·subst h2; cases a0_2
  ·rfl
  ·rfl
 by_cases h3 : a1 = 3
 ·subst h3; cases a0_11
  ·rfl
  ·rfl
 unfold Fao.m Fao.g entV
 dsimp only
 rw [if_neg (by simpa using h1), if_neg (by simpa using h2), if_neg (by simpa using h3), if_neg h1, if_neg h2, if_neg h3]; rfl
theorem q17_Entity_is (n : Nat) (a0_0 : List Int) (a0_1 : List Int) (a0_2 : Bool) (a0_3 : List Int) (a0_4 : List Int) (a0_5 : List Int) (a0_6 : Int) (a0_7 : Int) (a0_8 : Int) (a0_9 : List Int) (a0_10 : List Int) (a0_11 : Bool) (a0_12 : List Int) (a0_13 : Int) (a0_14 : Int) (a0_15 : List Int) (a0_16 : List Int) (a1 : Int) : Fbd.m n (a0_0, a0_1, a0_2, a0_3, a0_4, a0_5, a0_6, a0_7, a0_8, a0_9, a0_10, a0_11, a0_12, a0_13, a0_14, a0_15, a0_16, a1) = some (entV a0_0 a0_1 a0_2 a0_3 a0_4 a0_5 a0_6 a0_7 a0_8 a0_9 a0_10 a0_11 a0_12 a0_13 a0_14 a0_15 a0_16 a1) := by
 by_cases h1 : a1 = 1
 ·subst h1; rfl
 by_cases h2 : a1 = 2
 ·subst h2; cases a0_2
  ·rfl
  ·rfl
 by_cases h3 : a1 = 3
 ·subst h3; cases a0_11
  ·rfl
  ·rfl
 unfold Fbd.m Fbd.g entV
 dsimp only
 rw [if_neg (by simpa using h1), if_neg (by simpa using h2), if_neg (by simpa using h3), if_neg h1, if_neg h2, if_neg h3]; rfl
theorem rules_Stakes_1 {α : Type} (mk : Bool → Bool → Bool → Bool → Bool → Bool → Bool → Bool → α) {n : Nat} (hn : 600 ≤ n) (rc : Int → (List AV) → (List AV) → Int → Int → (List Int) → (List Int) → Bool → (List Int) → (List Int) → (List Int) → Int → Int → Int → (List Int) → (List Int) → Bool → (List Int) → Int → Int → (List Int) → (List Int) → Bool → Bool → Bool → Bool → Bool → Bool → Bool → Bool → Option α) (p q : List AV) (F : Fc) (hst : ∀ a, Adr a → Faq.m n (p, q, 0, 0, a) = some (amtF F a, (timF F a).getD 1 0, (timF F a).getD 0 0)) (hw : ∀ a, W4 (amtF F a)) (x5 : List Int) (x6 : List Int) (x7 : Bool) (x8 : List Int) (x9 : List Int) (x10 : List Int) (x11 : Int) (x12 : Int) (x13 : Int) (x14 : List Int) (x15 : List Int) (x16 : Bool) (x17 : List Int) (x18 : Int) (x19 : Int) (x20 : List Int) (x21 : List Int) (x22 : Bool) (x24 : Bool) (x25 : Bool) (x26 : Bool) (x27 : Bool) (x28 : Bool) (x29 : Bool) (h0 : Adr x5) (h3 : Adr x8) (h12 : Adr x17) : Far.l3_0.r mk n rc 1 p q 0 0 x5 x6 x7 x8 x9 x10 x11 x12 x13 x14 x15 x16 x17 x18 x19 x20 x21 x22 false x24 x25 x26 x27 x28 x29 = rc 2 p q 0 0 x5 x6 x7 x8 x9 x10 x11 x12 x13 x14 x15 x16 x17 x18 x19 x20 x21 x22 (true && goodS F x5) x24 x25 x26 x27 x28 x29 := by
 unfold Far.l3_0.r
 refine iT (by decide) ?_
 rw [Bool.true_and]
 refine bO (show Fao.m n (x5, x6, x7, x8, x9, x10, x11, x12, x13, x14, x15, x16, x17, x18, x19, x20, x21, 1) = some (x5, true) from (rules_Entity_is n x5 x6 x7 x8 x9 x10 x11 x12 x13 x14 x15 x16 x17 x18 x19 x20 x21 1).trans rfl) (iT rfl (bO (hst _ h0) ?_))
 refine iT rfl ?_
 have ec := word_Cmp_ok (n := n) (by omega) (hw x5) leastW
 unfold goodS
 by_cases g1 : cmpOf (V (amtF F x5)) (V [1000000000000000000, 0, 0, 0]) ≥ 0
 ·by_cases g2 : (timF F x5).getD 1 0 ≥ 86400
  ·rw [decide_eq_true g1, decide_eq_true g2]
   exact bO (show Fbn.m n 1000000000000000000 = some [1000000000000000000, 0, 0, 0] from rfl) (bO ec (iT (decide_eq_true g1) (iT rfl rfl)))
  ·rw [decide_eq_false g2, Bool.false_and, Bool.and_false]
   exact bO (show Fbn.m n 1000000000000000000 = some [1000000000000000000, 0, 0, 0] from rfl) (bO ec (iT (decide_eq_true g1) (iF Bool.false_ne_true rfl)))
 ·rw [decide_eq_false g1, Bool.false_and]
  exact bO (show Fbn.m n 1000000000000000000 = some [1000000000000000000, 0, 0, 0] from rfl) (bO ec (iF (by simpa using g1) rfl))
theorem rules_Stakes_2 {α : Type} (mk : Bool → Bool → Bool → Bool → Bool → Bool → Bool → Bool → α) {n : Nat} (hn : 600 ≤ n) (rc : Int → (List AV) → (List AV) → Int → Int → (List Int) → (List Int) → Bool → (List Int) → (List Int) → (List Int) → Int → Int → Int → (List Int) → (List Int) → Bool → (List Int) → Int → Int → (List Int) → (List Int) → Bool → Bool → Bool → Bool → Bool → Bool → Bool → Bool → Option α) (p q : List AV) (F : Fc) (hst : ∀ a, Adr a → Faq.m n (p, q, 0, 0, a) = some (amtF F a, (timF F a).getD 1 0, (timF F a).getD 0 0)) (hw : ∀ a, W4 (amtF F a)) (x5 : List Int) (x6 : List Int) (x7 : Bool) (x8 : List Int) (x9 : List Int) (x10 : List Int) (x11 : Int) (x12 : Int) (x13 : Int) (x14 : List Int) (x15 : List Int) (x16 : Bool) (x17 : List Int) (x18 : Int) (x19 : Int) (x20 : List Int) (x21 : List Int) (x22 : Bool) (x23 : Bool) (x25 : Bool) (x26 : Bool) (x27 : Bool) (x28 : Bool) (x29 : Bool) (h0 : Adr x5) (h3 : Adr x8) (h12 : Adr x17) : Far.l3_0.r mk n rc 2 p q 0 0 x5 x6 x7 x8 x9 x10 x11 x12 x13 x14 x15 x16 x17 x18 x19 x20 x21 x22 x23 false x25 x26 x27 x28 x29 = rc 3 p q 0 0 x5 x6 x7 x8 x9 x10 x11 x12 x13 x14 x15 x16 x17 x18 x19 x20 x21 x22 x23 (x7 && goodS F x8) x25 x26 x27 x28 x29 := by
 unfold Far.l3_0.r
 refine iT (by decide) ?_
 cases x7
 ·rw [Bool.false_and]
  exact bO (show Fao.m n (x5, x6, false, x8, x9, x10, x11, x12, x13, x14, x15, x16, x17, x18, x19, x20, x21, 2) = some (zeroA, false) from (rules_Entity_is n x5 x6 false x8 x9 x10 x11 x12 x13 x14 x15 x16 x17 x18 x19 x20 x21 2).trans rfl) (iF Bool.false_ne_true rfl)
 ·rw [Bool.true_and]
  refine bO (show Fao.m n (x5, x6, true, x8, x9, x10, x11, x12, x13, x14, x15, x16, x17, x18, x19, x20, x21, 2) = some (x8, true) from (rules_Entity_is n x5 x6 true x8 x9 x10 x11 x12 x13 x14 x15 x16 x17 x18 x19 x20 x21 2).trans rfl) (iT rfl (bO (hst _ h3) ?_))
  refine iF (by decide) (iT rfl ?_)
  have ec := word_Cmp_ok (n := n) (by omega) (hw x8) leastW
  unfold goodS
  by_cases g1 : cmpOf (V (amtF F x8)) (V [1000000000000000000, 0, 0, 0]) ≥ 0
  ·by_cases g2 : (timF F x8).getD 1 0 ≥ 86400
   ·rw [decide_eq_true g1, decide_eq_true g2]
    exact bO (show Fbn.m n 1000000000000000000 = some [1000000000000000000, 0, 0, 0] from rfl) (bO ec (iT (decide_eq_true g1) (iT rfl rfl)))
   ·rw [decide_eq_false g2, Bool.false_and, Bool.and_false]
    exact bO (show Fbn.m n 1000000000000000000 = some [1000000000000000000, 0, 0, 0] from rfl) (bO ec (iT (decide_eq_true g1) (iF Bool.false_ne_true rfl)))
  ·rw [decide_eq_false g1, Bool.false_and]
   exact bO (show Fbn.m n 1000000000000000000 = some [1000000000000000000, 0, 0, 0] from rfl) (bO ec (iF (by simpa using g1) rfl))
theorem rules_Stakes_3 {α : Type} (mk : Bool → Bool → Bool → Bool → Bool → Bool → Bool → Bool → α) {n : Nat} (hn : 600 ≤ n) (rc : Int → (List AV) → (List AV) → Int → Int → (List Int) → (List Int) → Bool → (List Int) → (List Int) → (List Int) → Int → Int → Int → (List Int) → (List Int) → Bool → (List Int) → Int → Int → (List Int) → (List Int) → Bool → Bool → Bool → Bool → Bool → Bool → Bool → Bool → Option α) (p q : List AV) (F : Fc) (hst : ∀ a, Adr a → Faq.m n (p, q, 0, 0, a) = some (amtF F a, (timF F a).getD 1 0, (timF F a).getD 0 0)) (hw : ∀ a, W4 (amtF F a)) (x5 : List Int) (x6 : List Int) (x7 : Bool) (x8 : List Int) (x9 : List Int) (x10 : List Int) (x11 : Int) (x12 : Int) (x13 : Int) (x14 : List Int) (x15 : List Int) (x16 : Bool) (x17 : List Int) (x18 : Int) (x19 : Int) (x20 : List Int) (x21 : List Int) (x22 : Bool) (x23 : Bool) (x24 : Bool) (x26 : Bool) (x27 : Bool) (x28 : Bool) (x29 : Bool) (h0 : Adr x5) (h3 : Adr x8) (h12 : Adr x17) : Far.l3_0.r mk n rc 3 p q 0 0 x5 x6 x7 x8 x9 x10 x11 x12 x13 x14 x15 x16 x17 x18 x19 x20 x21 x22 x23 x24 false x26 x27 x28 x29 = rc 4 p q 0 0 x5 x6 x7 x8 x9 x10 x11 x12 x13 x14 x15 x16 x17 x18 x19 x20 x21 x22 x23 x24 (x16 && goodS F x17) x26 x27 x28 x29 := by
 unfold Far.l3_0.r
 refine iT (by decide) ?_
 cases x16
 ·rw [Bool.false_and]
  exact bO (show Fao.m n (x5, x6, x7, x8, x9, x10, x11, x12, x13, x14, x15, false, x17, x18, x19, x20, x21, 3) = some (zeroA, false) from (rules_Entity_is n x5 x6 x7 x8 x9 x10 x11 x12 x13 x14 x15 false x17 x18 x19 x20 x21 3).trans rfl) (iF Bool.false_ne_true rfl)
 ·rw [Bool.true_and]
  refine bO (show Fao.m n (x5, x6, x7, x8, x9, x10, x11, x12, x13, x14, x15, true, x17, x18, x19, x20, x21, 3) = some (x17, true) from (rules_Entity_is n x5 x6 x7 x8 x9 x10 x11 x12 x13 x14 x15 true x17 x18 x19 x20 x21 3).trans rfl) (iT rfl (bO (hst _ h12) ?_))
  refine iF (by decide) (iF (by decide) (iT rfl ?_))
  have ec := word_Cmp_ok (n := n) (by omega) (hw x17) leastW
  unfold goodS
  by_cases g1 : cmpOf (V (amtF F x17)) (V [1000000000000000000, 0, 0, 0]) ≥ 0
  ·by_cases g2 : (timF F x17).getD 1 0 ≥ 86400
   ·rw [decide_eq_true g1, decide_eq_true g2]
    exact bO (show Fbn.m n 1000000000000000000 = some [1000000000000000000, 0, 0, 0] from rfl) (bO ec (iT (decide_eq_true g1) (iT rfl rfl)))
   ·rw [decide_eq_false g2, Bool.false_and, Bool.and_false]
    exact bO (show Fbn.m n 1000000000000000000 = some [1000000000000000000, 0, 0, 0] from rfl) (bO ec (iT (decide_eq_true g1) (iF Bool.false_ne_true rfl)))
  ·rw [decide_eq_false g1, Bool.false_and]
   exact bO (show Fbn.m n 1000000000000000000 = some [1000000000000000000, 0, 0, 0] from rfl) (bO ec (iF (by simpa using g1) rfl))
theorem rules_Stakes_is {n : Nat} (hn : 600 ≤ n) (p q : List AV) (F : Fc) (hst : ∀ a, Adr a → Faq.m n (p, q, 0, 0, a) = some (amtF F a, (timF F a).getD 1 0, (timF F a).getD 0 0)) (hw : ∀ a, W4 (amtF F a)) (a1_0 : List Int) (a1_1 : List Int) (a1_2 : Bool) (a1_3 : List Int) (a1_4 : List Int) (a1_5 : List Int) (a1_6 : Int) (a1_7 : Int) (a1_8 : Int) (a1_9 : List Int) (a1_10 : List Int) (a1_11 : Bool) (a1_12 : List Int) (a1_13 : Int) (a1_14 : Int) (a1_15 : List Int) (a1_16 : List Int) (h0 : Adr a1_0) (h3 : Adr a1_3) (h12 : Adr a1_12) : Far.m n (p, q, 0, 0, a1_0, a1_1, a1_2, a1_3, a1_4, a1_5, a1_6, a1_7, a1_8, a1_9, a1_10, a1_11, a1_12, a1_13, a1_14, a1_15, a1_16) = some (false, (true && goodS F a1_0), (a1_2 && goodS F a1_3), (a1_11 && goodS F a1_12)) := by
 obtain ⟨m, rfl⟩ : ∃ m, n = m + 4 := ⟨n - 4, by omega⟩
 have e : Far.l3_0.m (m + 4) (m + 4) (1, p, q, 0, 0, a1_0, a1_1, a1_2, a1_3, a1_4, a1_5, a1_6, a1_7, a1_8, a1_9, a1_10, a1_11, a1_12, a1_13, a1_14, a1_15, a1_16, false, false, false, false, false, false, false, false) = some (false, (true && goodS F a1_0), (a1_2 && goodS F a1_3), (a1_11 && goodS F a1_12), false, false, false, false) :=
  (rules_Stakes_1 (fun y0 y1 y2 y3 y4 y5 y6 y7 => (y0, y1, y2, y3, y4, y5, y6, y7)) hn _ p q F hst hw a1_0 a1_1 a1_2 a1_3 a1_4 a1_5 a1_6 a1_7 a1_8 a1_9 a1_10 a1_11 a1_12 a1_13 a1_14 a1_15 a1_16 false false false false false false false h0 h3 h12).trans ((rules_Stakes_2 (fun y0 y1 y2 y3 y4 y5 y6 y7 => (y0, y1, y2, y3, y4, y5, y6, y7)) hn _ p q F hst hw a1_0 a1_1 a1_2 a1_3 a1_4 a1_5 a1_6 a1_7 a1_8 a1_9 a1_10 a1_11 a1_12 a1_13 a1_14 a1_15 a1_16 false (true && goodS F a1_0) false false false false false h0 h3 h12).trans ((rules_Stakes_3 (fun y0 y1 y2 y3 y4 y5 y6 y7 => (y0, y1, y2, y3, y4, y5, y6, y7)) hn _ p q F hst hw a1_0 a1_1 a1_2 a1_3 a1_4 a1_5 a1_6 a1_7 a1_8 a1_9 a1_10 a1_11 a1_12 a1_13 a1_14 a1_15 a1_16 false (true && goodS F a1_0) (a1_2 && goodS F a1_3) false false false false h0 h3 h12).trans rfl))
 unfold Far.m Far.g
 exact bO e rfl
theorem q17_Stakes_1 {α : Type} (mk : Bool → Bool → Bool → Bool → Bool → Bool → Bool → Bool → α) {n : Nat} (hn : 600 ≤ n) (rc : Int → (List AV) → (List AV) → Int → Int → (List Int) → (List Int) → Bool → (List Int) → (List Int) → (List Int) → Int → Int → Int → (List Int) → (List Int) → Bool → (List Int) → Int → Int → (List Int) → (List Int) → Bool → Bool → Bool → Bool → Bool → Bool → Bool → Bool → Option α) (L W : List AV) (F : Fc) (hst : ∀ a, Adr a → Faw.m n (L, W, 0, 0, a) = some (amtF F a, (timF F a).getD 1 0, (timF F a).getD 0 0)) (hw : ∀ a, W4 (amtF F a)) (x5 : List Int) (x6 : List Int) (x7 : Bool) (x8 : List Int) (x9 : List Int) (x10 : List Int) (x11 : Int) (x12 : Int) (x13 : Int) (x14 : List Int) (x15 : List Int) (x16 : Bool) (x17 : List Int) (x18 : Int) (x19 : Int) (x20 : List Int) (x21 : List Int) (x22 : Bool) (x24 : Bool) (x25 : Bool) (x26 : Bool) (x27 : Bool) (x28 : Bool) (x29 : Bool) (h0 : Adr x5) (h3 : Adr x8) (h12 : Adr x17) : Fbe.l3_0.r mk n rc 1 L W 0 0 x5 x6 x7 x8 x9 x10 x11 x12 x13 x14 x15 x16 x17 x18 x19 x20 x21 x22 false x24 x25 x26 x27 x28 x29 = rc 2 L W 0 0 x5 x6 x7 x8 x9 x10 x11 x12 x13 x14 x15 x16 x17 x18 x19 x20 x21 x22 (true && goodS F x5) x24 x25 x26 x27 x28 x29 := by
 unfold Fbe.l3_0.r
 refine iT (by decide) ?_
 rw [Bool.true_and]
 refine bO (show Fbd.m n (x5, x6, x7, x8, x9, x10, x11, x12, x13, x14, x15, x16, x17, x18, x19, x20, x21, 1) = some (x5, true) from (q17_Entity_is n x5 x6 x7 x8 x9 x10 x11 x12 x13 x14 x15 x16 x17 x18 x19 x20 x21 1).trans rfl) (bO (hst _ h0) ?_)
 refine iT rfl ?_
 refine iT rfl ?_
 have ec := q01_Cmp_ok (n := n) (by omega) (hw x5) leastW
 unfold goodS
 by_cases g1 : cmpOf (V (amtF F x5)) (V [1000000000000000000, 0, 0, 0]) ≥ 0
 ·by_cases g2 : (timF F x5).getD 1 0 ≥ 86400
  ·rw [decide_eq_true g1, decide_eq_true g2]
   exact bO (show Fcb.m n 1000000000000000000 = some [1000000000000000000, 0, 0, 0] from rfl) (bO ec (iT (decide_eq_true g1) (iT rfl rfl)))
  ·rw [decide_eq_false g2, Bool.false_and, Bool.and_false]
   exact bO (show Fcb.m n 1000000000000000000 = some [1000000000000000000, 0, 0, 0] from rfl) (bO ec (iT (decide_eq_true g1) (iF Bool.false_ne_true rfl)))
 ·rw [decide_eq_false g1, Bool.false_and]
  exact bO (show Fcb.m n 1000000000000000000 = some [1000000000000000000, 0, 0, 0] from rfl) (bO ec (iF (by simpa using g1) rfl))
theorem q17_Stakes_2 {α : Type} (mk : Bool → Bool → Bool → Bool → Bool → Bool → Bool → Bool → α) {n : Nat} (hn : 600 ≤ n) (rc : Int → (List AV) → (List AV) → Int → Int → (List Int) → (List Int) → Bool → (List Int) → (List Int) → (List Int) → Int → Int → Int → (List Int) → (List Int) → Bool → (List Int) → Int → Int → (List Int) → (List Int) → Bool → Bool → Bool → Bool → Bool → Bool → Bool → Bool → Option α) (L W : List AV) (F : Fc) (hst : ∀ a, Adr a → Faw.m n (L, W, 0, 0, a) = some (amtF F a, (timF F a).getD 1 0, (timF F a).getD 0 0)) (hw : ∀ a, W4 (amtF F a)) (x5 : List Int) (x6 : List Int) (x7 : Bool) (x8 : List Int) (x9 : List Int) (x10 : List Int) (x11 : Int) (x12 : Int) (x13 : Int) (x14 : List Int) (x15 : List Int) (x16 : Bool) (x17 : List Int) (x18 : Int) (x19 : Int) (x20 : List Int) (x21 : List Int) (x22 : Bool) (x23 : Bool) (x25 : Bool) (x26 : Bool) (x27 : Bool) (x28 : Bool) (x29 : Bool) (h0 : Adr x5) (h3 : Adr x8) (h12 : Adr x17) : Fbe.l3_0.r mk n rc 2 L W 0 0 x5 x6 x7 x8 x9 x10 x11 x12 x13 x14 x15 x16 x17 x18 x19 x20 x21 x22 x23 false x25 x26 x27 x28 x29 = rc 3 L W 0 0 x5 x6 x7 x8 x9 x10 x11 x12 x13 x14 x15 x16 x17 x18 x19 x20 x21 x22 x23 (x7 && goodS F x8) x25 x26 x27 x28 x29 := by
 unfold Fbe.l3_0.r
 refine iT (by decide) ?_
 cases x7
 ·rw [Bool.false_and]
  exact bO (show Fbd.m n (x5, x6, false, x8, x9, x10, x11, x12, x13, x14, x15, x16, x17, x18, x19, x20, x21, 2) = some (zeroA, false) from (q17_Entity_is n x5 x6 false x8 x9 x10 x11 x12 x13 x14 x15 x16 x17 x18 x19 x20 x21 2).trans rfl) (bO (hst _ zeroA_adr) (iF (by decide) (iT rfl (iF Bool.false_ne_true rfl))))
 ·rw [Bool.true_and]
  refine bO (show Fbd.m n (x5, x6, true, x8, x9, x10, x11, x12, x13, x14, x15, x16, x17, x18, x19, x20, x21, 2) = some (x8, true) from (q17_Entity_is n x5 x6 true x8 x9 x10 x11 x12 x13 x14 x15 x16 x17 x18 x19 x20 x21 2).trans rfl) (bO (hst _ h3) ?_)
  refine iF (by decide) (iT rfl ?_)
  refine iT rfl ?_
  have ec := q01_Cmp_ok (n := n) (by omega) (hw x8) leastW
  unfold goodS
  by_cases g1 : cmpOf (V (amtF F x8)) (V [1000000000000000000, 0, 0, 0]) ≥ 0
  ·by_cases g2 : (timF F x8).getD 1 0 ≥ 86400
   ·rw [decide_eq_true g1, decide_eq_true g2]
    exact bO (show Fcb.m n 1000000000000000000 = some [1000000000000000000, 0, 0, 0] from rfl) (bO ec (iT (decide_eq_true g1) (iT rfl rfl)))
   ·rw [decide_eq_false g2, Bool.false_and, Bool.and_false]
    exact bO (show Fcb.m n 1000000000000000000 = some [1000000000000000000, 0, 0, 0] from rfl) (bO ec (iT (decide_eq_true g1) (iF Bool.false_ne_true rfl)))
  ·rw [decide_eq_false g1, Bool.false_and]
   exact bO (show Fcb.m n 1000000000000000000 = some [1000000000000000000, 0, 0, 0] from rfl) (bO ec (iF (by simpa using g1) rfl))
theorem q17_Stakes_3 {α : Type} (mk : Bool → Bool → Bool → Bool → Bool → Bool → Bool → Bool → α) {n : Nat} (hn : 600 ≤ n) (rc : Int → (List AV) → (List AV) → Int → Int → (List Int) → (List Int) → Bool → (List Int) → (List Int) → (List Int) → Int → Int → Int → (List Int) → (List Int) → Bool → (List Int) → Int → Int → (List Int) → (List Int) → Bool → Bool → Bool → Bool → Bool → Bool → Bool → Bool → Option α) (L W : List AV) (F : Fc) (hst : ∀ a, Adr a → Faw.m n (L, W, 0, 0, a) = some (amtF F a, (timF F a).getD 1 0, (timF F a).getD 0 0)) (hw : ∀ a, W4 (amtF F a)) (x5 : List Int) (x6 : List Int) (x7 : Bool) (x8 : List Int) (x9 : List Int) (x10 : List Int) (x11 : Int) (x12 : Int) (x13 : Int) (x14 : List Int) (x15 : List Int) (x16 : Bool) (x17 : List Int) (x18 : Int) (x19 : Int) (x20 : List Int) (x21 : List Int) (x22 : Bool) (x23 : Bool) (x24 : Bool) (x26 : Bool) (x27 : Bool) (x28 : Bool) (x29 : Bool) (h0 : Adr x5) (h3 : Adr x8) (h12 : Adr x17) : Fbe.l3_0.r mk n rc 3 L W 0 0 x5 x6 x7 x8 x9 x10 x11 x12 x13 x14 x15 x16 x17 x18 x19 x20 x21 x22 x23 x24 false x26 x27 x28 x29 = rc 4 L W 0 0 x5 x6 x7 x8 x9 x10 x11 x12 x13 x14 x15 x16 x17 x18 x19 x20 x21 x22 x23 x24 (x16 && goodS F x17) x26 x27 x28 x29 := by
 unfold Fbe.l3_0.r
 refine iT (by decide) ?_
 cases x16
 ·rw [Bool.false_and]
  exact bO (show Fbd.m n (x5, x6, x7, x8, x9, x10, x11, x12, x13, x14, x15, false, x17, x18, x19, x20, x21, 3) = some (zeroA, false) from (q17_Entity_is n x5 x6 x7 x8 x9 x10 x11 x12 x13 x14 x15 false x17 x18 x19 x20 x21 3).trans rfl) (bO (hst _ zeroA_adr) (iF (by decide) (iF (by decide) (iT rfl (iF Bool.false_ne_true rfl)))))
 ·rw [Bool.true_and]
  refine bO (show Fbd.m n (x5, x6, x7, x8, x9, x10, x11, x12, x13, x14, x15, true, x17, x18, x19, x20, x21, 3) = some (x17, true) from (q17_Entity_is n x5 x6 x7 x8 x9 x10 x11 x12 x13 x14 x15 true x17 x18 x19 x20 x21 3).trans rfl) (bO (hst _ h12) ?_)
  refine iF (by decide) (iF (by decide) (iT rfl ?_))
  refine iT rfl ?_
  have ec := q01_Cmp_ok (n := n) (by omega) (hw x17) leastW
  unfold goodS
  by_cases g1 : cmpOf (V (amtF F x17)) (V [1000000000000000000, 0, 0, 0]) ≥ 0
  ·by_cases g2 : (timF F x17).getD 1 0 ≥ 86400
   ·rw [decide_eq_true g1, decide_eq_true g2]
    exact bO (show Fcb.m n 1000000000000000000 = some [1000000000000000000, 0, 0, 0] from rfl) (bO ec (iT (decide_eq_true g1) (iT rfl rfl)))
   ·rw [decide_eq_false g2, Bool.false_and, Bool.and_false]
    exact bO (show Fcb.m n 1000000000000000000 = some [1000000000000000000, 0, 0, 0] from rfl) (bO ec (iT (decide_eq_true g1) (iF Bool.false_ne_true rfl)))
  ·rw [decide_eq_false g1, Bool.false_and]
   exact bO (show Fcb.m n 1000000000000000000 = some [1000000000000000000, 0, 0, 0] from rfl) (bO ec (iF (by simpa using g1) rfl))
theorem q17_Stakes_is {n : Nat} (hn : 600 ≤ n) (L W : List AV) (F : Fc) (hst : ∀ a, Adr a → Faw.m n (L, W, 0, 0, a) = some (amtF F a, (timF F a).getD 1 0, (timF F a).getD 0 0)) (hw : ∀ a, W4 (amtF F a)) (a1_0 : List Int) (a1_1 : List Int) (a1_2 : Bool) (a1_3 : List Int) (a1_4 : List Int) (a1_5 : List Int) (a1_6 : Int) (a1_7 : Int) (a1_8 : Int) (a1_9 : List Int) (a1_10 : List Int) (a1_11 : Bool) (a1_12 : List Int) (a1_13 : Int) (a1_14 : Int) (a1_15 : List Int) (a1_16 : List Int) (h0 : Adr a1_0) (h3 : Adr a1_3) (h12 : Adr a1_12) : Fbe.m n (L, W, 0, 0, a1_0, a1_1, a1_2, a1_3, a1_4, a1_5, a1_6, a1_7, a1_8, a1_9, a1_10, a1_11, a1_12, a1_13, a1_14, a1_15, a1_16) = some (false, (true && goodS F a1_0), (a1_2 && goodS F a1_3), (a1_11 && goodS F a1_12)) := by
 obtain ⟨m, rfl⟩ : ∃ m, n = m + 4 := ⟨n - 4, by omega⟩
 have e : Fbe.l3_0.m (m + 4) (m + 4) (1, L, W, 0, 0, a1_0, a1_1, a1_2, a1_3, a1_4, a1_5, a1_6, a1_7, a1_8, a1_9, a1_10, a1_11, a1_12, a1_13, a1_14, a1_15, a1_16, false, false, false, false, false, false, false, false) = some (false, (true && goodS F a1_0), (a1_2 && goodS F a1_3), (a1_11 && goodS F a1_12), false, false, false, false) :=
  (q17_Stakes_1 (fun y0 y1 y2 y3 y4 y5 y6 y7 => (y0, y1, y2, y3, y4, y5, y6, y7)) hn _ L W F hst hw a1_0 a1_1 a1_2 a1_3 a1_4 a1_5 a1_6 a1_7 a1_8 a1_9 a1_10 a1_11 a1_12 a1_13 a1_14 a1_15 a1_16 false false false false false false false h0 h3 h12).trans ((q17_Stakes_2 (fun y0 y1 y2 y3 y4 y5 y6 y7 => (y0, y1, y2, y3, y4, y5, y6, y7)) hn _ L W F hst hw a1_0 a1_1 a1_2 a1_3 a1_4 a1_5 a1_6 a1_7 a1_8 a1_9 a1_10 a1_11 a1_12 a1_13 a1_14 a1_15 a1_16 false (true && goodS F a1_0) false false false false false h0 h3 h12).trans ((q17_Stakes_3 (fun y0 y1 y2 y3 y4 y5 y6 y7 => (y0, y1, y2, y3, y4, y5, y6, y7)) hn _ L W F hst hw a1_0 a1_1 a1_2 a1_3 a1_4 a1_5 a1_6 a1_7 a1_8 a1_9 a1_10 a1_11 a1_12 a1_13 a1_14 a1_15 a1_16 false (true && goodS F a1_0) (a1_2 && goodS F a1_3) false false false false h0 h3 h12).trans rfl))
 unfold Fbe.m Fbe.g
 exact bO e rfl
end Go.Abs.Pure
end
section
set_option linter.unusedVariables false
set_option linter.unusedSimpArgs false
set_option maxRecDepth 100000
namespace Go.Abs.Pure
open Go Go.Abs Go.Proofs
theorem known17 : Fbq.m 8000 () = some true := by kernel_rfl
theorem stakes17 {n : Nat} (hkn : Fbq.m n () = some true) (hn : 1002 ≤ n) (a0 : List AV) (a1_0 : List Int) (a1_1 : List Int) (a1_2 : Bool) (a1_3 : List Int) (a1_4 : List Int) (a1_5 : List Int) (a1_6 : Int) (a1_7 : Int) (a1_8 : Int) (a1_9 : List Int) (a1_10 : List Int) (a1_11 : Bool) (a1_12 : List Int) (a1_13 : Int) (a1_14 : Int) (a1_15 : List Int) (a1_16 : List Int) (a2 : Int) (he : ∀ x ∈ a0, EnT x) (hw : ∀ x ∈ a0, ∃ a n w c s, x = mkEn a n w c s ∧ ∀ z ∈ s, KvW z) (h0 : Adr a1_0) (h3 : Adr a1_3) (h12 : Adr a1_12) : Fai.m n (a0, a1_0, a1_1, a1_2, a1_3, a1_4, a1_5, a1_6, a1_7, a1_8, a1_9, a1_10, a1_11, a1_12, a1_13, a1_14, a1_15, a1_16, a2) = some true := by
 unfold Fai.m Fai.g
 rcases heavy_tot (n := n) (by omega) he (a := []) (by intro x hx; simp at hx) with e1 | ⟨e1, eL, el, _⟩
 ·exact bO e1 (iT rfl rfl)
 have hE : ∀ x ∈ a0, EnW x := fun x hx => by
  obtain ⟨a, nn, w, c, s, hv, _, ls, lc⟩ := eL x hx
  obtain ⟨a', nn', w', c', s', hv', hs'⟩ := hw x hx
  rw [hv] at hv'
  injection hv' with hv'
  injection hv' with _ hv'
  injection hv' with hv' _
  injection hv' with hv'
  injection hv' with _ hv'
  injection hv' with _ hv'
  injection hv' with _ hv'
  injection hv' with hv' _
  injection hv' with _ _ hv'
  exact ⟨a, nn, w, c, s, hv, by rw [hv']; exact hs', by omega, lc⟩
 have h3' : ∀ v ∈ a0, (slotsOf v).length ≤ 300 := fun v hx => by
  obtain ⟨a, nn, w, c, s, hv, _, ls, lc⟩ := eL v hx
  rw [hv, slotsOf_mk]; exact ls
 obtain ⟨p, q, e2, hq, hF⟩ := newStore (n := n) (by omega) hE h3' el
 obtain ⟨L, W, e3, hL, hl, hG⟩ := newRef (n := n) (by omega) hE h3' el
 have hz : ∀ b k, W4 (a0.foldl upE zeroF b k) := fold_W4 a0 hE zeroF fun b k => .mk (by omega) (by omega) (by omega) (by omega)
 have hS : ∀ a, Adr a → Faq.m n (p, q, 0, 0, a) = _ := fun a ha => stakeD (n := n) (by omega) p hq ha
 have hR : ∀ a, Adr a → Faw.m n (L, W, 0, 0, a) = _ := fun a ha => stakeR (n := n) (W := W) (by omega) hL hl ha
 rw [hF] at hS
 rw [hG] at hR
 have e4 := rules_Stakes_is (n := n) (by omega) p q _ hS (fun a => hz _ _) a1_0 a1_1 a1_2 a1_3 a1_4 a1_5 a1_6 a1_7 a1_8 a1_9 a1_10 a1_11 a1_12 a1_13 a1_14 a1_15 a1_16 h0 h3 h12
 have e5 := q17_Stakes_is (n := n) (by omega) L W _ hR (fun a => hz _ _) a1_0 a1_1 a1_2 a1_3 a1_4 a1_5 a1_6 a1_7 a1_8 a1_9 a1_10 a1_11 a1_12 a1_13 a1_14 a1_15 a1_16 h0 h3 h12
 refine bO e1 (iF Bool.false_ne_true ?_)
 refine bO (rules_Entity_is n a1_0 a1_1 a1_2 a1_3 a1_4 a1_5 a1_6 a1_7 a1_8 a1_9 a1_10 a1_11 a1_12 a1_13 a1_14 a1_15 a1_16 a2) (bO (q17_Entity_is n a1_0 a1_1 a1_2 a1_3 a1_4 a1_5 a1_6 a1_7 a1_8 a1_9 a1_10 a1_11 a1_12 a1_13 a1_14 a1_15 a1_16 a2) (bO hkn (iT rfl ?_)))
 refine iT (by simp) (iT (by simp) ?_)
 refine bO e2 (bO e4 (bO e3 (bO e5 ?_)))
 simp
theorem EnT.of {a : List AV} (h : (a.length ≤ 140737488351232 ∧ ∀ z ∈ a, ∃ c0 c1 c2 c3 c4, z = AV.agg [.ints .u8 20 c0, .agg [.int .u64 c1, .ints .u64 4 c2, .rints .u8 c3, .robjs 77 8 c4]] ∧ InA .u8 20 c0 ∧ InK .u64 c1 ∧ InA .u64 4 c2 ∧ InS .u8 c3 ∧ (c4.length ≤ 140737488351232 ∧ ∀ z ∈ c4, ∃ c0 c1, z = AV.agg [.ints .u64 4 c0, .ints .u64 4 c1] ∧ InA .u64 4 c0 ∧ InA .u64 4 c1))) : ∀ v ∈ a, EnT v := fun v hv => by
 obtain ⟨c0, c1, c2, c3, c4, e, _, _, _, h3, h4⟩ := h.2 v hv
 refine ⟨c0, c1, c2, c3, c4, e, fun x hx => ?_, h4.1, h3.1⟩
 obtain ⟨d0, d1, e, _⟩ := h4.2 x hx
 exact ⟨d0, d1, e⟩
theorem EnKv.of {a : List AV} (h : (a.length ≤ 140737488351232 ∧ ∀ z ∈ a, ∃ c0 c1 c2 c3 c4, z = AV.agg [.ints .u8 20 c0, .agg [.int .u64 c1, .ints .u64 4 c2, .rints .u8 c3, .robjs 77 8 c4]] ∧ InA .u8 20 c0 ∧ InK .u64 c1 ∧ InA .u64 4 c2 ∧ InS .u8 c3 ∧ (c4.length ≤ 140737488351232 ∧ ∀ z ∈ c4, ∃ c0 c1, z = AV.agg [.ints .u64 4 c0, .ints .u64 4 c1] ∧ InA .u64 4 c0 ∧ InA .u64 4 c1))) : ∀ x ∈ a, ∃ a n w c s, x = mkEn a n w c s ∧ ∀ z ∈ s, KvW z := fun v hv => by
 obtain ⟨c0, c1, c2, c3, c4, e, _, _, _, h3, h4⟩ := h.2 v hv
 refine ⟨c0, c1, c2, c3, c4, e, fun x hx => ?_⟩
 obtain ⟨d0, d1, e, k0, k1⟩ := h4.2 x hx
 exact ⟨d0, d1, e, .of k0, .of k1⟩
theorem Adr.of {a : List Int} (h : InA .u8 20 a) : Adr a := ⟨h.1, fun y hy => ⟨(h.2 y hy).1, by have := (h.2 y hy).2; simp [IntKind.max, IntKind.bits, IntKind.signed] at this; omega⟩⟩
theorem RulesStakes (a0 : List AV) (g0 : (a0.length ≤ 140737488351232 ∧ ∀ z ∈ a0, ∃ c0 c1 c2 c3 c4, z = AV.agg [.ints .u8 20 c0, .agg [.int .u64 c1, .ints .u64 4 c2, .rints .u8 c3, .robjs 77 8 c4]] ∧ InA .u8 20 c0 ∧ InK .u64 c1 ∧ InA .u64 4 c2 ∧ InS .u8 c3 ∧ (c4.length ≤ 140737488351232 ∧ ∀ z ∈ c4, ∃ c0 c1, z = AV.agg [.ints .u64 4 c0, .ints .u64 4 c1] ∧ InA .u64 4 c0 ∧ InA .u64 4 c1))) (a1_0 : List Int) (h0 : InA .u8 20 a1_0) (a1_1 : List Int) (h1 : InA .u64 4 a1_1) (a1_2 : Bool)  (a1_3 : List Int) (h3 : InA .u8 20 a1_3) (a1_4 : List Int) (h4 : InS .u8 a1_4) (a1_5 : List Int) (h5 : InS .u8 a1_5) (a1_6 : Int) (h6 : InK .u64 a1_6) (a1_7 : Int) (h7 : InK .u64 a1_7) (a1_8 : Int) (h8 : InK .u64 a1_8) (a1_9 : List Int) (h9 : InA .u64 4 a1_9) (a1_10 : List Int) (h10 : InA .u64 4 a1_10) (a1_11 : Bool)  (a1_12 : List Int) (h12 : InA .u8 20 a1_12) (a1_13 : Int) (h13 : InK .u64 a1_13) (a1_14 : Int) (h14 : InK .u64 a1_14) (a1_15 : List Int) (h15 : InS .u8 a1_15) (a1_16 : List Int) (h16 : InS .u8 a1_16) (a2 : Int) (gr : InK .u8 a2) : ∃ n, Fai.m n (a0, a1_0, a1_1, a1_2, a1_3, a1_4, a1_5, a1_6, a1_7, a1_8, a1_9, a1_10, a1_11, a1_12, a1_13, a1_14, a1_15, a1_16, a2) = some true :=
 ⟨8000, stakes17 known17 (by decide) a0 a1_0 a1_1 a1_2 a1_3 a1_4 a1_5 a1_6 a1_7 a1_8 a1_9 a1_10 a1_11 a1_12 a1_13 a1_14 a1_15 a1_16 a2 (EnT.of g0) (EnKv.of g0) (Adr.of h0) (Adr.of h3) (Adr.of h12)⟩
end Go.Abs.Pure
end
