/- Plain laws about what the functions compute. Conditions: the arguments' bounds, as each theorem says. -/
import Derived.Test.YtkknbhapkdgcjaaDoorBinM1
import Derived.Test.YtkknbhapkdgcjaaDoorAbsM7
import Derived.Test.YtkknbhapkdgcjaaDoorFnRulesQuiet1
import Derived.KernelRfl
import Derived.Test.YtkknbhapkdgcjaaDoorFnRulesQuiet2
section
set_option linter.unusedVariables false
set_option linter.unusedSimpArgs false
set_option maxRecDepth 100000
namespace Go.Abs.Pure
open Go Go.Abs Go.Proofs
theorem bO {α β : Type} {x : Option α} {a : α} {f : α → Option β} {r : Option β} (h : x = some a) (k : f a = r) : bindO x f = r := by
  rw [h]; exact k
theorem iT {α : Type} {c : Prop} [Decidable c] {a b r : Option α} (h : c) (k : a = r) : (if c then a else b) = r := by
  rw [if_pos h]; exact k
theorem iF {α : Type} {c : Prop} [Decidable c] {a b r : Option α} (h : ¬ c) (k : b = r) : (if c then a else b) = r := by
  rw [if_neg h]; exact k
def Ev (s : List Int) (op fa : Int) : AV := .agg [.int .u8 op, .int .i64 0, .ints .u8 20 s, .ints .u64 4 [0, 0, 0, 0], .ints .u64 4 [0, 0, 0, 0], .snil, .int .u16 fa]
def okop (op : Int) : Prop := op < 49 ∨ (51 ≤ op ∧ op ≤ 55) ∨ (80 ≤ op ∧ op < 240 ∧ op ≠ 84 ∧ op ≠ 85 ∧ op ≠ 90)
def QE (s : List Int) (v : AV) : Prop := ∃ op fa, v = Ev s op fa ∧ (fa = 133 ∨ (fa = 0 ∧ okop op))
theorem at_nat {l : List AV} {j : Nat} (h : j < l.length) : List.getD l (Int.toNat (j : Int)) Go.Abs.AV.any = l[j] := by
  simp [List.getD_eq_getElem?_getD, List.getElem?_eq_getElem h]
theorem next_at {j : Nat} (h : j ≤ 1000000) : IntKind.wrap .i64 ((j : Int) + 1) = ((j + 1 : Nat) : Int) := by rw [wi64]; omega
theorem loose_loop {α : Type} (mk : List Int → α) (n : Nat) (s : List Int) (evs : List AV) (hq : ∀ v ∈ evs, QE s v) (hl : evs.length ≤ 1000000) : ∀ (k m j : Nat), j + k = evs.length → k < m →
    Fah.l3_0.g mk n m (j : Int) ((evs.length : Nat) : Int) evs evs [] = some (mk [])
  | 0, m + 1, j, hj, _ => iF (by simp; omega) rfl
  | k + 1, m + 1, j, hj, hm => by
    have hlt : j < evs.length := by omega
    obtain ⟨op, fa, hv, hc⟩ := hq evs[j] (List.getElem_mem hlt)
    have ih := loose_loop mk n s evs hq hl k m (j + 1) (by omega) (by omega)
    have hn := next_at (j := j) (by omega)
    refine iT (by simp; omega) (iT (by omega) (iT (by omega) ?_))
    rw [at_nat hlt, hv]
    refine bO rfl (bO rfl (bO rfl (bO rfl (bO rfl (bO rfl (bO rfl (bO rfl ?_)))))))
    rw [hn]
    by_cases h90 : op = 90
    · rcases hc with rfl | ⟨_, hc⟩
      · exact iF (by simp [h90]) (iT (by decide) ih)
      · unfold okop at hc; omega
    · exact iT (by simpa using h90) ih
theorem loose {n : Nat} {s : List Int} {evs : List AV} (hq : ∀ v ∈ evs, QE s v) (hl : evs.length ≤ 1000000) (hn : evs.length < n) : Fah.m n evs = some [] :=
  bO (loose_loop (fun a => a) n s evs hq hl evs.length n 0 (by omega) hn) rfl
end Go.Abs.Pure
end
section
set_option linter.unusedVariables false
set_option linter.unusedSimpArgs false
set_option maxRecDepth 100000
namespace Go.Abs.Pure
open Go Go.Abs Go.Proofs
def Closed (n : Nat) : Prop := Fao.m n [0, 0, 0, 0] = some [0, 0, 0, 0, 0, 0, 0, 0, 0, 0, 0, 0, 0, 0, 0, 0, 0, 0, 0, 0] ∧ Faq.m n [0, 0, 0, 0, 0, 0, 0, 0, 0, 0, 0, 0, 0, 0, 0, 0, 0, 0, 0, 0] = some [0, 0, 0, 0] ∧ Fal.m n [0, 0, 0, 0] = some (0, true) ∧ ∀ x, Fd.m n ([], x) = some false
theorem closed1000 : Closed 1000 := ⟨by kernel_rfl, by kernel_rfl, by kernel_rfl, fun x => by kernel_rfl⟩
section
variable {op : Int} {s : List Int} (hok : okop op) (a0_1_0_6 : Int) (a0_1_0_10 : Int) (a0_1_1_0 : List Int) (a0_1_1_1 : List Int) (a0_1_1_2 : Bool) (a0_1_1_3 : List Int) (a0_1_1_4 : List Int) (a0_1_1_5 : List Int) (a0_1_1_6 : Int) (a0_1_1_7 : Int) (a0_1_1_8 : Int) (a0_1_1_9 : List Int) (a0_1_1_10 : List Int) (a0_1_1_11 : Bool) (a0_1_1_12 : List Int) (a0_1_1_13 : Int) (a0_1_1_14 : Int) (a0_1_1_15 : List Int) (a0_1_1_16 : List Int) (a0_1_2 : Int) (a0_1_3 : Bool) (a0_1_4 : Bool) (a0_1_5 : List AV) (a0_2 : Int)
include hok
theorem q_banned (n : Nat) : Fh.m n (op, 0, s, [0, 0, 0, 0], [0, 0, 0, 0], [], 0, a0_1_0_6, a0_1_0_10, a0_1_1_0, a0_1_1_1, a0_1_1_2, a0_1_1_3, a0_1_1_4, a0_1_1_5, a0_1_1_6, a0_1_1_7, a0_1_1_8, a0_1_1_9, a0_1_1_10, a0_1_1_11, a0_1_1_12, a0_1_1_13, a0_1_1_14, a0_1_1_15, a0_1_1_16, a0_1_2, a0_1_3, a0_1_4, a0_1_5, a0_2) = some false :=
  iF (by simp; unfold okop at hok; omega) (iF (by simp; unfold okop at hok; omega) (iF (by simp; unfold okop at hok; omega) (iF (by simp; unfold okop at hok; omega) (iF (by simp; unfold okop at hok; omega) (iF (by simp; unfold okop at hok; omega) (iF (by simp; unfold okop at hok; omega) (iF (by simp; unfold okop at hok; omega) (iF (by simp; unfold okop at hok; omega) (iF (by simp; unfold okop at hok; omega) (iF (by simp; unfold okop at hok; omega) (iF (by simp; unfold okop at hok; omega) (rfl))))))))))))
theorem q_makes (n : Nat) : Fo.m n (op, 0, s, [0, 0, 0, 0], [0, 0, 0, 0], [], 0, a0_1_0_6, a0_1_0_10, a0_1_1_0, a0_1_1_1, a0_1_1_2, a0_1_1_3, a0_1_1_4, a0_1_1_5, a0_1_1_6, a0_1_1_7, a0_1_1_8, a0_1_1_9, a0_1_1_10, a0_1_1_11, a0_1_1_12, a0_1_1_13, a0_1_1_14, a0_1_1_15, a0_1_1_16, a0_1_2, a0_1_3, a0_1_4, a0_1_5, a0_2) = some false :=
  iT (by simp; unfold okop at hok; omega) (iT (by simp; unfold okop at hok; omega) rfl)
theorem q_calls (n : Nat) : Fp.m n (op, 0, s, [0, 0, 0, 0], [0, 0, 0, 0], [], 0, a0_1_0_6, a0_1_0_10, a0_1_1_0, a0_1_1_1, a0_1_1_2, a0_1_1_3, a0_1_1_4, a0_1_1_5, a0_1_1_6, a0_1_1_7, a0_1_1_8, a0_1_1_9, a0_1_1_10, a0_1_1_11, a0_1_1_12, a0_1_1_13, a0_1_1_14, a0_1_1_15, a0_1_1_16, a0_1_2, a0_1_3, a0_1_4, a0_1_5, a0_2) = some false :=
  iF (by simp; unfold okop at hok; omega) (iF (by simp; unfold okop at hok; omega) (iF (by simp; unfold okop at hok; omega) (iF (by simp; unfold okop at hok; omega) (rfl))))
theorem q_looks (n : Nat) : Fq.m n (op, 0, s, [0, 0, 0, 0], [0, 0, 0, 0], [], 0, a0_1_0_6, a0_1_0_10, a0_1_1_0, a0_1_1_1, a0_1_1_2, a0_1_1_3, a0_1_1_4, a0_1_1_5, a0_1_1_6, a0_1_1_7, a0_1_1_8, a0_1_1_9, a0_1_1_10, a0_1_1_11, a0_1_1_12, a0_1_1_13, a0_1_1_14, a0_1_1_15, a0_1_1_16, a0_1_2, a0_1_3, a0_1_4, a0_1_5, a0_2) = some false :=
  iF (by simp; unfold okop at hok; omega) (iF (by simp; unfold okop at hok; omega) (iF (by simp; unfold okop at hok; omega) (bO (q_calls hok a0_1_0_6 a0_1_0_10 a0_1_1_0 a0_1_1_1 a0_1_1_2 a0_1_1_3 a0_1_1_4 a0_1_1_5 a0_1_1_6 a0_1_1_7 a0_1_1_8 a0_1_1_9 a0_1_1_10 a0_1_1_11 a0_1_1_12 a0_1_1_13 a0_1_1_14 a0_1_1_15 a0_1_1_16 a0_1_2 a0_1_3 a0_1_4 a0_1_5 a0_2 n) rfl)))
theorem q_pays (n : Nat) : Fx.m n (op, 0, s, [0, 0, 0, 0], [0, 0, 0, 0], [], 0, a0_1_0_6, a0_1_0_10, a0_1_1_0, a0_1_1_1, a0_1_1_2, a0_1_1_3, a0_1_1_4, a0_1_1_5, a0_1_1_6, a0_1_1_7, a0_1_1_8, a0_1_1_9, a0_1_1_10, a0_1_1_11, a0_1_1_12, a0_1_1_13, a0_1_1_14, a0_1_1_15, a0_1_1_16, a0_1_2, a0_1_3, a0_1_4, a0_1_5, a0_2) = some false :=
  iF (by simp; unfold okop at hok; omega) (iF (by simp; unfold okop at hok; omega) rfl)
theorem q_visits (n : Nat) : Fk.m n (op, 0, s, [0, 0, 0, 0], [0, 0, 0, 0], [], 0, a0_1_0_6, a0_1_0_10, a0_1_1_0, a0_1_1_1, a0_1_1_2, a0_1_1_3, a0_1_1_4, a0_1_1_5, a0_1_1_6, a0_1_1_7, a0_1_1_8, a0_1_1_9, a0_1_1_10, a0_1_1_11, a0_1_1_12, a0_1_1_13, a0_1_1_14, a0_1_1_15, a0_1_1_16, a0_1_2, a0_1_3, a0_1_4, a0_1_5, a0_2) = some false :=
  bO (q_calls hok a0_1_0_6 a0_1_0_10 a0_1_1_0 a0_1_1_1 a0_1_1_2 a0_1_1_3 a0_1_1_4 a0_1_1_5 a0_1_1_6 a0_1_1_7 a0_1_1_8 a0_1_1_9 a0_1_1_10 a0_1_1_11 a0_1_1_12 a0_1_1_13 a0_1_1_14 a0_1_1_15 a0_1_1_16 a0_1_2 a0_1_3 a0_1_4 a0_1_5 a0_2 n) (iT rfl rfl)
theorem q_stores (n : Nat) : Fl.m n (op, 0, s, [0, 0, 0, 0], [0, 0, 0, 0], [], 0, a0_1_0_6, a0_1_0_10, a0_1_1_0, a0_1_1_1, a0_1_1_2, a0_1_1_3, a0_1_1_4, a0_1_1_5, a0_1_1_6, a0_1_1_7, a0_1_1_8, a0_1_1_9, a0_1_1_10, a0_1_1_11, a0_1_1_12, a0_1_1_13, a0_1_1_14, a0_1_1_15, a0_1_1_16, a0_1_2, a0_1_3, a0_1_4, a0_1_5, a0_2) = some false :=
  iT (by simp; unfold okop at hok; omega) (iT (by simp; unfold okop at hok; omega) rfl)
theorem q_empty {n : Nat} (c : Closed n) : Fr.m n (op, 0, s, [0, 0, 0, 0], [0, 0, 0, 0], [], 0, a0_1_0_6, a0_1_0_10, a0_1_1_0, a0_1_1_1, a0_1_1_2, a0_1_1_3, a0_1_1_4, a0_1_1_5, a0_1_1_6, a0_1_1_7, a0_1_1_8, a0_1_1_9, a0_1_1_10, a0_1_1_11, a0_1_1_12, a0_1_1_13, a0_1_1_14, a0_1_1_15, a0_1_1_16, a0_1_2, a0_1_3, a0_1_4, a0_1_5, a0_2) = some false :=
  bO (bO c.1 rfl) (bO c.2.1 (bO c.2.2.1 (bO (q_looks hok a0_1_0_6 a0_1_0_10 a0_1_1_0 a0_1_1_1 a0_1_1_2 a0_1_1_3 a0_1_1_4 a0_1_1_5 a0_1_1_6 a0_1_1_7 a0_1_1_8 a0_1_1_9 a0_1_1_10 a0_1_1_11 a0_1_1_12 a0_1_1_13 a0_1_1_14 a0_1_1_15 a0_1_1_16 a0_1_2 a0_1_3 a0_1_4 a0_1_5 a0_2 n) rfl)))
omit hok in
theorem q_note (n : Nat) (r : Int) : Fe.m n (r, false, []) = some [] := rfl
end
end Go.Abs.Pure
end
section
set_option linter.unusedVariables false
set_option linter.unusedSimpArgs false
set_option maxRecDepth 100000
namespace Go.Abs.Pure
open Go Go.Abs Go.Proofs
theorem q_broken {n : Nat} (c : Closed n) {op fa : Int} {s : List Int} (hc : fa = 133 ∨ (fa = 0 ∧ okop op)) (a0_1_0_6 : Int) (a0_1_0_10 : Int) (a0_1_1_0 : List Int) (a0_1_1_1 : List Int) (a0_1_1_2 : Bool) (a0_1_1_3 : List Int) (a0_1_1_4 : List Int) (a0_1_1_5 : List Int) (a0_1_1_6 : Int) (a0_1_1_7 : Int) (a0_1_1_8 : Int) (a0_1_1_9 : List Int) (a0_1_1_10 : List Int) (a0_1_1_11 : Bool) (a0_1_1_12 : List Int) (a0_1_1_13 : Int) (a0_1_1_14 : Int) (a0_1_1_15 : List Int) (a0_1_1_16 : List Int) (a0_1_2 : Int) (a0_1_3 : Bool) (a0_1_4 : Bool) (a0_1_5 : List AV) (a0_2 : Int) : Fm.m n (op, 0, s, [0, 0, 0, 0], [0, 0, 0, 0], [], fa, a0_1_0_6, a0_1_0_10, a0_1_1_0, a0_1_1_1, a0_1_1_2, a0_1_1_3, a0_1_1_4, a0_1_1_5, a0_1_1_6, a0_1_1_7, a0_1_1_8, a0_1_1_9, a0_1_1_10, a0_1_1_11, a0_1_1_12, a0_1_1_13, a0_1_1_14, a0_1_1_15, a0_1_1_16, a0_1_2, a0_1_3, a0_1_4, a0_1_5, a0_2, []) = some [] := by
  rcases hc with rfl | ⟨rfl, hok⟩
  · rfl
  · unfold Fm.m Fm.g
    refine iF Bool.false_ne_true (iF Bool.false_ne_true (bO rfl ?_))
    refine bO (q_banned hok a0_1_0_6 a0_1_0_10 a0_1_1_0 a0_1_1_1 a0_1_1_2 a0_1_1_3 a0_1_1_4 a0_1_1_5 a0_1_1_6 a0_1_1_7 a0_1_1_8 a0_1_1_9 a0_1_1_10 a0_1_1_11 a0_1_1_12 a0_1_1_13 a0_1_1_14 a0_1_1_15 a0_1_1_16 a0_1_2 a0_1_3 a0_1_4 a0_1_5 a0_2 n) (bO (q_note n 1) ?_)
    refine bO (c.2.2.2 _) (bO (q_note n 2) ?_)
    refine bO (q_makes hok a0_1_0_6 a0_1_0_10 a0_1_1_0 a0_1_1_1 a0_1_1_2 a0_1_1_3 a0_1_1_4 a0_1_1_5 a0_1_1_6 a0_1_1_7 a0_1_1_8 a0_1_1_9 a0_1_1_10 a0_1_1_11 a0_1_1_12 a0_1_1_13 a0_1_1_14 a0_1_1_15 a0_1_1_16 a0_1_2 a0_1_3 a0_1_4 a0_1_5 a0_2 n) (bO (q_note n 4) ?_)
    refine bO (q_empty hok a0_1_0_6 a0_1_0_10 a0_1_1_0 a0_1_1_1 a0_1_1_2 a0_1_1_3 a0_1_1_4 a0_1_1_5 a0_1_1_6 a0_1_1_7 a0_1_1_8 a0_1_1_9 a0_1_1_10 a0_1_1_11 a0_1_1_12 a0_1_1_13 a0_1_1_14 a0_1_1_15 a0_1_1_16 a0_1_2 a0_1_3 a0_1_4 a0_1_5 a0_2 c) (bO (q_note n 5) ?_)
    refine bO (q_pays hok a0_1_0_6 a0_1_0_10 a0_1_1_0 a0_1_1_1 a0_1_1_2 a0_1_1_3 a0_1_1_4 a0_1_1_5 a0_1_1_6 a0_1_1_7 a0_1_1_8 a0_1_1_9 a0_1_1_10 a0_1_1_11 a0_1_1_12 a0_1_1_13 a0_1_1_14 a0_1_1_15 a0_1_1_16 a0_1_2 a0_1_3 a0_1_4 a0_1_5 a0_2 n) (bO (q_note n 6) ?_)
    refine bO (q_visits hok a0_1_0_6 a0_1_0_10 a0_1_1_0 a0_1_1_1 a0_1_1_2 a0_1_1_3 a0_1_1_4 a0_1_1_5 a0_1_1_6 a0_1_1_7 a0_1_1_8 a0_1_1_9 a0_1_1_10 a0_1_1_11 a0_1_1_12 a0_1_1_13 a0_1_1_14 a0_1_1_15 a0_1_1_16 a0_1_2 a0_1_3 a0_1_4 a0_1_5 a0_2 n) (bO (q_note n 7) ?_)
    refine bO (q_stores hok a0_1_0_6 a0_1_0_10 a0_1_1_0 a0_1_1_1 a0_1_1_2 a0_1_1_3 a0_1_1_4 a0_1_1_5 a0_1_1_6 a0_1_1_7 a0_1_1_8 a0_1_1_9 a0_1_1_10 a0_1_1_11 a0_1_1_12 a0_1_1_13 a0_1_1_14 a0_1_1_15 a0_1_1_16 a0_1_2 a0_1_3 a0_1_4 a0_1_5 a0_2 n) (bO (q_note n 8) ?_)
    rfl
end Go.Abs.Pure
end
section
set_option linter.unusedVariables false
set_option linter.unusedSimpArgs false
set_option maxRecDepth 100000
namespace Go.Abs.Pure
open Go Go.Abs Go.Proofs
theorem q_l11 {n : Nat} (hn : 0 < n) (x2 : Int) (x3 : Int) (x4 : Int) (x5 : Int) (x6 : List AV) (x7 : Int) (x8 : Int) (x9 : List Int) (x10 : List AV) (x11 : Int) (x12 : Int) (x13 : List Int) (x14 : List Int) (x15 : Bool) (x16 : List Int) (x17 : List Int) (x18 : List Int) (x19 : Int) (x20 : Int) (x21 : Int) (x22 : List Int) (x23 : List Int) (x24 : Bool) (x25 : List Int) (x26 : Int) (x27 : Int) (x28 : List Int) (x29 : List Int) (x30 : Int) (x31 : Bool) (x32 : Bool) (x33 : List AV) (x34 : List Int) (x35 : List Int) (x36 : List Int) (x37 : Bool) (x38 : List Int) (x39 : List Int) (x40 : List Int) (x41 : Int) (x42 : Int) (x43 : Int) (x44 : List Int) (x45 : List Int) (x46 : Bool) (x47 : List Int) (x48 : Int) (x49 : Int) (x50 : List Int) (x51 : List Int) (x52 : Bool) (x53 : Bool) (x54 : Bool) (x55 : Bool) (x56 : List AV) (x57 : List AV) (x58 : List AV) (x59 : List AV) : Faj.l11_0.m n n (0, 0, x2, x3, x4, x5, x6, x7, x8, x9, x10, x11, x12, x13, x14, x15, x16, x17, x18, x19, x20, x21, x22, x23, x24, x25, x26, x27, x28, x29, x30, x31, x32, x33, x34, x35, x36, x37, x38, x39, x40, x41, x42, x43, x44, x45, x46, x47, x48, x49, x50, x51, x52, x53, x54, x55, x56, x57, x58, x59) = some (x4, x5, x6, x2, x7, x8, x11, x12, x13, x14, x15, x16, x17, x18, x19, x20, x21, x22, x23, x24, x25, x26, x27, x28, x29, x30, x31, x32, x33, x34, x10, x35, x36, x37, x38, x39, x40, x41, x42, x43, x44, x45, x46, x47, x48, x49, x50, x51, x52, x53, x54, x55, x56, x57, x58, x59) := by
  obtain ⟨k, rfl⟩ : ∃ k, n = k + 1 := ⟨n - 1, by omega⟩
  rfl
theorem q_l8 {α : Type} (mk : Int → Int → Int → (List Int) → (List Int) → Bool → (List Int) → (List Int) → (List Int) → Int → Int → Int → (List Int) → (List Int) → Bool → (List Int) → Int → Int → (List Int) → (List Int) → Bool → Bool → Bool → Bool → (List AV) → (List AV) → (List AV) → (List AV) → (List AV) → α) {n : Nat} (c : Closed n) (hn : 0 < n) (s : List Int) (evs : List AV) (hq : ∀ v ∈ evs, QE s v) (hl : evs.length ≤ 1000000) (x3 : Int) (x4 : Int) (x5 : Int) (x6 : Int) (x7 : Int) (x8 : List Int) (x9 : List Int) (x10 : Bool) (x11 : List Int) (x12 : List Int) (x13 : List Int) (x14 : Int) (x15 : Int) (x16 : Int) (x17 : List Int) (x18 : List Int) (x19 : Bool) (x20 : List Int) (x21 : Int) (x22 : Int) (x23 : List Int) (x24 : List Int) (x25 : Int) (x26 : Bool) (x27 : Bool) (x28 : List AV) (x29 : List Int) (x30 : List AV) (x31 : List Int) (x32 : List Int) (x33 : Bool) (x34 : List Int) (x35 : List Int) (x36 : List Int) (x37 : Int) (x38 : Int) (x39 : Int) (x40 : List Int) (x41 : List Int) (x42 : Bool) (x43 : List Int) (x44 : Int) (x45 : Int) (x46 : List Int) (x47 : List Int) (x48 : Bool) (x49 : Bool) (x50 : Bool) (x51 : Bool) (x52 : List AV) (x53 : List AV) (x54 : List AV) (x55 : List AV) (hlo : x29 = []) : ∀ (k m j : Nat), j + k = evs.length → k < m →
    Faj.l8_0.g mk n m (j : Int) ((evs.length : Nat) : Int) evs x3 x4 x5 x6 x7 x8 x9 x10 x11 x12 x13 x14 x15 x16 x17 x18 x19 x20 x21 x22 x23 x24 x25 x26 x27 x28 x29 x30 x31 x32 x33 x34 x35 x36 x37 x38 x39 x40 x41 x42 x43 x44 x45 x46 x47 x48 x49 x50 x51 x52 x53 x54 x55 = some (mk x3 x4 x5 x31 x32 x33 x34 x35 x36 x37 x38 x39 x40 x41 x42 x43 x44 x45 x46 x47 x48 x49 x50 x51 x52 x53 x54 x55 x30)
  | 0, m + 1, j, hj, _ => iF (by simp; omega) rfl
  | k + 1, m + 1, j, hj, hm => by
    have hlt : j < evs.length := by omega
    obtain ⟨op, fa, hv, hc⟩ := hq evs[j] (List.getElem_mem hlt)
    have ih := q_l8 mk c hn s evs hq hl x3 x4 x5 x6 x7 x8 x9 x10 x11 x12 x13 x14 x15 x16 x17 x18 x19 x20 x21 x22 x23 x24 x25 x26 x27 x28 x29 x30 x31 x32 x33 x34 x35 x36 x37 x38 x39 x40 x41 x42 x43 x44 x45 x46 x47 x48 x49 x50 x51 x52 x53 x54 x55 hlo k m (j + 1) (by omega) (by omega)
    have hnx := next_at (j := j) (by omega)
    refine iT (by simp; omega) (iT (by omega) (iT (by omega) ?_))
    rw [at_nat hlt, hv]
    refine bO rfl (bO rfl (bO rfl (bO rfl (bO rfl (bO rfl (bO rfl (bO rfl ?_)))))))
    subst hlo
    refine bO (q_broken c hc x6 x7 x8 x9 x10 x11 x12 x13 x14 x15 x16 x17 x18 x19 x20 x21 x22 x23 x24 x25 x26 x27 x28 (j : Int)) ?_
    refine bO (q_l11 hn x3 (j : Int) (j : Int) ((evs.length : Nat) : Int) evs x4 x5 [] x30 x6 x7 x8 x9 x10 x11 x12 x13 x14 x15 x16 x17 x18 x19 x20 x21 x22 x23 x24 x25 x26 x27 x28 [] x31 x32 x33 x34 x35 x36 x37 x38 x39 x40 x41 x42 x43 x44 x45 x46 x47 x48 x49 x50 x51 x52 x53 x54 x55) ?_
    rw [← hnx] at ih
    exact ih
end Go.Abs.Pure
end
section
set_option linter.unusedVariables false
set_option linter.unusedSimpArgs false
set_option maxRecDepth 100000
namespace Go.Abs.Pure
open Go Go.Abs Go.Proofs
theorem q_r1 {α : Type} (mk : (List AV) → α) {n : Nat} (c : Closed n) (hn : 300 < n) (rc : Int → Int → Int → (List Int) → (List Int) → Bool → (List Int) → (List Int) → (List Int) → Int → Int → Int → (List Int) → (List Int) → Bool → (List Int) → Int → Int → (List Int) → (List Int) → Bool → Bool → Bool → Bool → (List AV) → (List AV) → (List AV) → (List AV) → (List AV) → Option α) (s : List Int) (x1 : Int) (x2 : Int) (x3 : List Int) (x4 : List Int) (x5 : Bool) (x6 : List Int) (x7 : List Int) (x8 : List Int) (x9 : Int) (x10 : Int) (x11 : Int) (x12 : List Int) (x13 : List Int) (x14 : Bool) (x15 : List Int) (x16 : Int) (x17 : Int) (x18 : List Int) (x19 : List Int) (x20 : Bool) (x21 : Bool) (x22 : Bool) (x23 : Bool) (x24 : List AV) (x25 : List AV) (x26 : List AV) (x27 : List AV) (hq : ∀ v ∈ x25, QE s v) (hl : x25.length ≤ 300) : Faj.l3_0.r mk n rc 1 x1 x2 x3 x4 x5 x6 x7 x8 x9 x10 x11 x12 x13 x14 x15 x16 x17 x18 x19 x20 x21 x22 x23 x24 x25 x26 x27 [] = rc 2 x1 x2 x3 x4 x5 x6 x7 x8 x9 x10 x11 x12 x13 x14 x15 x16 x17 x18 x19 x20 x21 x22 x23 x24 x25 x26 x27 [] := by
  unfold Faj.l3_0.r
  refine iT (by decide) (iT rfl ?_)
  cases x5
  · refine iF Bool.false_ne_true ?_
    refine bO (loose hq (by omega) (by omega)) ?_
    refine bO (q_l8 _ c (by omega) s x25 hq (by omega) _ _ _ _ _ _ _ _ _ _ _ _ _ _ _ _ _ _ _ _ _ _ _ _ _ _ _ _ _ _ _ _ _ _ _ _ _ _ _ _ _ _ _ _ _ _ _ _ _ _ _ _ _ rfl x25.length n 0 (by omega) (by omega)) ?_
    rfl
  · refine iT rfl ?_
    refine bO (loose hq (by omega) (by omega)) ?_
    refine bO (q_l8 _ c (by omega) s x25 hq (by omega) _ _ _ _ _ _ _ _ _ _ _ _ _ _ _ _ _ _ _ _ _ _ _ _ _ _ _ _ _ _ _ _ _ _ _ _ _ _ _ _ _ _ _ _ _ _ _ _ _ _ _ _ _ rfl x25.length n 0 (by omega) (by omega)) ?_
    rfl
theorem q_r2 {α : Type} (mk : (List AV) → α) {n : Nat} (c : Closed n) (hn : 300 < n) (rc : Int → Int → Int → (List Int) → (List Int) → Bool → (List Int) → (List Int) → (List Int) → Int → Int → Int → (List Int) → (List Int) → Bool → (List Int) → Int → Int → (List Int) → (List Int) → Bool → Bool → Bool → Bool → (List AV) → (List AV) → (List AV) → (List AV) → (List AV) → Option α) (s : List Int) (x1 : Int) (x2 : Int) (x3 : List Int) (x4 : List Int) (x5 : Bool) (x6 : List Int) (x7 : List Int) (x8 : List Int) (x9 : Int) (x10 : Int) (x11 : Int) (x12 : List Int) (x13 : List Int) (x14 : Bool) (x15 : List Int) (x16 : Int) (x17 : Int) (x18 : List Int) (x19 : List Int) (x20 : Bool) (x21 : Bool) (x22 : Bool) (x23 : Bool) (x24 : List AV) (x25 : List AV) (x26 : List AV) (x27 : List AV) (hq : ∀ v ∈ x26, QE s v) (hl : x26.length ≤ 300) : Faj.l3_0.r mk n rc 2 x1 x2 x3 x4 x5 x6 x7 x8 x9 x10 x11 x12 x13 x14 x15 x16 x17 x18 x19 x20 x21 x22 x23 x24 x25 x26 x27 [] = rc 3 x1 x2 x3 x4 x5 x6 x7 x8 x9 x10 x11 x12 x13 x14 x15 x16 x17 x18 x19 x20 x21 x22 x23 x24 x25 x26 x27 [] := by
  unfold Faj.l3_0.r
  refine iT (by decide) (iF (by decide) (iT rfl ?_))
  cases x5
  · refine iF Bool.false_ne_true ?_
    refine bO (loose hq (by omega) (by omega)) ?_
    refine bO (q_l8 _ c (by omega) s x26 hq (by omega) _ _ _ _ _ _ _ _ _ _ _ _ _ _ _ _ _ _ _ _ _ _ _ _ _ _ _ _ _ _ _ _ _ _ _ _ _ _ _ _ _ _ _ _ _ _ _ _ _ _ _ _ _ rfl x26.length n 0 (by omega) (by omega)) ?_
    rfl
  · refine iT rfl ?_
    refine bO (loose hq (by omega) (by omega)) ?_
    refine bO (q_l8 _ c (by omega) s x26 hq (by omega) _ _ _ _ _ _ _ _ _ _ _ _ _ _ _ _ _ _ _ _ _ _ _ _ _ _ _ _ _ _ _ _ _ _ _ _ _ _ _ _ _ _ _ _ _ _ _ _ _ _ _ _ _ rfl x26.length n 0 (by omega) (by omega)) ?_
    rfl
theorem q_r3 {α : Type} (mk : (List AV) → α) {n : Nat} (c : Closed n) (hn : 300 < n) (rc : Int → Int → Int → (List Int) → (List Int) → Bool → (List Int) → (List Int) → (List Int) → Int → Int → Int → (List Int) → (List Int) → Bool → (List Int) → Int → Int → (List Int) → (List Int) → Bool → Bool → Bool → Bool → (List AV) → (List AV) → (List AV) → (List AV) → (List AV) → Option α) (s : List Int) (x1 : Int) (x2 : Int) (x3 : List Int) (x4 : List Int) (x5 : Bool) (x6 : List Int) (x7 : List Int) (x8 : List Int) (x9 : Int) (x10 : Int) (x11 : Int) (x12 : List Int) (x13 : List Int) (x14 : Bool) (x15 : List Int) (x16 : Int) (x17 : Int) (x18 : List Int) (x19 : List Int) (x20 : Bool) (x21 : Bool) (x22 : Bool) (x23 : Bool) (x24 : List AV) (x25 : List AV) (x26 : List AV) (x27 : List AV) (hq : ∀ v ∈ x27, QE s v) (hl : x27.length ≤ 300) : Faj.l3_0.r mk n rc 3 x1 x2 x3 x4 x5 x6 x7 x8 x9 x10 x11 x12 x13 x14 x15 x16 x17 x18 x19 x20 x21 x22 x23 x24 x25 x26 x27 [] = rc 4 x1 x2 x3 x4 x5 x6 x7 x8 x9 x10 x11 x12 x13 x14 x15 x16 x17 x18 x19 x20 x21 x22 x23 x24 x25 x26 x27 [] := by
  unfold Faj.l3_0.r
  refine iT (by decide) (iF (by decide) (iF (by decide) (iT rfl ?_)))
  cases x5
  · refine iF Bool.false_ne_true ?_
    refine bO (loose hq (by omega) (by omega)) ?_
    refine bO (q_l8 _ c (by omega) s x27 hq (by omega) _ _ _ _ _ _ _ _ _ _ _ _ _ _ _ _ _ _ _ _ _ _ _ _ _ _ _ _ _ _ _ _ _ _ _ _ _ _ _ _ _ _ _ _ _ _ _ _ _ _ _ _ _ rfl x27.length n 0 (by omega) (by omega)) ?_
    rfl
  · refine iT rfl ?_
    refine bO (loose hq (by omega) (by omega)) ?_
    refine bO (q_l8 _ c (by omega) s x27 hq (by omega) _ _ _ _ _ _ _ _ _ _ _ _ _ _ _ _ _ _ _ _ _ _ _ _ _ _ _ _ _ _ _ _ _ _ _ _ _ _ _ _ _ _ _ _ _ _ _ _ _ _ _ _ _ rfl x27.length n 0 (by omega) (by omega)) ?_
    rfl
theorem q_check {n : Nat} (c : Closed n) (hn : 300 < n) (s : List Int) (a0_6 : Int) (a0_10 : Int) (a1_0 : List Int) (a1_1 : List Int) (a1_2 : Bool) (a1_3 : List Int) (a1_4 : List Int) (a1_5 : List Int) (a1_6 : Int) (a1_7 : Int) (a1_8 : Int) (a1_9 : List Int) (a1_10 : List Int) (a1_11 : Bool) (a1_12 : List Int) (a1_13 : Int) (a1_14 : Int) (a1_15 : List Int) (a1_16 : List Int) (a2_0 : List AV) (a2_1 : List AV) (a2_2 : List AV) (a2_3 : List AV) (a3_0 : Bool) (a3_1 : Bool) (a3_2 : Bool) (a3_3 : Bool) (hq1 : ∀ v ∈ a2_1, QE s v) (hl1 : a2_1.length ≤ 300) (hq2 : ∀ v ∈ a2_2, QE s v) (hl2 : a2_2.length ≤ 300) (hq3 : ∀ v ∈ a2_3, QE s v) (hl3 : a2_3.length ≤ 300) : Faj.m n (a0_6, a0_10, a1_0, a1_1, a1_2, a1_3, a1_4, a1_5, a1_6, a1_7, a1_8, a1_9, a1_10, a1_11, a1_12, a1_13, a1_14, a1_15, a1_16, a2_0, a2_1, a2_2, a2_3, a3_0, a3_1, a3_2, a3_3) = some [] := by
  obtain ⟨m, rfl⟩ : ∃ m, n = m + 4 := ⟨n - 4, by omega⟩
  refine bO (a := []) (((q_r1 (fun a0 => a0) c hn _ s a0_6 a0_10 a1_0 a1_1 a1_2 a1_3 a1_4 a1_5 a1_6 a1_7 a1_8 a1_9 a1_10 a1_11 a1_12 a1_13 a1_14 a1_15 a1_16 a3_0 a3_1 a3_2 a3_3 a2_0 a2_1 a2_2 a2_3 hq1 hl1).trans ((q_r2 _ c hn _ s a0_6 a0_10 a1_0 a1_1 a1_2 a1_3 a1_4 a1_5 a1_6 a1_7 a1_8 a1_9 a1_10 a1_11 a1_12 a1_13 a1_14 a1_15 a1_16 a3_0 a3_1 a3_2 a3_3 a2_0 a2_1 a2_2 a2_3 hq2 hl2).trans ((q_r3 _ c hn _ s a0_6 a0_10 a1_0 a1_1 a1_2 a1_3 a1_4 a1_5 a1_6 a1_7 a1_8 a1_9 a1_10 a1_11 a1_12 a1_13 a1_14 a1_15 a1_16 a3_0 a3_1 a3_2 a3_3 a2_0 a2_1 a2_2 a2_3 hq3 hl3).trans ?_)))) rfl
  rfl
end Go.Abs.Pure
end
section
set_option linter.unusedVariables false
set_option linter.unusedSimpArgs false
set_option maxRecDepth 100000
namespace Go.Abs.Pure
open Go Go.Abs Go.Proofs
theorem ok_of {op : Int} (h : op < 49 ∨ op = 51 ∨ op = 52 ∨ op = 53 ∨ op = 54 ∨ op = 55) : okop op := by unfold okop; omega
theorem q_j9 (n : Nat) (op : Int) (h0 : 0 ≤ op) (h1 : op ≤ 255) (x1 : Int) (x2 : List AV) (x3 : List Int) (x4 : Int) (ux4 : List Int) (ux5 : List Int) (ux6 : Bool) (ux7 : List Int) (ux8 : List Int) (ux9 : List Int) (ux10 : Int) (ux11 : Int) (ux12 : Int) (ux13 : List Int) (ux14 : List Int) (ux15 : Bool) (ux16 : List Int) (ux17 : Int) (ux18 : Int) (ux19 : List Int) (ux20 : List Int) (m0 m1 m2 m3 : List AV) : ∃ op', okop op' ∧ Fac.j9.m n (op, x1, x2, x3, x4, ux4, ux5, ux6, ux7, ux8, ux9, ux10, ux11, ux12, ux13, ux14, ux15, ux16, ux17, ux18, ux19, ux20, m0, m1, m2, m3) = some (op', x1, x2, x3, x4, ux4, ux5, ux6, ux7, ux8, ux9, ux10, ux11, ux12, ux13, ux14, ux15, ux16, ux17, ux18, ux19, ux20, m0, m1, m2, m3) := by
  unfold Fac.j9.m Fac.j9.g
  by_cases a1 : op ≥ 49
  · by_cases a2 : op = 51
    · exact ⟨op, ok_of (by omega), iT (by simpa using a1) (iF (by simpa using a2) rfl)⟩
    by_cases a3 : op = 52
    · exact ⟨op, ok_of (by omega), iT (by simpa using a1) (iT (by simpa using a2) (iF (by simpa using a3) rfl))⟩
    by_cases a4 : op = 53
    · exact ⟨op, ok_of (by omega), iT (by simpa using a1) (iT (by simpa using a2) (iT (by simpa using a3) (iF (by simpa using a4) rfl)))⟩
    by_cases a5 : op = 54
    · exact ⟨op, ok_of (by omega), iT (by simpa using a1) (iT (by simpa using a2) (iT (by simpa using a3) (iT (by simpa using a4) (iF (by simpa using a5) rfl))))⟩
    by_cases a6 : op = 55
    · exact ⟨op, ok_of (by omega), iT (by simpa using a1) (iT (by simpa using a2) (iT (by simpa using a3) (iT (by simpa using a4) (iT (by simpa using a5) (iF (by simpa using a6) rfl)))))⟩
    have one : okop 1 := ok_of (by omega)
    by_cases a7 : op < 80
    · exact ⟨1, one, iT (by simpa using a1) (iT (by simpa using a2) (iT (by simpa using a3) (iT (by simpa using a4) (iT (by simpa using a5) (iT (by simpa using a6) (iT (by simpa using a7) rfl))))))⟩
    by_cases a8 : op = 84
    · exact ⟨1, one, iT (by simpa using a1) (iT (by simpa using a2) (iT (by simpa using a3) (iT (by simpa using a4) (iT (by simpa using a5) (iT (by simpa using a6) (iF (by simpa using a7) (iT (by simpa using a8) rfl)))))))⟩
    by_cases a9 : op = 85
    · exact ⟨1, one, iT (by simpa using a1) (iT (by simpa using a2) (iT (by simpa using a3) (iT (by simpa using a4) (iT (by simpa using a5) (iT (by simpa using a6) (iF (by simpa using a7) (iF (by simpa using a8) (iT (by simpa using a9) rfl))))))))⟩
    by_cases a10 : op = 90
    · exact ⟨1, one, iT (by simpa using a1) (iT (by simpa using a2) (iT (by simpa using a3) (iT (by simpa using a4) (iT (by simpa using a5) (iT (by simpa using a6) (iF (by simpa using a7) (iF (by simpa using a8) (iF (by simpa using a9) (iT (by simpa using a10) rfl)))))))))⟩
    by_cases a11 : op ≥ 240
    · exact ⟨1, one, iT (by simpa using a1) (iT (by simpa using a2) (iT (by simpa using a3) (iT (by simpa using a4) (iT (by simpa using a5) (iT (by simpa using a6) (iF (by simpa using a7) (iF (by simpa using a8) (iF (by simpa using a9) (iF (by simpa using a10) (iT (by simpa using a11) rfl))))))))))⟩
    · exact ⟨op, by unfold okop; omega, iT (by simpa using a1) (iT (by simpa using a2) (iT (by simpa using a3) (iT (by simpa using a4) (iT (by simpa using a5) (iT (by simpa using a6) (iF (by simpa using a7) (iF (by simpa using a8) (iF (by simpa using a9) (iF (by simpa using a10) (iF (by simpa using a11) rfl))))))))))⟩
  · exact ⟨op, ok_of (by omega), iF (by simpa using a1) rfl⟩
theorem q_j12 (n j : Nat) (fl : List AV) (hf : ∀ z ∈ fl, ∃ c0, z = AV.bool c0) (ops : List Int) (hj : j < ops.length) (x3 op : Int) (hok : okop op) (x5 : Int) (x6 x7 x8 : List Int) (ux4 : List Int) (ux5 : List Int) (ux6 : Bool) (ux7 : List Int) (ux8 : List Int) (ux9 : List Int) (ux10 : Int) (ux11 : Int) (ux12 : Int) (ux13 : List Int) (ux14 : List Int) (ux15 : Bool) (ux16 : List Int) (ux17 : Int) (ux18 : Int) (ux19 : List Int) (ux20 : List Int) (m0 m1 m2 m3 : List AV) : ∃ op' fa, (fa = 133 ∨ (fa = 0 ∧ okop op')) ∧ Fac.j12.m n ((j : Int), fl, ops, x3, op, x5, x6, x7, x8, 0, ux4, ux5, ux6, ux7, ux8, ux9, ux10, ux11, ux12, ux13, ux14, ux15, ux16, ux17, ux18, ux19, ux20, m0, m1, m2, m3) = some (x3, (j : Int), ops, fl, op', x5, x6, x7, x8, fa, ux4, ux5, ux6, ux7, ux8, ux9, ux10, ux11, ux12, ux13, ux14, ux15, ux16, ux17, ux18, ux19, ux20, m0, m1, m2, m3) := by
  unfold Fac.j12.m Fac.j12.g
  by_cases a1 : j < fl.length
  · obtain ⟨b, hb⟩ := hf _ (List.getElem_mem a1)
    have hg : tkBool (List.getD fl (Int.toNat (j : Int)) Go.Abs.AV.any) = some b := by rw [at_nat a1, hb]; rfl
    cases b with
    | true => exact ⟨_, 133, .inl rfl, iT (by simpa using a1) (iT (by show (0 : Int) ≤ (j : Int); omega) (iT (by show (j : Int) < ((fl.length : Nat) : Int); omega) (bO hg (iT rfl (iT (by show (0 : Int) ≤ (j : Int); omega) (iT (by show (j : Int) < ((ops.length : Nat) : Int); omega) rfl))))))⟩
    | false => exact ⟨op, 0, .inr ⟨rfl, hok⟩, iT (by simpa using a1) (iT (by show (0 : Int) ≤ (j : Int); omega) (iT (by show (j : Int) < ((fl.length : Nat) : Int); omega) (bO hg (iF Bool.false_ne_true rfl))))⟩
  · exact ⟨op, 0, .inr ⟨rfl, hok⟩, iF (by simpa using a1) rfl⟩
theorem qe_put {s : List Int} {l : List AV} (h : ∀ v ∈ l, QE s v) {op fa : Int} (hc : fa = 133 ∨ (fa = 0 ∧ okop op)) : ∀ v ∈ l ++ [Ev s op fa], QE s v := fun v hv => by
  rcases List.mem_append.1 hv with hv | hv
  · exact h v hv
  · exact ⟨op, fa, by simpa using hv, hc⟩
theorem q_l6 {α : Type} (mk : (List Int) → (List Int) → Bool → (List Int) → (List Int) → (List Int) → Int → Int → Int → (List Int) → (List Int) → Bool → (List Int) → Int → Int → (List Int) → (List Int) → (List AV) → (List AV) → (List AV) → (List AV) → α) (n : Nat) (ops : List Int) (ho : ∀ x ∈ ops, 0 ≤ x ∧ x ≤ 255) (hl : ops.length ≤ 300) (fl : List AV) (hf : ∀ z ∈ fl, ∃ c0, z = AV.bool c0) (kk : Int) (hk : kk = 1 ∨ kk = 2 ∨ kk = 3) (x4 : List Int) (x5 : List Int) (x6 : Bool) (x7 : List Int) (x8 : List Int) (x9 : List Int) (x10 : Int) (x11 : Int) (x12 : Int) (x13 : List Int) (x14 : List Int) (x15 : Bool) (x16 : List Int) (x17 : Int) (x18 : Int) (x19 : List Int) (x20 : List Int) (m0 : List AV) : ∀ (i m j : Nat), j + i = ops.length → i < m → ∀ m1 m2 m3 : List AV, (∀ v ∈ m1, QE x4 v) → (∀ v ∈ m2, QE x4 v) → (∀ v ∈ m3, QE x4 v) → m1.length ≤ j → m2.length ≤ j → m3.length ≤ j →
    ∃ l1 l2 l3 : List AV, ((∀ v ∈ l1, QE x4 v) ∧ (∀ v ∈ l2, QE x4 v) ∧ (∀ v ∈ l3, QE x4 v) ∧ l1.length ≤ 300 ∧ l2.length ≤ 300 ∧ l3.length ≤ 300) ∧ Fac.l6_0.g mk n m (j : Int) ops fl kk x4 x5 x6 x7 x8 x9 x10 x11 x12 x13 x14 x15 x16 x17 x18 x19 x20 m0 m1 m2 m3 = some (mk x4 x5 x6 x7 x8 x9 x10 x11 x12 x13 x14 x15 x16 x17 x18 x19 x20 m0 l1 l2 l3)
  | 0, m + 1, j, hj, _, m1, m2, m3, g1, g2, g3, k1, k2, k3 => ⟨m1, m2, m3, ⟨g1, g2, g3, by omega, by omega, by omega⟩, iF (by simp; omega) rfl⟩
  | i + 1, m + 1, j, hj, hm, m1, m2, m3, g1, g2, g3, k1, k2, k3 => by
    have hlt : j < ops.length := by omega
    have hx : 0 ≤ List.getD ops (Int.toNat (j : Int)) 0 ∧ List.getD ops (Int.toNat (j : Int)) 0 ≤ 255 := by
      have := ho _ (List.getElem_mem hlt)
      simpa [List.getD_eq_getElem?_getD, List.getElem?_eq_getElem hlt] using this
    obtain ⟨op1, hok, e9⟩ := q_j9 n _ hx.1 hx.2 (j : Int) fl ops kk x4 x5 x6 x7 x8 x9 x10 x11 x12 x13 x14 x15 x16 x17 x18 x19 x20 m0 m1 m2 m3
    obtain ⟨op2, fa, hc, e12⟩ := q_j12 n j fl hf ops hlt kk op1 hok 0 x4 [0, 0, 0, 0] [0, 0, 0, 0] x4 x5 x6 x7 x8 x9 x10 x11 x12 x13 x14 x15 x16 x17 x18 x19 x20 m0 m1 m2 m3
    have hnx := next_at (j := j) (by omega)
    rcases hk with rfl | hk
    · obtain ⟨l1, l2, l3, hp, e⟩ := q_l6 mk n ops ho hl fl hf 1 (by omega) x4 x5 x6 x7 x8 x9 x10 x11 x12 x13 x14 x15 x16 x17 x18 x19 x20 m0 i m (j + 1) (by omega) (by omega) (m1 ++ [Ev x4 op2 fa]) m2 m3 (qe_put g1 hc) g2 g3 (by simp; omega) (by omega) (by omega)
      refine ⟨l1, l2, l3, hp, ?_⟩
      have h1 : (m1.length + 1) * 136 ≤ 70368744177664 := by omega
      have h2 : m1.length + 1 ≤ 9223372036854775807 := by omega
      refine iT (by simp; omega) (iT (by omega) (iT (by omega) ?_))
      refine bO e9 ?_
      refine bO e12 ?_
      refine iT rfl (iT (by exact ⟨h1, h2⟩) ?_)
      rw [← hnx] at e
      exact e
    rcases hk with rfl | rfl
    · obtain ⟨l1, l2, l3, hp, e⟩ := q_l6 mk n ops ho hl fl hf 2 (by omega) x4 x5 x6 x7 x8 x9 x10 x11 x12 x13 x14 x15 x16 x17 x18 x19 x20 m0 i m (j + 1) (by omega) (by omega) m1 (m2 ++ [Ev x4 op2 fa]) m3 g1 (qe_put g2 hc) g3 (by omega) (by simp; omega) (by omega)
      refine ⟨l1, l2, l3, hp, ?_⟩
      have h1 : (m2.length + 1) * 136 ≤ 70368744177664 := by omega
      have h2 : m2.length + 1 ≤ 9223372036854775807 := by omega
      refine iT (by simp; omega) (iT (by omega) (iT (by omega) ?_))
      refine bO e9 ?_
      refine bO e12 ?_
      refine iF (show ¬ ((2 : Int) = 1) by decide) (iT rfl (iT (by exact ⟨h1, h2⟩) ?_))
      rw [← hnx] at e
      exact e
    · obtain ⟨l1, l2, l3, hp, e⟩ := q_l6 mk n ops ho hl fl hf 3 (by omega) x4 x5 x6 x7 x8 x9 x10 x11 x12 x13 x14 x15 x16 x17 x18 x19 x20 m0 i m (j + 1) (by omega) (by omega) m1 m2 (m3 ++ [Ev x4 op2 fa]) g1 g2 (qe_put g3 hc) (by omega) (by omega) (by simp; omega)
      refine ⟨l1, l2, l3, hp, ?_⟩
      have h1 : (m3.length + 1) * 136 ≤ 70368744177664 := by omega
      have h2 : m3.length + 1 ≤ 9223372036854775807 := by omega
      refine iT (by simp; omega) (iT (by omega) (iT (by omega) ?_))
      refine bO e9 ?_
      refine bO e12 ?_
      refine iF (show ¬ ((3 : Int) = 1) by decide) (iF (show ¬ ((3 : Int) = 2) by decide) (iT rfl (iT (by exact ⟨h1, h2⟩) ?_)))
      rw [← hnx] at e
      exact e
end Go.Abs.Pure
end
section
set_option linter.unusedVariables false
set_option linter.unusedSimpArgs false
set_option maxRecDepth 100000
namespace Go.Abs.Pure
open Go Go.Abs Go.Proofs
theorem known17 : Fat.m 1000 () = some true := by kernel_rfl
theorem new17 : Fas.m 1000 Unit.unit = some (0, 0) := by kernel_rfl
theorem which (r : Int) (h0 : 0 ≤ r) (h1 : r ≤ 255) : IntKind.wrap .i64 ((Int.tmod (IntKind.wrap .i64 r) 3) + 1) = 1 ∨ IntKind.wrap .i64 ((Int.tmod (IntKind.wrap .i64 r) 3) + 1) = 2 ∨ IntKind.wrap .i64 ((Int.tmod (IntKind.wrap .i64 r) 3) + 1) = 3 := by
  rw [wi64_id (n := r) (by omega) (by omega), Int.tmod_eq_emod_of_nonneg h0, wi64_id (by omega) (by omega)]
  omega
theorem quiet {n : Nat} (hkn : Fat.m n () = some true) (hnw : Fas.m n Unit.unit = some (0, 0)) (c : Closed n) (hn : 300 < n) (a0_0 : List Int) (a0_1 : List Int) (a0_2 : Bool) (a0_3 : List Int) (a0_4 : List Int) (a0_5 : List Int) (a0_6 : Int) (a0_7 : Int) (a0_8 : Int) (a0_9 : List Int) (a0_10 : List Int) (a0_11 : Bool) (a0_12 : List Int) (a0_13 : Int) (a0_14 : Int) (a0_15 : List Int) (a0_16 : List Int) (ops : List Int) (hb : InS .u8 ops) (fl : List AV) (hf : ∀ z ∈ fl, ∃ c0, z = AV.bool c0) (r : Int) (hr : InK .u8 r) : Fac.m n (a0_0, a0_1, a0_2, a0_3, a0_4, a0_5, a0_6, a0_7, a0_8, a0_9, a0_10, a0_11, a0_12, a0_13, a0_14, a0_15, a0_16, ops, fl, r) = some true := by
  have hr' : 0 ≤ r ∧ r ≤ 255 := hr
  have ho : ∀ x ∈ ops, 0 ≤ x ∧ x ≤ 255 := fun x hx => hb.2 x hx
  unfold Fac.m Fac.g
  by_cases hl : ops.length > 300
  · exact iT (by simp; omega) (bO hkn rfl)
  · refine iF (by simp; omega) (bO hkn (iF Bool.false_ne_true ?_))
    obtain ⟨l1, l2, l3, ⟨g1, g2, g3, k1, k2, k3⟩, e⟩ := q_l6 (fun a0 a1 a2 a3 a4 a5 a6 a7 a8 a9 a10 a11 a12 a13 a14 a15 a16 a17 a18 a19 a20 => (a0, a1, a2, a3, a4, a5, a6, a7, a8, a9, a10, a11, a12, a13, a14, a15, a16, a17, a18, a19, a20)) n ops ho (by omega) fl hf _ (which r hr'.1 hr'.2) a0_0 a0_1 a0_2 a0_3 a0_4 a0_5 a0_6 a0_7 a0_8 a0_9 a0_10 a0_11 a0_12 a0_13 a0_14 a0_15 a0_16 [] ops.length n 0 (by omega) (by omega) [] [] [] (by simp) (by simp) (by simp) (by simp) (by simp) (by simp)
    refine bO e ?_
    refine bO hnw ?_
    refine bO (q_check c hn a0_0 _ _ _ _ _ _ _ _ _ _ _ _ _ _ _ _ _ _ _ _ _ _ _ _ _ _ _ g1 k1 g2 k2 g3 k3) ?_
    rfl
theorem RulesQuiet (a0_0 : List Int) (h0 : InA .u8 20 a0_0) (a0_1 : List Int) (h1 : InA .u64 4 a0_1) (a0_2 : Bool) (a0_3 : List Int) (h3 : InA .u8 20 a0_3) (a0_4 : List Int) (h4 : InS .u8 a0_4) (a0_5 : List Int) (h5 : InS .u8 a0_5) (a0_6 : Int) (h6 : InK .u64 a0_6) (a0_7 : Int) (h7 : InK .u64 a0_7) (a0_8 : Int) (h8 : InK .u64 a0_8) (a0_9 : List Int) (h9 : InA .u64 4 a0_9) (a0_10 : List Int) (h10 : InA .u64 4 a0_10) (a0_11 : Bool) (a0_12 : List Int) (h12 : InA .u8 20 a0_12) (a0_13 : Int) (h13 : InK .u64 a0_13) (a0_14 : Int) (h14 : InK .u64 a0_14) (a0_15 : List Int) (h15 : InS .u8 a0_15) (a0_16 : List Int) (h16 : InS .u8 a0_16) (ops : List Int) (hb : InS .u8 ops) (fl : List AV) (hf : fl.length ≤ 140737488351232 ∧ ∀ z ∈ fl, ∃ c0, z = AV.bool c0) (r : Int) (hr : InK .u8 r) : ∃ n, Fac.m n (a0_0, a0_1, a0_2, a0_3, a0_4, a0_5, a0_6, a0_7, a0_8, a0_9, a0_10, a0_11, a0_12, a0_13, a0_14, a0_15, a0_16, ops, fl, r) = some true :=
  ⟨1000, quiet known17 new17 closed1000 (by decide) a0_0 a0_1 a0_2 a0_3 a0_4 a0_5 a0_6 a0_7 a0_8 a0_9 a0_10 a0_11 a0_12 a0_13 a0_14 a0_15 a0_16 ops hb fl hf.2 r hr⟩
end Go.Abs.Pure
end
