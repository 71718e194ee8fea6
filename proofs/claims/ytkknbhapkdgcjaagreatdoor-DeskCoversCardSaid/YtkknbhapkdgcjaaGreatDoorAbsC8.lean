/- An executor of the model's code over abstract values, and that it is right: what it tells of a run is what the run does. No condition. -/
import Derived.Test.YtkknbhapkdgcjaaGreatDoorAbsC7
import Derived.Maps.RangeRun
import Derived.Below
section
set_option linter.unusedVariables false
namespace Go.Abs
open Go
abbrev LI := List Int
abbrev LA := List AV
abbrev NL := Nat → List Nat × List Nat
def b8 (l : List Nat) : ByteArray := ByteArray.mk (List.toArray (l.map fun k => UInt8.ofBitVec (BitVec.ofNat 8 k)))
def zU : List (Nat × Callee) → Nat → Option Callee
 | [], _ => none
 | (k, c) :: r, n => if k = n then some c else zU r n
def zV : NL := fun _ => ([], [])
inductive CS (P : Program) (G : Nat → AV) : List (Nat × Callee) → Prop where
 | nil : CS P G []
 | cons {k c r} (h : zE P G k c) (t : CS P G r) : CS P G ((k, c) :: r)
theorem CS.ok {P : Program} {G : Nat → AV} {l : List (Nat × Callee)} (h : CS P G l) : ∀ f m, zU l f = some m → zE P G f m := by
 induction h with
 | nil => intro f m hm; cases hm
 | cons h t ih =>
  intro f m hm
  simp only [zU] at hm
  split at hm
  ·rename_i e
   cases hm
   subst e
   exact h
  ·exact ih f m hm
inductive LL (C : Ctx) (A : Ann) (n : Nat) : List Code → Prop where
 | nil : LL C A n []
 | cons {b r m} (e : A.loop (key b) = some m) (h : z5 C A n b m) (t : LL C A n r) : LL C A n (b :: r)
 | skip {b r} (e : A.loop (key b) = none) (t : LL C A n r) : LL C A n (b :: r)
theorem LL.ok {C : Ctx} {A : Ann} {n : Nat} {l : List Code} (h : LL C A n l) : ∀ b ∈ l, ∀ m, A.loop (key b) = some m → z5 C A n b m := by
 induction h with
 | nil => intro b hb; cases hb
 | cons e h t ih =>
  intro b hb m hm
  rcases List.mem_cons.1 hb with rfl | hb
  ·rw [e] at hm
   cases hm
   exact h
  ·exact ih b hb m hm
 | skip e t ih =>
  intro b hb m hm
  rcases List.mem_cons.1 hb with rfl | hb
  ·rw [e] at hm
   cases hm
  ·exact ih b hb m hm
theorem nj {C : Ctx} {A : Ann} {n : Nat} {l : List Code} (h : A.join = zW []) : ∀ a ∈ l, ∀ m, A.join (zBs a) = some m → zEz C A n a m := by
 intro a ha m hm
 rw [h] at hm
 cases hm
theorem fnC1 {C : Ctx} {A : Ann} {n : Nat} {f : FuncId} {fn : Func} {args : List AV} {lent : zC} {U : Type} {M : Option U} {res : U → AV × zC} {Y : Option (AV × zC)} {u : U} {l : List (Nat × Callee)} {lp : List Code}
  (hΓ : C.Γ = zU l) (hc : CS C.P C.G l) (hmix : C.P.follows .mixedOrders = true) (hf : C.P.funcs[f]? = some fn) (hb : fn.body.isNone = false) (hl : zK (fn.body.getD .skip) = lp) (hll : LL C A n lp)
  (hJ : ∀ a ∈ kM (fn.body.getD .skip), ∀ m, A.join (zBs a) = some m → zEz C A n a m) (hname : fn.name ≠ "runtime.NumGoroutine") (hL : A.lent = lent.length) (hN : A.len = fn.ntmps) (hn : args.length ≤ fn.ntmps)
  (run : runF C A n fn args lent (fun v o => some (v, o)) = Y) (e : Y = M.map res) (h : M = some u) : FnC C.P C.G f args lent (res u).1 (res u).2 := by
 have hb' : fn.body = some (fn.body.getD .skip) := by
  cases hx : fn.body with
  | none => rw [hx] at hb; cases hb
  | some c => rfl
 refine zJU (hΓ ▸ hc.ok) hmix hf hb' (hl ▸ hll.ok) hJ hname hL hN hn ?_
 rw [run, e, h]
 rfl
theorem zE.mk1 {T U : Type} {P : Program} {G : Nat → AV} {fid : FuncId} {fn : Func} {lend : List Bool} {anil : List (Option NK)} {pat : List AV → zC → Option T} {f : T → Option U} {res : U → AV × zC} {resK : {R : Type} → U → (AV → zC → Option R) → Option R} {shape : T → List AV × zC}
  (hk : ∀ (R : Type) (u : U) (K : AV → zC → Option R), resK u K = K (res u).1 (res u).2) (hp : ∀ args lent t, pat args lent = some t → (args, lent) = shape t) (h : ∀ t u, f t = some u → FnC P G fid (shape t).1 (shape t).2 (res u).1 (res u).2)
  (hf : P.funcs[fid]? = some fn) (hname : fn.name ≠ "runtime.NumGoroutine") (hc : fn.body.isNone = false) : zE P G fid (.mk' lend anil pat f resK) :=
 zE.of hk hp fun t u e => (h t u e).ok hf hname hc
abbrev zLH : Type := Int × (Int × (Int × (Int × (Int × LI))))
abbrev Ty42 : Type := Bool × (ByteArray × (Int × (Bool × Bool)))
abbrev zBk : Type := Int × (Int × (LA × (LA × (LA × (LA × LA)))))
abbrev zKs : Type := Int × (LI × (LI × (LI × (Int × (LI × LI)))))
abbrev zJK : Type := Int × (LI × (LI × (Int × (LI × (LI × LI)))))
abbrev zJJ : Type := Int × (Int × (LI × (LI × (LI × (LI × LI)))))
abbrev zLI : Type := Int × (Int × (LI × (Int × (LI × (LI × LI)))))
abbrev zJL : Type := Int × (Int × (LA × (Int × (Int × (LA × LA)))))
abbrev zCR : Type := LI × (Int × (Int × (LA × (LA × (LA × (LA × LA))))))
abbrev zIu : Type := Int × (Int × (LA × (LA × (LA × (LA × (LA × LA))))))
abbrev zLJ : Type := Int × (Int × (Int × (LI × (LI × (LI × (LI × LI))))))
abbrev Ty33 : Type := Int × (Int × (Int × (LA × (LA × (LA × (LA × LA))))))
abbrev zLK : Type := Bool × (Int × (Int × (LA × (LA × (LA × (LA × LA))))))
abbrev zCi : Type := LI × (LI × (Int × (Int × (LA × (LA × (LA × (LA × LA)))))))
abbrev Ty30 : Type := Int × (Int × (LA × (LA × (LA × (LA × (LA × (LA × LI)))))))
abbrev zLM : Type := Int × (Int × (LI × (Int × (LI × (LI × (Int × (LI × LI)))))))
abbrev zLL : Type := Int × (Int × (Int × (LI × (LI × (Int × (LI × (LI × LI)))))))
abbrev Ty27 : Type := Bool × (Int × (Int × (LA × (LA × (LA × (LA × (LI × LA)))))))
abbrev zJM : Type := Bool × (Int × (Int × (LA × (LA × (LA × (LA × (LA × LA)))))))
abbrev zLN : Type := Int × (Int × (LA × (LI × (ByteArray × (Int × (Bool × Bool))))))
abbrev zLO : Type := LI × (LI × (LI × (Int × (Int × (LA × (LA × (LA × (LA × LA))))))))
abbrev zDE : Type := Int × (Int × (Int × (LA × (LA × (LA × (LA × (LA × (LA × LI))))))))
abbrev Ty20 : Type := LI × (Int × (Int × (Int × (Int × (LA × (LA × (LA × (LA × LA))))))))
abbrev Ty21 : Type := Bool × (Int × (Int × (LA × (LA × (LA × (LA × (LA × (LA × LI))))))))
abbrev kG : Type := Int × (LI × (LI × (Int × (Int × (LA × (LA × (LA × (LA × (LA × LA)))))))))
abbrev Ty18 : Type := Int × (LI × (LI × (Int × (Int × (LA × (LA × (LA × (LA × (LI × LA)))))))))
abbrev zLP : Type := Int × (LA × (LI × (LA × (Int × (Int × (LA × (LA × (LA × (LA × LA)))))))))
abbrev Ty15 : Type := LI × (LI × (Int × (Int × (Int × (Int × (LA × (LA × (LA × (LA × LA)))))))))
abbrev zLQ : Type := Int × (Int × (Int × (Int × (LA × (LA × (LA × (LA × (LA × (LA × LI)))))))))
abbrev Ty14 : Type := Bool × (Int × (Int × (Int × (LA × (LA × (LA × (LA × (LA × (LA × LI)))))))))
abbrev Ty13 : Type := Int × (LI × (LI × (LI × (Int × (Int × (LI × (LI × (Int × (Bool × LI)))))))))
abbrev Ty8 : Type := LI × (Int × (LI × (ByteArray × (Int × (Int × (LA × (LA × (LA × (LA × LA)))))))))
abbrev Ty9 : Type := LI × (Int × (LI × (LI × (Int × (Int × (LA × (LA × (LA × (LA × (LA × LA))))))))))
abbrev zLT : Type := Int × (LI × (LI × (Int × (Int × (LA × (LA × (LA × (LA × (LA × (LA × LI))))))))))
abbrev zLS : Type := Int × (LI × (LI × (Int × (Int × (LA × (LA × (LA × (LA × (LA × (LI × LA))))))))))
abbrev zLR : Type := Int × (LI × (LI × (Int × (Int × (LA × (LA × (LA × (LA × (LI × (LA × LA))))))))))
abbrev Ty6 : Type := LI × (Bool × (Int × (LI × (LI × (Int × (Int × (LA × (LA × (LA × (LA × LA))))))))))
abbrev Ty7 : Type := Int × (LI × (LI × (LI × (Bool × (Int × (Int × (LA × (LA × (LA × (LA × LA))))))))))
abbrev Ty5 : Type := LI × (Nat × (Int × (LI × (LI × (Int × (Int × (LA × (LA × (LA × (LA × (LA × LA)))))))))))
abbrev Ty4 : Type := Int × (Int × (LA × (Int × (Int × (LA × (Int × (Int × (LI × (Int × (LI × (LI × (LA × (LA × LA)))))))))))))
abbrev Ty3 : Type := Int × (LI × (LI × (Int × (LI × (ByteArray × (LI × (Int × (Int × (Int × (LA × (LA × (LA × (LA × LA)))))))))))))
abbrev Ty2 : Type := Int × (LI × (LI × (Int × (Int × (LA × (LA × (LA × (LA × (LA × (ByteArray × (Int × (Bool × (Bool × LA)))))))))))))
abbrev Ty1 : Type := Int × (Int × (Int × (LI × (LI × (Int × (Int × (LA × (LA × (LA × (LA × (LA × (LA × (ByteArray × (Int × (Bool × (Bool × LA))))))))))))))))
abbrev Ty0 : Type := Int × (Int × (LA × (Int × (LI × (LI × (LI × (Int × (Int × (LI × (LI × (Int × (Bool × (LI × (Int × (Int × (LI × (LA × (LI × (LA × (LA × (LA × (LA × LA))))))))))))))))))))))
end Go.Abs
abbrev Prod.w {a b c d z : Type} (t : a × b × c × d × z) : z := t.2.2.2.2
abbrev Prod.x {a b c d e f g h z : Type} (t : a × b × c × d × e × f × g × h × z) : z := t.2.2.2.2.2.2.2.2
abbrev Prod.y {a b c d e f g h i j k l m n o p z : Type} (t : a × b × c × d × e × f × g × h × i × j × k × l × m × n × o × p × z) : z := t.2.2.2.2.2.2.2.2.2.2.2.2.2.2.2.2
namespace Go.Abs
open Go
abbrev yC (C : Ctx) (A : Ann) (n : Nat) (fn : Func) (p : List AV × zC) : Option (AV × zC) := runF C A n fn p.1 p.2 (fun v o => some (v, o))
theorem fnC2 {C : Ctx} {A : Ann} {n : Nat} {f : FuncId} {fn : Func} {p : List AV × zC} {U : Type} {M : Option U} {res : U → AV × zC} {u : U} {l : List (Nat × Callee)} {lp : List Code}
  (hΓ : C.Γ = zU l) (hc : CS C.P C.G l) (hmix : C.P.follows .mixedOrders = true) (hf : C.P.funcs[f]? = some fn) (hb : fn.body.isNone = false) (hl : zK (fn.body.getD .skip) = lp) (hll : LL C A n lp)
  (hJ : ∀ a ∈ kM (fn.body.getD .skip), ∀ m, A.join (zBs a) = some m → zEz C A n a m) (hname : fn.name ≠ "runtime.NumGoroutine") (hL : A.lent = p.2.length) (hN : A.len = fn.ntmps) (hn : p.1.length ≤ fn.ntmps)
  (run : yC C A n fn p = M.map res) (h : M = some u) : FnC C.P C.G f p.1 p.2 (res u).1 (res u).2 :=
 fnC1 hΓ hc hmix hf hb hl hll hJ hname hL hN hn run rfl h
end Go.Abs
namespace Go.Abs
open Go
theorem zN {T U : Type} {shape : T → St} {body : (St → Option (Ex × St)) → St → Option (Ex × St)} {res : U → Ex × St} {M : Nat → T → Option U} {r1 : (T → Option (Ex × St)) → T → Option (Ex × St)} {r2 : (T → Option U) → T → Option U}
  (hp : ∀ f t, (r2 f t).map res = r1 (fun y => (f y).map res) t) (hr : ∀ rc t, body rc (shape t) = r1 (fun y => rc (shape y)) t) (h0 : ∀ t, M 0 t = none) (hM : ∀ m t, M (m + 1) t = r2 (M m) t) (m : Nat) (t : T) : zS body m (shape t) = (M m t).map res :=
 wT (g := fun m t => (M m t).map res) (fun t => by show Option.map res (M 0 t) = none; rw [h0]; rfl) (fun m t ih => by
  show _ = Option.map res (M (m + 1) t)
  rw [hr, hM, hp, show (fun y => zS body m (shape y)) = fun y => (M m y).map res from funext ih]) m t
end Go.Abs
namespace Go.Abs
open Go
def zO {U : Type} (res : U → AV × zC) {R : Type} (u : U) (K : AV → zC → Option R) : Option R := K (res u).1 (res u).2
def zQ {U : Type} (res : U → Ex × St) {R : Type} (u : U) (K : Ex → St → Option R) : Option R := K (res u).1 (res u).2
theorem zE.mkF {T U : Type} {C : Ctx} {A : Ann} {n : Nat} {f : FuncId} {fn : Func} {lend : List Bool} {anil : List (Option NK)} {pat : List AV → zC → Option T} {M : T → Option U} {res : U → AV × zC} {resK : {R : Type} → U → (AV → zC → Option R) → Option R} {shape : T → List AV × zC} {l : List (Nat × Callee)} {lp : List Code}
  (hk : ∀ (R : Type) (u : U) (K : AV → zC → Option R), resK u K = K (res u).1 (res u).2) (hp : ∀ args lent t, pat args lent = some t → (args, lent) = shape t)
  (hΓ : C.Γ = zU l) (hc : CS C.P C.G l) (hmix : C.P.follows .mixedOrders = true) (hf : C.P.funcs[f]? = some fn) (hb : fn.body.isNone = false) (hl : zK (fn.body.getD .skip) = lp) (hll : LL C A n lp)
  (hJ : ∀ a ∈ kM (fn.body.getD .skip), ∀ m, A.join (zBs a) = some m → zEz C A n a m) (hname : fn.name ≠ "runtime.NumGoroutine") (hL : ∀ t, A.lent = (shape t).2.length) (hN : A.len = fn.ntmps) (hn : ∀ t, (shape t).1.length ≤ fn.ntmps)
  (run : ∀ t, yC C A n fn (shape t) = (M t).map res) : zE C.P C.G f (.mk' lend anil pat M resK) :=
 .mk1 hk hp (fun t u h => fnC2 hΓ hc hmix hf hb hl hll hJ hname (hL t) hN (hn t) (run t) h) hf hname hb
end Go.Abs
end
section
set_option linter.unusedVariables false
set_option linter.unusedSimpArgs false
namespace Go.Abs
open Go
section
variable {R : Type} {C : Ctx}
theorem zAn {P : Program} {ops : Array Oper} {Q : Exit → Act → World → Prop} {o : Oper} {rest : List Oper} {a : Act} {w W' : World} {v : Value} (hg : o.guard = none)
  (hrun : (execOp a.eval o).run P w = .ok (.value v) W') (h : wpList P ops Q rest (a.put o.dst v) W') : wpList P ops Q (o :: rest) a w :=
 wpList_plain hg fun K' hK' => by
  unfold Oper.wp
  rw [hrun]
  exact hK' _ _ h
def Odd (o : Obj) : Prop := (∀ c t f, o ≠ .cells c t f) ∧ ∀ es c, o ≠ .map es c
theorem zJg {E0 E : Env} {L : Nat} (gl : GoL L E0 E) (m : Mem E) {it : Nat} (hge : E0.w.heap.size ≤ it) {o0 o1 : Obj} (hit : E.w.heap[it]? = some o0) (h0 : Odd o0) (h1 : Odd o1) {W : World}
  (hh : W.heap = E.w.heap.setIfInBounds it o1) (hos : W.os = E.w.os) (htp : W.tape = E.w.tape) (hou : W.output = E.w.output) :
  GoL L E0 { E with w := W } ∧ Mem { E with w := W } ∧ Step E { E with w := W } ∧ ∀ b, b ≠ it → W.heap[b]? = E.w.heap[b]? := by
 have hlt := (Array.getElem?_eq_some_iff.1 hit).1
 have hne : ∀ b, b ≠ it → W.heap[b]? = E.w.heap[b]? := fun b hb => by rw [hh, Array.getElem?_setIfInBounds, if_neg (Ne.symm hb)]
 have hat : W.heap[it]? = some o1 := by rw [hh, Array.getElem?_setIfInBounds, if_pos rfl, if_pos hlt]
 have cell0 : ∀ {w : World} {o : Obj}, w.heap[it]? = some o → Odd o → ∀ q, w.cell? ⟨it, q, none⟩ = none := fun {w o} h k q => by
  unfold World.cell?
  simp only [h]
  cases o <;> first | rfl | exact absurd rfl (k.1 _ _ _)
 have zKk : ∀ {w : World} {o : Obj}, w.heap[it]? = some o → Odd o → ∀ q, w.frozen? ⟨it, q, none⟩ = false := fun {w o} h k q => by
  unfold World.frozen?
  simp only [h]
  cases o <;> first | rfl | exact absurd rfl (k.1 _ _ _)
 have hcell : ∀ b o, Env.cell { E with w := W } b o = E.cell b o := fun b o => by
  by_cases e : b = it
  ·subst e; exact (cell0 hat h1 o).trans (cell0 hit h0 o).symm
  ·simp only [Env.cell, World.cell?, hne b e]
 have hfrz : ∀ b o, W.frozen? ⟨b, o, none⟩ = E.w.frozen? ⟨b, o, none⟩ := fun b o => by
  by_cases e : b = it
  ·subst e; rw [zKk hat h1, zKk hit h0]
  ·simp only [World.frozen?, hne b e]
 have hsz : W.heap.size = E.w.heap.size := by rw [hh]; simp
 have hmap : ∀ r es c, E.w.heap[r]? = some (Obj.map es c) → W.heap[r]? = some (Obj.map es c) := fun r es c h => by
  by_cases e : r = it
  ·subst e; rw [hit] at h; cases h; exact absurd rfl (h0.2 _ _)
  ·exact (hne r e).trans h
 have st : Step E { E with w := W } := ⟨Nat.le_refl _, fun b o h => ⟨h, hcell b o⟩, fun id _ blk h => .inr ⟨blk, h, rfl, fun _ _ h => h, fun _ _ h => h⟩, fun r es c _ h => hmap r es c h⟩
 refine ⟨⟨gl.len, fun b o h => ⟨(gl.ro b o h).1, (hcell b o).trans (gl.ro b o h).2⟩, gl.blk, ?_, fun r es c hr h => hmap r es c (gl.mp r es c hr h)⟩, ⟨fun id blk hb => ?_, m.dis, fun b o h => by show b < W.heap.size; rw [hsz]; exact m.roe b o h, m.rod⟩, st, hne⟩
 ·have f := gl.fr
  exact ⟨hos.trans f.os, htp.trans f.tape, hou.trans f.output, by show _ ≤ W.heap.size; rw [hsz]; exact f.size, fun b o hb hn => (hcell b o).trans (f.cell b o hb hn), fun b hb hn => (hne b (by omega)).trans (f.blk b hb hn), fun b o hb hn => (hfrz b o).trans (f.frz b o hb hn), f.own, f.roi, f.rom⟩
 ·have k := m.ok id blk hb
  refine ⟨k.fit, k.len, fun j x hx => let ⟨v, g1, g2⟩ := k.cells j x hx; ⟨v, (hcell _ _).trans g1, g2.mono st⟩, fun hm j hj => ?_, fun l hl => ⟨(k.mp l hl).1, ?_⟩⟩
  ·obtain ⟨g1, g2⟩ := k.rom hm j hj
   exact ⟨by rw [hcell]; exact g1, (hfrz _ _).trans g2⟩
  ·obtain ⟨es, c, g1, g2, g3, g4⟩ := (k.mp l hl).2
   exact ⟨es, c, hmap _ _ _ g1, g2, g3, fun j e k v he hl => ⟨(g4 j e k v he hl).1.mono st, (g4 j e k v he hl).2.mono st⟩⟩
end
end Go.Abs
end
section
set_option linter.unusedVariables false
namespace Go.Abs
open Go Go.RowKit
theorem zKr {E : Env} {W : World} (h : Below E.w.heap.size E.w W) {b o : Nat} (hb : b < E.w.heap.size) : W.cell? ⟨b, o, none⟩ = E.w.cell? ⟨b, o, none⟩ := World.cell?_of_block (h.block b hb)
theorem zHA {E : Env} {W : World} (h : Below E.w.heap.size E.w W) {b o : Nat} (hb : b < E.w.heap.size) : W.frozen? ⟨b, o, none⟩ = E.w.frozen? ⟨b, o, none⟩ := World.frozen?_of_block (h.block b hb)
theorem Go.below {E : Env} (m : Mem E) {W : World} (h : Below E.w.heap.size E.w W) : Go E { E with w := W } := by
 have hcell : ∀ b o, b < E.w.heap.size → Env.cell { E with w := W } b o = E.cell b o := fun b o hb => zKr h hb
 have fr : Fr E { E with w := W } := ⟨h.os, h.tape, h.output, h.size, fun b o hb _ => hcell b o hb, fun b hb _ => h.block b hb, fun b o hb _ => zHA h hb, fun _ _ h => .inl h, fun _ _ h => .inl h, fun _ _ h => h⟩
 have st : Step E { E with w := W } := .of_fr m fr (Nat.le_refl _) fun id _ blk hb => ⟨blk, hb, rfl, fun _ _ h => h, fun _ _ h => h⟩
 refine ⟨st, fr, fun id blk hb => ?_, m.dis, fun b o hr => ?_, m.rod⟩
 ·have k := m.ok id blk hb
  refine ⟨k.fit, k.len, fun j x hx => ?_, fun hm j hj => ?_, fun l hl => ⟨(k.mp l hl).1, (k.mp l hl).2.mono st (h.block _ (k.mp l hl).2.lt)⟩⟩
  ·obtain ⟨v, hv, hr⟩ := k.cells j x hx
   exact ⟨v, (hcell _ _ (k7 (by show (E.cell _ _).isSome = true; rw [hv]; rfl))).trans hv, hr.mono st⟩
  ·obtain ⟨g1, g2⟩ := k.room hm j hj
   have hlt := k7 g1
   exact ⟨by rw [hcell _ _ hlt]; exact g1, (zHA h hlt).trans g2⟩
 ·exact Nat.lt_of_lt_of_le (m.roe b o hr) h.size
theorem args1 {E : Env} {x : AV} {vs : Array Value} (h : Args E [x] vs) : ∃ v, vs = #[v] ∧ VR E true x v := by
 have hs : vs.size = 1 := h.size
 have h0 := h.vr 0 _ vs[0] rfl (Array.getElem?_eq_getElem (by omega))
 refine ⟨vs[0], ?_, h0⟩
 apply Array.ext
 ·exact hs
 ·intro i hi hj
  simp at hj
  subst hj
  rfl
theorem args2 {E : Env} {x y : AV} {vs : Array Value} (h : Args E [x, y] vs) : ∃ v w, vs = #[v, w] ∧ VR E true x v ∧ VR E true y w := by
 have hs : vs.size = 2 := h.size
 have h0 := h.vr 0 _ vs[0] rfl (Array.getElem?_eq_getElem (by omega))
 have h1 := h.vr 1 _ vs[1] rfl (Array.getElem?_eq_getElem (by omega))
 refine ⟨vs[0], vs[1], ?_, h0, h1⟩
 apply Array.ext
 ·exact hs
 ·intro i hi hj
  simp at hj
  match i with
  | 0 => rfl
  | 1 => rfl
  | i + 2 => omega
end Go.Abs
end
