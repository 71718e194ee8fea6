/- What the program's functions compute, as plain functions, each with its proof: the function does just that. Condition: the plain function has an answer. -/
import Derived.Test.YtkknbhapkdgcjaaGreatDoorProg
import Derived.RangeFuncNested
import Derived.RangeFuncCalls
import Derived.RangeFuncLeaves
import Derived.Test.YtkknbhapkdgcjaaGreatDoorFnDeskCovers4
import Derived.Test.YtkknbhapkdgcjaaGreatDoorFnDeskCovers6
import Derived.Test.YtkknbhapkdgcjaaGreatDoorAbsC8
import Derived.LoopNIn
import Derived.Test.YtkknbhapkdgcjaaGreatDoorFnDeskCovers1
import Derived.Test.YtkknbhapkdgcjaaGreatDoorFnDeskCovers5
set_option linter.unusedVariables false
set_option linter.unusedSimpArgs false
set_option maxRecDepth 100000
open Go Go.Abs Go.Proofs
set_option autoImplicit true
set_option relaxedAutoImplicit true
noncomputable section
section
namespace Go.Abs
open Go Go.Proofs
def cRF : Code → Code × Code
 | .rangeFunc _ _ a b => (a, b)
 | c => (c, c)
noncomputable def zIp : Code := Tryz.f16.body.getD .skip
noncomputable def bkR0 : Array Oper := zFc (zEu zIp)
noncomputable def bkR1 : Array Oper := zFc (zEu (zCh zIp))
noncomputable def bkC2 : Code := zEu (zCh (zCh zIp))
noncomputable def bkT3 : Code := zCh (zCh (zCh zIp))
noncomputable def bkR3 : Array Oper := zFc (zEu bkT3)
noncomputable def bkR4 : Array Oper := zFc (zEu (zEu (zCh bkT3)))
noncomputable def zMU : Code := zMQ (zCh (zEu (zCh bkT3)))
noncomputable def zLG : Array Oper := zFc (cRF zMU).1
noncomputable def zLF : Array Oper := zFc (zMQ (cRF zMU).2)
noncomputable def zFE : Array Oper := zFc (zCh (zCh bkT3))
theorem zKO : Tryz.f16.body = some (.seq (.region 0 bkR0 false) (.seq (.region 1 bkR1 false) (.seq bkC2 (.seq (.region 3 bkR3 false) (.seq (.seq (.region 4 bkR4 false) (.block 0 (.rangeFunc (.tmp 30) #[31, 32] (.region 5 zLG false) (.block 1 (.region 6 zLF false))))) (.region 7 zFE true)))))) := by kernel_rfl
noncomputable def zMR : Code := Tryz.f57.body.getD .skip
noncomputable def zLE : Array Oper := zFc (zEu zMR)
noncomputable def bwLp : Code := zOa (zMQ (zCh zMR))
noncomputable def bwR1 : Array Oper := zFc (zEu (zEu bwLp))
noncomputable def bwR3 : Array Oper := zFc (zEu (zMQ (zEu (zCh bwLp))))
noncomputable def bwR2 : Array Oper := zFc (zCh (zCh bwLp))
theorem zNG : Tryz.f57.body = some (.seq (.region 0 zLE false) (.block 0 (.loop (.seq (.seq (.region 1 bwR1 false) (.cond (.tmp 8) .skip (.exit 0))) (.seq (.block 1 (.seq (.region 3 bwR3 false) (.cond (.tmp 18) .ret .skip))) (.region 2 bwR2 false)))))) := by kernel_rfl
noncomputable def bkC (n : Nat) : Ctx := ⟨Tryz.prog, zI, fun f => match f with
 | 35 => some (Fb.c n)
 | 37 => some (zslicesBackwardquaestorstorestepquaestorstorestep.c n)
 | 38 => some (Fz.c n)
 | _ => none, fun _ => false⟩
noncomputable def bkA (L : Nat) : Ann := ⟨54, L, fun _ => ([], []), [], [none], fun _ => none, fun _ => ([], []), fun _ => none⟩
theorem bkΓ (hmix : Tryz.prog.follows .mixedOrders = true) (n : Nat) : ∀ f m, (bkC n).Γ f = some m → zE (bkC n).P (bkC n).G f m := by
 intro f m hm
 unfold bkC at hm
 simp only at hm
 split at hm
 ·cases hm; exact Fb.s hmix n
 ·cases hm; exact zslicesBackwardquaestorstorestepquaestorstorestep.s hmix n
 ·cases hm; exact Fz.s hmix n
 ·cases hm
def bkW (r x : Int) (j z : AV) : AV := .agg [.own 1 0, .own 2 0, .rmap [], .rmap [], .own 3 0, .rmap [], .int .i64 r, .snil, j, z, .int .i64 x]
section
variable (m r x : Int) (p q o j z : List AV)
def bkB0 : zC := [some (.var (bkW r x (.own 4 36) (.own 5 2))), some (.mp p), some (.mp q), some (.mp o), some (.objs 104 36 j), some (.objs 83 2 z)]
def zCN : zC := bkB0 r x p q o j z ++ [some (.var (.ptr 0 [])), some (.var (.int .i64 m))]
def tm0 : List AV := [.ptr 0 [], .int .i64 m] ++ List.replicate 52 .any
def tm1 : List AV := ((tm0 m).set 2 (.ptr 6 [])).set 3 (.ptr 7 [])
def tm2 (u : Int) : List AV := (((((((tm1 m).set 8 (.ptr 0 [])).set 9 (.ptr 0 [])).set 10 (.ptr 0 [9])).set 11 (.own 5 2)).set 12 (.fn (.func 36) [] [.ptr 7 []])).set 13 (.int .i64 u)).set 4 (.int .i64 u)
def tm3 (u : Int) : List AV := ((tm2 m u).set 14 (.int .i64 u)).set 15 (.bool (decide (u < 0)))
theorem x0 (n : Nat) : X (bkC n) (bkA 6) n (.region 0 bkR0 false) ⟨tm0 m, bkB0 r x p q o j z⟩ (fun e s => some (e, s)) = some (.normal, ⟨tm1 m, zCN m r x p q o j z⟩) := by kernel_rfl
theorem x1 (n : Nat) : X (bkC n) (bkA 6) n (.region 1 bkR1 false) ⟨tm1 m, zCN m r x p q o j z⟩ (fun e s => some (e, s)) = zD (Fb.m n (z, m)) fun u => some (.normal, ⟨tm2 m u, zCN m r x p q o j z⟩) := by kernel_rfl
theorem x2 (n : Nat) (u : Int) : X (bkC n) (bkA 6) n bkC2 ⟨tm2 m u, zCN m r x p q o j z⟩ (fun e s => some (e, s)) = if decide (u < 0) = true then some (.ret, ⟨(tm3 m u).set 15 (.bool true), zCN m r x p q o j z⟩) else some (.normal, ⟨(tm3 m u).set 15 (.bool false), zCN m r x p q o j z⟩) := by kernel_rfl
end
abbrev wF (ro : Option Nat) : Fence := { Fence.wide with round := ro }
theorem op_in {P : Program} {o : Oper} {a : Act} {w : World} {K : Act → World → Prop} {Q : Exit → Act → World → Prop} (ro : Option Nat) (n : Nat) (hd : ∀ c, o.op ≠ .defer c) (h : o.wp P a w K Q) : o.wpIn (wF ro) n P a w K Q := by
 unfold Oper.wp at h
 refine ⟨fun f _ => trivial, ?_⟩
 rw [Oper.semAt_eq _ _ _ hd]
 generalize (execOp a.eval o).run P w = r at h ⊢
 cases r with
 | ok nx w' => cases nx with
  | value v => exact h
  | skip => exact h
  | defer d => exact h
  | enter f args => exact ⟨fun hh => by simp [Fence.wide] at hh, (callsIn_wide (n := n - 1)).2 h⟩
  | row row args => exact ⟨fun hh => by simp [Fence.wide] at hh, fun c cs _ => let ⟨v, w', r, s⟩ := h c cs; ⟨v, w', r, stepsIn_wide.2 s⟩⟩
  | _ => exact h.elim
 | halt x w' => cases x with
  | panic v => exact h
  | _ => exact h.elim
theorem zNo {C : Ctx} (ro : Option Nat) (n : Nat) (hΓ : ∀ f m, C.Γ f = some m → zE C.P C.G f m) {ops : Array Oper} {o : Oper} {rest : List Oper} {tm : List AV} {bl : zC} {v1 : AV} {bl1 : zC} (hg : o.guard = none) (hd : ∀ c, o.op ≠ .defer c)
  (h : opK C o (get C tm) bl (fun _ v bl => some (v, bl)) = some (v1, bl1)) {E : Env} {a : Act} {Q : Exit → Act → World → Prop} (s : SR C E tm bl a)
  (hK : ∀ E' v', Go E E' → SR C E' (put tm o.dst v1) bl1 (a.put o.dst v') → wpListIn (wF ro) n C.P ops Q rest (a.put o.dst v') E'.w) : wpListIn (wF ro) n C.P ops Q (o :: rest) a E.w := by
 obtain ⟨cat, v, bl', hos⟩ := zEH hΓ h
 have hd' := hos.1.det fun _ v bl => some (v, bl)
 rw [h] at hd'
 cases hd'
 unfold wpListIn
 rw [if_pos (by simp [Region.wanted, hg])]
 refine op_in ro n hd (hos.2 E a (.inl s.bl) s.mem s.glob (fun x => zMz s.glob fun t _ => s.vr t) _ Q fun v' w' ⟨E', e1, e2, e3, e4⟩ => ?_)
 rw [← e1]
 refine hK E' v' e3 (s.put e3 ?_ e4)
 rw [e2]
 split
 ·rename_i hp; rw [(hos.1.pure hp).1]; exact s.bl
 ·rfl
section
variable (m r x : Int) (p q o j z : List AV)
def tm4 (u s : Int) : List AV := (((((((((((tm3 m u).set 15 (.bool false)).set 16 (.ptr 0 [])).set 17 (.ptr 0 [])).set 18 (.ptr 0 [9])).set 19 (.own 5 2)).set 20 (.int .i64 u)).set 21 (.ptr 5 [u.toNat])).set 22 (.ptr 5 [u.toNat, 1])).set 23 (.int .i64 s)).set 5 (.int .i64 s))
def tm5 (u s : Int) (v : AV) : List AV := ((((((((tm4 m u s).set 24 (.ptr 0 [])).set 25 (.ptr 0 [])).set 26 (.ptr 0 [8])).set 27 (.own 4 36)).set 28 (.int .i64 s)).set 29 v).set 30 (.fn (.func 57) [] [.ptr 8 []]))
def kB (v : AV) : zC := zCN m r x p q o j z ++ [some (.var v)]
theorem x3 (n : Nat) (u : Int) : X (bkC n) (bkA 6) n (.region 3 bkR3 false) ⟨(tm3 m u).set 15 (.bool false), zCN m r x p q o j z⟩ (fun e s => some (e, s)) =
  if 0 ≤ u then (if u < (z.length : Int) then zD (tkAgg 2 (z.getD u.toNat .any)) fun l => zD (tkInt .i64 (l.getD 0 .any)) fun a => zD (tkInt .i64 (l.getD 1 .any)) fun b =>
   zD (tkAgg 2 (z.getD u.toNat .any)) fun l => zD (tkInt .i64 (l.getD 0 .any)) fun a => zD (tkInt .i64 (l.getD 1 .any)) fun s => some (.normal, ⟨tm4 m u s, zCN m r x p q o j z⟩) else none) else none := by kernel_rfl
theorem x4s (n : Nat) (u : Int) (l : Nat) : X (bkC n) (bkA 6) n (.region 4 bkR4 false) ⟨tm4 m u ((l + 1 : Nat) : Int), zCN m r x p q o j z⟩ (fun e s => some (e, s)) =
  if 0 ≤ ((l + 1 : Nat) : Int) then (if ((l + 1 : Nat) : Int) ≤ (j.length : Int) then some (.normal, ⟨tm5 m u ((l + 1 : Nat) : Int) (.slice 4 [] (l + 1) (span j.length (l + 1) none) 36), kB m r x p q o j z (.slice 4 [] (l + 1) (span j.length (l + 1) none) 36)⟩) else none) else none := by kernel_rfl
theorem x4o (n : Nat) (u : Int) : X (bkC n) (bkA 6) n (.region 4 bkR4 false) ⟨tm4 m u 0, zCN m r x p q o j z⟩ (fun e s => some (e, s)) =
  if 0 ≤ (0 : Int) then (if (0 : Int) ≤ (j.length : Int) then some (.normal, ⟨tm5 m u 0 (.own 4 36), kB m r x p q o j z (.own 4 36)⟩) else none) else none := by kernel_rfl
end
def zBZ (a : Act) (ds : List Deferred) : Act := { a with defers := a.defers ++ ds }
theorem zCP (a : Act) (d : Option Nat) (v : Value) (ds : List Deferred) : (zBZ a ds).put d v = zBZ (a.put d v) ds := by cases d <;> rfl
theorem zNr {P : Program} {o : Oper} {a : Act} {w : World} {K : Act → World → Prop} {Q : Exit → Act → World → Prop} (ds : List Deferred)
  (h : o.wp P a w (fun a w => K (zBZ a ds) w) (fun e a w => Q e (zBZ a ds) w)) : o.wp P (zBZ a ds) w K Q := by
 unfold Oper.wp at *
 rw [show (zBZ a ds).eval = a.eval from rfl]
 generalize (execOp a.eval o).run P w = r at *
 cases r with
 | ok n w' =>
  cases n <;> simp only [Oper.upon] at h ⊢ <;>
   first
    | exact h
    | (rw [zCP]; exact h)
    | (rename_i d; rw [show ({ zBZ a ds with defers := d :: (zBZ a ds).defers } : Act) = zBZ { a with defers := d :: a.defers } ds from rfl, zCP]; exact h)
    | exact Calls.mono h (fun e w'' he => by
      cases e with
      | returned v => show K _ _; rw [zCP]; exact he
      | panicked c => exact he
      | outgrown => exact let ⟨_, _, q⟩ := he; ⟨_, _, q⟩)
    | exact Rows.mono h (fun _ _ he => by rw [zCP]; exact he)
 | halt x w' => cases x <;> simp only [Oper.upon] at h ⊢ <;> exact h
theorem zEx {P : Program} {md : Region.Mode} {ops : Array Oper} {Q : Exit → Act → World → Prop} (ds : List Deferred) : ∀ (fuel : Nat) (listed : Array Bool) (a : Act) (w : World),
  wpAny P md ops (fun e a w => Q e (zBZ a ds) w) fuel listed a w → wpAny P md ops Q fuel listed (zBZ a ds) w
 | 0, _, _, _, h => h
 | fuel + 1, listed, a, w, h => ⟨h.1, fun i hi => by
   have h2 := h.2 i hi
   unfold wpOp at h2 ⊢
   cases ho : ops[i]? with
   | none => simp only [ho] at h2 ⊢; exact zEx ds fuel _ a w h2
   | some o =>
    simp only [ho] at h2 ⊢
    rw [show (zBZ a ds).tmps = a.tmps from rfl]
    split
    ·rename_i hw
     rw [if_pos hw] at h2
     rcases h2 with h2 | ⟨h2, a2, w2, q⟩
     ·exact .inl (zNr ds (Oper.wp_mono (fun a w hh => zEx ds fuel _ a w hh) h2))
     ·exact .inr ⟨h2, _, _, q⟩
    ·rename_i hw
     rw [if_neg hw] at h2
     rw [zCP]
     exact zEx ds fuel _ _ w h2⟩
theorem zCt {E : Env} (m : Mem E) {b : Nat} {x : Obj} (h : E.w.heap[b]? = some x) (hx : Odd x) : ∀ o, ¬ Own E b o := fun o ⟨id, blk, hb, h1, h2, h3⟩ => by
 have k := m.ok id blk hb
 cases hm : wB blk with
 | true =>
  obtain ⟨l, rfl⟩ := zBt hm
  obtain ⟨es, c, g, _⟩ := (k.mp l rfl).2
  rw [h1, h] at g
  cases g
  exact hx.2 _ _ rfl
 | false =>
  have g := (k.rom hm (o - (E.loc id).2.1) (by omega)).1
  rw [h1] at g
  unfold Env.cell World.cell? at g
  simp only [h] at g
  cases x <;> first | (cases g; done) | exact hx.1 _ _ _ rfl
theorem zMN {E : Env} (m : Mem E) {id j : Nat} {p : List Nat} {v : AV} {b' : Blk} {e : TypeId} {w s : Nat} {l : List AV} (hb : zF E.bl id = some (.var v)) (hp : zM v p = some (.slice j [] 0 s w)) {q : Nat} (hq : zL v p = some q)
  (hj : zF E.bl j = some (.objs e w l)) (hs : zBK (.var v) p (.own E.bl.length w) = some b') :
  ∃ E', E'.w = E.w ∧ E'.bl = (E.bl.set j none ++ [some (Blk.objs e w (l.take s))]).set id (some b') ∧ Go E E' := by
 have okj := m.ok j _ hj
 have hf : ∀ x ∈ l, (Fit x ∧ width x = w) ∧ zR x = true ∧ solid x = true := okj.fit
 have hsplit : zJ (Blk.objs e w l) = zJ (.objs e w (l.take s)) ++ zG (l.drop s) := by
  show zG l = zG (l.take s) ++ _
  rw [← jN, List.take_append_drop]
 have go := Go.move m j (.objs e w l) (.objs e w (l.take s)) hj (fun x hx => hf x (List.mem_of_mem_take hx)) (by have := okj.len; rw [hsplit, List.length_append] at this; omega)
  (fun i x hx => okj.cells i x (by rw [hsplit, List.getElem?_append_left (List.getElem?_eq_some_iff.1 hx).1]; exact hx)) rfl
 have hne : j ≠ id := fun e => by subst e; rw [hb] at hj; cases hj
 have hid := z4 hb
 generalize hE1 : E.move j (.objs e w (l.take s)) = E1 at go
 have hb1 : zF E1.bl id = some (.var v) := by
  rw [← hE1]
  show zF (E.bl.set j none ++ [some (.objs e w (l.take s))]) id = _
  rw [kC (by simpa using hid), yH hne]
  exact hb
 have hbn : zF E1.bl E.bl.length = some (.objs e w (l.take s)) := by
  rw [← hE1]
  show zF (E.bl.set j none ++ [some (.objs e w (l.take s))]) E.bl.length = _
  have : E.bl.length = (E.bl.set j none).length := by simp
  rw [this]; exact kO
 have hlocn : E1.loc E.bl.length = E.loc j := by rw [← hE1]; simp [Env.move]
 have hloci : E1.loc id = E.loc id := by rw [← hE1]; simp [Env.move, Nat.ne_of_lt hid]
 have hcell : ∀ b o, E1.cell b o = E.cell b o := by rw [← hE1]; exact fun _ _ => rfl
 have ok := go.mem.ok id (.var v) hb1
 obtain ⟨hf', ⟨pre, mid, post, e1, e2, e3, e4⟩, s1, s2⟩ := zAx ok.fit (x := .own E.bl.length w) (.leaf _ ⟨by simp, by simp⟩) hs hq
 have hmid : (zJ (.var v))[q]? = some (.slice j [] 0 s w) := by
  obtain ⟨_, pre0, post0, f1, f2⟩ := kI (v := v) (x := .slice j [] 0 s w) ok.fit hp hq
  show (zH v)[q]? = _
  rw [f1, List.getElem?_append_right (by omega), f2]
  simp [zH]
 have hlen : (zJ (.var v)).length = (zJ b').length := by rw [e1, e2]; simp; omega
 refine ⟨E1.reread id b', by rw [← hE1]; rfl, by rw [← hE1]; rfl, go.trans (Go.reread go.mem id _ b' hb1 hf' (by rw [← hlen]; exact ok.len) (fun i x hx => ?_) s1 s2 (wI hs).2)⟩
 rw [e2] at hx
 by_cases hi : i = q
 ·subst hi
  rw [List.getElem?_append_right (by omega), e3] at hx
  simp [zH] at hx
  subst hx
  obtain ⟨u, hu, hr⟩ := (m.ok id _ hb).cells _ _ hmid
  refine ⟨u, by rw [hloci, hcell]; exact hu, ?_⟩
  cases hr with
  | slice _ _ _ len _ a cap hid2 hc hs2 hh =>
   obtain ⟨q', c, g1, g2, g3, g4⟩ := hh _ hj
   simp only [zZ, Option.some.injEq, Prod.mk.injEq] at g1
   obtain ⟨rfl, _, rfl⟩ := g1
   refine .own _ _ _ _ _ (z4 hbn) hc fun b hb' => ?_
   rw [hbn] at hb'; cases hb'
   rw [hlocn]
   refine ⟨by simp [zZ, List.length_take]; omega, by simpa using g3, ?_⟩
   rcases g4 with g4 | g4
   ·exact .inl g4
   ·exact .inr (by simpa using g4)
 ·refine ok.cells i x ?_
  rw [e1]
  rcases Nat.lt_or_ge i pre.length with hlt' | hge
  ·rw [List.getElem?_append_left hlt'] at hx ⊢
   exact hx
  ·have e5 : (zH (AV.own E.bl.length w)).length = 1 := rfl
   rw [e5] at e4
   rw [List.getElem?_append_right hge, List.getElem?_append_right (by omega)] at hx ⊢
   rw [e5] at hx
   rw [e4]
   exact hx
section
variable (y : Value) (m r x : Int) (p q o j z : List AV)
def tB (y : Value) : List AV := [.raw y, .ptr 8 []] ++ List.replicate 17 .any
def tB1 (v : AV) : List AV := ((((tB y).set 4 v).set 5 (.int .i64 1)).set 6 (.int .i64 0)).set 3 (.int .i64 0)
def tB2 (v : AV) : List AV := ((tB1 y v).set 7 (.int .i64 0)).set 8 (.bool true)
def tB3 (v : AV) (ix : Nat) (e : AV) : List AV := ((((((tB2 y v).set 11 (.raw y)).set 12 (.int .i64 0)).set 13 v).set 14 (.int .i64 0)).set 15 (.ptr 4 [ix])).set 16 e
def tB4 (v : AV) (ix : Nat) (e : AV) : List AV := ((tB3 y v ix e).set 17 (.bool true)).set 18 (.bool false)
def tB5 (v : AV) (ix : Nat) (e : AV) : List AV := (((tB4 y v ix e).set 9 (.int .i64 0)).set 10 (.int .i64 (-1))).set 3 (.int .i64 (-1))
def tB6 (v : AV) (ix : Nat) (e : AV) : List AV := ((tB5 y v ix e).set 7 (.int .i64 (-1))).set 8 (.bool false)
noncomputable def bwC1 : Code := .seq (.region 1 bwR1 false) (.cond (.tmp 8) .skip (.exit 0))
theorem y0s (n l : Nat) : X (bkC n) (bkA 9) n (.region 0 zLE false) ⟨tB y, kB m r x p q o j z (.slice 4 [] (l + 1) 1 36)⟩ (fun e s => some (e, s)) = some (.normal, ⟨tB1 y (.slice 4 [] (l + 1) 1 36), kB m r x p q o j z (.slice 4 [] (l + 1) 1 36)⟩) := by kernel_rfl
theorem y0o (n : Nat) (e : AV) : X (bkC n) (bkA 9) n (.region 0 zLE false) ⟨tB y, kB m r x p q o [e] z (.own 4 36)⟩ (fun e s => some (e, s)) = some (.normal, ⟨tB1 y (.own 4 36), kB m r x p q o [e] z (.own 4 36)⟩) := by kernel_rfl
theorem y1 (n : Nat) (v : AV) (bl : zC) : X (bkC n) (bkA 9) n bwC1 ⟨tB1 y v, bl⟩ (fun e s => some (e, s)) = some (.normal, ⟨tB2 y v, bl⟩) := by kernel_rfl
theorem y2 (n : Nat) (v : AV) (ix : Nat) (e : AV) (bl : zC) : X (bkC n) (bkA 9) n (.region 2 bwR2 false) ⟨tB4 y v ix e, bl⟩ (fun e s => some (e, s)) = some (.normal, ⟨tB5 y v ix e, bl⟩) := by kernel_rfl
theorem y3 (n : Nat) (v : AV) (ix : Nat) (e : AV) (bl : zC) : X (bkC n) (bkA 9) n bwC1 ⟨tB5 y v ix e, bl⟩ (fun e s => some (e, s)) = some (.exit 0, ⟨tB6 y v ix e, bl⟩) := by kernel_rfl
noncomputable def bwO (i : Nat) : Oper := bwR3.getD i default
theorem zNH : bwR3.toList = [bwO 0, bwO 1, bwO 2, bwO 3, bwO 4, bwO 5, bwO 6, bwO 7] := by kernel_rfl
theorem s0 (n : Nat) (v : AV) (bl : zC) : opK (bkC n) (bwO 0) (get (bkC n) (tB2 y v)) bl (fun _ v bl => some (v, bl)) = some (.raw y, bl) := by kernel_rfl
theorem s1 (n : Nat) (v : AV) (bl : zC) : opK (bkC n) (bwO 1) (get (bkC n) ((tB2 y v).set 11 (.raw y))) bl (fun _ v bl => some (v, bl)) = some (.int .i64 0, bl) := by kernel_rfl
theorem s2s (n l : Nat) : opK (bkC n) (bwO 2) (get (bkC n) (((tB2 y (.slice 4 [] (l + 1) 1 36)).set 11 (.raw y)).set 12 (.int .i64 0))) (kB m r x p q o j z (.slice 4 [] (l + 1) 1 36)) (fun _ v bl => some (v, bl)) = some (.slice 4 [] (l + 1) 1 36, kB m r x p q o j z (.slice 4 [] (l + 1) 1 36)) := by kernel_rfl
theorem s2o (n : Nat) (e : AV) : opK (bkC n) (bwO 2) (get (bkC n) (((tB2 y (.own 4 36)).set 11 (.raw y)).set 12 (.int .i64 0))) (kB m r x p q o [e] z (.own 4 36)) (fun _ v bl => some (v, bl)) = some (.own 4 36, kB m r x p q o [e] z (.own 4 36)) := by kernel_rfl
theorem s3 (n : Nat) (v : AV) (bl : zC) : opK (bkC n) (bwO 3) (get (bkC n) ((((tB2 y v).set 11 (.raw y)).set 12 (.int .i64 0)).set 13 v)) bl (fun _ v bl => some (v, bl)) = some (.int .i64 0, bl) := by kernel_rfl
theorem s4s (n l : Nat) : opK (bkC n) (bwO 4) (get (bkC n) (((((tB2 y (.slice 4 [] (l + 1) 1 36)).set 11 (.raw y)).set 12 (.int .i64 0)).set 13 (.slice 4 [] (l + 1) 1 36)).set 14 (.int .i64 0))) (kB m r x p q o j z (.slice 4 [] (l + 1) 1 36)) (fun _ v bl => some (v, bl)) = some (.ptr 4 [l + 1], kB m r x p q o j z (.slice 4 [] (l + 1) 1 36)) := by kernel_rfl
theorem s4o (n : Nat) (e : AV) : opK (bkC n) (bwO 4) (get (bkC n) (((((tB2 y (.own 4 36)).set 11 (.raw y)).set 12 (.int .i64 0)).set 13 (.own 4 36)).set 14 (.int .i64 0))) (kB m r x p q o [e] z (.own 4 36)) (fun _ v bl => some (v, bl)) = some (.ptr 4 [0], kB m r x p q o [e] z (.own 4 36)) := by kernel_rfl
theorem s5 (n : Nat) (v : AV) (ix : Nat) : opK (bkC n) (bwO 5) (get (bkC n) ((((((tB2 y v).set 11 (.raw y)).set 12 (.int .i64 0)).set 13 v).set 14 (.int .i64 0)).set 15 (.ptr 4 [ix]))) (kB m r x p q o j z v) (fun _ v bl => some (v, bl)) = zBi Tryz.prog 8 104 (j.getD ix .any) fun v' => some (v', kB m r x p q o j z v) := by kernel_rfl
theorem bwO6 : (bwO 6).op = .call { callee := .value (.tmp 11), args := #[.tmp 12, .tmp 16], argTypes := #[3, 104] } := by kernel_rfl
theorem s7 (n : Nat) (v : AV) (ix : Nat) (e : AV) (bl : zC) : opK (bkC n) (bwO 7) (get (bkC n) ((tB3 y v ix e).set 17 (.bool true))) bl (fun _ v bl => some (v, bl)) = some (.bool false, bl) := by kernel_rfl
theorem y4 (n : Nat) (v : AV) (ix : Nat) (e : AV) (bl : zC) : X (bkC n) (bkA 9) n (.cond (.tmp 18) .ret .skip) ⟨tB4 y v ix e, bl⟩ (fun e s => some (e, s)) = some (.normal, ⟨tB4 y v ix e, bl⟩) := by kernel_rfl
end
theorem zFI (x : Option (List Deferred)) : Odd (.deferred x) := ⟨by simp, by simp⟩
theorem zGc (r : Loop) : Odd (.loop r) := ⟨by simp, by simp⟩
structure WS (E0 : Env) (D : Nat) (r : Loop) (E : Env) : Prop where
 gl : GoL 6 E0 E
 ge : E0.w.heap.size ≤ D
 hD : E.w.heap[D]? = some (.deferred (some []))
 hL : E.w.heap[D + 1]? = some (.loop r)
theorem WS.goL {E0 E E' : Env} {D : Nat} {r : Loop} (h : WS E0 D r E) (m : Mem E) (g : GoL 6 E E') : WS E0 D r E' :=
 ⟨h.gl.trans g, h.ge, (g.fr.blk D (Array.getElem?_eq_some_iff.1 h.hD).1 (zCt m h.hD (zFI _))).trans h.hD, (g.fr.blk (D + 1) (Array.getElem?_eq_some_iff.1 h.hL).1 (zCt m h.hL (zGc _))).trans h.hL⟩
theorem WS.go {E0 E E' : Env} {D : Nat} {r : Loop} (h : WS E0 D r E) (m : Mem E) (g : Go E E') : WS E0 D r E' := h.goL m (g.toL h.gl.len)
theorem WS.turn {E0 E : Env} {D : Nat} {r : Loop} (h : WS E0 D r E) (m : Mem E) (r' : Loop) : WS E0 D r' { E with w := E.w.putObj (D + 1) (.loop r') } ∧ Mem { E with w := E.w.putObj (D + 1) (.loop r') } ∧ Step E { E with w := E.w.putObj (D + 1) (.loop r') } := by
 obtain ⟨a, b, c, d⟩ := zJg h.gl m (it := D + 1) (by have := h.ge; omega) h.hL (zGc _) (zGc r') (W := E.w.putObj (D + 1) (.loop r')) rfl rfl rfl rfl
 exact ⟨⟨a, h.ge, (d D (by omega)).trans h.hD, World.putObj_heap_same (Array.getElem?_eq_some_iff.1 h.hL).1⟩, b, c⟩
theorem GoL.six {E E' : Env} (g : GoL 9 E E') : GoL 6 E E' := ⟨by have := g.len; omega, g.ro, fun id h => g.blk id (by omega), g.fr, g.mp⟩
theorem GoL.st {E E' : Env} (g : GoL 9 E E') (h : E.bl.length = 9) : Step E E' := ⟨h ▸ g.len, g.ro, fun id hi => g.blk id (h ▸ hi), g.mp⟩
theorem WS.glob {E0 E : Env} {D : Nat} {r : Loop} (h : WS E0 D r E) {G : Nat → AV} (g0 : Glob G E0) : Glob G E := g0.mono h.gl.ro h.gl.mp h.gl.fr.keeps
theorem SR.env' {C : Ctx} {E E' : Env} {tm : List AV} {bl bl' : zC} {a : Act} (s : SR C E tm bl a) (st : Step E E') (hb : E'.bl = bl') (m : Mem E') (g : Glob C.G E') : SR C E' tm bl' a := ⟨hb, m, g, s.size, fun t => (s.vr t).mono st, s.defers⟩
theorem xw {n L : Nat} (hmix : Tryz.prog.follows .mixedOrders = true) {c : Code} {tm : List AV} {bl : zC} {e : Ex} {tm' : List AV} {bl' : zC} (h : X (bkC n) (bkA L) n c ⟨tm, bl⟩ (fun e s => some (e, s)) = some (e, ⟨tm', bl'⟩)) {E : Env} {a : Act} {Q : Exit → Act → World → Prop} (s : SR (bkC n) E tm bl a) (hL : L ≤ E.bl.length) {k : Nat}
  (hq : ∀ E' a', GoL L E E' → SR (bkC n) E' tm' bl' a' → Q (zLt e) a' E'.w) : c.wpIn Fence.wide k Tryz.prog Q a E.w :=
 wpIn_wide.2 (zKS (C := bkC n) (bkΓ hmix n) hmix (bkA L) n c (fun b _ m hm => by cases hm) (fun b _ m hm => by cases hm) _ _ _ h E a Q s hL fun e' st' hk E' a' g s' => by cases hk; exact hq E' a' g s')
def zNX : Op → Bool
 | .defer _ => true
 | _ => false
theorem zKz {o : Op} (h : zNX o = false) : ∀ c, o ≠ .defer c := fun c e => by subst e; cases h
theorem qO {n' : Nat} (ro : Option Nat) (n : Nat) (hmix : Tryz.prog.follows .mixedOrders = true) {ops : Array Oper} {o : Oper} {rest : List Oper} {tm : List AV} {bl : zC} {v1 : AV} {bl1 : zC} {d : Option Nat} (hg : o.guard = none) (hdst : o.dst = d) (hd : zNX o.op = false)
  (h : opK (bkC n') o (get (bkC n') tm) bl (fun _ v bl => some (v, bl)) = some (v1, bl1)) {E : Env} {a : Act} {Q : Exit → Act → World → Prop} (s : SR (bkC n') E tm bl a)
  (hK : ∀ E' v', Go E E' → SR (bkC n') E' (put tm d v1) bl1 (a.put d v') → wpListIn (wF ro) n Tryz.prog ops Q rest (a.put d v') E'.w) : wpListIn (wF ro) n Tryz.prog ops Q (o :: rest) a E.w :=
 zNo (C := bkC n') ro n (bkΓ hmix n') hg (zKz hd) h s fun E' v' g s' => by rw [hdst] at s' ⊢; exact hK E' v' g s'
theorem zFU {P : Program} {w : World} {ev : Operand → Value} {o : Oper} {l : Nat} (ho : o.op = .call { callee := .value (.tmp 11), args := #[.tmp 12, .tmp 16], argTypes := #[3, 104] }) (h11 : ev (.tmp 11) = .func (.yield l) #[] #[]) : (execOp ev o).run P w = (Instr.yield l #[ev (.tmp 12), ev (.tmp 16)]).run P w := by
 simp only [execOp, ho]
 simp [resolve, invoke, callFunc, Deferred.ofValue, h11]
theorem bw_in (hmix : Tryz.prog.follows .mixedOrders = true) (n k : Nat) {E0 : Env} {D : Nat} (g0 : Glob zI E0) (rec : Loop) (hps : rec.params.size = 2) (hp : rec.pending = none) {v e : AV} {ix : Nat} {bl bl' : zC} {E : Env} (hl : bl.length = 9) (hl' : 9 ≤ bl'.length)
  (hround : ∀ E2, WS E0 D rec E2 → Step E E2 → Mem E2 → E2.bl = bl → ∀ iv ev, VR E2 true (.int .i64 0) iv → VR E2 true e ev → RoundIn Fence.wide (k - 1) Tryz.prog (D + 1) rec.fn ((rec.params.zip #[iv, ev]).foldl (fun t (x : Nat × Value) => t.setIfInBounds x.1 x.2) rec.tmps) rec.assign rec.body E2.w
   (fun f w' => f = .returned (.bool true) ∧ ∃ E', E'.w = w' ∧ E'.bl = bl' ∧ WS E0 D rec E' ∧ Mem E' ∧ Step E2 E'))
  (h0 : X (bkC n) (bkA 9) n (.region 0 zLE false) ⟨tB (.func (.yield (D + 1)) #[] #[]), bl⟩ (fun e s => some (e, s)) = some (.normal, ⟨tB1 (.func (.yield (D + 1)) #[] #[]) v, bl⟩))
  (h2 : opK (bkC n) (bwO 2) (get (bkC n) (((tB2 (.func (.yield (D + 1)) #[] #[]) v).set 11 (.raw (.func (.yield (D + 1)) #[] #[]))).set 12 (.int .i64 0))) bl (fun _ v bl => some (v, bl)) = some (v, bl))
  (h4 : opK (bkC n) (bwO 4) (get (bkC n) (((((tB2 (.func (.yield (D + 1)) #[] #[]) v).set 11 (.raw (.func (.yield (D + 1)) #[] #[]))).set 12 (.int .i64 0)).set 13 v).set 14 (.int .i64 0))) bl (fun _ v bl => some (v, bl)) = some (.ptr 4 [ix], bl))
  (h5 : opK (bkC n) (bwO 5) (get (bkC n) ((((((tB2 (.func (.yield (D + 1)) #[] #[]) v).set 11 (.raw (.func (.yield (D + 1)) #[] #[]))).set 12 (.int .i64 0)).set 13 v).set 14 (.int .i64 0)).set 15 (.ptr 4 [ix]))) bl (fun _ v bl => some (v, bl)) = some (e, bl))
  (ws : WS E0 D rec E) (m : Mem E) (hb : E.bl = bl) {bv : Value} (hbv : VR E true (.ptr 8 []) bv) :
  CallsIn Fence.wide k Tryz.prog 57 #[.func (.yield (D + 1)) #[] #[], bv] E.w (fun f w' => (∃ u, f = .returned u) ∧ ∃ E', E'.w = w' ∧ E'.bl = bl' ∧ WS E0 D rec E' ∧ Mem E' ∧ Step E E') := by
 generalize hy : (Value.func (.yield (D + 1)) #[] #[]) = y at *
 have s : SR (bkC n) E (tB y) bl { tmps := #[y, bv] ++ Array.replicate 17 undef, defers := [] } := by
  refine ⟨hb, m, ws.glob g0, by simp [tB], fun t => ?_, rfl⟩
  match t with
  | 0 =>
   show VR E true (.raw y) _
   rw [show (#[y, bv] ++ Array.replicate 17 undef).getD 0 undef = y by simp [Array.getD_eq_getD_getElem?]]
   exact .raw _ _ (by rw [← hy]; rfl) (by rw [← hy]; rfl)
  | 1 =>
   show VR E true (.ptr 8 []) _
   rw [show (#[y, bv] ++ Array.replicate 17 undef).getD 1 undef = bv by simp [Array.getD_eq_getD_getElem?]]
   exact hbv
  | t + 2 =>
   have : (tB y).getD (t + 2) AV.any = AV.any := by
    show (List.replicate 17 AV.any).getD t _ = _
    simp only [List.getD_eq_getElem?_getD, List.getElem?_replicate]
    split <;> rfl
   rw [this]
   exact .any _ _
 refine callsIn_of_wp Tryz.func57 zNG trivial ?_
 rw [show Tryz.f57.ntmps - (#[y, bv] : Array Value).size = 17 by rw [show Tryz.f57.ntmps = 19 by kernel_rfl]; rfl]
 refine wpIn_seq (xw hmix h0 s (by rw [hb, hl]; exact Nat.le_refl _) fun E1 a1 g1 r1 => ?_)
 have ws1 := ws.goL m g1.six
 refine wpIn_block (wpIn_loop_rounds 2 ?_)
 rw [roundsIn_succ]
 refine wpIn_seq (xw hmix (y1 y n v bl) r1 (by rw [r1.bl, hl]; exact Nat.le_refl _) fun E2 a2 g2 r2 => ?_)
 have ws2 := ws1.goL r1.mem g2.six
 have st2 := (g1.trans g2).st (by rw [hb, hl])
 refine wpIn_seq (wpIn_block (wpIn_seq (wpIn_region_list ?_)))
 rw [zNH]
 refine qO none k hmix (d := some 11) (by kernel_rfl) (by kernel_rfl) (by kernel_rfl) (s0 y n v bl) r2 fun F0 v0 c0 t0 => ?_
 refine qO none k hmix (d := some 12) (by kernel_rfl) (by kernel_rfl) (by kernel_rfl) (s1 y n v bl) t0 fun F1 v1 c1 t1 => ?_
 refine qO none k hmix (d := some 13) (by kernel_rfl) (by kernel_rfl) (by kernel_rfl) h2 t1 fun F2 v2 c2 t2 => ?_
 refine qO none k hmix (d := some 14) (by kernel_rfl) (by kernel_rfl) (by kernel_rfl) (s3 y n v bl) t2 fun F3 v3 c3 t3 => ?_
 refine qO none k hmix (d := some 15) (by kernel_rfl) (by kernel_rfl) (by kernel_rfl) h4 t3 fun F4 v4 c4 t4 => ?_
 refine qO none k hmix (d := some 16) (by kernel_rfl) (by kernel_rfl) (by kernel_rfl) h5 t4 fun F5 v5 c5 t5 => ?_
 generalize ((((((a2.put (some 11) v0).put (some 12) v1).put (some 13) v2).put (some 14) v3).put (some 15) v4).put (some 16) v5) = a6 at t5 ⊢
 have gA := ((((c0.trans c1).trans c2).trans c3).trans c4).trans c5
 have ws5 := ws2.go r2.mem gA
 have stA := gA.step
 rw [show F5.w = F5.w from rfl]
 have e11 : a6.eval (.tmp 11) = y := by
  have := t5.vr 11
  rw [show (put (((((tB2 y v).set 11 (.raw y)).set 12 (.int .i64 0)).set 13 v).set 14 (.int .i64 0) |>.set 15 (.ptr 4 [ix])) (some 16) e).getD 11 .any = .raw y from rfl] at this
  generalize hz : a6.tmps.getD 11 undef = zz at this
  cases this
  exact hz
 have e12 := t5.vr 12
 have e16 := t5.vr 16
 have hop := run_yield (P := Tryz.prog) (args := #[a6.eval (.tmp 12), a6.eval (.tmp 16)]) ws5.hL (by rw [hps]; rfl)
 have hrun : (execOp a6.eval (bwO 6)).run Tryz.prog F5.w = .ok (.round (D + 1) rec.fn ((rec.params.zip #[a6.eval (.tmp 12), a6.eval (.tmp 16)]).foldl (fun t (x : Nat × Value) => t.setIfInBounds x.1 x.2) rec.tmps) rec.assign rec.body) F5.w := by
  rw [← hop]
  exact zFU bwO6 (e11.trans hy.symm)
 unfold wpListIn
 rw [if_pos (by simp [Region.wanted, show (bwO 6).guard = none by kernel_rfl])]
 refine ⟨fun f hf => trivial, ?_⟩
 rw [Oper.semAt_eq _ _ _ (zKz (by kernel_rfl)), hrun, Oper.uponIn_round]
 refine ⟨fun hh => by simp [Fence.wide] at hh, (hround F5 ws5 (st2.trans stA) t5.mem t5.bl _ _ ?_ ?_).mono ?_⟩
 ·exact e12
 ·exact e16
 rintro f w' ⟨rfl, E9, rfl, hb9, ws9, m9, st9⟩
 have r9 := (t5.env' st9 hb9 m9 (ws9.glob g0)).put (Go.refl m9) hb9 (d := some 17) (v := .bool true) (v' := .bool true) (.bool _ _)
 rw [show (bwO 6).dst = some 17 by kernel_rfl]
 have stB := st2.trans (stA.trans (st9.trans (Go.refl m9).step))
 refine qO none k hmix (d := some 18) (by kernel_rfl) (by kernel_rfl) (by kernel_rfl) (s7 y n v ix e bl') r9 fun F7 v7 c7 t7 => ?_
 have stC := stB.trans c7.step
 refine wpListIn_nil ?_
 show Code.wpIn _ _ _ _ _ _ _
 have ws7 := ws9.go m9 c7
 refine xw hmix (y4 y n v ix e bl') t7 (by rw [t7.bl]; exact hl') fun E10 a10 g10 r10 => ?_
 have ws10 := ws7.goL t7.mem g10.six
 show Code.wpIn _ _ _ _ _ _ _
 refine xw hmix (y2 y n v ix e bl') r10 (by rw [r10.bl]; exact hl') fun E11 a11 g11 r11 => ?_
 have ws11 := ws10.goL r10.mem g11.six
 show Code.roundsIn _ _ _ _ _ _ _ _
 rw [roundsIn_succ]
 refine wpIn_seq (xw hmix (y3 y n v ix e bl') r11 (by rw [r11.bl]; exact hl') fun E12 a12 g12 r12 => ?_)
 have ws12 := ws11.goL r11.mem g12.six
 have g9 := (g10.trans g11).trans g12
 have stE : Step E E12 := by
  have l7 : 9 ≤ F7.bl.length := by rw [t7.bl]; exact hl'
  have l0 : E.bl.length = 9 := by rw [hb, hl]
  refine ⟨by rw [l0]; exact g9.len, fun b o h => ?_, fun id hi blk'' hb'' => ?_, fun r es c hr hm => g9.mp r es c (stC.ro r 0 hr).1 (stC.mp r es c hr hm)⟩
  ·exact ⟨(g9.ro b o (stC.ro b o h).1).1, (g9.ro b o (stC.ro b o h).1).2.trans (stC.ro b o h).2⟩
  ·rcases g9.blk id (l0 ▸ hi) blk'' hb'' with hf | ⟨blk', hb', k1, k2, k3⟩
   ·rcases stC.blk id hi _ hf with h4 | ⟨b4, h4, k4, k5, k6⟩
    ·exact .inl h4
    ·exact .inl (by rw [h4]; exact congrArg some (zEW k5 k6))
   ·rcases stC.blk id hi _ hb' with h4 | ⟨b4, h4, k4, k5, k6⟩
    ·exact .inl h4
    ·exact .inr ⟨b4, h4, k1.trans k4, fun p q h => k2 p q (k5 p q h), fun p r h => k3 p r (k6 p r h)⟩
 simp only [zLt, Exit.then, Exit.inBlock, if_true, bodyPost]
 exact ⟨r12.defers, .tuple #[], by rw [show results Tryz.f57 _ = pure (.tuple #[]) by kernel_rfl]; rfl, ⟨_, rfl⟩, E12, rfl, r12.bl, ws12, r12.mem, stE⟩
noncomputable def bkAo (i : Nat) : Oper := zLG.getD i default
noncomputable def zKp (i : Nat) : Oper := zLF.getD i default
theorem zNJ : zLG.toList = [bkAo 0, bkAo 1] := by kernel_rfl
theorem zNI : zLF.toList = [zKp 0, zKp 1, zKp 2] := by kernel_rfl
theorem zKP : zMU = .rangeFunc (.tmp 30) #[31, 32] (.region 5 zLG false) (.block 1 (.region 6 zLF false)) := by kernel_rfl
def z36 : AV := .agg [.int .i64 0, .agg [.ints .u8 20 (List.replicate 20 0), .ints .u64 4 [0, 0, 0, 0]], .agg [.int .u64 0, .ints .u64 4 [0, 0, 0, 0], .str ⟨⟨[]⟩⟩], .ints .u64 4 [0, 0, 0, 0], .int .i64 0]
section
variable (m r x u s : Int) (p q o j z : List AV) (v : AV) (a kk b w4 : List Int) (nn g : Int) (c : ByteArray)
def eAV : AV := .agg [.int .i64 0, .agg [.ints .u8 20 a, .ints .u64 4 kk], .agg [.int .u64 nn, .ints .u64 4 b, .str c], .ints .u64 4 w4, .int .i64 g]
def tR : List AV := ((tm5 m u s v).set 31 (.int .i64 0)).set 32 (eAV a kk b w4 nn g c)
theorem a0 (n : Nat) : opK (bkC n) (bkAo 0) (get (bkC n) (tR m u s v a kk b w4 nn g c)) (kB m r x p q o j z v) (fun _ v bl => some (v, bl)) = some (.ptr 9 [], kB m r x p q o j z v ++ [some (.var z36)]) := by kernel_rfl
theorem a1 (n : Nat) : opK (bkC n) (bkAo 1) (get (bkC n) ((tR m u s v a kk b w4 nn g c).set 7 (.ptr 9 []))) (kB m r x p q o j z v ++ [some (.var z36)]) (fun _ v bl => some (v, bl)) = some (.any, kB m r x p q o j z v ++ [some (.var (eAV a kk b w4 nn g c))]) := by kernel_rfl
theorem b0 (n : Nat) : opK (bkC n) (zKp 0) (get (bkC n) ((tR m u s v a kk b w4 nn g c).set 7 (.ptr 9 []))) (kB m r x p q o j z v ++ [some (.var (eAV a kk b w4 nn g c))]) (fun _ v bl => some (v, bl)) = some (.ptr 0 [], kB m r x p q o j z v ++ [some (.var (eAV a kk b w4 nn g c))]) := by kernel_rfl
theorem b1 (n : Nat) : opK (bkC n) (zKp 1) (get (bkC n) (((tR m u s v a kk b w4 nn g c).set 7 (.ptr 9 [])).set 33 (.ptr 0 []))) (kB m r x p q o j z v ++ [some (.var (eAV a kk b w4 nn g c))]) (fun _ v bl => some (v, bl)) = some (eAV a kk b w4 nn g c, kB m r x p q o j z v ++ [some (.var (eAV a kk b w4 nn g c))]) := by kernel_rfl
theorem b2 (n : Nat) : opK (bkC n) (zKp 2) (get (bkC n) ((((tR m u s v a kk b w4 nn g c).set 7 (.ptr 9 [])).set 33 (.ptr 0 [])).set 34 (eAV a kk b w4 nn g c))) (kB m r x p q o j z v ++ [some (.var (eAV a kk b w4 nn g c))]) (fun _ v bl => some (v, bl)) = zD (Fz.m n (0, a, kk, nn, b, c, w4, g, r, x, p, q, o, j, z)) fun t => some (.tup [], kB m t.1 t.2.1 t.2.2.1 t.2.2.2.1 t.2.2.2.2.1 t.2.2.2.2.2.1 t.2.2.2.2.2.2 v ++ [some (.var (eAV a kk b w4 nn g c))]) := by kernel_rfl
theorem b2' (n : Nat) {p' : List AV} (h : mputL (.ints .u8 20 a) (.agg [.int .u64 nn, .ints .u64 4 b, .str c]) p = some p') : opK (bkC n) (zKp 2) (get (bkC n) ((((tR m u s v a kk b w4 nn g c).set 7 (.ptr 9 [])).set 33 (.ptr 0 [])).set 34 (eAV a kk b w4 nn g c))) (kB m r x p q o j z v ++ [some (.var (eAV a kk b w4 nn g c))]) (fun _ v bl => some (v, bl)) = some (.tup [], kB m r x p' q o j z v ++ [some (.var (eAV a kk b w4 nn g c))]) := by
 rw [b2]
 have : Fz.m n (0, a, kk, nn, b, c, w4, g, r, x, p, q, o, j, z) = some (r, x, p', q, o, j, z) := by
  show zD (mputL (.ints .u8 20 a) (.agg [.int .u64 nn, .ints .u64 4 b, .str c]) p) _ = _
  rw [h]
  rfl
 rw [this]
 rfl
theorem d5 (K : AV → Option (AV × zC)) : zBi Tryz.prog 8 104 (eAV a kk b w4 nn g c) K = K (eAV a kk b w4 nn g c) := by kernel_rfl
end
noncomputable def zBz (fn : FuncId) (tmps : Array Value) (D : Nat) (st : LoopState) : Loop := { state := st, pending := none, fn := fn, tmps := tmps, params := #[31, 32], assign := .region 5 zLG false, body := .block 1 (.region 6 zLF false), defers := D }
section
variable (m r x u s : Int) (p q o j z : List AV) (v : AV) (a kk b w4 : List Int) (nn g : Int) (c : ByteArray)
theorem zMb (hmix : Tryz.prog.follows .mixedOrders = true) (n k : Nat) {E0 : Env} {D : Nat} (g0 : Glob zI E0) (fn : FuncId) {p' : List AV} (h : mputL (.ints .u8 20 a) (.agg [.int .u64 nn, .ints .u64 4 b, .str c]) p = some p')
  {Ea : Env} {A : Act} (sa : SR (bkC n) Ea (tm5 m u s v) (kB m r x p q o j z v) A) {E : Env} (ws : WS E0 D (zBz fn A.tmps D .ready) E) (st : Step Ea E) (me : Mem E) (hb : E.bl = kB m r x p q o j z v) {iv ev : Value} (hi : VR E true (.int .i64 0) iv) (he : VR E true (eAV a kk b w4 nn g c) ev) :
  RoundIn Fence.wide k Tryz.prog (D + 1) fn ((#[31, 32].zip #[iv, ev]).foldl (fun t (x : Nat × Value) => t.setIfInBounds x.1 x.2) A.tmps) (.region 5 zLG false) (.block 1 (.region 6 zLF false)) E.w
   (fun f w' => f = .returned (.bool true) ∧ ∃ E', E'.w = w' ∧ E'.bl = kB m r x p' q o j z v ++ [some (.var (eAV a kk b w4 nn g c))] ∧ WS E0 D (zBz fn A.tmps D .ready) E' ∧ Mem E' ∧ Step E E') := by
 have s0 := sa.env' st hb me (ws.glob g0)
 have s1 : SR (bkC n) E (tR m u s v a kk b w4 nn g c) (kB m r x p q o j z v) ((A.put (some 31) iv).put (some 32) ev) := (s0.put (Go.refl me) hb (d := some 31) hi).put (Go.refl me) hb (d := some 32) he
 have hact : ({ tmps := (#[31, 32].zip #[iv, ev]).foldl (fun t (x : Nat × Value) => t.setIfInBounds x.1 x.2) A.tmps, defers := [] } : Act) = (A.put (some 31) iv).put (some 32) ev := by
  rw [show (A.put (some 31) iv).put (some 32) ev = ({ tmps := (A.tmps.setIfInBounds 31 iv).setIfInBounds 32 ev, defers := A.defers } : Act) from rfl, sa.defers]
  simp
 refine roundIn_of_wpIn trivial ?_
 rw [hact]
 generalize (A.put (some 31) iv).put (some 32) ev = A1 at s1
 refine wpIn_region_list ?_
 rw [zNJ]
 refine qO (some (D + 1)) k hmix (d := some 7) (by kernel_rfl) (by kernel_rfl) (by kernel_rfl) (a0 m r x u s p q o j z v a kk b w4 nn g c n) s1 fun F1 v1 c1 t1 => ?_
 refine qO (some (D + 1)) k hmix (d := none) (by kernel_rfl) (by kernel_rfl) (by kernel_rfl) (a1 m r x u s p q o j z v a kk b w4 nn g c n) t1 fun F2 v2 c2 t2 => ?_
 refine wpListIn_nil ?_
 have ws2 := ws.go me (c1.trans c2)
 refine ⟨_, run_beginRound ws2.hL rfl, ?_⟩
 obtain ⟨ws3, m3, st3⟩ := ws2.turn t2.mem { zBz fn A.tmps D .ready with state := .busy }
 have t3 := t2.env' st3 t2.bl m3 (ws3.glob g0)
 refine wpIn_block (wpIn_region_list ?_)
 rw [zNI]
 refine qO (some (D + 1)) k hmix (d := some 33) (by kernel_rfl) (by kernel_rfl) (by kernel_rfl) (b0 m r x u s p q o j z v a kk b w4 nn g c n) t3 fun F4 v4 c4 t4 => ?_
 refine qO (some (D + 1)) k hmix (d := some 34) (by kernel_rfl) (by kernel_rfl) (by kernel_rfl) (b1 m r x u s p q o j z v a kk b w4 nn g c n) t4 fun F5 v5 c5 t5 => ?_
 refine qO (some (D + 1)) k hmix (d := some 35) (by kernel_rfl) (by kernel_rfl) (by kernel_rfl) (b2' m r x u s p q o j z v a kk b w4 nn g c n h) t5 fun F6 v6 c6 t6 => ?_
 refine wpListIn_nil ?_
 have ws6 := ws3.go m3 ((c4.trans c5).trans c6)
 obtain ⟨ws7, m7, st7⟩ := ws6.turn t6.mem (zBz fn A.tmps D .ready)
 simp only [Exit.inBlock, roundPost]
 exact ⟨_, _, run_endRound none ws6.hL, rfl, { F6 with w := F6.w.putObj (D + 1) (.loop (zBz fn A.tmps D .ready)) }, rfl, t6.bl, ws7, m7, (c1.trans c2).step.trans (st3.trans (((c4.trans c5).trans c6).step.trans st7))⟩
theorem zOc : (tm5 m u s v).getD 30 .any = .fn (.func 57) [] [.ptr 8 []] := by kernel_rfl
theorem zOm {E : Env} {o : Bool} {f : Fn} {y : AV} {w : Value} (h : VR E o (.fn f [] [y]) w) : ∃ bv, w = .func f #[] #[bv] ∧ VR E o y bv := by
 cases h with
 | fn _ _ _ _ us bs h1 h2 g1 g2 =>
  obtain ⟨b0, rfl⟩ : ∃ b0, bs = #[b0] := by
   match bs, h2 with
   | ⟨[b0]⟩, _ => exact ⟨b0, rfl⟩
  have : us = #[] := by simpa using h1
  subst this
  exact ⟨b0, rfl, g2 0 _ _ rfl rfl⟩
theorem zMc (hmix : Tryz.prog.follows .mixedOrders = true) (n k : Nat) {E0 : Env} (g0 : Glob zI E0) {p' : List AV} (h : mputL (.ints .u8 20 a) (.agg [.int .u64 nn, .ints .u64 4 b, .str c]) p = some p') {ix : Nat} (hix : j.getD ix .any = eAV a kk b w4 nn g c)
  (h0 : ∀ y, X (bkC n) (bkA 9) n (.region 0 zLE false) ⟨tB y, kB m r x p q o j z v⟩ (fun e s => some (e, s)) = some (.normal, ⟨tB1 y v, kB m r x p q o j z v⟩))
  (h2 : ∀ y, opK (bkC n) (bwO 2) (get (bkC n) (((tB2 y v).set 11 (.raw y)).set 12 (.int .i64 0))) (kB m r x p q o j z v) (fun _ v bl => some (v, bl)) = some (v, kB m r x p q o j z v))
  (h4 : ∀ y, opK (bkC n) (bwO 4) (get (bkC n) (((((tB2 y v).set 11 (.raw y)).set 12 (.int .i64 0)).set 13 v).set 14 (.int .i64 0))) (kB m r x p q o j z v) (fun _ v bl => some (v, bl)) = some (.ptr 4 [ix], kB m r x p q o j z v))
  {E : Env} {A : Act} (sa : SR (bkC n) E (tm5 m u s v) (kB m r x p q o j z v) A) (gl : GoL 6 E0 E) {Q : Exit → Act → World → Prop}
  (hQ : ∀ E' D, E0.w.heap.size ≤ D → E'.w.heap[D]? = some (.deferred (some [])) → GoL 6 E0 E' → SR (bkC n) E' (tm5 m u s v) (kB m r x p' q o j z v ++ [some (.var (eAV a kk b w4 nn g c))]) A → Q .normal (zBZ A [{ target := .collected D, args := #[] }]) E'.w) :
  zMU.wpIn Fence.wide k Tryz.prog Q A E.w := by
 rw [zKP]
 refine wpIn_rangeFunc ?_
 intro fn hfn
 obtain ⟨W1, hW1⟩ : ∃ W1, (E.w.alloc (.deferred (some []))).alloc (.loop (zBz fn A.tmps E.w.heap.size .ready)) = W1 := ⟨_, rfl⟩
 have hB : RowKit.Below E.w.heap.size E.w W1 := by rw [← hW1]; exact ((RowKit.Below.refl _ E.w).alloc (Nat.le_refl _) _).alloc (by simp) _
 have hL1 : W1.heap[E.w.heap.size + 1]? = some (.loop (zBz fn A.tmps E.w.heap.size .ready)) := by
  rw [← hW1]; have := World.alloc_heap_new (E.w.alloc (.deferred (some []))) (.loop (zBz fn A.tmps E.w.heap.size .ready)); rwa [World.size_alloc] at this
 have hK1 : W1.heap[E.w.heap.size]? = some (.deferred (some [])) := by
  rw [← hW1]; exact (RowKit.Below.heap_alloc _ _ _ (by simp)).trans (World.alloc_heap_new E.w _)
 have gB := Go.below sa.mem hB
 have s1 := sa.env' gB.step sa.bl gB.mem (sa.glob.mono gB.step.ro gB.step.mp gB.fr.keeps)
 have ws : WS E0 E.w.heap.size (zBz fn A.tmps E.w.heap.size .ready) { E with w := W1 } := ⟨gl.trans (gB.toL gl.len), gl.fr.size, hK1, hL1⟩
 obtain ⟨bv, e30, hbv⟩ := zOm ((zOc m u s v) ▸ s1.vr 30)
 have e30 : A.eval (.tmp 30) = .func (.func 57) #[] #[bv] := e30
 refine ⟨E.w.heap.size + 1, [{ target := .collected E.w.heap.size, args := #[] }], W1, { target := .fn (.func 57) #[bv], args := #[.func (.yield (E.w.heap.size + 1)) #[] #[]] }, W1, 57,
  #[.func (.yield (E.w.heap.size + 1)) #[] #[], bv], W1, ?_, ?_, ?_, ?_, fun hh => by simp [Fence.wide] at hh, ?_⟩
 ·rw [← hW1]; exact run_enterLoop_outer _ _ _ _ _
 ·simp only [resolve, e30]
  simp [go_sem]
 ·intro f' hf'; trivial
 ·simp [invoke, go_sem, Tryz.call57]
 ·refine CallsIn.mono (bw_in hmix n (k - 1) g0 (zBz fn A.tmps E.w.heap.size .ready) rfl rfl (bl := kB m r x p q o j z v) (bl' := kB m r x p' q o j z v ++ [some (Blk.var (eAV a kk b w4 nn g c))]) (v := v) (e := eAV a kk b w4 nn g c) (ix := ix) rfl (by show 9 ≤ 10; omega)
   (fun E2 ws2 st2 m2 hb2 iv ev hi he => zMb m r x u s p q o j z v a kk b w4 nn g c hmix n (k - 1 - 1) g0 fn h sa ws2 (gB.step.trans st2) m2 hb2 hi he) (h0 _) (h2 _) (h4 _) ?_ ws gB.mem sa.bl hbv) ?_
  ·rw [s5, hix, d5]
  ·rintro f w' ⟨⟨y, rfl⟩, E3, rfl, hb3, ws3, m3, st3⟩
   obtain ⟨ws4, m4, st4⟩ := ws3.turn m3 { zBz fn A.tmps E.w.heap.size .ready with state := .exhausted }
   refine ⟨none, _, run_endLoop ws3.hL (by simp [zBz]), ?_⟩
   have := hQ { E3 with w := E3.w.putObj (E.w.heap.size + 1) (.loop { zBz fn A.tmps E.w.heap.size .ready with state := .exhausted }) } E.w.heap.size ws4.ge ws4.hD ws4.gl (sa.env' (gB.step.trans (st3.trans st4)) hb3 m4 (ws4.glob g0))
   rw [show ({ A with defers := [{ target := .collected E.w.heap.size, args := #[] }] ++ A.defers } : Act) = zBZ A [{ target := .collected E.w.heap.size, args := #[] }] by simp [zBZ, sa.defers]]
   exact this
end
section
variable (m r x u s : Int) (p q o j z : List AV) (v : AV) (e : AV)
def bl7 : zC := [some (.var (.agg [.own 1 0, .own 2 0, .rmap [], .rmap [], .own 3 0, .rmap [], .int .i64 r, .snil, .slice 4 [] 0 s.toNat 36, .slice 5 [] 0 u.toNat 2, .int .i64 x])), some (.mp p), some (.mp q), some (.mp o), some (.objs 104 36 j), some (.objs 83 2 z), some (.var (.ptr 0 [])), some (.var (.int .i64 m)), some (.var v), some (.var e)]
theorem x7 (n : Nat) : (zBN (R := zC) (bkC n) zFE (zJY (zDU true zFE) (kB m r x p q o j z v ++ [some (Blk.var e)]).length) zFE.toList (tm5 m u s v) (zHV (zDU true zFE) (kB m r x p q o j z v ++ [some (Blk.var e)])) [] fun cs tm bl => if (!true || zAs zFE cs) = true then some bl else none) =
  if 0 ≤ s then (if s ≤ (j.length : Int) then (if 0 ≤ u then (if u ≤ (z.length : Int) then some (bl7 m r x u s p q o j z v e) else none) else none) else none) else none := by kernel_rfl
theorem x1' (n : Nat) {u : Int} (h : Fb.m n (z, m) = some u) : X (bkC n) (bkA 6) n (.region 1 bkR1 false) ⟨tm1 m, zCN m r x p q o j z⟩ (fun e s => some (e, s)) = some (.normal, ⟨tm2 m u, zCN m r x p q o j z⟩) := by rw [x1, h]; rfl
theorem x2' (n : Nat) {u : Int} (h : 0 ≤ u) : X (bkC n) (bkA 6) n bkC2 ⟨tm2 m u, zCN m r x p q o j z⟩ (fun e s => some (e, s)) = some (.normal, ⟨(tm3 m u).set 15 (.bool false), zCN m r x p q o j z⟩) := by rw [x2, if_neg (by simp; omega)]
theorem x3' (n : Nat) {u s c : Int} (h : 0 ≤ u) (h2 : u < (z.length : Int)) (h3 : z.getD u.toNat .any = .agg [.int .i64 c, .int .i64 s]) : X (bkC n) (bkA 6) n (.region 3 bkR3 false) ⟨(tm3 m u).set 15 (.bool false), zCN m r x p q o j z⟩ (fun e s => some (e, s)) = some (.normal, ⟨tm4 m u s, zCN m r x p q o j z⟩) := by rw [x3, if_pos h, if_pos h2, h3]; rfl
theorem fin7 (b1 b2 : AV) (b3 b4 : AV) (j' z' : List AV) : zCE (R := AV × zC) 6 (.tup []) [some (.var (.agg [.own 1 0, .own 2 0, .rmap [], .rmap [], .own 3 0, .rmap [], .int .i64 r, .snil, .own 10 36, .own 11 2, .int .i64 x])), some (.mp p), some (.mp q), some (.mp o), none, none, some (.var b1), some (.var b2), some (.var b3), some (.var b4), some (.objs 104 36 j'), some (.objs 83 2 z')] (fun v o => some (v, o)) =
  some (.tup [], [some (.var (.agg [.own 1 0, .own 2 0, .rmap [], .rmap [], .own 3 0, .rmap [], .int .i64 r, .snil, .own 6 36, .own 7 2, .int .i64 x])), some (.mp p), some (.mp q), some (.mp o), none, none, some (.objs 104 36 j'), some (.objs 83 2 z')]) := by kernel_rfl
theorem zMY (n : Nat) {fn : Func} (hr : ∀ t : Array Value, results fn t = pure (.tuple #[])) {P : Program} {E0 E7 : Env} {D : Nat} {A : Act} {tm : List AV} (hE : E0.bl.length = 6) (ge : E0.w.heap.size ≤ D) (gl : GoL 6 E0 E7) (hD : E7.w.heap[D]? = some (.deferred (some []))) (s7 : SR (bkC n) E7 tm (bl7 m r x u s p q o j z v e) A) (k : Nat) :
  bodyPostM Fence.wide k P fn (fun e w' => ∃ v', e = .returned v' ∧ ∃ E', E'.w = w' ∧ E'.bl = [some (.var (.agg [.own 1 0, .own 2 0, .rmap [], .rmap [], .own 3 0, .rmap [], .int .i64 r, .snil, .own 6 36, .own 7 2, .int .i64 x])), some (.mp p), some (.mp q), some (.mp o), none, none, some (.objs 104 36 (j.take s.toNat)), some (.objs 83 2 (z.take u.toNat))] ∧ Go E0 E' ∧ VR E' true (.tup []) v')
   .normal (zBZ A [{ target := .collected D, args := #[] }]) E7.w := by
 obtain ⟨g8, m8, st8, hne⟩ := zJg gl s7.mem ge hD (zFI _) (zFI none) (W := E7.w.putObj D (.deferred none)) rfl rfl rfl rfl
 generalize hE8 : ({ E7 with w := E7.w.putObj D (.deferred none) } : Env) = E8 at g8 m8 st8
 have b8 : E8.bl = bl7 m r x u s p q o j z v e := by rw [← hE8]; exact s7.bl
 have w8 : E8.w = E7.w.putObj D (.deferred none) := by rw [← hE8]
 obtain ⟨E9, w9, b9, c9⟩ := zMN (e := 104) m8 (id := 0) (j := 4) (p := [8]) (w := 36) (s := s.toNat) (l := j) (by rw [b8]; rfl) rfl rfl (by rw [b8]; rfl) rfl
 rw [b8] at b9
 obtain ⟨E10, w10, b10, c10⟩ := zMN (e := 83) c9.mem (id := 0) (j := 5) (p := [9]) (w := 2) (s := u.toNat) (l := z) (by rw [b9]; rfl) rfl rfl (by rw [b9]; rfl) rfl
 rw [b9] at b10
 obtain ⟨v2, out2, f1, f2⟩ := zEi (fin7 r x p q o (.ptr 0 []) (.int .i64 m) v e (j.take s.toNat) (z.take u.toNat))
 have f3 := f1 fun v o => some (v, o)
 rw [fin7] at f3
 cases f3
 obtain ⟨E11, w11, b11, g11, m11, r11⟩ := f2 E10 (.tuple #[]) (b10.trans rfl) c10.mem (.tup _ _ _ rfl fun j x c h => by simp at h)
 have gA : GoL 6 E0 E11 := g8.trans ((c9.toL g8.len).trans ((c10.toL (c9.toL g8.len).len).trans g11))
 show LeavesInM _ _ _ _ _ _ (zBZ A [{ target := .collected D, args := #[] }]).defers .returning _
 rw [show (zBZ A [{ target := .collected D, args := #[] }]).defers = [{ target := .collected D, args := #[] }] by simp [zBZ, s7.defers]]
 refine ⟨by simp, .inl ⟨D, E7.w.putObj D (.deferred none), rfl, run_takeDeferred hD, ?_⟩⟩
 refine ⟨.tuple #[], by rw [hr]; rfl, .tuple #[], rfl, E11, ?_, b11, GoL.toGo (hE.symm ▸ gA) m11, r11⟩
 rw [w11, w10, w9, w8]
end
section
variable (m r x u s : Int) (p q o j z : List AV) (a kk b w4 : List Int) (nn g : Int) (c : ByteArray)
theorem zNL (hmix : Tryz.prog.follows .mixedOrders = true) (n : Nat) {c0 : Int} {p' : List AV} (h1 : Fb.m n (z, m) = some u) (hu : 0 ≤ u) (hz : u < (z.length : Int)) (h2 : z.getD u.toNat .any = .agg [.int .i64 c0, .int .i64 s]) (hs : 0 ≤ s) (hj : s ≤ (j.length : Int))
  (h3 : j.drop s.toNat = [eAV a kk b w4 nn g c]) (h4 : mputL (.ints .u8 20 a) (.agg [.int .u64 nn, .ints .u64 4 b, .str c]) p = some p') :
  FnC Tryz.prog zI 16 [.ptr 0 [], .int .i64 m] (bkB0 r x p q o j z)
   (.tup []) [some (.var (.agg [.own 1 0, .own 2 0, .rmap [], .rmap [], .own 3 0, .rmap [], .int .i64 r, .snil, .own 6 36, .own 7 2, .int .i64 x])), some (.mp p'), some (.mp q), some (.mp o), none, none, some (.objs 104 36 (j.take s.toNat)), some (.objs 83 2 (z.take u.toNat))] := by
 intro E vs hbl me gb ha
 have hsz : vs.size = 2 := ha.size
 have hL : E.bl.length = 6 := by rw [hbl]; rfl
 have s0 : SR (bkC n) E (tm0 m) (bkB0 r x p q o j z) { tmps := vs ++ Array.replicate 52 undef, defers := [] } := by
  refine ⟨hbl, me, gb, by simp [hsz, tm0], fun t => ?_, rfl⟩
  rcases Nat.lt_or_ge t 2 with ht | ht
  ·have h5 : t < ([AV.ptr 0 [], AV.int .i64 m] : List AV).length := ht
   simp only [tm0, List.getD_eq_getElem?_getD, Array.getD_eq_getD_getElem?]
   rw [List.getElem?_append_left h5, Array.getElem?_append_left (by rw [hsz]; exact ht), List.getElem?_eq_getElem h5, Array.getElem?_eq_getElem (by rw [hsz]; exact ht)]
   exact ha.vr t _ _ (List.getElem?_eq_getElem h5) (Array.getElem?_eq_getElem (by rw [hsz]; exact ht))
  ·have : (tm0 m).getD t AV.any = AV.any := by
    simp only [tm0, List.getD_eq_getElem?_getD]
    rw [List.getElem?_append_right (by simpa using ht), List.getElem?_replicate]
    split <;> rfl
   rw [this]
   exact .any _ _
 refine (callsIn_wide (n := 0)).1 (callsIn_of_wp_marks Tryz.func16 zKO trivial ?_)
 rw [show Tryz.f16.ntmps - vs.size = 52 by rw [show Tryz.f16.ntmps = 54 by kernel_rfl, hsz]]
 refine wpIn_seq (xw hmix (x0 m r x p q o j z n) s0 (by rw [hL]; exact Nat.le_refl _) fun E1 a1 g1 s1 => ?_)
 refine wpIn_seq (xw hmix (x1' m r x p q o j z n h1) s1 g1.len fun E2 a2 g2 s2 => ?_)
 refine wpIn_seq (xw hmix (x2' m r x p q o j z n hu) s2 g2.len fun E3 a3 g3 s3 => ?_)
 refine wpIn_seq (xw hmix (x3' m r x p q o j z n hu hz h2) s3 g3.len fun E4 a4 g4 s4 => ?_)
 have gl4 := ((g1.trans g2).trans g3).trans g4
 have hlen : j.length = s.toNat + 1 := by
  have := congrArg List.length h3
  rw [List.length_drop] at this
  simp at this
  omega
 have hget : j.getD s.toNat .any = eAV a kk b w4 nn g c := by
  have := congrArg (fun l => l.getD 0 AV.any) h3
  simp only [List.getD_eq_getElem?_getD, List.getElem?_drop, Nat.add_zero] at this
  rw [List.getD_eq_getElem?_getD, this]
  rfl
 have rest : ∀ (v : AV) (Ea : Env) (A : Act), GoL 6 E Ea → SR (bkC n) Ea (tm5 m u s v) (kB m r x p q o j z v) A →
   (∀ y, X (bkC n) (bkA 9) n (.region 0 zLE false) ⟨tB y, kB m r x p q o j z v⟩ (fun e s => some (e, s)) = some (.normal, ⟨tB1 y v, kB m r x p q o j z v⟩)) →
   (∀ y, opK (bkC n) (bwO 2) (get (bkC n) (((tB2 y v).set 11 (.raw y)).set 12 (.int .i64 0))) (kB m r x p q o j z v) (fun _ v bl => some (v, bl)) = some (v, kB m r x p q o j z v)) →
   (∀ y, opK (bkC n) (bwO 4) (get (bkC n) (((((tB2 y v).set 11 (.raw y)).set 12 (.int .i64 0)).set 13 v).set 14 (.int .i64 0))) (kB m r x p q o j z v) (fun _ v bl => some (v, bl)) = some (.ptr 4 [s.toNat], kB m r x p q o j z v)) →
   (Code.block 0 zMU).wpIn Fence.wide 0 Tryz.prog (Exit.then ((Code.region 7 zFE true).wpIn Fence.wide 0 Tryz.prog (bodyPostM Fence.wide 0 Tryz.prog Tryz.f16 (fun e w' => ∃ v', e = .returned v' ∧ ∃ E', E'.w = w' ∧ E'.bl = [some (.var (.agg [.own 1 0, .own 2 0, .rmap [], .rmap [], .own 3 0, .rmap [], .int .i64 r, .snil, .own 6 36, .own 7 2, .int .i64 x])), some (.mp p'), some (.mp q), some (.mp o), none, none, some (.objs 104 36 (j.take s.toNat)), some (.objs 83 2 (z.take u.toNat))] ∧ Go E E' ∧ VR E' true (.tup []) v')))
    (bodyPostM Fence.wide 0 Tryz.prog Tryz.f16 (fun e w' => ∃ v', e = .returned v' ∧ ∃ E', E'.w = w' ∧ E'.bl = [some (.var (.agg [.own 1 0, .own 2 0, .rmap [], .rmap [], .own 3 0, .rmap [], .int .i64 r, .snil, .own 6 36, .own 7 2, .int .i64 x])), some (.mp p'), some (.mp q), some (.mp o), none, none, some (.objs 104 36 (j.take s.toNat)), some (.objs 83 2 (z.take u.toNat))] ∧ Go E E' ∧ VR E' true (.tup []) v'))) A Ea.w := by
  intro v Ea A gl sa y0 y2 y4
  refine wpIn_block (zMc m r x u s p q o j z v a kk b w4 nn g c hmix n 0 gb h4 hget y0 y2 y4 sa gl fun E5 D ge hD gl5 s5 => ?_)
  show (Code.region 7 zFE true).wpIn _ _ _ _ _ _
  refine wpIn_wide.2 (wp_region_any hmix (zEx _ _ _ _ _ ?_))
  obtain ⟨tm7, bl', f1, f2⟩ := zFY (C := bkC n) (bkΓ hmix n) (ops := zFE) (draw := true) ((x7 m r x u s p' q o j z v (eAV a kk b w4 nn g c) n).trans (by rw [if_pos hs, if_pos hj, if_pos hu, if_pos (by omega)]))
  have f3 := f1 fun _ bl => some bl
  rw [x7, if_pos hs, if_pos hj, if_pos hu, if_pos (by omega)] at f3
  cases f3
  have f5 : ∀ Q : Exit → Act → World → Prop, (∀ E' a', Go E5 E' → SR (bkC n) E' tm7 (bl7 m r x u s p' q o j z v (eAV a kk b w4 nn g c)) a' → Q .normal a' E'.w) → wpAny Tryz.prog .any zFE Q zFE.size (Array.replicate zFE.size false) A E5.w.drew := fun Q h => by
   have := f2 E5 A Q s5 h
   rw [if_pos rfl] at this
   exact this
  refine f5 _ fun E7 A7 g7 s7 => ?_
  refine zMY m r x u s p' q o j z v (eAV a kk b w4 nn g c) n (fun t => by kernel_rfl) hL ge (gl5.trans (g7.toL gl5.len)) ?_ s7 0
  exact (g7.fr.blk D (Array.getElem?_eq_some_iff.1 hD).1 (zCt s5.mem hD (zFI _))).trans hD
 rw [← zKP]
 obtain ⟨l, hl⟩ : ∃ l, s.toNat = l := ⟨_, rfl⟩
 cases l with
 | zero =>
  have e0 : s = 0 := by omega
  subst e0
  have ej : j = [eAV a kk b w4 nn g c] := by simpa using h3
  clear hlen
  subst ej
  refine wpIn_seq (wpIn_seq (xw hmix (tm' := tm5 m u 0 (.own 4 36)) (bl' := kB m r x p q o [eAV a kk b w4 nn g c] z (.own 4 36)) (e := .normal) (by rw [x4o, if_pos (by omega), if_pos (by simp)]) s4 g4.len fun E5 a5 g5 s5 => ?_))
  exact rest _ E5 a5 (gl4.trans g5) s5 (fun y => y0o y m r x p q o z n _) (fun y => s2o y m r x p q o z n _) (fun y => s4o y m r x p q o z n _)
 | succ l =>
  have e0 : s = ((l + 1 : Nat) : Int) := by omega
  subst e0
  have hsp : span j.length (l + 1) none = 1 := by simp only [span]; simp at hlen; omega
  refine wpIn_seq (wpIn_seq (xw hmix (tm' := tm5 m u ((l + 1 : Nat) : Int) (.slice 4 [] (l + 1) 1 36)) (bl' := kB m r x p q o j z (.slice 4 [] (l + 1) 1 36)) (e := .normal) (by rw [x4s, if_pos hs, if_pos hj, hsp]) s4 g4.len fun E5 a5 g5 s5 => ?_))
  exact rest _ E5 a5 (gl4.trans g5) s5 (fun y => y0s y m r x p q o j z n l) (fun y => s2s y m r x p q o j z n l) (fun y => s4s y m r x p q o j z n l)
end
end Go.Abs
end
theorem Faa.s (hmix : HM) (n : Nat) : zE Tryz.prog zI 16 (Faa.c n) :=
  zE.of (res := Faa.res) (shape := Faa.shape) (fun R u K => rfl) (fun args lent t h => by
    unfold Faa.pat at h
    split at h
    · cases h; rfl
    · cases h) fun t u h => by
      unfold Faa.m at h
      split at h
      · rename_i k hk
        split at h
        · rename_i hk2
          split at h
          · rename_i s hs
            split at h
            · rename_i hs2
              split at h
              · rename_i w hw
                split at h
                · rename_i p' hp
                  cases h
                  unfold zMV at hs
                  split at hs
                  · rename_i c0 s0 hz
                    cases hs
                    unfold zMT at hw
                    split at hw
                    · rename_i a kk nn b c w4 g hj
                      cases hw
                      exact (zNL _ _ _ _ _ _ _ _ _ _ _ _ _ _ _ _ _ hmix n hk hk2.1 hk2.2 hz hs2.1 hs2.2 hj hp).ok Tryz.func16 (by rw [show Tryz.f16.name = "(*quaestor/store.World).Back" by kernel_rfl]; decide) (by simp [zKO])
                    · cases hw
                  · cases hs
                · cases h
              · cases h
            · cases h
          · cases h
        · cases h
      · cases h
noncomputable abbrev Faq.R0 (n : Nat) := zT (Faq.C n) (Faq.A n) n Faq.b0
def Faq.l3.T {α : Type} (mk0 : LA → LA → α) (n : Nat) (f : (Int × (Int × (LA × LA))) → Option α) (t : (Int × (Int × (LA × LA)))) : Option α := Faq.l3.r mk0 n (fun y0 y1 y2 y3 => f (y0, y1, y2, y3)) t.1 t.2.1 t.2.2.1 t.2.2.2
theorem Faq.l3.e : (Faq.l3.T (fun a0 a1 => (a0, a1)) n f t).map Faq.l3.res = Faq.l3.T (fun a0 a1 => Faq.l3.res (a0, a1)) n (fun y => (f y).map Faq.l3.res) t := by
  unfold Faq.l3.T Faq.l3.r
  exact Eq.symm (zB (zB (zB (zB (zA fun r12 => (zB rfl rfl)) rfl) rfl) rfl) rfl)
theorem Faq.l3.q : ∀ st t, Faq.l3.pat st = some t → st = Faq.l3.shape t := fun _ _ h => by unfold Faq.l3.pat at h; split at h <;> cases h; rfl
theorem Faq.l3.d : Faq.R0 n rc (Faq.l3.shape t) = Faq.l3.T (fun a0 a1 => Faq.l3.res (a0, a1)) n (fun y => rc (Faq.l3.shape y)) t := by kernel_rfl
theorem Faq.l3.loop (n m : Nat) (t : (Int × (Int × (LA × LA)))) : zS (Faq.R0 n) m (Faq.l3.shape t) = (Faq.l3.m n m t).map Faq.l3.res :=
  zN (fun _ _ => Faq.l3.e) (fun _ _ => Faq.l3.d) (fun _ => rfl) (fun _ _ => by kernel_rfl) m t
theorem Faq.run : yC (Faq.C n) (Faq.A n) n Tryz.f39 (Faq.shape t) = (Faq.m n t).map Faq.res :=
  (show _ = Faq.g (fun a0 a1 => Faq.res (a0, a1)) n t.1 t.2 from by kernel_rfl).trans (by
    unfold Faq.m Faq.g
    exact (zA fun r2 => rfl))
theorem Faq.s (hmix : HM) (n : Nat) : zE Tryz.prog zI 39 (Faq.c n) :=
  .mkF (res := Faq.res) (shape := Faq.shape) (C := Faq.C n) (A := Faq.A n) (fun R u K => rfl) (fun _ _ _ h => by unfold Faq.pat at h; split at h <;> cases h; rfl) rfl .nil hmix Tryz.func39 (by kernel_rfl) (lp := [Faq.b0]) (by kernel_rfl) (.cons (show (Faq.A n).loop (key Faq.b0) = some (.mk' Faq.l3.pat (Faq.l3.m n n) (zQ Faq.l3.res)) by kernel_rfl) (z5.of (res := Faq.l3.res) (fun R u K => rfl) Faq.l3.q fun t => Faq.l3.loop n n t)
  .nil)
  (nj rfl) (by decide) (fun _ => rfl) rfl (fun _ => by show 2 ≤ Tryz.f39.ntmps; decide) (fun _ => Faq.run)
noncomputable abbrev Fbz.R0 (n : Nat) := zT (Fbz.C n) (Fbz.A n) n Fbz.b0
def Fbz.l4.T {α : Type} (mk0 : Int → LI → LI → α) (n : Nat) (f : (Int × (Int × (LI × (LI × (LI × LI))))) → Option α) (t : (Int × (Int × (LI × (LI × (LI × LI)))))) : Option α := Fbz.l4.r mk0 n (fun y0 y1 y2 y3 y4 y5 => f (y0, y1, y2, y3, y4, y5)) t.1 t.2.1 t.2.2.1 t.2.2.2.1 t.w.1 t.w.2
theorem Fbz.l4.e : (Fbz.l4.T (fun a0 a1 a2 => (a0, a1, a2)) n f t).map Fbz.l4.res = Fbz.l4.T (fun a0 a1 a2 => Fbz.l4.res (a0, a1, a2)) n (fun y => (f y).map Fbz.l4.res) t := by
  unfold Fbz.l4.T Fbz.l4.r
  exact Eq.symm (zB (zB (zB (zB (zB (zB (zB (zB (zB (zB (zB (zB (zB rfl rfl) rfl) (zB (zB rfl rfl) rfl)) (zB (zB (zB rfl rfl) rfl) (zB (zB rfl rfl) rfl))) rfl) rfl) rfl) rfl) rfl) rfl) rfl) rfl) rfl)
theorem Fbz.l4.q : ∀ st t, Fbz.l4.pat st = some t → st = Fbz.l4.shape t := fun _ _ h => by unfold Fbz.l4.pat at h; split at h <;> cases h; rfl
theorem Fbz.l4.d : Fbz.R0 n rc (Fbz.l4.shape t) = Fbz.l4.T (fun a0 a1 a2 => Fbz.l4.res (a0, a1, a2)) n (fun y => rc (Fbz.l4.shape y)) t := by kernel_rfl
theorem Fbz.l4.loop (n m : Nat) (t : (Int × (Int × (LI × (LI × (LI × LI)))))) : zS (Fbz.R0 n) m (Fbz.l4.shape t) = (Fbz.l4.m n m t).map Fbz.l4.res :=
  zN (fun _ _ => Fbz.l4.e) (fun _ _ => Fbz.l4.d) (fun _ => rfl) (fun _ _ => by kernel_rfl) m t
theorem Fbz.run : yC (Fbz.C n) (Fbz.A n) n Tryz.f41 (Fbz.shape t) = (Fbz.m n t).map Fbz.res :=
  (show _ = Fbz.g (fun a0 a1 => Fbz.res (a0, a1)) n t.1 t.2 from by kernel_rfl).trans (by
    unfold Fbz.m Fbz.g
    exact (zA fun r2 => rfl))
theorem Fbz.s (hmix : HM) (n : Nat) : zE Tryz.prog zI 41 (Fbz.c n) :=
  .mkF (res := Fbz.res) (shape := Fbz.shape) (C := Fbz.C n) (A := Fbz.A n) (fun R u K => rfl) (fun _ _ _ h => by unfold Fbz.pat at h; split at h <;> cases h; rfl) rfl .nil hmix Tryz.func41 (by kernel_rfl) (lp := [Fbz.b0]) (by kernel_rfl) (.cons (show (Fbz.A n).loop (key Fbz.b0) = some (.mk' Fbz.l4.pat (Fbz.l4.m n n) (zQ Fbz.l4.res)) by kernel_rfl) (z5.of (res := Fbz.l4.res) (fun R u K => rfl) Fbz.l4.q fun t => Fbz.l4.loop n n t)
  .nil)
  (nj rfl) (by decide) (fun _ => rfl) rfl (fun _ => by show 2 ≤ Tryz.f41.ntmps; decide) (fun _ => Fbz.run)
section
abbrev Fbc.H (self : Fbc.S) : Prop := zE Tryz.prog zI 17 (.mk' [true, true] [none, (some (.objs 23 20))] Fbc.pat self Fbc.resK)
noncomputable abbrev Fbc.R0 (n : Nat) (self : Fbc.S) := zT (Fbc.C n self) (Fbc.A n self) n Fbc.b0
noncomputable abbrev Fbc.R1 (n : Nat) (self : Fbc.S) := zT (Fbc.C n self) (Fbc.A n self) n Fbc.b1
noncomputable abbrev Fbc.R2 (n : Nat) (self : Fbc.S) := zT (Fbc.C n self) (Fbc.A n self) n Fbc.b2
def Fbc.l6.T {α : Type} (mk0 : Bool → Int → Int → Int → LA → LA → LA → LA → LA → LA → LI → α) (mk1 : Int → Int → Int → LA → LA → LA → LA → LA → LA → LI → α) (n : Nat) (self : Fbc.S) (f : zLQ → Option α) (t : zLQ) : Option α := Fbc.l6.r mk0 mk1 n self (fun y0 y1 y2 y3 y4 y5 y6 y7 y8 y9 y10 => f (y0, y1, y2, y3, y4, y5, y6, y7, y8, y9, y10)) t.1 t.2.1 t.2.2.1 t.2.2.2.1 t.w.1 t.w.2.1 t.w.2.2.1 t.w.2.2.2.1 t.x.1 t.x.2.1 t.x.2.2
theorem Fbc.l6.e : (Fbc.l6.T (fun a0 a1 a2 a3 a4 a5 a6 a7 a8 a9 a10 => (.inl (a0, a1, a2, a3, a4, a5, a6, a7, a8, a9, a10))) (fun a0 a1 a2 a3 a4 a5 a6 a7 a8 a9 => (.inr (a0, a1, a2, a3, a4, a5, a6, a7, a8, a9))) n self f t).map Fbc.l6.res = Fbc.l6.T (fun a0 a1 a2 a3 a4 a5 a6 a7 a8 a9 a10 => Fbc.l6.res (.inl (a0, a1, a2, a3, a4, a5, a6, a7, a8, a9, a10))) (fun a0 a1 a2 a3 a4 a5 a6 a7 a8 a9 => Fbc.l6.res (.inr (a0, a1, a2, a3, a4, a5, a6, a7, a8, a9))) n self (fun y => (f y).map Fbc.l6.res) t := by
 unfold Fbc.l6.T Fbc.l6.r
 exact Eq.symm (zB (zB (zB (zA fun r10 => (zB (zB (zA fun r16 => (zB (zA fun r20 => (zA fun r22 => rfl)) rfl)) rfl) rfl)) rfl) rfl) rfl)
theorem Fbc.l6.q : ∀ st t, Fbc.l6.pat st = some t → st = Fbc.l6.shape t := fun _ _ h => by unfold Fbc.l6.pat at h; split at h <;> cases h; rfl
theorem Fbc.l6.d : Fbc.R1 n self rc (Fbc.l6.shape t) = Fbc.l6.T (fun a0 a1 a2 a3 a4 a5 a6 a7 a8 a9 a10 => Fbc.l6.res (.inl (a0, a1, a2, a3, a4, a5, a6, a7, a8, a9, a10))) (fun a0 a1 a2 a3 a4 a5 a6 a7 a8 a9 => Fbc.l6.res (.inr (a0, a1, a2, a3, a4, a5, a6, a7, a8, a9))) n self (fun y => rc (Fbc.l6.shape y)) t := by kernel_rfl
theorem Fbc.l6.loop (n : Nat) (self : Fbc.S) (m : Nat) (t : zLQ) : zS (Fbc.R1 n self) m (Fbc.l6.shape t) = (Fbc.l6.m n self m t).map Fbc.l6.res :=
 zN (fun _ _ => Fbc.l6.e) (fun _ _ => Fbc.l6.d) (fun _ => rfl) (fun _ _ => by kernel_rfl) m t
def Fbc.l3.T {α : Type} (mk0 : Bool → Int → Int → LA → LA → LA → LA → LA → LA → LI → α) (mk1 : Int → Int → LA → LA → LA → LA → LA → LA → LI → α) (n : Nat) (self : Fbc.S) (f : zDE → Option α) (t : zDE) : Option α := Fbc.l3.r mk0 mk1 n self (fun y0 y1 y2 y3 y4 y5 y6 y7 y8 y9 => f (y0, y1, y2, y3, y4, y5, y6, y7, y8, y9)) t.1 t.2.1 t.2.2.1 t.2.2.2.1 t.w.1 t.w.2.1 t.w.2.2.1 t.w.2.2.2.1 t.x.1 t.x.2
theorem Fbc.l3.e : (Fbc.l3.T (fun a0 a1 a2 a3 a4 a5 a6 a7 a8 a9 => (.inl (a0, a1, a2, a3, a4, a5, a6, a7, a8, a9))) (fun a0 a1 a2 a3 a4 a5 a6 a7 a8 => (.inr (a0, a1, a2, a3, a4, a5, a6, a7, a8))) n self f t).map Fbc.l3.res = Fbc.l3.T (fun a0 a1 a2 a3 a4 a5 a6 a7 a8 a9 => Fbc.l3.res (.inl (a0, a1, a2, a3, a4, a5, a6, a7, a8, a9))) (fun a0 a1 a2 a3 a4 a5 a6 a7 a8 => Fbc.l3.res (.inr (a0, a1, a2, a3, a4, a5, a6, a7, a8))) n self (fun y => (f y).map Fbc.l3.res) t := by
 unfold Fbc.l3.T Fbc.l3.r
 exact Eq.symm (zB (zA fun r6 => match r6 with | (.inl r6) => rfl | (.inr r6) => rfl) rfl)
theorem Fbc.l3.q : ∀ st t, Fbc.l3.pat st = some t → st = Fbc.l3.shape t := fun _ _ h => by unfold Fbc.l3.pat at h; split at h <;> cases h; rfl
theorem Fbc.l3.d : Fbc.R0 n self rc (Fbc.l3.shape t) = Fbc.l3.T (fun a0 a1 a2 a3 a4 a5 a6 a7 a8 a9 => Fbc.l3.res (.inl (a0, a1, a2, a3, a4, a5, a6, a7, a8, a9))) (fun a0 a1 a2 a3 a4 a5 a6 a7 a8 => Fbc.l3.res (.inr (a0, a1, a2, a3, a4, a5, a6, a7, a8))) n self (fun y => rc (Fbc.l3.shape y)) t := by kernel_rfl
theorem Fbc.l3.loop (n : Nat) (self : Fbc.S) (m : Nat) (t : zDE) : zS (Fbc.R0 n self) m (Fbc.l3.shape t) = (Fbc.l3.m n self m t).map Fbc.l3.res :=
 zN (fun _ _ => Fbc.l3.e) (fun _ _ => Fbc.l3.d) (fun _ => rfl) (fun _ _ => by kernel_rfl) m t
def Fbc.l11.T {α : Type} (mk0 : Bool → Int → Int → LA → LA → LA → LA → LA → LA → α) (mk1 : Int → Int → LA → LA → LA → LA → LA → LA → α) (n : Nat) (self : Fbc.S) (f : zDE → Option α) (t : zDE) : Option α := Fbc.l11.r mk0 mk1 n self (fun y0 y1 y2 y3 y4 y5 y6 y7 y8 y9 => f (y0, y1, y2, y3, y4, y5, y6, y7, y8, y9)) t.1 t.2.1 t.2.2.1 t.2.2.2.1 t.w.1 t.w.2.1 t.w.2.2.1 t.w.2.2.2.1 t.x.1 t.x.2
theorem Fbc.l11.e : (Fbc.l11.T (fun a0 a1 a2 a3 a4 a5 a6 a7 a8 => (.inl (a0, a1, a2, a3, a4, a5, a6, a7, a8))) (fun a0 a1 a2 a3 a4 a5 a6 a7 => (.inr (a0, a1, a2, a3, a4, a5, a6, a7))) n self f t).map Fbc.l11.res = Fbc.l11.T (fun a0 a1 a2 a3 a4 a5 a6 a7 a8 => Fbc.l11.res (.inl (a0, a1, a2, a3, a4, a5, a6, a7, a8))) (fun a0 a1 a2 a3 a4 a5 a6 a7 => Fbc.l11.res (.inr (a0, a1, a2, a3, a4, a5, a6, a7))) n self (fun y => (f y).map Fbc.l11.res) t := by
 unfold Fbc.l11.T Fbc.l11.r
 exact Eq.symm (zB (zB (zB (zA fun r10 => (zA fun r12 => (zB (zB (zA fun r18 => (zA fun r20 => (zA fun r22 => (zA fun r24 => (zB rfl (zB rfl rfl)))))) rfl) rfl))) rfl) rfl) rfl)
theorem Fbc.l11.q : ∀ st t, Fbc.l11.pat st = some t → st = Fbc.l11.shape t := fun _ _ h => by unfold Fbc.l11.pat at h; split at h <;> cases h; rfl
theorem Fbc.l11.d : Fbc.R2 n self rc (Fbc.l11.shape t) = Fbc.l11.T (fun a0 a1 a2 a3 a4 a5 a6 a7 a8 => Fbc.l11.res (.inl (a0, a1, a2, a3, a4, a5, a6, a7, a8))) (fun a0 a1 a2 a3 a4 a5 a6 a7 => Fbc.l11.res (.inr (a0, a1, a2, a3, a4, a5, a6, a7))) n self (fun y => rc (Fbc.l11.shape y)) t := by kernel_rfl
theorem Fbc.l11.loop (n : Nat) (self : Fbc.S) (m : Nat) (t : zDE) : zS (Fbc.R2 n self) m (Fbc.l11.shape t) = (Fbc.l11.m n self m t).map Fbc.l11.res :=
 zN (fun _ _ => Fbc.l11.e) (fun _ _ => Fbc.l11.d) (fun _ => rfl) (fun _ _ => by kernel_rfl) m t
theorem Fbc.run : yC (Fbc.C n self) (Fbc.A n self) n Tryz.f17 (Fbc.shape t) = (Fbc.h n self t).map Fbc.res :=
 (show _ = Fbc.g (fun a0 a1 a2 a3 a4 a5 a6 a7 a8 => Fbc.res (a0, a1, a2, a3, a4, a5, a6, a7, a8)) n self t.1 t.2.1 t.2.2.1 t.2.2.2.1 t.w.1 t.w.2.1 t.w.2.2.1 t.w.2.2.2 from by kernel_rfl).trans (by
  unfold Fbc.h Fbc.g
  exact (zA fun r2 => (zA fun r4 => (zA fun r6 => match r6 with | (.inl r6) => rfl | (.inr r6) => (zA fun r10 => match r10 with | (.inl r10) => rfl | (.inr r10) => rfl)))))
theorem Fbc.call (hmix : Tryz.prog.follows .mixedOrders = true) (n : Nat) (self : Fbc.S) (hs : Fbc.H self) (t : zIu) (u) (h : Fbc.h n self t = some u) : FnC Tryz.prog zI 17 (Fbc.shape t).1 (Fbc.shape t).2 (Fbc.res u).1 (Fbc.res u).2 :=
 fnC2 (C := Fbc.C n self) (A := Fbc.A n self) (fn := Tryz.f17) rfl (.cons (Fbj.s hmix n) (.cons (Fi.s hmix n) (.cons (Faq.s hmix n) (.cons (Fal.s hmix n) (.cons (Fak.s hmix n) (.cons (Fbz.s hmix n) (.cons hs .nil))))))) hmix Tryz.func17 (by kernel_rfl) (lp := [Fbc.b0, Fbc.b1, Fbc.b2]) (by kernel_rfl) (.cons (show (Fbc.A n self).loop (key Fbc.b0) = some (.mk' Fbc.l3.pat (Fbc.l3.m n self n) Fbc.l3.resK) by kernel_rfl) (z5.of (res := Fbc.l3.res) (fun R u K => by rcases u with u | u <;> rfl) Fbc.l3.q fun t => Fbc.l3.loop n self n t)
 (.cons (show (Fbc.A n self).loop (key Fbc.b1) = some (.mk' Fbc.l6.pat (Fbc.l6.m n self n) Fbc.l6.resK) by kernel_rfl) (z5.of (res := Fbc.l6.res) (fun R u K => by rcases u with u | u <;> rfl) Fbc.l6.q fun t => Fbc.l6.loop n self n t)
 (.cons (show (Fbc.A n self).loop (key Fbc.b2) = some (.mk' Fbc.l11.pat (Fbc.l11.m n self n) Fbc.l11.resK) by kernel_rfl) (z5.of (res := Fbc.l11.res) (fun R u K => by rcases u with u | u <;> rfl) Fbc.l11.q fun t => Fbc.l11.loop n self n t)
 .nil)))
 (nj rfl) (by decide) rfl rfl (by show 2 ≤ Tryz.f17.ntmps; decide) Fbc.run h
theorem Fbc.s' (hmix : Tryz.prog.follows .mixedOrders = true) (n : Nat) : ∀ d : Nat, Fbc.H (Fbc.mr n d)
 | 0 => zE.of (res := Fbc.res) (shape := Fbc.shape) (fun _ _ _ => rfl) (fun _ _ _ h => by unfold Fbc.pat at h; split at h <;> cases h; rfl) fun t u h => by cases h
 | d + 1 => zE.of (res := Fbc.res) (shape := Fbc.shape) (fun _ _ _ => rfl) (fun _ _ _ h => by unfold Fbc.pat at h; split at h <;> cases h; rfl) fun t u h => (Fbc.call hmix n (Fbc.mr n d) (Fbc.s' hmix n d) t u h).ok Tryz.func17 (by decide) (by kernel_rfl)
theorem Fbc.s (hmix : Tryz.prog.follows .mixedOrders = true) (n : Nat) : zE Tryz.prog zI 17 (Fbc.c n) := Fbc.s' hmix n n
end
noncomputable abbrev Fag.R0 (n : Nat) := zT (Fag.C n) (Fag.A n) n Fag.b0
theorem Fag.j18.gmap {α β : Type} (h : β → α) (mk0 : Int → Int → LA → Int → LI → LI → LI → Int → Int → LI → LI → Int → Bool → LI → Int → Int → LI → LA → LI → LA → LA → LA → LA → LA → β) (n : Nat) (x0 x1 : Int) (x2 : LA) (x3 : Int) (x4 x5 x6 : LI) (x7 x8 : Int) (x9 x10 : LI) (x11 : Int) (x12 : Bool) (x13 : LI) (x14 x15 : Int) (x16 : LI) (x17 : LA) (x18 : LI) (x19 x20 : LA) (x21 x22 x23 : LA) : Fag.j18.g (fun a0 a1 a2 a3 a4 a5 a6 a7 a8 a9 a10 a11 a12 a13 a14 a15 a16 a17 a18 a19 a20 a21 a22 a23 => (h (mk0 a0 a1 a2 a3 a4 a5 a6 a7 a8 a9 a10 a11 a12 a13 a14 a15 a16 a17 a18 a19 a20 a21 a22 a23))) n x0 x1 x2 x3 x4 x5 x6 x7 x8 x9 x10 x11 x12 x13 x14 x15 x16 x17 x18 x19 x20 x21 x22 x23 = (Fag.j18.g mk0 n x0 x1 x2 x3 x4 x5 x6 x7 x8 x9 x10 x11 x12 x13 x14 x15 x16 x17 x18 x19 x20 x21 x22 x23).map h := by
  unfold Fag.j18.g
  exact (zB rfl (zB rfl rfl))
theorem Fag.j18.q : ∀ st t, Fag.j18.pat st = some t → st = Fag.j18.shape t := fun _ _ h => by unfold Fag.j18.pat at h; split at h <;> cases h; rfl
theorem Fag.j18.run (n : Nat) (x0 x1 : Int) (x2 : LA) (x3 : Int) (x4 x5 x6 : LI) (x7 x8 : Int) (x9 x10 : LI) (x11 : Int) (x12 : Bool) (x13 : LI) (x14 x15 : Int) (x16 : LI) (x17 : LA) (x18 : LI) (x19 x20 : LA) (x21 x22 x23 : LA) : zIe (Fag.C n) (Fag.A n) n Fag.jc0 ((St.mk [(.ptr 0 []), (.ptr 1 []), (.ptr 2 []), (.int .i64 x0), (.own 3 20), (.int .i64 x1), (.robjs 39 58 x2), (.ptr 4 [])] [(some (.var (.agg [(.int .u8 x3), (.ints .u8 20 x4), (.ints .u8 20 x5), (.ints .u64 4 x6), (.int .u8 x7), (.int .u8 x8), (.ints .u64 4 x9), (.ints .u64 4 x10), (.int .u64 x11), (.bool x12), (.rints .u8 x13)]))), (some (.var (.agg [(.own 5 0), (.own 6 0), (.rmap []), (.rmap []), (.own 7 0), (.rmap []), (.int .i64 x14), .snil, (.own 8 36), (.own 9 2), (.int .i64 x15)]))), (some (.var (.ints .u64 4 x16))), (some (.objs 23 20 x17)), (some (.var (.ints .u8 20 x18))), (some (.mp x19)), (some (.mp x20)), (some (.mp x21)), (some (.objs 104 36 x22)), (some (.objs 83 2 x23))])) = Fag.j18.g (fun a0 a1 a2 a3 a4 a5 a6 a7 a8 a9 a10 a11 a12 a13 a14 a15 a16 a17 a18 a19 a20 a21 a22 a23 => ((.normal, (St.mk [(.ptr 0 []), (.ptr 1 []), (.ptr 2 []), (.int .i64 a0), (.own 3 20), (.int .i64 a1), (.robjs 39 58 a2), (.ptr 4 [])] [(some (.var (.agg [(.int .u8 a3), (.ints .u8 20 a4), (.ints .u8 20 a5), (.ints .u64 4 a6), (.int .u8 a7), (.int .u8 a8), (.ints .u64 4 a9), (.ints .u64 4 a10), (.int .u64 a11), (.bool a12), (.rints .u8 a13)]))), (some (.var (.agg [(.own 5 0), (.own 6 0), (.rmap []), (.rmap []), (.own 7 0), (.rmap []), (.int .i64 a14), .snil, (.own 8 36), (.own 9 2), (.int .i64 a15)]))), (some (.var (.ints .u64 4 a16))), (some (.objs 23 20 a17)), (some (.var (.ints .u8 20 a18))), (some (.mp a19)), (some (.mp a20)), (some (.mp a21)), (some (.objs 104 36 a22)), (some (.objs 83 2 a23))])) : Ex × St)) n x0 x1 x2 x3 x4 x5 x6 x7 x8 x9 x10 x11 x12 x13 x14 x15 x16 x17 x18 x19 x20 x21 x22 x23 := by kernel_rfl
theorem Fag.j18.join (n : Nat) (t : Ty0) : zIe (Fag.C n) (Fag.A n) n Fag.jc0 (Fag.j18.shape t) = (Fag.j18.m n t).map Fag.j18.res :=
  (Fag.j18.run n t.1 t.2.1 t.2.2.1 t.2.2.2.1 t.w.1 t.w.2.1 t.w.2.2.1 t.w.2.2.2.1 t.x.1 t.x.2.1 t.x.2.2.1 t.x.2.2.2.1 t.x.w.1 t.x.w.2.1 t.x.w.2.2.1 t.x.w.2.2.2.1 t.y.1 t.y.2.1 t.y.2.2.1 t.y.2.2.2.1 t.y.w.1 t.y.w.2.1 t.y.w.2.2.1 t.y.w.2.2.2).trans (Fag.j18.gmap Fag.j18.res (fun a0 a1 a2 a3 a4 a5 a6 a7 a8 a9 a10 a11 a12 a13 a14 a15 a16 a17 a18 a19 a20 a21 a22 a23 => (a0, a1, a2, a3, a4, a5, a6, a7, a8, a9, a10, a11, a12, a13, a14, a15, a16, a17, a18, a19, a20, a21, a22, a23)) n t.1 t.2.1 t.2.2.1 t.2.2.2.1 t.w.1 t.w.2.1 t.w.2.2.1 t.w.2.2.2.1 t.x.1 t.x.2.1 t.x.2.2.1 t.x.2.2.2.1 t.x.w.1 t.x.w.2.1 t.x.w.2.2.1 t.x.w.2.2.2.1 t.y.1 t.y.2.1 t.y.2.2.1 t.y.2.2.2.1 t.y.w.1 t.y.w.2.1 t.y.w.2.2.1 t.y.w.2.2.2)
def Fag.l7.T {α : Type} (mk0 : Bool → α) (mk1 : α) (n : Nat) (f : zLP → Option α) (t : zLP) : Option α := Fag.l7.r mk0 mk1 n (fun y0 y1 y2 y3 y4 y5 y6 y7 y8 y9 y10 => f (y0, y1, y2, y3, y4, y5, y6, y7, y8, y9, y10)) t.1 t.2.1 t.2.2.1 t.2.2.2.1 t.w.1 t.w.2.1 t.w.2.2.1 t.w.2.2.2.1 t.x.1 t.x.2.1 t.x.2.2
theorem Fag.l7.e : (Fag.l7.T (fun a0 => (.inl a0)) (.inr ()) n f t).map Fag.l7.res = Fag.l7.T (fun a0 => Fag.l7.res (.inl a0)) (Fag.l7.res (.inr ())) n (fun y => (f y).map Fag.l7.res) t := by
  unfold Fag.l7.T Fag.l7.r
  exact Eq.symm (zB (zB (zB (zA fun r10 => (zA fun r12 => (zA fun r14 => (zA fun r16 => (zA fun r18 => (zA fun r20 => (zA fun r22 => (zA fun r24 => (zA fun r26 => (zA fun r28 => (zA fun r30 => (zA fun r32 => (zB rfl (zB rfl (zB (zA fun r40 => (zA fun r42 => (zA fun r44 => (zA fun r46 => (zB (zA fun r50 => (zA fun r52 => (zB (zA fun r56 => (zA fun r58 => (zB rfl rfl))) (zA fun r56 => (zB rfl rfl))))) (zA fun r50 => (zA fun r52 => (zB (zA fun r56 => (zA fun r58 => (zB rfl rfl))) (zA fun r56 => (zB rfl rfl)))))))))) rfl))))))))))))))) rfl) rfl) rfl)
theorem Fag.l7.q : ∀ st t, Fag.l7.pat st = some t → st = Fag.l7.shape t := fun _ _ h => by unfold Fag.l7.pat at h; split at h <;> cases h; rfl
theorem Fag.l7.d : Fag.R0 n rc (Fag.l7.shape t) = Fag.l7.T (fun a0 => Fag.l7.res (.inl a0)) (Fag.l7.res (.inr ())) n (fun y => rc (Fag.l7.shape y)) t := by kernel_rfl
theorem Fag.l7.loop (n m : Nat) (t : zLP) : zS (Fag.R0 n) m (Fag.l7.shape t) = (Fag.l7.m n m t).map Fag.l7.res :=
  zN (fun _ _ => Fag.l7.e) (fun _ _ => Fag.l7.d) (fun _ => rfl) (fun _ _ => by kernel_rfl) m t
theorem Fag.run : yC (Fag.C n) (Fag.A n) n Tryz.f4 (Fag.shape t) = (Fag.m n t).map Fag.res :=
  (show _ = Fag.g (fun a0 => Fag.res a0) n t from by kernel_rfl).trans (by
    unfold Fag.m Fag.g
    exact (zA fun r2 => (zB (zA fun r6 => rfl) (zA fun r6 => (zB (zA fun r10 => rfl) (zA fun r10 => (zA fun r12 => (zA fun r14 => match r14 with | (.inl r14) => rfl | (.inr r14) => rfl))))))))
theorem Fag.call (hmix : HM) (n : Nat) (t : LA) (u) (h : Fag.m n t = some u) : FnC Tryz.prog zI 4 (Fag.shape t).1 (Fag.shape t).2 (Fag.res u).1 (Fag.res u).2 :=
  fnC2 (C := Fag.C n) (A := Fag.A n) (fn := Tryz.f4) rfl (.cons (Fbu.s hmix n) (.cons (Fbt.s hmix n) (.cons (Fbs.s hmix n) (.cons (Fbj.s hmix n) (.cons (Fab.s hmix n) (.cons (Fi.s hmix n) (.cons (Ff.s hmix n) (.cons (Fbn.s hmix n) (.cons (Fbr.s hmix n) (.cons (Faa.s hmix n) (.cons (Fbc.s hmix n) .nil))))))))))) hmix Tryz.func4 (by kernel_rfl) (lp := [Fag.b0]) (by kernel_rfl) (.cons (show (Fag.A n).loop (key Fag.b0) = some (.mk' Fag.l7.pat (Fag.l7.m n n) Fag.l7.resK) by kernel_rfl) (z5.of (res := Fag.l7.res) (fun R u K => by rcases u with u | u <;> rfl) Fag.l7.q fun t => Fag.l7.loop n n t)
  .nil)
  (by
    intro a ha m hm
    have hm' := zLj (show zW [(18, .mk' Fag.j18.pat (Fag.j18.m n) (zQ Fag.j18.res))] (zBs a) = some m from hm)
    simp only [List.mem_cons, List.not_mem_nil, or_false, Prod.mk.injEq] at hm'
    rcases hm' with ⟨hk, rfl⟩
    · obtain rfl := only ha hk (c := Fag.jc0) (by kernel_rfl)
      exact zEz.of (res := Fag.j18.res) (fun R u K => rfl) Fag.j18.q fun t => Fag.j18.join n t) (by decide) rfl rfl (by show 1 ≤ Tryz.f4.ntmps; decide) Fag.run h
