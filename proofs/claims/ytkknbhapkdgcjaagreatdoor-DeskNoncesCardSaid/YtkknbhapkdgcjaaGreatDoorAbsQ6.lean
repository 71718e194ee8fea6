/- An executor of the model's code over abstract values, and that it is right: what it tells of a run is what the run does. No condition. -/
import Derived.Test.YtkknbhapkdgcjaaGreatDoorAbsQ5
import Derived.Laws.Entries
section
set_option linter.unusedVariables false
set_option linter.unusedSimpArgs false
namespace Go.Abs
open Go
section
variable {R : Type} {C : Ctx}
def Done (E : Env) (cat : Cat) (v : AV) (bl' : Blks) (v' : Value) (w' : World) : Prop :=
 ∃ E', E'.w = w' ∧ (E'.bl = if cat = .pure then E.bl else bl') ∧ Go E E' ∧ VR E' true v v'
def OpS (R : Type) (C : Ctx) (o : Oper) (ev : Operand → AV) (bl : Blks) (cat : Cat) (v : AV) (bl' : Blks) : Prop :=
 KS (R := R) (opK C o ev) bl cat v bl' ∧ ∀ E (a : Act), (E.bl = bl ∨ cat = .pure) → Mem E → Glob C.G E → (∀ x, VR E true (ev x) (a.eval x)) → OpDoes C.P o a E.w (Done E cat v bl')
theorem done_same {E : Env} {cat : Cat} {v : AV} {bl : Blks} {v' : Value} (hE : E.bl = bl ∨ cat = .pure) (m : Mem E) (h : VR E true v v') : Done E cat v bl v' E.w :=
 ⟨E, rfl, by
  split
  ·rfl
  ·rcases hE with h | h
   ·exact h
   ·contradiction, .refl m, h⟩
theorem done_out {E : Env} {P : Program} {o : Oper} {a : Act} {cat : Cat} {v : AV} {bl' : Blks} {s : Sem Value} (hx : execOp a.eval o = (do let x ← s; pure (.value x))) (h : Out E P cat v bl' s) : OpDoes P o a E.w (Done E cat v bl') := by
 obtain ⟨v', E', h1, h2, h3, h4⟩ := h
 refine .value (v' := v') (w' := E'.w) ?_ ⟨E', rfl, h2, h3, h4⟩
 rw [hx]
 simp [h1]
theorem does_val {E : Env} {P : Program} {o : Oper} {a : Act} {Rr : Value → World → Prop} {s : Sem Value} {v' : Value} (hx : execOp a.eval o = (do let x ← s; pure (.value x))) (h : s.run P E.w = .ok v' E.w) (hr : Rr v' E.w) : OpDoes P o a E.w Rr := by
 refine .value (v' := v') (w' := E.w) ?_ hr
 rw [hx]
 simp [h]
theorem args_map {E : Env} {ev : Operand → AV} {a : Act} (h : ∀ x, VR E true (ev x) (a.eval x)) (l : Array Operand) : Args E (l.toList.map ev) (l.map a.eval) := by
 refine ⟨by simp, fun j x c hx hc => ?_⟩
 rw [List.getElem?_map] at hx
 rw [Array.getElem?_map] at hc
 cases hl : l[j]? with
 | none => simp [hl] at hc
 | some y =>
  have : l.toList[j]? = some y := by simpa using hl
  rw [this] at hx
  rw [hl] at hc
  cases hx; cases hc
  exact h y
theorem args_append {E : Env} {xs ys : List AV} {vs us : Array Value} (h : Args E xs vs) (k : Args E ys us) : Args E (xs ++ ys) (vs ++ us) := by
 refine ⟨by simp [h.size, k.size], fun j x c hx hc => ?_⟩
 rcases Nat.lt_or_ge j xs.length with hj | hj
 ·rw [List.getElem?_append_left hj] at hx
  rw [Array.getElem?_append_left (by rw [h.size]; exact hj)] at hc
  exact h.vr j x c hx hc
 ·rw [List.getElem?_append_right hj] at hx
  rw [Array.getElem?_append_right (by rw [h.size]; exact hj), h.size] at hc
  exact k.vr _ x c hx hc
theorem maxK_sound {l : List AV} {K : AV → Option R} {r : R} (h : maxK l K = some r) :
  ∃ v, (∀ K2 : AV → Option R, maxK l K2 = K2 v) ∧ ∀ (P : Program) (E : Env) (vs : Array Value), Args E l vs → ∀ ts ty w, ∃ v', (Builtin.max_ ts ty vs).run P w = .ok v' w ∧ VR E true v v' := by
 unfold maxK at h
 split at h
 ·rename_i k a r'
  obtain ⟨n, h1, h2⟩ := maxFrom_sound h
  refine ⟨.int k n, fun K2 => h1 K2, fun P E vs ha ts ty w => ⟨.int k n, ?_, .int _ _ _⟩⟩
  obtain ⟨vl⟩ := vs
  cases vl with
  | nil => have := ha.size; simp at this
  | cons u us =>
   have hu := ha.vr 0 (.int k a) u rfl rfl
   cases hu
   simp only [Builtin.max_]
   exact h2 P E us (by have := ha.size; simpa using this) (fun j x c hx hc => ha.vr (j + 1) x c (by simpa using hx) (by simpa using hc)) w
 ·cases h
theorem minK_sound {l : List AV} {K : AV → Option R} {r : R} (h : minK l K = some r) :
  ∃ v, (∀ K2 : AV → Option R, minK l K2 = K2 v) ∧ ∀ (P : Program) (E : Env) (vs : Array Value), Args E l vs → ∀ ts ty w, ∃ v', (Builtin.min_ ts ty vs).run P w = .ok v' w ∧ VR E true v v' := by
 unfold minK at h
 split at h
 ·rename_i k a r'
  obtain ⟨n, h1, h2⟩ := minFrom_sound h
  refine ⟨.int k n, fun K2 => h1 K2, fun P E vs ha ts ty w => ⟨.int k n, ?_, .int _ _ _⟩⟩
  obtain ⟨vl⟩ := vs
  cases vl with
  | nil => have := ha.size; simp at this
  | cons u us =>
   have hu := ha.vr 0 (.int k a) u rfl rfl
   cases hu
   simp only [Builtin.min_]
   exact h2 P E us (by have := ha.size; simpa using this) (fun j x c hx hc => ha.vr (j + 1) x c (by simpa using hx) (by simpa using hc)) w
 ·cases h
theorem OpS.ofVal {o : Oper} {ev : Operand → AV} {bl : Blks} {v : AV} {F : (AV → Option R) → Option R} (hF : ∀ bl K, opK C o ev bl K = F fun v => K .pure v bl) (hd : ∀ K2, F K2 = K2 v)
  (h : ∀ E (a : Act), Mem E → Glob C.G E → (∀ x, VR E true (ev x) (a.eval x)) → ∃ v', (execOp a.eval o).run C.P E.w = .ok (.value v') E.w ∧ VR E true v v') : OpS R C o ev bl .pure v bl := by
 refine ⟨.ofPure fun bl K => by rw [hF, hd], fun E a hE m hg hv => ?_⟩
 obtain ⟨v', h1, h2⟩ := h E a m hg hv
 exact .value h1 (done_same hE m h2)
theorem OpS.ofMem {o : Oper} {ev : Operand → AV} {bl : Blks} {cat : Cat} {v : AV} {F : Blks → Kont R → Option R} (hF : ∀ bl K, opK C o ev bl K = F bl K) (hs : KS F bl cat v bl)
  (h : ∀ E (a : Act), (E.bl = bl ∨ cat = .pure) → Mem E → (∀ x, VR E true (ev x) (a.eval x)) → ∃ v', (execOp a.eval o).run C.P E.w = .ok (.value v') E.w ∧ VR E true v v') : OpS R C o ev bl cat v bl := by
 refine ⟨⟨fun K => by rw [hF]; exact hs.det K, fun hc => ⟨rfl, fun bl2 K => by rw [hF]; exact (hs.pure hc).2 bl2 K⟩, fun _ => rfl⟩, fun E a hE m hg hv => ?_⟩
 obtain ⟨v', h1, h2⟩ := h E a hE m hv
 exact .value h1 (done_same hE m h2)
theorem OpS.ofOut {o : Oper} {ev : Operand → AV} {bl bl' : Blks} {cat : Cat} {v : AV} {F : Blks → Kont R → Option R} (hF : ∀ bl K, opK C o ev bl K = F bl K) (hs : KS F bl cat v bl')
  (h : ∀ E (a : Act), (E.bl = bl ∨ cat = .pure) → Mem E → (∀ x, VR E true (ev x) (a.eval x)) → ∃ s, execOp a.eval o = (do let x ← s; pure (.value x)) ∧ Out E C.P cat v bl' s) : OpS R C o ev bl cat v bl' := by
 refine ⟨⟨fun K => by rw [hF]; exact hs.det K, fun hc => ⟨(hs.pure hc).1, fun bl2 K => by rw [hF]; exact (hs.pure hc).2 bl2 K⟩, fun hc => hs.read hc⟩, fun E a hE m hg hv => ?_⟩
 obtain ⟨s, h1, h2⟩ := h E a hE m hv
 exact done_out h1 h2
theorem optR_map {E : Env} {ev : Operand → AV} {a : Act} (h : ∀ x, VR E true (ev x) (a.eval x)) (x : Option Operand) : OptR E (x.map ev) (x.map a.eval) := by
 cases x with
 | none => exact .inl ⟨rfl, rfl⟩
 | some x => exact .inr ⟨_, _, rfl, rfl, h x⟩
theorem eq_op_sound {P : Program} {t : TypeId} {b : Bool} {x' y' : Value} (x y : Operand) (op : BinOp) (hg : P.eqGuardType P.depth t = false) (hx : (∃ cs, x' = .agg cs) ∨ ∃ b, x' = .bool b)
  (hy : (∃ cs, y' = .agg cs) ∨ ∃ b, y' = .bool b) (h : ∀ w, (Op.equal t x' y').run P w = .ok b w) (hop : op = .eql ∨ op = .neq) (w : World) :
  (do eqGuard op t x y x' y'; binOp op t x' y').run P w = .ok (.bool (if op = .eql then b else !b)) w := by
 rcases hop with rfl | rfl <;> rcases hx with ⟨cs, rfl⟩ | ⟨b1, rfl⟩ <;> rcases hy with ⟨ds, rfl⟩ | ⟨b2, rfl⟩ <;> simp [eqGuard, binOp, hg, h]
theorem nil_op_sound {P : Program} {t : TypeId} {ms} (x : Operand) (op : BinOp) (hu : P.underlying t = some (.interface ms)) (hop : op = .eql ∨ op = .neq) (w : World) :
  (do eqGuard op t x (.const .nilIface) .nilIface .nilIface; binOp op t .nilIface .nilIface).run P w = .ok (.bool (if op = .eql then true else false)) w := by
 have h : ∀ d : Nat, (Op.equalIn (d + 1) t .nilIface .nilIface).run P w = .ok true w := fun d => by
  simp [Op.equalIn, run_underlying hu]
 have e : (Op.equal t .nilIface .nilIface).run P w = .ok true w := h 9999
 rcases hop with rfl | rfl <;> simp [eqGuard, binOp, e]
theorem nil_op_ok {o : Oper} {ev : Operand → AV} {bl : Blks} {op : BinOp} {t : TypeId} {x : Operand} {b5 : TypeId} {ms} {b : Bool} (ho : o.op = .binOp op t x (.const .nilIface) b5) (hu : C.P.underlying t = some (.interface ms))
  (hop : (op = .eql ∧ b = true) ∨ (op = .neq ∧ b = false)) (hX : ev x = .nili) (hF : ∀ bl (K : Kont R), opK C o ev bl K = K .pure (.bool b) bl) : ∃ cat v bl', OpS R C o ev bl cat v bl' := by
 refine ⟨.pure, .bool b, bl, ⟨.ofPure hF, fun E a hE m hg hv => ?_⟩⟩
 have hx : a.eval x = .nilIface := by
  have := hv x
  rw [hX] at this
  generalize a.eval x = u at this
  cases this; rfl
 have hr := nil_op_sound (P := C.P) x op hu (hop.imp And.left And.left) E.w
 have hb : (if op = BinOp.eql then true else false) = b := by rcases hop with ⟨rfl, rfl⟩ | ⟨rfl, rfl⟩ <;> rfl
 rw [hb] at hr
 refine does_val (s := do eqGuard op t x (.const .nilIface) (a.eval x) (a.eval (.const .nilIface)); binOp op t (a.eval x) (a.eval (.const .nilIface))) (by simp only [execOp, ho]) (by rw [hx]; exact hr) (done_same hE m (.bool _ _))
theorem some_op_sound {P : Program} {t : TypeId} {ms} (x : Operand) (op : BinOp) (u : TypeId) (v : Value) (hu : P.underlying t = some (.interface ms)) (hop : op = .eql ∨ op = .neq) (w : World) :
  (do eqGuard op t x (.const .nilIface) (.iface u v) .nilIface; binOp op t (.iface u v) .nilIface).run P w = .ok (.bool (if op = .eql then false else true)) w := by
 have h : ∀ d : Nat, (Op.equalIn (d + 1) t (.iface u v) .nilIface).run P w = .ok false w := fun d => by
  simp [Op.equalIn, run_underlying hu]
 have e : (Op.equal t (.iface u v) .nilIface).run P w = .ok false w := h 9999
 rcases hop with rfl | rfl <;> simp [eqGuard, binOp, e]
theorem some_op_ok {o : Oper} {ev : Operand → AV} {bl : Blks} {op : BinOp} {t : TypeId} {x : Operand} {b5 : TypeId} {ms} {b : Bool} {u : TypeId} {z : AV} (ho : o.op = .binOp op t x (.const .nilIface) b5) (hu : C.P.underlying t = some (.interface ms))
  (hop : (op = .eql ∧ b = false) ∨ (op = .neq ∧ b = true)) (hX : ev x = .iface u z) (hF : ∀ bl (K : Kont R), opK C o ev bl K = K .pure (.bool b) bl) : ∃ cat v bl', OpS R C o ev bl cat v bl' := by
 refine ⟨.pure, .bool b, bl, ⟨.ofPure hF, fun E a hE m hg hv => ?_⟩⟩
 obtain ⟨q, hx⟩ : ∃ q, a.eval x = .iface u q := by
  have := hv x
  rw [hX] at this
  generalize a.eval x = u at this
  cases this; exact ⟨_, rfl⟩
 have hr := some_op_sound (P := C.P) x op u q hu (hop.imp And.left And.left) E.w
 have hb : (if op = BinOp.eql then false else true) = b := by rcases hop with ⟨rfl, rfl⟩ | ⟨rfl, rfl⟩ <;> rfl
 rw [hb] at hr
 refine does_val (s := do eqGuard op t x (.const .nilIface) (a.eval x) (a.eval (.const .nilIface)); binOp op t (a.eval x) (a.eval (.const .nilIface))) (by simp only [execOp, ho]) (by rw [hx]; exact hr) (done_same hE m (.bool _ _))
theorem errv_op_ok {o : Oper} {ev : Operand → AV} {bl : Blks} {op : BinOp} {t : TypeId} {x : Operand} {b5 : TypeId} {ms} {b : Bool} {tF ts k : Nat} (ho : o.op = .binOp op t x (.const .nilIface) b5) (hu : C.P.underlying t = some (.interface ms))
  (hop : (op = .eql ∧ b = false) ∨ (op = .neq ∧ b = true)) (hX : ev x = .errv tF ts k) (hF : ∀ bl (K : Kont R), opK C o ev bl K = K .pure (.bool b) bl) : ∃ cat v bl', OpS R C o ev bl cat v bl' := by
 refine ⟨.pure, .bool b, bl, ⟨.ofPure hF, fun E a hE m hg hv => ?_⟩⟩
 obtain ⟨u, q, hx⟩ : ∃ u q, a.eval x = .iface u q := by
  have := hv x
  rw [hX] at this
  generalize a.eval x = u at this
  cases this with
  | errv _ _ _ _ _ h => cases h.ch <;> exact ⟨_, _, rfl⟩
 have hr := some_op_sound (P := C.P) x op u q hu (hop.imp And.left And.left) E.w
 have hb : (if op = BinOp.eql then false else true) = b := by rcases hop with ⟨rfl, rfl⟩ | ⟨rfl, rfl⟩ <;> rfl
 rw [hb] at hr
 refine does_val (s := do eqGuard op t x (.const .nilIface) (a.eval x) (a.eval (.const .nilIface)); binOp op t (a.eval x) (a.eval (.const .nilIface))) (by simp only [execOp, ho]) (by rw [hx]; exact hr) (done_same hE m (.bool _ _))
theorem eq_op_ok {o : Oper} {ev : Operand → AV} {bl : Blks} {op : BinOp} {t : TypeId} {x y : Operand} {b5 : TypeId} {r : R} {X Y : AV} (ho : o.op = .binOp op t x y b5) (f : Bool → Bool)
  (hop : (op = .eql ∧ f = fun b => b) ∨ (op = .neq ∧ f = fun b => !b)) (hX : ev x = X) (hY : ev y = Y)
  (hXa : ∀ E v, VR E true X v → (∃ cs, v = .agg cs) ∨ ∃ b, v = .bool b) (hYa : ∀ E v, VR E true Y v → (∃ cs, v = .agg cs) ∨ ∃ b, v = .bool b)
  (hF : ∀ bl (K : Kont R), opK C o ev bl K = eqK C t X Y fun b => K .pure (.bool (f b)) bl) {K : Kont R} (h : opK C o ev bl K = some r) : ∃ cat v bl', OpS R C o ev bl cat v bl' := by
 rw [hF] at h
 obtain ⟨b, h1, hgt, h2⟩ := eqK_sound h
 refine ⟨.pure, .bool (f b), bl, ⟨.ofPure fun bl K => by rw [hF, h1], fun E a hE m hg hv => ?_⟩⟩
 subst hX; subst hY
 have hr := eq_op_sound (P := C.P) x y op hgt (hXa E _ (hv x)) (hYa E _ (hv y)) (h2 E _ _ (hv x) (hv y)) (hop.imp And.left And.left) E.w
 refine does_val (s := do eqGuard op t x y (a.eval x) (a.eval y); binOp op t (a.eval x) (a.eval y)) (by simp only [execOp, ho]) hr (done_same hE m ?_)
 rcases hop with ⟨rfl, rfl⟩ | ⟨rfl, rfl⟩ <;> exact .bool _ _
theorem buildSliceK_eq (t len : Nat) (ps : List (Nat × AV)) (bl : Blks) (K : Kont R) : buildSliceK C t len ps bl K = match buildSliceB C t len ps with | some p => K .write (.own bl.length p.1) (bl ++ [some p.2]) | none => none := by
 unfold buildSliceK buildSliceB
 split
 ·split
  ·split
   ·split
    ·split <;> rfl
    ·rfl
   ·split
    ·split <;> rfl
    ·rfl
   ·rfl
  ·rfl
 ·rfl
def Env.newRo (E : Env) (c : Array Value) (t : TypeId) : Env :=
 {w := E.w.alloc (.cells c t (0, 0)), ro := fun b o => E.ro b o ∨ (b = E.w.heap.size ∧ o < c.size), loc := E.loc, bl := E.bl }
theorem Go.newRo {E : Env} (m : Mem E) (c : Array Value) (t : TypeId) : Go E (E.newRo c t) := by
 have hcell : ∀ b o, b < E.w.heap.size → (E.newRo c t).cell b o = E.cell b o := fun b o hb => World.cell?_alloc_lt _ _ _ hb
 have hcelln : ∀ o, (E.newRo c t).cell E.w.heap.size o = c[o]? := fun o => World.cell?_alloc_mark E.w c t (0, 0) o
 have hfrz : ∀ b o, b < E.w.heap.size → (E.w.alloc (.cells c t (0, 0))).frozen? ⟨b, o, none⟩ = E.w.frozen? ⟨b, o, none⟩ := fun b o hb => World.frozen?_alloc_old _ _ _ (by show b ≠ _; omega)
 have frm : Fr E (E.newRo c t) := ⟨rfl, rfl, rfl, by show _ ≤ (E.w.heap.push _).size; simp, fun b o hb _ => hcell b o hb,
  fun b hb _ => by show (E.w.heap.push _)[b]? = _; rw [Array.getElem?_push, if_neg (by omega)], fun b o hb _ => hfrz b o hb, fun _ _ h => .inl h, fun b o h => by
   rcases h with h | ⟨h, _⟩
   ·exact .inl h
   ·exact .inr (.inr (by omega)), fun _ _ h => .inl h⟩
 have st : Step E (E.newRo c t) := .of_fr m frm (Nat.le_refl _) fun id hid blk' hb => ⟨blk', hb, rfl, fun _ _ h => h, fun _ _ h => h⟩
 refine ⟨st, frm, ⟨fun id bk hb => ?_, m.dis, fun b o h => ?_, fun b o ho h => ?_⟩⟩
 ·have k := m.ok id bk hb
  refine ⟨k.fit, k.len, fun j x hx => ?_, fun hm j hj => ?_, fun l hl => ⟨(k.mp l hl).1, (k.mp l hl).2.mono st (by show (E.w.heap.push _)[_]? = _; have := (k.mp l hl).2.lt; rw [Array.getElem?_push, if_neg (by show ¬ (E.loc id).1 = _; omega)])⟩⟩
  ·obtain ⟨v, hv, hr⟩ := k.cells j x hx
   exact ⟨v, by rw [show (E.newRo c t).loc = E.loc from rfl, hcell _ _ (cell_lt (by show (E.cell _ _).isSome = true; rw [hv]; rfl))]; exact hv, hr.mono st⟩
  ·obtain ⟨g1, g2⟩ := k.room hm j hj
   have hlt := cell_lt g1
   exact ⟨by rw [show (E.newRo c t).loc = E.loc from rfl, hcell _ _ hlt]; exact g1, by rw [show (E.newRo c t).w = E.w.alloc (.cells c t (0, 0)) from rfl, show (E.newRo c t).loc = E.loc from rfl, hfrz _ _ hlt]; exact g2⟩
 ·show b < (E.w.heap.push _).size
  rcases h with h | ⟨rfl, h⟩
  ·have g := m.roe b o h; simp; omega
  ·simp
 ·rcases h with h | ⟨rfl, h⟩
  ·exact m.rod b o ho h
  ·have := m.own_lt (show Own E _ o from ho); omega
theorem buildSliceB_new {t n : Nat} {ps : List (Nat × AV)} {bl : Blks} {u e w : Nat} {l : List AV} (hb : buildSliceB C t n ps = some (u, .objs e w l)) :
  ∀ E, Mem E → ∀ vs : Array (Nat × Value), PartsR E ps vs.toList → Out E C.P .pure (.robjs e w l) bl (Instr.buildSlice t n vs) := by
 intro E m vs hp
 unfold buildSliceB at hb
 split at hb <;> (try (cases hb; done))
 rename_i e0 hu
 split at hb <;> (try (cases hb; done))
 rename_i hc
 have hc' := hc
 simp only [Bool.and_eq_true, decide_eq_true_eq] at hc'
 split at hb <;> (try (cases hb; done))
 ·split at hb <;> (try (cases hb; done))
  split at hb <;> (try (cases hb; done))
 ·rename_i z hnz hz
  split at hb <;> (try (cases hb; done))
  rename_i hs
  split at hb <;> (try (cases hb; done))
  rename_i l0 hl
  cases hb
  simp only [Bool.and_eq_true, decide_eq_true_eq] at hs
  obtain ⟨⟨⟨hs1, hs2⟩, hs3⟩, hs4⟩ := hs
  obtain ⟨i, v, hi, hv, hrun, hvr, hfz, hx1, hx2⟩ := zeroOf_sound hz
  obtain ⟨d, hue, hw, _⟩ := conf_gives hs3
  obtain ⟨_, hcz, hcr⟩ := (hvr E true).cells ⟨hx1, hx2⟩
  have hfl := hfz.length
  obtain ⟨f1, f2, f3⟩ := fillObjs_agg hl
  simp at f2
  have hrep : ∀ x ∈ List.replicate n z, x = z := fun x hx => List.eq_of_mem_replicate hx
  have hmade : CellsOf E (flats (List.replicate n z)) (madeCells v.cells (n * sizeQ C.P e)) := by
   refine ⟨by rw [size_madeCells, flats_replicate_length, hfl, hw], fun j x c hx hc => ?_⟩
   have hj := (List.getElem?_eq_some_iff.1 hx).1
   rw [flats_replicate_length, hfl, ← hw] at hj
   rw [madeCells_get _ _ _ hj (by omega), hcz] at hc
   exact hcr _ x c (flats_replicate n z j x hx (by omega)) hc
  obtain ⟨cs', h1, h2⟩ := fill_agg (E := E) (fun i => some (i * sizeQ C.P e, sizeQ C.P e)) hp f1 hc'.2 (fun x hx => by rw [hrep x hx]; exact hfz) hmade fun i y hy => by
   have hil := (List.getElem?_eq_some_iff.1 hy).1
   rw [widths_take_eq (w := sizeQ C.P e) (fun y hy => by rw [hrep y hy]; exact hw.symm) _ (Nat.le_of_lt hil), hrep y (List.mem_of_getElem? hy), hw]
  obtain ⟨cs'', e1, hfit, hcs, hcv⟩ := h2.agg_inv
  cases e1
  have hall := f3 (sizeQ C.P e) fun x hx => by rw [hrep x hx]; exact ⟨hw.symm, hs1, hs2⟩
  have hfb : ∀ x ∈ l, (Fit x ∧ width x = sizeQ C.P e) ∧ noOwn x = true ∧ solid x = true := fun x hx => ⟨⟨hfit.kid hx, (hall x hx).1⟩, (hall x hx).2⟩
  have run := run_buildSlice_of (n := n) (w := sizeQ C.P e) (vs := vs) (cs := cs') hu (run_sizeOf hue) hc'.1 hrun h1 E.w
  have hlf := objs_flat_length hfb
  have go := Go.newRo m cs' e
  refine ⟨_, E.newRo cs' e, run, by simp [Env.newRo], go, (robjs_of (b := E.w.heap.size) (o := 0) (by rw [f2]) (Nat.le_refl _) hfb (fun _ => rfl) fun j x hx => ?_).lift⟩
  have hj : j < cs'.size := by
   have := (List.getElem?_eq_some_iff.1 hx).1
   rw [hcs]; exact this
  obtain ⟨y, k1, k2⟩ := objs_flat_get hfb hx
  have hno := flat_noOwn (hfb y (List.mem_of_getElem? k1)).2.1 _ (List.mem_of_getElem? k2)
  have hget : cs'[j]? = some cs'[j] := Array.getElem?_eq_getElem hj
  refine ⟨.inr ⟨rfl, by omega⟩, cs'[j], ?_, VR.mono go.step ((hcv j x _ hx hget).low hno)⟩
  rw [Nat.zero_add]
  show (E.newRo cs' e).w.cell? _ = _
  rw [← hget]
  exact World.cell?_alloc_mark E.w cs' e (0, 0) j
theorem boxRo_sound {E : Env} {t : TypeId} {x : AV} {v : Value} {bl : Blks} (h : isRo C t x = true) (m : Mem E) (hv : VR E true x v) : Out E C.P .pure (.rptr x) bl (Instr.box t v) := by
 simp only [isRo, Bool.and_eq_true] at h
 obtain ⟨⟨_, hn⟩, hs⟩ := h
 have hx : x ≠ .any ∧ ∀ vs, x ≠ .tup vs := ⟨fun e => (by subst e; cases hs), fun vs e => (by subst e; cases hs)⟩
 obtain ⟨hf, hsz, hc⟩ := hv.cells hx
 have go := Go.newRo m v.cells t
 refine ⟨.pointer (some ⟨E.w.heap.size, 0, none⟩), E.newRo v.cells t, by simp [Instr.box, run_newVar, Env.newRo], by simp [Env.newRo], go, .rptr _ x _ hf rfl (fun j => (v.cells[j]?).getD undef) (fun j y hy => ?_) fun j y hy => ?_⟩
 ·have hj : j < v.cells.size := by
   rw [hsz]; exact (List.getElem?_eq_some_iff.1 hy).1
  refine ⟨.inr ⟨rfl, by simpa using hj⟩, ?_⟩
  show (E.newRo v.cells t).w.cell? _ = _
  rw [Nat.zero_add, Array.getElem?_eq_getElem hj]
  exact (World.cell?_alloc_mark E.w v.cells t (0, 0) j).trans (Array.getElem?_eq_getElem hj)
 ·have hj : j < v.cells.size := by
   rw [hsz]; exact (List.getElem?_eq_some_iff.1 hy).1
  rw [Array.getElem?_eq_getElem hj]
  exact VR.mono go.step ((hc j y _ hy (Array.getElem?_eq_getElem hj)).low (flat_noOwn hn _ (List.mem_of_getElem? hy)))
theorem born_frozen {E E' : Env} {e w : Nat} {l : List AV} {bl : Blks} {v' : Value} (hbl : E'.bl = bl ++ [some (.objs e w l)]) (go : Go E E') (hv : VR E' true (.own bl.length w) v') :
  ∃ E3 : Env, E3.w = E'.w ∧ E3.bl = bl ++ [none] ∧ Go E E3 ∧ VR E3 true (.robjs e w l) v' := by
 have m' := go.mem
 have hview : view E'.bl (.own bl.length w) = some (.robjs e w l) := by
  unfold view
  rw [hbl, bget_new]
 refine ⟨E'.frz [bl.length], rfl, ?_, go.trans (frz_go m' [bl.length]), (view_sound (frz_looks E' [bl.length]) m' hv hview (fun i hi => by simpa [ids] using hi)).lift⟩
 show killAll [bl.length] E'.bl = _
 rw [hbl]
 simp [killAll]
theorem buildSliceB_sound {t n : Nat} {ps : List (Nat × AV)} {bl : Blks} {u e w : Nat} {l : List AV} (hb : buildSliceB C t n ps = some (u, .objs e w l)) (r : R) :
  ∀ E, E.bl = bl → Mem E → ∀ vs : Array (Nat × Value), PartsR E ps vs.toList → Out E C.P .write (.robjs e w l) (bl ++ [none]) (Instr.buildSlice t n vs) := by
 have huw : u = w := by
  unfold buildSliceB at hb
  repeat' (split at hb <;> (try (cases hb; done)))
  all_goals (cases hb; rfl)
 subst huw
 have hk : buildSliceK C t n ps bl (fun _ _ _ => some r) = some r := by rw [buildSliceK_eq, hb]
 obtain ⟨v, bl', h1, h2⟩ := buildSliceK_sound hk
 have hd : v = .own bl.length u ∧ bl' = bl ++ [some (.objs e u l)] := by
  have f : ∀ K : Kont R, K .write v bl' = K .write (.own bl.length u) (bl ++ [some (.objs e u l)]) := fun K => (h1.det K).symm.trans (by rw [buildSliceK_eq, hb])
  classical
  have := f fun _ y z => if y = v ∧ z = bl' then some r else none
  rw [if_pos ⟨rfl, rfl⟩] at this
  by_cases h : AV.own bl.length u = v ∧ bl ++ [some (Blk.objs e u l)] = bl'
  ·exact ⟨h.1.symm, h.2.symm⟩
  ·rw [if_neg h] at this; cases this
 obtain ⟨rfl, rfl⟩ := hd
 intro E hE m vs hp
 obtain ⟨v', E', e1, e2, e3, e4⟩ := h2 E hE m vs hp
 have e2' : E'.bl = bl ++ [some (.objs e u l)] := by rw [e2]; rfl
 obtain ⟨E3, f1, f2, f3, f4⟩ := born_frozen e2' e3 e4
 exact ⟨v', E3, by rw [f1]; exact e1, f2, f3, f4⟩
theorem buildSliceB_ints {t n : Nat} {ps : List (Nat × AV)} {bl : Blks} {u : Nat} {k : IntKind} {l : List Int} (hb : buildSliceB C t n ps = some (u, .ints k l)) (r : R) :
  ∀ E, E.bl = bl → Mem E → ∀ vs : Array (Nat × Value), PartsR E ps vs.toList → Out E C.P .write (.rints k l) (bl ++ [none]) (Instr.buildSlice t n vs) := by
 have hk : buildSliceK C t n ps bl (fun _ _ _ => some r) = some r := by rw [buildSliceK_eq, hb]
 obtain ⟨v, bl', h1, h2⟩ := buildSliceK_sound hk
 have hd : v = .own bl.length u ∧ bl' = bl ++ [some (.ints k l)] := by
  have f : ∀ K : Kont R, K .write v bl' = K .write (.own bl.length u) (bl ++ [some (.ints k l)]) := fun K => (h1.det K).symm.trans (by rw [buildSliceK_eq, hb])
  classical
  have := f fun _ y z => if y = v ∧ z = bl' then some r else none
  rw [if_pos ⟨rfl, rfl⟩] at this
  by_cases h : AV.own bl.length u = v ∧ bl ++ [some (Blk.ints k l)] = bl'
  ·exact ⟨h.1.symm, h.2.symm⟩
  ·rw [if_neg h] at this; cases this
 obtain ⟨rfl, rfl⟩ := hd
 intro E hE m vs hp
 obtain ⟨v', E', e1, e2, e3, e4⟩ := h2 E hE m vs hp
 have e2' : E'.bl = bl ++ [some (.ints k l)] := by rw [e2]; rfl
 have m' := e3.mem
 have hview : view E'.bl (.own bl.length u) = some (.rints k l) := by
  unfold view
  rw [e2', bget_new]
 refine ⟨v', E'.frz [bl.length], e1, ?_, e3.trans (frz_go m' [bl.length]), (view_sound (frz_looks E' [bl.length]) m' e4 hview (fun i hi => by simpa [ids] using hi)).lift⟩
 show killAll [bl.length] E'.bl = _
 rw [e2']
 simp [killAll]
theorem buildSliceF_sound {t n : Nat} {ps : List (Nat × AV)} {bl : Blks} {K : Kont R} {r : R} (h : buildSliceF C t n ps bl K = some r) :
  ∃ cat v bl', KS (R := R) (buildSliceF C t n ps) bl cat v bl' ∧ ∀ E, (E.bl = bl ∨ cat = .pure) → Mem E → ∀ vs : Array (Nat × Value), PartsR E ps vs.toList → Out E C.P cat v bl' (Instr.buildSlice t n vs) := by
 unfold buildSliceF at h
 split at h
 ·rename_i hi
  split at h
  ·rename_i u e w l hb
   exact ⟨.pure, .robjs e w l, bl, .ofPure fun bl K => by simp only [buildSliceF, hi, hb], fun E _ m vs hp => buildSliceB_new hb E m vs hp⟩
  ·rename_i u k l hb
   split at h
   ·rename_i hro
    refine ⟨.write, .rints k l, bl ++ [none], .ofWrite fun K => by simp only [buildSliceF, hi, hb, if_pos hro], fun E hE m vs hp => ?_⟩
    rcases hE with hE | hE
    ·exact buildSliceB_ints hb r E hE m vs hp
    ·cases hE
   ·rename_i hro
    obtain ⟨v, bl', h1, h2⟩ := buildSliceK_sound h
    refine ⟨.write, v, bl', .ofWrite fun K => by simp only [buildSliceF, hi, hb, if_neg hro]; exact h1.det K, fun E hE m vs hp => ?_⟩
    rcases hE with hE | hE
    ·exact h2 E hE m vs hp
    ·cases hE
  ·rename_i hno hno2
   obtain ⟨v, bl', h1, h2⟩ := buildSliceK_sound h
   refine ⟨.write, v, bl', .ofWrite fun K => ?_, fun E hE m vs hp => ?_⟩
   ·simp only [buildSliceF, hi]
    first
     | exact h1.det K
     | (split; next u e w l hb => exact absurd hb (hno _ _ _ _); next u k l hb => exact absurd hb (hno2 _ _ _); next => exact h1.det K)
   ·rcases hE with hE | hE
    ·exact h2 E hE m vs hp
    ·cases hE
 ·rename_i i q hi
  split at h <;> (try (cases h; done))
  rename_i ps' hv
  split at h <;> (try (cases h; done))
  rename_i u e w l hb
  refine ⟨.write, .robjs e w l, killAll (i :: q) bl ++ [none], .ofWrite fun K => by simp only [buildSliceF, hi, hv, hb], fun E hE m vs hp => ?_⟩
  rcases hE with hE | hE
  ·subst hE
   have g := frz_go m (i :: q)
   obtain ⟨v', E', e1, e2, e3, e4⟩ := buildSliceB_sound hb r (E.frz (i :: q)) rfl g.mem vs (viewPs_sound m hp hv fun j hj => by rw [hi] at hj; exact hj)
   exact ⟨v', E', e1, e2, g.trans e3, e4⟩
  ·cases hE
theorem wrapK_sound {t : TypeId} {x : AV} {bl : Blks} {K : Kont R} {r : R} (h : wrapK C t x bl K = some r) :
  ∃ cat v bl', KS (R := R) (wrapK C t x) bl cat v bl' ∧ ∀ E, (E.bl = bl ∨ cat = .pure) → Mem E → ∀ v0, VR E true x v0 → ∃ E', (E'.bl = if cat = .pure then E.bl else bl') ∧ E'.w = E.w ∧ Go E E' ∧ VR E' true v (.iface t v0) := by
 unfold wrapK at h
 split at h
 ·rename_i hr
  refine ⟨.pure, .iface t x, bl, .ofPure fun bl K => by simp only [wrapK, hr], fun E _ m v0 hv => ⟨E, by simp, rfl, .refl m, .iface _ _ _ _ hv⟩⟩
 ·rename_i hr
  split at h <;> (try (cases h; done))
  rename_i id
  split at h <;> (try (cases h; done))
  rename_i kk nn tF ts k hb
  split at h <;> (try (cases h; done))
  rename_i ht
  subst ht
  refine ⟨.write, .errv tF ts (k % 100 + 100), killAll [id] bl, .ofWrite fun K => by simp only [wrapK, hr, hb, if_true], fun E hE m v0 hv => ?_⟩
  rcases hE with hE | hE
  ·subst hE
   have g := frz_go m [id]
   have bk := m.ok id _ hb
   obtain ⟨v1, c1, hv1⟩ := bk.cells 1 (.errv tF ts k) rfl
   have hv2 := hv1.mono g.step
   have hlen : 2 ≤ (E.loc id).2.2 := by have := bk.len; simpa [flatB, flat, flats] using this
   refine ⟨E.frz [id], by rw [if_neg (by simp)]; rfl, rfl, g, .errv _ _ _ _ _ ⟨?_, fun h => absurd h (by omega)⟩⟩
   rw [show (k % 100 + 100) % 100 = k % 100 by omega]
   cases hv with
   | ptr _ _ a hid hp =>
    obtain ⟨p1, q, p2, p3, p4⟩ := hp _ hb
    have : q = 0 := by simp [offB, offPath] at p2; exact p2.symm
    subst this
    cases hv2 with
    | errv _ _ _ _ _ hc0 =>
     have hc := hc0.ch
     refine .wrap a v1 p1 (.inr ⟨id, _, by simp, hb, ?_⟩) (.inr ⟨id, _, by simp, hb, ?_⟩) ?_ hc
     ·exact ⟨p3.symm, by omega, by omega⟩
     ·exact ⟨p3.symm, by omega, by omega⟩
     ·show E.cell a.block (a.off + 1) = some v1
      rw [p3, p4]
      exact c1
  ·cases hE
theorem views_at {bl : Blks} : ∀ {l m : List AV}, views bl l = some m → m.length = l.length ∧ ∀ (j : Nat) y, m[j]? = some y → ∃ x, l[j]? = some x ∧ view bl x = some y
 | [], m, h => by
  unfold views at h
  cases h
  exact ⟨rfl, fun j y h => by simp at h⟩
 | x :: l, m, h => by
  unfold views at h
  split at h <;> (try (cases h; done))
  rename_i y m' hy hm
  cases h
  obtain ⟨h1, h2⟩ := views_at hm
  refine ⟨by simp [h1], fun j z hz => ?_⟩
  cases j with
  | zero => simp at hz; subst hz; exact ⟨x, rfl, hy⟩
  | succ j => exact h2 j z (by simpa using hz)
theorem ids_idss {x : AV} : ∀ {l : List AV} {j : Nat}, l[j]? = some x → ∀ i ∈ ids x, i ∈ idss l
 | [], j, h, i, hi => by simp at h
 | y :: l, 0, h, i, hi => by
  simp at h; subst h
  unfold idss
  exact List.mem_append_left _ hi
 | y :: l, j + 1, h, i, hi => by
  unfold idss
  exact List.mem_append_right _ (ids_idss (by simpa using h) i hi)
theorem callF_sound {f : FuncId} {args : List AV} {bl : Blks} {K : Kont R} {r : R} (hΓ : ∀ f m, C.Γ f = some m → CalleeS C.P C.G f m) (h : callF C f args bl K = some r) :
  ∃ cat v bl', KS (R := R) (callF C f args) bl cat v bl' ∧ ∀ E, (E.bl = bl ∨ cat = .pure) → Mem E → Glob C.G E → ∀ vs, Args E args vs →
   CallDoes C.P f vs E.w fun v' w' => ∃ E', E'.w = w' ∧ (E'.bl = if cat = .pure then E.bl else bl') ∧ Go E E' ∧ VR E' true v v' := by
 unfold callF at h
 cases h1 : C.ro (1000000 + f) with
 | true =>
  simp only [h1] at h
  split at h <;> (try (cases h; done))
  rename_i xs hx
  obtain ⟨cat, v, bl', k1, k2⟩ := callK_sound hΓ h
  refine ⟨.write, v, bl', .ofWrite fun K => by simp only [callF, h1, hx]; exact k1.det _, fun E hE m g vs ha => ?_⟩
  rcases hE with rfl | hE
  ·have go := frz_go m (idss args)
   obtain ⟨v1, v2⟩ := views_at hx
   have ha' : Args (E.frz (idss args)) xs vs := ⟨by rw [ha.size, v1], fun j y c hy hc => by
    obtain ⟨x, hx1, hx2⟩ := v2 j y hy
    exact (view_sound (frz_looks E (idss args)) m (ha.vr j x c hx1 hc) hx2 (ids_idss hx1)).lift⟩
   refine (k2 (E.frz (idss args)) (.inl rfl) go.mem (g.mono go.step.ro go.step.mp go.fr.keeps) vs ha').mono fun v' w' ⟨E', e1, e2, e3, e4⟩ => ⟨E', e1, ?_, go.trans e3, e4⟩
   rw [e2]
   split
   ·rename_i hc
    rw [if_neg (by simp), (k1.pure hc).1]
    rfl
   ·rw [if_neg (by simp)]
  ·cases hE
 | false =>
  simp only [h1] at h
  cases h2 : C.ro (2000000 + f) with
  | true =>
   simp only [h2] at h
   obtain ⟨cat, v, bl', k1, k2⟩ := callK_sound hΓ h
   rw [k1.det] at h
   split at h <;> (try (cases h; done))
   rename_i y hy
   split at h <;> (try (cases h; done))
   rename_i hid
   refine ⟨.write, y, killAll (ids v) bl', .ofWrite fun K => by simp only [callF, h1, h2]; rw [k1.det]; simp only [hy]; rw [if_pos hid], fun E hE m g vs ha => ?_⟩
   rcases hE with rfl | hE
   ·refine (k2 E (.inl rfl) m g vs ha).mono fun v' w' ⟨E', e1, e2, e3, e4⟩ => ?_
    have e2' : E'.bl = bl' := by
     rw [e2]
     split
     ·rename_i hc; exact (k1.pure hc).1.symm
     ·rfl
    have go := frz_go e3.mem (ids v)
    refine ⟨E'.frz (ids v), e1, ?_, e3.trans go, (view_sound (frz_looks E' (ids v)) e3.mem e4 (by rw [e2']; exact hy) fun i hi => hi).lift⟩
    rw [if_neg (by simp), ← e2']
    rfl
   ·cases hE
  | false =>
   simp only [h2] at h
   obtain ⟨cat, v, bl', k1, k2⟩ := callK_sound hΓ h
   refine ⟨cat, v, bl', ⟨fun K => by simp only [callF, h1, h2]; exact k1.det K, fun hc => ⟨(k1.pure hc).1, fun bl2 K => by simp only [callF, h1, h2]; exact (k1.pure hc).2 bl2 K⟩, k1.read⟩, k2⟩
theorem opK_sound (hΓ : ∀ f m, C.Γ f = some m → CalleeS C.P C.G f m) {o : Oper} {ev : Operand → AV} {bl : Blks} {K : Kont R} {r : R} (h : opK C o ev bl K = some r) :
  ∃ cat v bl', OpS R C o ev bl cat v bl' := by
 obtain ⟨dst, op, ty, ps, af, gd⟩ := o
 cases op with
 | move x => exact ⟨.pure, ev x, bl, .ofVal (F := fun K => K (ev x)) (fun _ _ => rfl) (fun _ => rfl) fun E a m hg hv => ⟨_, rfl, hv x⟩⟩
 | assign x => exact ⟨.pure, ev x, bl, .ofVal (F := fun K => K (ev x)) (fun _ _ => rfl) (fun _ => rfl) fun E a m hg hv => ⟨_, rfl, hv x⟩⟩
 | pick c a b =>
  simp only [opK] at h
  split at h
  ·rename_i t ht
   cases t with
   | true => exact ⟨.pure, ev a, bl, .ofVal (F := fun K => K (ev a)) (fun bl K => by simp [opK, ht]) (fun _ => rfl) fun E ac m hg hv => ⟨ac.eval a, by have := hv c; rw [ht] at this; simp [execOp, this.bool_inv, asBool], hv a⟩⟩
   | false => exact ⟨.pure, ev b, bl, .ofVal (F := fun K => K (ev b)) (fun bl K => by simp [opK, ht]) (fun _ => rfl) fun E ac m hg hv => ⟨ac.eval b, by have := hv c; rw [ht] at this; simp [execOp, this.bool_inv, asBool], hv b⟩⟩
  ·cases h
 | alloc t =>
  simp only [opK] at h
  split at h
  ·rename_i z hz
   obtain ⟨i, v, h1, h2, h3, h4, h5, h6, h7⟩ := zeroOf_sound hz
   refine ⟨.write, .ptr bl.length [], bl ++ [some (.var z)], .ofOut (F := opK C _ ev) (fun _ _ => rfl) (.ofWrite fun K => by simp only [opK, hz]) fun E a hE m hv => ⟨Instr.alloc t true (.tuple #[]), rfl, ?_⟩⟩
   rcases hE with rfl | hE
   ·obtain ⟨E', g1, g2, g3, g4⟩ := newVar_sound t m (h4 E true) ⟨h6, h7⟩
    exact ⟨_, E', by simp [Instr.alloc, h3, run_newVar, g1], by simp [g2], g3, g4⟩
   ·cases hE
  ·cases h
 | box t x =>
  cases hro : isRo C t (ev x) with
  | true =>
   exact ⟨.pure, .rptr (ev x), bl, .ofOut (F := opK C _ ev) (fun _ _ => rfl) (.ofPure fun bl K => by simp only [opK, hro]) fun E a hE m hv => ⟨Instr.box t (a.eval x), rfl, boxRo_sound hro m (hv x)⟩⟩
  | false =>
  simp only [opK, hro] at h
  have key : (ev x ≠ .any ∧ ∀ vs, ev x ≠ .tup vs) → ∃ cat v bl', OpS R C ⟨dst, .box t x, ty, ps, af, gd⟩ ev bl cat v bl' := fun hx => by
   refine ⟨.write, .ptr bl.length [], bl ++ [some (.var (ev x))], .ofOut (F := opK C _ ev) (fun _ _ => rfl) (.ofWrite fun K => ?_) fun E a hE m hv => ⟨Instr.box t (a.eval x), rfl, ?_⟩⟩
   ·simp only [opK, hro]
    split
    ·rename_i e; exact absurd e hx.1
    ·rename_i vs e; exact absurd e (hx.2 vs)
    ·rfl
   ·rcases hE with rfl | hE
    ·obtain ⟨E', g1, g2, g3, g4⟩ := newVar_sound t m (hv x) hx
     exact ⟨_, E', by simp [Instr.box, run_newVar, g1], by simp [g2], g3, g4⟩
    ·cases hE
  split at h
  ·cases h
  ·cases h
  ·rename_i h1 h2
   exact key ⟨h1, h2⟩
 | build t parts =>
  simp only [opK] at h
  obtain ⟨v, h1, h2⟩ := buildK_sound h
  refine ⟨.pure, v, bl, .ofVal (F := buildK C t _) (fun _ _ => rfl) h1 fun E a m hg hv => ?_⟩
  obtain ⟨v', h3⟩ := h2 E (parts.map fun p => (p.1, a.eval p.2)) (by simpa using partsR_of hv parts.toList)
  exact ⟨v', by simp [execOp, (h3 E.w).1], (h3 E.w).2⟩
 | buildSlice t n parts =>
  simp only [opK] at h
  obtain ⟨cat, v, bl', h1, h2⟩ := buildSliceF_sound h
  exact ⟨cat, v, bl', .ofOut (F := buildSliceF C t n _) (fun _ _ => rfl) h1 fun E a hE m hv => ⟨_, rfl, h2 E hE m _ (by simpa using partsR_of hv parts.toList)⟩⟩
 | load t x =>
  simp only [opK] at h
  obtain ⟨cat, v, h1, h2, h3⟩ := loadK_sound h
  refine ⟨cat, v, bl, .ofMem (F := loadK C t (ev x)) (fun _ _ => rfl) h1 fun E a hE m hv => ?_⟩
  obtain ⟨v', h4, h5⟩ := h3 E hE m _ (hv x)
  exact ⟨v', by simp [execOp, h4], h5⟩
 | store t p x =>
  simp only [opK] at h
  obtain ⟨bl', h1, h2⟩ := storeK_sound h
  refine ⟨.write, .any, bl', ⟨h1, fun E a hE m hg hv => ?_⟩⟩
  rcases hE with hE | hE
  ·obtain ⟨E', g1, g2, g3⟩ := h2 E hE m _ _ (hv p) (hv x)
   exact .skip (w' := E'.w) (by simp [execOp, g1]) ⟨E', rfl, by simp [g2], g3, .any _ _⟩
  ·cases hE
 | nilCheck x =>
  simp only [opK] at h
  split at h
  ·rename_i id p hx
   refine ⟨.pure, .ptr id p, bl, .ofVal (F := fun K => K (.ptr id p)) (fun bl K => by simp only [opK, hx]) (fun _ => rfl) fun E a m hg hv => ?_⟩
   have hh := hv x
   rw [hx] at hh
   cases hu : a.eval x <;> rw [hu] at hh <;> (try (cases hh; done))
   rename_i ad
   cases ad with
   | none => cases hh
   | some ad => exact ⟨_, by simp only [execOp, hu]; rfl, hh⟩
  ·rename_i y hx
   refine ⟨.pure, .rptr y, bl, .ofVal (F := fun K => K (.rptr y)) (fun bl K => by simp only [opK, hx]) (fun _ => rfl) fun E a m hg hv => ?_⟩
   have hh := hv x
   rw [hx] at hh
   cases hu : a.eval x <;> rw [hu] at hh <;> (try (cases hh; done))
   rename_i ad
   cases ad with
   | none => cases hh
   | some ad => exact ⟨_, by simp only [execOp, hu]; rfl, hh⟩
  ·rename_i f l l' hx
   refine ⟨.pure, .fn (.func f) l l', bl, .ofVal (F := fun K => K (.fn (.func f) l l')) (fun bl K => by simp only [opK, hx]) (fun _ => rfl) fun E a m hg hv => ?_⟩
   have hh := hv x
   rw [hx] at hh
   cases hu : a.eval x <;> rw [hu] at hh <;> (try (cases hh; done))
   rename_i f' as bs
   have : f' = .func f := by cases hh; rfl
   subst this
   exact ⟨_, by simp only [execOp, hu]; rfl, hh⟩
  ·cases h
 | binOp op t x y b5 =>
  have aggI : ∀ {k n l} (E : Env) v, VR E true (.ints k n l) v → (∃ cs, v = .agg cs) ∨ ∃ b, v = .bool b := fun E v h => by cases h; exact .inl ⟨_, rfl⟩
  have aggA : ∀ {l} (E : Env) v, VR E true (.agg l) v → (∃ cs, v = .agg cs) ∨ ∃ b, v = .bool b := fun E v h => by cases h; exact .inl ⟨_, rfl⟩
  have aggB : ∀ {b} (E : Env) v, VR E true (.bool b) v → (∃ cs, v = .agg cs) ∨ ∃ b, v = .bool b := fun E v h => by cases h; exact .inr ⟨_, rfl⟩
  have h0 := h
  simp only [opK] at h
  split at h
  ·rename_i hx hy
   exact eq_op_ok rfl (fun b => b) (.inl ⟨rfl, rfl⟩) hx hy aggI aggI (fun bl K => by simp only [opK, hx, hy]) h0
  ·rename_i hx hy
   exact eq_op_ok rfl (fun b => !b) (.inr ⟨rfl, rfl⟩) hx hy aggI aggI (fun bl K => by simp only [opK, hx, hy]) h0
  ·rename_i hx hy
   exact eq_op_ok rfl (fun b => b) (.inl ⟨rfl, rfl⟩) hx hy aggA aggA (fun bl K => by simp only [opK, hx, hy]) h0
  ·rename_i hx hy
   exact eq_op_ok rfl (fun b => !b) (.inr ⟨rfl, rfl⟩) hx hy aggA aggA (fun bl K => by simp only [opK, hx, hy]) h0
  ·rename_i hx hy
   exact eq_op_ok rfl (fun b => b) (.inl ⟨rfl, rfl⟩) hx hy aggB aggB (fun bl K => by simp only [opK, hx, hy]) h0
  ·rename_i hx hy
   exact eq_op_ok rfl (fun b => !b) (.inr ⟨rfl, rfl⟩) hx hy aggB aggB (fun bl K => by simp only [opK, hx, hy]) h0
  ·rename_i hx hy
   split at h <;> (try (cases h; done))
   rename_i ms hu
   exact nil_op_ok rfl hu (.inl ⟨rfl, rfl⟩) hx fun bl K => by simp only [opK, hx, hy, hu]
  ·rename_i hx hy
   split at h <;> (try (cases h; done))
   rename_i ms hu
   exact nil_op_ok rfl hu (.inr ⟨rfl, rfl⟩) hx fun bl K => by simp only [opK, hx, hy, hu]
  ·rename_i hx hy
   split at h <;> (try (cases h; done))
   rename_i ms hu
   exact some_op_ok rfl hu (.inl ⟨rfl, rfl⟩) hx fun bl K => by simp only [opK, hx, hy, hu]
  ·rename_i hx hy
   split at h <;> (try (cases h; done))
   rename_i ms hu
   exact some_op_ok rfl hu (.inr ⟨rfl, rfl⟩) hx fun bl K => by simp only [opK, hx, hy, hu]
  ·rename_i hx hy
   split at h <;> (try (cases h; done))
   rename_i ms hu
   exact errv_op_ok rfl hu (.inl ⟨rfl, rfl⟩) hx fun bl K => by simp only [opK, hx, hy, hu]
  ·rename_i hx hy
   split at h <;> (try (cases h; done))
   rename_i ms hu
   exact errv_op_ok rfl hu (.inr ⟨rfl, rfl⟩) hx fun bl K => by simp only [opK, hx, hy, hu]
  ·obtain ⟨v, v', h1, h2, h3⟩ := binK_sound h
   refine ⟨.pure, v, bl, .ofVal (F := binK _ (ev x) (ev y)) (fun bl K => ?_) h1 fun E a m hg hv => ⟨v', ?_, h2.vr E true⟩⟩
   ·simp only [opK]
   ·have := h3 C.P E _ _ (hv x) (hv y) E.w t x y
    simp only [execOp]
    simp only [Sem.run_bind] at this ⊢
    rw [this]
    rfl
 | unOp op t x =>
  simp only [opK] at h
  obtain ⟨v, v', h1, h2, h3⟩ := unK_sound h
  refine ⟨.pure, v, bl, .ofVal (F := unK op (ev x)) (fun _ _ => rfl) h1 fun E a m hg hv => ⟨v', by simp [execOp, h3 C.P E _ (hv x) E.w], h2.vr E true⟩⟩
 | convert s d x =>
  simp only [opK] at h
  obtain ⟨cat, v, bl', h1, h2⟩ := convK_sound h
  exact ⟨cat, v, bl', .ofOut (F := convK C s d (ev x)) (fun _ _ => rfl) h1 fun E a hE m hv => ⟨_, rfl, h2 E hE m _ (hv x)⟩⟩
 | sliceToArrayPointer t x =>
  simp only [opK] at h
  obtain ⟨cat, v, h1, h2, h3⟩ := arrayPtrK_sound h
  refine ⟨cat, v, bl, .ofMem (F := arrayPtrK C t (ev x)) (fun _ _ => rfl) h1 fun E a hE m hv => ?_⟩
  obtain ⟨v', h4, h5⟩ := h3 E hE m _ (hv x)
  exact ⟨v', by simp [execOp, h4], h5⟩
 | makeInterface t x =>
  simp only [opK] at h
  split at h
  ·cases h
  ·rename_i d hnd hd
   obtain ⟨cat, v, bl', h1, h2⟩ := wrapK_sound h
   refine ⟨cat, v, bl', .ofOut (F := wrapK C t (ev x)) (fun bl K => ?_) h1 fun E a hE m hv => ⟨Instr.makeInterface t (a.eval x), by simp only [execOp], ?_⟩⟩
   ·simp only [opK]
    split
    ·rename_i hi; rw [hd] at hi; cases hi; exact absurd rfl (hnd _)
    ·rfl
    ·rename_i hi; rw [hd] at hi; cases hi
   ·obtain ⟨E', e1, e2, e3, e4⟩ := h2 E hE m _ (hv x)
    refine ⟨.iface t (a.eval x), E', ?_, e1, e3, e4⟩
    rw [e2]
    simp only [Instr.makeInterface]
    cases d <;> first
     | exact absurd rfl (hnd _)
     | simp [run_underlying hd]
  ·cases h
 | makeFunc f xs ys =>
  simp only [opK] at h
  refine ⟨.pure, _, bl, .ofVal (F := fun K => K (.fn f (xs.toList.map ev) (ys.toList.map ev))) (fun _ _ => rfl) (fun _ => rfl) fun E a m hg hv => ⟨.func f (xs.map a.eval) (ys.map a.eval), rfl, ?_⟩⟩
  have g1 := args_map hv xs
  have g2 := args_map hv ys
  exact .fn _ _ _ _ _ _ g1.size g2.size g1.vr g2.vr
 | makeSlice t l c =>
  simp only [opK] at h
  obtain ⟨v, bl', h1, h2⟩ := makeSliceK_sound h
  refine ⟨.write, v, bl', .ofOut (F := makeSliceK C t (ev l) (ev c)) (fun _ _ => rfl) h1 fun E a hE m hv => ⟨_, rfl, ?_⟩⟩
  rcases hE with hE | hE
  ·exact h2 E hE m _ _ (hv l) (hv c)
  ·cases hE
 | slice t x lo hi mx =>
  cases mx with
  | some y => simp [opK] at h
  | none =>
   simp only [opK] at h
   obtain ⟨cat, v, h1, h2, h3⟩ := sliceK_sound h
   refine ⟨cat, v, bl, .ofMem (F := sliceK C t (ev x) (lo.map ev) (hi.map ev)) (fun _ _ => rfl) h1 fun E a hE m hv => ?_⟩
   obtain ⟨v', h4, h5⟩ := h3 E hE m _ _ _ (hv x) (optR_map hv lo) (optR_map hv hi)
   exact ⟨v', by simp [execOp, h4], h5⟩
 | fieldAddr t x f =>
  simp only [opK] at h
  obtain ⟨cat, v, h1, h2, h3⟩ := fieldAddrK_sound h
  refine ⟨cat, v, bl, .ofMem (F := fieldAddrK C t (ev x) f) (fun _ _ => rfl) h1 fun E a hE m hv => ?_⟩
  obtain ⟨v', h4, h5⟩ := h3 E hE m _ (hv x)
  exact ⟨v', by simp [execOp, h4], h5⟩
 | field t x f =>
  simp only [opK] at h
  obtain ⟨v, h1, h2⟩ := fieldK_sound h
  refine ⟨.pure, v, bl, .ofVal (F := fieldK C t (ev x) f) (fun _ _ => rfl) h1 fun E a m hg hv => ?_⟩
  obtain ⟨v', h3⟩ := h2 E true _ (hv x)
  exact ⟨v', by simp [execOp, (h3 E.w).1], (h3 E.w).2⟩
 | indexAddr t x ix =>
  simp only [opK] at h
  obtain ⟨cat, v, h1, h2, h3⟩ := indexAddrK_sound h
  refine ⟨cat, v, bl, .ofMem (F := indexAddrK C t (ev x) (ev ix)) (fun _ _ => rfl) h1 fun E a hE m hv => ?_⟩
  obtain ⟨v', h4, h5⟩ := h3 E hE m _ _ (hv x) (hv ix)
  exact ⟨v', by simp [execOp, h4], h5⟩
 | index t x ix =>
  simp only [opK] at h
  obtain ⟨v, h1, h2⟩ := indexK_sound h
  refine ⟨.pure, v, bl, .ofVal (F := indexK C t (ev x) (ev ix)) (fun _ _ => rfl) h1 fun E a m hg hv => ?_⟩
  obtain ⟨v', h3⟩ := h2 E true _ _ (hv x) (hv ix)
  exact ⟨v', by simp [execOp, (h3 E.w).1], (h3 E.w).2⟩
 | makeMap t res =>
  cases res with
  | some _ => simp [opK] at h
  | none =>
   simp only [opK] at h
   obtain ⟨cat, v, bl', h1, h2⟩ := makeMapK_sound h
   exact ⟨cat, v, bl', .ofOut (F := makeMapK C t) (fun _ _ => rfl) h1 fun E a hE m hv => ⟨_, rfl, h2 E hE m⟩⟩
 | lookup t x k ok =>
  simp only [opK] at h
  obtain ⟨cat, v, h1, h2, h3⟩ := lookK_sound h
  refine ⟨cat, v, bl, .ofMem (F := lookK C t (ev x) (ev k) ok) (fun _ _ => rfl) h1 fun E a hE m hv => ?_⟩
  obtain ⟨v', h4, h5⟩ := h3 E hE m _ _ (hv x) (hv k)
  exact ⟨v', by simp [execOp, h4], h5⟩
 | mapUpdate t x k y =>
  simp only [opK] at h
  obtain ⟨bl', h1, h2⟩ := mapUpdK_sound h
  refine ⟨.write, .any, bl', ⟨h1, fun E a hE m hg hv => ?_⟩⟩
  rcases hE with hE | hE
  ·obtain ⟨E', g1, g2, g3⟩ := h2 E hE m _ _ _ (hv x) (hv k) (hv y)
   exact .skip (w' := E'.w) (by simp [execOp, g1]) ⟨E', rfl, by simp [g2], g3, .any _ _⟩
  ·cases hE
 | extract t i =>
  simp only [opK] at h
  split at h
  ·rename_i vs ht
   split at h
   ·rename_i v hi
    refine ⟨.pure, v, bl, .ofVal (F := fun K => K v) (fun bl K => by simp only [opK, ht, hi]) (fun _ => rfl) fun E a m hg hv => ?_⟩
    have := hv t
    rw [ht] at this
    cases hh : a.eval t with
    | tuple cs =>
     rw [hh] at this
     cases this with
     | tup _ _ _ hs hr =>
      have hlt : i < cs.size := by rw [hs]; exact (List.getElem?_eq_some_iff.1 hi).1
      exact ⟨cs[i], by simp [execOp, hh, Instr.extract, Array.getElem?_eq_getElem hlt], hr i v _ hi (Array.getElem?_eq_getElem hlt)⟩
    | _ => rw [hh] at this; cases this
   ·cases h
  ·cases h
 | call c =>
  simp only [opK] at h
  split at h
  ·rename_i f hc
   split at h
   ·rename_i g l l' hf
    obtain ⟨cat, v, bl', h1, h2⟩ := callF_sound hΓ h
    refine ⟨cat, v, bl', ⟨?_, fun E a hE m hg hv => ?_⟩⟩
    ·have hF : ∀ bl (K : Kont R), opK C ⟨dst, .call c, ty, ps, af, gd⟩ ev bl K = callF C g (l ++ c.args.toList.map ev ++ l') bl K := fun bl K => by simp only [opK, hc, hf]
     exact ⟨fun K => by rw [hF]; exact h1.det K, fun hcat => ⟨(h1.pure hcat).1, fun b2 K => by rw [hF]; exact (h1.pure hcat).2 b2 K⟩, h1.read⟩
    ·have hh := hv f
     rw [hf] at hh
     cases hu : a.eval f <;> rw [hu] at hh <;> (try (cases hh; done))
     rename_i f' as bs
     have : f' = .func g := by cases hh; rfl
     subst this
     have ga : Args E l as ∧ Args E l' bs := by
      cases hh with
      | fn _ _ _ _ _ _ h1 h2 g1 g2 => exact ⟨⟨h1, g1⟩, ⟨h2, g2⟩⟩
     have := h2 E hE m hg (as ++ c.args.map a.eval ++ bs) (args_append (args_append ga.1 (args_map hv c.args)) ga.2)
     have hx : execOp a.eval ⟨dst, .call c, ty, ps, af, gd⟩ = callFunc g (as ++ c.args.map a.eval ++ bs) := by
      simp only [execOp, resolve, hc, hu, Deferred.ofValue, pure_bind]
      simp only [invoke]
     intro next Q hn
     unfold Oper.wp
     rw [hx]
     rcases this with ⟨fn, k1, k2, k3, k4⟩ | ⟨v', w', k1, k2⟩
     ·have hr : (callFunc g (as ++ c.args.map a.eval ++ bs)).run C.P E.w = .ok (.enter g (as ++ c.args.map a.eval ++ bs)) E.w := by
       have k3' : fn.body ≠ none := fun e => by rw [e] at k3; cases k3
       simp [callFunc, k1, k2, k3']
      rw [hr]
      simp only [Oper.upon]
      refine k4.mono fun e w' ⟨v', he, hq⟩ => ?_
      subst he
      exact hn v' w' hq
     ·rw [k1]
      exact hn v' w' k2
   ·cases h
  ·rename_i b hc
   have hx : ∀ (a : Act), execOp a.eval ⟨dst, .call c, ty, ps, af, gd⟩ = builtin b c.argTypes ty (c.args.map fun | .const _ => true | _ => false) (c.args.map a.eval) := fun a => by
    simp only [execOp, resolve, hc]
    rfl
   have two : ∀ {x y : AV}, c.args.toList.map ev = [x, y] → ∀ (E : Env) (a : Act), (∀ x, VR E true (ev x) (a.eval x)) → ∃ x' y', c.args.map a.eval = #[x', y'] ∧ VR E true x x' ∧ VR E true y y' := by
    intro x y he E a hv
    cases hargs : c.args with
    | mk al =>
    rw [hargs] at he
    match al, he with
    | [p, q], he =>
     simp at he
     obtain ⟨rfl, rfl⟩ := he
     exact ⟨a.eval p, a.eval q, by simp, hv p, hv q⟩
   have one : ∀ {x : AV}, c.args.toList.map ev = [x] → ∀ (E : Env) (a : Act), (∀ x, VR E true (ev x) (a.eval x)) → ∃ x', c.args.map a.eval = #[x'] ∧ VR E true x x' := by
    intro x he E a hv
    cases hargs : c.args with
    | mk al =>
    rw [hargs] at he
    match al, he with
    | [p], he =>
     simp at he
     subst he
     exact ⟨a.eval p, by simp, hv p⟩
   split at h
   ·rename_i t ts x ht hxs
    obtain ⟨cat, v, h1, h2, h3⟩ := lenK_sound h
    refine ⟨cat, v, bl, .ofMem (F := lenK C t x) (fun _ _ => by simp only [opK, hc, ht, hxs]) h1 fun E a hE m hv => ?_⟩
    obtain ⟨x', g1, g2⟩ := one hxs E a hv
    obtain ⟨v', h4, h5⟩ := h3 E hE m x' c.argTypes ty (by rw [← Array.getElem?_toList, ht]; rfl) g2
    exact ⟨v', by rw [hx, g1]; simp [builtin, h4], h5⟩
   ·rename_i t tx s x ht hxs
    obtain ⟨cat, v, bl', h1, h2⟩ := appendK_sound h
    refine ⟨cat, v, bl', .ofOut (F := appendK C t tx s x) (fun _ _ => by simp only [opK, hc, ht, hxs]) h1 fun E a hE m hv => ?_⟩
    obtain ⟨x', y', g1, g2, g3⟩ := two hxs E a hv
    have ht' : c.argTypes = #[t, tx] := Array.ext' (by simpa using ht)
    exact ⟨_, by rw [hx, g1]; rfl, by rw [ht']; exact h2 E hE m x' y' ty g2 g3⟩
   ·rename_i t ts x ht hxs
    obtain ⟨v, h1, h3⟩ := capK_sound h
    refine ⟨.pure, v, bl, .ofMem (F := capK C t x) (fun _ _ => by simp only [opK, hc, ht, hxs]) h1 fun E a hE m hv => ?_⟩
    obtain ⟨x', g1, g2⟩ := one hxs E a hv
    obtain ⟨v', h4, h5⟩ := h3 E x' c.argTypes ty (by rw [← Array.getElem?_toList, ht]; rfl) g2
    exact ⟨v', by rw [hx, g1]; simp [builtin, h4], h5⟩
   ·rename_i t ts d x ht hxs
    obtain ⟨v, bl', h1, h2⟩ := copyK_sound h
    refine ⟨.write, v, bl', .ofOut (F := copyK C t d x) (fun _ _ => by simp only [opK, hc, ht, hxs]) h1 fun E a hE m hv => ?_⟩
    obtain ⟨x', y', g1, g2, g3⟩ := two hxs E a hv
    rcases hE with hE | hE
    ·exact ⟨_, by rw [hx, g1]; rfl, h2 E hE m x' y' c.argTypes ty (by rw [← Array.getElem?_toList, ht]; rfl) g2 g3⟩
    ·cases hE
   ·rename_i t ts x k ht hxs
    obtain ⟨bl', h1, h2⟩ := deleteK_sound h
    refine ⟨.write, .any, bl', .ofOut (F := deleteK C t x k) (fun _ _ => by simp only [opK, hc, ht, hxs]) h1 fun E a hE m hv => ?_⟩
    obtain ⟨x', y', g1, g2, g3⟩ := two hxs E a hv
    rcases hE with hE | hE
    ·exact ⟨_, by rw [hx, g1]; rfl, h2 E hE m x' y' c.argTypes ty (by rw [← Array.getElem?_toList, ht]; rfl) g2 g3⟩
    ·cases hE
   ·obtain ⟨v, h1, h2⟩ := maxK_sound h
    refine ⟨.pure, v, bl, .ofVal (F := maxK (c.args.toList.map ev)) (fun bl K => by simp only [opK, hc]) h1 fun E a m hg hv => ?_⟩
    obtain ⟨v', h3, h4⟩ := h2 C.P E _ (args_map hv c.args) c.argTypes ty E.w
    exact ⟨v', by rw [hx]; simp [builtin, h3], h4⟩
   ·obtain ⟨v, h1, h2⟩ := minK_sound h
    refine ⟨.pure, v, bl, .ofVal (F := minK (c.args.toList.map ev)) (fun bl K => by simp only [opK, hc]) h1 fun E a m hg hv => ?_⟩
    obtain ⟨v', h3, h4⟩ := h2 C.P E _ (args_map hv c.args) c.argTypes ty E.w
    exact ⟨v', by rw [hx]; simp [builtin, h3], h4⟩
   ·cases h
  ·cases h
 | _ => simp [opK] at h
def OpA (R : Type) (C : Ctx) (rs : Option Nat) (o : Oper) (ev : Operand → AV) (bl : Blks) (cat : Cat) (v : AV) (bl' : Blks) : Prop :=
 KS (R := R) (opA C rs o ev) bl cat v bl' ∧ ∀ E (a : Act), (E.bl = bl ∨ cat = .pure) → Mem E → Glob C.G E → (∀ x, VR E true (ev x) (a.eval x)) → OpDoes C.P o a E.w (Done E cat v bl')
theorem opA_not {id : Nat} {o : Oper} {ev : Operand → AV} (h : isAl o.op = false) : opA (R := R) C (some id) o ev = opK C o ev := by
 obtain ⟨dst, op, ty, ps, af, gd⟩ := o
 cases op <;> first
  | rfl
  | cases h
theorem keptK_inv {id : Nat} {v : AV} {bl : Blks} {K : Kont R} {r : R} (h : keptK id v bl K = some r) : bget bl id = some .free ∧ ∀ K2 : Kont R, keptK id v bl K2 = K2 .write (.ptr id []) (bl.set id (some (.var v))) := by
 unfold keptK at h
 split at h
 ·rename_i hb
  exact ⟨hb, fun K2 => by simp only [keptK, hb]⟩
 ·cases h
theorem opA_sound (hΓ : ∀ f m, C.Γ f = some m → CalleeS C.P C.G f m) {rs : Option Nat} {o : Oper} {ev : Operand → AV} {bl : Blks} {K : Kont R} {r : R} (h : opA C rs o ev bl K = some r) :
  ∃ cat v bl', OpA R C rs o ev bl cat v bl' := by
 cases rs with
 | none => exact opK_sound hΓ h
 | some id =>
 by_cases hal : isAl o.op = false
 ·rw [opA_not hal] at h
  obtain ⟨cat, v, bl', h1, h2⟩ := opK_sound hΓ h
  exact ⟨cat, v, bl', by rw [opA_not hal]; exact h1, h2⟩
 obtain ⟨dst, op, ty, ps, af, gd⟩ := o
 cases op <;> first
  | exact absurd rfl hal
  | skip
 case alloc t =>
  simp only [opA] at h
  split at h
  ·rename_i z hz
   obtain ⟨hb, hd⟩ := keptK_inv h
   obtain ⟨i, v, h1, h2, h3, h4, h5, h6, h7⟩ := zeroOf_sound hz
   refine ⟨.write, .ptr id [], bl.set id (some (.var z)), .ofWrite fun K => by simp only [opA, hz, hd], fun E a hE m hg hv => ?_⟩
   rcases hE with rfl | hE
   ·obtain ⟨E', g1, g2, g3, g4⟩ := fillVar_sound t m hb (h4 E true) ⟨h6, h7⟩
    refine done_out (s := Instr.alloc t true (.tuple #[])) rfl ⟨_, E', by simp [Instr.alloc, h3, run_newVar, g1], by simp [g2], g3, g4⟩
   ·cases hE
  ·cases h
 case box t x =>
  cases hro : isRo C t (ev x) with
  | true =>
   refine ⟨.pure, .rptr (ev x), bl, .ofPure fun bl K => by simp only [opA, hro], fun E a hE m hg hv => ?_⟩
   exact done_out (s := Instr.box t (a.eval x)) rfl (boxRo_sound hro m (hv x))
  | false =>
  simp only [opA, hro] at h
  have key : ∀ bl (K : Kont R), ev x ≠ .any → (∀ vs, ev x ≠ .tup vs) → opA C (some id) ⟨dst, .box t x, ty, ps, af, gd⟩ ev bl K = keptK id (ev x) bl K := fun bl K g1 g2 => by
   simp only [opA, hro]
  split at h
  ·cases h
  ·cases h
  ·rename_i h1 h2
   obtain ⟨hb, hd⟩ := keptK_inv h
   refine ⟨.write, .ptr id [], bl.set id (some (.var (ev x))), .ofWrite fun K => by rw [key bl K h1 h2, hd], fun E a hE m hg hv => ?_⟩
   rcases hE with rfl | hE
   ·obtain ⟨E', g1, g2, g3, g4⟩ := fillVar_sound t m hb (hv x) ⟨h1, h2⟩
    refine done_out (s := Instr.box t (a.eval x)) rfl ⟨_, E', by simp [Instr.box, run_newVar, g1], by simp [g2], g3, g4⟩
   ·cases hE
end
end Go.Abs
end
