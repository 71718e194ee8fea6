/- An executor of the model's code over abstract values, and that it is right: what it tells of a run is what the run does. No condition. -/
import Derived.Test.YtkknbhapkdgcjaaDoorAbsP5
import Derived.Laws.Entries
section
set_option linter.unusedVariables false
set_option linter.unusedSimpArgs false
namespace Go.Abs
open Go
section
variable {R : Type} {C : Ctx}
def Done (E : Env) (cat : Cat) (v : AV) (bl' : Blks) (v' : Value) (w' : World) : Prop :=
 ∃ E', E'.w = w' ∧ (E'.bl = if cat = .pure then E.bl else bl') ∧ Go E E' ∧ VR E' true v v'
def OpS (R : Type) (C : Ctx) (o : Oper) (ev : Operand → AV) (bl : Blks) (cat : Cat) (v : AV) (bl' : Blks) : Prop :=
 KS (R := R) (opK C o ev) bl cat v bl' ∧ ∀ E (a : Act), (E.bl = bl ∨ cat = .pure) → Mem E → Glob C.G E → (∀ x, VR E true (ev x) (a.eval x)) → OpDoes C.P o a E.w (Done E cat v bl')
theorem done_same {E : Env} {cat : Cat} {v : AV} {bl : Blks} {v' : Value} (hE : E.bl = bl ∨ cat = .pure) (m : Mem E) (h : VR E true v v') : Done E cat v bl v' E.w :=
 ⟨E, rfl, by
  split
  ·rfl
  ·rcases hE with h | h
   ·exact h
   ·contradiction, .refl m, h⟩
theorem done_out {E : Env} {P : Program} {o : Oper} {a : Act} {cat : Cat} {v : AV} {bl' : Blks} {s : Sem Value} (hx : execOp a.eval o = (do let x ← s; pure (.value x))) (h : Out E P cat v bl' s) : OpDoes P o a E.w (Done E cat v bl') := by
 obtain ⟨v', E', h1, h2, h3, h4⟩ := h
 refine .value (v' := v') (w' := E'.w) ?_ ⟨E', rfl, h2, h3, h4⟩
 rw [hx]
 simp [h1]
theorem does_val {E : Env} {P : Program} {o : Oper} {a : Act} {Rr : Value → World → Prop} {s : Sem Value} {v' : Value} (hx : execOp a.eval o = (do let x ← s; pure (.value x))) (h : s.run P E.w = .ok v' E.w) (hr : Rr v' E.w) : OpDoes P o a E.w Rr := by
 refine .value (v' := v') (w' := E.w) ?_ hr
 rw [hx]
 simp [h]
theorem args_map {E : Env} {ev : Operand → AV} {a : Act} (h : ∀ x, VR E true (ev x) (a.eval x)) (l : Array Operand) : Args E (l.toList.map ev) (l.map a.eval) := by
 refine ⟨by simp, fun j x c hx hc => ?_⟩
 rw [List.getElem?_map] at hx
 rw [Array.getElem?_map] at hc
 cases hl : l[j]? with
 | none => simp [hl] at hc
 | some y =>
  have : l.toList[j]? = some y := by simpa using hl
  rw [this] at hx
  rw [hl] at hc
  cases hx; cases hc
  exact h y
theorem args_append {E : Env} {xs ys : List AV} {vs us : Array Value} (h : Args E xs vs) (k : Args E ys us) : Args E (xs ++ ys) (vs ++ us) := by
 refine ⟨by simp [h.size, k.size], fun j x c hx hc => ?_⟩
 rcases Nat.lt_or_ge j xs.length with hj | hj
 ·rw [List.getElem?_append_left hj] at hx
  rw [Array.getElem?_append_left (by rw [h.size]; exact hj)] at hc
  exact h.vr j x c hx hc
 ·rw [List.getElem?_append_right hj] at hx
  rw [Array.getElem?_append_right (by rw [h.size]; exact hj), h.size] at hc
  exact k.vr _ x c hx hc
theorem maxK_sound {l : List AV} {K : AV → Option R} {r : R} (h : maxK l K = some r) :
  ∃ v, (∀ K2 : AV → Option R, maxK l K2 = K2 v) ∧ ∀ (P : Program) (E : Env) (vs : Array Value), Args E l vs → ∀ ts ty w, ∃ v', (Builtin.max_ ts ty vs).run P w = .ok v' w ∧ VR E true v v' := by
 unfold maxK at h
 split at h
 ·rename_i k a r'
  obtain ⟨n, h1, h2⟩ := maxFrom_sound h
  refine ⟨.int k n, fun K2 => h1 K2, fun P E vs ha ts ty w => ⟨.int k n, ?_, .int _ _ _⟩⟩
  obtain ⟨vl⟩ := vs
  cases vl with
  | nil => have := ha.size; simp at this
  | cons u us =>
   have hu := ha.vr 0 (.int k a) u rfl rfl
   cases hu
   simp only [Builtin.max_]
   exact h2 P E us (by have := ha.size; simpa using this) (fun j x c hx hc => ha.vr (j + 1) x c (by simpa using hx) (by simpa using hc)) w
 ·cases h
theorem minK_sound {l : List AV} {K : AV → Option R} {r : R} (h : minK l K = some r) :
  ∃ v, (∀ K2 : AV → Option R, minK l K2 = K2 v) ∧ ∀ (P : Program) (E : Env) (vs : Array Value), Args E l vs → ∀ ts ty w, ∃ v', (Builtin.min_ ts ty vs).run P w = .ok v' w ∧ VR E true v v' := by
 unfold minK at h
 split at h
 ·rename_i k a r'
  obtain ⟨n, h1, h2⟩ := minFrom_sound h
  refine ⟨.int k n, fun K2 => h1 K2, fun P E vs ha ts ty w => ⟨.int k n, ?_, .int _ _ _⟩⟩
  obtain ⟨vl⟩ := vs
  cases vl with
  | nil => have := ha.size; simp at this
  | cons u us =>
   have hu := ha.vr 0 (.int k a) u rfl rfl
   cases hu
   simp only [Builtin.min_]
   exact h2 P E us (by have := ha.size; simpa using this) (fun j x c hx hc => ha.vr (j + 1) x c (by simpa using hx) (by simpa using hc)) w
 ·cases h
theorem OpS.ofVal {o : Oper} {ev : Operand → AV} {bl : Blks} {v : AV} {F : (AV → Option R) → Option R} (hF : ∀ bl K, opK C o ev bl K = F fun v => K .pure v bl) (hd : ∀ K2, F K2 = K2 v)
  (h : ∀ E (a : Act), Mem E → Glob C.G E → (∀ x, VR E true (ev x) (a.eval x)) → ∃ v', (execOp a.eval o).run C.P E.w = .ok (.value v') E.w ∧ VR E true v v') : OpS R C o ev bl .pure v bl := by
 refine ⟨.ofPure fun bl K => by rw [hF, hd], fun E a hE m hg hv => ?_⟩
 obtain ⟨v', h1, h2⟩ := h E a m hg hv
 exact .value h1 (done_same hE m h2)
theorem OpS.ofMem {o : Oper} {ev : Operand → AV} {bl : Blks} {cat : Cat} {v : AV} {F : Blks → Kont R → Option R} (hF : ∀ bl K, opK C o ev bl K = F bl K) (hs : KS F bl cat v bl)
  (h : ∀ E (a : Act), (E.bl = bl ∨ cat = .pure) → Mem E → (∀ x, VR E true (ev x) (a.eval x)) → ∃ v', (execOp a.eval o).run C.P E.w = .ok (.value v') E.w ∧ VR E true v v') : OpS R C o ev bl cat v bl := by
 refine ⟨⟨fun K => by rw [hF]; exact hs.det K, fun hc => ⟨rfl, fun bl2 K => by rw [hF]; exact (hs.pure hc).2 bl2 K⟩, fun _ => rfl⟩, fun E a hE m hg hv => ?_⟩
 obtain ⟨v', h1, h2⟩ := h E a hE m hv
 exact .value h1 (done_same hE m h2)
theorem OpS.ofOut {o : Oper} {ev : Operand → AV} {bl bl' : Blks} {cat : Cat} {v : AV} {F : Blks → Kont R → Option R} (hF : ∀ bl K, opK C o ev bl K = F bl K) (hs : KS F bl cat v bl')
  (h : ∀ E (a : Act), (E.bl = bl ∨ cat = .pure) → Mem E → (∀ x, VR E true (ev x) (a.eval x)) → ∃ s, execOp a.eval o = (do let x ← s; pure (.value x)) ∧ Out E C.P cat v bl' s) : OpS R C o ev bl cat v bl' := by
 refine ⟨⟨fun K => by rw [hF]; exact hs.det K, fun hc => ⟨(hs.pure hc).1, fun bl2 K => by rw [hF]; exact (hs.pure hc).2 bl2 K⟩, fun hc => hs.read hc⟩, fun E a hE m hg hv => ?_⟩
 obtain ⟨s, h1, h2⟩ := h E a hE m hv
 exact done_out h1 h2
theorem optR_map {E : Env} {ev : Operand → AV} {a : Act} (h : ∀ x, VR E true (ev x) (a.eval x)) (x : Option Operand) : OptR E (x.map ev) (x.map a.eval) := by
 cases x with
 | none => exact .inl ⟨rfl, rfl⟩
 | some x => exact .inr ⟨_, _, rfl, rfl, h x⟩
theorem eq_op_sound {P : Program} {t : TypeId} {b : Bool} {x' y' : Value} (x y : Operand) (op : BinOp) (hg : P.eqGuardType P.depth t = false) (hx : (∃ cs, x' = .agg cs) ∨ ∃ b, x' = .bool b)
  (hy : (∃ cs, y' = .agg cs) ∨ ∃ b, y' = .bool b) (h : ∀ w, (Op.equal t x' y').run P w = .ok b w) (hop : op = .eql ∨ op = .neq) (w : World) :
  (do eqGuard op t x y x' y'; binOp op t x' y').run P w = .ok (.bool (if op = .eql then b else !b)) w := by
 rcases hop with rfl | rfl <;> rcases hx with ⟨cs, rfl⟩ | ⟨b1, rfl⟩ <;> rcases hy with ⟨ds, rfl⟩ | ⟨b2, rfl⟩ <;> simp [eqGuard, binOp, hg, h]
theorem nil_op_sound {P : Program} {t : TypeId} {ms} (x : Operand) (op : BinOp) (hu : P.underlying t = some (.interface ms)) (hop : op = .eql ∨ op = .neq) (w : World) :
  (do eqGuard op t x (.const .nilIface) .nilIface .nilIface; binOp op t .nilIface .nilIface).run P w = .ok (.bool (if op = .eql then true else false)) w := by
 have h : ∀ d : Nat, (Op.equalIn (d + 1) t .nilIface .nilIface).run P w = .ok true w := fun d => by
  simp [Op.equalIn, run_underlying hu]
 have e : (Op.equal t .nilIface .nilIface).run P w = .ok true w := h 9999
 rcases hop with rfl | rfl <;> simp [eqGuard, binOp, e]
theorem nil_op_ok {o : Oper} {ev : Operand → AV} {bl : Blks} {op : BinOp} {t : TypeId} {x : Operand} {b5 : TypeId} {ms} {b : Bool} (ho : o.op = .binOp op t x (.const .nilIface) b5) (hu : C.P.underlying t = some (.interface ms))
  (hop : (op = .eql ∧ b = true) ∨ (op = .neq ∧ b = false)) (hX : ev x = .nili) (hF : ∀ bl (K : Kont R), opK C o ev bl K = K .pure (.bool b) bl) : ∃ cat v bl', OpS R C o ev bl cat v bl' := by
 refine ⟨.pure, .bool b, bl, ⟨.ofPure hF, fun E a hE m hg hv => ?_⟩⟩
 have hx : a.eval x = .nilIface := by
  have := hv x
  rw [hX] at this
  generalize a.eval x = u at this
  cases this; rfl
 have hr := nil_op_sound (P := C.P) x op hu (hop.imp And.left And.left) E.w
 have hb : (if op = BinOp.eql then true else false) = b := by rcases hop with ⟨rfl, rfl⟩ | ⟨rfl, rfl⟩ <;> rfl
 rw [hb] at hr
 refine does_val (s := do eqGuard op t x (.const .nilIface) (a.eval x) (a.eval (.const .nilIface)); binOp op t (a.eval x) (a.eval (.const .nilIface))) (by simp only [execOp, ho]) (by rw [hx]; exact hr) (done_same hE m (.bool _ _))
theorem some_op_sound {P : Program} {t : TypeId} {ms} (x : Operand) (op : BinOp) (u : TypeId) (v : Value) (hu : P.underlying t = some (.interface ms)) (hop : op = .eql ∨ op = .neq) (w : World) :
  (do eqGuard op t x (.const .nilIface) (.iface u v) .nilIface; binOp op t (.iface u v) .nilIface).run P w = .ok (.bool (if op = .eql then false else true)) w := by
 have h : ∀ d : Nat, (Op.equalIn (d + 1) t (.iface u v) .nilIface).run P w = .ok false w := fun d => by
  simp [Op.equalIn, run_underlying hu]
 have e : (Op.equal t (.iface u v) .nilIface).run P w = .ok false w := h 9999
 rcases hop with rfl | rfl <;> simp [eqGuard, binOp, e]
theorem some_op_ok {o : Oper} {ev : Operand → AV} {bl : Blks} {op : BinOp} {t : TypeId} {x : Operand} {b5 : TypeId} {ms} {b : Bool} {u : TypeId} {z : AV} (ho : o.op = .binOp op t x (.const .nilIface) b5) (hu : C.P.underlying t = some (.interface ms))
  (hop : (op = .eql ∧ b = false) ∨ (op = .neq ∧ b = true)) (hX : ev x = .iface u z) (hF : ∀ bl (K : Kont R), opK C o ev bl K = K .pure (.bool b) bl) : ∃ cat v bl', OpS R C o ev bl cat v bl' := by
 refine ⟨.pure, .bool b, bl, ⟨.ofPure hF, fun E a hE m hg hv => ?_⟩⟩
 obtain ⟨q, hx⟩ : ∃ q, a.eval x = .iface u q := by
  have := hv x
  rw [hX] at this
  generalize a.eval x = u at this
  cases this; exact ⟨_, rfl⟩
 have hr := some_op_sound (P := C.P) x op u q hu (hop.imp And.left And.left) E.w
 have hb : (if op = BinOp.eql then false else true) = b := by rcases hop with ⟨rfl, rfl⟩ | ⟨rfl, rfl⟩ <;> rfl
 rw [hb] at hr
 refine does_val (s := do eqGuard op t x (.const .nilIface) (a.eval x) (a.eval (.const .nilIface)); binOp op t (a.eval x) (a.eval (.const .nilIface))) (by simp only [execOp, ho]) (by rw [hx]; exact hr) (done_same hE m (.bool _ _))
theorem errv_op_ok {o : Oper} {ev : Operand → AV} {bl : Blks} {op : BinOp} {t : TypeId} {x : Operand} {b5 : TypeId} {ms} {b : Bool} {tF ts k : Nat} (ho : o.op = .binOp op t x (.const .nilIface) b5) (hu : C.P.underlying t = some (.interface ms))
  (hop : (op = .eql ∧ b = false) ∨ (op = .neq ∧ b = true)) (hX : ev x = .errv tF ts k) (hF : ∀ bl (K : Kont R), opK C o ev bl K = K .pure (.bool b) bl) : ∃ cat v bl', OpS R C o ev bl cat v bl' := by
 refine ⟨.pure, .bool b, bl, ⟨.ofPure hF, fun E a hE m hg hv => ?_⟩⟩
 obtain ⟨u, q, hx⟩ : ∃ u q, a.eval x = .iface u q := by
  have := hv x
  rw [hX] at this
  generalize a.eval x = u at this
  cases this with
  | errv _ _ _ _ _ h => cases h.ch <;> exact ⟨_, _, rfl⟩
 have hr := some_op_sound (P := C.P) x op u q hu (hop.imp And.left And.left) E.w
 have hb : (if op = BinOp.eql then false else true) = b := by rcases hop with ⟨rfl, rfl⟩ | ⟨rfl, rfl⟩ <;> rfl
 rw [hb] at hr
 refine does_val (s := do eqGuard op t x (.const .nilIface) (a.eval x) (a.eval (.const .nilIface)); binOp op t (a.eval x) (a.eval (.const .nilIface))) (by simp only [execOp, ho]) (by rw [hx]; exact hr) (done_same hE m (.bool _ _))
theorem eq_op_ok {o : Oper} {ev : Operand → AV} {bl : Blks} {op : BinOp} {t : TypeId} {x y : Operand} {b5 : TypeId} {r : R} {X Y : AV} (ho : o.op = .binOp op t x y b5) (f : Bool → Bool)
  (hop : (op = .eql ∧ f = fun b => b) ∨ (op = .neq ∧ f = fun b => !b)) (hX : ev x = X) (hY : ev y = Y)
  (hXa : ∀ E v, VR E true X v → (∃ cs, v = .agg cs) ∨ ∃ b, v = .bool b) (hYa : ∀ E v, VR E true Y v → (∃ cs, v = .agg cs) ∨ ∃ b, v = .bool b)
  (hF : ∀ bl (K : Kont R), opK C o ev bl K = eqK C t X Y fun b => K .pure (.bool (f b)) bl) {K : Kont R} (h : opK C o ev bl K = some r) : ∃ cat v bl', OpS R C o ev bl cat v bl' := by
 rw [hF] at h
 obtain ⟨b, h1, hgt, h2⟩ := eqK_sound h
 refine ⟨.pure, .bool (f b), bl, ⟨.ofPure fun bl K => by rw [hF, h1], fun E a hE m hg hv => ?_⟩⟩
 subst hX; subst hY
 have hr := eq_op_sound (P := C.P) x y op hgt (hXa E _ (hv x)) (hYa E _ (hv y)) (h2 E _ _ (hv x) (hv y)) (hop.imp And.left And.left) E.w
 refine does_val (s := do eqGuard op t x y (a.eval x) (a.eval y); binOp op t (a.eval x) (a.eval y)) (by simp only [execOp, ho]) hr (done_same hE m ?_)
 rcases hop with ⟨rfl, rfl⟩ | ⟨rfl, rfl⟩ <;> exact .bool _ _
theorem buildSliceK_eq (t len : Nat) (ps : List (Nat × AV)) (bl : Blks) (K : Kont R) : buildSliceK C t len ps bl K = match buildSliceB C t len ps with | some p => K .write (.own bl.length p.1) (bl ++ [some p.2]) | none => none := by
 unfold buildSliceK buildSliceB
 split
 ·split
  ·split
   ·split
    ·split <;> rfl
    ·rfl
   ·split
    ·split <;> rfl
    ·rfl
   ·rfl
  ·rfl
 ·rfl
def Env.newRo (E : Env) (c : Array Value) (t : TypeId) : Env :=
 {w := E.w.alloc (.cells c t (0, 0)), ro := fun b o => E.ro b o ∨ (b = E.w.heap.size ∧ o < c.size), loc := E.loc, bl := E.bl }
theorem Go.newRo {E : Env} (m : Mem E) (c : Array Value) (t : TypeId) : Go E (E.newRo c t) := by
 have hcell : ∀ b o, b < E.w.heap.size → (E.newRo c t).cell b o = E.cell b o := fun b o hb => World.cell?_alloc_lt _ _ _ hb
 have hcelln : ∀ o, (E.newRo c t).cell E.w.heap.size o = c[o]? := fun o => World.cell?_alloc_mark E.w c t (0, 0) o
 have hfrz : ∀ b o, b < E.w.heap.size → (E.w.alloc (.cells c t (0, 0))).frozen? ⟨b, o, none⟩ = E.w.frozen? ⟨b, o, none⟩ := fun b o hb => World.frozen?_alloc_old _ _ _ (by show b ≠ _; omega)
 have frm : Fr E (E.newRo c t) := ⟨rfl, rfl, rfl, by show _ ≤ (E.w.heap.push _).size; simp, fun b o hb _ => hcell b o hb,
  fun b hb _ => by show (E.w.heap.push _)[b]? = _; rw [Array.getElem?_push, if_neg (by omega)], fun b o hb _ => hfrz b o hb, fun _ _ h => .inl h, fun b o h => by
   rcases h with h | ⟨h, _⟩
   ·exact .inl h
   ·exact .inr (.inr (by omega)), fun _ _ h => .inl h⟩
 have st : Step E (E.newRo c t) := .of_fr m frm (Nat.le_refl _) fun id hid blk' hb => ⟨blk', hb, rfl, fun _ _ h => h, fun _ _ h => h⟩
 refine ⟨st, frm, ⟨fun id bk hb => ?_, m.dis, fun b o h => ?_, fun b o ho h => ?_⟩⟩
 ·have k := m.ok id bk hb
  refine ⟨k.fit, k.len, fun j x hx => ?_, fun hm j hj => ?_, fun l hl => ⟨(k.mp l hl).1, (k.mp l hl).2.mono st (by show (E.w.heap.push _)[_]? = _; have := (k.mp l hl).2.lt; rw [Array.getElem?_push, if_neg (by show ¬ (E.loc id).1 = _; omega)])⟩⟩
  ·obtain ⟨v, hv, hr⟩ := k.cells j x hx
   exact ⟨v, by rw [show (E.newRo c t).loc = E.loc from rfl, hcell _ _ (cell_lt (by show (E.cell _ _).isSome = true; rw [hv]; rfl))]; exact hv, hr.mono st⟩
  ·obtain ⟨g1, g2⟩ := k.room hm j hj
   have hlt := cell_lt g1
   exact ⟨by rw [show (E.newRo c t).loc = E.loc from rfl, hcell _ _ hlt]; exact g1, by rw [show (E.newRo c t).w = E.w.alloc (.cells c t (0, 0)) from rfl, show (E.newRo c t).loc = E.loc from rfl, hfrz _ _ hlt]; exact g2⟩
 ·show b < (E.w.heap.push _).size
  rcases h with h | ⟨rfl, h⟩
  ·have g := m.roe b o h; simp; omega
  ·simp
 ·rcases h with h | ⟨rfl, h⟩
  ·exact m.rod b o ho h
  ·have := m.own_lt (show Own E _ o from ho); omega
theorem buildSliceB_new {t n : Nat} {ps : List (Nat × AV)} {bl : Blks} {u e w : Nat} {l : List AV} (hb : buildSliceB C t n ps = some (u, .objs e w l)) :
  ∀ E, Mem E → ∀ vs : Array (Nat × Value), PartsR E ps vs.toList → Out E C.P .pure (.robjs e w l) bl (Instr.buildSlice t n vs) := by
 intro E m vs hp
 unfold buildSliceB at hb
 split at hb <;> (try (cases hb; done))
 rename_i e0 hu
 split at hb <;> (try (cases hb; done))
 rename_i hc
 have hc' := hc
 simp only [Bool.and_eq_true, decide_eq_true_eq] at hc'
 split at hb <;> (try (cases hb; done))
 ·split at hb <;> (try (cases hb; done))
  split at hb <;> (try (cases hb; done))
 ·rename_i z hnz hz
  split at hb <;> (try (cases hb; done))
  rename_i hs
  split at hb <;> (try (cases hb; done))
  rename_i l0 hl
  cases hb
  simp only [Bool.and_eq_true, decide_eq_true_eq] at hs
  obtain ⟨⟨⟨hs1, hs2⟩, hs3⟩, hs4⟩ := hs
  obtain ⟨i, v, hi, hv, hrun, hvr, hfz, hx1, hx2⟩ := zeroOf_sound hz
  obtain ⟨d, hue, hw, _⟩ := conf_gives hs3
  obtain ⟨_, hcz, hcr⟩ := (hvr E true).cells ⟨hx1, hx2⟩
  have hfl := hfz.length
  obtain ⟨f1, f2, f3⟩ := fillObjs_agg hl
  simp at f2
  have hrep : ∀ x ∈ List.replicate n z, x = z := fun x hx => List.eq_of_mem_replicate hx
  have hmade : CellsOf E (flats (List.replicate n z)) (madeCells v.cells (n * sizeQ C.P e)) := by
   refine ⟨by rw [size_madeCells, flats_replicate_length, hfl, hw], fun j x c hx hc => ?_⟩
   have hj := (List.getElem?_eq_some_iff.1 hx).1
   rw [flats_replicate_length, hfl, ← hw] at hj
   rw [madeCells_get _ _ _ hj (by omega), hcz] at hc
   exact hcr _ x c (flats_replicate n z j x hx (by omega)) hc
  obtain ⟨cs', h1, h2⟩ := fill_agg (E := E) (fun i => some (i * sizeQ C.P e, sizeQ C.P e)) hp f1 hc'.2 (fun x hx => by rw [hrep x hx]; exact hfz) hmade fun i y hy => by
   have hil := (List.getElem?_eq_some_iff.1 hy).1
   rw [widths_take_eq (w := sizeQ C.P e) (fun y hy => by rw [hrep y hy]; exact hw.symm) _ (Nat.le_of_lt hil), hrep y (List.mem_of_getElem? hy), hw]
  obtain ⟨cs'', e1, hfit, hcs, hcv⟩ := h2.agg_inv
  cases e1
  have hall := f3 (sizeQ C.P e) fun x hx => by rw [hrep x hx]; exact ⟨hw.symm, hs1, hs2⟩
  have hfb : ∀ x ∈ l, (Fit x ∧ width x = sizeQ C.P e) ∧ noOwn x = true ∧ solid x = true := fun x hx => ⟨⟨hfit.kid hx, (hall x hx).1⟩, (hall x hx).2⟩
  have run := run_buildSlice_of (n := n) (w := sizeQ C.P e) (vs := vs) (cs := cs') hu (run_sizeOf hue) hc'.1 hrun h1 E.w
  have hlf := objs_flat_length hfb
  have go := Go.newRo m cs' e
  refine ⟨_, E.newRo cs' e, run, by simp [Env.newRo], go, (robjs_of (b := E.w.heap.size) (o := 0) (by rw [f2]) (Nat.le_refl _) hfb (fun _ => rfl) fun j x hx => ?_).lift⟩
  have hj : j < cs'.size := by
   have := (List.getElem?_eq_some_iff.1 hx).1
   rw [hcs]; exact this
  obtain ⟨y, k1, k2⟩ := objs_flat_get hfb hx
  have hno := flat_noOwn (hfb y (List.mem_of_getElem? k1)).2.1 _ (List.mem_of_getElem? k2)
  have hget : cs'[j]? = some cs'[j] := Array.getElem?_eq_getElem hj
  refine ⟨.inr ⟨rfl, by omega⟩, cs'[j], ?_, VR.mono go.step ((hcv j x _ hx hget).low hno)⟩
  rw [Nat.zero_add]
  show (E.newRo cs' e).w.cell? _ = _
  rw [← hget]
  exact World.cell?_alloc_mark E.w cs' e (0, 0) j
theorem boxRo_sound {E : Env} {t : TypeId} {x : AV} {v : Value} {bl : Blks} (h : isRo C t x = true) (m : Mem E) (hv : VR E true x v) : Out E C.P .pure (.rptr x) bl (Instr.box t v) := by
 simp only [isRo, Bool.and_eq_true] at h
 obtain ⟨⟨_, hn⟩, hs⟩ := h
 have hx : x ≠ .any ∧ ∀ vs, x ≠ .tup vs := ⟨fun e => (by subst e; cases hs), fun vs e => (by subst e; cases hs)⟩
 obtain ⟨hf, hsz, hc⟩ := hv.cells hx
 have go := Go.newRo m v.cells t
 refine ⟨.pointer (some ⟨E.w.heap.size, 0, none⟩), E.newRo v.cells t, by simp [Instr.box, run_newVar, Env.newRo], by simp [Env.newRo], go, .rptr _ x _ hf rfl (fun j => (v.cells[j]?).getD undef) (fun j y hy => ?_) fun j y hy => ?_⟩
 ·have hj : j < v.cells.size := by
   rw [hsz]; exact (List.getElem?_eq_some_iff.1 hy).1
  refine ⟨.inr ⟨rfl, by simpa using hj⟩, ?_⟩
  show (E.newRo v.cells t).w.cell? _ = _
  rw [Nat.zero_add, Array.getElem?_eq_getElem hj]
  exact (World.cell?_alloc_mark E.w v.cells t (0, 0) j).trans (Array.getElem?_eq_getElem hj)
 ·have hj : j < v.cells.size := by
   rw [hsz]; exact (List.getElem?_eq_some_iff.1 hy).1
  rw [Array.getElem?_eq_getElem hj]
  exact VR.mono go.step ((hc j y _ hy (Array.getElem?_eq_getElem hj)).low (flat_noOwn hn _ (List.mem_of_getElem? hy)))
theorem born_frozen {E E' : Env} {e w : Nat} {l : List AV} {bl : Blks} {v' : Value} (hbl : E'.bl = bl ++ [some (.objs e w l)]) (go : Go E E') (hv : VR E' true (.own bl.length w) v') :
  ∃ E3 : Env, E3.w = E'.w ∧ E3.bl = bl ++ [none] ∧ Go E E3 ∧ VR E3 true (.robjs e w l) v' := by
 have m' := go.mem
 have hview : view E'.bl (.own bl.length w) = some (.robjs e w l) := by
  unfold view
  rw [hbl, bget_new]
 refine ⟨E'.frz [bl.length], rfl, ?_, go.trans (frz_go m' [bl.length]), (view_sound (frz_looks E' [bl.length]) m' hv hview (fun i hi => by simpa [ids] using hi)).lift⟩
 show killAll [bl.length] E'.bl = _
 rw [hbl]
 simp [killAll]
theorem buildSliceB_sound {t n : Nat} {ps : List (Nat × AV)} {bl : Blks} {u e w : Nat} {l : List AV} (hb : buildSliceB C t n ps = some (u, .objs e w l)) (r : R) :
  ∀ E, E.bl = bl → Mem E → ∀ vs : Array (Nat × Value), PartsR E ps vs.toList → Out E C.P .write (.robjs e w l) (bl ++ [none]) (Instr.buildSlice t n vs) := by
 have huw : u = w := by
  unfold buildSliceB at hb
  repeat' (split at hb <;> (try (cases hb; done)))
  all_goals (cases hb; rfl)
 subst huw
 have hk : buildSliceK C t n ps bl (fun _ _ _ => some r) = some r := by rw [buildSliceK_eq, hb]
 obtain ⟨v, bl', h1, h2⟩ := buildSliceK_sound hk
 have hd : v = .own bl.length u ∧ bl' = bl ++ [some (.objs e u l)] := by
  have f : ∀ K : Kont R, K .write v bl' = K .write (.own bl.length u) (bl ++ [some (.objs e u l)]) := fun K => (h1.det K).symm.trans (by rw [buildSliceK_eq, hb])
  classical
  have := f fun _ y z => if y = v ∧ z = bl' then some r else none
  rw [if_pos ⟨rfl, rfl⟩] at this
  by_cases h : AV.own bl.length u = v ∧ bl ++ [some (Blk.objs e u l)] = bl'
  ·exact ⟨h.1.symm, h.2.symm⟩
  ·rw [if_neg h] at this; cases this
 obtain ⟨rfl, rfl⟩ := hd
 intro E hE m vs hp
 obtain ⟨v', E', e1, e2, e3, e4⟩ := h2 E hE m vs hp
 have e2' : E'.bl = bl ++ [some (.objs e u l)] := by rw [e2]; rfl
 obtain ⟨E3, f1, f2, f3, f4⟩ := born_frozen e2' e3 e4
 exact ⟨v', E3, by rw [f1]; exact e1, f2, f3, f4⟩
theorem buildSliceB_ints {t n : Nat} {ps : List (Nat × AV)} {bl : Blks} {u : Nat} {k : IntKind} {l : List Int} (hb : buildSliceB C t n ps = some (u, .ints k l)) (r : R) :
  ∀ E, E.bl = bl → Mem E → ∀ vs : Array (Nat × Value), PartsR E ps vs.toList → Out E C.P .write (.rints k l) (bl ++ [none]) (Instr.buildSlice t n vs) := by
 have hk : buildSliceK C t n ps bl (fun _ _ _ => some r) = some r := by rw [buildSliceK_eq, hb]
 obtain ⟨v, bl', h1, h2⟩ := buildSliceK_sound hk
 have hd : v = .own bl.length u ∧ bl' = bl ++ [some (.ints k l)] := by
  have f : ∀ K : Kont R, K .write v bl' = K .write (.own bl.length u) (bl ++ [some (.ints k l)]) := fun K => (h1.det K).symm.trans (by rw [buildSliceK_eq, hb])
  classical
  have := f fun _ y z => if y = v ∧ z = bl' then some r else none
  rw [if_pos ⟨rfl, rfl⟩] at this
  by_cases h : AV.own bl.length u = v ∧ bl ++ [some (Blk.ints k l)] = bl'
  ·exact ⟨h.1.symm, h.2.symm⟩
  ·rw [if_neg h] at this; cases this
 obtain ⟨rfl, rfl⟩ := hd
 intro E hE m vs hp
 obtain ⟨v', E', e1, e2, e3, e4⟩ := h2 E hE m vs hp
 have e2' : E'.bl = bl ++ [some (.ints k l)] := by rw [e2]; rfl
 have m' := e3.mem
 have hview : view E'.bl (.own bl.length u) = some (.rints k l) := by
  unfold view
  rw [e2', bget_new]
 refine ⟨v', E'.frz [bl.length], e1, ?_, e3.trans (frz_go m' [bl.length]), (view_sound (frz_looks E' [bl.length]) m' e4 hview (fun i hi => by simpa [ids] using hi)).lift⟩
 show killAll [bl.length] E'.bl = _
 rw [e2']
 simp [killAll]
theorem buildSliceF_sound {t n : Nat} {ps : List (Nat × AV)} {bl : Blks} {K : Kont R} {r : R} (h : buildSliceF C t n ps bl K = some r) :
  ∃ cat v bl', KS (R := R) (buildSliceF C t n ps) bl cat v bl' ∧ ∀ E, (E.bl = bl ∨ cat = .pure) → Mem E → ∀ vs : Array (Nat × Value), PartsR E ps vs.toList → Out E C.P cat v bl' (Instr.buildSlice t n vs) := by
 unfold buildSliceF at h
 split at h
 ·rename_i hi
  split at h
  ·rename_i u e w l hb
   exact ⟨.pure, .robjs e w l, bl, .ofPure fun bl K => by simp only [buildSliceF, hi, hb], fun E _ m vs hp => buildSliceB_new hb E m vs hp⟩
  ·rename_i u k l hb
   split at h
   ·rename_i hro
    refine ⟨.write, .rints k l, bl ++ [none], .ofWrite fun K => by simp only [buildSliceF, hi, hb, if_pos hro], fun E hE m vs hp => ?_⟩
    rcases hE with hE | hE
    ·exact buildSliceB_ints hb r E hE m vs hp
    ·cases hE
   ·rename_i hro
    obtain ⟨v, bl', h1, h2⟩ := buildSliceK_sound h
    refine ⟨.write, v, bl', .ofWrite fun K => by simp only [buildSliceF, hi, hb, if_neg hro]; exact h1.det K, fun E hE m vs hp => ?_⟩
    rcases hE with hE | hE
    ·exact h2 E hE m vs hp
    ·cases hE
  ·rename_i hno hno2
   obtain ⟨v, bl', h1, h2⟩ := buildSliceK_sound h
   refine ⟨.write, v, bl', .ofWrite fun K => ?_, fun E hE m vs hp => ?_⟩
   ·simp only [buildSliceF, hi]
    first
     | exact h1.det K
     | (split; next u e w l hb => exact absurd hb (hno _ _ _ _); next u k l hb => exact absurd hb (hno2 _ _ _); next => exact h1.det K)
   ·rcases hE with hE | hE
    ·exact h2 E hE m vs hp
    ·cases hE
 ·rename_i i q hi
  split at h <;> (try (cases h; done))
  rename_i ps' hv
  split at h <;> (try (cases h; done))
  rename_i u e w l hb
  refine ⟨.write, .robjs e w l, killAll (i :: q) bl ++ [none], .ofWrite fun K => by simp only [buildSliceF, hi, hv, hb], fun E hE m vs hp => ?_⟩
  rcases hE with hE | hE
  ·subst hE
   have g := frz_go m (i :: q)
   obtain ⟨v', E', e1, e2, e3, e4⟩ := buildSliceB_sound hb r (E.frz (i :: q)) rfl g.mem vs (viewPs_sound m hp hv fun j hj => by rw [hi] at hj; exact hj)
   exact ⟨v', E', e1, e2, g.trans e3, e4⟩
  ·cases hE
theorem wrapK_sound {t : TypeId} {x : AV} {bl : Blks} {K : Kont R} {r : R} (h : wrapK C t x bl K = some r) :
  ∃ cat v bl', KS (R := R) (wrapK C t x) bl cat v bl' ∧ ∀ E, (E.bl = bl ∨ cat = .pure) → Mem E → ∀ v0, VR E true x v0 → ∃ E', (E'.bl = if cat = .pure then E.bl else bl') ∧ E'.w = E.w ∧ Go E E' ∧ VR E' true v (.iface t v0) := by
 unfold wrapK at h
 split at h
 ·rename_i hr
  refine ⟨.pure, .iface t x, bl, .ofPure fun bl K => by simp only [wrapK, hr], fun E _ m v0 hv => ⟨E, by simp, rfl, .refl m, .iface _ _ _ _ hv⟩⟩
 ·rename_i hr
  split at h <;> (try (cases h; done))
  rename_i id
  split at h <;> (try (cases h; done))
  rename_i kk nn tF ts k hb
  split at h <;> (try (cases h; done))
  rename_i ht
  subst ht
  refine ⟨.write, .errv tF ts (k % 100 + 100), killAll [id] bl, .ofWrite fun K => by simp only [wrapK, hr, hb, if_true], fun E hE m v0 hv => ?_⟩
  rcases hE with hE | hE
  ·subst hE
   have g := frz_go m [id]
   have bk := m.ok id _ hb
   obtain ⟨v1, c1, hv1⟩ := bk.cells 1 (.errv tF ts k) rfl
   have hv2 := hv1.mono g.step
   have hlen : 2 ≤ (E.loc id).2.2 := by have := bk.len; simpa [flatB, flat, flats] using this
   refine ⟨E.frz [id], by rw [if_neg (by simp)]; rfl, rfl, g, .errv _ _ _ _ _ ⟨?_, fun h => absurd h (by omega)⟩⟩
   rw [show (k % 100 + 100) % 100 = k % 100 by omega]
   cases hv with
   | ptr _ _ a hid hp =>
    obtain ⟨p1, q, p2, p3, p4⟩ := hp _ hb
    have : q = 0 := by simp [offB, offPath] at p2; exact p2.symm
    subst this
    cases hv2 with
    | errv _ _ _ _ _ hc0 =>
     have hc := hc0.ch
     refine .wrap a v1 p1 (.inr ⟨id, _, by simp, hb, ?_⟩) (.inr ⟨id, _, by simp, hb, ?_⟩) ?_ hc
     ·exact ⟨p3.symm, by omega, by omega⟩
     ·exact ⟨p3.symm, by omega, by omega⟩
     ·show E.cell a.block (a.off + 1) = some v1
      rw [p3, p4]
      exact c1
  ·cases hE
theorem views_at {bl : Blks} : ∀ {l m : List AV}, views bl l = some m → m.length = l.length ∧ ∀ (j : Nat) y, m[j]? = some y → ∃ x, l[j]? = some x ∧ view bl x = some y
 | [], m, h => by
  unfold views at h
  cases h
  exact ⟨rfl, fun j y h => by simp at h⟩
 | x :: l, m, h => by
  unfold views at h
  split at h <;> (try (cases h; done))
  rename_i y m' hy hm
  cases h
  obtain ⟨h1, h2⟩ := views_at hm
  refine ⟨by simp [h1], fun j z hz => ?_⟩
  cases j with
  | zero => simp at hz; subst hz; exact ⟨x, rfl, hy⟩
  | succ j => exact h2 j z (by simpa using hz)
theorem ids_idss {x : AV} : ∀ {l : List AV} {j : Nat}, l[j]? = some x → ∀ i ∈ ids x, i ∈ idss l
 | [], j, h, i, hi => by simp at h
 | y :: l, 0, h, i, hi => by
  simp at h; subst h
  unfold idss
  exact List.mem_append_left _ hi
 | y :: l, j + 1, h, i, hi => by
  unfold idss
  exact List.mem_append_right _ (ids_idss (by simpa using h) i hi)
theorem callF_sound {f : FuncId} {args : List AV} {bl : Blks} {K : Kont R} {r : R} (hΓ : ∀ f m, C.Γ f = some m → CalleeS C.P C.G f m) (h : callF C f args bl K = some r) :
  ∃ cat v bl', KS (R := R) (callF C f args) bl cat v bl' ∧ ∀ E, (E.bl = bl ∨ cat = .pure) → Mem E → Glob C.G E → ∀ vs, Args E args vs →
   CallDoes C.P f vs E.w fun v' w' => ∃ E', E'.w = w' ∧ (E'.bl = if cat = .pure then E.bl else bl') ∧ Go E E' ∧ VR E' true v v' := by
 unfold callF at h
 cases h1 : C.ro (1000000 + f) with
 | true =>
  simp only [h1] at h
  split at h <;> (try (cases h; done))
  rename_i xs hx
  obtain ⟨cat, v, bl', k1, k2⟩ := callK_sound hΓ h
  refine ⟨.write, v, bl', .ofWrite fun K => by simp only [callF, h1, hx]; exact k1.det _, fun E hE m g vs ha => ?_⟩
  rcases hE with rfl | hE
  ·have go := frz_go m (idss args)
   obtain ⟨v1, v2⟩ := views_at hx
   have ha' : Args (E.frz (idss args)) xs vs := ⟨by rw [ha.size, v1], fun j y c hy hc => by
    obtain ⟨x, hx1, hx2⟩ := v2 j y hy
    exact (view_sound (frz_looks E (idss args)) m (ha.vr j x c hx1 hc) hx2 (ids_idss hx1)).lift⟩
   refine (k2 (E.frz (idss args)) (.inl rfl) go.mem (g.mono go.step.ro go.step.mp go.fr.keeps) vs ha').mono fun v' w' ⟨E', e1, e2, e3, e4⟩ => ⟨E', e1, ?_, go.trans e3, e4⟩
   rw [e2]
   split
   ·rename_i hc
    rw [if_neg (by simp), (k1.pure hc).1]
    rfl
   ·rw [if_neg (by simp)]
  ·cases hE
 | false =>
  simp only [h1] at h
  cases h2 : C.ro (2000000 + f) with
  | true =>
   simp only [h2] at h
   obtain ⟨cat, v, bl', k1, k2⟩ := callK_sound hΓ h
   rw [k1.det] at h
   split at h <;> (try (cases h; done))
   rename_i y hy
   split at h <;> (try (cases h; done))
   rename_i hid
   refine ⟨.write, y, killAll (ids v) bl', .ofWrite fun K => by simp only [callF, h1, h2]; rw [k1.det]; simp only [hy]; rw [if_pos hid], fun E hE m g vs ha => ?_⟩
   rcases hE with rfl | hE
   ·refine (k2 E (.inl rfl) m g vs ha).mono fun v' w' ⟨E', e1, e2, e3, e4⟩ => ?_
    have e2' : E'.bl = bl' := by
     rw [e2]
     split
     ·rename_i hc; exact (k1.pure hc).1.symm
     ·rfl
    have go := frz_go e3.mem (ids v)
    refine ⟨E'.frz (ids v), e1, ?_, e3.trans go, (view_sound (frz_looks E' (ids v)) e3.mem e4 (by rw [e2']; exact hy) fun i hi => hi).lift⟩
    rw [if_neg (by simp), ← e2']
    rfl
   ·cases hE
  | false =>
   simp only [h2] at h
   obtain ⟨cat, v, bl', k1, k2⟩ := callK_sound hΓ h
   refine ⟨cat, v, bl', ⟨fun K => by simp only [callF, h1, h2]; exact k1.det K, fun hc => ⟨(k1.pure hc).1, fun bl2 K => by simp only [callF, h1, h2]; exact (k1.pure hc).2 bl2 K⟩, k1.read⟩, k2⟩
theorem opK_sound (hΓ : ∀ f m, C.Γ f = some m → CalleeS C.P C.G f m) {o : Oper} {ev : Operand → AV} {bl : Blks} {K : Kont R} {r : R} (h : opK C o ev bl K = some r) :
  ∃ cat v bl', OpS R C o ev bl cat v bl' := by
 obtain ⟨dst, op, ty, ps, af, gd⟩ := o
 cases op with
 | move x => exact ⟨.pure, ev x, bl, .ofVal (F := fun K => K (ev x)) (fun _ _ => rfl) (fun _ => rfl) fun E a m hg hv => ⟨_, rfl, hv x⟩⟩
 | assign x => exact ⟨.pure, ev x, bl, .ofVal (F := fun K => K (ev x)) (fun _ _ => rfl) (fun _ => rfl) fun E a m hg hv => ⟨_, rfl, hv x⟩⟩
 | pick c a b =>
  simp only [opK] at h
  split at h
  ·rename_i t ht
   cases t with
   | true => exact ⟨.pure, ev a, bl, .ofVal (F := fun K => K (ev a)) (fun bl K => by simp [opK, ht]) (fun _ => rfl) fun E ac m hg hv => ⟨ac.eval a, by have := hv c; rw [ht] at this; simp [execOp, this.bool_inv, asBool], hv a⟩⟩
   | false => exact ⟨.pure, ev b, bl, .ofVal (F := fun K => K (ev b)) (fun bl K => by simp [opK, ht]) (fun _ => rfl) fun E ac m hg hv => ⟨ac.eval b, by have := hv c; rw [ht] at this; simp [execOp, this.bool_inv, asBool], hv b⟩⟩
  ·cases h
 | alloc t =>
  simp only [opK] at h
  split at h
  ·rename_i z hz
   obtain ⟨i, v, h1, h2, h3, h4, h5, h6, h7⟩ := zeroOf_sound hz
   refine ⟨.write, .ptr bl.length [], bl ++ [some (.var z)], .ofOut (F := opK C _ ev) (fun _ _ => rfl) (.ofWrite fun K => by simp only [opK, hz]) fun E a hE m hv => ⟨Instr.alloc t true (.tuple #[]), rfl, ?_⟩⟩
   rcases hE with rfl | hE
   ·obtain ⟨E', g1, g2, g3, g4⟩ := newVar_sound t m (h4 E true) ⟨h6, h7⟩
    exact ⟨_, E', by simp [Instr.alloc, h3, run_newVar, g1], by simp [g2], g3, g4⟩
   ·cases hE
  ·cases h
 | box t x =>
  cases hro : isRo C t (ev x) with
  | true =>
   exact ⟨.pure, .rptr (ev x), bl, .ofOut (F := opK C _ ev) (fun _ _ => rfl) (.ofPure fun bl K => by simp only [opK, hro]) fun E a hE m hv => ⟨Instr.box t (a.eval x), rfl, boxRo_sound hro m (hv x)⟩⟩
  | false =>
  simp only [opK, hro] at h
  have key : (ev x ≠ .any ∧ ∀ vs, ev x ≠ .tup vs) → ∃ cat v bl', OpS R C ⟨dst, .box t x, ty, ps, af, gd⟩ ev bl cat v bl' := fun hx => by
   refine ⟨.write, .ptr bl.length [], bl ++ [some (.var (ev x))], .ofOut (F := opK C _ ev) (fun _ _ => rfl) (.ofWrite fun K => ?_) fun E a hE m hv => ⟨Instr.box t (a.eval x), rfl, ?_⟩⟩
   ·simp only [opK, hro]
    split
    ·rename_i e; exact absurd e hx.1
    ·rename_i vs e; exact absurd e (hx.2 vs)
    ·rfl
   ·rcases hE with rfl | hE
    ·obtain ⟨E', g1, g2, g3, g4⟩ := newVar_sound t m (hv x) hx
     exact ⟨_, E', by simp [Instr.box, run_newVar, g1], by simp [g2], g3, g4⟩
    ·cases hE
  split at h
  ·cases h
  ·cases h
  ·rename_i h1 h2
   exact key ⟨h1, h2⟩
 | build t parts =>
  simp only [opK] at h
  obtain ⟨v, h1, h2⟩ := buildK_sound h
  refine ⟨.pure, v, bl, .ofVal (F := buildK C t _) (fun _ _ => rfl) h1 fun E a m hg hv => ?_⟩
  obtain ⟨v', h3⟩ := h2 E (parts.map fun p => (p.1, a.eval p.2)) (by simpa using partsR_of hv parts.toList)
  exact ⟨v', by simp [execOp, (h3 E.w).1], (h3 E.w).2⟩
 | buildSlice t n parts =>
  simp only [opK] at h
  obtain ⟨cat, v, bl', h1, h2⟩ := buildSliceF_sound h
  exact ⟨cat, v, bl', .ofOut (F := buildSliceF C t n _) (fun _ _ => rfl) h1 fun E a hE m hv => ⟨_, rfl, h2 E hE m _ (by simpa using partsR_of hv parts.toList)⟩⟩
 | load t x =>
  simp only [opK] at h
  obtain ⟨cat, v, h1, h2, h3⟩ := loadK_sound h
  refine ⟨cat, v, bl, .ofMem (F := loadK C t (ev x)) (fun _ _ => rfl) h1 fun E a hE m hv => ?_⟩
  obtain ⟨v', h4, h5⟩ := h3 E hE m _ (hv x)
  exact ⟨v', by simp [execOp, h4], h5⟩
 | store t p x =>
  simp only [opK] at h
  obtain ⟨bl', h1, h2⟩ := storeK_sound h
  refine ⟨.write, .any, bl', ⟨h1, fun E a hE m hg hv => ?_⟩⟩
  rcases hE with hE | hE
  ·obtain ⟨E', g1, g2, g3⟩ := h2 E hE m _ _ (hv p) (hv x)
   exact .skip (w' := E'.w) (by simp [execOp, g1]) ⟨E', rfl, by simp [g2], g3, .any _ _⟩
  ·cases hE
 | nilCheck x =>
  simp only [opK] at h
  split at h
  ·rename_i id p hx
   refine ⟨.pure, .ptr id p, bl, .ofVal (F := fun K => K (.ptr id p)) (fun bl K => by simp only [opK, hx]) (fun _ => rfl) fun E a m hg hv => ?_⟩
   have hh := hv x
   rw [hx] at hh
   cases hu : a.eval x <;> rw [hu] at hh <;> (try (cases hh; done))
   rename_i ad
   cases ad with
   | none => cases hh
   | some ad => exact ⟨_, by simp only [execOp, hu]; rfl, hh⟩
  ·rename_i y hx
   refine ⟨.pure, .rptr y, bl, .ofVal (F := fun K => K (.rptr y)) (fun bl K => by simp only [opK, hx]) (fun _ => rfl) fun E a m hg hv => ?_⟩
   have hh := hv x
   rw [hx] at hh
   cases hu : a.eval x <;> rw [hu] at hh <;> (try (cases hh; done))
   rename_i ad
   cases ad with
   | none => cases hh
   | some ad => exact ⟨_, by simp only [execOp, hu]; rfl, hh⟩
  ·rename_i f l l' hx
   refine ⟨.pure, .fn (.func f) l l', bl, .ofVal (F := fun K => K (.fn (.func f) l l')) (fun bl K => by simp only [opK, hx]) (fun _ => rfl) fun E a m hg hv => ?_⟩
   have hh := hv x
   rw [hx] at hh
   cases hu : a.eval x <;> rw [hu] at hh <;> (try (cases hh; done))
   rename_i f' as bs
   have : f' = .func f := by cases hh; rfl
   subst this
   exact ⟨_, by simp only [execOp, hu]; rfl, hh⟩
  ·cases h
 | binOp op t x y b5 =>
  have aggI : ∀ {k n l} (E : Env) v, VR E true (.ints k n l) v → (∃ cs, v = .agg cs) ∨ ∃ b, v = .bool b := fun E v h => by cases h; exact .inl ⟨_, rfl⟩
  have aggA : ∀ {l} (E : Env) v, VR E true (.agg l) v → (∃ cs, v = .agg cs) ∨ ∃ b, v = .bool b := fun E v h => by cases h; exact .inl ⟨_, rfl⟩
  have aggB : ∀ {b} (E : Env) v, VR E true (.bool b) v → (∃ cs, v = .agg cs) ∨ ∃ b, v = .bool b := fun E v h => by cases h; exact .inr ⟨_, rfl⟩
  have h0 := h
  simp only [opK] at h
  split at h
  ·rename_i hx hy
   exact eq_op_ok rfl (fun b => b) (.inl ⟨rfl, rfl⟩) hx hy aggI aggI (fun bl K => by simp only [opK, hx, hy]) h0
  ·rename_i hx hy
   exact eq_op_ok rfl (fun b => !b) (.inr ⟨rfl, rfl⟩) hx hy aggI aggI (fun bl K => by simp only [opK, hx, hy]) h0
  ·rename_i hx hy
   exact eq_op_ok rfl (fun b => b) (.inl ⟨rfl, rfl⟩) hx hy aggA aggA (fun bl K => by simp only [opK, hx, hy]) h0
  ·rename_i hx hy
   exact eq_op_ok rfl (fun b => !b) (.inr ⟨rfl, rfl⟩) hx hy aggA aggA (fun bl K => by simp only [opK, hx, hy]) h0
  ·rename_i hx hy
   exact eq_op_ok rfl (fun b => b) (.inl ⟨rfl, rfl⟩) hx hy aggB aggB (fun bl K => by simp only [opK, hx, hy]) h0
  ·rename_i hx hy
   exact eq_op_ok rfl (fun b => !b) (.inr ⟨rfl, rfl⟩) hx hy aggB aggB (fun bl K => by simp only [opK, hx, hy]) h0
  ·rename_i hx hy
   split at h <;> (try (cases h; done))
   rename_i ms hu
   exact nil_op_ok rfl hu (.inl ⟨rfl, rfl⟩) hx fun bl K => by simp only [opK, hx, hy, hu]
  ·rename_i hx hy
   split at h <;> (try (cases h; done))
   rename_i ms hu
   exact nil_op_ok rfl hu (.inr ⟨rfl, rfl⟩) hx fun bl K => by simp only [opK, hx, hy, hu]
  ·rename_i hx hy
   split at h <;> (try (cases h; done))
   rename_i ms hu
   exact some_op_ok rfl hu (.inl ⟨rfl, rfl⟩) hx fun bl K => by simp only [opK, hx, hy, hu]
  ·rename_i hx hy
   split at h <;> (try (cases h; done))
   rename_i ms hu
   exact some_op_ok rfl hu (.inr ⟨rfl, rfl⟩) hx fun bl K => by simp only [opK, hx, hy, hu]
  ·rename_i hx hy
   split at h <;> (try (cases h; done))
   rename_i ms hu
   exact errv_op_ok rfl hu (.inl ⟨rfl, rfl⟩) hx fun bl K => by simp only [opK, hx, hy, hu]
  ·rename_i hx hy
   split at h <;> (try (cases h; done))
   rename_i ms hu
   exact errv_op_ok rfl hu (.inr ⟨rfl, rfl⟩) hx fun bl K => by simp only [opK, hx, hy, hu]
  ·obtain ⟨v, v', h1, h2, h3⟩ := binK_sound h
   refine ⟨.pure, v, bl, .ofVal (F := binK _ (ev x) (ev y)) (fun bl K => ?_) h1 fun E a m hg hv => ⟨v', ?_, h2.vr E true⟩⟩
   ·simp only [opK]
   ·have := h3 C.P E _ _ (hv x) (hv y) E.w t x y
    simp only [execOp]
    simp only [Sem.run_bind] at this ⊢
    rw [this]
    rfl
 | unOp op t x =>
  simp only [opK] at h
  obtain ⟨v, v', h1, h2, h3⟩ := unK_sound h
  refine ⟨.pure, v, bl, .ofVal (F := unK op (ev x)) (fun _ _ => rfl) h1 fun E a m hg hv => ⟨v', by simp [execOp, h3 C.P E _ (hv x) E.w], h2.vr E true⟩⟩
 | convert s d x =>
  simp only [opK] at h
  obtain ⟨cat, v, bl', h1, h2⟩ := convK_sound h
  exact ⟨cat, v, bl', .ofOut (F := convK C s d (ev x)) (fun _ _ => rfl) h1 fun E a hE m hv => ⟨_, rfl, h2 E hE m _ (hv x)⟩⟩
 | sliceToArrayPointer t x =>
  simp only [opK] at h
  obtain ⟨cat, v, h1, h2, h3⟩ := arrayPtrK_sound h
  refine ⟨cat, v, bl, .ofMem (F := arrayPtrK C t (ev x)) (fun _ _ => rfl) h1 fun E a hE m hv => ?_⟩
  obtain ⟨v', h4, h5⟩ := h3 E hE m _ (hv x)
  exact ⟨v', by simp [execOp, h4], h5⟩
 | makeInterface t x =>
  simp only [opK] at h
  split at h
  ·cases h
  ·rename_i d hnd hd
   obtain ⟨cat, v, bl', h1, h2⟩ := wrapK_sound h
   refine ⟨cat, v, bl', .ofOut (F := wrapK C t (ev x)) (fun bl K => ?_) h1 fun E a hE m hv => ⟨Instr.makeInterface t (a.eval x), by simp only [execOp], ?_⟩⟩
   ·simp only [opK]
    split
    ·rename_i hi; rw [hd] at hi; cases hi; exact absurd rfl (hnd _)
    ·rfl
    ·rename_i hi; rw [hd] at hi; cases hi
   ·obtain ⟨E', e1, e2, e3, e4⟩ := h2 E hE m _ (hv x)
    refine ⟨.iface t (a.eval x), E', ?_, e1, e3, e4⟩
    rw [e2]
    simp only [Instr.makeInterface]
    cases d <;> first
     | exact absurd rfl (hnd _)
     | simp [run_underlying hd]
  ·cases h
 | makeFunc f xs ys =>
  simp only [opK] at h
  refine ⟨.pure, _, bl, .ofVal (F := fun K => K (.fn f (xs.toList.map ev) (ys.toList.map ev))) (fun _ _ => rfl) (fun _ => rfl) fun E a m hg hv => ⟨.func f (xs.map a.eval) (ys.map a.eval), rfl, ?_⟩⟩
  have g1 := args_map hv xs
  have g2 := args_map hv ys
  exact .fn _ _ _ _ _ _ g1.size g2.size g1.vr g2.vr
 | makeSlice t l c =>
  simp only [opK] at h
  obtain ⟨v, bl', h1, h2⟩ := makeSliceK_sound h
  refine ⟨.write, v, bl', .ofOut (F := makeSliceK C t (ev l) (ev c)) (fun _ _ => rfl) h1 fun E a hE m hv => ⟨_, rfl, ?_⟩⟩
  rcases hE with hE | hE
  ·exact h2 E hE m _ _ (hv l) (hv c)
  ·cases hE
 | slice t x lo hi mx =>
  cases mx with
  | some y => simp [opK] at h
  | none =>
   simp only [opK] at h
   obtain ⟨cat, v, h1, h2, h3⟩ := sliceK_sound h
   refine ⟨cat, v, bl, .ofMem (F := sliceK C t (ev x) (lo.map ev) (hi.map ev)) (fun _ _ => rfl) h1 fun E a hE m hv => ?_⟩
   obtain ⟨v', h4, h5⟩ := h3 E hE m _ _ _ (hv x) (optR_map hv lo) (optR_map hv hi)
   exact ⟨v', by simp [execOp, h4], h5⟩
 | fieldAddr t x f =>
  simp only [opK] at h
  obtain ⟨cat, v, h1, h2, h3⟩ := fieldAddrK_sound h
  refine ⟨cat, v, bl, .ofMem (F := fieldAddrK C t (ev x) f) (fun _ _ => rfl) h1 fun E a hE m hv => ?_⟩
  obtain ⟨v', h4, h5⟩ := h3 E hE m _ (hv x)
  exact ⟨v', by simp [execOp, h4], h5⟩
 | field t x f =>
  simp only [opK] at h
  obtain ⟨v, h1, h2⟩ := fieldK_sound h
  refine ⟨.pure, v, bl, .ofVal (F := fieldK C t (ev x) f) (fun _ _ => rfl) h1 fun E a m hg hv => ?_⟩
  obtain ⟨v', h3⟩ := h2 E true _ (hv x)
  exact ⟨v', by simp [execOp, (h3 E.w).1], (h3 E.w).2⟩
 | indexAddr t x ix =>
  simp only [opK] at h
  obtain ⟨cat, v, h1, h2, h3⟩ := indexAddrK_sound h
  refine ⟨cat, v, bl, .ofMem (F := indexAddrK C t (ev x) (ev ix)) (fun _ _ => rfl) h1 fun E a hE m hv => ?_⟩
  obtain ⟨v', h4, h5⟩ := h3 E hE m _ _ (hv x) (hv ix)
  exact ⟨v', by simp [execOp, h4], h5⟩
 | index t x ix =>
  simp only [opK] at h
  obtain ⟨v, h1, h2⟩ := indexK_sound h
  refine ⟨.pure, v, bl, .ofVal (F := indexK C t (ev x) (ev ix)) (fun _ _ => rfl) h1 fun E a m hg hv => ?_⟩
  obtain ⟨v', h3⟩ := h2 E true _ _ (hv x) (hv ix)
  exact ⟨v', by simp [execOp, (h3 E.w).1], (h3 E.w).2⟩
 | makeMap t res =>
  cases res with
  | some _ => simp [opK] at h
  | none =>
   simp only [opK] at h
   obtain ⟨cat, v, bl', h1, h2⟩ := makeMapK_sound h
   exact ⟨cat, v, bl', .ofOut (F := makeMapK C t) (fun _ _ => rfl) h1 fun E a hE m hv => ⟨_, rfl, h2 E hE m⟩⟩
 | lookup t x k ok =>
  simp only [opK] at h
  obtain ⟨cat, v, h1, h2, h3⟩ := lookK_sound h
  refine ⟨cat, v, bl, .ofMem (F := lookK C t (ev x) (ev k) ok) (fun _ _ => rfl) h1 fun E a hE m hv => ?_⟩
  obtain ⟨v', h4, h5⟩ := h3 E hE m _ _ (hv x) (hv k)
  exact ⟨v', by simp [execOp, h4], h5⟩
 | mapUpdate t x k y =>
  simp only [opK] at h
  obtain ⟨bl', h1, h2⟩ := mapUpdK_sound h
  refine ⟨.write, .any, bl', ⟨h1, fun E a hE m hg hv => ?_⟩⟩
  rcases hE with hE | hE
  ·obtain ⟨E', g1, g2, g3⟩ := h2 E hE m _ _ _ (hv x) (hv k) (hv y)
   exact .skip (w' := E'.w) (by simp [execOp, g1]) ⟨E', rfl, by simp [g2], g3, .any _ _⟩
  ·cases hE
 | extract t i =>
  simp only [opK] at h
  split at h
  ·rename_i vs ht
   split at h
   ·rename_i v hi
    refine ⟨.pure, v, bl, .ofVal (F := fun K => K v) (fun bl K => by simp only [opK, ht, hi]) (fun _ => rfl) fun E a m hg hv => ?_⟩
    have := hv t
    rw [ht] at this
    cases hh : a.eval t with
    | tuple cs =>
     rw [hh] at this
     cases this with
     | tup _ _ _ hs hr =>
      have hlt : i < cs.size := by rw [hs]; exact (List.getElem?_eq_some_iff.1 hi).1
      exact ⟨cs[i], by simp [execOp, hh, Instr.extract, Array.getElem?_eq_getElem hlt], hr i v _ hi (Array.getElem?_eq_getElem hlt)⟩
    | _ => rw [hh] at this; cases this
   ·cases h
  ·cases h
 | call c =>
  simp only [opK] at h
  split at h
  ·rename_i f hc
   split at h
   ·rename_i g l l' hf
    obtain ⟨cat, v, bl', h1, h2⟩ := callF_sound hΓ h
    refine ⟨cat, v, bl', ⟨?_, fun E a hE m hg hv => ?_⟩⟩
    ·have hF : ∀ bl (K : Kont R), opK C ⟨dst, .call c, ty, ps, af, gd⟩ ev bl K = callF C g (l ++ c.args.toList.map ev ++ l') bl K := fun bl K => by simp only [opK, hc, hf]
     exact ⟨fun K => by rw [hF]; exact h1.det K, fun hcat => ⟨(h1.pure hcat).1, fun b2 K => by rw [hF]; exact (h1.pure hcat).2 b2 K⟩, h1.read⟩
    ·have hh := hv f
     rw [hf] at hh
     cases hu : a.eval f <;> rw [hu] at hh <;> (try (cases hh; done))
     rename_i f' as bs
     have : f' = .func g := by cases hh; rfl
     subst this
     have ga : Args E l as ∧ Args E l' bs := by
      cases hh with
      | fn _ _ _ _ _ _ h1 h2 g1 g2 => exact ⟨⟨h1, g1⟩, ⟨h2, g2⟩⟩
     have := h2 E hE m hg (as ++ c.args.map a.eval ++ bs) (args_append (args_append ga.1 (args_map hv c.args)) ga.2)
     have hx : execOp a.eval ⟨dst, .call c, ty, ps, af, gd⟩ = callFunc g (as ++ c.args.map a.eval ++ bs) := by
      simp only [execOp, resolve, hc, hu, Deferred.ofValue, pure_bind]
      simp only [invoke]
     intro next Q hn
     unfold Oper.wp
     rw [hx]
     rcases this with ⟨fn, k1, k2, k3, k4⟩ | ⟨v', w', k1, k2⟩
     ·have hr : (callFunc g (as ++ c.args.map a.eval ++ bs)).run C.P E.w = .ok (.enter g (as ++ c.args.map a.eval ++ bs)) E.w := by
       have k3' : fn.body ≠ none := fun e => by rw [e] at k3; cases k3
       simp [callFunc, k1, k2, k3']
      rw [hr]
      simp only [Oper.upon]
      refine k4.mono fun e w' ⟨v', he, hq⟩ => ?_
      subst he
      exact hn v' w' hq
     ·rw [k1]
      exact hn v' w' k2
   ·cases h
  ·rename_i b hc
   have hx : ∀ (a : Act), execOp a.eval ⟨dst, .call c, ty, ps, af, gd⟩ = builtin b c.argTypes ty (c.args.map fun | .const _ => true | _ => false) (c.args.map a.eval) := fun a => by
    simp only [execOp, resolve, hc]
    rfl
   have two : ∀ {x y : AV}, c.args.toList.map ev = [x, y] → ∀ (E : Env) (a : Act), (∀ x, VR E true (ev x) (a.eval x)) → ∃ x' y', c.args.map a.eval = #[x', y'] ∧ VR E true x x' ∧ VR E true y y' := by
    intro x y he E a hv
    cases hargs : c.args with
    | mk al =>
    rw [hargs] at he
    match al, he with
    | [p, q], he =>
     simp at he
     obtain ⟨rfl, rfl⟩ := he
     exact ⟨a.eval p, a.eval q, by simp, hv p, hv q⟩
   have one : ∀ {x : AV}, c.args.toList.map ev = [x] → ∀ (E : Env) (a : Act), (∀ x, VR E true (ev x) (a.eval x)) → ∃ x', c.args.map a.eval = #[x'] ∧ VR E true x x' := by
    intro x he E a hv
    cases hargs : c.args with
    | mk al =>
    rw [hargs] at he
    match al, he with
    | [p], he =>
     simp at he
     subst he
     exact ⟨a.eval p, by simp, hv p⟩
   split at h
   ·rename_i t ts x ht hxs
    obtain ⟨cat, v, h1, h2, h3⟩ := lenK_sound h
    refine ⟨cat, v, bl, .ofMem (F := lenK C t x) (fun _ _ => by simp only [opK, hc, ht, hxs]) h1 fun E a hE m hv => ?_⟩
    obtain ⟨x', g1, g2⟩ := one hxs E a hv
    obtain ⟨v', h4, h5⟩ := h3 E hE m x' c.argTypes ty (by rw [← Array.getElem?_toList, ht]; rfl) g2
    exact ⟨v', by rw [hx, g1]; simp [builtin, h4], h5⟩
   ·rename_i t tx s x ht hxs
    obtain ⟨cat, v, bl', h1, h2⟩ := appendK_sound h
    refine ⟨cat, v, bl', .ofOut (F := appendK C t tx s x) (fun _ _ => by simp only [opK, hc, ht, hxs]) h1 fun E a hE m hv => ?_⟩
    obtain ⟨x', y', g1, g2, g3⟩ := two hxs E a hv
    have ht' : c.argTypes = #[t, tx] := Array.ext' (by simpa using ht)
    exact ⟨_, by rw [hx, g1]; rfl, by rw [ht']; exact h2 E hE m x' y' ty g2 g3⟩
   ·rename_i t ts x ht hxs
    obtain ⟨v, h1, h3⟩ := capK_sound h
    refine ⟨.pure, v, bl, .ofMem (F := capK C t x) (fun _ _ => by simp only [opK, hc, ht, hxs]) h1 fun E a hE m hv => ?_⟩
    obtain ⟨x', g1, g2⟩ := one hxs E a hv
    obtain ⟨v', h4, h5⟩ := h3 E x' c.argTypes ty (by rw [← Array.getElem?_toList, ht]; rfl) g2
    exact ⟨v', by rw [hx, g1]; simp [builtin, h4], h5⟩
   ·rename_i t ts d x ht hxs
    obtain ⟨v, bl', h1, h2⟩ := copyK_sound h
    refine ⟨.write, v, bl', .ofOut (F := copyK C t d x) (fun _ _ => by simp only [opK, hc, ht, hxs]) h1 fun E a hE m hv => ?_⟩
    obtain ⟨x', y', g1, g2, g3⟩ := two hxs E a hv
    rcases hE with hE | hE
    ·exact ⟨_, by rw [hx, g1]; rfl, h2 E hE m x' y' c.argTypes ty (by rw [← Array.getElem?_toList, ht]; rfl) g2 g3⟩
    ·cases hE
   ·rename_i t ts x k ht hxs
    obtain ⟨bl', h1, h2⟩ := deleteK_sound h
    refine ⟨.write, .any, bl', .ofOut (F := deleteK C t x k) (fun _ _ => by simp only [opK, hc, ht, hxs]) h1 fun E a hE m hv => ?_⟩
    obtain ⟨x', y', g1, g2, g3⟩ := two hxs E a hv
    rcases hE with hE | hE
    ·exact ⟨_, by rw [hx, g1]; rfl, h2 E hE m x' y' c.argTypes ty (by rw [← Array.getElem?_toList, ht]; rfl) g2 g3⟩
    ·cases hE
   ·obtain ⟨v, h1, h2⟩ := maxK_sound h
    refine ⟨.pure, v, bl, .ofVal (F := maxK (c.args.toList.map ev)) (fun bl K => by simp only [opK, hc]) h1 fun E a m hg hv => ?_⟩
    obtain ⟨v', h3, h4⟩ := h2 C.P E _ (args_map hv c.args) c.argTypes ty E.w
    exact ⟨v', by rw [hx]; simp [builtin, h3], h4⟩
   ·obtain ⟨v, h1, h2⟩ := minK_sound h
    refine ⟨.pure, v, bl, .ofVal (F := minK (c.args.toList.map ev)) (fun bl K => by simp only [opK, hc]) h1 fun E a m hg hv => ?_⟩
    obtain ⟨v', h3, h4⟩ := h2 C.P E _ (args_map hv c.args) c.argTypes ty E.w
    exact ⟨v', by rw [hx]; simp [builtin, h3], h4⟩
   ·cases h
  ·cases h
 | _ => simp [opK] at h
def OpA (R : Type) (C : Ctx) (rs : Option Nat) (o : Oper) (ev : Operand → AV) (bl : Blks) (cat : Cat) (v : AV) (bl' : Blks) : Prop :=
 KS (R := R) (opA C rs o ev) bl cat v bl' ∧ ∀ E (a : Act), (E.bl = bl ∨ cat = .pure) → Mem E → Glob C.G E → (∀ x, VR E true (ev x) (a.eval x)) → OpDoes C.P o a E.w (Done E cat v bl')
theorem opA_not {id : Nat} {o : Oper} {ev : Operand → AV} (h : isAl o.op = false) : opA (R := R) C (some id) o ev = opK C o ev := by
 obtain ⟨dst, op, ty, ps, af, gd⟩ := o
 cases op <;> first
  | rfl
  | cases h
theorem keptK_inv {id : Nat} {v : AV} {bl : Blks} {K : Kont R} {r : R} (h : keptK id v bl K = some r) : bget bl id = some .free ∧ ∀ K2 : Kont R, keptK id v bl K2 = K2 .write (.ptr id []) (bl.set id (some (.var v))) := by
 unfold keptK at h
 split at h
 ·rename_i hb
  exact ⟨hb, fun K2 => by simp only [keptK, hb]⟩
 ·cases h
theorem opA_sound (hΓ : ∀ f m, C.Γ f = some m → CalleeS C.P C.G f m) {rs : Option Nat} {o : Oper} {ev : Operand → AV} {bl : Blks} {K : Kont R} {r : R} (h : opA C rs o ev bl K = some r) :
  ∃ cat v bl', OpA R C rs o ev bl cat v bl' := by
 cases rs with
 | none => exact opK_sound hΓ h
 | some id =>
 by_cases hal : isAl o.op = false
 ·rw [opA_not hal] at h
  obtain ⟨cat, v, bl', h1, h2⟩ := opK_sound hΓ h
  exact ⟨cat, v, bl', by rw [opA_not hal]; exact h1, h2⟩
 obtain ⟨dst, op, ty, ps, af, gd⟩ := o
 cases op <;> first
  | exact absurd rfl hal
  | skip
 case alloc t =>
  simp only [opA] at h
  split at h
  ·rename_i z hz
   obtain ⟨hb, hd⟩ := keptK_inv h
   obtain ⟨i, v, h1, h2, h3, h4, h5, h6, h7⟩ := zeroOf_sound hz
   refine ⟨.write, .ptr id [], bl.set id (some (.var z)), .ofWrite fun K => by simp only [opA, hz, hd], fun E a hE m hg hv => ?_⟩
   rcases hE with rfl | hE
   ·obtain ⟨E', g1, g2, g3, g4⟩ := fillVar_sound t m hb (h4 E true) ⟨h6, h7⟩
    refine done_out (s := Instr.alloc t true (.tuple #[])) rfl ⟨_, E', by simp [Instr.alloc, h3, run_newVar, g1], by simp [g2], g3, g4⟩
   ·cases hE
  ·cases h
 case box t x =>
  cases hro : isRo C t (ev x) with
  | true =>
   refine ⟨.pure, .rptr (ev x), bl, .ofPure fun bl K => by simp only [opA, hro], fun E a hE m hg hv => ?_⟩
   exact done_out (s := Instr.box t (a.eval x)) rfl (boxRo_sound hro m (hv x))
  | false =>
  simp only [opA, hro] at h
  have key : ∀ bl (K : Kont R), ev x ≠ .any → (∀ vs, ev x ≠ .tup vs) → opA C (some id) ⟨dst, .box t x, ty, ps, af, gd⟩ ev bl K = keptK id (ev x) bl K := fun bl K g1 g2 => by
   simp only [opA, hro]
  split at h
  ·cases h
  ·cases h
  ·rename_i h1 h2
   obtain ⟨hb, hd⟩ := keptK_inv h
   refine ⟨.write, .ptr id [], bl.set id (some (.var (ev x))), .ofWrite fun K => by rw [key bl K h1 h2, hd], fun E a hE m hg hv => ?_⟩
   rcases hE with rfl | hE
   ·obtain ⟨E', g1, g2, g3, g4⟩ := fillVar_sound t m hb (hv x) ⟨h1, h2⟩
    refine done_out (s := Instr.box t (a.eval x)) rfl ⟨_, E', by simp [Instr.box, run_newVar, g1], by simp [g2], g3, g4⟩
   ·cases hE
end
end Go.Abs
end
section
set_option linter.unusedVariables false
set_option linter.unusedSimpArgs false
namespace Go.Abs
open Go
section
variable {R : Type} {C : Ctx}
theorem opK_congr {ev ev' : Operand → AV} (o : Oper) (h : ∀ x ∈ o.op.operands, ev x = ev' x) (bl : Blks) (K : Kont R) : opK C o ev bl K = opK C o ev' bl K := by
 obtain ⟨dst, op, type, pos, after, guard⟩ := o
 have pairs : ∀ ps : Array (Nat × Operand), (∀ x ∈ ps.map (·.2), ev x = ev' x) → (ps.toList.map fun p => (p.1, ev p.2)) = (ps.toList.map fun p => (p.1, ev' p.2)) := fun ps hp =>
  List.map_congr_left fun p hm => by
   obtain ⟨i, x⟩ := p
   simp only [hp x (Array.mem_map.2 ⟨(i, x), by simpa using hm, rfl⟩)]
 cases op <;> simp only [Op.operands] at h <;> simp only [opK]
 case build t ps => rw [pairs ps fun x hx => h x (by simpa using hx)]
 case buildSlice t n ps => rw [pairs ps fun x hx => h x (by simpa using hx)]
 case makeFunc fn first captured =>
  rw [List.map_congr_left (l := first.toList) fun x hx => h x (by simp at hx; simp [hx]), List.map_congr_left (l := captured.toList) fun x hx => h x (by simp at hx; simp [hx])]
 case call c =>
  have hargs : c.args.toList.map ev = c.args.toList.map ev' := List.map_congr_left fun x hx => h x (by simp at hx; simp [Call.operands, hx])
  rw [hargs]
  cases hc : c.callee with
  | value f => simp only [h f (by simp [Call.operands, hc])]
  | invoke r m => rfl
  | builtin b => rfl
 case slice t x lo hi mx => cases lo <;> cases hi <;> cases mx <;> simp_all
 case makeMap t res => cases res <;> rfl
 all_goals (first | rfl | (simp_all; done))
theorem opA_congr {rs : Option Nat} {ev ev' : Operand → AV} (o : Oper) (h : ∀ x ∈ o.op.operands, ev x = ev' x) (bl : Blks) (K : Kont R) : opA C rs o ev bl K = opA C rs o ev' bl K := by
 cases rs with
 | none => exact opK_congr o h bl K
 | some id =>
  by_cases hal : isAl o.op = false
  ·rw [opA_not hal, opA_not hal, opK_congr o h]
  obtain ⟨dst, op, ty, ps, af, gd⟩ := o
  cases op <;> first
   | exact absurd rfl hal
   | skip
  case alloc t => rfl
  case box t x => simp only [opA, h x (by simp [Op.operands])]
def GuardAt (ops : Array Oper) (o : Oper) (tm : List AV) (yes : Bool) : Prop :=
 (o.guard = none ∧ yes = true) ∨ (∃ j want d b, o.guard = some (j, want) ∧ (ops[j]?).bind (·.dst) = some d ∧ tm.getD d .any = .bool b ∧ yes = (want == b)) ∨
  ∃ j want d, o.guard = some (j, want) ∧ (ops[j]?).bind (·.dst) = some d ∧ tm.getD d .any = .tup [] ∧ yes = false
theorem set_same {l : List AV} {d : Nat} {x : AV} (h : l.getD d .any = x) (hx : x ≠ .any) : l.set d x = l := by
 rcases Nat.lt_or_ge d l.length with hd | hd
 ·rw [List.getD_eq_getElem?_getD, List.getElem?_eq_getElem hd] at h
  simp at h
  rw [← h]
  exact List.set_getElem_self hd
 ·rw [List.getD_eq_getElem?_getD, List.getElem?_eq_none hd] at h
  exact absurd h.symm hx
theorem guardK_inv {ops : Array Oper} {o : Oper} {tm : List AV} {K : Bool → List AV → Option R} {r : R} (h : guardK ops o tm K = some r) :
  ∃ yes, GuardAt ops o tm yes ∧ ∀ K2 : Bool → List AV → Option R, guardK ops o tm K2 = K2 yes tm := by
 unfold guardK at h
 split at h
 ·rename_i hg
  exact ⟨true, .inl ⟨hg, rfl⟩, fun K2 => by simp only [guardK, hg]⟩
 ·rename_i j want hg
  split at h
  ·rename_i d hd
   split at h
   ·rename_i b hb
    have hs := set_same hb (by simp)
    refine ⟨want == b, .inr (.inl ⟨j, want, d, b, hg, hd, hb, rfl⟩), fun K2 => ?_⟩
    simp only [guardK, hg, hd, hb]
    cases b with
    | true => simp [hs]
    | false => simp [hs]
   ·rename_i hb
    exact ⟨false, .inr (.inr ⟨j, want, d, hg, hd, hb, rfl⟩), fun K2 => by simp only [guardK, hg, hd, hb]⟩
   ·cases h
  ·cases h
theorem GuardAt.wanted {E : Env} {ops : Array Oper} {o : Oper} {tm : List AV} {yes : Bool} (h : GuardAt ops o tm yes) {a : Act}
  (hv : ∀ t ∈ o.looksAt ops, VR E true (tm.getD t .any) (a.tmps.getD t undef)) : Region.wanted o (yielded ops a.tmps) = yes := by
 rcases h with ⟨h, rfl⟩ | ⟨j, want, d, b, hg, hd, hb, rfl⟩ | ⟨j, want, d, hg, hd, hb, rfl⟩
 ·simp [Region.wanted, h]
 ·have := hv d (by simp [Oper.looksAt, hg, hd])
  rw [hb] at this
  have hval := this.bool_inv
  have : a.tmps[d]? = some (.bool b) := by
   cases hx : a.tmps[d]? with
   | none => simp [hx] at hval; cases hval
   | some u => simp [hx] at hval; rw [hval]
  simp [Region.wanted, hg, yielded, hd, this]
  cases b <;> cases want <;> rfl
 ·have hh := hv d (by simp [Oper.looksAt, hg, hd])
  rw [hb] at hh
  have hval : a.tmps.getD d undef = .tuple #[] := by
   generalize a.tmps.getD d undef = u at hh
   cases hh with
   | tup _ vs cs hs _ =>
    have : cs = #[] := Array.size_eq_zero_iff.1 (by simpa using hs)
    rw [this]
  have : ∀ b, a.tmps[d]? ≠ some (.bool b) := fun b hx => by
   simp [hx] at hval
  have hy : yielded ops a.tmps j = none := by
   unfold yielded
   rw [hd]
   simp only [Option.bind_some]
   first
    | done
    | (split; next b hx => exact absurd hx (this b); next => rfl)
  simp [Region.wanted, hg, hy]
def Loc (R : Type) (C : Ctx) (rs : Option Nat) (o : Oper) (ev : Operand → AV) (bl : Blks) (v : AV) (bl' : Blks) : RC → Prop
 | .readAt id => ∀ bl2, bget bl2 id = bget bl id → ∀ K : Kont R, opA C rs o ev bl2 K = K .read v bl2
 | .storeAt id => ∃ b, bl' = bl.set id (some b) ∧ id < bl.length ∧ bget bl id ≠ none ∧ ∀ bl2, bget bl2 id = bget bl id → ∀ K : Kont R, opA C rs o ev bl2 K = K .write v (bl2.set id (some b))
 | .alloc id => ∃ bs, id = bl.length ∧ bl' = bl ++ bs ∧ ∀ bl2, bl2.length = bl.length → ∀ K : Kont R, opA C rs o ev bl2 K = K .write v (bl2 ++ bs)
 | _ => True
def RC.cat : RC → Cat
 | .pure => .pure
 | .read | .readAt _ => .read
 | .write | .storeAt _ | .alloc _ => .write
theorem callCat_cat (n : Nat) (f : AV) (args : List AV) : (callCat C n f args).cat = .write := by
 unfold callCat
 split
 ·split
  ·split <;> rfl
  ·rfl
 ·rfl
theorem callLook_cat (f : AV) (args : List AV) : (callLook C f args).cat = .read := by
 unfold callLook
 split
 ·split
  ·split <;> rfl
  ·rfl
 ·rfl
theorem fine_cat (rs : Option Nat) (o : Op) (ev : Operand → AV) (n : Nat) (c : Cat) : (fine C rs o ev n c).cat = c := by
 cases c <;> cases o <;> first
  | rfl
  | (simp only [fine]; split <;> rfl)
  | (simp only [fine]; exact (by intro x; cases x <;> rfl : ∀ x : AV, (atOf x).cat = .read) _)
  | (simp only [fine]; split <;> (try split) <;> first | rfl | exact callLook_cat _ _ | exact (by intro x; cases x <;> rfl : ∀ x : AV, (atOf x).cat = .read) _)
  | (simp only [fine]; cases rs <;> rfl)
  | (simp only [fine]; split <;> first | rfl | exact callCat_cat _ _ _)
theorem det_one {c c' : Cat} {v v' : AV} {b b' : Blks} {F : Kont R → Option R} (r : R) (h1 : ∀ K, F K = K c v b) (h2 : ∀ K, F K = K c' v' b') : c = c' ∧ v = v' ∧ b = b' := by
 classical
 have := (h1 fun x y z => if x = c ∧ y = v ∧ z = b then some r else none).symm.trans (h2 _)
 rw [if_pos ⟨rfl, rfl, rfl⟩] at this
 by_cases h : c' = c ∧ v' = v ∧ b' = b
 ·exact ⟨h.1.symm, h.2.1.symm, h.2.2.symm⟩
 ·rw [if_neg h] at this; cases this
theorem fine_congr {rs : Option Nat} {ev ev' : Operand → AV} (o : Oper) (h : ∀ x ∈ o.op.operands, ev x = ev' x) (n : Nat) (c : Cat) : fine C rs o.op ev n c = fine C rs o.op ev' n c := by
 obtain ⟨dst, op, type, pos, after, guard⟩ := o
 cases c <;> try rfl
 ·cases op <;> simp only [Op.operands] at h <;> simp only [fine]
  case call c =>
   split
   ·split
    ·rename_i hc _ x hx
     rw [h x (by
      have : x ∈ c.args := by rw [← Array.mem_toList_iff, hx]; simp
      simp [Call.operands, hc, this])]
    ·rfl
   ·rename_i f hc
    rw [show c.args.toList.map ev = c.args.toList.map ev' from List.map_congr_left fun x hx => h x (by simp at hx; simp [Call.operands, hx]), h f (by simp [Call.operands, hc])]
   ·rfl
  all_goals rw [h _ (by simp)]
 ·cases op <;> simp only [Op.operands] at h <;> simp only [fine]
  case store t a x => rw [h a (by simp)]
  case buildSlice t n ps =>
   rw [show (ps.toList.map fun p => (p.1, ev p.2)) = (ps.toList.map fun p => (p.1, ev' p.2)) from List.map_congr_left fun p hm => by
    obtain ⟨i, x⟩ := p
    simp only [h x (by simpa using ⟨i, Array.mem_toList_iff.1 hm⟩)]]
  case call c =>
   have hargs : c.args.toList.map ev = c.args.toList.map ev' := List.map_congr_left fun x hx => h x (by simp at hx; simp [Call.operands, hx])
   split
   ·rename_i f hc
    rw [hargs, h f (by simp [Call.operands, hc])]
   ·rfl
def At (id : Nat) (F : Blks → Kont R → Option R) : Prop := ∀ bl bl2 K K2, bget bl2 id = bget bl id → (∀ c v, K2 c v bl2 = K c v bl) → F bl2 K2 = F bl K
theorem at_load {t : TypeId} {x : AV} {id : Nat} (h : atOf x = .readAt id) : At id (loadK (R := R) C t x) := fun bl bl2 K K2 hb hK => by
 cases x <;> simp only [atOf, reduceCtorEq, RC.readAt.injEq] at h <;> subst h <;> simp only [loadK, hb, hK]
theorem at_fieldAddr {t : TypeId} {x : AV} {f id : Nat} (h : atOf x = .readAt id) : At id (fieldAddrK (R := R) C t x f) := fun bl bl2 K K2 hb hK => by
 cases x <;> simp only [atOf, reduceCtorEq, RC.readAt.injEq] at h <;> subst h <;> simp only [fieldAddrK, hb, hK]
theorem at_indexAddr {t : TypeId} {x ix : AV} {id : Nat} (h : atOf x = .readAt id) : At id (indexAddrK (R := R) C t x ix) := fun bl bl2 K K2 hb hK => by
 cases ix <;> first
  | rfl
  | skip
 unfold indexAddrK
 cases hu : C.P.underlying t with
 | none => rfl
 | some d => cases d <;> first
  | rfl
  | (cases x <;> simp only [atOf, reduceCtorEq, RC.readAt.injEq] at h <;> subst h <;> simp only [hb, hK])
theorem at_slice {t : TypeId} {x : AV} {lo hi : Option AV} {id : Nat} (h : atOf x = .readAt id) : At id (sliceK (R := R) C t x lo hi) := fun bl bl2 K K2 hb hK => by
 unfold sliceK
 cases hu : C.P.underlying t with
 | none => rfl
 | some d => cases d <;> first
  | rfl
  | (cases x <;> simp only [atOf, reduceCtorEq, RC.readAt.injEq] at h <;> subst h <;> simp only [hb, hK])
theorem at_arrayPtr {t : TypeId} {x : AV} {id : Nat} (h : atOf x = .readAt id) : At id (arrayPtrK (R := R) C t x) := fun bl bl2 K K2 hb hK => by
 unfold arrayPtrK
 cases hu : C.P.underlying t with
 | none => rfl
 | some d => cases d <;> first
  | rfl
  | (cases x <;> simp only [atOf, reduceCtorEq, RC.readAt.injEq] at h <;> subst h <;> simp only [hb, hK])
theorem at_elsOf {x : AV} {id : Nat} (h : atOf x = .readAt id) {bl bl2 : Blks} (hb : bget bl2 id = bget bl id) : elsOf bl2 x = elsOf bl x := by
 cases x <;> simp only [atOf, reduceCtorEq, RC.readAt.injEq] at h <;> subst h <;> simp only [elsOf, hb]
theorem at_conv {s d : TypeId} {x : AV} {id : Nat} (h : atOf x = .readAt id) : At id (convK (R := R) C s d x) := fun bl bl2 K K2 hb hK => by
 have he := at_elsOf h hb
 cases x <;> simp only [atOf, reduceCtorEq, RC.readAt.injEq] at h <;> subst h <;> simp only [convK, convOwnK, he, hK]
theorem at_len {t : TypeId} {x : AV} {id : Nat} (h : atOf x = .readAt id) : At id (lenK (R := R) C t x) := fun bl bl2 K K2 hb hK => by
 unfold lenK
 cases hu : C.P.underlying t with
 | none => rfl
 | some d => cases d <;> first
  | rfl
  | (cases x <;> simp only [atOf, reduceCtorEq, RC.readAt.injEq] at h <;> subst h <;> simp only [hb, hK])
theorem at_op {o : Oper} {ev : Operand → AV} {n id : Nat} (hnc : ∀ cl f, o.op = .call cl → cl.callee ≠ .value f) (h : fine C none o.op ev n .read = .readAt id) : At id (opK (R := R) C o ev) := fun bl bl2 K K2 hb hK => by
 obtain ⟨dst, op, type, pos, after, guard⟩ := o
 cases op <;> simp only [fine, reduceCtorEq] at h
 case load t a => exact at_load h bl bl2 K K2 hb hK
 case fieldAddr t x f => exact at_fieldAddr h bl bl2 K K2 hb hK
 case indexAddr t x i => exact at_indexAddr h bl bl2 K K2 hb hK
 case slice t x lo hi mx =>
  cases mx with
  | none => exact at_slice h bl bl2 K K2 hb hK
  | some _ => rfl
 case sliceToArrayPointer t x => exact at_arrayPtr h bl bl2 K K2 hb hK
 case convert s d x => exact at_conv h bl bl2 K K2 hb hK
 case call c =>
  split at h
  ·rename_i hc
   split at h
   ·rename_i x hx
    simp only [opK, hc, hx, List.map_cons, List.map_nil]
    cases ht : c.argTypes.toList with
    | nil => rfl
    | cons t ts => exact at_len h bl bl2 K K2 hb hK
   ·cases h
  ·rename_i f hc
   exact absurd hc (hnc c f rfl)
  ·cases h
mutual
theorem view_alike {bl bl2 : Blks} : ∀ {x : AV}, (∀ i ∈ ids x, bget bl2 i = bget bl i) → view bl2 x = view bl x
 | .slice id path s len w, h => by unfold view; rw [h id (by simp [ids])]
 | .own id w, h => by unfold view; rw [h id (by simp [ids])]
 | .ptr id path, h => by unfold view; rw [h id (by simp [ids])]
 | .aptr id path s n, h => by unfold view; rfl
 | .agg kids, h => by unfold view; rw [views_alike fun i hi => h i (by unfold ids; exact hi)]
 | .tup kids, h => by unfold view; rw [views_alike fun i hi => h i (by unfold ids; exact hi)]
 | .fn g a b, h => by unfold view; rw [views_alike (l := a) fun i hi => h i (by unfold ids; exact List.mem_append_left _ hi), views_alike (l := b) fun i hi => h i (by unfold ids; exact List.mem_append_right _ hi)]
 | .iface t v, h => by unfold view; rw [view_alike fun i hi => h i (by unfold ids; exact hi)]
 | .any, _ | .bool _, _ | .int _ _, _ | .str _, _ | .nilp, _ | .rptr _, _ | .snil, _ | .rints _ _, _ | .robjs _ _ _, _ | .ints _ _ _, _ | .nilf, _ | .nili, _ | .raw _, _ | .errv _ _ _, _ | .rmap _, _ => rfl
theorem views_alike {bl bl2 : Blks} : ∀ {l : List AV}, (∀ i ∈ idss l, bget bl2 i = bget bl i) → views bl2 l = views bl l
 | [], _ => rfl
 | x :: r, h => by unfold views; rw [view_alike fun i hi => h i (by unfold idss; exact List.mem_append_left _ hi), views_alike fun i hi => h i (by unfold idss; exact List.mem_append_right _ hi)]
end
theorem handed_look {bl bl2 : Blks} : ∀ {fs : List Bool} {args : List AV}, (∀ i ∈ idss args, bget bl2 i = bget bl i) → handed bl2 [] fs args = handed bl [] fs args
 | fs, [], _ => by
  cases fs with
  | nil => simp only [handed]
  | cons f fs => cases f <;> simp only [handed]
 | fs, x :: r, h => by
  have hx : view bl2 x = view bl x := view_alike fun i hi => h i (by unfold idss; exact List.mem_append_left _ hi)
  have hr : ∀ fs, handed bl2 [] fs r = handed bl [] fs r := fun fs => handed_look fun i hi => h i (by unfold idss; exact List.mem_append_right _ hi)
  cases fs with
  | nil => simp only [handed, hx, hr]
  | cons f fs => cases f <;> simp only [handed, hx, hr]
theorem call_look (hΓ : ∀ f m, C.Γ f = some m → CalleeS C.P C.G f m) {g : FuncId} {m : Callee} {args : List AV} {bl bl' : Blks} {v : AV} (hm : C.Γ g = some m) (hl : lentIds m.lend args = []) (r : R) (hd : ∀ K : Kont R, callK C g args bl K = K .read v bl') :
  ∀ bl2, (∀ i ∈ idss args, bget bl2 i = bget bl i) → ∀ K : Kont R, callK C g args bl2 K = K .read v bl2 := by
 intro bl2 hi K0
 have h0 := hd fun _ _ _ => some r
 unfold callK at h0
 simp only [hm, hl] at h0
 rw [show reach bl 40 [] [] = [] from rfl] at h0
 cases hh : handed bl [] m.lend args with
 | none => simp [hh] at h0
 | some p =>
 obtain ⟨args', looks⟩ := p
 obtain hno | ⟨v0, out, hdet, _⟩ := hΓ g m hm args' []
 ·simp [hh, hno] at h0
 have form : ∀ (bl2 : Blks) (K : Kont R), handed bl2 [] m.lend args = some (args', looks) → callK C g args bl2 K = if (([] : List Nat).isEmpty && out.isEmpty) = true then (if noOwn v0 = true then (if looks = true then (if noRef v0 = true then K .read v0 bl2 else none) else K .pure v0 bl2) else none)
   else (if ((!looks || (noRef v0 && refFree out)) && noFrees bl2 []) = true then K .write (ren (backOf [] bl2.length) v0) (putBack (backOf [] bl2.length) [] out bl2) else none) := fun bl2 K hh => by
  unfold callK
  simp only [hm, hl]
  rw [show reach bl2 40 [] [] = [] from rfl]
  simp only [hh, List.map_nil]
  rw [hdet]
 have hd' := fun K => (form bl K hh).symm.trans (hd K)
 rw [form bl2 K0 ((handed_look hi).trans hh)]
 by_cases he : (([] : List Nat).isEmpty && out.isEmpty) = true
 ·simp only [if_pos he] at hd' ⊢
  by_cases hv : noOwn v0 = true
  ·simp only [if_pos hv] at hd' ⊢
   by_cases hk : looks = true
   ·simp only [if_pos hk] at hd' ⊢
    by_cases hf : noRef v0 = true
    ·simp only [if_pos hf] at hd' ⊢
     obtain ⟨_, h2, _⟩ := det_one r (F := fun K => K .read v0 bl) hd' (fun K => rfl)
     rw [h2]
    ·simp only [if_neg hf] at hd'
     have := hd' fun _ _ _ => some r
     cases this
   ·simp only [if_neg hk] at hd'
    obtain ⟨h1, _, _⟩ := det_one r (F := fun K => K .pure v0 bl) hd' (fun K => rfl)
    cases h1
  ·simp only [if_neg hv] at hd'
   have := hd' fun _ _ _ => some r
   cases this
 ·simp only [if_neg he] at hd'
  split at hd'
  ·obtain ⟨h1, _, _⟩ := det_one r (F := fun K => K .write (ren (backOf [] bl.length) v0) (putBack (backOf [] bl.length) [] out bl)) hd' (fun K => rfl)
   cases h1
  ·have := hd' fun _ _ _ => some r
   cases this
theorem handed_plain {bl : Blks} : ∀ {fs : List Bool} {xs ys : List AV} {k : Bool}, noOwns xs = true → handed bl [] fs xs = some (ys, k) → k = false
 | fs, [], ys, k, _, h => by
  cases fs with
  | nil => simp only [handed] at h; cases h; rfl
  | cons f fs => cases f <;> simp only [handed] at h <;> (cases h; rfl)
 | fs, x :: r, ys, k, hn, h => by
  simp only [noOwns, Bool.and_eq_true] at hn
  have low : ∀ {f : List Bool}, (if ((ids x).all fun i => !([] : List Nat).contains i) = true then
   (match view bl x, handed bl [] f.tail r with | some y, some (l, b) => some (y :: l, b || !noOwn x) | _, _ => none) else none) = some (ys, k) → k = false := by
   intro f h
   split at h
   ·split at h
    ·rename_i y l b hy hr
     cases h
     rw [handed_plain hn.2 hr, hn.1]; rfl
    ·cases h
   ·cases h
  cases fs with
  | nil => simp only [handed] at h; exact low (f := []) h
  | cons f fs =>
   cases f with
   | false => simp only [handed] at h; exact low (f := false :: fs) h
   | true =>
    simp only [handed] at h
    split at h
    ·rename_i l b hr
     cases h
     exact handed_plain hn.2 hr
    ·cases h
theorem call_new (hΓ : ∀ f m, C.Γ f = some m → CalleeS C.P C.G f m) {g : FuncId} {m : Callee} {args : List AV} {bl bl' : Blks} {v : AV} (hm : C.Γ g = some m) (hl : lentIds m.lend args = []) (hn : noOwns args = true) (r : R) (hd : ∀ K : Kont R, callK C g args bl K = K .write v bl') :
  ∃ bs, bl' = bl ++ bs ∧ ∀ bl2, bl2.length = bl.length → ∀ K : Kont R, callK C g args bl2 K = K .write v (bl2 ++ bs) := by
 have h0 := hd fun _ _ _ => some r
 unfold callK at h0
 simp only [hm, hl] at h0
 rw [show reach bl 40 [] [] = [] from rfl] at h0
 cases hh : handed bl [] m.lend args with
 | none => simp [hh] at h0
 | some p =>
 obtain ⟨args', looks⟩ := p
 have hk := handed_plain hn hh
 subst hk
 obtain hno | ⟨v0, out, hdet, _⟩ := hΓ g m hm args' []
 ·simp [hh, hno] at h0
 have form : ∀ (bl2 : Blks) (K : Kont R), callK C g args bl2 K = if (([] : List Nat).isEmpty && out.isEmpty) = true then (if noOwn v0 = true then K .pure v0 bl2 else none) else K .write (ren (backOf [] bl2.length) v0) (bl2 ++ out.map (Option.map (renB (backOf [] bl2.length)))) := fun bl2 K => by
  unfold callK
  simp only [hm, hl]
  rw [show reach bl2 40 [] [] = [] from rfl]
  simp only [handed_alike (bl2 := bl2) hh, List.map_nil]
  rw [hdet]
  simp only [Bool.false_eq_true, if_false, Bool.not_false, Bool.true_or, noFrees, List.all_nil, Bool.and_self, if_true, putBack]
 by_cases he : (([] : List Nat).isEmpty && out.isEmpty) = true
 ·simp only [form, if_pos he] at hd
  by_cases hv : noOwn v0 = true
  ·simp only [if_pos hv] at hd
   obtain ⟨h1, _, _⟩ := det_one r (F := fun K => K .pure v0 bl) hd (fun K => rfl)
   cases h1
  ·simp only [if_neg hv] at hd
   have := hd fun _ _ _ => some r
   cases this
 ·simp only [form, if_neg he] at hd
  obtain ⟨_, h2, h3⟩ := det_one r (F := fun K => K .write (ren (backOf [] bl.length) v0) (bl ++ out.map (Option.map (renB (backOf [] bl.length))))) hd (fun K => rfl)
  exact ⟨_, h3, fun bl2 hb K => by rw [form, if_neg he, hb, h2]⟩
theorem buildSliceK_al {t len : Nat} {ps : List (Nat × AV)} {bl bl' : Blks} {c : Cat} {v : AV} (r : R) (hd : ∀ K : Kont R, buildSliceK C t len ps bl K = K c v bl') :
  ∃ bs, bl' = bl ++ bs ∧ ∀ bl2, bl2.length = bl.length → ∀ K : Kont R, buildSliceK C t len ps bl2 K = K .write v (bl2 ++ bs) := by
 simp only [buildSliceK_eq] at hd ⊢
 cases hb : buildSliceB C t len ps with
 | none =>
  rw [hb] at hd
  have := hd fun _ _ _ => some r
  cases this
 | some p =>
  simp only [hb] at hd ⊢
  obtain ⟨_, h2, h3⟩ := det_one r (F := fun K => K .write (.own bl.length p.1) (bl ++ [some p.2])) (fun K => hd K) (fun K => rfl)
  exact ⟨[some p.2], h3, fun bl2 hl K => by rw [hl, ← h2]⟩
mutual
theorem noOwn_ids : ∀ {x : AV}, noOwn x = true → ids x = []
 | .agg kids, h => by simp only [ids]; exact noOwns_idss (by simpa [noOwn] using h)
 | .tup kids, h => by simp only [ids]; exact noOwns_idss (by simpa [noOwn] using h)
 | .fn f a b, h => by
  simp only [noOwn, Bool.and_eq_true] at h
  simp only [ids]; rw [noOwns_idss h.1, noOwns_idss h.2]; rfl
 | .iface t v, h => by simp only [ids]; exact noOwn_ids (by simpa [noOwn] using h)
 | .any, _ | .bool _, _ | .int _ _, _ | .str _, _ | .nilp, _ | .rptr _, _ | .snil, _ | .rints _ _, _ | .robjs _ _ _, _ | .ints _ _ _, _ | .nilf, _ | .nili, _ | .raw _, _ | .errv _ _ _, _ | .rmap _, _ => by simp [ids]
 | .ptr _ _, h | .aptr _ _ _ _, h | .slice _ _ _ _ _, h | .own _ _, h => by simp [noOwn] at h
theorem noOwns_idss : ∀ {l : List AV}, noOwns l = true → idss l = []
 | [], _ => rfl
 | x :: r, h => by
  simp only [noOwns, Bool.and_eq_true] at h
  simp only [idss]; rw [noOwn_ids h.1, noOwns_idss h.2]; rfl
end
theorem killAll_append : ∀ (S : List Nat) (bl B : Blks), (∀ i ∈ S, bl.length ≤ i) → killAll S (bl ++ B) = bl ++ killAll (S.map (· - bl.length)) B
 | [], bl, B, _ => rfl
 | a :: S, bl, B, h => by
  simp only [killAll, List.map_cons]
  rw [List.set_append_right (h := h a (by simp)), killAll_append S bl _ fun i hi => h i (by simp [hi])]
theorem call_form (hΓ : ∀ f m, C.Γ f = some m → CalleeS C.P C.G f m) {g : FuncId} {m : Callee} {args : List AV} {bl : Blks} (hm : C.Γ g = some m) (hl : lentIds m.lend args = []) (hn : noOwns args = true) {K0 : Kont R} {r : R} (h0 : callK C g args bl K0 = some r) :
  ∃ (v0 : AV) (out : Blks), ∀ (bl2 : Blks) (K : Kont R), callK C g args bl2 K = if (([] : List Nat).isEmpty && out.isEmpty) = true then (if noOwn v0 = true then K .pure v0 bl2 else none) else K .write (ren (backOf [] bl2.length) v0) (bl2 ++ out.map (Option.map (renB (backOf [] bl2.length)))) := by
 unfold callK at h0
 simp only [hm, hl] at h0
 rw [show reach bl 40 [] [] = [] from rfl] at h0
 cases hh : handed bl [] m.lend args with
 | none => simp [hh] at h0
 | some p =>
 obtain ⟨args', looks⟩ := p
 have hk := handed_plain hn hh
 subst hk
 obtain hno | ⟨v0, out, hdet, _⟩ := hΓ g m hm args' []
 ·simp [hh, hno] at h0
 refine ⟨v0, out, fun bl2 K => ?_⟩
 unfold callK
 simp only [hm, hl]
 rw [show reach bl2 40 [] [] = [] from rfl]
 simp only [handed_alike (bl2 := bl2) hh, List.map_nil]
 rw [hdet]
 simp only [Bool.false_eq_true, if_false, Bool.not_false, Bool.true_or, noFrees, List.all_nil, Bool.and_self, if_true, putBack]
theorem callF_new (hΓ : ∀ f m, C.Γ f = some m → CalleeS C.P C.G f m) {g : FuncId} {m : Callee} {args : List AV} {bl bl' : Blks} {v : AV} (h1 : C.ro (1000000 + g) = false) (h2 : C.ro (2000000 + g) = true) (hm : C.Γ g = some m) (hl : lentIds m.lend args = []) (hn : noOwns args = true) (r : R) (hd : ∀ K : Kont R, callF C g args bl K = K .write v bl') :
  ∃ bs, bl' = bl ++ bs ∧ ∀ bl2, bl2.length = bl.length → ∀ K : Kont R, callF C g args bl2 K = K .write v (bl2 ++ bs) := by
 have h0 := hd fun _ _ _ => some r
 simp only [callF, h1, h2] at h0
 obtain ⟨v0, out, form⟩ := call_form hΓ hm hl hn h0
 have formF : ∀ (bl2 : Blks) (K : Kont R), callF C g args bl2 K = callK C g args bl2 fun _ v bl' => match view bl' v with
   | some y => if ((ids v).all fun i => decide (bl2.length ≤ i)) = true then K .write y (killAll (ids v) bl') else none
   | none => none := fun bl2 K => by simp only [callF, h1, h2]; rfl
 by_cases he : (([] : List Nat).isEmpty && out.isEmpty) = true
 ·by_cases hv : noOwn v0 = true
  ·have hi : ids v0 = [] := noOwn_ids hv
   have key : ∀ (bl2 : Blks) (K : Kont R), callF C g args bl2 K = K .write v0 bl2 := fun bl2 K => by
    rw [formF, form, if_pos he, if_pos hv, view_noOwn _ hv]
    simp only [hi, List.all_nil, if_true, killAll]
   obtain ⟨_, k2, k3⟩ := det_one r hd (fun K => key bl K)
   subst k2 k3
   exact ⟨[], by simp, fun bl2 _ K => by rw [key]; simp⟩
  ·rw [form, if_pos he, if_neg hv] at h0
   cases h0
 ·rw [form, if_neg he] at h0
  split at h0 <;> (try (cases h0; done))
  rename_i y hy
  split at h0 <;> (try (cases h0; done))
  rename_i hid
  have hge : ∀ i ∈ ids (ren (backOf [] bl.length) v0), bl.length ≤ i := fun i hi => by simpa using List.all_eq_true.1 hid i hi
  have key : ∀ (bl2 : Blks), bl2.length = bl.length → ∀ K : Kont R, callF C g args bl2 K = K .write y (bl2 ++ killAll ((ids (ren (backOf [] bl.length) v0)).map (· - bl.length)) (out.map (Option.map (renB (backOf [] bl.length))))) := fun bl2 hb K => by
   rw [formF, form, if_neg he, hb, view_alike (bl := bl ++ out.map (Option.map (renB (backOf [] bl.length)))) fun i hi => ?_, hy]
   ·simp only [hid, if_true]
    rw [killAll_append _ _ _ (by rw [hb]; exact hge), hb]
   ·have := hge i hi
    unfold bget
    rw [List.getD_eq_getElem?_getD, List.getD_eq_getElem?_getD, List.getElem?_append_right (by omega), List.getElem?_append_right (by omega), hb]
  obtain ⟨_, k2, k3⟩ := det_one r hd (fun K => key bl rfl K)
  subst k2
  exact ⟨_, k3, key⟩
theorem callF_plain (hΓ : ∀ f m, C.Γ f = some m → CalleeS C.P C.G f m) {g : FuncId} {args : List AV} {bl bl' : Blks} {v : AV} (r : R) (hd : ∀ K : Kont R, callF C g args bl K = K .read v bl') : C.ro (1000000 + g) = false ∧ C.ro (2000000 + g) = false := by
 have h0 := hd fun c _ _ => match c with | .write => none | _ => some r
 unfold callF at h0
 cases h1 : C.ro (1000000 + g) with
 | true =>
  simp only [h1] at h0
  split at h0 <;> (try (cases h0; done))
  obtain ⟨_, _, _, k1, _⟩ := callK_sound hΓ h0
  rw [k1.det] at h0
  cases h0
 | false =>
  simp only [h1] at h0
  cases h2 : C.ro (2000000 + g) with
  | true =>
   simp only [h2] at h0
   obtain ⟨_, _, _, k1, _⟩ := callK_sound hΓ h0
   rw [k1.det] at h0
   split at h0 <;> first | (cases h0; done) | (split at h0 <;> cases h0)
  | false => exact ⟨rfl, rfl⟩
theorem loc_of0 (hΓ : ∀ f m, C.Γ f = some m → CalleeS C.P C.G f m) {o : Oper} {ev : Operand → AV} {bl bl' : Blks} {c : Cat} {v : AV} (r : R) (hd : ∀ K : Kont R, opK C o ev bl K = K c v bl') : Loc R C none o ev bl v bl' (fine C none o.op ev bl.length c) := by
 obtain ⟨dst, op, type, pos, after, guard⟩ := o
 cases c with
 | pure => trivial
 | read =>
  generalize hrc : fine C none _ ev bl.length .read = rc
  have hcat : rc.cat = .read := by rw [← hrc]; exact fine_cat _ _ _ _ _
  cases rc with
  | readAt id =>
   intro bl2 hb K
   by_cases hcall : ∃ cl f, op = .call cl ∧ cl.callee = .value f
   ·obtain ⟨cl, f, rfl, hcl⟩ := hcall
    simp only [fine, hcl] at hrc
    unfold callLook at hrc
    split at hrc <;> (try (cases hrc; done))
    rename_i g a b hf
    split at hrc <;> (try (cases hrc; done))
    rename_i m hm
    split at hrc <;> (try (cases hrc; done))
    rename_i id' hl hi
    cases hrc
    simp only [opA, opK, hcl, hf] at hd ⊢
    obtain ⟨hr1, hr2⟩ := callF_plain hΓ r hd
    simp only [callF, hr1, hr2] at hd ⊢
    exact call_look hΓ hm hl r hd bl2 (fun i hi' => by rw [hi] at hi'; simp at hi'; subst hi'; exact hb) K
   ·have := at_op (R := R) (C := C) (o := ⟨dst, op, type, pos, after, guard⟩) (fun cl f h1 h2 => hcall ⟨cl, f, h1, h2⟩) hrc bl bl2 (fun c v _ => K c v bl2) K hb fun _ _ => rfl
    refine Eq.trans this ?_
    rw [hd]
  | pure => trivial
  | read => trivial
  | write => trivial
  | storeAt id => cases hcat
  | alloc id => cases hcat
 | write =>
  cases op <;> try trivial
  case buildSlice t n ps =>
   simp only [fine]
   split
   ·rename_i hi
    simp only [opK, buildSliceF, hi] at hd
    by_cases hob : ∃ u e w l, buildSliceB C t n (ps.toList.map fun p => (p.1, ev p.2)) = some (u, .objs e w l)
    ·obtain ⟨u, e, w, l, hob⟩ := hob
     simp only [hob] at hd
     obtain ⟨h2, _, _⟩ := det_one r (F := fun K => K .pure (.robjs e w l) bl) hd (fun K => rfl)
     cases h2
    ·by_cases hoi : ∃ u k l, buildSliceB C t n (ps.toList.map fun p => (p.1, ev p.2)) = some (u, .ints k l) ∧ C.ro (5000000 + t) = true
     ·obtain ⟨u, k, l, hoi, hro⟩ := hoi
      simp only [hoi, if_pos hro] at hd
      obtain ⟨_, h2, h3⟩ := det_one r (F := fun K => K .write (.rints k l) (bl ++ [none])) hd (fun K => rfl)
      refine ⟨[none], rfl, h3, fun bl2 hb K => ?_⟩
      simp only [opA, opK, buildSliceF, hi, hoi, if_pos hro, h2]
     ·have form : ∀ (bl2 : Blks) (K : Kont R), (match buildSliceB C t n (ps.toList.map fun p => (p.1, ev p.2)) with | some (_, .objs e w l) => K .pure (.robjs e w l) bl2 | some (_, .ints k l) => if C.ro (5000000 + t) = true then K .write (.rints k l) (bl2 ++ [none]) else buildSliceK C t n (ps.toList.map fun p => (p.1, ev p.2)) bl2 K | _ => buildSliceK C t n (ps.toList.map fun p => (p.1, ev p.2)) bl2 K) = buildSliceK C t n (ps.toList.map fun p => (p.1, ev p.2)) bl2 K := fun bl2 K => by
       split
       ·rename_i u e w l h
        exact absurd ⟨u, e, w, l, h⟩ hob
       ·rename_i u k l h
        rw [if_neg fun hro => hoi ⟨u, k, l, h, hro⟩]
       ·rfl
      have hd' : ∀ K : Kont R, buildSliceK C t n (ps.toList.map fun p => (p.1, ev p.2)) bl K = K .write v bl' := fun K => (form bl K).symm.trans (hd K)
      obtain ⟨bs, h1, h2⟩ := buildSliceK_al r hd'
      refine ⟨bs, rfl, h1, fun bl2 hb K => ?_⟩
      simp only [opA, opK, buildSliceF, hi]
      exact (form bl2 K).trans (h2 bl2 hb K)
   ·trivial
  case alloc t =>
   simp only [fine, opK] at hd ⊢
   cases hz : zeroOf C.P t with
   | none =>
    have := hd fun _ _ _ => some r
    simp only [hz] at this
    cases this
   | some z =>
    simp only [hz] at hd
    obtain ⟨_, h2, h3⟩ := det_one r (F := fun K => K .write (.ptr bl.length []) (bl ++ [some (.var z)])) hd (fun K => rfl)
    refine ⟨[some (.var z)], rfl, h3, fun bl2 hb K => ?_⟩
    simp only [opA, opK, hz, hb, h2]
  case box t x =>
   cases hro : isRo C t (ev x) with
   | true =>
    simp only [opK, hro] at hd
    obtain ⟨h2, _, _⟩ := det_one r (F := fun K => K .pure (.rptr (ev x)) bl) hd (fun K => rfl)
    cases h2
   | false =>
   simp only [fine, opK, hro] at hd ⊢
   have key : ∀ (bl : Blks) (K : Kont R), (match ev x with | .any => none | .tup _ => none | v => K .write (.ptr bl.length []) (bl ++ [some (.var v)])) = if (match ev x with | .any => false | .tup _ => false | _ => true) = true then K .write (.ptr bl.length []) (bl ++ [some (.var (ev x))]) else none := fun bl K => by
    cases ev x <;> rfl
   have hd : ∀ K : Kont R, (if (match ev x with | .any => false | .tup _ => false | _ => true) = true then K .write (.ptr bl.length []) (bl ++ [some (.var (ev x))]) else none) = K .write v bl' := fun K => (key bl K).symm.trans (hd K)
   by_cases hc : (match ev x with | .any => false | .tup _ => false | _ => true) = true
   ·simp only [if_pos hc] at hd
    obtain ⟨_, h2, h3⟩ := det_one r (F := fun K => K .write (.ptr bl.length []) (bl ++ [some (.var (ev x))])) hd (fun K => rfl)
    refine ⟨[some (.var (ev x))], rfl, h3, fun bl2 hb K => ?_⟩
    simp only [opA, opK, hro]
    refine (key bl2 K).trans ?_
    rw [if_pos hc, hb, h2]
   ·simp only [if_neg hc] at hd
    have := hd fun _ _ _ => some r
    cases this
  case call c =>
   simp only [fine]
   split
   ·rename_i f hc
    unfold callCat
    split
    ·rename_i g a b hf
     split
     ·rename_i m hm
      split
      ·rename_i hno
       simp only [Bool.and_eq_true, List.isEmpty_iff, Bool.not_eq_true'] at hno
       obtain ⟨hr1, hno⟩ := hno
       cases hr2 : C.ro (2000000 + g) with
       | true =>
        have key : ∀ (bl : Blks) (K : Kont R), opA C none ⟨dst, .call c, type, pos, after, guard⟩ ev bl K = callF C g (a ++ c.args.toList.map ev ++ b) bl K := fun bl K => by simp only [opA, opK, hc, hf]
        have hd : ∀ K : Kont R, callF C g (a ++ c.args.toList.map ev ++ b) bl K = K .write v bl' := fun K => (key bl K).symm.trans (hd K)
        obtain ⟨bs, h1, h2⟩ := callF_new hΓ hr1 hr2 hm hno.1 hno.2 r hd
        exact ⟨bs, rfl, h1, fun bl2 hb K => (key bl2 K).trans (h2 bl2 hb K)⟩
       | false =>
       have key : ∀ (bl : Blks) (K : Kont R), opA C none ⟨dst, .call c, type, pos, after, guard⟩ ev bl K = callK C g (a ++ c.args.toList.map ev ++ b) bl K := fun bl K => by simp only [opA, opK, hc, hf, callF, hr1, hr2]
       have hd : ∀ K : Kont R, callK C g (a ++ c.args.toList.map ev ++ b) bl K = K .write v bl' := fun K => (key bl K).symm.trans (hd K)
       obtain ⟨bs, h1, h2⟩ := call_new hΓ hm hno.1 hno.2 r hd
       exact ⟨bs, rfl, h1, fun bl2 hb K => (key bl2 K).trans (h2 bl2 hb K)⟩
      ·trivial
     ·trivial
    ·trivial
   ·trivial
  rename_i t a x
  simp only [fine]
  split
  ·rename_i id p ha
   simp only [opK, ha] at hd
   have key : ∀ (bl : Blks) (K : Kont R), storeK C t (.ptr id p) (ev x) bl K = match (match bget bl id with | some b => (match setB b p (ev x) with | some b' => if (solid (ev x) && conf C.P 8 t (ev x)) = true then some b' else none | none => none) | none => none) with | some b' => K .write .any (bl.set id (some b')) | none => none := fun bl K => by
    simp only [storeK]
    cases bget bl id with
    | none => rfl
    | some b =>
     simp only
     cases setB b p (ev x) with
     | none => rfl
     | some b' => simp only; split <;> rfl
   simp only [key] at hd
   split at hd
   ·rename_i b' hx
    obtain ⟨_, h2, h3⟩ := det_one r (F := fun K => K .write .any (bl.set id (some b'))) hd (fun K => rfl)
    refine ⟨b', h3, ?_, ?_, fun bl2 hb K => ?_⟩
    ·cases hg : bget bl id with
     | none => rw [hg] at hx; cases hx
     | some q => exact bget_lt hg
    ·intro hg
     rw [hg] at hx; cases hx
    ·simp only [opA, opK, ha, key]
     rw [hb, hx, h2]
   ·have := hd fun _ _ _ => some r
    cases this
  ·trivial
theorem loc_kept {id : Nat} {x : AV} {bl bl' : Blks} {c : Cat} {v : AV} (r : R) (hd : ∀ K : Kont R, keptK id x bl K = K c v bl') :
  ∃ b, bl' = bl.set id (some b) ∧ id < bl.length ∧ bget bl id ≠ none ∧ ∀ bl2, bget bl2 id = bget bl id → ∀ K : Kont R, keptK id x bl2 K = K .write v (bl2.set id (some b)) := by
 obtain ⟨hb, hd2⟩ := keptK_inv (K := fun _ _ _ => some r) (r := r) (hd _)
 obtain ⟨_, h2, h3⟩ := det_one r (F := fun K => keptK id x bl K) hd hd2
 refine ⟨.var x, h3, bget_lt hb, by rw [hb]; simp, fun bl2 h K => ?_⟩
 simp only [keptK, h, hb, h2]
theorem loc_of (hΓ : ∀ f m, C.Γ f = some m → CalleeS C.P C.G f m) {rs : Option Nat} {o : Oper} {ev : Operand → AV} {bl bl' : Blks} {c : Cat} {v : AV} (r : R) (hd : ∀ K : Kont R, opA C rs o ev bl K = K c v bl') : Loc R C rs o ev bl v bl' (fine C rs o.op ev bl.length c) := by
 cases rs with
 | none => exact loc_of0 hΓ r hd
 | some id =>
 by_cases hal : isAl o.op = false
 ·rw [opA_not hal] at hd
  have h := loc_of0 hΓ r hd
  have e : fine C (some id) o.op ev bl.length c = fine C none o.op ev bl.length c := by
   cases c <;> try rfl
   cases hop : o.op <;> first
    | rfl
    | (rw [hop] at hal; cases hal)
  rw [e]
  generalize fine C none o.op ev bl.length c = rc at h ⊢
  cases rc with
  | readAt i => exact fun bl2 hb K => by rw [opA_not hal]; exact h bl2 hb K
  | storeAt i =>
   obtain ⟨b, h1, h2, h3, h4⟩ := h
   exact ⟨b, h1, h2, h3, fun bl2 hb K => by rw [opA_not hal]; exact h4 bl2 hb K⟩
  | alloc i =>
   obtain ⟨b, h1, h2, h3⟩ := h
   exact ⟨b, h1, h2, fun bl2 hb K => by rw [opA_not hal]; exact h3 bl2 hb K⟩
  | pure => trivial
  | read => trivial
  | write => trivial
 obtain ⟨dst, op, ty, ps, af, gd⟩ := o
 cases op <;> first
  | exact absurd rfl hal
  | skip
 case alloc t =>
  simp only [opA] at hd
  cases hz : zeroOf C.P t with
  | none =>
   have := hd fun _ _ _ => some r
   rw [hz] at this
   cases this
  | some z =>
   simp only [hz] at hd
   have hc : c = .write := by
    obtain ⟨_, hd2⟩ := keptK_inv (K := fun _ _ _ => some r) (r := r) (hd _)
    exact (det_one r (F := fun K => keptK id z bl K) hd hd2).1
   subst hc
   obtain ⟨b, h1, h2, h3, h4⟩ := loc_kept r hd
   exact ⟨b, h1, h2, h3, fun bl2 hb K => by simp only [opA, hz]; exact h4 bl2 hb K⟩
 case box t x =>
  cases hro : isRo C t (ev x) with
  | true =>
   simp only [opA, hro] at hd
   obtain ⟨rfl, _, _⟩ := det_one r (F := fun K => K .pure (.rptr (ev x)) bl) hd (fun K => rfl)
   trivial
  | false =>
  simp only [opA, hro] at hd
  have key : ∀ (bl : Blks) (K : Kont R), (match ev x with | .any => none | .tup _ => none | v => keptK id v bl K) = if (match ev x with | .any => false | .tup _ => false | _ => true) = true then keptK id (ev x) bl K else none := fun bl K => by
   cases ev x <;> rfl
  have hd : ∀ K : Kont R, (if (match ev x with | .any => false | .tup _ => false | _ => true) = true then keptK id (ev x) bl K else none) = K c v bl' := fun K => (key bl K).symm.trans (hd K)
  by_cases hc : (match ev x with | .any => false | .tup _ => false | _ => true) = true
  ·simp only [if_pos hc] at hd
   have hw : c = .write := by
    obtain ⟨_, hd2⟩ := keptK_inv (K := fun _ _ _ => some r) (r := r) (hd _)
    exact (det_one r (F := fun K => keptK id (ev x) bl K) hd hd2).1
   subst hw
   obtain ⟨b, h1, h2, h3, h4⟩ := loc_kept r hd
   refine ⟨b, h1, h2, h3, fun bl2 hb K => ?_⟩
   simp only [opA, hro]
   refine (key bl2 K).trans ?_
   rw [if_pos hc]
   exact h4 bl2 hb K
  ·simp only [if_neg hc] at hd
   have := hd fun _ _ _ => some r
   cases this
theorem opS_of_det (hΓ : ∀ f m, C.Γ f = some m → CalleeS C.P C.G f m) {rs : Option Nat} {o : Oper} {ev : Operand → AV} {bl bl' : Blks} {c : Cat} {v : AV} (r : R) (hd : ∀ K : Kont R, opA C rs o ev bl K = K c v bl') : OpA R C rs o ev bl c v bl' := by
 obtain ⟨c', v', bl1, hos⟩ := opA_sound hΓ (hd fun _ _ _ => some r)
 obtain ⟨rfl, rfl, rfl⟩ := det_one r hos.1.det hd
 exact hos
structure StepAt (R : Type) (C : Ctx) (ops : Array Oper) (o : Oper) (tm tm' : List AV) (bl bl' : Blks) (v : AV) (rc : RC) (yes : Bool) : Prop where
 guard : GuardAt ops o tm yes
 slots : tm' = put tm o.dst v
 op : yes = true → ∃ rs ev, (∀ x ∈ o.op.operands, ev x = get C tm x) ∧ (∀ x, x ∉ o.op.operands → ev x = .any) ∧ OpA R C rs o ev bl rc.cat v bl' ∧ Loc R C rs o ev bl v bl' rc
 no : yes = false → v = .tup [] ∧ rc = .pure ∧ bl' = bl
 same : rc.cat ≠ .write → bl' = bl
 at' : ∀ id, rc = .storeAt id → ∃ b, bl' = bl.set id (some b) ∧ id < bl.length ∧ bget bl id ≠ none
 al' : ∀ id, rc = .alloc id → ∃ bs, id = bl.length ∧ bl' = bl ++ bs
theorem opsK_inv (hΓ : ∀ f m, C.Γ f = some m → CalleeS C.P C.G f m) {ops : Array Oper} : ∀ {rs : Option Nat} {l : List Oper} {tm : List AV} {bl : Blks} {cs : List RC} {K : List RC → List AV → Blks → Option R} {r : R}, opsK C ops rs l tm bl cs K = some r →
  ∃ (TM : Nat → List AV) (BL : Nat → Blks) (V : Nat → AV) (cat : Nat → RC) (yes : Nat → Bool), TM 0 = tm ∧ BL 0 = bl ∧
   (∀ (i : Nat) o, l[i]? = some o → StepAt R C ops o (TM i) (TM (i + 1)) (BL i) (BL (i + 1)) (V i) (cat i) (yes i)) ∧
   ∀ K2 : List RC → List AV → Blks → Option R, opsK C ops rs l tm bl cs K2 = K2 (cs.reverse ++ (List.range l.length).map cat) (TM l.length) (BL l.length)
 | rs, [], tm, bl, cs, K, r, h => ⟨fun _ => tm, fun _ => bl, fun _ => .any, fun _ => .pure, fun _ => true, rfl, rfl, fun i o h => by simp at h, fun K2 => by simp [opsK]⟩
 | rs, o :: l, tm, bl, cs, K, r, h => by
  classical
  unfold opsK at h
  obtain ⟨yes, hg, hdet⟩ := guardK_inv h
  rw [hdet] at h
  have glue : ∀ (v : AV) (c : RC) (bl1 : Blks), StepAt R C ops o tm (put tm o.dst v) bl bl1 v c yes → (∀ K2 : List RC → List AV → Blks → Option R, opsK C ops rs (o :: l) tm bl cs K2 = opsK C ops (nextR rs o.op) l (put tm o.dst v) bl1 (c :: cs) K2) →
    opsK C ops (nextR rs o.op) l (put tm o.dst v) bl1 (c :: cs) K = some r →
    ∃ (TM : Nat → List AV) (BL : Nat → Blks) (V : Nat → AV) (cat : Nat → RC) (yes : Nat → Bool), TM 0 = tm ∧ BL 0 = bl ∧
     (∀ (i : Nat) p, (o :: l)[i]? = some p → StepAt R C ops p (TM i) (TM (i + 1)) (BL i) (BL (i + 1)) (V i) (cat i) (yes i)) ∧
     ∀ K2 : List RC → List AV → Blks → Option R, opsK C ops rs (o :: l) tm bl cs K2 = K2 (cs.reverse ++ (List.range (o :: l).length).map cat) (TM (o :: l).length) (BL (o :: l).length) := by
   intro v c bl1 hst hd hk
   obtain ⟨TM, BL, V, cat, ys, h1, h2, h3, h4⟩ := opsK_inv hΓ hk
   refine ⟨fun i => match i with | 0 => tm | i + 1 => TM i, fun i => match i with | 0 => bl | i + 1 => BL i, fun i => match i with | 0 => v | i + 1 => V i,
    fun i => match i with | 0 => c | i + 1 => cat i, fun i => match i with | 0 => yes | i + 1 => ys i, rfl, rfl, fun i p hp => ?_, fun K2 => ?_⟩
   ·cases i with
    | zero =>
     simp at hp
     subst hp
     simp only [h1, h2]
     exact hst
    | succ i => exact h3 i p (by simpa using hp)
   ·rw [hd, h4]
    simp [List.range_succ_eq_map, Function.comp_def]
  cases yes with
  | true =>
   simp only [if_true] at h
   have hc : ∀ x ∈ o.op.operands, get C tm x = (if x ∈ o.op.operands then get C tm x else .any) := fun x hx => by simp [hx]
   rw [opA_congr o hc] at h
   obtain ⟨c, v, bl1, hos⟩ := opA_sound hΓ h
   have hks := hos.1
   have hloc := loc_of hΓ r hks.det
   rw [hks.det] at h
   rw [fine_congr o hc] at h
   generalize hrc : fine C rs o.op (fun x => if x ∈ o.op.operands then get C tm x else .any) bl.length c = rc at h hloc
   have hcat : rc.cat = c := by rw [← hrc]; exact fine_cat _ _ _ _ _
   refine glue v rc bl1 ⟨hg, rfl, fun _ => ⟨rs, _, fun x hx => by simp [hx], fun x hx => by simp [hx], by rw [hcat]; exact hos, hloc⟩, fun h => (by cases h), fun hcn => ?_, fun id hid => ?_, fun id hid => ?_⟩ (fun K2 => ?_) h
   ·rw [hcat] at hcn
    cases c with
    | pure => exact (hks.pure rfl).1
    | read => exact hks.read rfl
    | write => exact absurd rfl hcn
   ·subst hid
    obtain ⟨b, h1, h2, h3, _⟩ := hloc
    exact ⟨b, h1, h2, h3⟩
   ·subst hid
    obtain ⟨b, h1, h2, _⟩ := hloc
    exact ⟨b, h1, h2⟩
   ·conv => lhs; unfold opsK
    rw [hdet]
    simp only [if_true]
    rw [opA_congr o hc, hks.det, fine_congr o hc, hrc]
  | false =>
   simp only [Bool.false_eq_true, if_false] at h
   refine glue (.tup []) .pure bl ⟨hg, rfl, fun h => (by cases h), fun _ => ⟨rfl, rfl, rfl⟩, fun _ => rfl, fun id h => (by cases h), fun id h => (by cases h)⟩ (fun K2 => ?_) h
   conv => lhs; unfold opsK
   rw [hdet]
   simp
structure SR (C : Ctx) (E : Env) (tm : List AV) (bl : Blks) (a : Act) : Prop where
 bl : E.bl = bl
 mem : Mem E
 glob : Glob C.G E
 size : a.tmps.size = tm.length
 vr : ∀ t, VR E true (tm.getD t .any) (a.tmps.getD t undef)
 defers : a.defers = []
theorem ofConst_vr (E : Env) (o : Bool) (v : Value) : VR E o (ofConst v) v := by
 unfold ofConst
 split
 ·exact .bool _ _
 ·exact .int _ _ _
 ·exact .str _ _
 ·exact .snil _
 ·exact .nilp _
 ·exact .nilf _
 ·exact .nili _
 ·exact .any _ _
theorem get_vr {E : Env} {tm : List AV} {a : Act} {x : Operand} (g : Glob C.G E) (h : ∀ t, x = .tmp t → VR E true (tm.getD t .any) (a.tmps.getD t undef)) : VR E true (get C tm x) (a.eval x) := by
 cases x with
 | tmp t => exact h t rfl
 | const v => exact ofConst_vr _ _ _
 | global n =>
  have := g.vars n
  simp only [get]
  split
  ·exact .any _ _
  ·rename_i hx
   split at this
   ·rename_i he; exact absurd he hx
   ·exact this.lift
 | func f => exact .fn _ _ _ _ _ _ rfl rfl (fun j x c h => by simp at h) (fun j x c h => by simp at h)
def blAft (rc : RC) (bl bl' : Blks) : Blks := match rc with
 | .storeAt id => bl.set id (bget bl' id)
 | .alloc _ => bl ++ bl'.drop bl.length
 | .write => bl'
 | _ => bl
theorem step_wp (hΓ : ∀ f m, C.Γ f = some m → CalleeS C.P C.G f m) (r : R) {ops : Array Oper} {i : Nat} {o : Oper} {tm tm' : List AV} {bl bl' : Blks} {v : AV} {rc : RC} {yes : Bool} (hs : StepAt R C ops o tm tm' bl bl' v rc yes) (hi : ops[i]? = some o) {E : Env} {a : Act}
  {K : Act → World → Prop} {Q : Exit → Act → World → Prop} (hE : E.bl = bl ∨ rc = .pure ∨ (∃ id, (rc = .readAt id ∨ rc = .storeAt id) ∧ bget E.bl id = bget bl id) ∨ (∃ id, rc = .alloc id ∧ E.bl.length = bl.length)) (m : Mem E) (g : Glob C.G E)
  (hl : ∀ t ∈ o.looksAt ops, VR E true (tm.getD t .any) (a.tmps.getD t undef))
  (hK : ∀ E' v', Go E E' → E'.bl = blAft rc E.bl bl' → VR E' true v v' → K (a.put o.dst v') E'.w) : wpOp C.P ops Q i K a E.w := by
 unfold wpOp
 simp only [hi]
 rw [hs.guard.wanted hl]
 cases yes with
 | true =>
  obtain ⟨rs, ev, h1, h2, hos, hloc⟩ := hs.op rfl
  simp only [if_true]
  have hev : ∀ x, VR E true (ev x) (a.eval x) := fun x => by
   by_cases hx : x ∈ o.op.operands
   ·rw [h1 x hx]
    refine get_vr g fun t ht => hl t ?_
    subst ht
    exact List.mem_append_left _ (List.mem_filterMap.2 ⟨.tmp t, by simpa using hx, rfl⟩)
   ·rw [h2 x hx]
    exact .any _ _
  refine .inl ?_
  have use : ∀ (c : Cat) (b1 b2 : Blks), OpA R C rs o ev b1 c v b2 → (E.bl = b1 ∨ c = .pure) → (if c = .pure then E.bl else b2) = blAft rc E.bl bl' → o.wp C.P a E.w K Q := fun c b1 b2 hos hE hb =>
   hos.2 E a hE m g hev K Q fun v' w' ⟨E', e1, e2, e3, e4⟩ => by
    rw [← e1]
    exact hK E' v' e3 (e2.trans hb) e4
  have full : (∀ id, rc ≠ .readAt id) → (∀ id, rc ≠ .storeAt id) → (∀ id, rc ≠ .alloc id) → rc ≠ .pure → E.bl = bl := fun h1 h2 h4 h3 => by
   rcases hE with h | h | ⟨id, h | h, _⟩ | ⟨id, h, _⟩
   ·exact h
   ·exact absurd h h3
   ·exact absurd h (h1 id)
   ·exact absurd h (h2 id)
   ·exact absurd h (h4 id)
  have part : ∀ id, (rc = .readAt id ∨ rc = .storeAt id) → bget E.bl id = bget bl id := fun id h => by
   rcases hE with h' | h' | ⟨id', h', hb⟩ | ⟨id', h', _⟩
   ·rw [h']
   ·subst h'; rcases h with h | h <;> cases h
   ·rcases h with rfl | rfl <;> rcases h' with h' | h' <;> cases h' <;> exact hb
   ·subst h'; rcases h with h | h <;> cases h
  cases rc with
  | pure => exact use .pure bl bl' hos (.inr rfl) rfl
  | read =>
   have h := full (by simp) (by simp) (by simp) (by simp)
   exact use .read bl bl' hos (.inl h) (by rw [hs.same (by simp [RC.cat])]; simpa [blAft] using h.symm)
  | readAt id => exact use .read E.bl E.bl (opS_of_det hΓ r (hloc E.bl (part id (.inl rfl)))) (.inl rfl) rfl
  | storeAt id =>
   obtain ⟨q, e1, e3, _, e4⟩ := hloc
   refine use .write E.bl _ (opS_of_det hΓ r (e4 E.bl (part id (.inr rfl)))) (.inl rfl) ?_
   simp only [reduceCtorEq, if_false, blAft, e1]
   rw [bget_set_self e3]
  | alloc id =>
   obtain ⟨q, e0, e1, e2⟩ := hloc
   have hl : E.bl.length = bl.length := by
    rcases hE with h | h | ⟨id', h, _⟩ | ⟨id', _, h⟩
    ·rw [h]
    ·cases h
    ·rcases h with h | h <;> cases h
    ·exact h
   refine use .write E.bl _ (opS_of_det hΓ r (e2 E.bl hl)) (.inl rfl) ?_
   simp only [reduceCtorEq, if_false, blAft, e1, hl]
   rw [List.drop_left]
  | write =>
   have h := full (by simp) (by simp) (by simp) (by simp)
   exact use .write bl bl' hos (.inl h) rfl
 | false =>
  obtain ⟨rfl, rfl, rfl⟩ := hs.no rfl
  simp only [Bool.false_eq_true, if_false]
  exact hK E undef (.refl m) rfl (.tup _ [] #[] rfl (fun j x c h => by simp at h))
theorem getD_put (tm : List AV) (d : Option Nat) (v : AV) (t : Nat) : (put tm d v).getD t .any = if d = some t ∧ t < tm.length then v else tm.getD t .any := by
 unfold put
 cases d with
 | none => simp
 | some d =>
  simp only [List.getD_eq_getElem?_getD, List.getElem?_set]
  by_cases h : d = t
  ·subst h
   by_cases h2 : d < tm.length
   ·simp [h2]
   ·simp [h2]
  ·simp [h]
theorem put_length (tm : List AV) (d : Option Nat) (v : AV) : (put tm d v).length = tm.length := by cases d <;> simp [put]
theorem act_put_get (a : Act) (d : Option Nat) (v : Value) (t : Nat) : (a.put d v).tmps.getD t undef = if d = some t ∧ t < a.tmps.size then v else a.tmps.getD t undef := by
 cases d with
 | none => simp [Act.put]
 | some d =>
  simp only [Act.put, Array.getD_eq_getD_getElem?, Array.getElem?_setIfInBounds]
  by_cases h : d = t
  ·subst h
   by_cases h2 : d < a.tmps.size
   ·simp [h2]
   ·simp [h2]
  ·simp [h]
theorem act_put_size (a : Act) (d : Option Nat) (v : Value) : (a.put d v).tmps.size = a.tmps.size := by cases d <;> simp [Act.put]
theorem act_put_defers (a : Act) (d : Option Nat) (v : Value) : (a.put d v).defers = a.defers := by cases d <;> rfl
theorem SR.put {E E' : Env} {tm : List AV} {bl bl' : Blks} {a : Act} (s : SR C E tm bl a) (g : Go E E') (hb : E'.bl = bl') {d : Option Nat} {v : AV} {v' : Value} (hv : VR E' true v v') :
  SR C E' (put tm d v) bl' (a.put d v') := by
 refine ⟨hb, g.mem, s.glob.mono g.step.ro g.step.mp g.fr.keeps, by rw [act_put_size, put_length, s.size], fun t => ?_, by rw [act_put_defers, s.defers]⟩
 rw [getD_put, act_put_get, s.size]
 split
 ·exact hv
 ·exact (s.vr t).mono g.step
theorem ops_text (hΓ : ∀ f m, C.Γ f = some m → CalleeS C.P C.G f m) (r : R) {ops : Array Oper} {TM : Nat → List AV} {BL : Nat → Blks} {V : Nat → AV} {cat : Nat → RC} {yes : Nat → Bool}
  (hst : ∀ (i : Nat) o, ops[i]? = some o → StepAt R C ops o (TM i) (TM (i + 1)) (BL i) (BL (i + 1)) (V i) (cat i) (yes i)) {Q : Exit → Act → World → Prop} :
  ∀ (n i : Nat) (E : Env) (a : Act), i + n = ops.size → SR C E (TM i) (BL i) a → (∀ E' a', Go E E' → SR C E' (TM ops.size) (BL ops.size) a' → Q .normal a' E'.w) →
   wpOps C.P ops Q (List.range' i n) a E.w
 | 0, i, E, a, hn, hs, hq => by
  have : i = ops.size := by omega
  subst this
  exact hq E a (.refl hs.mem) hs
 | n + 1, i, E, a, hn, hs, hq => by
  rw [List.range'_succ, wpOps_cons]
  have hi : i < ops.size := by omega
  have ho := Array.getElem?_eq_getElem hi
  have st := hst i _ ho
  refine step_wp hΓ r st ho (.inl hs.bl) hs.mem hs.glob (fun t _ => hs.vr t) fun E' v' g hb hv => ?_
  have s' := hs.put (d := ops[i].dst) g (bl' := BL (i + 1)) (by
   rw [hb, hs.bl]
   have hsame := st.same
   have hat := st.at'
   have hal := st.al'
   revert hsame hat hal
   generalize cat i = rc
   intro hsame hat hal
   cases rc with
   | alloc id =>
    obtain ⟨b, h1, h2⟩ := hal id rfl
    simp only [blAft, h2]
    rw [List.drop_left]
   | pure => exact (hsame (by simp [RC.cat])).symm
   | read => exact (hsame (by simp [RC.cat])).symm
   | readAt id => exact (hsame (by simp [RC.cat])).symm
   | storeAt id =>
    obtain ⟨b, h1, h2, _⟩ := hat id rfl
    simp only [blAft, h1]
    rw [bget_set_self h2]
   | write => rfl) hv
  rw [← st.slots] at s'
  exact ops_text hΓ r hst n (i + 1) E' _ (by omega) s' fun E2 a2 g2 s2 => hq E2 a2 (g.trans g2) s2
end
end Go.Abs
end
