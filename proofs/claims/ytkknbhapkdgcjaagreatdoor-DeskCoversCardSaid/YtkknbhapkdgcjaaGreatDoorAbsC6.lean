/- An executor of the model's code over abstract values, and that it is right: what it tells of a run is what the run does. No condition. -/
import Derived.Test.YtkknbhapkdgcjaaGreatDoorAbsC5
section
set_option linter.unusedVariables false
set_option linter.unusedSimpArgs false
namespace Go.Abs
open Go
section
variable {R : Type} {C : Ctx}
theorem zGZ {ev ev' : Operand → AV} (o : Oper) (h : ∀ x ∈ o.op.operands, ev x = ev' x) (bl : zC) (K : z9 R) : opK C o ev bl K = opK C o ev' bl K := by
 obtain ⟨dst, op, type, pos, after, guard⟩ := o
 have pairs : ∀ ps : Array (Nat × Operand), (∀ x ∈ ps.map (·.2), ev x = ev' x) → (ps.toList.map fun p => (p.1, ev p.2)) = (ps.toList.map fun p => (p.1, ev' p.2)) := fun ps hp =>
  List.map_congr_left fun p hm => by
   obtain ⟨i, x⟩ := p
   simp only [hp x (Array.mem_map.2 ⟨(i, x), by simpa using hm, rfl⟩)]
 cases op <;> simp only [Op.operands] at h <;> simp only [opK]
 case build t ps => rw [pairs ps fun x hx => h x (by simpa using hx)]
 case buildSlice t n ps => rw [pairs ps fun x hx => h x (by simpa using hx)]
 case makeFunc fn first captured =>
  rw [List.map_congr_left (l := first.toList) fun x hx => h x (by simp at hx; simp [hx]), List.map_congr_left (l := captured.toList) fun x hx => h x (by simp at hx; simp [hx])]
 case call c =>
  have hargs : c.args.toList.map ev = c.args.toList.map ev' := List.map_congr_left fun x hx => h x (by simp at hx; simp [Call.operands, hx])
  rw [hargs]
  cases hc : c.callee with
  | value f => simp only [h f (by simp [Call.operands, hc])]
  | invoke r m => rfl
  | builtin b => rfl
 case slice t x lo hi mx => cases lo <;> cases hi <;> cases mx <;> simp_all
 case makeMap t res => cases res <;> rfl
 all_goals (first | rfl | (simp_all; done))
theorem zHb {rs : Option Nat} {ev ev' : Operand → AV} (o : Oper) (h : ∀ x ∈ o.op.operands, ev x = ev' x) (bl : zC) (K : z9 R) : opA C rs o ev bl K = opA C rs o ev' bl K := by
 cases rs with
 | none => exact zGZ o h bl K
 | some id =>
  by_cases hal : zLl o.op = false
  ·rw [zAt hal, zAt hal, zGZ o h]
  obtain ⟨dst, op, ty, ps, af, gd⟩ := o
  cases op <;> first
   | exact absurd rfl hal
   | skip
  case alloc t => rfl
  case box t x => simp only [opA, h x (by simp [Op.operands])]
def zFN (ops : Array Oper) (o : Oper) (tm : List AV) (yes : Bool) : Prop :=
 (o.guard = none ∧ yes = true) ∨ (∃ j want d b, o.guard = some (j, want) ∧ (ops[j]?).bind (·.dst) = some d ∧ tm.getD d .any = .bool b ∧ yes = (want == b)) ∨
  ∃ j want d, o.guard = some (j, want) ∧ (ops[j]?).bind (·.dst) = some d ∧ tm.getD d .any = .tup [] ∧ yes = false
theorem set_same {l : List AV} {d : Nat} {x : AV} (h : l.getD d .any = x) (hx : x ≠ .any) : l.set d x = l := by
 rcases Nat.lt_or_ge d l.length with hd | hd
 ·rw [List.getD_eq_getElem?_getD, List.getElem?_eq_getElem hd] at h
  simp at h
  rw [← h]
  exact List.set_getElem_self hd
 ·rw [List.getD_eq_getElem?_getD, List.getElem?_eq_none hd] at h
  exact absurd h.symm hx
theorem zKf {ops : Array Oper} {o : Oper} {tm : List AV} {K : Bool → List AV → Option R} {r : R} (h : zDx ops o tm K = some r) :
  ∃ yes, zFN ops o tm yes ∧ ∀ K2 : Bool → List AV → Option R, zDx ops o tm K2 = K2 yes tm := by
 unfold zDx at h
 split at h
 ·rename_i hg
  exact ⟨true, .inl ⟨hg, rfl⟩, fun K2 => by simp only [zDx, hg]⟩
 ·rename_i j want hg
  split at h
  ·rename_i d hd
   split at h
   ·rename_i b hb
    have hs := set_same hb (by simp)
    refine ⟨want == b, .inr (.inl ⟨j, want, d, b, hg, hd, hb, rfl⟩), fun K2 => ?_⟩
    simp only [zDx, hg, hd, hb]
    cases b with
    | true => simp [hs]
    | false => simp [hs]
   ·rename_i hb
    exact ⟨false, .inr (.inr ⟨j, want, d, hg, hd, hb, rfl⟩), fun K2 => by simp only [zDx, hg, hd, hb]⟩
   ·cases h
  ·cases h
theorem zFN.wanted {E : Env} {ops : Array Oper} {o : Oper} {tm : List AV} {yes : Bool} (h : zFN ops o tm yes) {a : Act}
  (hv : ∀ t ∈ o.looksAt ops, VR E true (tm.getD t .any) (a.tmps.getD t undef)) : Region.wanted o (yielded ops a.tmps) = yes := by
 rcases h with ⟨h, rfl⟩ | ⟨j, want, d, b, hg, hd, hb, rfl⟩ | ⟨j, want, d, hg, hd, hb, rfl⟩
 ·simp [Region.wanted, h]
 ·have := hv d (by simp [Oper.looksAt, hg, hd])
  rw [hb] at this
  have hval := this.bool_inv
  have : a.tmps[d]? = some (.bool b) := by
   cases hx : a.tmps[d]? with
   | none => simp [hx] at hval; cases hval
   | some u => simp [hx] at hval; rw [hval]
  simp [Region.wanted, hg, yielded, hd, this]
  cases b <;> cases want <;> rfl
 ·have hh := hv d (by simp [Oper.looksAt, hg, hd])
  rw [hb] at hh
  have hval : a.tmps.getD d undef = .tuple #[] := by
   generalize a.tmps.getD d undef = u at hh
   cases hh with
   | tup _ vs cs hs _ =>
    have : cs = #[] := Array.size_eq_zero_iff.1 (by simpa using hs)
    rw [this]
  have : ∀ b, a.tmps[d]? ≠ some (.bool b) := fun b hx => by
   simp [hx] at hval
  have hy : yielded ops a.tmps j = none := by
   unfold yielded
   rw [hd]
   simp only [Option.bind_some]
   first
    | done
    | (split; next b hx => exact absurd hx (this b); next => rfl)
  simp [Region.wanted, hg, hy]
def mrg : List Nat → zC → zC → zC
 | [], _, b => b
 | i :: S, c, b => mrg S c (b.set i (zF c i))
theorem zDY : ∀ (S : List Nat) (c b : zC), (mrg S c b).length = b.length
 | [], _, _ => rfl
 | i :: S, c, b => by simp only [mrg]; rw [zDY]; simp
theorem zCZ : ∀ (S : List Nat) (c b : zC), (∀ i ∈ S, i < b.length) → ∀ id, zF (mrg S c b) id = if id ∈ S then zF c id else zF b id
 | [], c, b, _, id => by simp [mrg]
 | i :: S, c, b, h, id => by
  simp only [mrg]
  rw [zCZ S c _ (fun j hj => by simpa using h j (by simp [hj])) id]
  by_cases h1 : id ∈ S
  ·simp [h1]
  ·by_cases h2 : id = i
   ·subst h2
    simp only [h1, if_false, List.mem_cons, true_or, if_true]
    exact yE (h id (by simp))
   ·simp only [h1, if_false, List.mem_cons, h2, false_or]
    exact yH fun e => h2 e.symm
def Loc (R : Type) (C : Ctx) (rs : Option Nat) (o : Oper) (ev : Operand → AV) (bl : zC) (v : AV) (bl' : zC) : RC → Prop
 | .readAt id => ∀ bl2, zF bl2 id = zF bl id → ∀ K : z9 R, opA C rs o ev bl2 K = K .read v bl2
 | .storeAt id => ∃ b, bl' = bl.set id (some b) ∧ id < bl.length ∧ zF bl id ≠ none ∧ ∀ bl2, zF bl2 id = zF bl id → ∀ K : z9 R, opA C rs o ev bl2 K = K .write v (bl2.set id (some b))
 | .alloc id => ∃ bs, id = bl.length ∧ bl' = bl ++ bs ∧ ∀ bl2, bl2.length = bl.length → ∀ K : z9 R, opA C rs o ev bl2 K = K .write v (bl2 ++ bs)
 | .touch S => bl' = mrg S bl' bl ∧ (∀ id ∈ S, id < bl.length ∧ zF bl id ≠ none) ∧ ∀ bl2, (∀ id ∈ S, zF bl2 id = zF bl id) → ∀ K : z9 R, opA C rs o ev bl2 K = K .write v (mrg S bl' bl2)
 | _ => True
def RC.cat : RC → Cat
 | .pure => .pure
 | .read | .readAt _ => .read
 | .write | .storeAt _ | .alloc _ | .touch _ => .write
theorem zJB (n : Nat) (f : AV) (args : List AV) : (zFL C n f args).cat = .write := by
 unfold zFL
 split
 ·split
  ·split <;> rfl
  ·rfl
 ·rfl
theorem zIm (f : AV) (args : List AV) : (zEt C f args).cat = .read := by
 unfold zEt
 split
 ·split
  ·split <;> rfl
  ·rfl
 ·rfl
theorem zEj (rs : Option Nat) (o : Op) (ev : Operand → AV) (n : Nat) (c : Cat) : (wN C rs o ev n c).cat = c := by
 cases c <;> cases o <;> first
  | rfl
  | (simp only [wN]; split <;> rfl)
  | (simp only [wN]; exact (by intro x; cases x <;> rfl : ∀ x : AV, (wC x).cat = .read) _)
  | (simp only [wN]; split <;> (try split) <;> first | rfl | exact zIm _ _ | exact (by intro x; cases x <;> rfl : ∀ x : AV, (wC x).cat = .read) _)
  | (simp only [wN]; cases rs <;> rfl)
  | (simp only [wN]; split <;> first | rfl | exact zJB _ _ _)
theorem yV {c c' : Cat} {v v' : AV} {b b' : zC} {F : z9 R → Option R} (r : R) (h1 : ∀ K, F K = K c v b) (h2 : ∀ K, F K = K c' v' b') : c = c' ∧ v = v' ∧ b = b' := by
 classical
 have := (h1 fun x y z => if x = c ∧ y = v ∧ z = b then some r else none).symm.trans (h2 _)
 rw [if_pos ⟨rfl, rfl, rfl⟩] at this
 by_cases h : c' = c ∧ v' = v ∧ b' = b
 ·exact ⟨h.1.symm, h.2.1.symm, h.2.2.symm⟩
 ·rw [if_neg h] at this; cases this
theorem zGq {rs : Option Nat} {ev ev' : Operand → AV} (o : Oper) (h : ∀ x ∈ o.op.operands, ev x = ev' x) (n : Nat) (c : Cat) : wN C rs o.op ev n c = wN C rs o.op ev' n c := by
 obtain ⟨dst, op, type, pos, after, guard⟩ := o
 cases c <;> try rfl
 ·cases op <;> simp only [Op.operands] at h <;> simp only [wN]
  case call c =>
   split
   ·split
    ·rename_i hc _ x hx
     rw [h x (by
      have : x ∈ c.args := by rw [← Array.mem_toList_iff, hx]; simp
      simp [Call.operands, hc, this])]
    ·rfl
   ·rename_i f hc
    rw [show c.args.toList.map ev = c.args.toList.map ev' from List.map_congr_left fun x hx => h x (by simp at hx; simp [Call.operands, hx]), h f (by simp [Call.operands, hc])]
   ·rfl
  all_goals rw [h _ (by simp)]
 ·cases op <;> simp only [Op.operands] at h <;> simp only [wN]
  case store t a x => rw [h a (by simp)]
  case buildSlice t n ps =>
   rw [show (ps.toList.map fun p => (p.1, ev p.2)) = (ps.toList.map fun p => (p.1, ev' p.2)) from List.map_congr_left fun p hm => by
    obtain ⟨i, x⟩ := p
    simp only [h x (by simpa using ⟨i, Array.mem_toList_iff.1 hm⟩)]]
  case call c =>
   have hargs : c.args.toList.map ev = c.args.toList.map ev' := List.map_congr_left fun x hx => h x (by simp at hx; simp [Call.operands, hx])
   split
   ·rename_i f hc
    rw [hargs, h f (by simp [Call.operands, hc])]
   ·rfl
def At (id : Nat) (F : zC → z9 R → Option R) : Prop := ∀ bl bl2 K K2, zF bl2 id = zF bl id → (∀ c v, K2 c v bl2 = K c v bl) → F bl2 K2 = F bl K
theorem zNP {t : TypeId} {x : AV} {id : Nat} (h : wC x = .readAt id) : At id (zBq (R := R) C t x) := fun bl bl2 K K2 hb hK => by
 cases x <;> simp only [wC, reduceCtorEq, RC.readAt.injEq] at h <;> subst h <;> simp only [zBq, hb, hK]
theorem zIr {t : TypeId} {x : AV} {f id : Nat} (h : wC x = .readAt id) : At id (qK (R := R) C t x f) := fun bl bl2 K K2 hb hK => by
 cases x <;> simp only [wC, reduceCtorEq, RC.readAt.injEq] at h <;> subst h <;> simp only [qK, hb, hK]
theorem zIq {t : TypeId} {x ix : AV} {id : Nat} (h : wC x = .readAt id) : At id (yT (R := R) C t x ix) := fun bl bl2 K K2 hb hK => by
 cases ix <;> first
  | rfl
  | skip
 unfold yT
 cases hu : C.P.underlying t with
 | none => rfl
 | some d => cases d <;> first
  | rfl
  | (cases x <;> simp only [wC, reduceCtorEq, RC.readAt.injEq] at h <;> subst h <;> simp only [hb, hK])
theorem zMZ {t : TypeId} {x : AV} {lo hi : Option AV} {id : Nat} (h : wC x = .readAt id) : At id (jW (R := R) C t x lo hi) := fun bl bl2 K K2 hb hK => by
 unfold jW
 cases hu : C.P.underlying t with
 | none => rfl
 | some d => cases d <;> first
  | rfl
  | (cases x <;> simp only [wC, reduceCtorEq, RC.readAt.injEq] at h <;> subst h <;> simp only [hb, hK])
theorem zJH {t : TypeId} {x : AV} {id : Nat} (h : wC x = .readAt id) : At id (qS (R := R) C t x) := fun bl bl2 K K2 hb hK => by
 unfold qS
 cases hu : C.P.underlying t with
 | none => rfl
 | some d => cases d <;> first
  | rfl
  | (cases x <;> simp only [wC, reduceCtorEq, RC.readAt.injEq] at h <;> subst h <;> simp only [hb, hK])
theorem zNa {x : AV} {id : Nat} (h : wC x = .readAt id) {bl bl2 : zC} (hb : zF bl2 id = zF bl id) : wE bl2 x = wE bl x := by
 cases x <;> simp only [wC, reduceCtorEq, RC.readAt.injEq] at h <;> subst h <;> simp only [wE, hb]
theorem zNQ {s d : TypeId} {x : AV} {id : Nat} (h : wC x = .readAt id) : At id (zAZ (R := R) C s d x) := fun bl bl2 K K2 hb hK => by
 have he := zNa h hb
 cases x <;> simp only [wC, reduceCtorEq, RC.readAt.injEq] at h <;> subst h <;> simp only [zAZ, zAQ, he, hK]
theorem zOt {t : TypeId} {x : AV} {id : Nat} (h : wC x = .readAt id) : At id (zEf (R := R) C t x) := fun bl bl2 K K2 hb hK => by
 unfold zEf
 cases hu : C.P.underlying t with
 | none => rfl
 | some d => cases d <;> first
  | rfl
  | (cases x <;> simp only [wC, reduceCtorEq, RC.readAt.injEq] at h <;> subst h <;> simp only [hb, hK])
theorem zNO {t : TypeId} {m k : AV} {ok : Bool} {id : Nat} (h : wC m = .readAt id) : At id (zEe (R := R) C t m k ok) := fun bl bl2 K K2 hb hK => by
 have he : zBh bl2 m = zBh bl m := by
  cases m <;> simp only [wC, reduceCtorEq, RC.readAt.injEq] at h <;> subst h <;> simp only [zBh, hb]
 simp only [zEe, he, hK]
theorem at_op {o : Oper} {ev : Operand → AV} {n id : Nat} (hnc : ∀ cl f, o.op = .call cl → cl.callee ≠ .value f) (h : wN C none o.op ev n .read = .readAt id) : At id (opK (R := R) C o ev) := fun bl bl2 K K2 hb hK => by
 obtain ⟨dst, op, type, pos, after, guard⟩ := o
 cases op <;> simp only [wN, reduceCtorEq] at h
 case load t a => exact zNP h bl bl2 K K2 hb hK
 case fieldAddr t x f => exact zIr h bl bl2 K K2 hb hK
 case indexAddr t x i => exact zIq h bl bl2 K K2 hb hK
 case slice t x lo hi mx =>
  cases mx with
  | none => exact zMZ h bl bl2 K K2 hb hK
  | some _ => rfl
 case sliceToArrayPointer t x => exact zJH h bl bl2 K K2 hb hK
 case convert s d x => exact zNQ h bl bl2 K K2 hb hK
 case lookup t m k ok => exact zNO h bl bl2 K K2 hb hK
 case call c =>
  split at h
  ·rename_i hc
   split at h
   ·rename_i x hx
    simp only [opK, hc, hx, List.map_cons, List.map_nil]
    cases ht : c.argTypes.toList with
    | nil => rfl
    | cons t ts => exact zOt h bl bl2 K K2 hb hK
   ·cases h
  ·rename_i f hc
   exact absurd hc (hnc c f rfl)
  ·cases h
mutual
theorem zBG {bl bl2 : zC} : ∀ {x : AV}, (∀ i ∈ ids x, zF bl2 i = zF bl i) → yQ bl2 x = yQ bl x
 | .slice id path s len w, h => by unfold yQ; rw [h id (by simp [ids])]
 | .own id w, h => by unfold yQ; rw [h id (by simp [ids])]
 | .ptr id path, h => by unfold yQ; rw [h id (by simp [ids])]
 | .aptr id path s n, h => by unfold yQ; rfl
 | .agg kids, h => by unfold yQ; rw [wY fun i hi => h i (by unfold ids; exact hi)]
 | .tup kids, h => by unfold yQ; rw [wY fun i hi => h i (by unfold ids; exact hi)]
 | .fn g a b, h => by unfold yQ; rw [wY (l := a) fun i hi => h i (by unfold ids; exact List.mem_append_left _ hi), wY (l := b) fun i hi => h i (by unfold ids; exact List.mem_append_right _ hi)]
 | .iface t v, h => by unfold yQ; rw [zBG fun i hi => h i (by unfold ids; exact hi)]
 | .any, _ | .bool _, _ | .int _ _, _ | .str _, _ | .nilp, _ | .rptr _, _ | .snil, _ | .rints _ _, _ | .robjs _ _ _, _ | .ints _ _ _, _ | .nilf, _ | .nili, _ | .raw _, _ | .errv _ _ _, _ | .rmap _, _ => rfl
theorem wY {bl bl2 : zC} : ∀ {l : List AV}, (∀ i ∈ qZ l, zF bl2 i = zF bl i) → wD bl2 l = wD bl l
 | [], _ => rfl
 | x :: r, h => by unfold wD; rw [zBG fun i hi => h i (by unfold qZ; exact List.mem_append_left _ hi), wY fun i hi => h i (by unfold qZ; exact List.mem_append_right _ hi)]
end
theorem zFp {bl bl2 : zC} : ∀ {fs : List Bool} {args : List AV}, (∀ i ∈ qZ args, zF bl2 i = zF bl i) → z6 bl2 [] fs args = z6 bl [] fs args
 | fs, [], _ => by
  cases fs with
  | nil => simp only [z6]
  | cons f fs => cases f <;> simp only [z6]
 | fs, x :: r, h => by
  have hx : yQ bl2 x = yQ bl x := zBG fun i hi => h i (by unfold qZ; exact List.mem_append_left _ hi)
  have hr : ∀ fs, z6 bl2 [] fs r = z6 bl [] fs r := fun fs => zFp fun i hi => h i (by unfold qZ; exact List.mem_append_right _ hi)
  cases fs with
  | nil => simp only [z6, hx, hr]
  | cons f fs => cases f <;> simp only [z6, hx, hr]
theorem zLB (hΓ : ∀ f m, C.Γ f = some m → zE C.P C.G f m) {g : FuncId} {m : Callee} {args : List AV} {bl bl' : zC} {v : AV} (hm : C.Γ g = some m) (hl : kE m.lend args = []) (r : R) (hd : ∀ K : z9 R, kS C g args bl K = K .read v bl') :
  ∀ bl2, (∀ i ∈ qZ args, zF bl2 i = zF bl i) → ∀ K : z9 R, kS C g args bl2 K = K .read v bl2 := by
 intro bl2 hi K0
 have h0 := hd fun _ _ _ => some r
 unfold kS at h0
 simp only [hm, hl] at h0
 rw [show yY bl 40 [] [] = [] from rfl] at h0
 cases hh : z6 bl [] m.lend args with
 | none => simp [hh] at h0
 | some p =>
 obtain ⟨args', looks⟩ := p
 obtain hno | ⟨v0, out, hdet, _⟩ := hΓ g m hm args' []
 ·simp [hh, hno] at h0
 have form : ∀ (bl2 : zC) (K : z9 R), z6 bl2 [] m.lend args = some (args', looks) → kS C g args bl2 K = if (([] : List Nat).isEmpty && out.isEmpty) = true then (if zR v0 = true then (if looks = true then (if kR v0 = true then K .read v0 bl2 else none) else K .pure v0 bl2) else none)
   else (if ((!looks || (kR v0 && wR out)) && jL bl2 []) = true then K .write (ren (z1 [] bl2.length) v0) (z8 (z1 [] bl2.length) [] out bl2) else none) := fun bl2 K hh => by
  unfold kS
  simp only [hm, hl]
  rw [show yY bl2 40 [] [] = [] from rfl]
  simp only [hh, List.map_nil]
  rw [hdet]
 have hd' := fun K => (form bl K hh).symm.trans (hd K)
 rw [form bl2 K0 ((zFp hi).trans hh)]
 by_cases he : (([] : List Nat).isEmpty && out.isEmpty) = true
 ·simp only [if_pos he] at hd' ⊢
  by_cases hv : zR v0 = true
  ·simp only [if_pos hv] at hd' ⊢
   by_cases hk : looks = true
   ·simp only [if_pos hk] at hd' ⊢
    by_cases hf : kR v0 = true
    ·simp only [if_pos hf] at hd' ⊢
     obtain ⟨_, h2, _⟩ := yV r (F := fun K => K .read v0 bl) hd' (fun K => rfl)
     rw [h2]
    ·simp only [if_neg hf] at hd'
     have := hd' fun _ _ _ => some r
     cases this
   ·simp only [if_neg hk] at hd'
    obtain ⟨h1, _, _⟩ := yV r (F := fun K => K .pure v0 bl) hd' (fun K => rfl)
    cases h1
  ·simp only [if_neg hv] at hd'
   have := hd' fun _ _ _ => some r
   cases this
 ·simp only [if_neg he] at hd'
  split at hd'
  ·obtain ⟨h1, _, _⟩ := yV r (F := fun K => K .write (ren (z1 [] bl.length) v0) (z8 (z1 [] bl.length) [] out bl)) hd' (fun K => rfl)
   cases h1
  ·have := hd' fun _ _ _ => some r
   cases this
theorem zAw {bl : zC} : ∀ {fs : List Bool} {xs ys : List AV} {k : Bool}, kA xs = true → z6 bl [] fs xs = some (ys, k) → k = false
 | fs, [], ys, k, _, h => by
  cases fs with
  | nil => simp only [z6] at h; cases h; rfl
  | cons f fs => cases f <;> simp only [z6] at h <;> (cases h; rfl)
 | fs, x :: r, ys, k, hn, h => by
  simp only [kA, Bool.and_eq_true] at hn
  have low : ∀ {f : List Bool}, (if ((ids x).all fun i => !([] : List Nat).contains i) = true then
   (match yQ bl x, z6 bl [] f.tail r with | some y, some (l, b) => some (y :: l, b || !zR x) | _, _ => none) else none) = some (ys, k) → k = false := by
   intro f h
   split at h
   ·split at h
    ·rename_i y l b hy hr
     cases h
     rw [zAw hn.2 hr, hn.1]; rfl
    ·cases h
   ·cases h
  cases fs with
  | nil => simp only [z6] at h; exact low (f := []) h
  | cons f fs =>
   cases f with
   | false => simp only [z6] at h; exact low (f := false :: fs) h
   | true =>
    simp only [z6] at h
    split at h
    ·rename_i l b hr
     cases h
     exact zAw hn.2 hr
    ·cases h
theorem zMP (hΓ : ∀ f m, C.Γ f = some m → zE C.P C.G f m) {g : FuncId} {m : Callee} {args : List AV} {bl bl' : zC} {v : AV} (hm : C.Γ g = some m) (hl : kE m.lend args = []) (hn : kA args = true) (r : R) (hd : ∀ K : z9 R, kS C g args bl K = K .write v bl') :
  ∃ bs, bl' = bl ++ bs ∧ ∀ bl2, bl2.length = bl.length → ∀ K : z9 R, kS C g args bl2 K = K .write v (bl2 ++ bs) := by
 have h0 := hd fun _ _ _ => some r
 unfold kS at h0
 simp only [hm, hl] at h0
 rw [show yY bl 40 [] [] = [] from rfl] at h0
 cases hh : z6 bl [] m.lend args with
 | none => simp [hh] at h0
 | some p =>
 obtain ⟨args', looks⟩ := p
 have hk := zAw hn hh
 subst hk
 obtain hno | ⟨v0, out, hdet, _⟩ := hΓ g m hm args' []
 ·simp [hh, hno] at h0
 have form : ∀ (bl2 : zC) (K : z9 R), kS C g args bl2 K = if (([] : List Nat).isEmpty && out.isEmpty) = true then (if zR v0 = true then K .pure v0 bl2 else none) else K .write (ren (z1 [] bl2.length) v0) (bl2 ++ out.map (Option.map (qG (z1 [] bl2.length)))) := fun bl2 K => by
  unfold kS
  simp only [hm, hl]
  rw [show yY bl2 40 [] [] = [] from rfl]
  simp only [qJ (bl2 := bl2) hh, List.map_nil]
  rw [hdet]
  simp only [Bool.false_eq_true, if_false, Bool.not_false, Bool.true_or, jL, List.all_nil, Bool.and_self, if_true, z8]
 by_cases he : (([] : List Nat).isEmpty && out.isEmpty) = true
 ·simp only [form, if_pos he] at hd
  by_cases hv : zR v0 = true
  ·simp only [if_pos hv] at hd
   obtain ⟨h1, _, _⟩ := yV r (F := fun K => K .pure v0 bl) hd (fun K => rfl)
   cases h1
  ·simp only [if_neg hv] at hd
   have := hd fun _ _ _ => some r
   cases this
 ·simp only [form, if_neg he] at hd
  obtain ⟨_, h2, h3⟩ := yV r (F := fun K => K .write (ren (z1 [] bl.length) v0) (bl ++ out.map (Option.map (qG (z1 [] bl.length))))) hd (fun K => rfl)
  exact ⟨_, h3, fun bl2 hb K => by rw [form, if_neg he, hb, h2]⟩
theorem zGA {t len : Nat} {ps : List (Nat × AV)} {bl bl' : zC} {c : Cat} {v : AV} (r : R) (hd : ∀ K : z9 R, yG C t len ps bl K = K c v bl') :
  ∃ bs, bl' = bl ++ bs ∧ ∀ bl2, bl2.length = bl.length → ∀ K : z9 R, yG C t len ps bl2 K = K .write v (bl2 ++ bs) := by
 simp only [jJ] at hd ⊢
 cases hb : yN C t len ps with
 | none =>
  rw [hb] at hd
  have := hd fun _ _ _ => some r
  cases this
 | some p =>
  simp only [hb] at hd ⊢
  obtain ⟨_, h2, h3⟩ := yV r (F := fun K => K .write (.own bl.length p.1) (bl ++ [some p.2])) (fun K => hd K) (fun K => rfl)
  exact ⟨[some p.2], h3, fun bl2 hl K => by rw [hl, ← h2]⟩
mutual
theorem zCX : ∀ {x : AV}, zR x = true → ids x = []
 | .agg kids, h => by simp only [ids]; exact wZ (by simpa [zR] using h)
 | .tup kids, h => by simp only [ids]; exact wZ (by simpa [zR] using h)
 | .fn f a b, h => by
  simp only [zR, Bool.and_eq_true] at h
  simp only [ids]; rw [wZ h.1, wZ h.2]; rfl
 | .iface t v, h => by simp only [ids]; exact zCX (by simpa [zR] using h)
 | .any, _ | .bool _, _ | .int _ _, _ | .str _, _ | .nilp, _ | .rptr _, _ | .snil, _ | .rints _ _, _ | .robjs _ _ _, _ | .ints _ _ _, _ | .nilf, _ | .nili, _ | .raw _, _ | .errv _ _ _, _ | .rmap _, _ => by simp [ids]
 | .ptr _ _, h | .aptr _ _ _ _, h | .slice _ _ _ _ _, h | .own _ _, h => by simp [zR] at h
theorem wZ : ∀ {l : List AV}, kA l = true → qZ l = []
 | [], _ => rfl
 | x :: r, h => by
  simp only [kA, Bool.and_eq_true] at h
  simp only [qZ]; rw [zCX h.1, wZ h.2]; rfl
end
theorem zCx : ∀ (S : List Nat) (bl B : zC), (∀ i ∈ S, bl.length ≤ i) → yO S (bl ++ B) = bl ++ yO (S.map (· - bl.length)) B
 | [], bl, B, _ => rfl
 | a :: S, bl, B, h => by
  simp only [yO, List.map_cons]
  rw [List.set_append_right (h := h a (by simp)), zCx S bl _ fun i hi => h i (by simp [hi])]
theorem zLC (hΓ : ∀ f m, C.Γ f = some m → zE C.P C.G f m) {g : FuncId} {m : Callee} {args : List AV} {bl : zC} (hm : C.Γ g = some m) (hl : kE m.lend args = []) (hn : kA args = true) {K0 : z9 R} {r : R} (h0 : kS C g args bl K0 = some r) :
  ∃ (v0 : AV) (out : zC), ∀ (bl2 : zC) (K : z9 R), kS C g args bl2 K = if (([] : List Nat).isEmpty && out.isEmpty) = true then (if zR v0 = true then K .pure v0 bl2 else none) else K .write (ren (z1 [] bl2.length) v0) (bl2 ++ out.map (Option.map (qG (z1 [] bl2.length)))) := by
 unfold kS at h0
 simp only [hm, hl] at h0
 rw [show yY bl 40 [] [] = [] from rfl] at h0
 cases hh : z6 bl [] m.lend args with
 | none => simp [hh] at h0
 | some p =>
 obtain ⟨args', looks⟩ := p
 have hk := zAw hn hh
 subst hk
 obtain hno | ⟨v0, out, hdet, _⟩ := hΓ g m hm args' []
 ·simp [hh, hno] at h0
 refine ⟨v0, out, fun bl2 K => ?_⟩
 unfold kS
 simp only [hm, hl]
 rw [show yY bl2 40 [] [] = [] from rfl]
 simp only [qJ (bl2 := bl2) hh, List.map_nil]
 rw [hdet]
 simp only [Bool.false_eq_true, if_false, Bool.not_false, Bool.true_or, jL, List.all_nil, Bool.and_self, if_true, z8]
theorem zLD (hΓ : ∀ f m, C.Γ f = some m → zE C.P C.G f m) {g : FuncId} {m : Callee} {args : List AV} {bl bl' : zC} {v : AV} (h1 : C.ro (1000000 + g) = false) (h2 : C.ro (2000000 + g) = true) (hm : C.Γ g = some m) (hl : kE m.lend args = []) (hn : kA args = true) (r : R) (hd : ∀ K : z9 R, jI C g args bl K = K .write v bl') :
  ∃ bs, bl' = bl ++ bs ∧ ∀ bl2, bl2.length = bl.length → ∀ K : z9 R, jI C g args bl2 K = K .write v (bl2 ++ bs) := by
 have h0 := hd fun _ _ _ => some r
 simp only [jI, h1, h2] at h0
 obtain ⟨v0, out, form⟩ := zLC hΓ hm hl hn h0
 have formF : ∀ (bl2 : zC) (K : z9 R), jI C g args bl2 K = kS C g args bl2 fun _ v bl' => match yQ bl' v with
   | some y => if ((ids v).all fun i => decide (bl2.length ≤ i)) = true then K .write y (yO (ids v) bl') else none
   | none => none := fun bl2 K => by simp only [jI, h1, h2]; rfl
 by_cases he : (([] : List Nat).isEmpty && out.isEmpty) = true
 ·by_cases hv : zR v0 = true
  ·have hi : ids v0 = [] := zCX hv
   have key : ∀ (bl2 : zC) (K : z9 R), jI C g args bl2 K = K .write v0 bl2 := fun bl2 K => by
    rw [formF, form, if_pos he, if_pos hv, jU _ hv]
    simp only [hi, List.all_nil, if_true, yO]
   obtain ⟨_, k2, k3⟩ := yV r hd (fun K => key bl K)
   subst k2 k3
   exact ⟨[], by simp, fun bl2 _ K => by rw [key]; simp⟩
  ·rw [form, if_pos he, if_neg hv] at h0
   cases h0
 ·rw [form, if_neg he] at h0
  split at h0 <;> (try (cases h0; done))
  rename_i y hy
  split at h0 <;> (try (cases h0; done))
  rename_i hid
  have hge : ∀ i ∈ ids (ren (z1 [] bl.length) v0), bl.length ≤ i := fun i hi => by simpa using List.all_eq_true.1 hid i hi
  have key : ∀ (bl2 : zC), bl2.length = bl.length → ∀ K : z9 R, jI C g args bl2 K = K .write y (bl2 ++ yO ((ids (ren (z1 [] bl.length) v0)).map (· - bl.length)) (out.map (Option.map (qG (z1 [] bl.length))))) := fun bl2 hb K => by
   rw [formF, form, if_neg he, hb, zBG (bl := bl ++ out.map (Option.map (qG (z1 [] bl.length)))) fun i hi => ?_, hy]
   ·simp only [hid, if_true]
    rw [zCx _ _ _ (by rw [hb]; exact hge), hb]
   ·have := hge i hi
    unfold zF
    rw [List.getD_eq_getElem?_getD, List.getD_eq_getElem?_getD, List.getElem?_append_right (by omega), List.getElem?_append_right (by omega), hb]
  obtain ⟨_, k2, k3⟩ := yV r hd (fun K => key bl rfl K)
  subst k2
  exact ⟨_, k3, key⟩
theorem zJA (hΓ : ∀ f m, C.Γ f = some m → zE C.P C.G f m) {g : FuncId} {args : List AV} {bl bl' : zC} {v : AV} (r : R) (hd : ∀ K : z9 R, jI C g args bl K = K .read v bl') : C.ro (1000000 + g) = false ∧ C.ro (2000000 + g) = false := by
 have h0 := hd fun c _ _ => match c with | .write => none | _ => some r
 unfold jI at h0
 cases h1 : C.ro (1000000 + g) with
 | true =>
  simp only [h1] at h0
  split at h0 <;> (try (cases h0; done))
  obtain ⟨_, _, _, k1, _⟩ := zAb hΓ h0
  rw [k1.det] at h0
  cases h0
 | false =>
  simp only [h1] at h0
  cases h2 : C.ro (2000000 + g) with
  | true =>
   simp only [h2] at h0
   obtain ⟨_, _, _, k1, _⟩ := zAb hΓ h0
   rw [k1.det] at h0
   split at h0 <;> first | (cases h0; done) | (split at h0 <;> cases h0)
  | false => exact ⟨rfl, rfl⟩
theorem zKB (hΓ : ∀ f m, C.Γ f = some m → zE C.P C.G f m) {o : Oper} {ev : Operand → AV} {bl bl' : zC} {c : Cat} {v : AV} (r : R) (hd : ∀ K : z9 R, opK C o ev bl K = K c v bl') : Loc R C none o ev bl v bl' (wN C none o.op ev bl.length c) := by
 obtain ⟨dst, op, type, pos, after, guard⟩ := o
 cases c with
 | pure => trivial
 | read =>
  generalize hrc : wN C none _ ev bl.length .read = rc
  have hcat : rc.cat = .read := by rw [← hrc]; exact zEj _ _ _ _ _
  cases rc with
  | readAt id =>
   intro bl2 hb K
   by_cases hcall : ∃ cl f, op = .call cl ∧ cl.callee = .value f
   ·obtain ⟨cl, f, rfl, hcl⟩ := hcall
    simp only [wN, hcl] at hrc
    unfold zEt at hrc
    split at hrc <;> (try (cases hrc; done))
    rename_i g a b hf
    split at hrc <;> (try (cases hrc; done))
    rename_i m hm
    split at hrc <;> (try (cases hrc; done))
    rename_i id' hl hi
    cases hrc
    simp only [opA, opK, hcl, hf] at hd ⊢
    obtain ⟨hr1, hr2⟩ := zJA hΓ r hd
    simp only [jI, hr1, hr2] at hd ⊢
    exact zLB hΓ hm hl r hd bl2 (fun i hi' => by rw [hi] at hi'; simp at hi'; subst hi'; exact hb) K
   ·have := at_op (R := R) (C := C) (o := ⟨dst, op, type, pos, after, guard⟩) (fun cl f h1 h2 => hcall ⟨cl, f, h1, h2⟩) hrc bl bl2 (fun c v _ => K c v bl2) K hb fun _ _ => rfl
    refine Eq.trans this ?_
    rw [hd]
  | pure => trivial
  | read => trivial
  | write => trivial
  | storeAt id => cases hcat
  | alloc id => cases hcat
  | touch S => cases hcat
 | write =>
  cases op <;> try trivial
  case buildSlice t n ps =>
   simp only [wN]
   split
   ·rename_i hi
    simp only [opK, yM, hi] at hd
    by_cases hob : ∃ u e w l, yN C t n (ps.toList.map fun p => (p.1, ev p.2)) = some (u, .objs e w l)
    ·obtain ⟨u, e, w, l, hob⟩ := hob
     simp only [hob] at hd
     obtain ⟨h2, _, _⟩ := yV r (F := fun K => K .pure (.robjs e w l) bl) hd (fun K => rfl)
     cases h2
    ·by_cases hoi : ∃ u k l, yN C t n (ps.toList.map fun p => (p.1, ev p.2)) = some (u, .ints k l) ∧ C.ro (5000000 + t) = true
     ·obtain ⟨u, k, l, hoi, hro⟩ := hoi
      simp only [hoi, if_pos hro] at hd
      obtain ⟨_, h2, h3⟩ := yV r (F := fun K => K .write (.rints k l) (bl ++ [none])) hd (fun K => rfl)
      refine ⟨[none], rfl, h3, fun bl2 hb K => ?_⟩
      simp only [opA, opK, yM, hi, hoi, if_pos hro, h2]
     ·have form : ∀ (bl2 : zC) (K : z9 R), (match yN C t n (ps.toList.map fun p => (p.1, ev p.2)) with | some (_, .objs e w l) => K .pure (.robjs e w l) bl2 | some (_, .ints k l) => if C.ro (5000000 + t) = true then K .write (.rints k l) (bl2 ++ [none]) else yG C t n (ps.toList.map fun p => (p.1, ev p.2)) bl2 K | _ => yG C t n (ps.toList.map fun p => (p.1, ev p.2)) bl2 K) = yG C t n (ps.toList.map fun p => (p.1, ev p.2)) bl2 K := fun bl2 K => by
       split
       ·rename_i u e w l h
        exact absurd ⟨u, e, w, l, h⟩ hob
       ·rename_i u k l h
        rw [if_neg fun hro => hoi ⟨u, k, l, h, hro⟩]
       ·rfl
      have hd' : ∀ K : z9 R, yG C t n (ps.toList.map fun p => (p.1, ev p.2)) bl K = K .write v bl' := fun K => (form bl K).symm.trans (hd K)
      obtain ⟨bs, h1, h2⟩ := zGA r hd'
      refine ⟨bs, rfl, h1, fun bl2 hb K => ?_⟩
      simp only [opA, opK, yM, hi]
      exact (form bl2 K).trans (h2 bl2 hb K)
   ·trivial
  case makeMap t s =>
   simp only [wN]
   cases s with
   | some _ =>
    have := hd fun _ _ _ => some r
    simp only [opK] at this
    cases this
   | none =>
    simp only [opK] at hd
    cases hro : C.ro (7000000 + t) with
    | false =>
     simp only [jQ, hro] at hd
     obtain ⟨h2, _, _⟩ := yV r (F := fun K => K .pure (.rmap []) bl) hd (fun K => rfl)
     cases h2
    | true =>
     simp only [jQ, hro] at hd
     obtain ⟨_, h2, h3⟩ := yV r (F := fun K => K .write (.own bl.length 0) (bl ++ [some (.mp [])])) hd (fun K => rfl)
     refine ⟨[some (.mp [])], rfl, h3, fun bl2 hb K => ?_⟩
     simp only [opA, opK, jQ, hro, hb, h2]
  case alloc t =>
   simp only [wN, opK] at hd ⊢
   cases hz : zAe C.P t with
   | none =>
    have := hd fun _ _ _ => some r
    simp only [hz] at this
    cases this
   | some z =>
    simp only [hz] at hd
    obtain ⟨_, h2, h3⟩ := yV r (F := fun K => K .write (.ptr bl.length []) (bl ++ [some (.var z)])) hd (fun K => rfl)
    refine ⟨[some (.var z)], rfl, h3, fun bl2 hb K => ?_⟩
    simp only [opA, opK, hz, hb, h2]
  case box t x =>
   cases hro : zJh C t (ev x) with
   | true =>
    simp only [opK, hro] at hd
    obtain ⟨h2, _, _⟩ := yV r (F := fun K => K .pure (.rptr (ev x)) bl) hd (fun K => rfl)
    cases h2
   | false =>
   simp only [wN, opK, hro] at hd ⊢
   have key : ∀ (bl : zC) (K : z9 R), (match ev x with | .any => none | .tup _ => none | v => K .write (.ptr bl.length []) (bl ++ [some (.var v)])) = if (match ev x with | .any => false | .tup _ => false | _ => true) = true then K .write (.ptr bl.length []) (bl ++ [some (.var (ev x))]) else none := fun bl K => by
    cases ev x <;> rfl
   have hd : ∀ K : z9 R, (if (match ev x with | .any => false | .tup _ => false | _ => true) = true then K .write (.ptr bl.length []) (bl ++ [some (.var (ev x))]) else none) = K .write v bl' := fun K => (key bl K).symm.trans (hd K)
   by_cases hc : (match ev x with | .any => false | .tup _ => false | _ => true) = true
   ·simp only [if_pos hc] at hd
    obtain ⟨_, h2, h3⟩ := yV r (F := fun K => K .write (.ptr bl.length []) (bl ++ [some (.var (ev x))])) hd (fun K => rfl)
    refine ⟨[some (.var (ev x))], rfl, h3, fun bl2 hb K => ?_⟩
    simp only [opA, opK, hro]
    refine (key bl2 K).trans ?_
    rw [if_pos hc, hb, h2]
   ·simp only [if_neg hc] at hd
    have := hd fun _ _ _ => some r
    cases this
  case call c =>
   simp only [wN]
   split
   ·rename_i f hc
    unfold zFL
    split
    ·rename_i g a b hf
     split
     ·rename_i m hm
      split
      ·rename_i hno
       simp only [Bool.and_eq_true, List.isEmpty_iff, Bool.not_eq_true'] at hno
       obtain ⟨hr1, hno⟩ := hno
       cases hr2 : C.ro (2000000 + g) with
       | true =>
        have key : ∀ (bl : zC) (K : z9 R), opA C none ⟨dst, .call c, type, pos, after, guard⟩ ev bl K = jI C g (a ++ c.args.toList.map ev ++ b) bl K := fun bl K => by simp only [opA, opK, hc, hf]
        have hd : ∀ K : z9 R, jI C g (a ++ c.args.toList.map ev ++ b) bl K = K .write v bl' := fun K => (key bl K).symm.trans (hd K)
        obtain ⟨bs, h1, h2⟩ := zLD hΓ hr1 hr2 hm hno.1 hno.2 r hd
        exact ⟨bs, rfl, h1, fun bl2 hb K => (key bl2 K).trans (h2 bl2 hb K)⟩
       | false =>
       have key : ∀ (bl : zC) (K : z9 R), opA C none ⟨dst, .call c, type, pos, after, guard⟩ ev bl K = kS C g (a ++ c.args.toList.map ev ++ b) bl K := fun bl K => by simp only [opA, opK, hc, hf, jI, hr1, hr2]
       have hd : ∀ K : z9 R, kS C g (a ++ c.args.toList.map ev ++ b) bl K = K .write v bl' := fun K => (key bl K).symm.trans (hd K)
       obtain ⟨bs, h1, h2⟩ := zMP hΓ hm hno.1 hno.2 r hd
       exact ⟨bs, rfl, h1, fun bl2 hb K => (key bl2 K).trans (h2 bl2 hb K)⟩
      ·trivial
     ·trivial
    ·trivial
   ·trivial
  rename_i t a x
  simp only [wN]
  split
  ·rename_i id p ha
   simp only [opK, ha] at hd
   have key : ∀ (bl : zC) (K : z9 R), zDr C t (.ptr id p) (ev x) bl K = match (match zF bl id with | some b => (match zBK b p (ev x) with | some b' => if (solid (ev x) && yJ C.P 8 t (ev x)) = true then some b' else none | none => none) | none => none) with | some b' => K .write .any (bl.set id (some b')) | none => none := fun bl K => by
    simp only [zDr]
    cases zF bl id with
    | none => rfl
    | some b =>
     simp only
     cases zBK b p (ev x) with
     | none => rfl
     | some b' => simp only; split <;> rfl
   simp only [key] at hd
   split at hd
   ·rename_i b' hx
    obtain ⟨_, h2, h3⟩ := yV r (F := fun K => K .write .any (bl.set id (some b'))) hd (fun K => rfl)
    refine ⟨b', h3, ?_, ?_, fun bl2 hb K => ?_⟩
    ·cases hg : zF bl id with
     | none => rw [hg] at hx; cases hx
     | some q => exact z4 hg
    ·intro hg
     rw [hg] at hx; cases hx
    ·simp only [opA, opK, ha, key]
     rw [hb, hx, h2]
   ·have := hd fun _ _ _ => some r
    cases this
  ·trivial
theorem zJc {id : Nat} {x : AV} {bl bl' : zC} {c : Cat} {v : AV} (r : R) (hd : ∀ K : z9 R, zAl id x bl K = K c v bl') :
  ∃ b, bl' = bl.set id (some b) ∧ id < bl.length ∧ zF bl id ≠ none ∧ ∀ bl2, zF bl2 id = zF bl id → ∀ K : z9 R, zAl id x bl2 K = K .write v (bl2.set id (some b)) := by
 obtain ⟨hb, hd2⟩ := zBr (K := fun _ _ _ => some r) (r := r) (hd _)
 obtain ⟨_, h2, h3⟩ := yV r (F := fun K => zAl id x bl K) hd hd2
 refine ⟨.var x, h3, z4 hb, by rw [hb]; simp, fun bl2 h K => ?_⟩
 simp only [zAl, h, hb, h2]
theorem zKd (hΓ : ∀ f m, C.Γ f = some m → zE C.P C.G f m) {rs : Option Nat} {o : Oper} {ev : Operand → AV} {bl bl' : zC} {c : Cat} {v : AV} (r : R) (hd : ∀ K : z9 R, opA C rs o ev bl K = K c v bl') : Loc R C rs o ev bl v bl' (wN C rs o.op ev bl.length c) := by
 cases rs with
 | none => exact zKB hΓ r hd
 | some id =>
 by_cases hal : zLl o.op = false
 ·rw [zAt hal] at hd
  have h := zKB hΓ r hd
  have e : wN C (some id) o.op ev bl.length c = wN C none o.op ev bl.length c := by
   cases c <;> try rfl
   cases hop : o.op <;> first
    | rfl
    | (rw [hop] at hal; cases hal)
  rw [e]
  generalize wN C none o.op ev bl.length c = rc at h ⊢
  cases rc with
  | readAt i => exact fun bl2 hb K => by rw [zAt hal]; exact h bl2 hb K
  | storeAt i =>
   obtain ⟨b, h1, h2, h3, h4⟩ := h
   exact ⟨b, h1, h2, h3, fun bl2 hb K => by rw [zAt hal]; exact h4 bl2 hb K⟩
  | alloc i =>
   obtain ⟨b, h1, h2, h3⟩ := h
   exact ⟨b, h1, h2, fun bl2 hb K => by rw [zAt hal]; exact h3 bl2 hb K⟩
  | touch S =>
   obtain ⟨h1, h2, h3⟩ := h
   exact ⟨h1, h2, fun bl2 hb K => by rw [zAt hal]; exact h3 bl2 hb K⟩
  | pure => trivial
  | read => trivial
  | write => trivial
 obtain ⟨dst, op, ty, ps, af, gd⟩ := o
 cases op <;> first
  | exact absurd rfl hal
  | skip
 case alloc t =>
  simp only [opA] at hd
  cases hz : zAe C.P t with
  | none =>
   have := hd fun _ _ _ => some r
   rw [hz] at this
   cases this
  | some z =>
   simp only [hz] at hd
   have hc : c = .write := by
    obtain ⟨_, hd2⟩ := zBr (K := fun _ _ _ => some r) (r := r) (hd _)
    exact (yV r (F := fun K => zAl id z bl K) hd hd2).1
   subst hc
   obtain ⟨b, h1, h2, h3, h4⟩ := zJc r hd
   exact ⟨b, h1, h2, h3, fun bl2 hb K => by simp only [opA, hz]; exact h4 bl2 hb K⟩
 case box t x =>
  cases hro : zJh C t (ev x) with
  | true =>
   simp only [opA, hro] at hd
   obtain ⟨rfl, _, _⟩ := yV r (F := fun K => K .pure (.rptr (ev x)) bl) hd (fun K => rfl)
   trivial
  | false =>
  simp only [opA, hro] at hd
  have key : ∀ (bl : zC) (K : z9 R), (match ev x with | .any => none | .tup _ => none | v => zAl id v bl K) = if (match ev x with | .any => false | .tup _ => false | _ => true) = true then zAl id (ev x) bl K else none := fun bl K => by
   cases ev x <;> rfl
  have hd : ∀ K : z9 R, (if (match ev x with | .any => false | .tup _ => false | _ => true) = true then zAl id (ev x) bl K else none) = K c v bl' := fun K => (key bl K).symm.trans (hd K)
  by_cases hc : (match ev x with | .any => false | .tup _ => false | _ => true) = true
  ·simp only [if_pos hc] at hd
   have hw : c = .write := by
    obtain ⟨_, hd2⟩ := zBr (K := fun _ _ _ => some r) (r := r) (hd _)
    exact (yV r (F := fun K => zAl id (ev x) bl K) hd hd2).1
   subst hw
   obtain ⟨b, h1, h2, h3, h4⟩ := zJc r hd
   refine ⟨b, h1, h2, h3, fun bl2 hb K => ?_⟩
   simp only [opA, hro]
   refine (key bl2 K).trans ?_
   rw [if_pos hc]
   exact h4 bl2 hb K
  ·simp only [if_neg hc] at hd
   have := hd fun _ _ _ => some r
   cases this
theorem zCq {S : List Nat} {bl bl2 : zC} (hS : ∀ i ∈ S, i < bl.length ∧ i < bl2.length ∧ zF bl2 i = zF bl i ∧ ∀ j ∈ zLo (zF bl i), j ∈ S) : ∀ (f : Nat) (l acc : List Nat), (∀ i ∈ l, i ∈ S) → yY bl2 f l acc = yY bl f l acc
 | 0, l, acc, _ => by simp only [yY]
 | f + 1, [], acc, _ => by simp only [yY]
 | f + 1, i :: r, acc, h => by
  obtain ⟨h1, h2, h3, h4⟩ := hS i (h i (by simp))
  simp only [yY]
  rw [h3, show decide (bl2.length ≤ i) = false by simp; omega, show decide (bl.length ≤ i) = false by simp; omega]
  split
  ·exact zCq hS f r acc fun j hj => h j (by simp [hj])
  ·exact zCq hS f _ _ fun j hj => by
    rcases List.mem_append.1 hj with hj | hj
    ·exact h j (by simp [hj])
    ·exact h4 j hj
mutual
theorem zDQ {S : List Nat} {n n2 : Nat} : ∀ {x : AV}, (∀ i ∈ ids (ren (z1 S n) x), i < n) → ren (z1 S n2) x = ren (z1 S n) x
 | .agg kids, h => by simp only [ren]; rw [zBo fun i hi => h i (by simpa only [ren, ids] using hi)]
 | .tup kids, h => by simp only [ren]; rw [zBo fun i hi => h i (by simpa only [ren, ids] using hi)]
 | .fn g a b, h => by
  simp only [ren]
  rw [zBo (l := a) fun i hi => h i (by simp only [ren, ids]; exact List.mem_append_left _ hi), zBo (l := b) fun i hi => h i (by simp only [ren, ids]; exact List.mem_append_right _ hi)]
 | .iface t v, h => by simp only [ren]; rw [zDQ fun i hi => h i (by simpa only [ren, ids] using hi)]
 | .ptr id p, h => by
  by_cases hj : id < S.length
  ·simp only [ren, z1, hj, if_true]
  ·have := h (n + (id - S.length)) (by simp [ren, z1, hj, ids])
   omega
 | .aptr id p s k, h => by
  by_cases hj : id < S.length
  ·simp only [ren, z1, hj, if_true]
  ·have := h (n + (id - S.length)) (by simp [ren, z1, hj, ids])
   omega
 | .slice id p s k w, h => by
  by_cases hj : id < S.length
  ·simp only [ren, z1, hj, if_true]
  ·have := h (n + (id - S.length)) (by simp [ren, z1, hj, ids])
   omega
 | .own id w, h => by
  by_cases hj : id < S.length
  ·simp only [ren, z1, hj, if_true]
  ·have := h (n + (id - S.length)) (by simp [ren, z1, hj, ids])
   omega
 | .any, _ | .bool _, _ | .int _ _, _ | .str _, _ | .nilp, _ | .rptr _, _ | .snil, _ | .rints _ _, _ | .robjs _ _ _, _ | .ints _ _ _, _ | .nilf, _ | .nili, _ | .raw _, _ | .errv _ _ _, _ | .rmap _, _ => by simp only [ren]
theorem zBo {S : List Nat} {n n2 : Nat} : ∀ {l : List AV}, (∀ i ∈ qZ (zBg (z1 S n) l), i < n) → zBg (z1 S n2) l = zBg (z1 S n) l
 | [], _ => by simp only [zBg]
 | x :: r, h => by
  simp only [zBg]
  rw [zDQ (x := x) fun i hi => h i (by simp only [zBg, qZ]; exact List.mem_append_left _ hi), zBo (l := r) fun i hi => h i (by simp only [zBg, qZ]; exact List.mem_append_right _ hi)]
end
theorem zLe {S : List Nat} {n n2 : Nat} {b : Option Blk} (h : ∀ i ∈ zLo (b.map (qG (z1 S n))), i < n) : b.map (qG (z1 S n2)) = b.map (qG (z1 S n)) := by
 cases b with
 | none => rfl
 | some b => cases b with
  | var v => simp only [Option.map_some, qG]; rw [zDQ fun i hi => h i (by simpa [qG, zLo] using hi)]
  | _ => rfl
theorem zCs (ρ : Nat → Option Nat) : ∀ (S : List Nat) (out bl : zC), (z8 ρ S out bl).length = bl.length + (out.length - S.length)
 | [], out, bl => by simp [z8]
 | i :: S, [], bl => by simp [z8]
 | i :: S, b :: out, bl => by simp only [z8]; rw [zCs ρ S out]; simp
theorem zBM (ρ : Nat → Option Nat) : ∀ (S : List Nat) (out bl : zC), S.Nodup → (∀ i ∈ S, i < bl.length) → out.length ≤ S.length →
  (∀ i, i ∉ S → zF (z8 ρ S out bl) i = zF bl i) ∧ ∀ (k : Nat) i, S[k]? = some i → zF (z8 ρ S out bl) i = if k < out.length then (zF out k).map (qG ρ) else zF bl i
 | [], out, bl, _, _, hl => by
  have : out = [] := by simpa using hl
  subst this
  simp [z8]
 | i :: S, [], bl, _, _, _ => by simp [z8]
 | i :: S, b :: out, bl, hn, hb, hl => by
  rw [List.nodup_cons] at hn
  obtain ⟨h1, h2⟩ := zBM ρ S out (bl.set i (b.map (qG ρ))) hn.2 (fun j hj => by simpa using hb j (by simp [hj])) (by simpa using hl)
  simp only [z8]
  refine ⟨fun j hj => ?_, fun k j hk => ?_⟩
  ·rw [h1 j fun h => hj (by simp [h])]
   exact yH fun e => hj (by simp [e])
  ·cases k with
   | zero =>
    simp at hk
    subst hk
    rw [h1 i hn.1, yE (hb i (by simp))]
    simp [zF]
   | succ k =>
    have hk' : S[k]? = some j := by simpa using hk
    rw [h2 k j hk']
    have hne : i ≠ j := fun e => by subst e; exact hn.1 (List.mem_of_getElem? hk')
    rw [yH hne]
    simp [zF]
theorem zKN {a b : zC} (hl : a.length = b.length) (h : ∀ id, zF a id = zF b id) : a = b := by
 apply List.ext_getElem hl
 intro i h1 h2
 have := h i
 simpa [zF, h1, h2] using this
theorem zHB {f g : Nat → Bool} : ∀ {S : List Nat}, (∀ i ∈ S, f i = g i) → S.all f = S.all g
 | [], _ => rfl
 | x :: r, h => by simp only [List.all_cons]; rw [h x (by simp), zHB fun i hi => h i (by simp [hi])]
theorem zLk (hΓ : ∀ f m, C.Γ f = some m → zE C.P C.G f m) {rs : Option Nat} {o : Oper} {ev : Operand → AV} {bl bl' : zC} {v : AV} {S : List Nat} (r : R) (hd : ∀ K : z9 R, opA C rs o ev bl K = K .write v bl') (ht : zCT C o.op ev bl v bl' = some S) : Loc R C rs o ev bl v bl' (.touch S) := by
 obtain ⟨dst, op, type, po, after, guard⟩ := o
 unfold zCT at ht
 split at ht <;> (try (cases ht; done))
 rename_i c hop
 simp only at hop
 subst hop
 split at ht <;> (try (cases ht; done))
 rename_i f hc
 split at ht <;> (try (cases ht; done))
 rename_i g a b hf
 split at ht <;> (try (cases ht; done))
 rename_i m hm
 split at ht <;> (try (cases ht; done))
 rename_i l L hL
 split at ht <;> (try (cases ht; done))
 rename_i args' hh
 split at ht <;> (try (cases ht; done))
 rename_i hcond
 cases ht
 simp only [Bool.and_eq_true, Bool.not_eq_true', beq_iff_eq] at hcond
 obtain ⟨⟨⟨⟨hr1, hr2⟩, hlen⟩, hv⟩, hcl⟩ := hcond
 obtain ⟨hnd, hlt⟩ := wJ bl 40 (l :: L) [] List.nodup_nil (by simp)
 generalize hS : yY bl 40 (l :: L) [] = S at hh hcl hnd hlt
 unfold zKM at hcl
 simp only [Bool.and_eq_true, List.all_eq_true, List.contains_iff_mem, decide_eq_true_eq] at hcl
 obtain ⟨hcL, hcS⟩ := hcl
 have key : ∀ (bl2 : zC) (K : z9 R), opA C rs ⟨dst, .call c, type, po, after, guard⟩ ev bl2 K = kS C g (a ++ c.args.toList.map ev ++ b) bl2 K := fun bl2 K => by
  cases rs <;> simp only [opA, opK, hc, hf, jI, hr1, hr2]
 have hne : ∀ id ∈ S, zF bl id ≠ none := fun id hid h => by
  have := (hcS id hid).1.1
  rw [h] at this
  cases this
 obtain hno | ⟨v0, out, hdet, _⟩ := hΓ g m hm args' (S.map fun i => (zF bl i).map (qG (Abs.pos S)))
 ·have := hd fun _ _ _ => some r
  rw [key] at this
  unfold kS at this
  simp only [hm, hL, hS, hh, hno] at this
  cases this
 have form : ∀ (bl2 : zC), (∀ id ∈ S, zF bl2 id = zF bl id) → ∀ K : z9 R, kS C g (a ++ c.args.toList.map ev ++ b) bl2 K = if jL bl S = true then K .write (ren (z1 S bl2.length) v0) (z8 (z1 S bl2.length) S out bl2) else none := fun bl2 hb K => by
  have hS2 : yY bl2 40 (l :: L) [] = S := by
   rw [zCq (S := S) (bl := bl) (bl2 := bl2) (fun i hi => ⟨hlt i hi, ?_, hb i hi, (hcS i hi).1.2⟩) 40 (l :: L) [] hcL, hS]
   cases hg : zF bl i with
   | none => exact absurd hg (hne i hi)
   | some q => exact z4 ((hb i hi).trans hg)
  have hF : jL bl2 S = jL bl S := by
   unfold jL
   exact zHB fun i hi => by rw [hb i hi]
  have hM : (S.map fun i => (zF bl2 i).map (qG (Abs.pos S))) = S.map fun i => (zF bl i).map (qG (Abs.pos S)) := List.map_congr_left fun i hi => by rw [hb i hi]
  unfold kS
  simp only [hm, hL, hS2, qJ (bl2 := bl2) hh, hM]
  rw [hdet]
  simp only [List.isEmpty_cons, Bool.false_and, Bool.false_eq_true, if_false, Bool.not_false, Bool.true_or, Bool.true_and, hF]
 have hd' : ∀ K : z9 R, (if jL bl S = true then K .write (ren (z1 S bl.length) v0) (z8 (z1 S bl.length) S out bl) else none) = K .write v bl' := fun K => (form bl (fun _ _ => rfl) K).symm.trans ((key bl K).symm.trans (hd K))
 by_cases hF : jL bl S = true
 ·simp only [if_pos hF] at hd' form
  obtain ⟨_, hv1, hb1⟩ := yV r (F := fun K => K .write (ren (z1 S bl.length) v0) (z8 (z1 S bl.length) S out bl)) hd' (fun K => rfl)
  have hol : out.length ≤ S.length := by
   have := zCs (z1 S bl.length) S out bl
   rw [← hb1] at this
   omega
  obtain ⟨p1, p2⟩ := zBM (z1 S bl.length) S out bl hnd hlt hol
  rw [← hb1] at p1 p2
  have idx : ∀ id ∈ S, ∃ k : Nat, S[k]? = some id := fun id hid => by
   obtain ⟨k, hk, rfl⟩ := List.getElem_of_mem hid
   exact ⟨k, List.getElem?_eq_getElem hk⟩
  refine ⟨?_, fun id hid => ⟨hlt id hid, hne id hid⟩, fun bl2 hb K => ?_⟩
  ·refine zKN (by rw [zDY, hlen]) fun id => ?_
   rw [zCZ S _ _ hlt]
   by_cases hid : id ∈ S
   ·simp [hid]
   ·simp only [hid, if_false]
    exact p1 id hid
  ·have hlt2 : ∀ i ∈ S, i < bl2.length := fun i hi => by
    cases hg : zF bl i with
    | none => exact absurd hg (hne i hi)
    | some q => exact z4 ((hb i hi).trans hg)
   rw [key, form bl2 hb]
   have e1 : ren (z1 S bl2.length) v0 = v := by
    rw [hv1]
    refine zDQ fun i hi => ?_
    rw [← hv1, zCX hv] at hi
    cases hi
   rw [e1]
   congr 1
   obtain ⟨q1, q2⟩ := zBM (z1 S bl2.length) S out bl2 hnd hlt2 hol
   refine zKN (by rw [zDY, zCs]; omega) fun id => ?_
   rw [zCZ S _ _ hlt2]
   by_cases hid : id ∈ S
   ·simp only [hid, if_true]
    obtain ⟨k, hk⟩ := idx id hid
    rw [q2 k id hk, p2 k id hk]
    split
    ·rename_i hko
     refine zLe fun i hi => ?_
     have := p2 k id hk
     rw [if_pos hko] at this
     rw [← this] at hi
     exact (hcS id hid).2 i hi
    ·exact hb id hid
   ·simp only [hid, if_false]
    exact q1 id hid
 ·have := hd' fun _ _ _ => some r
  rw [if_neg hF] at this
  cases this
theorem zLz (rs : Option Nat) (o : Op) (ev : Operand → AV) (bl : zC) (v : AV) (bl' : zC) (c : Cat) : (zCf C rs o ev bl v bl' c).cat = c := by
 cases c with
 | write =>
  simp only [zCf]
  split
  ·rfl
  ·exact zEj _ _ _ _ _
 | pure => simp only [zCf]; exact zEj _ _ _ _ _
 | read => simp only [zCf]; exact zEj _ _ _ _ _
theorem zIG {ev ev' : Operand → AV} (o : Oper) (h : ∀ x ∈ o.op.operands, ev x = ev' x) (bl : zC) (v : AV) (bl' : zC) : zCT C o.op ev bl v bl' = zCT C o.op ev' bl v bl' := by
 obtain ⟨dst, op, type, pos, after, guard⟩ := o
 cases op <;> try rfl
 rename_i c
 simp only [Op.operands] at h
 simp only [zCT]
 have hargs : c.args.toList.map ev = c.args.toList.map ev' := List.map_congr_left fun x hx => h x (by simp at hx; simp [Call.operands, hx])
 cases hc : c.callee with
 | value f => simp only [hargs, h f (by simp [Call.operands, hc])]
 | _ => rfl
theorem zFu {rs : Option Nat} {ev ev' : Operand → AV} (o : Oper) (h : ∀ x ∈ o.op.operands, ev x = ev' x) (bl : zC) (v : AV) (bl' : zC) (c : Cat) : zCf C rs o.op ev bl v bl' c = zCf C rs o.op ev' bl v bl' c := by
 cases c with
 | write => simp only [zCf]; rw [zIG o h, zGq o h]
 | _ => simp only [zCf]; exact zGq o h _ _
theorem zNt (hΓ : ∀ f m, C.Γ f = some m → zE C.P C.G f m) {rs : Option Nat} {o : Oper} {ev : Operand → AV} {bl bl' : zC} {c : Cat} {v : AV} (r : R) (hd : ∀ K : z9 R, opA C rs o ev bl K = K c v bl') : Loc R C rs o ev bl v bl' (zCf C rs o.op ev bl v bl' c) := by
 cases c with
 | write =>
  simp only [zCf]
  split
  ·rename_i S ht
   exact zLk hΓ r hd ht
  ·exact zKd hΓ r hd
 | pure => exact zKd hΓ r hd
 | read => exact zKd hΓ r hd
theorem zBO (hΓ : ∀ f m, C.Γ f = some m → zE C.P C.G f m) {rs : Option Nat} {o : Oper} {ev : Operand → AV} {bl bl' : zC} {c : Cat} {v : AV} (r : R) (hd : ∀ K : z9 R, opA C rs o ev bl K = K c v bl') : OpA R C rs o ev bl c v bl' := by
 obtain ⟨c', v', bl1, hos⟩ := zHa hΓ (hd fun _ _ _ => some r)
 obtain ⟨rfl, rfl, rfl⟩ := yV r hos.1.det hd
 exact hos
structure StepAt (R : Type) (C : Ctx) (ops : Array Oper) (o : Oper) (tm tm' : List AV) (bl bl' : zC) (v : AV) (rc : RC) (yes : Bool) : Prop where
 guard : zFN ops o tm yes
 slots : tm' = put tm o.dst v
 op : yes = true → ∃ rs ev, (∀ x ∈ o.op.operands, ev x = get C tm x) ∧ (∀ x, x ∉ o.op.operands → ev x = .any) ∧ OpA R C rs o ev bl rc.cat v bl' ∧ Loc R C rs o ev bl v bl' rc
 no : yes = false → v = .tup [] ∧ rc = .pure ∧ bl' = bl
 same : rc.cat ≠ .write → bl' = bl
 at' : ∀ id, rc = .storeAt id → ∃ b, bl' = bl.set id (some b) ∧ id < bl.length ∧ zF bl id ≠ none
 al' : ∀ id, rc = .alloc id → ∃ bs, id = bl.length ∧ bl' = bl ++ bs
 tc : ∀ S, rc = .touch S → bl' = mrg S bl' bl ∧ ∀ id ∈ S, id < bl.length ∧ zF bl id ≠ none
theorem zIU (hΓ : ∀ f m, C.Γ f = some m → zE C.P C.G f m) {ops : Array Oper} : ∀ {rs : Option Nat} {l : List Oper} {tm : List AV} {bl : zC} {cs : List RC} {K : List RC → List AV → zC → Option R} {r : R}, zBN C ops rs l tm bl cs K = some r →
  ∃ (TM : Nat → List AV) (BL : Nat → zC) (V : Nat → AV) (cat : Nat → RC) (yes : Nat → Bool), TM 0 = tm ∧ BL 0 = bl ∧
   (∀ (i : Nat) o, l[i]? = some o → StepAt R C ops o (TM i) (TM (i + 1)) (BL i) (BL (i + 1)) (V i) (cat i) (yes i)) ∧
   ∀ K2 : List RC → List AV → zC → Option R, zBN C ops rs l tm bl cs K2 = K2 (cs.reverse ++ (List.range l.length).map cat) (TM l.length) (BL l.length)
 | rs, [], tm, bl, cs, K, r, h => ⟨fun _ => tm, fun _ => bl, fun _ => .any, fun _ => .pure, fun _ => true, rfl, rfl, fun i o h => by simp at h, fun K2 => by simp [zBN]⟩
 | rs, o :: l, tm, bl, cs, K, r, h => by
  classical
  unfold zBN at h
  obtain ⟨yes, hg, hdet⟩ := zKf h
  rw [hdet] at h
  have glue : ∀ (v : AV) (c : RC) (bl1 : zC), StepAt R C ops o tm (put tm o.dst v) bl bl1 v c yes → (∀ K2 : List RC → List AV → zC → Option R, zBN C ops rs (o :: l) tm bl cs K2 = zBN C ops (zKA rs o.op) l (put tm o.dst v) bl1 (c :: cs) K2) →
    zBN C ops (zKA rs o.op) l (put tm o.dst v) bl1 (c :: cs) K = some r →
    ∃ (TM : Nat → List AV) (BL : Nat → zC) (V : Nat → AV) (cat : Nat → RC) (yes : Nat → Bool), TM 0 = tm ∧ BL 0 = bl ∧
     (∀ (i : Nat) p, (o :: l)[i]? = some p → StepAt R C ops p (TM i) (TM (i + 1)) (BL i) (BL (i + 1)) (V i) (cat i) (yes i)) ∧
     ∀ K2 : List RC → List AV → zC → Option R, zBN C ops rs (o :: l) tm bl cs K2 = K2 (cs.reverse ++ (List.range (o :: l).length).map cat) (TM (o :: l).length) (BL (o :: l).length) := by
   intro v c bl1 hst hd hk
   obtain ⟨TM, BL, V, cat, ys, h1, h2, h3, h4⟩ := zIU hΓ hk
   refine ⟨fun i => match i with | 0 => tm | i + 1 => TM i, fun i => match i with | 0 => bl | i + 1 => BL i, fun i => match i with | 0 => v | i + 1 => V i,
    fun i => match i with | 0 => c | i + 1 => cat i, fun i => match i with | 0 => yes | i + 1 => ys i, rfl, rfl, fun i p hp => ?_, fun K2 => ?_⟩
   ·cases i with
    | zero =>
     simp at hp
     subst hp
     simp only [h1, h2]
     exact hst
    | succ i => exact h3 i p (by simpa using hp)
   ·rw [hd, h4]
    simp [List.range_succ_eq_map, Function.comp_def]
  cases yes with
  | true =>
   simp only [if_true] at h
   have hc : ∀ x ∈ o.op.operands, get C tm x = (if x ∈ o.op.operands then get C tm x else .any) := fun x hx => by simp [hx]
   rw [zHb o hc] at h
   obtain ⟨c, v, bl1, hos⟩ := zHa hΓ h
   have hks := hos.1
   have hloc := zNt hΓ r hks.det
   rw [hks.det] at h
   rw [zFu o hc] at h
   generalize hrc : zCf C rs o.op (fun x => if x ∈ o.op.operands then get C tm x else .any) bl v bl1 c = rc at h hloc
   have hcat : rc.cat = c := by rw [← hrc]; exact zLz _ _ _ _ _ _ _
   refine glue v rc bl1 ⟨hg, rfl, fun _ => ⟨rs, _, fun x hx => by simp [hx], fun x hx => by simp [hx], by rw [hcat]; exact hos, hloc⟩, fun h => (by cases h), fun hcn => ?_, fun id hid => ?_, fun id hid => ?_, fun S hS => ?_⟩ (fun K2 => ?_) h
   ·rw [hcat] at hcn
    cases c with
    | pure => exact (hks.pure rfl).1
    | read => exact hks.read rfl
    | write => exact absurd rfl hcn
   ·subst hid
    obtain ⟨b, h1, h2, h3, _⟩ := hloc
    exact ⟨b, h1, h2, h3⟩
   ·subst hid
    obtain ⟨b, h1, h2, _⟩ := hloc
    exact ⟨b, h1, h2⟩
   ·subst hS
    obtain ⟨h1, h2, _⟩ := hloc
    exact ⟨h1, h2⟩
   ·conv => lhs; unfold zBN
    rw [hdet]
    simp only [if_true]
    rw [zHb o hc, hks.det, zFu o hc, hrc]
  | false =>
   simp only [Bool.false_eq_true, if_false] at h
   refine glue (.tup []) .pure bl ⟨hg, rfl, fun h => (by cases h), fun _ => ⟨rfl, rfl, rfl⟩, fun _ => rfl, fun id h => (by cases h), fun id h => (by cases h), fun S h => (by cases h)⟩ (fun K2 => ?_) h
   conv => lhs; unfold zBN
   rw [hdet]
   simp
structure SR (C : Ctx) (E : Env) (tm : List AV) (bl : zC) (a : Act) : Prop where
 bl : E.bl = bl
 mem : Mem E
 glob : Glob C.G E
 size : a.tmps.size = tm.length
 vr : ∀ t, VR E true (tm.getD t .any) (a.tmps.getD t undef)
 defers : a.defers = []
theorem zJZ (E : Env) (o : Bool) (v : Value) : VR E o (zHZ v) v := by
 unfold zHZ
 split
 ·exact .bool _ _
 ·exact .int _ _ _
 ·exact .str _ _
 ·exact .snil _
 ·exact .nilp _
 ·exact .nilf _
 ·exact .nili _
 ·exact .any _ _
theorem zMz {E : Env} {tm : List AV} {a : Act} {x : Operand} (g : Glob C.G E) (h : ∀ t, x = .tmp t → VR E true (tm.getD t .any) (a.tmps.getD t undef)) : VR E true (get C tm x) (a.eval x) := by
 cases x with
 | tmp t => exact h t rfl
 | const v => exact zJZ _ _ _
 | global n =>
  have := g.vars n
  simp only [get]
  split
  ·exact .any _ _
  ·rename_i hx
   split at this
   ·rename_i he; exact absurd he hx
   ·exact this.lift
 | func f => exact .fn _ _ _ _ _ _ rfl rfl (fun j x c h => by simp at h) (fun j x c h => by simp at h)
def zAm (rc : RC) (bl bl' : zC) : zC := match rc with
 | .storeAt id => bl.set id (zF bl' id)
 | .alloc _ => bl ++ bl'.drop bl.length
 | .touch S => mrg S bl' bl
 | .write => bl'
 | _ => bl
theorem zKw (hΓ : ∀ f m, C.Γ f = some m → zE C.P C.G f m) (r : R) {ops : Array Oper} {i : Nat} {o : Oper} {tm tm' : List AV} {bl bl' : zC} {v : AV} {rc : RC} {yes : Bool} (hs : StepAt R C ops o tm tm' bl bl' v rc yes) (hi : ops[i]? = some o) {E : Env} {a : Act}
  {K : Act → World → Prop} {Q : Exit → Act → World → Prop} (hE : E.bl = bl ∨ rc = .pure ∨ (∃ id, (rc = .readAt id ∨ rc = .storeAt id) ∧ zF E.bl id = zF bl id) ∨ (∃ id, rc = .alloc id ∧ E.bl.length = bl.length) ∨ (∃ S, rc = .touch S ∧ ∀ id ∈ S, zF E.bl id = zF bl id)) (m : Mem E) (g : Glob C.G E)
  (hl : ∀ t ∈ o.looksAt ops, VR E true (tm.getD t .any) (a.tmps.getD t undef))
  (hK : ∀ E' v', Go E E' → E'.bl = zAm rc E.bl bl' → VR E' true v v' → K (a.put o.dst v') E'.w) : wpOp C.P ops Q i K a E.w := by
 unfold wpOp
 simp only [hi]
 rw [hs.guard.wanted hl]
 cases yes with
 | true =>
  obtain ⟨rs, ev, h1, h2, hos, hloc⟩ := hs.op rfl
  simp only [if_true]
  have hev : ∀ x, VR E true (ev x) (a.eval x) := fun x => by
   by_cases hx : x ∈ o.op.operands
   ·rw [h1 x hx]
    refine zMz g fun t ht => hl t ?_
    subst ht
    exact List.mem_append_left _ (List.mem_filterMap.2 ⟨.tmp t, by simpa using hx, rfl⟩)
   ·rw [h2 x hx]
    exact .any _ _
  refine .inl ?_
  have use : ∀ (c : Cat) (b1 b2 : zC), OpA R C rs o ev b1 c v b2 → (E.bl = b1 ∨ c = .pure) → (if c = .pure then E.bl else b2) = zAm rc E.bl bl' → o.wp C.P a E.w K Q := fun c b1 b2 hos hE hb =>
   hos.2 E a hE m g hev K Q fun v' w' ⟨E', e1, e2, e3, e4⟩ => by
    rw [← e1]
    exact hK E' v' e3 (e2.trans hb) e4
  have full : (∀ id, rc ≠ .readAt id) → (∀ id, rc ≠ .storeAt id) → (∀ id, rc ≠ .alloc id) → (∀ S, rc ≠ .touch S) → rc ≠ .pure → E.bl = bl := fun h1 h2 h4 h5 h3 => by
   rcases hE with h | h | ⟨id, h | h, _⟩ | ⟨id, h, _⟩ | ⟨S, h, _⟩
   ·exact h
   ·exact absurd h h3
   ·exact absurd h (h1 id)
   ·exact absurd h (h2 id)
   ·exact absurd h (h4 id)
   ·exact absurd h (h5 S)
  have part : ∀ id, (rc = .readAt id ∨ rc = .storeAt id) → zF E.bl id = zF bl id := fun id h => by
   rcases hE with h' | h' | ⟨id', h', hb⟩ | ⟨id', h', _⟩ | ⟨S, h', _⟩
   ·rw [h']
   ·subst h'; rcases h with h | h <;> cases h
   ·rcases h with rfl | rfl <;> rcases h' with h' | h' <;> cases h' <;> exact hb
   ·subst h'; rcases h with h | h <;> cases h
   ·subst h'; rcases h with h | h <;> cases h
  cases rc with
  | pure => exact use .pure bl bl' hos (.inr rfl) rfl
  | read =>
   have h := full (by simp) (by simp) (by simp) (by simp) (by simp)
   exact use .read bl bl' hos (.inl h) (by rw [hs.same (by simp [RC.cat])]; simpa [zAm] using h.symm)
  | readAt id => exact use .read E.bl E.bl (zBO hΓ r (hloc E.bl (part id (.inl rfl)))) (.inl rfl) rfl
  | storeAt id =>
   obtain ⟨q, e1, e3, _, e4⟩ := hloc
   refine use .write E.bl _ (zBO hΓ r (e4 E.bl (part id (.inr rfl)))) (.inl rfl) ?_
   simp only [reduceCtorEq, if_false, zAm, e1]
   rw [yE e3]
  | alloc id =>
   obtain ⟨q, e0, e1, e2⟩ := hloc
   have hl : E.bl.length = bl.length := by
    rcases hE with h | h | ⟨id', h, _⟩ | ⟨id', _, h⟩ | ⟨S, h, _⟩
    ·rw [h]
    ·cases h
    ·rcases h with h | h <;> cases h
    ·exact h
    ·cases h
   refine use .write E.bl _ (zBO hΓ r (e2 E.bl hl)) (.inl rfl) ?_
   simp only [reduceCtorEq, if_false, zAm, e1, hl]
   rw [List.drop_left]
  | touch S =>
   obtain ⟨e1, e2, e3⟩ := hloc
   have hb : ∀ id ∈ S, zF E.bl id = zF bl id := by
    rcases hE with h | h | ⟨id', h, _⟩ | ⟨id', h, _⟩ | ⟨S', h, hb⟩
    ·rw [h]; exact fun _ _ => rfl
    ·cases h
    ·rcases h with h | h <;> cases h
    ·cases h
    ·cases h; exact hb
   refine use .write E.bl _ (zBO hΓ r (e3 E.bl hb)) (.inl rfl) ?_
   simp only [reduceCtorEq, if_false, zAm]
  | write =>
   have h := full (by simp) (by simp) (by simp) (by simp) (by simp)
   exact use .write bl bl' hos (.inl h) rfl
 | false =>
  obtain ⟨rfl, rfl, rfl⟩ := hs.no rfl
  simp only [Bool.false_eq_true, if_false]
  exact hK E undef (.refl m) rfl (.tup _ [] #[] rfl (fun j x c h => by simp at h))
theorem w6 (tm : List AV) (d : Option Nat) (v : AV) (t : Nat) : (put tm d v).getD t .any = if d = some t ∧ t < tm.length then v else tm.getD t .any := by
 unfold put
 cases d with
 | none => simp
 | some d =>
  simp only [List.getD_eq_getElem?_getD, List.getElem?_set]
  by_cases h : d = t
  ·subst h
   by_cases h2 : d < tm.length
   ·simp [h2]
   ·simp [h2]
  ·simp [h]
theorem zDt (tm : List AV) (d : Option Nat) (v : AV) : (put tm d v).length = tm.length := by cases d <;> simp [put]
theorem zCQ (a : Act) (d : Option Nat) (v : Value) (t : Nat) : (a.put d v).tmps.getD t undef = if d = some t ∧ t < a.tmps.size then v else a.tmps.getD t undef := by
 cases d with
 | none => simp [Act.put]
 | some d =>
  simp only [Act.put, Array.getD_eq_getD_getElem?, Array.getElem?_setIfInBounds]
  by_cases h : d = t
  ·subst h
   by_cases h2 : d < a.tmps.size
   ·simp [h2]
   ·simp [h2]
  ·simp [h]
theorem jO (a : Act) (d : Option Nat) (v : Value) : (a.put d v).tmps.size = a.tmps.size := by cases d <;> simp [Act.put]
theorem qB (a : Act) (d : Option Nat) (v : Value) : (a.put d v).defers = a.defers := by cases d <;> rfl
theorem SR.put {E E' : Env} {tm : List AV} {bl bl' : zC} {a : Act} (s : SR C E tm bl a) (g : Go E E') (hb : E'.bl = bl') {d : Option Nat} {v : AV} {v' : Value} (hv : VR E' true v v') :
  SR C E' (put tm d v) bl' (a.put d v') := by
 refine ⟨hb, g.mem, s.glob.mono g.step.ro g.step.mp g.fr.keeps, by rw [jO, zDt, s.size], fun t => ?_, by rw [qB, s.defers]⟩
 rw [w6, zCQ, s.size]
 split
 ·exact hv
 ·exact (s.vr t).mono g.step
theorem zIT (hΓ : ∀ f m, C.Γ f = some m → zE C.P C.G f m) (r : R) {ops : Array Oper} {TM : Nat → List AV} {BL : Nat → zC} {V : Nat → AV} {cat : Nat → RC} {yes : Nat → Bool}
  (hst : ∀ (i : Nat) o, ops[i]? = some o → StepAt R C ops o (TM i) (TM (i + 1)) (BL i) (BL (i + 1)) (V i) (cat i) (yes i)) {Q : Exit → Act → World → Prop} :
  ∀ (n i : Nat) (E : Env) (a : Act), i + n = ops.size → SR C E (TM i) (BL i) a → (∀ E' a', Go E E' → SR C E' (TM ops.size) (BL ops.size) a' → Q .normal a' E'.w) →
   wpOps C.P ops Q (List.range' i n) a E.w
 | 0, i, E, a, hn, hs, hq => by
  have : i = ops.size := by omega
  subst this
  exact hq E a (.refl hs.mem) hs
 | n + 1, i, E, a, hn, hs, hq => by
  rw [List.range'_succ, wpOps_cons]
  have hi : i < ops.size := by omega
  have ho := Array.getElem?_eq_getElem hi
  have st := hst i _ ho
  refine zKw hΓ r st ho (.inl hs.bl) hs.mem hs.glob (fun t _ => hs.vr t) fun E' v' g hb hv => ?_
  have s' := hs.put (d := ops[i].dst) g (bl' := BL (i + 1)) (by
   rw [hb, hs.bl]
   have hsame := st.same
   have hat := st.at'
   have hal := st.al'
   have htc := st.tc
   revert hsame hat hal htc
   generalize cat i = rc
   intro hsame hat hal htc
   cases rc with
   | touch S => exact (htc S rfl).1.symm
   | alloc id =>
    obtain ⟨b, h1, h2⟩ := hal id rfl
    simp only [zAm, h2]
    rw [List.drop_left]
   | pure => exact (hsame (by simp [RC.cat])).symm
   | read => exact (hsame (by simp [RC.cat])).symm
   | readAt id => exact (hsame (by simp [RC.cat])).symm
   | storeAt id =>
    obtain ⟨b, h1, h2, _⟩ := hat id rfl
    simp only [zAm, h1]
    rw [yE h2]
   | write => rfl) hv
  rw [← st.slots] at s'
  exact zIT hΓ r hst n (i + 1) E' _ (by omega) s' fun E2 a2 g2 s2 => hq E2 a2 (g.trans g2) s2
end
end Go.Abs
end
section
set_option linter.unusedVariables false
set_option linter.unusedSimpArgs false
namespace Go.Abs
open Go
section
variable {R : Type} {C : Ctx}
def zKt (ops : Array Oper) (S : Nat → Prop) : Prop := ∀ (j : Nat) o, ops[j]? = some o → S j → ∀ e ∈ o.after, Region.binds .any e = true → S e.on
theorem zHl {S : Nat → Prop} (look : Nat → Nat) (hl : ∀ k i, S k → (look k).testBit i = true → S i) : ∀ (es : List Edge) (s : Nat), (∀ e ∈ es, Region.binds .any e = true → S e.on) → (∀ i, s.testBit i = true → S i) →
  ∀ i, (es.foldl (fun s e => if Region.binds .any e then s ||| 2 ^ e.on ||| look e.on else s) s).testBit i = true → S i
 | [], s, _, hs, i, h => hs i h
 | e :: es, s, he, hs, i, h => by
  rw [List.foldl_cons] at h
  refine zHl look hl es _ (fun e' h' => he e' (by simp [h'])) (fun k hk => ?_) i h
  split at hk
  ·rename_i hb
   have hon := he e (by simp) hb
   simp only [Nat.testBit_or, Bool.or_eq_true] at hk
   rcases hk with (hk | hk) | hk
   ·exact hs k hk
   ·rw [Nat.testBit_two_pow] at hk
    simp at hk
    rw [← hk]; exact hon
   ·exact hl e.on k hon hk
  ·exact hs k hk
theorem zFx {ops : Array Oper} {S : Nat → Prop} (hc : zKt ops S) : ∀ (j i : Nat), S j → ((Region.before ops).getD j 0).testBit i = true → S i := by
 unfold Region.before
 rw [← Array.foldl_toList]
 have key : ∀ (l : List Oper) (acc : Array Nat), (∀ (j : Nat) o, l[j]? = some o → ops[acc.size + j]? = some o) → (∀ j i, S j → (acc.getD j 0).testBit i = true → S i) →
   ∀ j i, S j → ((l.foldl (fun acc o => acc.push (o.after.foldl (fun s e => if Region.binds .any e then s ||| 2 ^ e.on ||| acc.getD e.on 0 else s) 0)) acc).getD j 0).testBit i = true → S i := by
  intro l
  induction l with
  | nil => intro acc _ h; exact h
  | cons o l ih =>
   intro acc ho h
   rw [List.foldl_cons]
   refine ih _ (fun j p hp => by have := ho (j + 1) p (by simpa using hp); rw [Array.size_push]; rw [show acc.size + 1 + j = acc.size + (j + 1) by omega]; exact this) fun j i hj hb => ?_
   rcases Nat.lt_trichotomy j acc.size with hlt | rfl | hgt
   ·refine h j i hj ?_
    simp only [Array.getD_eq_getD_getElem?] at hb ⊢
    rw [Array.getElem?_push_lt hlt] at hb
    rw [Array.getElem?_eq_getElem hlt]
    exact hb
   ·simp only [Array.getD_eq_getD_getElem?, Array.getElem?_push_size, Option.getD_some] at hb
    rw [← Array.foldl_toList] at hb
    refine zHl (fun k => acc.getD k 0) (fun k i hk hi => h k i hk hi) o.after.toList 0 (fun e he hbd => hc _ o (by simpa using ho 0 o rfl) hj e (by simpa using he) hbd) (fun i h => by simp at h) i ?_
    simpa [Array.getD_eq_getD_getElem?] using hb
   ·simp only [Array.getD_eq_getD_getElem?] at hb
    rw [Array.getElem?_eq_none (by rw [Array.size_push]; omega)] at hb
    simp at hb
 exact key ops.toList #[] (fun j o h => by simpa using h) fun j i _ h => by simp at h
structure OrderFacts (ops : Array Oper) (cat : Nat → RC) : Prop where
 edge : ∀ (j : Nat) o, ops[j]? = some o → ∀ e ∈ o.after, Region.binds .any e = true → e.on < j
 cats : ∀ i j, i < j → j < ops.size → (cat i).free (cat j) = true ∨ ((Region.before ops).getD j 0).testBit i = true
 slots : ∀ (i j : Nat) p q, i < j → ops[i]? = some p → ops[j]? = some q → ((Region.before ops).getD j 0).testBit i = true ∨ p.apart ops q = true
theorem zGK {ops : Array Oper} {cat : Nat → RC} (h : zAs ops ((List.range ops.size).map cat) = true) : OrderFacts ops cat := by
 unfold zAs at h
 simp only [CheckFast.beforeF_eq, List.all_eq_true, List.mem_range, Bool.and_eq_true] at h
 have hcat : ∀ i, i < ops.size → ((List.range ops.size).map cat).toArray.getD i .write = cat i := fun i hi => by
  simp [Array.getD_eq_getD_getElem?, List.getElem?_map, List.getElem?_range hi]
 have hget : ∀ (i : Nat) o, ops[i]? = some o → ops.getD i default = o := fun i o ho => by simp [Array.getD_eq_getD_getElem?, ho]
 refine ⟨fun j o ho e he hb => ?_, fun i j hij hj => ?_, fun i j p q hij hp hq => ?_⟩
 ·have hj := (Array.getElem?_eq_some_iff.1 ho).1
  have := (h j hj).1
  rw [hget j o ho, Array.all_eq_true_iff_forall_mem] at this
  have := this e he
  simpa [hb] using this
 ·have := ((h j hj).2 i hij).1
  rw [hcat i (by omega), hcat j hj] at this
  simpa using this
 ·have hj := (Array.getElem?_eq_some_iff.1 hq).1
  have := ((h j hj).2 i hij).2
  rw [hget i p hp, hget j q hq] at this
  simpa using this
def tmS (tm0 : List AV) (dst : Nat → Option Nat) (V : Nat → AV) (S : Nat → Bool) : Nat → List AV
 | 0 => tm0
 | i + 1 => if S i = true then put (tmS tm0 dst V S i) (dst i) (V i) else tmS tm0 dst V S i
theorem wH (tm0 : List AV) (dst : Nat → Option Nat) (V : Nat → AV) (S : Nat → Bool) : ∀ n, (tmS tm0 dst V S n).length = tm0.length
 | 0 => rfl
 | n + 1 => by
  unfold tmS
  split
  ·rw [zDt]; exact wH tm0 dst V S n
  ·exact wH tm0 dst V S n
theorem zFQ {n : Nat} {TM : Nat → List AV} {dst : Nat → Option Nat} {V : Nat → AV} {S : Nat → Bool} (hTM : ∀ i, i < n → TM (i + 1) = put (TM i) (dst i) (V i)) (hlen : ∀ i, i ≤ n → (TM i).length = (TM 0).length)
  {t i : Nat} (h : ∀ j, j < n → dst j = some t → (S j = true ↔ j < i)) : ∀ m, m ≤ n → (tmS (TM 0) dst V S m).getD t .any = (TM (min m i)).getD t .any
 | 0, _ => by simp [tmS]
 | m + 1, hm => by
  have ih := zFQ hTM hlen h m (by omega)
  unfold tmS
  by_cases hd : dst m = some t
  ·have := h m (by omega) hd
   by_cases hs : S m = true
   ·have hmi := this.1 hs
    rw [if_pos hs, w6, Nat.min_eq_left (by omega), hTM m (by omega), w6, wH, hlen m (by omega), ih, Nat.min_eq_left (by omega)]
   ·have hmi : ¬ m < i := fun e => hs (this.2 e)
    rw [if_neg hs, ih, Nat.min_eq_right (by omega), Nat.min_eq_right (by omega)]
  ·have hleft : (if S m = true then put (tmS (TM 0) dst V S m) (dst m) (V m) else tmS (TM 0) dst V S m).getD t .any = (tmS (TM 0) dst V S m).getD t .any := by
    split
    ·rw [w6, if_neg (fun e => hd e.1)]
    ·rfl
   rw [hleft, ih]
   rcases Nat.lt_or_ge m i with hmi | hmi
   ·rw [Nat.min_eq_left (by omega), Nat.min_eq_left (by omega), hTM m (by omega), w6, if_neg (fun e => hd e.1)]
   ·rw [Nat.min_eq_right (by omega), Nat.min_eq_right (by omega)]
theorem zNn {n : Nat} {tm0 : List AV} {dst : Nat → Option Nat} {V : Nat → AV} {S S' : Nat → Bool} {i : Nat} (hi : i < n) (hs : S i = false) (hS' : ∀ j, S' j = (S j || decide (j = i)))
  (h : ∀ j t, i < j → j < n → dst i = some t → dst j = some t → S j = false) (t : Nat) :
  (tmS tm0 dst V S' n).getD t .any = if dst i = some t ∧ t < tm0.length then V i else (tmS tm0 dst V S n).getD t .any := by
 have low : ∀ m, m ≤ i → tmS tm0 dst V S' m = tmS tm0 dst V S m := by
  intro m
  induction m with
  | zero => intro _; rfl
  | succ m ih =>
   intro hm
   unfold tmS
   rw [ih (by omega), hS' m]
   simp [show m ≠ i by omega]
 have high : ∀ k, i + 1 + k ≤ n → (tmS tm0 dst V S' (i + 1 + k)).getD t .any = if dst i = some t ∧ t < tm0.length then V i else (tmS tm0 dst V S (i + 1 + k)).getD t .any := by
  intro k
  induction k with
  | zero =>
   intro _
   simp only [Nat.add_zero]
   unfold tmS
   rw [low i (Nat.le_refl i), hS' i]
   simp only [decide_true, Bool.or_true, if_true, hs, Bool.false_eq_true, if_false]
   rw [w6, wH]
  | succ k ih =>
   intro hk
   have ih := ih (by omega)
   rw [show i + 1 + (k + 1) = (i + 1 + k) + 1 by omega]
   conv => lhs; unfold tmS
   conv => rhs; unfold tmS
   rw [hS' (i + 1 + k)]
   simp only [show i + 1 + k ≠ i by omega, decide_false, Bool.or_false]
   by_cases hS : S (i + 1 + k) = true
   ·simp only [hS, if_true]
    rw [w6, w6, wH, wH]
    by_cases hd : dst (i + 1 + k) = some t
    ·have hne : dst i ≠ some t := fun e => by
      have := h (i + 1 + k) t (by omega) (by omega) e hd
      rw [this] at hS; cases hS
     simp only [hd, hne, true_and, false_and, if_false]
     split
     ·rfl
     ·rw [ih]; simp [hne]
    ·simp only [hd, false_and, if_false]
     exact ih
   ·simp only [hS, if_false]
    exact ih
 have := high (n - (i + 1)) (by omega)
 rw [show i + 1 + (n - (i + 1)) = n by omega] at this
 exact this
def cnt (S : Nat → Bool) : Nat → Nat
 | 0 => 0
 | i + 1 => cnt S i + if S i = true then 0 else 1
theorem zGx {S : Nat → Bool} : ∀ {n : Nat}, cnt S n = 0 → ∀ i, i < n → S i = true
 | n + 1, h, i, hi => by
  simp only [cnt] at h
  rcases Nat.lt_or_ge i n with h' | h'
  ·exact zGx (by omega) i h'
  ·have : i = n := by omega
   subst this
   by_cases hs : S i = true
   ·exact hs
   ·simp [hs] at h
theorem zKL {S : Nat → Bool} : ∀ {n : Nat}, cnt S n ≠ 0 → ∃ i, i < n ∧ S i = false
 | 0, h => absurd rfl h
 | n + 1, h => by
  by_cases hs : S n = true
  ·simp only [cnt, hs, if_true, Nat.add_zero] at h
   obtain ⟨i, hi, h⟩ := zKL h
   exact ⟨i, by omega, h⟩
  ·exact ⟨n, by omega, by simpa using hs⟩
theorem zKK {S S' : Nat → Bool} {i : Nat} (hs : S i = false) (hS' : ∀ j, S' j = (S j || decide (j = i))) : ∀ {n : Nat}, i < n → cnt S n = cnt S' n + 1
 | n + 1, hi => by
  have low : ∀ m, m ≤ i → cnt S' m = cnt S m := by
   intro m
   induction m with
   | zero => intro _; rfl
   | succ m ih => intro hm; simp only [cnt, ih (by omega), hS' m]; simp [show m ≠ i by omega]
  simp only [cnt, hS' n]
  rcases Nat.lt_or_ge i n with h' | h'
  ·rw [zKK hs hS' h']
   simp only [show n ≠ i by omega, decide_false, Bool.or_false]
   omega
  ·have : i = n := by omega
   subst this
   rw [low i (Nat.le_refl i)]
   simp [hs]
theorem least {S : Nat → Bool} : ∀ {n : Nat}, S n = false → ∃ m, m ≤ n ∧ S m = false ∧ ∀ k, k < m → S k = true := by
 intro n
 induction n using Nat.strongRecOn with
 | _ n ih =>
  intro h
  by_cases hx : ∃ k, k < n ∧ S k = false
  ·obtain ⟨k, hk, hs⟩ := hx
   obtain ⟨m, h1, h2⟩ := ih k hk hs
   exact ⟨m, by omega, h2⟩
  ·exact ⟨n, Nat.le_refl n, h, fun k hk => by
    cases hs : S k with
    | true => rfl
    | false => exact absurd ⟨k, hk, hs⟩ hx⟩
section
variable {ops : Array Oper} {TM : Nat → List AV} {BL : Nat → zC} {V : Nat → AV} {cat : Nat → RC} {yes : Nat → Bool}
def jA : RC → Nat → Bool
 | .storeAt i, id => i == id
 | .touch S, id => S.contains id
 | _, _ => false
theorem qR {a b : RC} {id : Nat} (h : jA a id = true) (hb : b = .read ∨ b = .write ∨ b = .readAt id ∨ jA b id = true ∨ ∃ i0, b = .alloc i0 ∧ i0 ≤ id) : a.free b = false ∧ b.free a = false := by
 cases a with
 | storeAt i =>
  simp only [jA, beq_iff_eq] at h
  subst h
  rcases hb with rfl | rfl | rfl | hb | ⟨i0, rfl, hle⟩
  ·exact ⟨rfl, rfl⟩
  ·exact ⟨rfl, rfl⟩
  ·simp [RC.free]
  ·cases b with
   | storeAt j => simp only [jA, beq_iff_eq] at hb; subst hb; simp [RC.free]
   | touch T => simp only [jA, List.contains_iff_mem] at hb; simp [RC.free, hb]
   | _ => cases hb
  ·simp only [RC.free]; constructor <;> simp <;> omega
 | touch S =>
  simp only [jA, List.contains_iff_mem] at h
  rcases hb with rfl | rfl | rfl | hb | ⟨i0, rfl, hle⟩
  ·exact ⟨rfl, rfl⟩
  ·exact ⟨rfl, rfl⟩
  ·simp [RC.free, h]
  ·cases b with
   | storeAt j => simp only [jA, beq_iff_eq] at hb; subst hb; simp [RC.free, h]
   | touch T =>
    simp only [jA, List.contains_iff_mem] at hb
    simp only [RC.free]
    constructor
    ·exact List.all_eq_false.2 ⟨id, h, by simp [hb]⟩
    ·exact List.all_eq_false.2 ⟨id, hb, by simp [h]⟩
   | _ => cases hb
  ·simp only [RC.free]
   have : (S.all fun i => decide (i < i0)) = false := List.all_eq_false.2 ⟨id, h, by simp; omega⟩
   exact ⟨this, this⟩
 | _ => cases h
def zEn (ops : Array Oper) (i : Nat) : Option Nat := (ops[i]?).bind (·.dst)
structure AnyInv (C : Ctx) (ops : Array Oper) (TM : Nat → List AV) (BL : Nat → zC) (V : Nat → AV) (cat : Nat → RC) (E : Env) (a : Act) (S : Nat → Bool) : Prop where
 mem : Mem E
 glob : Glob C.G E
 size : a.tmps.size = (TM 0).length
 defers : a.defers = []
 vr : ∀ t, VR E true ((tmS (TM 0) (zEn ops) V S ops.size).getD t .any) (a.tmps.getD t undef)
 len : ∃ p, p ≤ ops.size ∧ E.bl.length = (BL p).length ∧ ∀ j, j < ops.size → (cat j = .write ∨ ∃ id, cat j = .alloc id) → (S j = true ↔ j < p)
 bl : ∀ id, ∃ p, p ≤ ops.size ∧ zF E.bl id = zF (BL p) id ∧ ∀ j, j < ops.size → (cat j = .write ∨ jA (cat j) id = true ∨ ∃ i0, cat j = .alloc i0 ∧ i0 ≤ id) → (S j = true ↔ j < p)
theorem zIJ (hst : ∀ (i : Nat) o, ops[i]? = some o → StepAt R C ops o (TM i) (TM (i + 1)) (BL i) (BL (i + 1)) (V i) (cat i) (yes i)) {i : Nat} (hi : i < ops.size) (hw : cat i ≠ .write) :
  ((∀ id, cat i ≠ .alloc id) → (BL (i + 1)).length = (BL i).length) ∧ ∀ id, ¬ jA (cat i) id = true → (∀ i0, cat i = .alloc i0 → ¬ i0 ≤ id) → zF (BL (i + 1)) id = zF (BL i) id := by
 have st := hst i _ (Array.getElem?_eq_getElem hi)
 have hsame := st.same
 have hat := st.at'
 have hal := st.al'
 have htc := st.tc
 revert hsame hat hal hw htc
 generalize cat i = rc
 intro hw hsame hat hal htc
 cases rc with
 | write => exact absurd rfl hw
 | touch S =>
  obtain ⟨h1, h2⟩ := htc S rfl
  refine ⟨fun _ => by rw [h1, zDY], fun id' h _ => ?_⟩
  rw [h1, zCZ S _ _ fun i hi => (h2 i hi).1, if_neg fun hm => h (by simpa [jA] using hm)]
 | storeAt id =>
  obtain ⟨b, h1, h2, _⟩ := hat id rfl
  rw [h1]
  exact ⟨fun _ => by simp, fun id' h _ => yH (fun e => h (by simp [jA, e]))⟩
 | alloc id =>
  obtain ⟨b, h1, h2⟩ := hal id rfl
  rw [h2]
  refine ⟨fun h => absurd rfl (h id), fun id' _ h => ?_⟩
  have := h id rfl
  exact kC (by omega)
 | pure => have := hsame (by simp [RC.cat]); rw [this]; exact ⟨fun _ => rfl, fun _ _ _ => rfl⟩
 | read => have := hsame (by simp [RC.cat]); rw [this]; exact ⟨fun _ => rfl, fun _ _ _ => rfl⟩
 | readAt id => have := hsame (by simp [RC.cat]); rw [this]; exact ⟨fun _ => rfl, fun _ _ _ => rfl⟩
theorem zEM (hst : ∀ (i : Nat) o, ops[i]? = some o → StepAt R C ops o (TM i) (TM (i + 1)) (BL i) (BL (i + 1)) (V i) (cat i) (yes i)) {p : Nat} : ∀ k, p + k ≤ ops.size → (∀ j, p ≤ j → j < p + k → cat j ≠ .write ∧ ∀ id, cat j ≠ .alloc id) → (BL (p + k)).length = (BL p).length
 | 0, _, _ => rfl
 | k + 1, hk, h => by
  rw [show p + (k + 1) = (p + k) + 1 by omega, (zIJ hst (by omega) (h _ (by omega) (by omega)).1).1 (h _ (by omega) (by omega)).2]
  exact zEM hst k (by omega) fun j h1 h2 => h j h1 (by omega)
theorem zEV (hst : ∀ (i : Nat) o, ops[i]? = some o → StepAt R C ops o (TM i) (TM (i + 1)) (BL i) (BL (i + 1)) (V i) (cat i) (yes i)) {id p : Nat} : ∀ k, p + k ≤ ops.size → (∀ j, p ≤ j → j < p + k → cat j ≠ .write ∧ ¬ jA (cat j) id = true ∧ ∀ i0, cat j = .alloc i0 → ¬ i0 ≤ id) → zF (BL (p + k)) id = zF (BL p) id
 | 0, _, _ => rfl
 | k + 1, hk, h => by
  have hh := h (p + k) (by omega) (by omega)
  rw [show p + (k + 1) = (p + k) + 1 by omega, (zIJ hst (by omega) hh.1).2 id hh.2.1 hh.2.2]
  exact zEV hst k (by omega) fun j h1 h2 => h j h1 (by omega)
theorem zJd (hst : ∀ (i : Nat) o, ops[i]? = some o → StepAt R C ops o (TM i) (TM (i + 1)) (BL i) (BL (i + 1)) (V i) (cat i) (yes i)) {p q : Nat} (hp : p ≤ ops.size) (hq : q ≤ ops.size)
  (h : ∀ j, j < ops.size → (cat j = .write ∨ ∃ id, cat j = .alloc id) → (j < p ↔ j < q)) : (BL p).length = (BL q).length := by
 rcases Nat.le_total p q with hpq | hpq
 ·have := zEM hst (p := p) (q - p) (by omega) fun j h1 h2 => ⟨fun hw => by have := (h j (by omega) (.inl hw)).2 (by omega); omega, fun id hw => by have := (h j (by omega) (.inr ⟨id, hw⟩)).2 (by omega); omega⟩
  rw [show p + (q - p) = q by omega] at this
  exact this.symm
 ·have := zEM hst (p := q) (p - q) (by omega) fun j h1 h2 => ⟨fun hw => by have := (h j (by omega) (.inl hw)).1 (by omega); omega, fun id hw => by have := (h j (by omega) (.inr ⟨id, hw⟩)).1 (by omega); omega⟩
  rw [show q + (p - q) = p by omega] at this
  exact this
theorem zJl (hst : ∀ (i : Nat) o, ops[i]? = some o → StepAt R C ops o (TM i) (TM (i + 1)) (BL i) (BL (i + 1)) (V i) (cat i) (yes i)) {id p q : Nat} (hp : p ≤ ops.size) (hq : q ≤ ops.size)
  (h : ∀ j, j < ops.size → (cat j = .write ∨ jA (cat j) id = true ∨ ∃ i0, cat j = .alloc i0 ∧ i0 ≤ id) → (j < p ↔ j < q)) : zF (BL p) id = zF (BL q) id := by
 rcases Nat.le_total p q with hpq | hpq
 ·have := zEV hst (id := id) (p := p) (q - p) (by omega) fun j h1 h2 => ⟨fun hw => by have := (h j (by omega) (.inl hw)).2 (by omega); omega, fun hw => by have := (h j (by omega) (.inr (.inl hw))).2 (by omega); omega, fun i0 hw hle => by have := (h j (by omega) (.inr (.inr ⟨i0, hw, hle⟩))).2 (by omega); omega⟩
  rw [show p + (q - p) = q by omega] at this
  exact this.symm
 ·have := zEV hst (id := id) (p := q) (p - q) (by omega) fun j h1 h2 => ⟨fun hw => by have := (h j (by omega) (.inl hw)).1 (by omega); omega, fun hw => by have := (h j (by omega) (.inr (.inl hw))).1 (by omega); omega, fun i0 hw hle => by have := (h j (by omega) (.inr (.inr ⟨i0, hw, hle⟩))).1 (by omega); omega⟩
  rw [show q + (p - q) = p by omega] at this
  exact this
theorem zJF {a b : zC} (hl : a.length = b.length) (h : ∀ id, zF a id = zF b id) : a = b := by
 apply List.ext_getElem hl
 intro i h1 h2
 have := h i
 simpa [zF, h1, h2] using this
theorem zOv (hΓ : ∀ f m, C.Γ f = some m → zE C.P C.G f m) (r : R) (hst : ∀ (i : Nat) o, ops[i]? = some o → StepAt R C ops o (TM i) (TM (i + 1)) (BL i) (BL (i + 1)) (V i) (cat i) (yes i)) (F : OrderFacts ops cat) {Q : Exit → Act → World → Prop} :
  ∀ (fuel : Nat) (listed : Array Bool) (E : Env) (a : Act), listed.size = ops.size → zKt ops (fun j => listed.getD j false = true) → cnt (fun j => listed.getD j false) ops.size = fuel →
   AnyInv C ops TM BL V cat E a (fun j => listed.getD j false) → (∀ E' a', Go E E' → SR C E' (TM ops.size) (BL ops.size) a' → Q .normal a' E'.w) →
   wpAny C.P .any ops Q fuel listed a E.w := by
 have hTM : ∀ i, i < ops.size → TM (i + 1) = put (TM i) (zEn ops i) (V i) := fun i hi => by
  have ho := Array.getElem?_eq_getElem hi
  rw [(hst i _ ho).slots]
  simp [zEn, ho]
 have hlen : ∀ i, i ≤ ops.size → (TM i).length = (TM 0).length := by
  intro i
  induction i with
  | zero => intro _; rfl
  | succ i ih => intro hi; rw [hTM i (by omega), zDt]; exact ih (by omega)
 have done : ∀ (listed : Array Bool) (E : Env) (a : Act), cnt (fun j => listed.getD j false) ops.size = 0 → AnyInv C ops TM BL V cat E a (fun j => listed.getD j false) → SR C E (TM ops.size) (BL ops.size) a := fun listed E a hc inv => by
  have hall := zGx hc
  refine ⟨?_, inv.mem, inv.glob, by rw [inv.size, hlen _ (Nat.le_refl _)], fun t => ?_, inv.defers⟩
  ·refine zJF ?_ fun id => ?_
   ·obtain ⟨p, hp, hb, hw⟩ := inv.len
    rw [hb]
    exact zJd hst hp (Nat.le_refl _) fun j hj hwj => ⟨fun _ => hj, fun _ => (hw j hj hwj).1 (hall j hj)⟩
   ·obtain ⟨p, hp, hb, hw⟩ := inv.bl id
    rw [hb]
    exact zJl hst hp (Nat.le_refl _) fun j hj hwj => ⟨fun _ => hj, fun _ => (hw j hj hwj).1 (hall j hj)⟩
  ·have := zFQ hTM hlen (S := fun j => listed.getD j false) (t := t) (i := ops.size) (fun j hj _ => ⟨fun _ => hj, fun _ => hall j hj⟩) ops.size (Nat.le_refl _)
   rw [Nat.min_self] at this
   rw [← this]
   exact inv.vr t
 have ready_ne : ∀ (listed : Array Bool), listed.size = ops.size → cnt (fun j => listed.getD j false) ops.size ≠ 0 → Region.ready .any ops listed ≠ [] := fun listed hsz hc => by
  obtain ⟨i, hi, hs⟩ := zKL hc
  obtain ⟨m, hm, hsm, hall⟩ := least (S := fun j => listed.getD j false) hs
  have ho := Array.getElem?_eq_getElem (xs := ops) (i := m) (by omega)
  have : m ∈ Region.ready .any ops listed := mem_ready.2 ⟨by
   have hml : m < listed.size := by omega
   simp [Array.getD_eq_getD_getElem?, hml] at hsm ⊢
   exact hsm, _, ho, fun e he hb => hall e.on (F.edge m _ ho e he hb)⟩
  intro e
  rw [e] at this
  cases this
 intro fuel
 induction fuel with
 | zero =>
  intro listed E a hsz hcl hc inv hq
  refine ⟨?_, hq E a (.refl inv.mem) (done listed E a hc inv)⟩
  have hall := zGx hc
  cases hr : Region.ready .any ops listed with
  | nil => rfl
  | cons j r =>
   have hj : j ∈ Region.ready .any ops listed := by rw [hr]; simp
   obtain ⟨h0, o, ho, _⟩ := mem_ready.1 hj
   have hjn := (Array.getElem?_eq_some_iff.1 ho).1
   have := hall j hjn
   have hjl : j < listed.size := by omega
   simp [Array.getD_eq_getD_getElem?, hjl] at h0 this
   rw [h0] at this
   cases this
 | succ fuel ih =>
  intro listed E a hsz hcl hc inv hq
  refine ⟨fun h0 => absurd h0 (ready_ne listed hsz (by omega)), fun i hi => ?_⟩
  obtain ⟨h0, o, ho, hedges⟩ := mem_ready.1 hi
  have hin := (Array.getElem?_eq_some_iff.1 ho).1
  have hil : i < listed.size := by omega
  have hSi : listed.getD i false = false := by simp [Array.getD_eq_getD_getElem?, hil] at h0 ⊢; exact h0
  have hS' : ∀ j, (listed.setIfInBounds i true).getD j false = (listed.getD j false || decide (j = i)) := fun j => by
   simp only [Array.getD_eq_getD_getElem?, Array.getElem?_setIfInBounds]
   by_cases hji : j = i
   ·subst hji; simp [hil]
   ·have : ¬ i = j := fun e => hji e.symm
    simp [hji, this]
  have hcl' : zKt ops (fun j => (listed.setIfInBounds i true).getD j false = true) := fun j p hp hj e he hb => by
   simp only [hS', Bool.or_eq_true, decide_eq_true_eq] at hj ⊢
   rcases hj with hj | rfl
   ·exact .inl (hcl j p hp hj e he hb)
   ·rw [ho] at hp
    cases hp
    exact .inl (hedges e he hb)
  -- what must come ahead has come; what must come behind has not
  have ahead : ∀ j, ((Region.before ops).getD i 0).testBit j = true → j < i → listed.getD j false = true := fun j hb hji => by
   have := zFx hcl' i j (by simp [hS']) hb
   simp only [hS', Bool.or_eq_true, decide_eq_true_eq] at this
   exact this.resolve_right (by omega)
  have behind : ∀ j, ((Region.before ops).getD j 0).testBit i = true → listed.getD j false = false := fun j hb => by
   cases hj : listed.getD j false with
   | false => rfl
   | true =>
    have := zFx hcl j i hj hb
    rw [hSi] at this
    cases this
  have hbl : ∀ j, j < ops.size → (j < i → (cat j).free (cat i) = false) → (i < j → (cat i).free (cat j) = false) → j ≠ i → (listed.getD j false = true ↔ j < i) := fun j hj f1 f2 hne => by
   constructor
   ·intro hs
    rcases Nat.lt_or_ge j i with h | h
    ·exact h
    ·have hlt : i < j := by omega
     rcases F.cats i j hlt hj with h1 | h1
     ·rw [f2 hlt] at h1; cases h1
     ·rw [behind j h1] at hs; cases hs
   ·intro h
    rcases F.cats j i h hin with h1 | h1
    ·rw [f1 h] at h1; cases h1
    ·exact ahead j h1 h
  have self : (listed.getD i false = true ↔ i < i) := by rw [hSi]; simp
  have lenOf : (∀ j, j < ops.size → (cat j = .write ∨ ∃ id, cat j = .alloc id) → (listed.getD j false = true ↔ j < i)) → E.bl.length = (BL i).length := fun hall => by
   obtain ⟨p, hp, hb, hw⟩ := inv.len
   rw [hb]
   refine zJd hst hp (by omega) fun j hj hwj => ?_
   rw [← hw j hj hwj]
   exact hall j hj hwj
  have getOf : ∀ id, (∀ j, j < ops.size → (cat j = .write ∨ jA (cat j) id = true ∨ ∃ i0, cat j = .alloc i0 ∧ i0 ≤ id) → (listed.getD j false = true ↔ j < i)) → zF E.bl id = zF (BL i) id := fun id hall => by
   obtain ⟨p, hp, hb, hw⟩ := inv.bl id
   rw [hb]
   refine zJl hst hp (by omega) fun j hj hwj => ?_
   rw [← hw j hj hwj]
   exact hall j hj hwj
  have lenI : (cat i = .read ∨ cat i = .write) → E.bl = BL i := fun hc => by
   have hall : ∀ j, j < ops.size → (cat j = .write ∨ (∃ id, jA (cat j) id = true) ∨ ∃ id, cat j = .alloc id) → (listed.getD j false = true ↔ j < i) := fun j hj hwj => by
    by_cases hji : j = i
    ·subst hji; exact self
    ·refine hbl j hj (fun _ => ?_) (fun _ => ?_) hji
     ·rcases hwj with h | ⟨id, h⟩ | ⟨id, h⟩ <;> rcases hc with hc | hc <;> first | (rw [h, hc]; rfl) | exact (qR h (.inl hc)).1 | exact (qR h (.inr (.inl hc))).1
     ·rcases hwj with h | ⟨id, h⟩ | ⟨id, h⟩ <;> rcases hc with hc | hc <;> first | (rw [h, hc]; rfl) | exact (qR h (.inl hc)).2 | exact (qR h (.inr (.inl hc))).2
   refine zJF (lenOf fun j hj hwj => hall j hj (hwj.elim .inl fun h => .inr (.inr h))) fun id => getOf id fun j hj hwj => hall j hj ?_
   rcases hwj with h | h | h
   ·exact .inl h
   ·exact .inr (.inl ⟨_, h⟩)
   ·exact .inr (.inr ⟨_, h.choose_spec.1⟩)
  have atI : ∀ id, (cat i = .readAt id ∨ jA (cat i) id = true) → (∀ j, j < ops.size → (cat j = .write ∨ jA (cat j) id = true ∨ ∃ i0, cat j = .alloc i0 ∧ i0 ≤ id) → (listed.getD j false = true ↔ j < i)) ∧ zF E.bl id = zF (BL i) id := fun id hc => by
   have hall : ∀ j, j < ops.size → (cat j = .write ∨ jA (cat j) id = true ∨ ∃ i0, cat j = .alloc i0 ∧ i0 ≤ id) → (listed.getD j false = true ↔ j < i) := fun j hj hwj => by
    by_cases hji : j = i
    ·subst hji; exact self
    ·refine hbl j hj (fun _ => ?_) (fun _ => ?_) hji
     ·rcases hc with hc | hc
      ·rcases hwj with h | h | ⟨i0, h, hle⟩
       ·rw [h, hc]; rfl
       ·exact (qR h (.inr (.inr (.inl hc)))).1
       ·rw [h, hc]; simp [RC.free]; omega
      ·exact (qR hc (hwj.elim (fun h => .inr (.inl h)) fun h => .inr (.inr (.inr h)))).2
     ·rcases hc with hc | hc
      ·rcases hwj with h | h | ⟨i0, h, hle⟩
       ·rw [h, hc]; rfl
       ·exact (qR h (.inr (.inr (.inl hc)))).2
       ·rw [h, hc]; simp [RC.free]; omega
      ·exact (qR hc (hwj.elim (fun h => .inr (.inl h)) fun h => .inr (.inr (.inr h)))).1
   exact ⟨hall, getOf id hall⟩
  have alI : ∀ id, cat i = .alloc id → (∀ j, j < ops.size → (cat j = .write ∨ ∃ id, cat j = .alloc id) → (listed.getD j false = true ↔ j < i)) ∧ (∀ id', id ≤ id' → ∀ j, j < ops.size → (cat j = .write ∨ jA (cat j) id' = true ∨ ∃ i0, cat j = .alloc i0 ∧ i0 ≤ id') → (listed.getD j false = true ↔ j < i)) := fun id hc => by
   refine ⟨fun j hj hwj => ?_, fun id' hid j hj hwj => ?_⟩
   ·by_cases hji : j = i
    ·subst hji; exact self
    ·refine hbl j hj (fun _ => ?_) (fun _ => ?_) hji
     ·rcases hwj with h | ⟨id', h⟩ <;> rw [h, hc] <;> rfl
     ·rcases hwj with h | ⟨id', h⟩ <;> rw [h, hc] <;> rfl
   ·by_cases hji : j = i
    ·subst hji; exact self
    ·refine hbl j hj (fun _ => ?_) (fun _ => ?_) hji
     ·rcases hwj with h | h | ⟨i0, h, hle⟩
      ·rw [h, hc]; rfl
      ·exact (qR h (.inr (.inr (.inr (.inr ⟨id, hc, hid⟩))))).1
      ·rw [h, hc]; simp [RC.free] <;> omega
     ·rcases hwj with h | h | ⟨i0, h, hle⟩
      ·rw [h, hc]; rfl
      ·exact (qR h (.inr (.inr (.inr (.inr ⟨id, hc, hid⟩))))).2
      ·rw [h, hc]; simp [RC.free] <;> omega
  have hEbl : E.bl = BL i ∨ cat i = .pure ∨ (∃ id, (cat i = .readAt id ∨ cat i = .storeAt id) ∧ zF E.bl id = zF (BL i) id) ∨ (∃ id, cat i = .alloc id ∧ E.bl.length = (BL i).length) ∨ (∃ S, cat i = .touch S ∧ ∀ id ∈ S, zF E.bl id = zF (BL i) id) := by
   cases hcat : cat i with
   | touch S => exact .inr (.inr (.inr (.inr ⟨S, rfl, fun id hid => (atI id (.inr (by rw [hcat]; simpa [jA] using hid))).2⟩)))
   | pure => exact .inr (.inl rfl)
   | read => exact .inl (lenI (.inl hcat))
   | write => exact .inl (lenI (.inr hcat))
   | readAt id => exact .inr (.inr (.inl ⟨id, .inl rfl, (atI id (.inl hcat)).2⟩))
   | storeAt id => exact .inr (.inr (.inl ⟨id, .inr rfl, (atI id (.inr (by rw [hcat]; simp [jA]))).2⟩))
   | alloc id => exact .inr (.inr (.inr (.inl ⟨id, rfl, lenOf (alI id hcat).1⟩)))
  have st := hst i o ho
  refine zKw hΓ r st ho hEbl inv.mem inv.glob (fun t ht => ?_) fun E' v' g hb' hv => ?_
  ·have := zFQ hTM hlen (S := fun j => listed.getD j false) (t := t) (i := i) (fun j hj hd => ?_) ops.size (Nat.le_refl _)
   ·rw [Nat.min_eq_right (by omega)] at this
    rw [← this]
    exact inv.vr t
   ·have hoj := Array.getElem?_eq_getElem hj
    have hdj : ops[j].dst = some t := by simpa [zEn, hoj] using hd
    constructor
    ·intro hs
     rcases Nat.lt_trichotomy j i with h | rfl | h
     ·exact h
     ·rw [hSi] at hs; cases hs
     ·rcases F.slots i j _ _ h ho hoj with h1 | h1
      ·rw [behind j h1] at hs; cases hs
      ·exact absurd ht ((Oper.apart_spec h1).2.2 t hdj)
    ·intro h
     rcases F.slots j i _ _ h hoj ho with h1 | h1
     ·exact ahead j h1 h
     ·exact absurd ht ((Oper.apart_spec h1).1 t hdj)
  ·refine ih _ E' _ (by simpa using hsz) hcl' (by have := zKK (S := fun j => listed.getD j false) (S' := fun j => (listed.setIfInBounds i true).getD j false) hSi hS' hin; omega) ?_ fun E2 a2 g2 s2 => hq E2 a2 (g.trans g2) s2
   refine ⟨g.mem, inv.glob.mono g.step.ro g.step.mp g.fr.keeps, by rw [jO]; exact inv.size, by rw [qB]; exact inv.defers, fun t => ?_, ?_, ?_⟩
   ·rw [zNn hin (S := fun j => listed.getD j false) hSi hS' (fun j t hij hj hdi hdj => ?_) t]
    ·rw [zCQ, inv.size]
     have : zEn ops i = o.dst := by simp [zEn, ho]
     rw [this]
     split
     ·exact hv
     ·exact (inv.vr t).mono g.step
    ·have hoj := Array.getElem?_eq_getElem hj
     rcases F.slots i j _ _ hij ho hoj with h1 | h1
     ·exact behind j h1
     ·have hdi' : o.dst = some t := by simpa [zEn, ho] using hdi
      have hdj' : ops[j].dst = some t := by simpa [zEn, hoj] using hdj
      exact absurd hdj' ((Oper.apart_spec h1).2.1 t hdi')
   ·have keep : cat i ≠ .write → (∀ id, cat i ≠ .alloc id) → E'.bl.length = E.bl.length → ∃ p, p ≤ ops.size ∧ E'.bl.length = (BL p).length ∧ ∀ j, j < ops.size → (cat j = .write ∨ ∃ id, cat j = .alloc id) → ((listed.setIfInBounds i true).getD j false = true ↔ j < p) := fun hne hne2 hl => by
     obtain ⟨p, hp, hb, hw⟩ := inv.len
     refine ⟨p, hp, hl.trans hb, fun j hj hwj => ?_⟩
     rw [← hw j hj hwj]
     simp only [hS', Bool.or_eq_true, decide_eq_true_eq]
     exact ⟨fun h => h.resolve_right (fun e => by subst e; exact hwj.elim hne fun ⟨id, h⟩ => hne2 id h), .inl⟩
    have step : E'.bl.length = (BL (i + 1)).length → (∀ j, j < ops.size → j ≠ i → (cat j = .write ∨ ∃ id, cat j = .alloc id) → (listed.getD j false = true ↔ j < i)) → ∃ p, p ≤ ops.size ∧ E'.bl.length = (BL p).length ∧ ∀ j, j < ops.size → (cat j = .write ∨ ∃ id, cat j = .alloc id) → ((listed.setIfInBounds i true).getD j false = true ↔ j < p) := fun hl hall => by
     refine ⟨i + 1, by omega, hl, fun j hj hwj => ?_⟩
     simp only [hS', Bool.or_eq_true, decide_eq_true_eq]
     by_cases hji : j = i
     ·subst hji; simp
     ·rw [hall j hj hji hwj]
      omega
    cases hcat : cat i with
    | pure => rw [hcat] at hb'; exact keep (by rw [hcat]; simp) (by rw [hcat]; simp) (by rw [hb']; rfl)
    | read => rw [hcat] at hb'; exact keep (by rw [hcat]; simp) (by rw [hcat]; simp) (by rw [hb']; rfl)
    | readAt id => rw [hcat] at hb'; exact keep (by rw [hcat]; simp) (by rw [hcat]; simp) (by rw [hb']; rfl)
    | storeAt id => rw [hcat] at hb'; exact keep (by rw [hcat]; simp) (by rw [hcat]; simp) (by rw [hb']; simp [zAm])
    | touch S => rw [hcat] at hb'; exact keep (by rw [hcat]; simp) (by rw [hcat]; simp) (by rw [hb']; simp [zAm, zDY])
    | alloc id =>
     rw [hcat] at hb'
     obtain ⟨b, g1, g2⟩ := st.al' id hcat
     exact step (by rw [hb', g2]; simp [zAm, lenOf (alI id hcat).1]) fun j hj _ hwj => (alI id hcat).1 j hj hwj
    | write =>
     rw [hcat] at hb'
     refine step (by rw [hb']; rfl) fun j hj hji hwj => hbl j hj (fun _ => ?_) (fun _ => ?_) hji
     ·rcases hwj with h | ⟨id, h⟩ <;> rw [h, hcat] <;> rfl
     ·rcases hwj with h | ⟨id, h⟩ <;> rw [h, hcat] <;> rfl
   ·intro id
    have keep : cat i ≠ .write → ¬ jA (cat i) id = true → (∀ i0, cat i = .alloc i0 → ¬ i0 ≤ id) → zF E'.bl id = zF E.bl id → ∃ p, p ≤ ops.size ∧ zF E'.bl id = zF (BL p) id ∧ ∀ j, j < ops.size → (cat j = .write ∨ jA (cat j) id = true ∨ ∃ i0, cat j = .alloc i0 ∧ i0 ≤ id) → ((listed.setIfInBounds i true).getD j false = true ↔ j < p) := fun hne hne2 hne3 hl => by
     obtain ⟨p, hp, hb, hw⟩ := inv.bl id
     refine ⟨p, hp, hl.trans hb, fun j hj hwj => ?_⟩
     rw [← hw j hj hwj]
     simp only [hS', Bool.or_eq_true, decide_eq_true_eq]
     exact ⟨fun h => h.resolve_right (fun e => by subst e; exact hwj.elim hne fun h => h.elim hne2 fun ⟨i0, h1, h2⟩ => hne3 i0 h1 h2), .inl⟩
    have step : zF E'.bl id = zF (BL (i + 1)) id → (∀ j, j < ops.size → j ≠ i → (cat j = .write ∨ jA (cat j) id = true ∨ ∃ i0, cat j = .alloc i0 ∧ i0 ≤ id) → (listed.getD j false = true ↔ j < i)) → ∃ p, p ≤ ops.size ∧ zF E'.bl id = zF (BL p) id ∧ ∀ j, j < ops.size → (cat j = .write ∨ jA (cat j) id = true ∨ ∃ i0, cat j = .alloc i0 ∧ i0 ≤ id) → ((listed.setIfInBounds i true).getD j false = true ↔ j < p) := fun hl hall => by
     refine ⟨i + 1, by omega, hl, fun j hj hwj => ?_⟩
     simp only [hS', Bool.or_eq_true, decide_eq_true_eq]
     by_cases hji : j = i
     ·subst hji; simp
     ·rw [hall j hj hji hwj]
      omega
    cases hcat : cat i with
    | pure => rw [hcat] at hb'; exact keep (by rw [hcat]; simp) (by rw [hcat]; simp [jA]) (by rw [hcat]; simp) (by rw [hb']; rfl)
    | read => rw [hcat] at hb'; exact keep (by rw [hcat]; simp) (by rw [hcat]; simp [jA]) (by rw [hcat]; simp) (by rw [hb']; rfl)
    | readAt id' => rw [hcat] at hb'; exact keep (by rw [hcat]; simp) (by rw [hcat]; simp [jA]) (by rw [hcat]; simp) (by rw [hb']; rfl)
    | touch S =>
     rw [hcat] at hb'
     obtain ⟨g1, g2⟩ := st.tc S hcat
     have hlt : ∀ i ∈ S, i < E.bl.length := fun j hj => by
      have hget := (atI j (.inr (by rw [hcat]; simpa [jA] using hj))).2
      cases hg : zF E.bl j with
      | none => rw [hget] at hg; exact absurd hg (g2 j hj).2
      | some q => exact z4 hg
     by_cases hid : id ∈ S
     ·have hh : jA (cat i) id = true := by rw [hcat]; simpa [jA] using hid
      exact step (by rw [hb']; simp only [zAm]; rw [zCZ S _ _ hlt, if_pos hid]) fun j hj _ hwj => (atI id (.inr hh)).1 j hj hwj
     ·exact keep (by rw [hcat]; simp) (by rw [hcat]; simpa [jA] using hid) (by rw [hcat]; simp) (by rw [hb']; simp only [zAm]; rw [zCZ S _ _ hlt, if_neg hid])
    | storeAt id' =>
     rw [hcat] at hb'
     by_cases hid : id' = id
     ·subst hid
      obtain ⟨hall, hget⟩ := atI id' (.inr (by rw [hcat]; simp [jA]))
      obtain ⟨b, g1, g2, hb0⟩ := st.at' id' hcat
      have hlt : id' < E.bl.length := by
       cases hg : zF E.bl id' with
       | none => rw [hget] at hg; exact absurd hg hb0
       | some q => exact z4 hg
      exact step (by rw [hb']; simp only [zAm]; rw [yE hlt]) fun j hj _ hwj => hall j hj hwj
     ·exact keep (by rw [hcat]; simp) (by rw [hcat]; simpa [jA] using hid) (by rw [hcat]; simp) (by rw [hb']; simp only [zAm]; rw [yH hid])
    | alloc id' =>
     rw [hcat] at hb'
     obtain ⟨b, g1, g2⟩ := st.al' id' hcat
     have hl := lenOf (alI id' hcat).1
     have hE : E'.bl = E.bl ++ b := by
      rw [hb']
      simp only [zAm, g2]
      rw [hl, List.drop_left]
     by_cases hid : id' ≤ id
     ·refine step ?_ fun j hj _ hwj => (alI id' hcat).2 id hid j hj hwj
      have ge : ∀ (x : zC), x.length = id' → zF (x ++ b) id = zF b (id - id') := fun x hx => by
       simp only [zF, List.getD_eq_getElem?_getD]
       rw [List.getElem?_append_right (by omega), hx]
      rw [hE, g2, ge _ (by rw [hl, ← g1]), ge _ g1.symm]
     ·refine keep (by rw [hcat]; simp) (by rw [hcat]; simp [jA]) (fun i0 h hle => by rw [hcat] at h; cases h; exact hid hle) ?_
      rw [hE]
      exact kC (by rw [hl, ← g1]; omega)
    | write =>
     rw [hcat] at hb'
     refine step (by rw [hb']; rfl) fun j hj hji hwj => hbl j hj (fun _ => ?_) (fun _ => ?_) hji
     ·rcases hwj with h | h | ⟨i0, h, _⟩ <;> first | (rw [h, hcat]; rfl) | exact (qR h (.inr (.inl hcat))).1
     ·rcases hwj with h | h | ⟨i0, h, _⟩ <;> first | (rw [h, hcat]; rfl) | exact (qR h (.inr (.inl hcat))).2
end
theorem SR.pad {tm : List AV} : ∀ (n : Nat) {bl : zC} {E : Env} {a : Act}, SR C E tm bl a → ∃ E', E'.w = E.w ∧ Go E E' ∧ SR C E' tm (zHV n bl) a
 | 0, bl, E, a, s => ⟨E, rfl, .refl s.mem, s⟩
 | n + 1, bl, E, a, s => by
  have g := Go.empty s.mem .free trivial rfl
  have s1 : SR C (E.empty .free) tm (bl ++ [some .free]) a := ⟨by show E.bl ++ _ = _; rw [s.bl], g.mem, s.glob.mono g.step.ro g.step.mp g.fr.keeps, s.size, fun t => (s.vr t).mono g.step, s.defers⟩
  obtain ⟨E', h1, h2, h3⟩ := SR.pad n s1
  exact ⟨E', h1, g.trans h2, h3⟩
theorem zFY (hΓ : ∀ f m, C.Γ f = some m → zE C.P C.G f m) {ops : Array Oper} {draw : Bool} {tm : List AV} {bl : zC} {K : List AV → zC → Option R} {r : R}
  (h : (zBN C ops (zJY (zDU draw ops) bl.length) ops.toList tm (zHV (zDU draw ops) bl) [] fun cs tm bl => if (!draw || zAs ops cs) = true then K tm bl else none) = some r) :
  ∃ tm' bl', (∀ K2 : List AV → zC → Option R, (zBN C ops (zJY (zDU draw ops) bl.length) ops.toList tm (zHV (zDU draw ops) bl) [] fun cs tm bl => if (!draw || zAs ops cs) = true then K2 tm bl else none) = K2 tm' bl') ∧
   ∀ E a Q, SR C E tm bl a → (∀ E' a', Go E E' → SR C E' tm' bl' a' → Q .normal a' E'.w) → (if draw = true then wpAny C.P .any ops Q ops.size (Array.replicate ops.size false) a E.w.drew else wpOps C.P ops Q (List.range ops.size) a E.w) := by
 generalize zJY (zDU draw ops) bl.length = rs at h ⊢
 generalize zDU draw ops = np at h ⊢
 obtain ⟨TM, BL, V, cat, yes, h1, h2, h3, h4⟩ := zIU hΓ h
 have hst : ∀ (i : Nat) o, ops[i]? = some o → StepAt R C ops o (TM i) (TM (i + 1)) (BL i) (BL (i + 1)) (V i) (cat i) (yes i) := fun i o ho => h3 i o (by simpa using ho)
 have h4 : ∀ K2 : List RC → List AV → zC → Option R, zBN C ops rs ops.toList tm (zHV np bl) [] K2 = K2 ((List.range ops.size).map cat) (TM ops.size) (BL ops.size) := fun K2 => by simpa using h4 K2
 rw [h4] at h
 by_cases hok : (!draw || zAs ops ((List.range ops.size).map cat)) = true
 ·refine ⟨TM ops.size, BL ops.size, fun K2 => by rw [h4, if_pos hok], fun E0 a Q hs0 hq0 => ?_⟩
  obtain ⟨E, hw, hgo, hs⟩ := hs0.pad np
  have hq : ∀ E' a', Go E E' → SR C E' (TM ops.size) (BL ops.size) a' → Q .normal a' E'.w := fun E' a' g s => hq0 E' a' (hgo.trans g) s
  rw [← hw]
  subst h1; rw [← h2] at hs
  cases draw with
  | false =>
   rw [if_neg (by simp), List.range_eq_range']
   exact zIT hΓ r hst ops.size 0 E a (by omega) hs hq
  | true =>
   have F := zGK (by simpa using hok)
   rw [if_pos rfl]
   have g := Go.drew hs.mem
   refine zOv hΓ r hst F ops.size _ E.drew a (by simp) (fun j o _ hj => ?_) ?_ ⟨g.mem, hs.glob.mono g.step.ro g.step.mp g.fr.keeps, hs.size, hs.defers, fun t => ?_, ⟨0, by omega, by rw [← hs.bl]; rfl, fun j hj _ => ?_⟩, fun id => ⟨0, by omega, by rw [← hs.bl]; rfl, fun j hj _ => ?_⟩⟩ fun E' a' g' s' => hq E' a' (g.trans g') s'
   ·simp [Array.getD_eq_getD_getElem?, Array.getElem?_replicate] at hj
    split at hj <;> cases hj
   ·have : ∀ n, n ≤ ops.size → cnt (fun j => (Array.replicate ops.size false).getD j false) n = n := by
     intro n
     induction n with
     | zero => intro _; rfl
     | succ n ih => intro hn; simp only [cnt, ih (by omega)]; simp [Array.getD_eq_getD_getElem?, Array.getElem?_replicate, show n < ops.size by omega]
    exact this _ (Nat.le_refl _)
   ·have : ∀ n, tmS (TM 0) (zEn ops) V (fun j => (Array.replicate ops.size false).getD j false) n = TM 0 := by
     intro n
     induction n with
     | zero => rfl
     | succ n ih =>
      unfold tmS
      rw [ih]
      split
      ·rename_i hx
       simp [Array.getD_eq_getD_getElem?, Array.getElem?_replicate] at hx
       split at hx <;> cases hx
      ·rfl
    rw [this]
    exact (hs.vr t).mono g.step
   all_goals
    constructor
    ·intro hx
     simp [Array.getD_eq_getD_getElem?, Array.getElem?_replicate] at hx
     split at hx <;> cases hx
    ·intro hx; omega
 ·rw [if_neg hok] at h; cases h
theorem zHR (hΓ : ∀ f m, C.Γ f = some m → zE C.P C.G f m) (hmix : C.P.follows .mixedOrders = true) {id : Nat} {ops : Array Oper} {draw : Bool} {tm : List AV} {bl : zC} {K : List AV → zC → Option R} {r : R}
  (h : (zBN C ops (zJY (zDU draw ops) bl.length) ops.toList tm (zHV (zDU draw ops) bl) [] fun cs tm bl => if (!draw || zAs ops cs) = true then K tm bl else none) = some r) :
  ∃ tm' bl', (∀ K2 : List AV → zC → Option R, (zBN C ops (zJY (zDU draw ops) bl.length) ops.toList tm (zHV (zDU draw ops) bl) [] fun cs tm bl => if (!draw || zAs ops cs) = true then K2 tm bl else none) = K2 tm' bl') ∧
   ∀ E a Q, SR C E tm bl a → (∀ E' a', Go E E' → SR C E' tm' bl' a' → Q .normal a' E'.w) → (Code.region id ops draw).wp C.P Q a E.w :=
 let ⟨tm', bl', h1, h2⟩ := zFY hΓ h
 ⟨tm', bl', h1, fun E a Q s hq => by
  have := h2 E a Q s hq
  cases draw with
  | false => exact wp_region this
  | true => exact wp_region_any hmix this⟩
end
end Go.Abs
end
