/- An executor of the model's code over abstract values, and that it is right: what it tells of a run is what the run does. No condition. -/
import Derived.Test.YtkknbhapkdgcjaaGreatDoorAbsC6
import Derived.LoopN
import Derived.KernelRfl
import Derived.ChangeArms
import Derived.DataReads
import Derived.SizedLaws
import Derived.Below
import Derived.Carry
import Derived.WalkKit
import Derived.ProofKit
import Derived.OpenShut
import Derived.Handed
import Derived.LaidLaws
import Derived.MakeChecks
import Derived.FnData
import Derived.Lay
import Derived.LaidHandle
import Derived.LaidSub
import Derived.Stop.Joined
import Derived.Laws.Externs
section
set_option linter.unusedVariables false
set_option linter.unusedSimpArgs false
namespace Go.Abs
open Go
structure GoL (L : Nat) (E E' : Env) : Prop where
 len : L ≤ E'.bl.length
 ro : ∀ b o, E.ro b o → E'.ro b o ∧ E'.cell b o = E.cell b o
 blk : ∀ id, id < L → ∀ blk', zF E'.bl id = some blk' → zF E.bl id = some .free ∨ ∃ blk, zF E.bl id = some blk ∧ E'.loc id = E.loc id ∧
  (∀ p q, yS blk p = some q → yS blk' p = some q) ∧ (∀ p r, zZ blk p = some r → zZ blk' p = some r)
 fr : Fr E E'
 mp : jS E E'
theorem GoL.trans {L : Nat} {A B C : Env} (h : GoL L A B) (k : GoL L B C) : GoL L A C := by
 refine ⟨k.len, fun b o hr => ?_, fun id hid blk'' hb => ?_, h.fr.trans k.fr, fun r es c hr hm => k.mp r es c (h.ro r 0 hr).1 (h.mp r es c hr hm)⟩
 ·obtain ⟨h1, h2⟩ := h.ro b o hr
  obtain ⟨k1, k2⟩ := k.ro b o h1
  exact ⟨k1, k2.trans h2⟩
 ·rcases k.blk id hid blk'' hb with hf | ⟨blk', hb', k1, k2, k3⟩
  ·rcases h.blk id hid _ hf with hf | ⟨blk, hb0, h1, h2, h3⟩
   ·exact .inl hf
   ·rw [zEW h2 h3] at hb0
    exact .inl hb0
  rcases h.blk id hid blk' hb' with hf | ⟨blk, hb0, h1, h2, h3⟩
  ·exact .inl hf
  exact .inr ⟨blk, hb0, k1.trans h1, fun p q hq => k2 p q (h2 p q hq), fun p r hr => k3 p r (h3 p r hr)⟩
theorem GoL.refl {L : Nat} {E : Env} (h : L ≤ E.bl.length) : GoL L E E := ⟨h, fun _ _ h => ⟨h, rfl⟩, fun _ _ blk h => .inr ⟨blk, h, rfl, fun _ _ h => h, fun _ _ h => h⟩, .refl E, .rfl⟩
theorem Go.toL {L : Nat} {E E' : Env} (h : L ≤ E.bl.length) (g : Go E E') : GoL L E E' := ⟨Nat.le_trans h g.step.len, g.step.ro, fun id hid => g.step.blk id (Nat.lt_of_lt_of_le hid h), g.fr, g.step.mp⟩
theorem GoL.toGo {E E' : Env} (g : GoL E.bl.length E E') (m : Mem E') : Go E E' := ⟨⟨g.len, g.ro, g.blk, g.mp⟩, g.fr, m⟩
section
variable {R : Type} {C : Ctx}
theorem zMr {L : Nat} {E : Env} {order : List Nat} (m : Mem E) (hnd : order.Nodup) (hlt : ∀ i ∈ order, i < E.bl.length) (hord : order.take L = List.range L) : GoL L E (E.lend order false) ∧ Mem (E.lend order false) := by
 have hlen : L ≤ order.length := by
  have := congrArg List.length hord
  simp at this
  omega
 have hfix : ∀ i, i < L → order[i]? = some i := fun i hi => by
  have : (order.take L)[i]? = some i := by rw [hord]; simp [hi]
  rwa [List.getElem?_take, if_pos hi] at this
 have ol : ∀ b o, Own (E.lend order false) b o → Own E b o := fun b o h => let ⟨id, blk, _, h2, h3⟩ := zAH h; ⟨id, blk, h2, h3⟩
 refine ⟨⟨by simp [Env.lend]; exact hlen, fun b o h => wU trivial b o h, fun id hid blk' hb => ?_, ?_, fun _ _ _ _ h => h⟩, m.lend hlt hnd⟩
 ·obtain ⟨id', b, h1, h2, rfl, h3⟩ := jG hb
  rw [hfix id hid] at h1
  cases h1
  exact .inr ⟨b, h2, h3, fun p q h => by rw [zAI]; exact h, fun p r h => by rw [zAD]; exact h⟩
 ·refine ⟨rfl, rfl, rfl, Nat.le_refl _, fun _ _ _ _ => rfl, fun _ _ _ => rfl, fun _ _ _ _ => rfl, fun b o h => .inl (ol b o h), fun b o h => ?_, fun b o h => .inl h⟩
  rcases h with h | ⟨h, _⟩
  ·exact .inl h
  ·cases h
theorem zEi {L : Nat} {v : AV} {bl : zC} {K : AV → zC → Option R} {r : R} (h : zCE L v bl K = some r) :
  ∃ v2 out, (∀ K2 : AV → zC → Option R, zCE L v bl K2 = K2 v2 out) ∧ ∀ E v', E.bl = bl → Mem E → VR E true v v' → ∃ E', E'.w = E.w ∧ E'.bl = out ∧ GoL L E E' ∧ Mem E' ∧ VR E' true v2 v' := by
 unfold zCE at h
 split at h
 ·rename_i hord
  obtain ⟨hnd, hlt⟩ := wJ bl 60 (List.range L ++ ids v) [] List.nodup_nil (by simp)
  refine ⟨_, _, fun K2 => by unfold zCE; rw [if_pos hord], fun E v' hb m hv => ?_⟩
  generalize yY bl 60 (List.range L ++ ids v) [] = order at hord hnd hlt
  subst hb
  obtain ⟨g1, g2⟩ := zMr m hnd hlt (by simpa using hord)
  exact ⟨E.lend order false, rfl, rfl, g1, g2, VR.turn (Turn.lend hlt) wU (fun _ _ _ _ h => h) hv (.inl trivial)⟩
 ·cases h
theorem zFT (f : Nat → AV) : ∀ (live : List Nat) (t : Nat), zHM live (live.map f) t = if live.contains t = true then f t else .any
 | [], t => rfl
 | s :: r, t => by
  simp only [List.map_cons, zHM]
  by_cases h : s = t
  ·subst h; simp
  ·rw [if_neg h, zFT f r t]
   have : (t == s) = false := by simp; exact fun e => h e.symm
   have ne : ¬ t = s := fun e => h e.symm
   simp [ne]
theorem zAJ {len L : Nat} {live : List Nat} {st : St} {k : St → Option R} {r : R} (h : zIW len L live st k = some r) :
  k (zCv (wS L live st) live st) = some r ∧ ∀ E a, SR C E st.tm st.bl a → L ≤ E.bl.length → ∃ E', E'.w = E.w ∧ GoL L E E' ∧ SR C E' (jV len live (zCv (wS L live st) live st)).tm (jV len live (zCv (wS L live st) live st)).bl a := by
 unfold zIW at h
 split at h
 ·rename_i hord
  rw [Bool.and_eq_true] at hord
  obtain ⟨hlen0, hord⟩ := hord
  have hlen0 : st.tm.length = len := by simpa using hlen0
  subst hlen0
  refine ⟨h, fun E a s hL => ?_⟩
  obtain ⟨hnd, hlt⟩ := wJ st.bl 60 (List.range L ++ live.flatMap fun s => ids (st.tm.getD s .any)) [] List.nodup_nil (by simp)
  change (wS L live st).Nodup at hnd
  change ∀ i ∈ wS L live st, i < st.bl.length at hlt
  generalize wS L live st = order at hord hnd hlt h
  have hord' : order.take L = List.range L := by simpa using hord
  have hlt' : ∀ i ∈ order, i < E.bl.length := by rw [s.bl]; exact hlt
  have hlen : L ≤ order.length := by
   have := congrArg List.length hord'
   simp at this
   omega
  have hfix : ∀ i, i < L → order[i]? = some i := fun i hi => by
   have : (order.take L)[i]? = some i := by rw [hord']; simp [hi]
   rwa [List.getElem?_take, if_pos hi] at this
  have ol : ∀ b o, Own (E.lend order false) b o → Own E b o := fun b o h => let ⟨id, blk, _, h2, h3⟩ := zAH h; ⟨id, blk, h2, h3⟩
  refine ⟨E.lend order false, rfl, ⟨by simp [Env.lend]; exact hlen, fun b o h => wU trivial b o h, fun id hid blk' hb => ?_, ?_, fun _ _ _ _ h => h⟩, ?_⟩
  ·obtain ⟨id', b, h1, h2, rfl, h3⟩ := jG hb
   rw [hfix id hid] at h1
   cases h1
   exact .inr ⟨b, h2, h3, fun p q h => by rw [zAI]; exact h, fun p r h => by rw [zAD]; exact h⟩
  ·refine ⟨rfl, rfl, rfl, Nat.le_refl _, fun _ _ _ _ => rfl, fun _ _ _ => rfl, fun _ _ _ _ => rfl, fun b o h => .inl (ol b o h), fun b o h => ?_, fun b o h => .inl h⟩
   rcases h with h | ⟨h, _⟩
   ·exact .inl h
   ·cases h
  ·refine ⟨by simp [Env.lend, zCv, jV, s.bl], s.mem.lend hlt' hnd, s.glob.mono (wU trivial) (fun _ _ _ _ h => h) zGf, by simp [jV, s.size], fun t => ?_, s.defers⟩
   simp only [zCv, jV, List.getD_eq_getElem?_getD, List.getElem?_map]
   rcases Nat.lt_or_ge t st.tm.length with ht | ht
   ·rw [List.getElem?_range ht]
    simp only [Option.map_some, Option.getD_some]
    rw [zFT]
    split
    ·have := s.vr t
     simp only [List.getD_eq_getElem?_getD] at this
     exact VR.turn (Turn.lend hlt') wU (fun _ _ _ _ h => h) this (.inl trivial)
    ·exact .any _ _
   ·rw [List.getElem?_eq_none (by simpa using ht)]
    exact .any _ _
 ·cases h
def Env.ghost (E : Env) (b : Blk) : Env := { E with bl := E.bl ++ [some b], loc := fun i => if i = E.bl.length then (0, 0, 0) else E.loc i }
theorem zGk {E : Env} (m : Mem E) (k : NK) : Go E (E.ghost k.blk) ∧ VR (E.ghost k.blk) true (.own E.bl.length k.w) (.slice none 0 0) := by
 have hloc : ∀ i, i < E.bl.length → (E.ghost k.blk).loc i = E.loc i := fun i hi => by simp [Env.ghost, Nat.ne_of_lt hi]
 have hlocn : (E.ghost k.blk).loc E.bl.length = (0, 0, 0) := by simp [Env.ghost]
 have hfl : zJ k.blk = [] := by cases k <;> rfl
 have hown : ∀ b o, Own (E.ghost k.blk) b o → Own E b o := fun b o ⟨id, bk, hb, hx⟩ => by
  rcases z7 hb with ⟨h1, h2⟩ | ⟨h1, _⟩
  ·refine ⟨id, bk, h2, ?_⟩
   unfold yA at hx ⊢
   rwa [hloc id h1] at hx
  ·subst h1
   unfold yA at hx
   rw [hlocn] at hx
   obtain ⟨_, _, h⟩ := hx
   exact absurd h (by simp)
 have frm : Fr E (E.ghost k.blk) := ⟨rfl, rfl, rfl, Nat.le_refl _, fun _ _ _ _ => rfl, fun _ _ _ => rfl, fun _ _ _ _ => rfl, fun b o h => .inl (hown b o h), fun b o h => .inl h, fun _ _ h => h⟩
 have st : Step E (E.ghost k.blk) := .of_fr m frm (by simp [Env.ghost]) fun id hid blk' hb => by
  have : zF E.bl id = some blk' := by rwa [show (E.ghost k.blk).bl = E.bl ++ [some k.blk] from rfl, kC hid] at hb
  exact ⟨blk', this, hloc id hid, fun _ _ h => h, fun _ _ h => h⟩
 have inl : ∀ i b o, i < E.bl.length → yA (E.ghost k.blk) i b o → yA E i b o := fun i b o hi h => by
  unfold yA at h ⊢
  rwa [hloc i hi] at h
 refine ⟨⟨st, frm, ⟨fun id bk hb => ?_, fun i j bi bj hij hi hj b o hx hy => ?_, m.roe, fun b o ho h => m.rod b o (hown b o ho) h⟩⟩, ?_⟩
 ·rcases z7 hb with ⟨h1, h2⟩ | ⟨h1, h2⟩
  ·have q := m.ok id bk h2
   refine ⟨q.fit, by rw [hloc id h1]; exact q.len, fun j x hx => ?_, fun hm j hj => ?_, fun l hl => by rw [hloc id h1]; exact ⟨(q.mp l hl).1, (q.mp l hl).2.mono st rfl⟩⟩
   ·obtain ⟨v, hv, hr⟩ := q.cells j x hx
    rw [hloc id h1]
    exact ⟨v, hv, hr.mono st⟩
   ·rw [hloc id h1] at hj ⊢
    exact q.room hm j hj
  ·cases h2
   refine ⟨by cases k <;> simp [NK.blk, zCS], by rw [hfl]; exact Nat.zero_le _, fun j x hx => ?_, fun _ j hj => ?_, fun l hl => by cases k <;> cases hl⟩
   ·rw [hfl] at hx; simp at hx
   ·rw [h1, hlocn] at hj
    exact absurd hj (by simp)
 ·have no : ∀ b o, ¬ yA (E.ghost k.blk) E.bl.length b o := fun b o h => by
   unfold yA at h
   rw [hlocn] at h
   obtain ⟨_, _, h⟩ := h
   exact absurd h (by simp)
  rcases z7 hi with ⟨h1, h2⟩ | ⟨h1, h2⟩
  ·rcases z7 hj with ⟨k1, k2⟩ | ⟨k1, k2⟩
   ·exact m.dis i j bi bj hij h2 k2 b o (inl i b o h1 hx) (inl j b o k1 hy)
   ·subst k1; exact no b o hy
  ·subst h1; exact no b o hx
 ·refine .own _ _ 0 _ 0 (by simp [Env.ghost]) (Nat.le_refl _) fun blk hb => ?_
  rw [show (E.ghost k.blk).bl = E.bl ++ [some k.blk] from rfl, kO] at hb
  cases hb
  refine ⟨by cases k <;> rfl, by simp, .inl rfl⟩
theorem zCA : ∀ {p : List Nat} {v : AV}, zM v p = some .snil → ∃ q, zL v p = some q
 | [], v, h => ⟨0, by cases v <;> rfl⟩
 | i :: p, v, h => by
  cases v with
  | agg kids =>
   simp only [zM] at h
   split at h
   ·rename_i x hx
    obtain ⟨q, hq⟩ := zCA h
    exact ⟨zX (kids.take i) + q, by simp only [zL, hx, hq]; rfl⟩
   ·cases h
  | ints k n l => cases p <;> simp [zM] at h
  | _ => cases p <;> simp [zM] at h
theorem zGl {E : Env} (m : Mem E) (k : NK) (id : Nat) (p : List Nat) : ∃ E', E'.w = E.w ∧ E'.bl = zFJ k id p E.bl ∧ Go E E' := by
 unfold zFJ
 split
 ·rename_i v hb
  split
  ·rename_i hp
   split
   ·rename_i b' hs
    obtain ⟨g, hv⟩ := zGk m k
    have hlt := z4 hb
    have hb1 : zF (E.ghost k.blk).bl id = some (.var v) := by
     rw [show (E.ghost k.blk).bl = E.bl ++ [some k.blk] from rfl, kC hlt]; exact hb
    have ok := g.mem.ok id (.var v) hb1
    obtain ⟨q, hq⟩ := zCA hp
    obtain ⟨hf', ⟨pre, mid, post, e1, e2, e3, e4⟩, s1, s2⟩ := zAx ok.fit (x := .own E.bl.length k.w) (.leaf _ ⟨by simp, by simp⟩) hs hq
    have hmid : (zJ (.var v))[q]? = some .snil := by
     obtain ⟨_, pre0, post0, f1, f2⟩ := kI (v := v) (x := .snil) ok.fit hp hq
     show (zH v)[q]? = _
     rw [f1, List.getElem?_append_right (by omega), f2]
     simp [zH]
    have hlen : (zJ (.var v)).length = (zJ b').length := by rw [e1, e2]; simp; omega
    refine ⟨(E.ghost k.blk).reread id b', rfl, rfl, g.trans (Go.reread g.mem id _ b' hb1 hf' (by rw [← hlen]; exact ok.len) (fun j x hx => ?_) s1 s2 (wI hs).2)⟩
    rw [e2] at hx
    by_cases hj : j = q
    ·subst hj
     rw [List.getElem?_append_right (by omega), e3] at hx
     simp [zH] at hx
     subst hx
     obtain ⟨u, hu, hr⟩ := ok.cells _ _ hmid
     refine ⟨u, hu, ?_⟩
     have : u = .slice none 0 0 := by cases hr; rfl
     rw [this]
     exact hv
    ·refine ok.cells j x ?_
     rw [e1]
     rcases Nat.lt_or_ge j pre.length with hlt' | hge
     ·rw [List.getElem?_append_left hlt'] at hx ⊢
      exact hx
     ·have e5 : (zH (AV.own E.bl.length k.w)).length = 1 := rfl
      rw [e5] at e4
      rw [List.getElem?_append_right hge, List.getElem?_append_right (by omega)] at hx ⊢
      rw [e5] at hx
      rw [e4]
      exact hx
   ·exact ⟨E, rfl, rfl, .refl m⟩
  ·exact ⟨E, rfl, rfl, .refl m⟩
 ·exact ⟨E, rfl, rfl, .refl m⟩
theorem zHi {k : NK} {id : Nat} : ∀ {l : List (List Nat)} {E : Env}, Mem E → ∃ E', E'.w = E.w ∧ E'.bl = zKg k id l E.bl ∧ Go E E'
 | [], E, m => ⟨E, rfl, rfl, .refl m⟩
 | p :: r, E, m => by
  obtain ⟨E1, w1, b1, g1⟩ := zGl m k id p
  obtain ⟨E2, w2, b2, g2⟩ := zHi (k := k) (id := id) (l := r) g1.mem
  exact ⟨E2, w2.trans w1, by rw [b2, b1]; rfl, g1.trans g2⟩
theorem nk_r (k : NK) : zCj k.r ∧ (zH k.r).length = 1 := by cases k <;> exact ⟨⟨by simp [NK.r], by simp [NK.r]⟩, rfl⟩
theorem nk_vr {E : Env} {o : Bool} (k : NK) : VR E o k.r (.slice none 0 0) := by
 cases k with
 | ints k => exact .rints o k [] none 0 (by simp) fun i hi => by simp at hi
 | objs e w => exact .robjs o e w [] none 0 (by simp) (by simp) (fun _ _ => .slice none 0 0) (by simp) (by simp) (by simp)
 | agg l => exact .rints o .u8 [] none 0 (by simp) fun i hi => by simp at hi
theorem zMk {E : Env} (m : Mem E) (k : NK) (id : Nat) (p : List Nat) : ∃ E', E'.w = E.w ∧ E'.bl = zMl k id p E.bl ∧ Go E E' := by
 unfold zMl
 split
 ·rename_i v hb
  split
  ·rename_i hp
   split
   ·rename_i b' hs
    have ok := m.ok id (.var v) hb
    obtain ⟨hlf, hl1⟩ := nk_r k
    obtain ⟨q, hq⟩ := zCA hp
    obtain ⟨hf', ⟨pre, mid, post, e1, e2, e3, e4⟩, s1, s2⟩ := zAx ok.fit (x := k.r) (.leaf _ hlf) hs hq
    have hmid : (zJ (.var v))[q]? = some .snil := by
     obtain ⟨_, pre0, post0, f1, f2⟩ := kI (v := v) (x := .snil) ok.fit hp hq
     show (zH v)[q]? = _
     rw [f1, List.getElem?_append_right (by omega), f2]
     simp [zH]
    have hlen : (zJ (.var v)).length = (zJ b').length := by rw [e1, e2]; simp; omega
    refine ⟨E.reread id b', rfl, rfl, Go.reread m id _ b' hb hf' (by rw [← hlen]; exact ok.len) (fun j x hx => ?_) s1 s2 (wI hs).2⟩
    rw [e2] at hx
    by_cases hj : j = q
    ·subst hj
     rw [List.getElem?_append_right (by omega), e3] at hx
     rw [hlf.one.1] at hx
     simp at hx
     subst hx
     obtain ⟨u, hu, hr⟩ := ok.cells _ _ hmid
     refine ⟨u, hu, ?_⟩
     have : u = .slice none 0 0 := by cases hr; rfl
     rw [this]
     exact nk_vr k
    ·refine ok.cells j x ?_
     rw [e1]
     rcases Nat.lt_or_ge j pre.length with hlt' | hge
     ·rw [List.getElem?_append_left hlt'] at hx ⊢
      exact hx
     ·rw [hl1] at e4
      rw [List.getElem?_append_right hge, List.getElem?_append_right (by omega)] at hx ⊢
      rw [hl1] at hx
      rw [e4]
      exact hx
   ·exact ⟨E, rfl, rfl, .refl m⟩
  ·exact ⟨E, rfl, rfl, .refl m⟩
 ·exact ⟨E, rfl, rfl, .refl m⟩
theorem zEU {id : Nat} : ∀ {l : List (Option NK)} {i : Nat} {E : Env}, Mem E → ∃ E', E'.w = E.w ∧ E'.bl = zIi i l id E.bl ∧ Go E E'
 | [], i, E, m => ⟨E, rfl, rfl, .refl m⟩
 | none :: r, i, E, m => zEU (l := r) m
 | some k :: r, i, E, m => by
  obtain ⟨E1, w1, b1, g1⟩ := zGl m k id [i]
  obtain ⟨E2, w2, b2, g2⟩ := zEU (l := r) (i := i + 1) g1.mem
  exact ⟨E2, w2.trans w1, by rw [b2, b1]; rfl, g1.trans g2⟩
theorem zHj {k : NK} {id : Nat} {E : Env} (m : Mem E) : ∃ E', E'.w = E.w ∧ E'.bl = zIh k id E.bl ∧ Go E E' := by
 unfold zIh
 split
 ·exact zMk m _ id [0]
 ·exact zEU m
 ·exact zHi m
theorem zKj {L : Nat} {p : Nat} {st : St} {E : Env} {a : Act} (s : SR C E st.tm st.bl a) (hL : L ≤ E.bl.length) : ∃ E', E'.w = E.w ∧ GoL L E E' ∧ SR C E' (zKk p st).tm (zKk p st).bl a := by
 unfold zKk
 split
 ·rename_i y hy
  have g := zCC s.mem (ids (st.tm.getD p .any))
  have hv := (jB (wM E (ids (st.tm.getD p .any))) s.mem (s.vr p) (by rw [s.bl]; exact hy) fun i hi => hi).lift
  refine ⟨E.frz (ids (st.tm.getD p .any)), rfl, g.toL hL, ⟨by simp [Env.frz, s.bl], g.mem, s.glob.mono g.step.ro g.step.mp g.fr.keeps, by simp [s.size], fun t => ?_, s.defers⟩⟩
  simp only [List.getD_eq_getElem?_getD, List.getElem?_set]
  by_cases e : p = t
  ·subst e
   by_cases hlt : p < st.tm.length
   ·simp only [if_true, if_pos hlt, Option.getD_some]
    simpa only [List.getD_eq_getElem?_getD] using hv
   ·simp only [if_true, if_neg hlt, Option.getD_none]
    exact .any _ _
  ·simp only [if_neg e]
   have := (s.vr t).mono g.step
   simpa only [List.getD_eq_getElem?_getD] using this
 ·exact ⟨E, rfl, .refl hL, s⟩
theorem zBV {i w : Nat} : ∀ {p : List Nat} {v : AV}, zM v p = some (.own i w) → ∃ q, zL v p = some q
 | [], v, h => ⟨0, by cases v <;> rfl⟩
 | j :: p, v, h => by
  cases v with
  | agg kids =>
   simp only [zM] at h
   split at h
   ·rename_i x hx
    obtain ⟨q, hq⟩ := zBV h
    exact ⟨zX (kids.take j) + q, by simp only [zL, hx, hq]; rfl⟩
   ·cases h
  | ints k n l => cases p <;> simp [zM] at h
  | _ => cases p <;> simp [zM] at h
theorem zGJ {bl : zC} {i w : Nat} {y : AV} (h : yQ bl (.own i w) = some y) : zCj y ∧ ∃ b, zF bl i = some b ∧ ∀ v, b ≠ .var v := by
 unfold yQ at h
 split at h
 ·cases h; exact ⟨⟨by simp, by simp⟩, _, ‹_›, by simp⟩
 ·cases h; exact ⟨⟨by simp, by simp⟩, _, ‹_›, by simp⟩
 ·cases h; exact ⟨⟨by simp, by simp⟩, _, ‹_›, by simp⟩
 ·cases h
theorem zMB {E : Env} (m : Mem E) (id : Nat) (p : List Nat) : ∃ E', E'.w = E.w ∧ E'.bl = zMC id p E.bl ∧ Go E E' := by
 unfold zMC
 split
 ·rename_i v hb
  split
  ·rename_i i w hp
   split
   ·rename_i l hi
    split
    ·rename_i b' hs
     have g := zCC m [i]
     obtain ⟨hlf, bi, hbi, hvar⟩ := zGJ hi
     have hne : id ≠ i := fun e => by subst e; rw [hb] at hbi; cases hbi; exact hvar v rfl
     have hb1 : zF (E.frz [i]).bl id = some (.var v) := by
      show zF (E.bl.set i none) id = _
      rw [yH (Ne.symm hne)]; exact hb
     have ok0 := m.ok id (.var v) hb
     have ok := g.mem.ok id (.var v) hb1
     obtain ⟨q, hq⟩ := zBV hp
     obtain ⟨hf', ⟨pre, mid, post, e1, e2, e3, e4⟩, s1, s2⟩ := zAx ok.fit (x := l) (.leaf _ hlf) hs hq
     have hmid : (zJ (.var v))[q]? = some (.own i w) := by
      obtain ⟨_, pre0, post0, f1, f2⟩ := kI (v := v) (x := .own i w) ok.fit hp hq
      show (zH v)[q]? = _
      rw [f1, List.getElem?_append_right (by omega), f2]
      simp [zH]
     have hlen : (zJ (.var v)).length = (zJ b').length := by rw [e1, e2]; simp; omega
     refine ⟨(E.frz [i]).reread id b', rfl, rfl, g.trans (Go.reread g.mem id _ b' hb1 hf' (by rw [← hlen]; exact ok.len) (fun j x hx => ?_) s1 s2 (wI hs).2)⟩
     rw [e2] at hx
     by_cases hj : j = q
     ·subst hj
      rw [List.getElem?_append_right (by omega), e3] at hx
      rw [hlf.one.1] at hx
      simp at hx
      subst hx
      obtain ⟨u, hu, hr⟩ := ok0.cells _ _ hmid
      refine ⟨u, hu, ?_⟩
      exact (jB (wM E [i]) m hr (y := l) hi fun j hj => by simpa [ids] using hj).lift
     ·refine ok.cells j x ?_
      rw [e1]
      rcases Nat.lt_or_ge j pre.length with hlt' | hge
      ·rw [List.getElem?_append_left hlt'] at hx ⊢
       exact hx
      ·have e5 : (zH l).length = 1 := by rw [hlf.one.1]; rfl
       rw [e5] at e4
       rw [List.getElem?_append_right hge, List.getElem?_append_right (by omega)] at hx ⊢
       rw [e5] at hx
       rw [e4]
       exact hx
    ·exact ⟨E, rfl, rfl, .refl m⟩
   ·exact ⟨E, rfl, rfl, .refl m⟩
  ·exact ⟨E, rfl, rfl, .refl m⟩
 ·exact ⟨E, rfl, rfl, .refl m⟩
theorem zKG {id : Nat} : ∀ {l : List (List Nat)} {E : Env}, Mem E → ∃ E', E'.w = E.w ∧ E'.bl = frzV id l E.bl ∧ Go E E'
 | [], E, m => ⟨E, rfl, rfl, .refl m⟩
 | p :: r, E, m => by
  obtain ⟨E1, w1, b1, g1⟩ := zMB m id p
  obtain ⟨E2, w2, b2, g2⟩ := zKG (id := id) (l := r) g1.mem
  exact ⟨E2, w2.trans w1, by rw [b2, b1]; rfl, g1.trans g2⟩
theorem zKi {L : Nat} {p : Nat} {st : St} {E : Env} {a : Act} (s : SR C E st.tm st.bl a) (hL : L ≤ E.bl.length) : ∃ E', E'.w = E.w ∧ GoL L E E' ∧ SR C E' (frz1 p st).tm (frz1 p st).bl a := by
 unfold frz1
 have key : ∃ E', E'.w = E.w ∧ GoL L E E' ∧ SR C E' (frzP p st).tm (frzP p st).bl a := by
  unfold frzP
  split
  ·rename_i id hp
   obtain ⟨E', w1, b1, g⟩ := zKG (id := id) (l := [[0], [1], [2], [3], [4], [5]]) s.mem
   exact ⟨E', w1, g.toL hL, ⟨by rw [b1, s.bl], g.mem, s.glob.mono g.step.ro g.step.mp g.fr.keeps, s.size, fun t => (s.vr t).mono g.step, s.defers⟩⟩
  ·exact ⟨E, rfl, .refl hL, s⟩
 obtain ⟨E1, w1, g1, s1⟩ := key
 obtain ⟨E2, w2, g2, s2⟩ := zKj (p := p) s1 g1.len
 exact ⟨E2, w2.trans w1, g1.trans g2, s2⟩
theorem zGm {L : Nat} : ∀ {l : List Nat} {st : St} {E : Env} {a : Act}, SR C E st.tm st.bl a → L ≤ E.bl.length → ∃ E', E'.w = E.w ∧ GoL L E E' ∧ SR C E' (frzL l st).tm (frzL l st).bl a
 | [], st, E, a, s, hL => ⟨E, rfl, .refl hL, s⟩
 | p :: r, st, E, a, s, hL => by
  obtain ⟨E1, w1, g1, s1⟩ := zKi (p := p) s hL
  obtain ⟨E2, w2, g2, s2⟩ := zGm (l := r) s1 g1.len
  exact ⟨E2, w2.trans w1, g1.trans g2, s2⟩
theorem zKh {L : Nat} {id : Nat} {st : St} {E : Env} {a : Act} (s : SR C E st.tm st.bl a) (hL : L ≤ E.bl.length) : ∃ E', E'.w = E.w ∧ GoL L E E' ∧ SR C E' (zLr C id st).tm (zLr C id st).bl a := by
 unfold zLr
 split
 ·exact zGm s hL
 ·exact ⟨E, rfl, .refl hL, s⟩
theorem zHK {R : Type} {id : Nat} {st : St} {K : St → Option R} {r : R} {E : Env} {a : Act} (s : SR C E st.tm st.bl a) (h : zJS C id st K = some r) : ∃ st', K st' = some r ∧ SR C E st'.tm st'.bl a := by
 have hset : ∀ (p : Nat) (k : IntKind) (n : Int), st.tm.getD p .any = .int k n → st.tm.set p (.int k n) = st.tm := fun p k n he => by
  apply List.ext_getElem?
  intro j
  rw [List.getElem?_set]
  split
  ·rename_i e
   subst e
   split
   ·rename_i hlt
    rw [List.getD_eq_getElem?_getD, List.getElem?_eq_getElem hlt] at he
    rw [List.getElem?_eq_getElem hlt]
    simpa using he.symm
   ·rename_i hge
    rw [List.getElem?_eq_none (by omega)]
  ·rfl
 unfold zJS at h
 split at h
 ·unfold zLY at h
  split at h
  ·rename_i k n hn
   split at h
   ·rename_i e; subst e; rw [hset _ _ _ hn] at h; exact ⟨st, h, s⟩
   ·split at h
    ·rename_i e; subst e; rw [hset _ _ _ hn] at h; exact ⟨st, h, s⟩
    ·split at h
     ·rename_i e; subst e; rw [hset _ _ _ hn] at h; exact ⟨st, h, s⟩
     ·cases h
  ·cases h
 ·exact ⟨st, h, s⟩
theorem jM {L : Nat} : ∀ {nils : List (Nat × NK)} {st : St} {E : Env} {a : Act}, SR C E st.tm st.bl a → L ≤ E.bl.length → ∃ E', E'.w = E.w ∧ GoL L E E' ∧ SR C E' (wL nils st).tm (wL nils st).bl a
 | [], st, E, a, s, hL => ⟨E, rfl, .refl hL, s⟩
 | p :: r, st, E, a, s, hL => by
  have one : ∃ E', E'.w = E.w ∧ GoL L E E' ∧ SR C E' (ghost p st).tm (ghost p st).bl a := by
   unfold ghost
   split
   ·rename_i hs
    obtain ⟨g, hv⟩ := zGk s.mem p.2
    have hold := s.vr p.1
    rw [hs] at hold
    refine ⟨E.ghost p.2.blk, rfl, g.toL hL, ⟨by simp [Env.ghost, s.bl], g.mem, s.glob.mono g.step.ro g.step.mp g.fr.keeps, by simp [s.size], fun t => ?_, s.defers⟩⟩
    simp only [List.getD_eq_getElem?_getD, List.getElem?_set]
    by_cases e : p.1 = t
    ·subst e
     have hlt : p.1 < st.tm.length := by
      rcases Nat.lt_or_ge p.1 st.tm.length with h | h
      ·exact h
      ·simp [List.getElem?_eq_none h] at hs
     simp only [if_true, if_pos hlt, Option.getD_some]
     have key : ∀ {v : Value}, VR E true .snil v → v = .slice none 0 0 := fun h => by cases h; rfl
     rw [key hold, ← s.bl]
     exact hv
    ·simp only [if_neg e]
     have := (s.vr t).mono g.step
     simpa only [List.getD_eq_getElem?_getD] using this
   ·rename_i id hs
    obtain ⟨E', w1, b1, g1⟩ := zHj (k := p.2) (id := id) s.mem
    exact ⟨E', w1, g1.toL hL, ⟨by rw [b1, s.bl], g1.mem, s.glob.mono g1.step.ro g1.step.mp g1.fr.keeps, s.size, fun t => (s.vr t).mono g1.step, s.defers⟩⟩
   ·exact ⟨E, rfl, .refl hL, s⟩
  obtain ⟨E1, w1, g1, s1⟩ := one
  obtain ⟨E2, w2, g2, s2⟩ := jM (nils := r) s1 g1.len
  exact ⟨E2, w2.trans w1, g1.trans g2, s2⟩
theorem zBT {L : Nat} : ∀ {ks : List (Option NK)} {l : List AV} {bl : zC} {E : Env} {vs : List Value}, E.bl = bl → Mem E → L ≤ E.bl.length → vs.length = l.length → (∀ (j : Nat) x c, l[j]? = some x → vs[j]? = some c → VR E true x c) →
  ∃ E', E'.w = E.w ∧ E'.bl = (kX ks l bl).2 ∧ GoL L E E' ∧ Step E E' ∧ Mem E' ∧ vs.length = (kX ks l bl).1.length ∧ ∀ (j : Nat) x c, (kX ks l bl).1[j]? = some x → vs[j]? = some c → VR E' true x c
 | [], l, bl, E, vs, hb, m, hL, hl, h => ⟨E, rfl, by simpa [kX] using hb, .refl hL, .refl E, m, by simpa [kX] using hl, by simpa [kX] using h⟩
 | k :: ks, [], bl, E, vs, hb, m, hL, hl, h => ⟨E, rfl, by cases k <;> exact hb, .refl hL, .refl E, m, by cases k <;> exact hl, by cases k <;> exact h⟩
 | k :: ks, x :: l, bl, E, [], hb, m, hL, hl, h => by simp at hl
 | k :: ks, x :: l, bl, E, v :: vs, hb, m, hL, hl, h => by
  by_cases hx : ∃ q, k = some q ∧ x = .snil
  ·obtain ⟨q, rfl, rfl⟩ := hx
   obtain ⟨g, hv⟩ := zGk m q
   have key : ∀ {v : Value}, VR E true .snil v → v = .slice none 0 0 := fun h => by cases h; rfl
   have hv0 := key (h 0 .snil v rfl rfl)
   obtain ⟨E', w1, b1, g1, s1, m1, l1, r1⟩ := zBT (L := L) (ks := ks) (l := l) (bl := bl ++ [some q.blk]) (E := E.ghost q.blk) (vs := vs) (by simp [Env.ghost, hb]) g.mem (by simp [Env.ghost]; omega) (by simpa using hl) fun j x c h1 h2 => (h (j + 1) x c (by simpa using h1) (by simpa using h2)).mono g.step
   refine ⟨E', w1, by simpa [kX] using b1, (g.toL hL).trans g1, g.step.trans s1, m1, by simp [kX, l1], fun j x c h1 h2 => ?_⟩
   cases j with
   | zero =>
    simp [kX] at h1 h2
    subst h1; subst h2
    rw [hv0, ← hb]
    exact hv.mono s1
   | succ j => exact r1 j x c (by simpa [kX] using h1) (by simpa using h2)
  ·have e : kX (k :: ks) (x :: l) bl = (x :: (kX ks l bl).1, (kX ks l bl).2) := by
    cases k with
    | none => cases x <;> rfl
    | some q => cases x <;> first | rfl | exact absurd ⟨q, rfl, rfl⟩ hx
   obtain ⟨E', w1, b1, g1, s1, m1, l1, r1⟩ := zBT (L := L) (ks := ks) (l := l) (bl := bl) (E := E) (vs := vs) hb m hL (by simpa using hl) fun j x c h1 h2 => h (j + 1) x c (by simpa using h1) (by simpa using h2)
   rw [e]
   refine ⟨E', w1, b1, g1, s1, m1, by simp [l1], fun j y c h1 h2 => ?_⟩
   cases j with
   | zero =>
    simp at h1 h2
    subst h1; subst h2
    exact (h 0 x v rfl rfl).mono s1
   | succ j => exact r1 j y c (by simpa using h1) (by simpa using h2)
theorem zMg (q : List Int) (s len : Nat) : partL q s len = (q.drop s).take len := by cases s <;> rfl
theorem zCl {L : Nat} : ∀ {l : List AV} {bl : zC} {E : Env} {vs : List Value}, E.bl = bl → Mem E → L ≤ E.bl.length → vs.length = l.length → (∀ (j : Nat) x c, l[j]? = some x → vs[j]? = some c → VR E true x c) →
  ∃ E', E'.w = E.w ∧ E'.bl = (qN l bl).2 ∧ GoL L E E' ∧ Step E E' ∧ Mem E' ∧ vs.length = (qN l bl).1.length ∧ ∀ (j : Nat) x c, (qN l bl).1[j]? = some x → vs[j]? = some c → VR E' true x c
 | [], bl, E, vs, hb, m, hL, hl, h => ⟨E, rfl, by simpa [qN] using hb, .refl hL, .refl E, m, by simpa [qN] using hl, by simp [qN]⟩
 | x :: l, bl, E, [], hb, m, hL, hl, h => by simp at hl
 | x :: l, bl, E, v :: vs, hb, m, hL, hl, h => by
  cases hx : zLV bl x with
  | some p =>
   obtain ⟨id, s, len, w, k, q, rfl, hq, rfl⟩ : ∃ id s len w k q, x = .slice id [] s len w ∧ zF bl id = some (.ints k q) ∧ p = (id, k, (q.drop s).take len) := by
    unfold zLV at hx
    split at hx <;> (try (cases hx; done))
    split at hx <;> (try (cases hx; done))
    rename_i hq
    cases hx
    exact ⟨_, _, _, _, _, _, rfl, hq, by rw [zMg]⟩
   have hE : zF E.bl id = some (.ints k q) := by rw [hb]; exact hq
   have h0 := h 0 _ v rfl rfl
   cases h0 with
   | slice _ _ _ _ _ a cap hid hc hsm hh =>
    obtain ⟨q0, c0, g1, g2, g3, g4⟩ := hh _ hE
    simp [zZ] at g1
    obtain ⟨rfl, rfl, rfl⟩ := g1
    have ok := m.ok id _ hE
    have okl := ok.len
    simp only [zJ, List.length_map] at okl
    have go := Go.moveS m id s (.ints k q) (.ints k ((q.drop s).take len)) hE trivial (by omega) (by
     simp only [zJ, List.length_map, List.length_take, List.length_drop]
     omega) fun j x hx => by
      have hj := (List.getElem?_eq_some_iff.1 hx).1
      simp only [zJ, List.length_map, List.length_take, List.length_drop] at hj
      have := ok.cells (s + j) x (by
       simp only [zJ, List.getElem?_map, List.getElem?_take, List.getElem?_drop] at hx ⊢
       rwa [if_pos (by omega)] at hx)
      rwa [← Nat.add_assoc] at this
    have go := go rfl
    obtain ⟨E', w1, b1, g1', s1, m1, l1, r1⟩ := zCl (L := L) (l := l) (bl := bl.set id none ++ [some (.ints k ((q.drop s).take len))]) (E := E.moveS id s (.ints k ((q.drop s).take len))) (vs := vs) (by simp [Env.moveS, hb]) go.mem (by simp [Env.moveS]; omega) (by simpa using hl) fun j x c h1 h2 => (h (j + 1) x c (by simpa using h1) (by simpa using h2)).mono go.step
    refine ⟨E', w1, by simp only [qN, hx]; exact b1, (go.toL hL).trans g1', go.step.trans s1, m1, by simp [qN, hx, l1], fun j x c h1 h2 => ?_⟩
    simp only [qN, hx] at h1
    cases j with
    | zero =>
     simp at h1 h2
     subst h1; subst h2
     refine VR.mono s1 ?_
     have hbn : zF (E.moveS id s (.ints k ((q.drop s).take len))).bl E.bl.length = some (.ints k ((q.drop s).take len)) := by
      show zF (E.bl.set id none ++ [some (.ints k ((q.drop s).take len))]) E.bl.length = _
      have : E.bl.length = (E.bl.set id none).length := by simp
      rw [this]; exact kO
     rw [← hb]
     refine .own _ _ _ _ _ (z4 hbn) hc fun b hb' => ?_
     rw [hbn] at hb'; cases hb'
     have hloc : (E.moveS id s (.ints k ((q.drop s).take len))).loc E.bl.length = ((E.loc id).1, (E.loc id).2.1 + s, (E.loc id).2.2 - s) := by simp [Env.moveS]
     rw [hloc]
     refine ⟨by simp [zZ]; omega, by simp; omega, ?_⟩
     rcases g4 with g4 | g4
     ·exact .inl g4
     ·refine .inr ?_
      rw [g4]
      simp
    | succ j => exact r1 j x c (by simpa using h1) (by simpa using h2)
  | none =>
   have e : qN (x :: l) bl = (x :: (qN l bl).1, (qN l bl).2) := by simp only [qN, hx]
   obtain ⟨E', w1, b1, g1, s1, m1, l1, r1⟩ := zCl (L := L) (l := l) (bl := bl) (E := E) (vs := vs) hb m hL (by simpa using hl) fun j x c h1 h2 => h (j + 1) x c (by simpa using h1) (by simpa using h2)
   rw [e]
   refine ⟨E', w1, b1, g1, s1, m1, by simp [l1], fun j y c h1 h2 => ?_⟩
   cases j with
   | zero =>
    simp at h1 h2
    subst h1; subst h2
    exact (h 0 x v rfl rfl).mono s1
   | succ j => exact r1 j y c (by simpa using h1) (by simpa using h2)
theorem zLd {E : Env} (m : Mem E) (id : Nat) : ∃ E', E'.w = E.w ∧ E'.bl = zJW id E.bl ∧ Go E E' := by
 unfold zJW
 split
 ·rename_i j hb
  split
  ·rename_i k l hj
   have ok := m.ok j _ hj
   have go := Go.move m j (.ints k l) (.ints k l) hj trivial ok.len ok.cells rfl
   have hne : j ≠ id := fun e => by subst e; rw [hb] at hj; cases hj
   have hid := z4 hb
   have hjl := z4 hj
   have hb1 : zF (E.move j (.ints k l)).bl id = some (.var (.own j 1)) := by
    show zF (E.bl.set j none ++ [some (.ints k l)]) id = _
    rw [kC (by simpa using hid), yH hne]
    exact hb
   have hbn : zF (E.move j (.ints k l)).bl E.bl.length = some (.ints k l) := by
    show zF (E.bl.set j none ++ [some (.ints k l)]) E.bl.length = _
    have : E.bl.length = (E.bl.set j none).length := by simp
    rw [this]; exact kO
   have hlocn : (E.move j (.ints k l)).loc E.bl.length = E.loc j := by simp [Env.move]
   have hloci : (E.move j (.ints k l)).loc id = E.loc id := by simp [Env.move, Nat.ne_of_lt hid]
   obtain ⟨v, hv, hr⟩ := (m.ok id _ hb).cells 0 (.own j 1) rfl
   have hw : VR (E.move j (.ints k l)) true (.own E.bl.length 1) v := by
    cases hr with
    | own _ _ len a cap hid2 hc hh =>
     obtain ⟨g1, g2, g3⟩ := hh _ hj
     refine .own _ _ _ _ _ (z4 hbn) hc fun b hb' => ?_
     rw [hbn] at hb'; cases hb'
     rw [hlocn]
     exact ⟨g1, g2, g3⟩
   refine ⟨(E.move j (.ints k l)).reread id (.var (.own E.bl.length 1)), rfl, rfl, go.trans (Go.reread go.mem id _ _ hb1 (.leaf _ ⟨by simp, by simp⟩) (go.mem.ok id _ hb1).len (fun i x hx => ?_) (fun p q h => ?_) fun p r h => ?_)⟩
   ·cases i with
    | zero =>
     simp [zJ, zH] at hx
     subst hx
     exact ⟨v, by rw [hloci]; exact hv, hw⟩
    | succ i => simp [zJ, zH] at hx
   ·cases p <;> simp_all [yS, zL]
   ·cases p <;> simp_all [zZ, zM]
  ·exact ⟨E, rfl, rfl, .refl m⟩
 ·exact ⟨E, rfl, rfl, .refl m⟩
theorem zGX {E : Env} (m : Mem E) (id : Nat) (p : List Nat) : ∃ E', E'.w = E.w ∧ E'.bl = zHQ id p E.bl ∧ Go E E' := by
 unfold zHQ
 split
 ·rename_i v hb
  split
  ·rename_i j w hp
   split
   ·rename_i e w' l hj
    split
    ·rename_i b' hs
     have okj := m.ok j _ hj
     have go := Go.move m j (.objs e w' l) (.objs e w' l) hj okj.fit okj.len okj.cells rfl
     have hne : j ≠ id := fun e => by subst e; rw [hb] at hj; cases hj
     have hid := z4 hb
     have hb1 : zF (E.move j (.objs e w' l)).bl id = some (.var v) := by
      show zF (E.bl.set j none ++ [some (.objs e w' l)]) id = _
      rw [kC (by simpa using hid), yH hne]
      exact hb
     have hbn : zF (E.move j (.objs e w' l)).bl E.bl.length = some (.objs e w' l) := by
      show zF (E.bl.set j none ++ [some (.objs e w' l)]) E.bl.length = _
      have : E.bl.length = (E.bl.set j none).length := by simp
      rw [this]; exact kO
     have hlocn : (E.move j (.objs e w' l)).loc E.bl.length = E.loc j := by simp [Env.move]
     have hloci : (E.move j (.objs e w' l)).loc id = E.loc id := by simp [Env.move, Nat.ne_of_lt hid]
     have ok := go.mem.ok id (.var v) hb1
     obtain ⟨q, hq⟩ := zBV hp
     obtain ⟨hf', ⟨pre, mid, post, e1, e2, e3, e4⟩, s1, s2⟩ := zAx ok.fit (x := .own E.bl.length w) (.leaf _ ⟨by simp, by simp⟩) hs hq
     have hmid : (zJ (.var v))[q]? = some (.own j w) := by
      obtain ⟨_, pre0, post0, f1, f2⟩ := kI (v := v) (x := .own j w) ok.fit hp hq
      show (zH v)[q]? = _
      rw [f1, List.getElem?_append_right (by omega), f2]
      simp [zH]
     have hlen : (zJ (.var v)).length = (zJ b').length := by rw [e1, e2]; simp; omega
     refine ⟨(E.move j (.objs e w' l)).reread id b', rfl, rfl, go.trans (Go.reread go.mem id _ b' hb1 hf' (by rw [← hlen]; exact ok.len) (fun i x hx => ?_) s1 s2 (wI hs).2)⟩
     rw [e2] at hx
     by_cases hi : i = q
     ·subst hi
      rw [List.getElem?_append_right (by omega), e3] at hx
      simp [zH] at hx
      subst hx
      obtain ⟨u, hu, hr⟩ := (m.ok id _ hb).cells _ _ hmid
      refine ⟨u, by rw [hloci]; exact hu, ?_⟩
      cases hr with
      | own _ _ len a cap hid2 hc hh =>
       obtain ⟨g1, g2, g3⟩ := hh _ hj
       refine .own _ _ _ _ _ (z4 hbn) hc fun b hb' => ?_
       rw [hbn] at hb'; cases hb'
       rw [hlocn]
       exact ⟨g1, g2, g3⟩
      | mown _ r hid2 hh =>
       have := (hh _ hj).1
       simp [zZ] at this
     ·refine ok.cells i x ?_
      rw [e1]
      rcases Nat.lt_or_ge i pre.length with hlt' | hge
      ·rw [List.getElem?_append_left hlt'] at hx ⊢
       exact hx
      ·have e5 : (zH (AV.own E.bl.length w)).length = 1 := rfl
       rw [e5] at e4
       rw [List.getElem?_append_right hge, List.getElem?_append_right (by omega)] at hx ⊢
       rw [e5] at hx
       rw [e4]
       exact hx
    ·exact ⟨E, rfl, rfl, .refl m⟩
   ·exact ⟨E, rfl, rfl, .refl m⟩
  ·exact ⟨E, rfl, rfl, .refl m⟩
 ·exact ⟨E, rfl, rfl, .refl m⟩
theorem zLc {E : Env} (m : Mem E) (ks : List (Option NK)) (l : List AV) : ∃ E', E'.w = E.w ∧ E'.bl = zJV ks l E.bl ∧ Go E E' := by
 unfold zJV
 split
 ·exact zLd m 0
 ·split
  ·exact zHj m
  ·exact ⟨E, rfl, rfl, .refl m⟩
 ·split
  ·obtain ⟨E1, w1, b1, g1⟩ := zGX m 0 [8]
   obtain ⟨E2, w2, b2, g2⟩ := zGX g1.mem 1 [8]
   exact ⟨E2, w2.trans w1, by rw [b2, b1], g1.trans g2⟩
  ·exact ⟨E, rfl, rfl, .refl m⟩
theorem zIg {L : Nat} {ks : List (Option NK)} {l : List AV} {bl : zC} {E : Env} {vs : List Value} (hb : E.bl = bl) (m : Mem E) (hL : L ≤ E.bl.length) (hl : vs.length = l.length) (h : ∀ (j : Nat) x c, l[j]? = some x → vs[j]? = some c → VR E true x c) :
  ∃ E', E'.w = E.w ∧ E'.bl = (zBS ks l bl).2 ∧ GoL L E E' ∧ Step E E' ∧ Mem E' ∧ vs.length = (zBS ks l bl).1.length ∧ ∀ (j : Nat) x c, (zBS ks l bl).1[j]? = some x → vs[j]? = some c → VR E' true x c := by
 obtain ⟨E1, w1, b1, g1, s1, m1, l1, r1⟩ := zCl (L := L) hb m hL hl h
 obtain ⟨E2, w2, b2, g2, s2, m2, l2, r2⟩ := zBT (L := L) (ks := ks) b1 m1 g1.len l1 r1
 obtain ⟨E3, w3, b3, g3⟩ := zLc m2 ks (kX ks (qN l bl).1 (qN l bl).2).1
 exact ⟨E3, w3.trans (w2.trans w1), by rw [b3, b2]; rfl, (g1.trans g2).trans (g3.toL g2.len), (s1.trans s2).trans g3.step, g3.mem, l2, fun j x c h1 h2 => (r2 j x c h1 h2).mono g3.step⟩
def zLt : Ex → Exit
 | .normal => .normal
 | .exit id => .exit id
 | .ret => .ret
def z5 (C : Ctx) (A : Ann) (n : Nat) (b : Code) (m : LoopC) : Prop :=
 ∀ st, (∀ (R : Type) (K : Ex → St → Option R), m.run st K = none) ∨ ∃ e st', (∀ (R : Type) (K : Ex → St → Option R), m.run st K = K e st') ∧ zS (zT C A n b) n st = some (e, st')
def zEz (C : Ctx) (A : Ann) (n : Nat) (a : Code) (m : LoopC) : Prop :=
 ∀ st, (∀ (R : Type) (K : Ex → St → Option R), m.run st K = none) ∨ ∃ e st', (∀ (R : Type) (K : Ex → St → Option R), m.run st K = K e st') ∧ zIe C A n a st = some (e, st')
theorem zKS (hΓ : ∀ f m, C.Γ f = some m → zE C.P C.G f m) (hmix : C.P.follows .mixedOrders = true) (A : Ann) (n : Nat) :
  ∀ (c : Code) (hΛ : ∀ b ∈ zK c, ∀ m, A.loop (key b) = some m → z5 C A n b m) (hJ : ∀ a ∈ kM c, ∀ m, A.join (zBs a) = some m → zEz C A n a m) {R : Type} (r : R) (st : St) (K : Ex → St → Option R), X C A n c st K = some r → ∀ (E : Env) (a : Act) (Q : Exit → Act → World → Prop), SR C E st.tm st.bl a → A.lent ≤ E.bl.length →
   (∀ e st', K e st' = some r → ∀ E' a', GoL A.lent E E' → SR C E' st'.tm st'.bl a' → Q (zLt e) a' E'.w) → c.wp C.P Q a E.w := by
 intro c
 induction c with
 | skip => intro hΛ hJ R r st K h E a Q s hL hq; exact wp_skip (hq .normal st h E a (.refl hL) s)
 | region id ops draw =>
  intro hΛ hJ R r st K h E a Q s hL hq
  unfold X at h
  obtain ⟨st2, h, s⟩ := zHK s h
  obtain ⟨tm', bl', h1, h2⟩ := zHR hΓ hmix (K := fun tm bl => K .normal ⟨tm, bl⟩) h
  have h3 := h1 fun tm bl => K .normal ⟨tm, bl⟩
  rw [h] at h3
  obtain ⟨E1, w1, g1, s1⟩ := zKh (C := C) (id := id) s hL
  rw [← w1]
  exact h2 E1 a Q s1 fun E' a' g s' => hq .normal ⟨tm', bl'⟩ h3.symm E' a' (g1.trans (g.toL g1.len)) s'
 | seq x y ihx ihy =>
  intro hΛ hJ R r st K h E a Q s hL hq
  unfold X at h
  cases hj : A.join (zBs x) with
  | none =>
   simp only [hj] at h
   refine wp_seq (ihx (fun b hb => hΛ b (by simp [zK, hb])) (fun b hb => hJ b (by simp [kM, hb])) _ _ _ h E a _ s hL fun e st' hk E' a' g s' => ?_)
   cases e with
   | normal => exact ihy (fun b hb => hΛ b (by simp [zK, hb])) (fun b hb => hJ b (by simp [kM, hb])) _ st' K hk E' a' Q s' g.len fun e2 st2 hk2 E2 a2 g2 s2 => hq e2 st2 hk2 E2 a2 (g.trans g2) s2
   | exit id => exact hq (.exit id) st' hk E' a' g s'
   | ret => exact hq .ret st' hk E' a' g s'
  | some lc =>
   simp only [hj] at h
   obtain ⟨k1, k2⟩ := zAJ (C := C) h
   obtain ⟨E1, w1, g1, s1⟩ := jM (nils := A.nils) s hL
   obtain ⟨E2, w2, g2, s2⟩ := k2 E1 a s1 g1.len
   obtain hno | ⟨e0, st0, hdet, hrun⟩ := hJ x (by simp [kM]) lc hj (zCv (wS A.lent (A.jlive (zBs x)).1 (wL A.nils st)) (A.jlive (zBs x)).1 (wL A.nils st))
   ·rw [hno] at k1; cases k1
   have hk0 := k1
   rw [hdet] at hk0
   have g0 := g1.trans g2
   refine wp_seq ?_
   rw [← w1, ← w2]
   refine ihx (fun b hb => hΛ b (by simp [zK, hb])) (fun b hb => hJ b (by simp [kM, hb])) (e0, st0) _ _ hrun E2 a _ s2 g0.len fun e st' hk E' a' g s' => ?_
   obtain ⟨q1, q2⟩ := zAJ (C := C) hk
   obtain ⟨E3, w3, g3, s3⟩ := jM (nils := A.nils) s' g.len
   obtain ⟨E4, w4, g4, s4⟩ := q2 E3 a' s3 g3.len
   have gall := g0.trans (g.trans (g3.trans g4))
   cases q1
   have hw : E'.w = E4.w := (w4.trans w3).symm
   cases e0 with
   | normal =>
    have := ihy (fun b hb => hΛ b (by simp [zK, hb])) (fun b hb => hJ b (by simp [kM, hb])) _ _ K hk0 E4 a' Q s4 gall.len fun e2 st2 hk2 E5 a2 g5 s5 => hq e2 st2 hk2 E5 a2 (gall.trans g5) s5
    rw [← hw] at this
    exact this
   | exit id =>
    have := hq (.exit id) _ hk0 E4 a' gall s4
    rw [← hw] at this
    exact this
   | ret =>
    have := hq .ret _ hk0 E4 a' gall s4
    rw [← hw] at this
    exact this
 | cond c x y ihx ihy =>
  intro hΛ hJ R r st K h E a Q s hL hq
  unfold X at h
  split at h
  ·rename_i t
   split at h
   ·rename_i v hv
    have ht := s.vr t
    rw [hv] at ht
    have hval := ht.bool_inv
    have hset : st.tm.set t (.bool v) = st.tm := set_same hv (by simp)
    split at h
    ·rename_i e
     subst e
     rw [hset] at h
     exact wp_cond_true hval (ihx (fun b hb => hΛ b (by simp [zK, hb])) (fun b hb => hJ b (by simp [kM, hb])) _ _ K h E a Q s hL hq)
    ·rename_i e
     have : v = false := by simpa using e
     subst this
     rw [hset] at h
     exact wp_cond_false hval (ihy (fun b hb => hΛ b (by simp [zK, hb])) (fun b hb => hJ b (by simp [kM, hb])) _ _ K h E a Q s hL hq)
   ·cases h
  ·rename_i v
   split at h
   ·rename_i e
    subst e
    exact wp_cond_true rfl (ihx (fun b hb => hΛ b (by simp [zK, hb])) (fun b hb => hJ b (by simp [kM, hb])) _ _ K h E a Q s hL hq)
   ·rename_i e
    have : v = false := by simpa using e
    subst this
    exact wp_cond_false rfl (ihy (fun b hb => hΛ b (by simp [zK, hb])) (fun b hb => hJ b (by simp [kM, hb])) _ _ K h E a Q s hL hq)
  ·cases h
 | block id b ih =>
  intro hΛ hJ R r st K h E a Q s hL hq
  unfold X at h
  refine wp_block (ih (fun b hb => hΛ b (by simp [zK, hb])) (fun b hb => hJ b (by simp [kM, hb])) _ _ _ h E a _ s hL fun e st' hk E' a' g s' => ?_)
  cases e with
  | normal => exact hq .normal st' hk E' a' g s'
  | exit j =>
   simp only [zLt, Exit.inBlock]
   simp only at hk
   split at hk
   ·rename_i e
    rw [if_pos e]
    exact hq .normal st' hk E' a' g s'
   ·rename_i e
    rw [if_neg e]
    exact hq (.exit j) st' hk E' a' g s'
  | ret => exact hq .ret st' hk E' a' g s'
 | loop b ih =>
  intro hΛ hJ R r st K h E a Q s hL hq
  unfold X at h
  cases hl : A.loop (key b) with
  | none => simp only [hl] at h; cases h
  | some lc =>
   simp only [hl] at h
   obtain ⟨k1, k2⟩ := zAJ (C := C) h
   obtain ⟨E1, w1, g1, s1⟩ := jM (nils := A.nils) s hL
   obtain ⟨E2, w2, g2, s2⟩ := k2 E1 a s1 g1.len
   have w2 := w2.trans w1
   have g2 := g1.trans g2
   obtain hno | ⟨e0, st0, hdet, hrun⟩ := hΛ b (by simp [zK]) lc hl (zCv (wS A.lent (A.live (key b)).1 (wL A.nils st)) (A.live (key b)).1 (wL A.nils st))
   ·rw [hno] at k1; cases k1
   have hk0 : K e0 (jV A.len (A.live (key b)).2 st0) = some r := by rw [hdet] at k1; exact k1
   have key : ∀ (m : Nat) (st : St), zS (zT C A n b) m st = some (e0, st0) →
     ∀ E a, SR C E (jV A.len (A.live (Abs.key b)).1 st).tm (jV A.len (A.live (Abs.key b)).1 st).bl a → A.lent ≤ E.bl.length → (∀ E' a', GoL A.lent E E' → SR C E' (jV A.len (A.live (Abs.key b)).2 st0).tm (jV A.len (A.live (Abs.key b)).2 st0).bl a' → Q (zLt e0) a' E'.w) → Code.rounds C.P b Q m a E.w := by
    intro m
    induction m with
    | zero => intro st h; cases h
    | succ m ihm =>
     intro st h E a s hL hq
     have out : ∀ (e : Ex) (st' : St), zIW A.len A.lent (A.live (Abs.key b)).2 (wL A.nils st') (fun st' => some (e, st')) = some (e0, st0) → ∀ E' a', GoL A.lent E E' → SR C E' st'.tm st'.bl a' → e = e0 ∧ Q (zLt e0) a' E'.w := fun e st' hk E' a' g s' => by
      obtain ⟨k1, k2⟩ := zAJ (C := C) hk
      obtain ⟨E1, w1, g1, s1⟩ := jM (nils := A.nils) s' g.len
      obtain ⟨E2, w2, g2, s2⟩ := k2 E1 a' s1 g1.len
      cases k1
      have := hq E2 a' (g.trans (g1.trans g2)) s2
      rw [w2, w1] at this
      exact ⟨rfl, this⟩
     refine ih (fun b hb => hΛ b (by simp [zK, hb])) (fun b hb => hJ b (by simp [kM, hb])) (e0, st0) _ _ h E a _ s hL fun e st' hk E' a' g s' => ?_
     cases e with
     | normal =>
      obtain ⟨k1, k2⟩ := zAJ (C := C) hk
      obtain ⟨E1, w1, g1, s1⟩ := jM (nils := A.nils) s' g.len
      obtain ⟨E2, w2, g2, s2⟩ := k2 E1 a' s1 g1.len
      have := ihm _ k1 E2 a' s2 g2.len fun E3 a3 g3 s3 => hq E3 a3 (g.trans (g1.trans (g2.trans g3))) s3
      rw [w2, w1] at this
      exact this
     | exit id => obtain ⟨rfl, h⟩ := out _ _ hk E' a' g s'; exact h
     | ret => obtain ⟨rfl, h⟩ := out _ _ hk E' a' g s'; exact h
   have := key n _ hrun E2 a s2 g2.len fun E3 a3 g3 s3 => hq e0 _ hk0 E3 a3 (g2.trans g3) s3
   rw [w2] at this
   exact wp_loop_rounds n this
 | exit id => intro hΛ hJ R r st K h E a Q s hL hq; unfold X at h; exact wp_exit (hq (.exit id) st h E a (.refl hL) s)
 | ret => intro hΛ hJ R r st K h E a Q s hL hq; unfold X at h; exact wp_ret (hq .ret st h E a (.refl hL) s)
 | _ => intro hΛ hJ R r st K h; unfold X at h; cases h
theorem zFB {P : Program} {t : TypeId} {v r : Value} {w : World} (h : (Instr.loadAt t v).run P w = .ok r w) {x : AV} {E : Env} (hv : VR E true x v) (hx : (∃ id p, x = .ptr id p) ∨ (∃ id p s n, x = .aptr id p s n) ∨ ∃ y, x = .rptr y) :
  (do loadVar t (← asAddr v)).run P w = .ok r w := by
 have : ∃ ad, v = .pointer (some ad) := by
  rcases hx with ⟨_, _, rfl⟩ | ⟨_, _, _, _, rfl⟩ | ⟨_, rfl⟩ <;> (cases hv; exact ⟨_, rfl⟩)
 obtain ⟨ad, rfl⟩ := this
 simpa [Instr.loadAt, Instr.sureAddr, asAddr] using h
theorem zAE {tm : List AV} {bl : zC} : ∀ {rs : List ResultVar} {K : List AV → Option R} {r : R}, jD C rs ⟨tm, bl⟩ K = some r →
  ∃ l, (∀ K2 : List AV → Option R, jD C rs ⟨tm, bl⟩ K2 = K2 l) ∧ ∀ E a, SR C E tm bl a → ∃ vs : List Value, (rs.mapM fun | .tmp t => pure (a.tmps.getD t undef) | .cell x t => do loadVar t (← asAddr (a.tmps.getD x undef)) : Sem (List Value)).run C.P E.w = .ok vs E.w ∧
   vs.length = l.length ∧ ∀ (j : Nat) x c, l[j]? = some x → vs[j]? = some c → VR E true x c
 | [], K, r, h => ⟨[], fun _ => rfl, fun E a s => ⟨[], by simp, rfl, fun j x c h => by simp at h⟩⟩
 | .tmp t :: rs, K, r, h => by
  simp only [jD] at h
  obtain ⟨l, h1, h2⟩ := zAE h
  refine ⟨tm.getD t .any :: l, fun K2 => by simp only [jD]; rw [h1], fun E a s => ?_⟩
  obtain ⟨vs, g1, g2, g3⟩ := h2 E a s
  refine ⟨a.tmps.getD t undef :: vs, by rw [List.mapM_cons, Sem.run_bind, Sem.run_pure]; show (do let ys ← _; pure (_ :: ys) : Sem (List Value)).run C.P E.w = _; rw [Sem.run_bind, g1]; rfl, by simp [g2], fun j x c hx hc => ?_⟩
  cases j with
  | zero => simp at hx hc; subst hx; subst hc; simpa using s.vr t
  | succ j => exact g3 j x c (by simpa using hx) (by simpa using hc)
 | .cell p t :: rs, K, r, h => by
  simp only [jD] at h
  obtain ⟨cat, v, h1, h2, h3⟩ := zFo h
  rw [h1.det] at h
  obtain ⟨l, k1, k2⟩ := zAE h
  refine ⟨v :: l, fun K2 => by simp only [jD]; rw [h1.det, k1], fun E a s => ?_⟩
  obtain ⟨vs, g1, g2, g3⟩ := k2 E a s
  obtain ⟨v', e1, e2⟩ := h3 E (.inl s.bl) s.mem _ (s.vr p)
  have hsh : (∃ id q, tm.getD p .any = .ptr id q) ∨ (∃ id q s n, tm.getD p .any = .aptr id q s n) ∨ ∃ y, tm.getD p .any = .rptr y := by
   have := h1.det (fun _ _ _ => some r)
   unfold zBq at this
   simp only at this
   split at this
   ·rename_i hx; exact .inl ⟨_, _, hx⟩
   ·rename_i hx; exact .inr (.inl ⟨_, _, _, _, hx⟩)
   ·rename_i hx; exact .inr (.inr ⟨_, hx⟩)
   ·cases this
  have e3 := zFB e1 (s.vr p) hsh
  refine ⟨v' :: vs, ?_, by simp [g2], fun j x c hx hc => ?_⟩
  ·rw [List.mapM_cons, Sem.run_bind, e3]
   show (do let ys ← _; pure (_ :: ys) : Sem (List Value)).run C.P E.w = _
   rw [Sem.run_bind, g1]
   rfl
  ·cases j with
   | zero => simp at hx hc; subst hx; subst hc; exact e2
   | succ j => exact g3 j x c (by simpa using hx) (by simpa using hc)
theorem zMj {E : Env} {l : List AV} {vs : List Value} (hl : vs.length = l.length) (h : ∀ (j : Nat) x c, l[j]? = some x → vs[j]? = some c → VR E true x c) :
  VR E true (zIV l) (if h : vs.toArray.size = 1 then vs.toArray[0] else .tuple vs.toArray) := by
 match l, vs, hl with
 | [], [], _ => exact .tup _ _ _ rfl fun j x c h => by simp at h
 | [x], [v], _ => simpa [zIV] using h 0 x v rfl rfl
 | x :: y :: l, u :: v :: vs, hl =>
  have : ¬ ((u :: v :: vs).toArray.size = 1) := by simp
  rw [dif_neg this]
  exact .tup _ _ _ (by simpa using hl) fun j x c h1 h2 => h j x c h1 (by simpa using h2)
end
def FnC (P : Program) (G : Nat → AV) (f : FuncId) (args : List AV) (lent : zC) (v : AV) (out : zC) : Prop :=
 ∀ (E : Env) (vs : Array Value), E.bl = lent → Mem E → Glob G E → Args E args vs → Calls P f vs E.w fun e w' => ∃ v', e = .returned v' ∧ ∃ E', E'.w = w' ∧ E'.bl = out ∧ Go E E' ∧ VR E' true v v'
theorem FnC.ok {P : Program} {G : Nat → AV} {f : FuncId} {fn : Func} {args : List AV} {lent : zC} {v : AV} {out : zC} (h : FnC P G f args lent v out) (hf : P.funcs[f]? = some fn) (hname : fn.name ≠ "runtime.NumGoroutine") (hc : fn.body.isNone = false) : zEB P G f args lent v out :=
 fun E vs hbl m g ha => .inl ⟨fn, hf, hname, hc, h E vs hbl m g ha⟩
theorem zJU {C : Ctx} (hΓ : ∀ f m, C.Γ f = some m → zE C.P C.G f m) (hmix : C.P.follows .mixedOrders = true) {A : Ann} {n : Nat} {f : FuncId} {fn : Func} {args : List AV} {lent : zC} {v : AV} {out : zC} {c : Code}
  (hf : C.P.funcs[f]? = some fn) (hc : fn.body = some c) (hΛ : ∀ b ∈ zK c, ∀ m, A.loop (key b) = some m → z5 C A n b m) (hJ : ∀ a ∈ kM c, ∀ m, A.join (zBs a) = some m → zEz C A n a m) (hname : fn.name ≠ "runtime.NumGoroutine") (hL : A.lent = lent.length) (hN : A.len = fn.ntmps) (hn : args.length ≤ fn.ntmps)
  (h : runF C A n fn args lent (fun v out => some (v, out)) = some (v, out)) : FnC C.P C.G f args lent v out := by
 intro E vs hbl m g ha
 unfold runF at h
 split at h
 ·rename_i c' hc'
  rw [hc] at hc'
  cases hc'
  rw [hN] at h
  refine calls_of_wp hf hc ?_
  have s : SR C E (args ++ List.replicate (fn.ntmps - args.length) .any) lent { tmps := vs ++ Array.replicate (fn.ntmps - vs.size) undef, defers := [] } := by
   refine ⟨hbl, m, g, by simp [ha.size], fun t => ?_, rfl⟩
   rcases Nat.lt_or_ge t args.length with ht | ht
   ·simp only [List.getD_eq_getElem?_getD, Array.getD_eq_getD_getElem?]
    rw [List.getElem?_append_left ht, Array.getElem?_append_left (by rw [ha.size]; exact ht), List.getElem?_eq_getElem ht, Array.getElem?_eq_getElem (by rw [ha.size]; exact ht)]
    exact ha.vr t _ _ (List.getElem?_eq_getElem ht) (Array.getElem?_eq_getElem (by rw [ha.size]; exact ht))
   ·have : (args ++ List.replicate (fn.ntmps - args.length) AV.any).getD t AV.any = AV.any := by
     simp only [List.getD_eq_getElem?_getD]
     rw [List.getElem?_append_right ht, List.getElem?_replicate]
     split <;> rfl
    rw [this]
    exact .any _ _
  have hEL : A.lent = E.bl.length := by rw [hL, hbl]
  refine zKS hΓ hmix A n c hΛ hJ (v, out) _ _ h E _ _ s (by rw [hEL]; exact Nat.le_refl _) fun e st' hk E' a' gl s' => ?_
  have key : jD C fn.results.toList st' (fun l => zCE A.lent (zIV (zBS A.rnil l st'.bl).1) (zBS A.rnil l st'.bl).2 fun v out => some (v, out)) = some (v, out) → a'.defers = [] ∧ ∃ v', (results fn a'.tmps).run C.P E'.w = .ok v' E'.w ∧ ∃ v2, Ending.returned v' = .returned v2 ∧ ∃ E2 : Env, E2.w = E'.w ∧ E2.bl = out ∧ Go E E2 ∧ VR E2 true v v2 := fun hk => by
   obtain ⟨l, h1, h2⟩ := zAE (tm := st'.tm) (bl := st'.bl) hk
   have h3 := h1 fun l => zCE A.lent (zIV (zBS A.rnil l st'.bl).1) (zBS A.rnil l st'.bl).2 fun v out => some (v, out)
   rw [show jD C fn.results.toList ⟨st'.tm, st'.bl⟩ _ = _ from hk] at h3
   obtain ⟨us, g1, g2, g3⟩ := h2 E' a' s'
   obtain ⟨v2, out2, f1, f2⟩ := zEi h3.symm
   rw [f1] at h3
   cases h3
   obtain ⟨E4, w4, b4, gl4, _, m4, l4, r4⟩ := zIg (ks := A.rnil) s'.bl s'.mem gl.len g2 g3
   obtain ⟨E3, w3, b3, gl3, m3, r3⟩ := f2 E4 _ b4 m4 (zMj l4 r4)
   refine ⟨s'.defers, _, ?_, _, rfl, E3, w3.trans w4, b3, GoL.toGo (hEL ▸ gl.trans (gl4.trans gl3)) m3, r3⟩
   have key : ∀ m : Sem (List Value), m.run C.P E'.w = .ok us E'.w →
     (do let vs ← List.toArray <$> m; pure (if h : vs.size = 1 then vs[0] else Value.tuple vs) : Sem Value).run C.P E'.w = .ok (if h : us.toArray.size = 1 then us.toArray[0] else .tuple us.toArray) E'.w := fun m hm => by
    simp only [Sem.run_bind, Sem.run_map, hm]
    rfl
   unfold results
   rw [Array.mapM_eq_mapM_toList]
   exact key _ g1
  cases e with
  | normal => exact key hk
  | exit id => cases hk
  | ret => exact key hk
 ·cases h
end Go.Abs
end
section
set_option linter.unusedVariables false
namespace Go.Abs
open Go
theorem zA {T β α : Type} {x : Option T} {f : T → Option α} {g : T → Option β} {h : β → α} (hf : ∀ t, f t = (g t).map h) : zD x f = (zD x g).map h := by
 cases x with
 | none => rfl
 | some t => exact hf t
theorem zB {β α : Type} {c : Prop} [Decidable c] {a a' : Option α} {b b' : Option β} {h : β → α} (h1 : a = b.map h) (h2 : a' = b'.map h) : (if c then a else a') = (if c then b else b').map h := by
 split
 ·exact h1
 ·exact h2
def DR (x y : AV) : Prop := (Fit x → Fit y) ∧ (zH y).length = (zH x).length ∧ ∀ (j : Nat) a b, (zH x)[j]? = some b → (zH y)[j]? = some a → ∀ E o v, VR E o b v → VR E o a v
def DRs (l m : List AV) : Prop := ((∀ x ∈ l, Fit x) → ∀ y ∈ m, Fit y) ∧ m.length = l.length ∧ (zG m).length = (zG l).length ∧ ∀ (j : Nat) a b, (zG l)[j]? = some b → (zG m)[j]? = some a → ∀ E o v, VR E o b v → VR E o a v
theorem DR.refl (x : AV) : DR x x := ⟨id, rfl, fun j a b h1 h2 E o v h => by rw [h1] at h2; cases h2; exact h⟩
theorem DRs.refl (l : List AV) : DRs l l := ⟨id, rfl, rfl, fun j a b h1 h2 E o v h => by rw [h1] at h2; cases h2; exact h⟩
theorem DR.agg {l m : List AV} (h : DRs l m) : DR (.agg l) (.agg m) :=
 ⟨fun hf => by
  cases hf with
  | agg _ hk => exact .agg _ (h.1 hk)
  | leaf _ hl => exact absurd rfl (hl.1 l), h.2.2.1, h.2.2.2⟩
theorem DRs.cons {x y : AV} {l m : List AV} (h : DR x y) (k : DRs l m) : DRs (x :: l) (y :: m) := by
 refine ⟨fun hf z hz => ?_, by simp [k.2.1], by simp [zG, h.2.1, k.2.2.1], fun j a b h1 h2 E o v hv => ?_⟩
 ·rcases List.mem_cons.1 hz with rfl | hz
  ·exact h.1 (hf x (by simp))
  ·exact k.1 (fun q hq => hf q (by simp [hq])) z hz
 ·simp only [zG] at h1 h2
  rcases Nat.lt_or_ge j (zH x).length with hj | hj
  ·rw [List.getElem?_append_left hj] at h1
   rw [List.getElem?_append_left (by rw [h.2.1]; exact hj)] at h2
   exact h.2.2 j a b h1 h2 E o v hv
  ·rw [List.getElem?_append_right hj] at h1
   rw [List.getElem?_append_right (by rw [h.2.1]; exact hj), h.2.1] at h2
   exact k.2.2.2 _ a b h1 h2 E o v hv
theorem DR.snil {y : AV} (hy : zH y = [y]) (hf : Fit y) (h : ∀ E o, VR E o y (.slice none 0 0)) : DR .snil y := by
 refine ⟨fun _ => hf, by rw [hy]; rfl, fun j a b h1 h2 E o v hv => ?_⟩
 rw [hy] at h2
 cases j with
 | zero =>
  cases h1; cases h2
  cases hv
  exact h E o
 | succ j => cases h1
mutual
theorem zLy : ∀ (k : NK) (x : AV), DR x (zFs k x)
 | .agg l, x => by
  unfold zFs
  split
  ·rename_i kids
   exact .agg (zBU l kids)
  ·exact .refl _
 | .ints k, x => by
  unfold zFs
  split
  ·exact .snil rfl (.leaf _ ⟨by simp, by simp⟩) fun E o => .rints _ k [] none 0 (Nat.le_refl _) fun i hi => by simp at hi
  ·exact .refl _
 | .objs e w, x => by
  unfold zFs
  split
  ·exact .snil rfl (.leaf _ ⟨by simp, by simp⟩) fun E o => .robjs _ e w [] none 0 (Nat.le_refl _) (by simp) (fun _ _ => .nilFunc) (by simp) (fun ad i x j y _ h => by simp at h) fun i x j y h => by simp at h
  ·exact .refl _
theorem zHs : ∀ (k : Option NK) (x : AV), DR x (zCe k x)
 | some k, x => by
  unfold zCe
  exact zLy k x
 | none, x => by
  unfold zCe
  exact .refl x
theorem zBU : ∀ (ks : List (Option NK)) (l : List AV), DRs l (jY ks l)
 | k :: r, l => by
  unfold jY
  split
  ·rename_i x l
   exact .cons (zHs k x) (zBU r l)
  ·exact .refl _
 | [], l => by
  unfold jY
  exact .refl l
end
theorem zML {E : Env} {o : Bool} (k : Option NK) {x : AV} {v : Value} (h : VR E o x v) : VR E o (zCe k x) v := by
 have d := zHs k x
 have leaf : zH x = [x] → zH (zCe k x) = [zCe k x] → VR E o (zCe k x) v := fun h1 h2 => d.2.2 0 _ _ (by rw [h1]; rfl) (by rw [h2]; rfl) E o v h
 cases k with
 | none => unfold zCe; exact h
 | some k =>
  unfold zCe at d leaf ⊢
  cases k with
  | agg l =>
   unfold zFs at d leaf ⊢
   split
   ·rename_i kids
    obtain ⟨cs, rfl, hf, hs, hh⟩ := h.agg_inv
    have g := zBU l kids
    refine .agg _ _ _ (d.1 hf) (by rw [hs]; exact g.2.2.1.symm) fun j a c ha hc => ?_
    have hj : j < (zG kids).length := by rw [← g.2.2.1]; exact (List.getElem?_eq_some_iff.1 ha).1
    have hb := List.getElem?_eq_getElem hj
    exact g.2.2.2 j a _ hb ha E o c (hh j _ c hb hc)
   ·exact h
  | ints k =>
   unfold zFs at d leaf ⊢
   split
   ·exact leaf rfl rfl
   ·exact h
  | objs e w =>
   unfold zFs at d leaf ⊢
   split
   ·exact leaf rfl rfl
   ·exact h
theorem zHk : ∀ (ks : List (Option NK)) (l : List AV) (j : Nat), (jY ks l)[j]? = (l[j]?).map (zCe ((ks[j]?).getD none))
 | k :: r, [], j => by unfold jY; simp
 | k :: r, x :: l, 0 => by unfold jY; simp
 | k :: r, x :: l, j + 1 => by unfold jY; simpa using zHk r l j
 | [], l, j => by
  unfold jY
  cases l[j]? <;> simp [zCe]
theorem zLq {E : Env} {ks : List (Option NK)} {l : List AV} {vs : List Value} (h : ∀ (j : Nat) x c, l[j]? = some x → vs[j]? = some c → VR E true x c) : (jY ks l).length = l.length ∧ ∀ (j : Nat) x c, (jY ks l)[j]? = some x → vs[j]? = some c → VR E true x c := by
 refine ⟨(zBU ks l).2.1, fun j x c hx hc => ?_⟩
 rw [zHk] at hx
 cases hl : l[j]? with
 | none => rw [hl] at hx; cases hx
 | some y =>
  rw [hl] at hx
  cases hx
  exact zML _ (h j y c hl hc)
theorem zEB.ghost {P : Program} {G : Nat → AV} {f : FuncId} {args : List AV} {lent : zC} {v : AV} {out : zC} (ks : List (Option NK)) (h : zEB P G f (jY ks args) lent v out) : zEB P G f args lent v out :=
 fun E vs hbl m g ha => by
  obtain ⟨h1, h2⟩ := zLq (E := E) (ks := ks) (l := args) (vs := vs.toList) fun j x c h1 h2 => ha.vr j x c h1 (by simpa using h2)
  exact h E vs hbl m g ⟨by rw [ha.size, h1], fun j x c h3 h4 => h2 j x c h3 (by simpa using h4)⟩
theorem zE.of {T U : Type} {P : Program} {G : Nat → AV} {fid : FuncId} {lend : List Bool} {anil : List (Option NK)} {pat : List AV → zC → Option T} {f : T → Option U} {res : U → AV × zC} {resK : {R : Type} → U → (AV → zC → Option R) → Option R} {shape : T → List AV × zC}
  (hk : ∀ (R : Type) (u : U) (K : AV → zC → Option R), resK u K = K (res u).1 (res u).2) (hp : ∀ args lent t, pat args lent = some t → (args, lent) = shape t) (h : ∀ t u, f t = some u → zEB P G fid (shape t).1 (shape t).2 (res u).1 (res u).2) : zE P G fid (.mk' lend anil pat f resK) := by
 intro args lent
 cases ht : pat (jY anil args) lent with
 | none => exact .inl fun R K => by simp [Callee.mk', ht]
 | some t =>
  cases hu : f t with
  | none => exact .inl fun R K => by simp [Callee.mk', ht, hu, zD]
  | some u =>
   refine .inr ⟨(res u).1, (res u).2, fun R K => by simp [Callee.mk', ht, hu, zD, hk], ?_⟩
   have := h t u hu
   rw [← hp _ lent t ht] at this
   exact this.ghost anil
theorem z5.of {T U : Type} {C : Ctx} {A : Ann} {n : Nat} {b : Code} {pat : St → Option T} {f : T → Option U} {res : U → Ex × St} {resK : {R : Type} → U → (Ex → St → Option R) → Option R} {shape : T → St}
  (hk : ∀ (R : Type) (u : U) (K : Ex → St → Option R), resK u K = K (res u).1 (res u).2) (hp : ∀ st t, pat st = some t → st = shape t) (h : ∀ t, zS (zT C A n b) n (shape t) = (f t).map res) : z5 C A n b (.mk' pat f resK) := by
 intro st
 cases ht : pat st with
 | none => exact .inl fun R K => by simp [LoopC.mk', ht]
 | some t =>
  cases hu : f t with
  | none => exact .inl fun R K => by simp [LoopC.mk', ht, hu, zD]
  | some u =>
   refine .inr ⟨(res u).1, (res u).2, fun R K => by simp [LoopC.mk', ht, hu, zD, hk], ?_⟩
   rw [hp st t ht, h, hu]
   rfl
theorem z5.alt {T : Type} {C : Ctx} {A : Ann} {n : Nat} {b : Code} {pat : St → Option T} {m1 m2 : LoopC} (h1 : z5 C A n b m1) (h2 : z5 C A n b m2) : z5 C A n b (.alt pat m1 m2) := by
 intro st
 cases ht : pat st with
 | none =>
  rcases h2 st with h | ⟨e, st', h, hr⟩
  ·exact .inl fun R K => by simp only [LoopC.alt, ht]; exact h R K
  ·exact .inr ⟨e, st', fun R K => by simp only [LoopC.alt, ht]; exact h R K, hr⟩
 | some t =>
  rcases h1 st with h | ⟨e, st', h, hr⟩
  ·exact .inl fun R K => by simp only [LoopC.alt, ht]; exact h R K
  ·exact .inr ⟨e, st', fun R K => by simp only [LoopC.alt, ht]; exact h R K, hr⟩
theorem zEz.of {T U : Type} {C : Ctx} {A : Ann} {n : Nat} {b : Code} {pat : St → Option T} {f : T → Option U} {res : U → Ex × St} {resK : {R : Type} → U → (Ex → St → Option R) → Option R} {shape : T → St}
  (hk : ∀ (R : Type) (u : U) (K : Ex → St → Option R), resK u K = K (res u).1 (res u).2) (hp : ∀ st t, pat st = some t → st = shape t) (h : ∀ t, zIe C A n b (shape t) = (f t).map res) : zEz C A n b (.mk' pat f resK) := by
 intro st
 cases ht : pat st with
 | none => exact .inl fun R K => by simp [LoopC.mk', ht]
 | some t =>
  cases hu : f t with
  | none => exact .inl fun R K => by simp [LoopC.mk', ht, hu, zD]
  | some u =>
   refine .inr ⟨(res u).1, (res u).2, fun R K => by simp [LoopC.mk', ht, hu, zD, hk], ?_⟩
   rw [hp st t ht, h, hu]
   rfl
theorem zLj {l : List (Nat × LoopC)} {k : Nat} {m : LoopC} (h : zW l k = some m) : (k, m) ∈ l := by
 induction l with
 | nil => cases h
 | cons p r ih =>
  simp only [zW] at h
  split at h
  ·rename_i e
   cases h
   subst e
   simp
  ·exact List.mem_cons_of_mem _ (ih h)
theorem only {l : List Code} {k : Nat} {a c : Code} (ha : a ∈ l) (hk : zBs a = k) (h : (l.filter fun a => zBs a == k) = [c]) : a = c := by
 have : a ∈ l.filter fun a => zBs a == k := List.mem_filter.2 ⟨ha, by simpa using hk⟩
 rw [h] at this
 simpa using this
theorem wT {T α : Type} {shape : T → St} {body : (St → Option α) → St → Option α} {g : Nat → T → Option α} (h0 : ∀ t, g 0 t = none)
  (hs : ∀ m t, (∀ t', zS body m (shape t') = g m t') → body (zS body m) (shape t) = g (m + 1) t) :
  ∀ m t, zS body m (shape t) = g m t := by
 intro m
 induction m with
 | zero => intro t; rw [h0]; rfl
 | succ m ih => intro t; exact hs m t ih
end Go.Abs
end
section
set_option linter.unusedVariables false
set_option linter.unusedSimpArgs false
namespace Go.Abs
open Go Go.RowKit
def E0 (W : World) : Env := ⟨W, fun b o => (W.cell? ⟨b, o, none⟩).isSome = true, fun _ => (0, 0, 0), []⟩
theorem zOx (W : World) : Mem (E0 W) := by
 refine ⟨fun id blk h => ?_, fun i j bi bj _ h => ?_, fun b o h => k7 h, fun b o ⟨id, blk, h, _⟩ => ?_⟩
 ·simp [zF, E0] at h
 ·simp [zF, E0] at h
 ·simp [zF, E0] at h
theorem zNf (W : World) (b o : Nat) : ¬ Own (E0 W) b o := fun ⟨id, blk, h, _⟩ => by simp [zF, E0] at h
theorem zNg {W : World} {E' : Env} (h : Go (E0 W) E') : Below W.heap.size W E'.w :=
 ⟨h.fr.os, h.fr.tape, h.fr.output, h.fr.size, fun k hk => h.fr.blk k hk fun o => zNf W k o⟩
inductive AVT (P : Program) : TypeId → AV → Prop where
 | bool {t} (h : P.underlying t = some .bool) (b) : AVT P t (.bool b)
 | int {t k} (h : P.underlying t = some (.int k)) (n) (hn : (Lit.int k n).wf = true) : AVT P t (.int k n)
 | str {t} (h : P.underlying t = some .string) (s) (hs : s.size ≤ reachBytes) : AVT P t (.str s)
 | ints {t n e k} (h : P.underlying t = some (.array n e)) (he : P.underlying e = some (.int k)) (l : List Int) (hl : l.length = n) (hw : ∀ x ∈ l, (Lit.int k x).wf = true) : AVT P t (.ints k n l)
 | arr {t n e} (h : P.underlying t = some (.array n e)) (he : ∀ k, P.underlying e ≠ some (.int k)) (l : List AV) (hl : l.length = n) (hw : ∀ x ∈ l, AVT P e x) : AVT P t (.agg l)
 | struct {t fs} (h : P.underlying t = some (.struct fs)) (l : List AV) (hl : l.length = fs.size) (hw : ∀ (i : Nat) f x, fs[i]? = some f → l[i]? = some x → AVT P f.type x) : AVT P t (.agg l)
 | rints {t e k} (h : P.underlying t = some (.slice e)) (he : P.underlying e = some (.int k)) (l : List Int) (hl : l.length * P.bytesOf e ≤ reachBytes) (hw : ∀ x ∈ l, (Lit.int k x).wf = true) : AVT P t (.rints k l)
 | robjs {t e} (h : P.underlying t = some (.slice e)) (he : ∀ k, P.underlying e ≠ some (.int k)) (l : List AV) (hl : l.length * P.bytesOf e ≤ reachBytes) (hw : ∀ x ∈ l, AVT P e x) : AVT P t (.robjs e (P.cellsOf e) l)
structure Rd (w : World) (x : AV) (cs : List Value) : Prop where
 fit : Fit x
 own : zR x = true
 solid : solid x = true
 len : (zH x).length = cs.length
 vr : ∀ (j : Nat) y c, (zH x)[j]? = some y → cs[j]? = some c → VR (E0 w) false y c
structure Rds (w : World) (l : List AV) (cs : List Value) : Prop where
 fit : ∀ x ∈ l, Fit x
 own : kA l = true
 solid : zBI l = true
 len : (zG l).length = cs.length
 vr : ∀ (j : Nat) y c, (zG l)[j]? = some y → cs[j]? = some c → VR (E0 w) false y c
theorem Rds.nil {w : World} : Rds w [] [] := ⟨by simp, rfl, rfl, rfl, fun j y c h => by simp [zG] at h⟩
theorem Rds.cons {w : World} {x : AV} {l : List AV} {a b : List Value} (h : Rd w x a) (k : Rds w l b) : Rds w (x :: l) (a ++ b) := by
 refine ⟨fun y hy => ?_, by simp [kA, h.own, k.own], by simp [zBI, h.solid, k.solid], by simp [zG, h.len, k.len], fun j y c hy hc => ?_⟩
 ·rcases List.mem_cons.1 hy with rfl | hy
  ·exact h.fit
  ·exact k.fit y hy
 ·rw [zG] at hy
  rcases Nat.lt_or_ge j (zH x).length with hj | hj
  ·rw [List.getElem?_append_left hj] at hy
   rw [List.getElem?_append_left (by rw [← h.len]; exact hj)] at hc
   exact h.vr j y c hy hc
  ·rw [List.getElem?_append_right hj] at hy
   rw [List.getElem?_append_right (by rw [← h.len]; exact hj), ← h.len] at hc
   exact k.vr _ y c hy hc
theorem Rds.rd {w : World} {l : List AV} {cs : List Value} (h : Rds w l cs) : Rd w (.agg l) cs :=
 ⟨.agg l h.fit, by simpa [zR] using h.own, by simpa [Abs.solid] using h.solid, by simpa [zH] using h.len, by simpa [zH] using h.vr⟩
theorem Rd.leaf {w : World} {x : AV} {v : Value} (hx : zH x = [x]) (hf : Fit x) (ho : zR x = true) (hs : Abs.solid x = true) (h : VR (E0 w) false x v) : Rd w x [v] := by
 refine ⟨hf, ho, hs, by simp [hx], fun j y c hy hc => ?_⟩
 cases j with
 | zero => rw [hx] at hy; simp at hy hc; subst hy; subst hc; exact h
 | succ j => simp at hc
theorem zGa {w : World} {c : Nat} : ∀ {l : List AV} {cs : List Value}, cs.length = l.length * c → (∀ (i : Nat) x, l[i]? = some x → Rd w x ((cs.drop (i * c)).take c)) → Rds w l cs
 | [], cs, h, _ => by
  have : cs = [] := List.eq_nil_of_length_eq_zero (by simpa using h)
  subst this
  exact .nil
 | x :: l, cs, h, hx => by
  have h' : cs.length = l.length * c + c := by rw [h]; simp [Nat.add_mul]
  have k : Rds w l (cs.drop c) := zGa (c := c) (by simp [h']) fun i y hy => by
   have := hx (i + 1) y (by simpa using hy)
   rwa [List.drop_drop, show c + i * c = (i + 1) * c by rw [Nat.add_mul]; omega]
  have h0 := hx 0 x rfl
  simp only [Nat.zero_mul, List.drop_zero] at h0
  have := Rds.cons h0 k
  rwa [List.take_append_drop] at this
section
variable (P : Program)
def zIH : List Field → Nat → Option Nat
 | [], o => some o
 | f :: r, o => if f.offset = o then zIH r (o + P.cellsOf f.type) else none
def zHh (T : TypeId → Bool) (t : TypeId) : Bool :=
 match P.underlying t with
 | some .bool | some (.int _) | some .string => P.cellsOf t == 1
 | some (.array n e) => T e && P.cellsOf t == n * P.cellsOf e
 | some (.slice e) => T e && decide (1 ≤ P.cellsOf e) && P.cellsOf t == 1
 | some (.struct fs) => fs.toList.all (fun f => T f.type) && decide (zIH P fs.toList 0 = some (P.cellsOf t))
 | _ => false
end
theorem zGT {P : Program} {w : World} : ∀ {fs : List Field} {l : List AV} {cs : List Value} {o tot : Nat}, zIH P fs o = some tot → l.length = fs.length → cs.length = tot →
  (∀ (i : Nat) f x, fs[i]? = some f → l[i]? = some x → Rd w x ((cs.drop f.offset).take (P.cellsOf f.type)) ∧ width x = P.cellsOf f.type) → Rds w l (cs.drop o) ∧ o + zX l = tot ∧ o ≤ tot
 | [], [], cs, o, tot, h, _, hc, _ => by
  simp [zIH] at h
  subst h
  rw [List.drop_of_length_le (by omega)]
  exact ⟨.nil, by simp [zX], Nat.le_refl _⟩
 | [], x :: l, _, _, _, _, hl, _, _ => by simp at hl
 | f :: fs, [], _, _, _, _, hl, _, _ => by simp at hl
 | f :: fs, x :: l, cs, o, tot, h, hl, hc, hx => by
  simp only [zIH] at h
  split at h
  ·rename_i ho
   obtain ⟨k, hw, hle⟩ := zGT h (by simpa using hl) hc fun i f' x' h1 h2 => hx (i + 1) f' x' (by simpa using h1) (by simpa using h2)
   obtain ⟨h0, hw0⟩ := hx 0 f x rfl rfl
   have := Rds.cons h0 k
   rw [ho] at this
   rw [show cs.drop (o + P.cellsOf f.type) = (cs.drop o).drop (P.cellsOf f.type) by rw [List.drop_drop], List.take_append_drop] at this
   exact ⟨this, by simp only [zX]; omega, by omega⟩
  ·cases h
theorem zAf {H : Type} {P : Program} {e : TypeId} : ∀ {l : List (DataW H)} {d : DataW H}, d ∈ l → ∀ n ∈ d.weights P e, n ∈ DataW.weightsAll P e l
 | x :: l, d, h, n, hn => by
  simp only [DataW.weightsAll, List.mem_append]
  rcases List.mem_cons.1 h with rfl | h
  ·exact .inl hn
  ·exact .inr (zAf h n hn)
theorem zFP {H : Type} {enc : TypeId × Value → H} {P : Program} {w : World} {base : Nat} {spare : Nat → Bool} {held : Bool} {t : TypeId} {cs : List Value} {fuel : Nat} {x : DataW H × List MemPlace} {n : Nat} {e : TypeId} (ht : P.underlying t = some (.array n e)) (h : DataW.trod enc P w base spare held fuel t cs = some x) :
  ∃ (xs : List (DataW H × List MemPlace)) (m : Nat), fuel = m + 1 ∧ x = (.agg (xs.map (·.1)), xs.flatMap (·.2)) ∧ cs.length = P.cellsOf t ∧ xs.length = n ∧
   ∀ (i : Nat), i < n → DataW.trod enc P w base spare held m e ((cs.drop (i * P.cellsOf e)).take (P.cellsOf e)) = xs[i]? := by
 cases fuel with
 | zero => simp [DataW.trod] at h
 | succ m =>
  unfold DataW.trod at h
  rw [ht] at h
  simp only at h
  split at h
  ·rename_i hc
   rw [Option.map_eq_some_iff] at h
   obtain ⟨xs, hx, rfl⟩ := h
   exact ⟨xs, m, rfl, rfl, hc, by simpa using mapM_some_length hx, fun i hi => mapM_some_get hx i i (by simp [hi])⟩
  ·cases h
section
variable {H : Type} {enc : TypeId × Value → H} {P : Program} {w : World} {base : Nat} {spare : Nat → Bool} {held : Bool} {T : TypeId → Bool}
theorem zBa {α : Type} {p : Nat → α → Prop} : ∀ (n : Nat), (∀ i, i < n → ∃ x, p i x) → ∃ l : List α, l.length = n ∧ ∀ (i : Nat) x, l[i]? = some x → p i x
 | 0, _ => ⟨[], rfl, fun i x h => by simp at h⟩
 | n + 1, h => by
  obtain ⟨l, h1, h2⟩ := zBa (p := p) n fun i hi => h i (by omega)
  obtain ⟨x, hx⟩ := h n (by omega)
  refine ⟨l ++ [x], by simp [h1], fun i y hy => ?_⟩
  rcases Nat.lt_or_ge i l.length with hi | hi
  ·rw [List.getElem?_append_left hi] at hy
   exact h2 i y hy
  ·rw [List.getElem?_append_right hi] at hy
   have : i = l.length := by
    have := (List.getElem?_eq_some_iff.1 hy).1
    simp at this
    omega
   subst this
   simp at hy
   subst hy
   rwa [h1]
theorem zFH (hT : ∀ t, T t = true → zHh P T t = true) : ∀ (fuel : Nat) {t : TypeId} {cs : List Value} {x : DataW H × List MemPlace}, T t = true → DataW.trod enc P w base spare held fuel t cs = some x →
  (∀ n ∈ x.1.weights P t, n ≤ reachBytes) → ∃ a, AVT P t a ∧ Rd w a cs ∧ width a = P.cellsOf t
 | 0, t, cs, x, _, h, _ => by simp [DataW.trod] at h
 | fuel + 1, t, cs, x, ht, h, hw => by
  have g := hT t ht
  unfold zHh at g
  split at g
  ·rename_i hu
   obtain ⟨b, rfl, rfl⟩ := DataW.trod_bool hu h
   exact ⟨.bool b, .bool hu b, .leaf rfl (.leaf _ (by simp)) rfl rfl (.bool _ b), by simpa [width] using (beq_iff_eq.1 g).symm⟩
  ·rename_i k hu
   obtain ⟨n, rfl, rfl, hn⟩ := DataW.trod_int hu h
   exact ⟨.int k n, .int hu n hn, .leaf rfl (.leaf _ (by simp)) rfl rfl (.int _ k n), by simpa [width] using (beq_iff_eq.1 g).symm⟩
  ·rename_i hu
   obtain ⟨s, rfl, rfl, hs⟩ := DataW.trod_string hu h
   have : s.size ≤ reachBytes := by
    have := hw s.data.toList.length (by simp [DataW.weights])
    simpa using this
   exact ⟨.str s, .str hu s this, .leaf rfl (.leaf _ (by simp)) rfl rfl (.str _ s), by simpa [width] using (beq_iff_eq.1 g).symm⟩
  ·rename_i n e hu
   simp only [Bool.and_eq_true, beq_iff_eq] at g
   obtain ⟨he, hc⟩ := g
   obtain ⟨xs, m, hm, rfl, hlen, hxs, hx⟩ := zFP hu h
   cases hm
   have hall : ∀ i, i < n → ∃ a, AVT P e a ∧ Rd w a ((cs.drop (i * P.cellsOf e)).take (P.cellsOf e)) ∧ width a = P.cellsOf e := fun i hi => by
    have hg : xs[i]? = some xs[i] := List.getElem?_eq_getElem (by omega)
    refine zFH hT fuel he ((hx i hi).trans hg) fun k hk => hw k ?_
    simp only [DataW.weights, hu]
    exact zAf (List.mem_map.2 ⟨_, List.getElem_mem (by omega), rfl⟩) k hk
   obtain ⟨l, hl, hp⟩ := zBa n hall
   have rds : Rds w l cs := zGa (c := P.cellsOf e) (by rw [hlen, hc, hl]) fun i x hx => (hp i x hx).2.1
   have hwid : zX l = l.length * P.cellsOf e := by
    have : ∀ x ∈ l, width x = P.cellsOf e := fun x hx => by
     obtain ⟨i, hi⟩ := List.mem_iff_getElem?.1 hx
     exact (hp i x hi).2.2
    clear hp rds hl
    induction l with
    | nil => simp [zX]
    | cons y r ih => simp only [zX, List.length_cons]; rw [ih fun x hx => this x (by simp [hx]), this y (by simp), Nat.add_mul]; omega
   by_cases hk : ∃ k, P.underlying e = some (.int k)
   ·obtain ⟨k, hk⟩ := hk
    have hint : ∀ x ∈ l, ∃ z, x = .int k z ∧ (Lit.int k z).wf = true := fun x hx => by
     obtain ⟨i, hi⟩ := List.mem_iff_getElem?.1 hx
     have := (hp i x hi).1
     cases this <;> simp_all
    have hce : P.cellsOf e = 1 := by
     have := hT e he
     unfold zHh at this
     rw [hk] at this
     simpa using this
    have hl' : ∃ zs : List Int, l = zs.map (.int k) ∧ ∀ z ∈ zs, (Lit.int k z).wf = true := by
     clear hp rds hl hwid
     induction l with
     | nil => exact ⟨[], rfl, by simp⟩
     | cons y r ih =>
      obtain ⟨zs, rfl, hz⟩ := ih fun x hx => hint x (by simp [hx])
      obtain ⟨z, rfl, hz0⟩ := hint y (by simp)
      exact ⟨z :: zs, rfl, by simpa using ⟨hz0, hz⟩⟩
    obtain ⟨zs, rfl, hz⟩ := hl'
    simp only [List.length_map] at hl
    refine ⟨.ints k n zs, .ints hu hk zs hl hz, ⟨.ints _ _ _ hl, rfl, rfl, ?_, ?_⟩, by simp [width, hc, hce]⟩
    ·rw [zH, hlen, hc, hce]; simp [hl]
    ·intro j y c hy hcc
     refine rds.vr j y c ?_ hcc
     rw [← hy, zH]
     congr 1
     clear hp rds hl hwid hint hz hy
     induction zs with
     | nil => rfl
     | cons z r ih => simp only [List.map_cons, zG, zH, ih]; rfl
   ·refine ⟨.agg l, .arr hu (fun k hk' => hk ⟨k, hk'⟩) l hl fun x hx => ?_, rds.rd, by simp [width, hwid, hc, hl]⟩
    obtain ⟨i, hi⟩ := List.mem_iff_getElem?.1 hx
    exact (hp i x hi).1
  ·rename_i e hu
   simp only [Bool.and_eq_true, beq_iff_eq, decide_eq_true_eq] at g
   obtain ⟨⟨he, hc1⟩, hct⟩ := g
   have key : ∀ (l : List AV), l.length * P.bytesOf e ≤ reachBytes → (∀ x ∈ l, AVT P e x ∧ width x = P.cellsOf e ∧ Fit x ∧ zR x = true ∧ solid x = true) → ∀ a cap, l.length ≤ cap →
     (∀ (i : Nat) x, l[i]? = some x → ∃ ad, a = some ad ∧ ad.spot = none ∧ ∀ (j : Nat) y, (zH x)[j]? = some y → ∃ c, w.cell? ⟨ad.block, ad.off + i * P.cellsOf e + j, none⟩ = some c ∧ VR (E0 w) false y c) →
     ∃ b, AVT P t b ∧ Rd w b [.slice a l.length cap] ∧ width b = P.cellsOf t := by
    intro l hlb hl a cap hcap hrd
    by_cases hk : ∃ k, P.underlying e = some (.int k)
    ·obtain ⟨k, hk⟩ := hk
     have hint : ∀ x ∈ l, ∃ z, x = .int k z ∧ (Lit.int k z).wf = true := fun x hx => by
      have := (hl x hx).1
      cases this <;> simp_all
     have hce : P.cellsOf e = 1 := by
      have := hT e he
      unfold zHh at this
      rw [hk] at this
      simpa using this
     have hl' : ∃ zs : List Int, l = zs.map (.int k) ∧ ∀ z ∈ zs, (Lit.int k z).wf = true := by
      clear hrd hl hlb hcap
      induction l with
      | nil => exact ⟨[], rfl, by simp⟩
      | cons y r ih =>
       obtain ⟨zs, rfl, hz⟩ := ih fun x hx => hint x (by simp [hx])
       obtain ⟨z, rfl, hz0⟩ := hint y (by simp)
       exact ⟨z :: zs, rfl, by simpa using ⟨hz0, hz⟩⟩
     obtain ⟨zs, rfl, hz⟩ := hl'
     refine ⟨.rints k zs, .rints hu hk zs (by simpa using hlb) hz, .leaf rfl (.leaf _ (by simp)) rfl rfl ?_, by simp [width, hct]⟩
     rw [List.length_map]
     refine .rints _ k zs a cap (by simpa using hcap) fun i hi => ?_
     obtain ⟨ad, h1, h2, h3⟩ := hrd i (.int k zs[i]) (by simp [hi])
     obtain ⟨c, h4, h5⟩ := h3 0 (.int k zs[i]) rfl
     cases h5
     rw [hce, Nat.mul_one] at h4
     refine ⟨ad, h1, h2, ?_, ?_⟩
     ·show (w.cell? _).isSome = true
      rw [show (⟨ad.block, ad.off + i, none⟩ : Addr) = ⟨ad.block, ad.off + i + 0, none⟩ from rfl, h4]; rfl
     ·show w.cell? _ = _
      rw [show (⟨ad.block, ad.off + i, none⟩ : Addr) = ⟨ad.block, ad.off + i + 0, none⟩ from rfl, h4]
      simp [List.getD_eq_getElem?_getD, hi]
    ·refine ⟨.robjs e (P.cellsOf e) l, .robjs hu (fun k hk' => hk ⟨k, hk'⟩) l hlb fun x hx => (hl x hx).1, .leaf rfl (.leaf _ (by simp)) rfl rfl ?_, by simp [width, hct]⟩
     refine .robjs _ e _ l a cap hcap (fun x hx => ⟨⟨(hl x hx).2.2.1, (hl x hx).2.1⟩, (hl x hx).2.2.2⟩) (fun i j => (w.cell? ⟨(a.getD ⟨0, 0, none⟩).block, (a.getD ⟨0, 0, none⟩).off + i * P.cellsOf e + j, none⟩).getD .nilFunc) (fun hne => ?_) (fun ad i x j y h1 h2 h3 => ?_) fun i x j y h2 h3 => ?_
     ·obtain ⟨x, hx⟩ := List.exists_mem_of_ne_nil l hne
      obtain ⟨i, hi⟩ := List.mem_iff_getElem?.1 hx
      obtain ⟨ad, g1, g2, _⟩ := hrd i x hi
      exact ⟨ad, g1, g2⟩
     ·obtain ⟨ad', g1, _, g3⟩ := hrd i x h2
      rw [h1] at g1
      cases g1
      obtain ⟨c, g4, _⟩ := g3 j y h3
      subst h1
      refine ⟨?_, ?_⟩
      ·show (w.cell? _).isSome = true
       rw [g4]; rfl
      ·show w.cell? _ = _
       simp only [Option.getD_some]
       rw [g4]; rfl
     ·obtain ⟨ad, g1, _, g3⟩ := hrd i x h2
      obtain ⟨c, g4, g5⟩ := g3 j y h3
      subst g1
      simp only [Option.getD_some]
      rw [g4]
      exact g5
   rcases DataW.trod_slice hu h with ⟨rfl, rfl⟩ | ⟨a, len, cap, elems, rest, m, hm, rfl, rfl, _, hlc, _, hel, hx, hsp, hns⟩
   ·have := key [] (by simp) (by simp) none 0 (Nat.le_refl _) (fun i x h => by simp at h)
    simpa using this
   ·cases hm
    have hwb : (elems.length + rest.length) * P.bytesOf e ≤ reachBytes := hw _ (by simp [DataW.weights, hu])
    have hall : ∀ i, i < len → ∃ b, AVT P e b ∧ width b = P.cellsOf e ∧ ∃ cs', w.cells? base (a.add (i * P.cellsOf e)) (P.cellsOf e) = some cs' ∧ Rd w b cs' := fun i hi => by
     have hg : elems[i]? = some elems[i] := List.getElem?_eq_getElem (by omega)
     have := (hx i hi).trans hg
     rw [Option.bind_eq_some_iff] at this
     obtain ⟨cs', h1, h2⟩ := this
     obtain ⟨b, h3, h4, h5⟩ := zFH hT fuel he h2 fun k hk => hw k (by
      simp only [DataW.weights, hu, List.mem_cons, List.mem_append]
      exact .inr (.inl (zAf (List.mem_map.2 ⟨_, List.getElem_mem (by omega), rfl⟩) k hk)))
     exact ⟨b, h3, h5, cs', h1, h4⟩
    obtain ⟨l, hl, hp⟩ := zBa len hall
    have := key l (by
      refine Nat.le_trans (Nat.mul_le_mul_right _ ?_) hwb
      omega) (fun x hx => by
      obtain ⟨i, hi⟩ := List.mem_iff_getElem?.1 hx
      obtain ⟨h1, h2, cs', h3, h4⟩ := hp i x hi
      exact ⟨h1, h2, h4.fit, h4.own, h4.solid⟩) (some a) cap (by omega) fun i x hi => by
      obtain ⟨h1, h2, cs', h3, h4⟩ := hp i x hi
      obtain ⟨_, h5, h6⟩ := World.cells?_some h3
      have hadd : ∀ j, (a.add (i * P.cellsOf e)).add j = (⟨a.block, a.off + i * P.cellsOf e + j, none⟩ : Addr) ∨ a.spot ≠ none := fun j => by
       by_cases hs : a.spot = none
       ·left
        cases a
        simp only at hs
        subst hs
        unfold Addr.add
        split <;> split <;> simp_all
       ·exact .inr hs
      have hs : a.spot = none := by
       have h0 : i = 0 ∨ 0 < i := by omega
       by_cases hlen0 : 0 < len
       ·obtain ⟨x0, hx0⟩ : ∃ x0, l[0]? = some x0 := ⟨_, List.getElem?_eq_getElem (by omega)⟩
        obtain ⟨_, _, cs0, f3, _⟩ := hp 0 x0 hx0
        obtain ⟨_, f5, f6⟩ := World.cells?_some f3
        have := f6 0 hc1
        have hc0 : cs0[0]? = some cs0[0] := List.getElem?_eq_getElem (by omega)
        rw [hc0] at this
        have := World.cell?_spot this
        simpa [Addr.add] using this
       ·have := (List.getElem?_eq_some_iff.1 hi).1
        omega
      refine ⟨a, rfl, hs, fun j y hy => ?_⟩
      have hj : j < P.cellsOf e := by
       have := (List.getElem?_eq_some_iff.1 hy).1
       rw [h4.len, h5] at this
       exact this
      have hcj : cs'[j]? = some cs'[j] := List.getElem?_eq_getElem (by omega)
      refine ⟨cs'[j], ?_, h4.vr j y _ hy hcj⟩
      rcases hadd j with hadd | hadd
      ·rw [← hadd, h6 j hj, hcj]
      ·exact absurd hs hadd
    rw [hl] at this
    exact this
  ·rename_i fs hu
   simp only [Bool.and_eq_true, decide_eq_true_eq, List.all_eq_true] at g
   obtain ⟨hf, htl⟩ := g
   obtain ⟨xs, m, hm, rfl, hlen, hxs, hx⟩ := DataW.trod_struct hu h
   cases hm
   have hall : ∀ i, i < fs.size → ∃ a, ∀ f, fs[i]? = some f → AVT P f.type a ∧ Rd w a ((cs.drop f.offset).take (P.cellsOf f.type)) ∧ width a = P.cellsOf f.type := fun i hi => by
    have hg : xs[i]? = some xs[i] := List.getElem?_eq_getElem (by omega)
    have hfi : fs[i]? = some fs[i] := Array.getElem?_eq_getElem hi
    obtain ⟨a, ha⟩ := zFH hT fuel (hf fs[i] (by simp)) ((hx i _ hfi).trans hg) fun k hk => hw k (by
     simp only [DataW.weights, hu]
     exact DataW.weights_mem_each (j := i) (t := fs[i].type) (d := xs[i].1) (by simp [hi]) (by simp; exact ⟨xs[i].2, hg⟩) k hk)
    exact ⟨a, fun f hf' => by rw [hfi] at hf'; cases hf'; exact ha⟩
   obtain ⟨l, hl, hp⟩ := zBa fs.size hall
   obtain ⟨rds, hwid, _⟩ := zGT htl (l := l) (cs := cs) (by simp [hl]) hlen fun i f x h1 h2 => (hp i x h2 f (by simpa using h1)).2
   refine ⟨.agg l, .struct hu l hl fun i f x h1 h2 => (hp i x h2 f h1).1, rds.rd, by simpa [width] using hwid⟩
  ·cases g
end
end Go.Abs
end
section
set_option linter.unusedVariables false
set_option linter.unusedSimpArgs false
namespace Go.Abs
open Go Go.RowKit Go.ChangeShapes Go.WideShapes
theorem zLU {P : Program} {w : World} {a : AV} {t : TypeId} {v : Value} {r : Reach} {base : Nat} (ha : AVT P t a) (h : Rd w a v.cells.toList) (hv : Value.okWide P w r base t v) : VR (E0 w) false a v := by
 have leaf : zH a = [a] → (∀ cs, v ≠ .agg cs) → VR (E0 w) false a v := fun hf hn => by
  have hc : v.cells = #[v] := by
   cases v <;> first | rfl | exact absurd rfl (hn _)
  exact h.vr 0 a v (by rw [hf]; rfl) (by rw [hc]; rfl)
 have nag : (match P.underlying t with | some (.struct _) | some (.array _ _) => False | some .bool | some (.int _) | some .string | some (.slice _) => True | _ => False) → ∀ cs, v ≠ .agg cs := by
  intro hu cs hcs
  subst hcs
  simp only [Value.okWide, Cell.okWide, Cell.ok] at hv
  split at hu <;> simp_all
 have agg : ∀ l, zH a = l → (match P.underlying t with | some (.struct _) | some (.array _ _) => True | _ => False) → ∃ cs : Array Value, v = .agg cs ∧ cs.size = l.length ∧ ∀ (j : Nat) y c, l[j]? = some y → cs[j]? = some c → VR (E0 w) false y c := by
  intro l hl hu
  have : ∃ cs, v = .agg cs := by
   unfold Value.okWide at hv
   split at hu <;> simp_all
   ·obtain ⟨cs, h1, _⟩ := hv; exact ⟨cs, h1⟩
   ·obtain ⟨cs, h1, _⟩ := hv; exact ⟨cs, h1⟩
  obtain ⟨cs, rfl⟩ := this
  refine ⟨cs, rfl, ?_, fun j y c h1 h2 => h.vr j y c (by rw [hl]; exact h1) ?_⟩
  ·have := h.len; rw [hl] at this; simpa [Value.cells] using this.symm
  ·simpa [Value.cells] using h2
 cases ha with
 | bool hu b => exact leaf rfl (nag (by simp [hu]))
 | int hu n hn => exact leaf rfl (nag (by simp [hu]))
 | str hu s hs => exact leaf rfl (nag (by simp [hu]))
 | rints hu he l hl hw => exact leaf rfl (nag (by simp [hu]))
 | robjs hu he l hl hw => exact leaf rfl (nag (by simp [hu]))
 | @ints t n e k hu he l hl hw =>
  obtain ⟨cs, rfl, hs, hc⟩ := agg _ rfl (by simp [hu])
  have : cs = (l.map (Value.int k)).toArray := by
   apply Array.ext
   ·rw [hs]; simp [zH]
   ·intro i h1 h2
    have h3 : i < l.length := by simpa using h2
    have := hc i (.int k l[i]) cs[i] (by simp [zH, h3]) (Array.getElem?_eq_getElem h1)
    have key : ∀ {c : Value}, VR (E0 w) false (.int k l[i]) c → c = .int k l[i] := fun h => by cases h; rfl
    rw [key this]
    simp
  rw [this]
  exact .ints _ k n l hl
 | arr hu he l hl hw =>
  obtain ⟨cs, rfl, hs, hc⟩ := agg _ rfl (by simp [hu])
  exact .agg _ l cs h.fit (by rw [hs]; rfl) fun j x c h1 h2 => hc j x c (by rw [zH]; exact h1) h2
 | struct hu l hl hw =>
  obtain ⟨cs, rfl, hs, hc⟩ := agg _ rfl (by simp [hu])
  exact .agg _ l cs h.fit (by rw [hs]; rfl) fun j x c h1 h2 => hc j x c (by rw [zH]; exact h1) h2
inductive AVTs (P : Program) : List TypeId → List AV → Prop where
 | nil : AVTs P [] []
 | cons {t ts a as} (h : AVT P t a) (k : AVTs P ts as) : AVTs P (t :: ts) (a :: as)
theorem AVTs.length {P : Program} {ts : List TypeId} {as : List AV} (h : AVTs P ts as) : ts.length = as.length := by
 induction h with
 | nil => rfl
 | cons _ _ ih => simp [ih]
section
variable {H : Type} {enc : TypeId × Value → H} {P : Program} {W W' : World}
theorem zGY {T : TypeId → Bool} {r : Reach} {base : Nat} (hT : ∀ t, T t = true → zHh P T t = true) : ∀ {ts : List TypeId} {vs : List Value} {ds : List (DataW H)} {ps : List MemPlace}, (∀ t ∈ ts, T t = true) →
  (∀ (j : Nat) t v, ts[j]? = some t → vs[j]? = some v → Value.okWide P W r base t v) → DataW.TrodAll enc P W 0 (fun _ => true) true ts vs ds ps → (∀ n ∈ DataW.weightsEach P ts ds, n ≤ reachBytes) →
  ∃ as, AVTs P ts as ∧ vs.length = as.length ∧ ds.length = as.length ∧ ∀ (j : Nat) x c, as[j]? = some x → vs[j]? = some c → VR (E0 W) false x c
 | [], [], [], ps, _, _, _, _ => ⟨[], .nil, rfl, rfl, fun j x c h => by simp at h⟩
 | t :: ts, v :: vs, d :: ds, ps, ht, hv, ⟨p, q, ⟨fuel, h1⟩, h2, _⟩, hw => by
  obtain ⟨as, g1, g2, g4, g3⟩ := zGY hT (ts := ts) (fun t h => ht t (by simp [h])) (fun j t v h1 h2 => hv (j + 1) t v (by simpa using h1) (by simpa using h2)) h2 fun n hn => hw n (by simp [DataW.weightsEach, hn])
  obtain ⟨a, k1, k2, _⟩ := zFH hT fuel (ht t (by simp)) h1 fun n hn => hw n (by simp [DataW.weightsEach, hn])
  refine ⟨a :: as, .cons k1 g1, by simp [g2], by simp [g4], fun j x c hx hc => ?_⟩
  cases j with
  | zero => simp at hx hc; subst hx; subst hc; exact zLU k1 k2 (hv 0 t v rfl rfl)
  | succ j => exact g3 j x c (by simpa using hx) (by simpa using hc)
 | [], _ :: _, _, _, _, _, h, _ => by cases h
 | [], [], _ :: _, _, _, _, h, _ => by cases h
 | _ :: _, [], _, _, _, _, h, _ => by cases h
 | _ :: _, _ :: _, [], _, _, _, h, _ => by cases h
theorem zGB (hl : laidOutB P = true) (hb : Below W.heap.size W W') : ∀ {ts : List TypeId} {vs : List Value} {ds : List (DataW H)} {ps : List MemPlace}, (∀ t ∈ ts, P.readableRec t = true ∧ t < P.types.size) →
  DataW.TrodAll enc P W 0 (fun _ => true) true ts vs ds ps → DataW.TrodAll enc P W' 0 (fun b => decide (b < W.heap.size)) true ts vs ds ps
 | [], [], [], ps, _, h => h
 | t :: ts, v :: vs, d :: ds, ps, ht, ⟨p, q, h1, h2, e⟩ =>
  ⟨p, q, Below.trod hl (ht t (by simp)).1 (ht t (by simp)).2 h1 hb (by obtain ⟨m, hm⟩ := h1; exact DataW.trod_lt m _ _ _ hm), zGB hl hb (fun t h => ht t (by simp [h])) h2, e⟩
 | [], _ :: _, _, _, _, h => by cases h
 | [], [], _ :: _, _, _, h => by cases h
 | _ :: _, [], _, _, _, h => by cases h
 | _ :: _, _ :: _, [], _, _, h => by cases h
end
end Go.Abs
end
section
set_option linter.unusedVariables false
namespace Go.Abs
open Go
def InK (k : IntKind) (n : Int) : Prop := k.min ≤ n ∧ n ≤ k.max
def InA (k : IntKind) (n : Nat) (l : List Int) : Prop := l.length = n ∧ ∀ x ∈ l, InK k x
def InS (k : IntKind) (l : List Int) : Prop := l.length ≤ 140737488351232 ∧ ∀ x ∈ l, InK k x
theorem InK.of_wf {k : IntKind} {n : Int} (h : (Lit.int k n).wf = true) : InK k n := by simpa [Lit.wf, InK] using h
section
variable {P : Program} {t : TypeId} {a : AV}
theorem AVT.bool_inv (h : AVT P t a) (hu : P.underlying t = some .bool) : ∃ b, a = .bool b := by cases h <;> simp_all
theorem AVT.int_inv {k : IntKind} (h : AVT P t a) (hu : P.underlying t = some (.int k)) : ∃ n, a = .int k n ∧ InK k n := by
 cases h with
 | int hu' n hn => rw [hu] at hu'; cases hu'; exact ⟨n, rfl, .of_wf hn⟩
 | _ => simp_all
theorem AVT.ints_inv {n e : Nat} {k : IntKind} (h : AVT P t a) (hu : P.underlying t = some (.array n e)) (he : P.underlying e = some (.int k)) : ∃ l, a = .ints k n l ∧ InA k n l := by
 cases h with
 | ints hu' he' l hl hw =>
  rw [hu] at hu'
  cases hu'
  rw [he] at he'
  cases he'
  exact ⟨l, rfl, hl, fun x hx => .of_wf (hw x hx)⟩
 | arr hu' he' l hl hw => rw [hu] at hu'; cases hu'; exact absurd he (he' k)
 | _ => simp_all
theorem AVT.rints_inv {e : Nat} {k : IntKind} (h : AVT P t a) (hu : P.underlying t = some (.slice e)) (he : P.underlying e = some (.int k)) (hb : 1 ≤ P.bytesOf e) : ∃ l, a = .rints k l ∧ InS k l := by
 cases h with
 | rints hu' he' l hl hw =>
  rw [hu] at hu'
  cases hu'
  rw [he] at he'
  cases he'
  refine ⟨l, rfl, ?_, fun x hx => .of_wf (hw x hx)⟩
  have := Nat.mul_le_mul_left l.length hb
  have : reachBytes = 140737488351232 := rfl
  omega
 | robjs hu' he' l hl hw => rw [hu] at hu'; cases hu'; exact absurd he (he' k)
 | _ => simp_all
theorem AVT.robjs_inv {e w : Nat} (h : AVT P t a) (hu : P.underlying t = some (.slice e)) (he : (match P.underlying e with | some (.int _) => false | _ => true) = true) (hb : 1 ≤ P.bytesOf e) (hw : P.cellsOf e = w) : ∃ l, a = .robjs e w l ∧ l.length ≤ 140737488351232 ∧ ∀ x ∈ l, AVT P e x := by
 cases h with
 | robjs hu' he' l hl hw' =>
  rw [hu] at hu'
  cases hu'
  subst hw
  refine ⟨l, rfl, ?_, hw'⟩
  have := Nat.mul_le_mul_left l.length hb
  have : reachBytes = 140737488351232 := rfl
  omega
 | rints hu' he' l hl hw => rw [hu] at hu'; cases hu'; rw [he'] at he; cases he
 | _ => simp_all
theorem AVT.struct_inv {fs : Array Field} (h : AVT P t a) (hu : P.underlying t = some (.struct fs)) : ∃ l, a = .agg l ∧ AVTs P (fs.toList.map (·.type)) l := by
 cases h with
 | struct hu' l hl hw =>
  rw [hu] at hu'
  cases hu'
  refine ⟨l, rfl, ?_⟩
  have key : ∀ (f : List Field) (l : List AV), l.length = f.length → (∀ (i : Nat) g x, f[i]? = some g → l[i]? = some x → AVT P g.type x) → AVTs P (f.map (·.type)) l := by
   intro f
   induction f with
   | nil => intro l h _; cases l with | nil => exact .nil | cons x r => simp at h
   | cons g f ih =>
    intro l h hx
    cases l with
    | nil => simp at h
    | cons x r => exact .cons (hx 0 g x rfl rfl) (ih r (by simpa using h) fun i g' x' h1 h2 => hx (i + 1) g' x' (by simpa using h1) (by simpa using h2))
  exact key fs.toList l (by simpa using hl) fun i g x h1 h2 => hw i g x (by simpa using h1) h2
 | _ => simp_all
theorem AVTs.nil_inv {as : List AV} (h : AVTs P [] as) : as = [] := by cases h; rfl
theorem AVTs.cons_inv {t : TypeId} {ts : List TypeId} {as : List AV} (h : AVTs P (t :: ts) as) : ∃ a r, as = a :: r ∧ AVT P t a ∧ AVTs P ts r := by cases h with | cons h k => exact ⟨_, _, rfl, h, k⟩
end
theorem zKQ {l : List TypeId} {p : TypeId → Bool} (h : l.all p = true) : ∀ t, l.contains t = true → p t = true := fun t ht => List.all_eq_true.1 h t (by simpa using ht)
end Go.Abs
end
section
set_option linter.unusedVariables false
set_option linter.unusedSimpArgs false
namespace Go.Abs
open Go Go.RowKit Go.ChangeShapes Go.WideShapes
theorem zBj {H : Type} {enc : TypeId × Value → H} {P : Program} {w : World} {base : Nat} {spare : Nat → Bool} {held : Bool} {fuel : Nat} {t e : TypeId} {k : IntKind} {n : Nat} {l : List Int} {cs : List Value} {p : List MemPlace}
  (hu : P.underlying t = some (.array n e)) (he : P.underlying e = some (.int k)) (hc : P.cellsOf e = 1) (hct : P.cellsOf t = n) (hl : l.length = n)
  (h : DataW.trod enc P w base spare held fuel t cs = some (.agg (l.map fun x => .lit (.int k x)), p)) : cs = l.map (Value.int k) := by
 obtain ⟨xs, m, _, hx, hlen, hxs, hget⟩ := zFP hu h
 have h1 : xs.map (·.1) = l.map fun x => DataW.lit (.int k x) := by
  have := congrArg Prod.fst hx
  simp only [DataW.agg.injEq] at this
  exact this.symm
 refine List.ext_getElem (by rw [hlen, hct, List.length_map, hl]) fun i hi hi' => ?_
 have hin : i < n := by rw [List.length_map, hl] at hi'; exact hi'
 have hxi : xs[i]? = some (xs[i]'(by omega)) := List.getElem?_eq_getElem (by omega)
 have ht := (hget i hin).trans hxi
 obtain ⟨z, e1, e2, _⟩ := DataW.trod_int he ht
 have h2 := congrArg (·[i]?) h1
 simp only [List.getElem?_map, hxi, Option.map_some, List.getElem?_eq_getElem (show i < l.length by omega)] at h2
 rw [e2] at h2
 simp only [Option.some.injEq, DataW.lit.injEq, Lit.int.injEq, true_and] at h2
 rw [hc, Nat.mul_one] at e1
 have h3 := congrArg (·[0]?) e1
 simp only [List.getElem?_take, List.getElem?_drop, Nat.add_zero, List.getElem?_cons_zero] at h3
 rw [if_pos (by omega), List.getElem?_eq_getElem hi] at h3
 simp only [Option.some.injEq] at h3
 rw [h3, h2, List.getElem_map]
theorem zES {P : Program} {W : World} {name : String} {g : Nat} {k : IntKind} {n : Nat} {l : List Int} {cs : Array Value} (hg : P.globalNamed name = some g) (hv : W.var? P name = some cs) (hcs : cs.toList = l.map (Value.int k)) (hl : l.length = n) :
  VR (E0 W) false (.rptr (.ints k n l)) (.pointer (some ⟨g, 0, none⟩)) := by
 have cell : ∀ j, W.cell? ⟨g, j, none⟩ = (l.map (Value.int k))[j]? := fun j => by rw [World.var?_cell hg hv j, ← hcs, Array.getElem?_toList]
 refine .rptr _ _ _ (.ints _ _ _ hl) rfl (fun j => .int k (l.getD j 0)) (fun j y hy => ?_) fun j y hy => ?_
 ·have hj : j < l.length := by
   have := (List.getElem?_eq_some_iff.1 hy).1
   simpa [zH] using this
  have hc : W.cell? ⟨g, 0 + j, none⟩ = some (.int k (l.getD j 0)) := by
   rw [Nat.zero_add, cell, List.getElem?_map, List.getElem?_eq_getElem hj, List.getD_eq_getElem?_getD, List.getElem?_eq_getElem hj]
   rfl
  exact ⟨by show (W.cell? ⟨g, 0 + j, none⟩).isSome = true; rw [hc]; rfl, hc⟩
 ·simp only [zH, List.getElem?_map] at hy
  cases hj : l[j]? with
  | none => simp [hj] at hy
  | some z =>
   simp only [hj, Option.map_some, Option.some.injEq] at hy
   subst hy
   rw [List.getD_eq_getElem?_getD, hj]
   exact .int _ _ _
end Go.Abs
end
section
set_option linter.unusedVariables false
set_option linter.unusedSimpArgs false
namespace Go.Abs
open Go Go.RowKit Go.ChangeShapes Go.WideShapes
theorem zId {P : Program} {w0 : World} {laid : List (String × DataW Unit)} (args : Array Value) (hf : w0.layFits P laid [] = true) (hi : w0.layIfaces P laid (w0.layVars P laid) = true) :
  laidMet P laid ((w0.layVars P laid).forCall (fun _ _ => 0) ⟨#[], args, []⟩).memory := by
 have e1 : (laid.filter fun x => (laid.map (·.1)).contains x.1) = laid := List.filter_eq_self.2 fun x hx => List.contains_iff_mem.2 (List.mem_map.2 ⟨x, hx, rfl⟩)
 have e2 : (laid.filter fun x => !(laid.map (·.1)).contains x.1) = [] := List.filter_eq_nil_iff.2 fun x hx => by rw [List.contains_iff_mem.2 (List.mem_map.2 ⟨x, hx, rfl⟩)]; simp
 have h : laidMet P laid (w0.layVars P laid) := laidMet_layVars (w0 := w0) (laid.map (·.1)) [] (by rw [e1]) (by rw [e1]; exact hf) (by rw [e1]; exact hi) (by rw [e2]; exact LaidIn.none)
 exact h.of_heap (by simp [World.memory, World.forCall, Input.heap])
noncomputable def zLp (P : Program) (os : Os) (g : Nat) (v : Value) : World :=
 let w0 := World.holding P os ⟨#[], #[], []⟩
 { w0 with heap := w0.heap.modify g fun
   | .cells _ t frozen => .cells #[v] t frozen
   | o => o }
theorem zMy {W : World} {g : Nat} {x : AV} {v : Value} (hc : W.cell? ⟨g, 0, none⟩ = some v) (hl : (∀ kids, x ≠ .agg kids) ∧ (∀ k n l, x ≠ .ints k n l)) (hv : VR (E0 W) false x v) : VR (E0 W) false (.rptr x) (.pointer (some ⟨g, 0, none⟩)) := by
 have hf := (zAA hl).2
 refine .rptr _ _ _ (.leaf _ hl) rfl (fun _ => v) (fun j y hy => ?_) fun j y hy => ?_
 ·rw [hf] at hy
  obtain ⟨rfl, rfl⟩ : j = 0 ∧ y = x := by
   cases j with
   | zero => simp at hy; exact ⟨rfl, hy.symm⟩
   | succ j => simp at hy
  exact ⟨by show (W.cell? ⟨g, 0 + 0, none⟩).isSome = true; rw [Nat.zero_add, hc]; rfl, hc⟩
 ·rw [hf] at hy
  obtain ⟨rfl, rfl⟩ : j = 0 ∧ y = x := by
   cases j with
   | zero => simp at hy; exact ⟨rfl, hy.symm⟩
   | succ j => simp at hy
  exact hv
theorem zEP {C : Checked} {os : Os} {f : FuncId} {fn : Func} {s : ChangeSpec} {H : Type} {enc : TypeId × Value → H} {G : Nat → AV} {rt : TypeId} (laids : List (String × DataW Unit)) (T : TypeId → Bool)
  (own : ownKnob C.prog.godebug = none) (started : os.Started) (noInit : C.prog.inits.idxOf? f = none) (hfn : C.prog.funcs[f]? = some fn)
  (witness : ∃ (w : World) (tape : Tape) (i : Input), w.os = os ∧ (w.forCall tape i).Shaped C.prog ∧ i.vars = [] ∧ Input.okWide C.prog (w.forCall tape i) .any w.heap.size f i ∧
   ((s.pre enc C.prog fn [] false (w.forCall tape i).memory i.args ∧ laidMetH C.prog laids (w.forCall tape i).memory) ∧ sizedMet enc C.prog fn (OpenSpec.ofChange s) false (w.forCall tape i).memory i.args) ∧ ({} : Assume).holds C.prog (lone (Frame.enter C.prog f i.args .normal) [] (w.forCall tape i)))
  (laid : laidOutB C.prog = true) (hT : ∀ t, T t = true → zHh C.prog T t = true) (hts : ∀ t ∈ fn.params.toList, T t = true ∧ C.prog.readableRec t = true ∧ t < C.prog.types.size)
  (hvars : s.vars = []) (hspec : ∀ ds : List (DataW H), ds.length = fn.params.size → s.fn H ds = { results := [.lit (.bool true)], args := ds }) (hres : fn.resultTypes = #[rt]) (hrt : C.prog.underlying rt = some .bool)
  (hG : ∀ W, laidMetH C.prog laids W → Glob G (E0 W))
  (main : ∀ as, AVTs C.prog fn.params.toList as → FnC C.prog G f as [] (.bool true) []) :
  ReturnsInHanded {} C os f .any (fun w args => (s.pre enc C.prog fn [] false w args ∧ laidMetH C.prog laids w) ∧ sizedMet enc C.prog fn (OpenSpec.ofChange s) false w args) (s.post enc C.prog fn false true false false) := by
 refine returnsInHanded_of_change_and (X := fun w _ => laidMetH C.prog laids w) (fun _ _ _ hh h => h.of_heap hh) own started noInit hfn witness ?_
 intro W base args ds gs before hval hW _ hsz hX _
 have hW' := hW
 obtain ⟨p, q, hA, hV, rfl, hfz, hnd⟩ := hW
 rw [hvars] at hV
 obtain ⟨rfl, rfl⟩ : gs = [] ∧ q = [] := by
  cases gs with
  | nil => exact ⟨rfl, hV⟩
  | cons g gs => cases hV
 obtain ⟨as, h1, h2, h4, h3⟩ := zGY (T := T) hT (fun t ht => (hts t ht).1) (fun j t v h1 h2 => hval j t v (by simpa using h1) (by simpa using h2)) hA fun n hn => by
  have hvt : s.plain.varTypes C.prog = [] := by
   cases s
   simp only at hvars
   subst hvars
   rfl
  rw [hvt, List.append_nil, List.append_nil] at hsz
  simpa using List.all_eq_true.1 hsz n hn
 have hlen : ds.length = fn.params.size := by
  have h5 := AVTs.length h1
  rw [h4, ← h5]; simp
 refine (main as h1 (E0 W) args rfl (zOx W) (hG W hX) ⟨by simpa using h2, fun j x c hx hc => (h3 j x c hx (by simpa using hc)).lift⟩).mono fun e W' ⟨v, he, E', hw, _, gl, hv⟩ => ?_
 subst he
 subst hw
 cases hv
 have bel := zNg gl
 refine ⟨_, rfl, ds, [], _, [], p, [], hW', ?_, ?_, ?_, bel.frame _, fun h => by cases h⟩
 ·rw [List.append_nil, hspec ds hlen, hres]
  exact trodAll_mk1 (shut_bool hrt _)
 ·rw [List.append_nil, hspec ds hlen]
  exact zGB laid bel (fun t ht => (hts t ht).2) hA
 ·rw [List.append_nil, hspec ds hlen, hvars]
  rfl
end Go.Abs
end
section
set_option linter.unusedVariables false
set_option linter.unusedSimpArgs false
namespace Go.Abs
open Go
end Go.Abs
namespace Go.Abs
open Go Go.RowKit Go.ChangeShapes Go.WideShapes
theorem zET {W : World} {g tF ts : Nat} {p : Value} (hlt : g < 100) (hc : W.cell? ⟨g, 0, none⟩ = some (.iface ts p)) : VR (E0 W) false (.rptr (.errv tF ts g)) (.pointer (some ⟨g, 0, none⟩)) := by
 have hro : (E0 W).ro g 0 := by show (W.cell? ⟨g, 0, none⟩).isSome = true; rw [hc]; rfl
 refine zMy hc ⟨by simp, by simp⟩ (.errv _ _ _ _ _ ⟨?_, fun _ => ⟨hro, hc⟩⟩)
 rw [Nat.mod_eq_of_lt hlt]
 exact .base p hro hc
theorem zDy {W : World} {g ts : Nat} {a : Addr} (hc : W.cell? ⟨g, 0, none⟩ = some (.iface ts (.pointer (some a)))) (hs : a.spot = none) (hr : ∃ c t, W.heap[a.block]? = some (.cells c t (0, 0))) : zNe (E0 W) g ts := by
 obtain ⟨c, t, hh⟩ := hr
 refine ⟨a, c, t, hs, by show (W.cell? ⟨g, 0, none⟩).isSome = true; rw [hc]; rfl, hc, ?_, hh, fun o ho => ?_⟩
 ·exact (Array.getElem?_eq_some_iff.1 hh).1
 ·obtain ⟨id, blk, hb, _⟩ := ho
  have := z4 hb
  simp [E0] at this
end Go.Abs
end
section
set_option linter.unusedVariables false
namespace Go.Abs
open Go
theorem zE.pick {P : Program} {G : Nat → AV} {f : FuncId} {p : List AV → Bool} {a b : Callee} (ha : zE P G f a) (hb : zE P G f b) : zE P G f (.pick p a b) := by
 intro args lent
 by_cases h : p args = true
 ·simpa [Callee.pick, h] using ha args lent
 ·simpa [Callee.pick, h] using hb args lent
theorem zGU {E : Env} {vs : Array Value} {k1 k2 k3 : IntKind} {x y z : Int} (h : Args E [.int k1 x, .int k2 y, .int k3 z] vs) : vs = #[.int k1 x, .int k2 y, .int k3 z] := by
 have hs : vs.size = 3 := h.size
 have h0 := h.vr 0 _ vs[0] rfl (Array.getElem?_eq_getElem (by rw [hs]; simp))
 have h1 := h.vr 1 _ vs[1] rfl (Array.getElem?_eq_getElem (by rw [hs]; simp))
 have h2 := h.vr 2 _ vs[2] rfl (Array.getElem?_eq_getElem (by rw [hs]; simp))
 have key : ∀ {k : IntKind} {n : Int} {c : Value}, VR E true (.int k n) c → c = .int k n := fun h => by cases h; rfl
 apply Array.ext
 ·rw [hs]; rfl
 ·intro i hi hj
  simp at hj
  match i with
  | 0 => simpa using key h0
  | 1 => simpa using key h1
  | 2 => simpa using key h2
theorem zKy {E : Env} {k1 k2 : IntKind} {x y : Int} : VR E true (.tup [.int k1 x, .int k2 y]) (.tuple #[.int k1 x, .int k2 y]) := by
 refine .tup _ _ _ rfl fun j v c h1 h2 => ?_
 match j with
 | 0 => simp at h1 h2; subst h1; subst h2; exact .int _ _ _
 | 1 => simp at h1 h2; subst h1; subst h2; exact .int _ _ _
 | j + 2 => simp at h1
theorem zKV {P : Program} {G : Nat → AV} {f : FuncId} {fn : Func} (hf : P.funcs[f]? = some fn) (hname : (fn.name == "runtime.NumGoroutine") = false) (hb : fn.body.isNone = true)
  (hn : Extern.findNext fn = none) (he : Extern.find fn = some add64Entry) (t : Int × Int × Int) (u : Int × Int) (h : zBF t = some u) :
  zEB P G f [.int .u64 t.1, .int .u64 t.2.1, .int .u64 t.2.2] [] (.tup [.int .u64 u.1, .int .u64 u.2]) [] := by
 intro E vs hbl m g ha
 unfold zBF at h
 split at h <;> try cases h
 split at h <;> try cases h
 split at h <;> try cases h
 split at h <;> try cases h
 obtain rfl := zGU ha
 refine .inr ⟨_, _, (run_callFunc_extern hf hname hb hn he _ _).trans ?_, E, rfl, hbl, .refl m, zKy⟩
 rw [run_add64 _ _ _ (by assumption) (by assumption) (by assumption) (by assumption)]
 rfl
def zBH : Array Value → Sem Value := fun args => do
 let (x, y, b) ← Extern.MathBitsCarry.three "Sub64" args
 pure (Extern.MathBitsCarry.pair ((x + Extern.MathBitsCarry.m64 - y - b) % Extern.MathBitsCarry.m64) (if x < y + b then 1 else 0))
theorem zKZ {P : Program} (x y c : Int) (hx : 0 ≤ x) (hy : 0 ≤ y) (hy2 : y < 18446744073709551616) (hc0 : 0 ≤ c) (hc : c ≤ 1) (w : World) :
  (zBH #[.int .u64 x, .int .u64 y, .int .u64 c]).run P w =
   .ok (.tuple #[.int .u64 ((x - y - c) % 18446744073709551616), .int .u64 (if x < y + c then 1 else 0)]) w := by
 have key : ∀ k : Nat, k ≤ 1 → (zBH #[.int .u64 x, .int .u64 y, .int .u64 (k : Int)]).run P w =
   .ok (Extern.MathBitsCarry.pair ((x.toNat + Extern.MathBitsCarry.m64 - y.toNat - k) % Extern.MathBitsCarry.m64) (if x.toNat < y.toNat + k then 1 else 0)) w := by
  intro k hk
  have : k = 0 ∨ k = 1 := by omega
  rcases this with rfl | rfl <;> rfl
 obtain ⟨k, rfl⟩ := Int.eq_ofNat_of_zero_le hc0
 rw [key k (by omega)]
 obtain ⟨X, rfl⟩ := Int.eq_ofNat_of_zero_le hx
 obtain ⟨Y, rfl⟩ := Int.eq_ofNat_of_zero_le hy
 simp only [Extern.MathBitsCarry.pair, Extern.MathBitsCarry.m64, Int.toNat_natCast]
 have e1 : Int.ofNat ((X + 2 ^ 64 - Y - k) % 2 ^ 64) = ((X : Int) - Y - k) % 18446744073709551616 := by
  show (((X + 2 ^ 64 - Y - k) % 2 ^ 64 : Nat) : Int) = _
  omega
 have e2 : Int.ofNat (if X < Y + k then 1 else 0) = if (X : Int) < Y + k then 1 else 0 := by
  by_cases h : X < Y + k
  ·rw [if_pos h, if_pos (by omega)]; rfl
  ·rw [if_neg h, if_neg (by omega)]; rfl
 rw [e1, e2]
theorem zKU {P : Program} {G : Nat → AV} {f : FuncId} {fn : Func} (hf : P.funcs[f]? = some fn) (hname : (fn.name == "runtime.NumGoroutine") = false) (hb : fn.body.isNone = true)
  (hn : Extern.findNext fn = none) (he : Extern.find fn = some zBH) (t : Int × Int × Int) (u : Int × Int) (h : zBE t = some u) :
  zEB P G f [.int .u64 t.1, .int .u64 t.2.1, .int .u64 t.2.2] [] (.tup [.int .u64 u.1, .int .u64 u.2]) [] := by
 intro E vs hbl m g ha
 unfold zBE at h
 split at h <;> try cases h
 split at h <;> try cases h
 split at h <;> try cases h
 split at h <;> try cases h
 split at h <;> try cases h
 obtain rfl := zGU ha
 refine .inr ⟨_, _, (run_callFunc_extern hf hname hb hn he _ _).trans ?_, E, rfl, hbl, .refl m, zKy⟩
 rw [zKZ _ _ _ (by assumption) (by assumption) (by assumption) (by assumption) (by assumption)]
 rfl
end Go.Abs
end
