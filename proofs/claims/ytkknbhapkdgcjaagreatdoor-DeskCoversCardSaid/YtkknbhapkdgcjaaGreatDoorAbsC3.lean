/- An executor of the model's code over abstract values, and that it is right: what it tells of a run is what the run does. No condition. -/
import Derived.Test.YtkknbhapkdgcjaaGreatDoorAbsC2
import Derived.Laws.StructEq
import Derived.DeepKeys
import Derived.Deep.Upon
import Derived.Lib.AppendZerosOnto
section
set_option linter.unusedVariables false
set_option linter.unusedSimpArgs false
namespace Go.Abs
open Go
section
variable {R : Type} {C : Ctx}
theorem zAu : ∀ {p : List Nat} {v x : AV} {q : Nat} (i : Nat), zM v p = some x → zL v p = some q → zL v (p ++ [i]) = (zL x [i]).map (q + ·)
 | [], v, x, q, i, hg, ho => by simp [zM] at hg; simp [zL] at ho; subst hg; subst ho; simp
 | a :: p, .agg kids, x, q, i, hg, ho => by
  simp only [zM] at hg
  simp only [zL, List.cons_append] at ho ⊢
  split at hg
  ·rename_i y hy
   simp only [hy] at ho ⊢
   cases hq : zL y p with
   | none => simp [hq] at ho
   | some q' =>
    simp [hq] at ho
    rw [zAu i hg hq]
    cases zL x [i] <;> simp; omega
  ·cases hg
 | [a], .ints k n l, x, q, i, hg, ho => by
  simp [zM] at hg; subst hg
  simp [zL]
 | a :: b :: p, .ints k n l, x, q, i, hg, ho => by simp [zM] at hg
 | a :: p, .any, x, _, _, h, _ | a :: p, .bool _, x, _, _, h, _ | a :: p, .int _ _, x, _, _, h, _ | a :: p, .str _, x, _, _, h, _ | a :: p, .nilp, x, _, _, h, _ | a :: p, .ptr _ _, x, _, _, h, _ | a :: p, .aptr _ _ _ _, x, _, _, h, _
 | a :: p, .rptr _, x, _, _, h, _ | a :: p, .snil, x, _, _, h, _ | a :: p, .slice _ _ _ _ _, x, _, _, h, _ | a :: p, .own _ _, x, _, _, h, _ | a :: p, .rints _ _, x, _, _, h, _ | a :: p, .robjs _ _ _, x, _, _, h, _ | a :: p, .tup _, x, _, _, h, _
 | a :: p, .fn _ _ _, x, _, _, h, _ | a :: p, .nilf, x, _, _, h, _ | a :: p, .iface _ _, x, _, _, h, _ | a :: p, .nili, x, _, _, h, _ | a :: p, .raw _, x, _, _, h, _ | a :: p, .errv _ _ _, x, _, _, h, _ | a :: p, .rmap _, x, _, _, h, _ => by simp [zM] at h
theorem zEI {blk : Blk} {p : List Nat} {x : AV} {q i q' : Nat} (hg : zCB blk p = some x) (ho : yS blk p = some q) (hx : zL x [i] = some q') : yS blk (p ++ [i]) = some (q + q') := by
 cases blk with
 | free => simp [yS] at ho
 | mp l => simp [yS] at ho
 | var v => simp only [yS, zCB] at hg ho ⊢; rw [zAu i hg ho, hx]; rfl
 | ints k l =>
  cases p with
  | nil => simp [zCB] at hg
  | cons a p => cases p with
   | nil => simp [zCB] at hg; subst hg; simp [zL] at hx
   | cons => simp [zCB] at hg
 | objs e w l =>
  cases p with
  | nil => simp [zCB] at hg
  | cons a p =>
   simp only [zCB] at hg
   simp only [yS, List.cons_append] at ho ⊢
   cases hz : l[a]? with
   | none => simp [hz] at ho
   | some z =>
    simp only [hz] at ho ⊢
    have : l.getD a .any = z := by simp [hz]
    rw [this] at hg
    cases hq : zL z p with
    | none => simp [hq] at ho
    | some q0 =>
     simp [hq] at ho
     rw [zAu i hg hq, hx]
     simp; omega
theorem zCo {P : Program} {a : Addr} {f : Field} {d : TypeDesc} (hu : P.underlying f.type = some d) (h : zP P f.type ≠ 0) (w : World) : (fieldPlace a f).run P w = .ok (a.add f.offset) w := by
 simp [fieldPlace, yW hu, h]
theorem zEZ {t : TypeId} {x : AV} {f : Nat} {bl : zC} {K : z9 R} {r : R} (h : qK C t x f bl K = some r) :
  ∃ cat v, KS (R := R) (qK C t x f) bl cat v bl ∧ cat ≠ .write ∧ ∀ E, (E.bl = bl ∨ cat = .pure) → Mem E → ∀ a, VR E true x a → ∃ v', (Instr.fieldAt t a f).run C.P E.w = .ok v' E.w ∧ VR E true v v' := by
 unfold qK at h
 split at h
 ·rename_i kids
  split at h <;> (try (cases h; done))
  rename_i y fs hy hu
  split at h <;> (try (cases h; done))
  rename_i a ha
  split at h <;> (try (cases h; done))
  rename_i hc
  refine ⟨.pure, .rptr y, .ofPure fun bl K => by simp only [qK, hy, hu, ha, if_pos hc], by simp, fun E hE m p hp => ?_⟩
  simp only [Bool.and_eq_true, decide_eq_true_eq] at hc
  obtain ⟨m', kids', _, hk, hget⟩ := qE hc.1 hu
  cases hk
  obtain ⟨y', g1, g2, g3, g4⟩ := hget f a ha
  rw [hy] at g1; cases g1
  obtain ⟨d, hud, _⟩ := yU g4
  cases hp with
  | rptr _ _ p hf hs vv hh hv =>
   obtain ⟨pb, po, ps⟩ := p
   simp at hs; subst hs
   have hin : ∀ (j : Nat) z, (zH y)[j]? = some z → (zH (.agg kids))[a.offset + j]? = some z := fun j z hz => by
    simp only [zH]
    rw [kJ hy, g2, List.getElem?_append_right (by rw [kU fun x hx => hf.kid (List.mem_of_mem_take hx)]; omega),
     kU fun x hx => hf.kid (List.mem_of_mem_take hx), Nat.add_sub_cancel_left, List.getElem?_append_left (List.getElem?_eq_some_iff.1 hz).1]
    exact hz
   refine ⟨.pointer (some ⟨pb, po + a.offset, none⟩), by simp [Instr.fieldAt, run_underlying hu, ha, Instr.sureAddr, zCo hud hc.2, Addr.add_mid], ?_⟩
   exact .rptr _ _ _ (hf.kid (List.mem_of_getElem? hy)) rfl (fun j => vv (a.offset + j)) (fun j z hz => by simp only [Nat.add_assoc]; exact hh _ z (hin j z hz)) fun j z hz => hv _ z (hin j z hz)
 ·rename_i id path
  split at h <;> (try (cases h; done))
  rename_i b hb
  split at h <;> (try (cases h; done))
  rename_i fs hu
  split at h <;> (try (cases h; done))
  rename_i a ha
  obtain ⟨y, hk, x, hy, sim⟩ := zDC h
  rw [hk] at h
  split at h <;> (try (cases h; done))
  rename_i hc
  refine ⟨.read, .ptr id (path ++ [f]), .ofRead fun K => by simp only [qK, hb, hu, ha]; rw [hk, if_pos hc], by simp, fun E hE m p hp => ?_⟩
  rcases hE with rfl | hE
  ·simp only [Bool.and_eq_true, decide_eq_true_eq] at hc
   obtain ⟨m', kids, _, hk, hget⟩ := qE hc.1 hu
   subst hk
   obtain ⟨z, g1, g2, g3, g4⟩ := hget f a ha
   obtain ⟨d, hud, _⟩ := yU g4
   obtain ⟨q, hq, rfl⟩ := hp.loc_ptr hb
   refine ⟨.pointer (some ⟨(E.loc id).1, (E.loc id).2.1 + q + a.offset, none⟩), by simp [Instr.fieldAt, run_underlying hu, ha, Instr.sureAddr, zCo hud hc.2, Addr.add_mid], ?_⟩
   refine .ptr _ _ _ (z4 hb) fun blk hb' => ?_
   rw [hb] at hb'; cases hb'
   have ho : zL x [f] = some (zX (kids.take f)) := by rw [← sim.off]; simp [zL, g1]
   exact ⟨rfl, q + zX (kids.take f), zEI hy hq ho, rfl, by simp [g2]; omega⟩
  ·cases hE
 ·cases h
end
end Go.Abs
end
section
set_option linter.unusedVariables false
set_option linter.unusedSimpArgs false
namespace Go.Abs
open Go
section
variable {R : Type} {C : Ctx}
theorem zDJ {P : Program} {e : TypeId} {w : Nat} (h : qF P e w = true) : zP P e = w ∧ w ≠ 0 := by
 simp only [qF, Bool.and_eq_true, beq_iff_eq, bne_iff_ne] at h; exact h.1
theorem zCU {P : Program} {e : TypeId} {w : Nat} (h : qF P e w = true) : ∃ i z, P.info? e = some i ∧ i.zero = some z ∧ i.size = w ∧ zAR P e = i.bytes ∧ z.cells.size = i.size := by
 have h1 := (zDJ h).1
 simp only [qF, Bool.and_eq_true] at h
 have h2 := h.2
 split at h2
 ·rename_i i hi
  split at h2
  ·rename_i z hz
   exact ⟨i, z, hi, hz, by simpa [zP, hi] using h1, by simp [zAR, hi], by simpa using h2⟩
  ·cases h2
 ·cases h2
theorem qD {P : Program} {e : TypeId} {wd : Nat} (h : qF P e wd = true) (w : World) : (sizeOf e).run P w = .ok wd w := by
 obtain ⟨h1, h2⟩ := zDJ h
 unfold zP at h1
 split at h1
 ·rename_i i hi
  simp [sizeOf, typeInfo, hi, h1]
 ·omega
theorem zIO {blk : Blk} {p : List Nat} {q w c i : Nat} (h : zZ blk p = some (q, w, c)) (hi : i < c) : yS blk (p ++ [i]) = some (q + i * w) := by
 cases blk with
 | free => simp [zZ] at h
 | mp l => simp [zZ] at h; omega
 | var v =>
  have h' := h
  simp only [zZ] at h
  split at h
  ·rename_i k n l q' hg ho
   obtain ⟨h1, rfl, rfl⟩ := zDP hg h'
   rw [h1] at ho; cases ho
   simp only [yS]
   rw [zAu i hg h1]
   simp [zL, hi]
  ·cases h
 | ints k l =>
  cases p with
  | nil => simp [zZ] at h; obtain ⟨rfl, rfl, rfl⟩ := h; simp [yS, hi]
  | cons => simp [zZ] at h
 | objs e w' l =>
  cases p with
  | nil => simp [zZ] at h; obtain ⟨rfl, rfl, rfl⟩ := h; simp [yS, List.getElem?_eq_getElem hi, zL]
  | cons => simp [zZ] at h
theorem qV {P : Program} {t e : TypeId} {ad : Addr} {len cap : Nat} {k : IntKind} {i : Int} {wd : Nat} (hu : P.underlying t = some (.slice e)) (hs : qF P e wd = true) (h0 : 0 ≤ i) (h1 : i < len) (w : World) :
  (Instr.indexAt t (.slice (some ad) len cap) (.int k i)).run P w = .ok (.pointer (some (ad.add (i.toNat * wd)))) w := by
 simp [Instr.indexAt, asIntOf, run_underlying hu, h0, h1, qD hs]
theorem qW {P : Program} {t e : TypeId} {ad : Addr} {n : Nat} {k : IntKind} {i : Int} {wd : Nat} (hu : P.underlying t = some (.array n e)) (hs : ∀ w, (sizeOf e).run P w = .ok wd w) (h0 : 0 ≤ i) (h1 : i < n) (w : World) :
  (Instr.indexAt t (.pointer (some ad)) (.int k i)).run P w = .ok (.pointer (some (ad.add (i.toNat * wd)))) w := by
 simp [Instr.indexAt, asIntOf, run_underlying hu, Instr.sureAddr, h0, h1, hs]
theorem zER {t : TypeId} {x ix : AV} {bl : zC} {K : z9 R} {r : R} (h : yT C t x ix bl K = some r) :
  ∃ cat v, KS (R := R) (yT C t x ix) bl cat v bl ∧ cat ≠ .write ∧ ∀ E, (E.bl = bl ∨ cat = .pure) → Mem E → ∀ a i', VR E true x a → VR E true ix i' → ∃ v', (Instr.indexAt t a i').run C.P E.w = .ok v' E.w ∧ VR E true v v' := by
 unfold yT at h
 split at h <;> (try (cases h; done))
 rename_i ik i
 split at h <;> (try (cases h; done))
 ·rename_i e k l hu
  split at h <;> (try (cases h; done))
  rename_i hs
  split at h <;> (try (cases h; done))
  rename_i h0
  split at h <;> (try (cases h; done))
  rename_i h1
  refine ⟨.pure, .rptr (.int k (l.getD i.toNat 0)), .ofPure fun bl K => by simp only [yT, hu, hs, h0, h1, if_true], by simp, fun E hE m a i' ha hi => ?_⟩
  cases hi
  cases ha with
  | rints _ _ _ a cap hc hh =>
   have hin : i.toNat < l.length := by omega
   obtain ⟨ad, rfl, g1, g2, g3⟩ := hh i.toNat hin
   obtain ⟨ab, ao, as⟩ := ad
   simp at g1 g2 g3; subst g1
   refine ⟨_, qV hu hs h0 (by simpa using h1) E.w, ?_⟩
   rw [Addr.add_mid, Nat.mul_one]
   exact .rptr _ _ _ (.leaf _ ⟨by simp, by simp⟩) rfl (fun _ => .int k (l.getD i.toNat 0)) (fun j y hy => by
    cases j with
    | zero => exact ⟨g2, by simpa using g3⟩
    | succ j => simp [zH] at hy) fun j y hy => by
    cases j with
    | zero => simp [zH] at hy; subst hy; simp; exact .int _ _ _
    | succ j => simp [zH] at hy
 ·rename_i e e' wd l hu
  split at h <;> (try (cases h; done))
  rename_i hs
  split at h <;> (try (cases h; done))
  rename_i h0
  split at h <;> (try (cases h; done))
  rename_i h1
  obtain ⟨y, hd, hsim⟩ := zAP h
  have hsame := hsim.same
  refine ⟨.pure, .rptr y, .ofPure fun bl K => by simp only [yT, hu, hs, h0, h1, if_true]; rw [hd], by simp, fun E hE m a i' ha hi => ?_⟩
  cases hi
  cases ha with
  | robjs _ _ _ _ a cap hc hw vv hne hh hv =>
   have hin : i.toNat < l.length := by omega
   have hx := List.getElem?_eq_getElem hin
   have hgd : l.getD i.toNat .any = l[i.toNat] := by simp [hx]
   rw [hgd] at hsame
   obtain ⟨ad, rfl, g1⟩ := hne (fun e => by subst e; simp at hin)
   obtain ⟨ab, ao, as⟩ := ad
   simp at g1; subst g1
   refine ⟨_, qV hu hs h0 (by simpa using h1) E.w, ?_⟩
   rw [Addr.add_mid]
   have hzz : ∀ (j : Nat) z', (zH y)[j]? = some z' → ∃ z, (zH l[i.toNat])[j]? = some z := fun j z' hz' => by
    have hj := (List.getElem?_eq_some_iff.1 hz').1
    exact ⟨_, List.getElem?_eq_getElem (by rw [← hsame.len]; exact hj)⟩
   refine .rptr _ _ _ (hsame.fit (hw _ (List.getElem_mem hin)).1.1) rfl (fun j => vv i.toNat j) (fun j z' hz' => ?_) fun j z' hz' => ?_
   ·obtain ⟨z, hz⟩ := hzz j z' hz'
    exact hh _ i.toNat _ j z rfl hx hz
   ·obtain ⟨z, hz⟩ := hzz j z' hz'
    exact hsame.vr j z z' hz hz' E false _ (hv i.toNat _ j z hx hz)
 ·rename_i e id wd hu
  split at h <;> (try (cases h; done))
  rename_i hs
  split at h <;> (try (cases h; done))
  all_goals
   rename_i hb
   split at h <;> (try (cases h; done))
   rename_i h0
   split at h <;> (try (cases h; done))
   rename_i h1
   refine ⟨.read, .ptr id [i.toNat], .ofRead fun K => by simp only [yT, hu, hs, hb, h0, h1, if_true], by simp, fun E hE m a i' ha hi => ?_⟩
   rcases hE with rfl | hE
   ·cases hi
    cases ha with
    | mown _ r hid hh => have g := (hh _ hb).1; simp [zZ] at g
    | own _ _ len a cap hid hc hh =>
     obtain ⟨g1, g2, g3⟩ := hh _ hb
     have g1' := g1
     simp [zZ] at g1
     have hlen : i < (len : Int) := by rw [← g1.2]; exact h1
     have hw := g1.1
     rcases g3 with rfl | rfl
     ·omega
     ·refine ⟨_, qV hu hs h0 hlen E.w, ?_⟩
      rw [Addr.add_mid]
      refine .ptr _ _ _ hid fun blk hb' => ?_
      rw [hb] at hb'; cases hb'
      exact ⟨rfl, i.toNat * wd, by have := zIO g1' (i := i.toNat) (by omega); simpa using this, rfl, rfl⟩
   ·cases hE
 ·rename_i e id p st len wd hu
  split at h <;> (try (cases h; done))
  rename_i hs
  split at h <;> (try (cases h; done))
  rename_i h0
  split at h <;> (try (cases h; done))
  rename_i h1
  refine ⟨.pure, .ptr id (p ++ [st + i.toNat]), .ofPure fun bl K => by simp only [yT, hu, hs, h0, h1, if_true], by simp, fun E hE m a i' ha hi => ?_⟩
  cases hi
  cases ha with
  | slice _ _ _ _ _ a cap hid hc hsm hh =>
   rcases hsm with rfl | ⟨ad, rfl⟩
   ·omega
   ·refine ⟨_, qV hu hs h0 h1 E.w, ?_⟩
    refine .ptr _ _ _ hid fun blk hb => ?_
    obtain ⟨q, c, g1, g2, g3, g4⟩ := hh blk hb
    rcases g4 with rfl | g4
    ·omega
    ·cases g4
     rw [Addr.add_mid]
     exact ⟨rfl, q + (st + i.toNat) * wd, zIO g1 (by omega), rfl, by simp [Nat.add_mul]; omega⟩
 ·rename_i n e k m' l hu
  split at h <;> (try (cases h; done))
  rename_i hs
  split at h <;> (try (cases h; done))
  rename_i h0
  split at h <;> (try (cases h; done))
  rename_i h1
  refine ⟨.pure, .rptr (.int k (l.getD i.toNat 0)), .ofPure fun bl K => by simp only [yT, hu, hs, h0, h1, if_true], by simp, fun E hE m a i' ha hi => ?_⟩
  simp only [Bool.and_eq_true, beq_iff_eq] at hs
  obtain ⟨rfl, hs⟩ := hs
  cases hi
  cases ha with
  | rptr _ _ a hf hsp vv hh hv =>
   have hl := hf.len
   have hin : i.toNat < l.length := by omega
   obtain ⟨ab, ao, as⟩ := a
   simp at hsp; subst hsp
   have hz : (zH (.ints k m' l))[i.toNat]? = some (.int k l[i.toNat]) := by simp [zH, List.getElem?_eq_getElem hin]
   refine ⟨_, qW hu (qD hs) h0 h1 E.w, ?_⟩
   rw [Addr.add_mid, Nat.mul_one]
   have e : l.getD i.toNat 0 = l[i.toNat] := by simp [List.getElem?_eq_getElem hin]
   rw [e]
   exact .rptr _ _ _ (.leaf _ ⟨by simp, by simp⟩) rfl (fun j => vv (i.toNat + j)) (fun j y hy => by
    cases j with
    | zero => exact hh _ _ hz
    | succ j => simp [zH] at hy) fun j y hy => by
    cases j with
    | zero => simp [zH] at hy; subst hy; exact hv _ _ hz
    | succ j => simp [zH] at hy
 ·rename_i n e kids hu
  split at h <;> (try (cases h; done))
  rename_i hs
  split at h <;> (try (cases h; done))
  rename_i h0
  split at h <;> (try (cases h; done))
  rename_i h1
  refine ⟨.pure, .rptr (kids.getD i.toNat .any), .ofPure fun bl K => by simp only [yT, hu, hs, h0, h1, if_true], by simp, fun E hE m a i' ha hi => ?_⟩
  simp only [Bool.and_eq_true, beq_iff_eq] at hs
  cases hi
  rcases kZ hs.2 hu with ⟨_, _, e1, _⟩ | ⟨kids', n', _, e1, e2, e3⟩
  ·cases e1
  cases e1
  have hin : i.toNat < kids.length := by omega
  have hy := List.getElem?_eq_getElem hin
  have hd : kids.getD i.toNat .any = kids[i.toNat] := by simp [hy]
  rw [hd]
  obtain ⟨c1, c2⟩ := e3 _ (List.getElem_mem hin)
  obtain ⟨d, hue, _⟩ := yU c1
  cases ha with
  | rptr _ _ a hf hsp vv hh hv =>
   obtain ⟨ab, ao, as⟩ := a
   simp at hsp; subst hsp
   have hin' : ∀ (j : Nat) z, (zH kids[i.toNat])[j]? = some z → (zH (.agg kids))[i.toNat * zP C.P e + j]? = some z := fun j z hz => by
    simp only [zH]
    rw [kJ hy, ← k8 (fun y hy => (e3 y hy).2) _ (Nat.le_of_lt hin), List.getElem?_append_right (by rw [kU fun x hx => hf.kid (List.mem_of_mem_take hx)]; omega),
     kU fun x hx => hf.kid (List.mem_of_mem_take hx), Nat.add_sub_cancel_left, List.getElem?_append_left (List.getElem?_eq_some_iff.1 hz).1]
    exact hz
   refine ⟨_, qW hu (fun w => yW hue w) h0 h1 E.w, ?_⟩
   rw [Addr.add_mid]
   exact .rptr _ _ _ (hf.kid (List.getElem_mem hin)) rfl (fun j => vv (i.toNat * zP C.P e + j)) (fun j z hz => by simp only [Nat.add_assoc]; exact hh _ z (hin' j z hz)) fun j z hz => hv _ z (hin' j z hz)
 ·rename_i n e id p hu
  split at h <;> (try (cases h; done))
  rename_i b hb
  obtain ⟨y, hk, x, hy, sim⟩ := zDC h
  rw [hk] at h
  split at h <;> (try (cases h; done))
  rename_i hc
  split at h <;> (try (cases h; done))
  rename_i h0
  split at h <;> (try (cases h; done))
  rename_i h1
  refine ⟨.read, .ptr id (p ++ [i.toNat]), .ofRead fun K => by simp only [yT, hu, hb]; rw [hk]; simp only [hc, h0, h1, if_true], by simp, fun E hE m a i' ha hi => ?_⟩
  rcases hE with rfl | hE
  ·cases hi
   obtain ⟨q, hq, rfl⟩ := ha.loc_ptr hb
   rcases kZ hc hu with ⟨k, l, e1, e2, e3⟩ | ⟨kids, n', _, e1, e2, e3⟩
   ·subst e1
    have hue := qI e2
    refine ⟨_, qW hu (fun w => yW hue w) h0 h1 E.w, ?_⟩
    rw [Addr.add_mid, e3, Nat.mul_one]
    refine .ptr _ _ _ (z4 hb) fun blk hb' => ?_
    rw [hb] at hb'; cases hb'
    exact ⟨rfl, q + i.toNat, zEI hy hq (by rw [← sim.off]; simp [zL]; omega), rfl, by simp; omega⟩
   ·subst e1
    have hin : i.toNat < kids.length := by omega
    obtain ⟨c1, c2⟩ := e3 _ (List.getElem_mem hin)
    obtain ⟨d, hue, _⟩ := yU c1
    refine ⟨_, qW hu (fun w => yW hue w) h0 h1 E.w, ?_⟩
    rw [Addr.add_mid]
    refine .ptr _ _ _ (z4 hb) fun blk hb' => ?_
    rw [hb] at hb'; cases hb'
    exact ⟨rfl, q + i.toNat * zP C.P e, zEI hy hq (by rw [← sim.off]; simp [zL, List.getElem?_eq_getElem hin, k8 (fun y hy => (e3 y hy).2) _ (Nat.le_of_lt hin)]), rfl, by simp; omega⟩
  ·cases hE
end
end Go.Abs
end
section
set_option linter.unusedVariables false
set_option linter.unusedSimpArgs false
namespace Go.Abs
open Go
section
variable {R : Type} {C : Ctx}
theorem zDD {α : Type} (r : List α) (l : Nat) (h : Option Nat) (h1 : l ≤ h.getD r.length) (h2 : h.getD r.length ≤ r.length) : (cut r l h).length = h.getD r.length - l := by
 cases h with
 | none => simp [cut]
 | some h => simp [cut] at h2 ⊢; omega
theorem zHL (n l : Nat) (h : Option Nat) : span n l h = h.getD n - l := by cases h <;> rfl
theorem zFK {α : Type} (r : List α) (l : Nat) (h : Option Nat) (i : Nat) (x : α) (hx : (cut r l h)[i]? = some x) : r[l + i]? = some x := by
 cases h with
 | none => simpa [cut] using hx
 | some h =>
  simp only [cut, List.getElem?_take, List.getElem?_drop] at hx
  split at hx
  ·exact hx
  ·cases hx
theorem zJt {α : Type} (r : List α) (l : Nat) (h : Option Nat) (d : α) (i : Nat) (hi : i < (cut r l h).length) : (cut r l h).getD i d = r.getD (l + i) d := by
 have h1 := List.getElem?_eq_getElem hi
 have h2 := zFK r l h i _ h1
 simp [List.getD_eq_getElem?_getD, h1, h2]
theorem yI {x : Option AV} {x' : Option Value} {E : Env} (h : (x = none ∧ x' = none) ∨ ∃ y v, x = some y ∧ x' = some v ∧ VR E true y v) :
  (∀ z, x = some z → ∃ v, x' = some v ∧ VR E true z v) ∧ (x = none → x' = none) := by
 rcases h with ⟨rfl, rfl⟩ | ⟨y, v, rfl, rfl, h⟩
 ·exact ⟨fun z hz => by simp at hz, fun _ => rfl⟩
 ·exact ⟨fun z hz => by cases hz; exact ⟨v, rfl, h⟩, fun h => by simp at h⟩
def OptR (E : Env) (x : Option AV) (x' : Option Value) : Prop := (x = none ∧ x' = none) ∨ ∃ y v, x = some y ∧ x' = some v ∧ VR E true y v
theorem qQ {P : Program} {t e : TypeId} {a : Option Addr} {len cap l h wd : Nat} {lo hi : Option Value} (hu : P.underlying t = some (.slice e)) (hs : qF P e wd = true) {w : World}
  (hb : (Instr.sliceBounds true len cap lo hi none).run P w = .ok (l, h, cap) w) :
  (Instr.sliceAt t (.slice a len cap) lo hi none).run P w = .ok (.slice (if cap = l then a else a.map (·.add (l * wd))) (h - l) (cap - l)) w := by
 simp [Instr.sliceAt, Instr.slice, run_underlying hu, hb, qD hs]
theorem zCd {P : Program} {t e n : Nat} {a : Addr} {l h wd : Nat} {lo hi : Option Value} (hu : P.underlying t = some (.array n e)) (hs : qF P e wd = true) {w : World}
  (hb : (Instr.sliceBounds false n n lo hi none).run P w = .ok (l, h, n) w) :
  (Instr.sliceAt t (.pointer (some a)) lo hi none).run P w = .ok (.slice (some (if n = l then a else a.add (l * wd))) (h - l) (n - l)) w := by
 simp [Instr.sliceAt, run_underlying hu, Instr.sureAddr, hb, qD hs]
theorem zIC {E : Env} {o : Bool} {k : IntKind} {r' r : List Int} {b off l : Nat} {a : Option Addr} {cap : Nat} (hc : r'.length ≤ cap)
  (hget : ∀ i, i < r'.length → r'.getD i 0 = r.getD (l + i) 0 ∧ l + i < r.length)
  (ha : r' ≠ [] → a = some ⟨b, off + l, none⟩) (h : ∀ i, i < r.length → E.ro b (off + i) ∧ E.cell b (off + i) = some (.int k (r.getD i 0))) :
  VR E o (.rints k r') (.slice a r'.length cap) := by
 refine .rints o k r' a cap hc fun i hi => ?_
 obtain ⟨h1, h2⟩ := hget i hi
 obtain ⟨g1, g2⟩ := h (l + i) h2
 refine ⟨_, ha (fun e => by subst e; simp at hi), rfl, ?_, ?_⟩
 ·simp only; rw [Nat.add_assoc]; exact g1
 ·simp only; rw [Nat.add_assoc, h1]; exact g2
theorem zHN {t : TypeId} {x : AV} {lo hi : Option AV} {bl : zC} {K : z9 R} {r : R} (h : jW C t x lo hi bl K = some r) :
  ∃ cat v, KS (R := R) (jW C t x lo hi) bl cat v bl ∧ cat ≠ .write ∧ ∀ E, (E.bl = bl ∨ cat = .pure) → Mem E → ∀ a lo' hi', VR E true x a → OptR E lo lo' → OptR E hi hi' →
   ∃ v', (Instr.sliceAt t a lo' hi' none).run C.P E.w = .ok v' E.w ∧ VR E true v v' := by
 unfold jW at h
 split at h <;> (try (cases h; done))
 ·rename_i s hu
  obtain ⟨l, h', hd, b1, b2, hb⟩ := kK h
  refine ⟨.pure, .str (s.extract l (h'.getD s.size)), .ofPure fun bl K => by simp only [jW, hu]; rw [hd], by simp, fun E hE m a lo' hi' ha hl hh => ?_⟩
  cases ha
  obtain ⟨l1, l2⟩ := yI hl
  obtain ⟨h1, h2⟩ := yI hh
  have := hb C.P E lo' hi' l1 h1 l2 h2 E.w false s.size (Nat.le_refl _)
  exact ⟨_, by simp [Instr.sliceAt, Instr.slice, run_underlying hu, this], .str _ _⟩
 ·rename_i e hu
  split at h <;> (try (cases h; done))
  rename_i hs
  obtain ⟨l, h', hd, b1, b2, hb⟩ := kK h
  refine ⟨.pure, .snil, .ofPure fun bl K => by simp only [jW, hu, hs, if_true]; rw [hd], by simp, fun E hE m a lo' hi' ha hl hh => ?_⟩
  cases ha
  obtain ⟨l1, l2⟩ := yI hl
  obtain ⟨h1, h2⟩ := yI hh
  have := hb C.P E lo' hi' l1 h1 l2 h2 E.w true 0 (Nat.le_refl _)
  have hl0 : l = 0 := by omega
  have hh0 : h'.getD 0 = 0 := by omega
  refine ⟨_, qQ hu hs this, ?_⟩
  rw [hl0, hh0]
  exact .snil _
 ·rename_i e k r0 hu
  split at h <;> (try (cases h; done))
  rename_i hs
  obtain ⟨l, h', hd, b1, b2, hb⟩ := kK h
  refine ⟨.pure, .rints k (cut r0 l h'), .ofPure fun bl K => by simp only [jW, hu, hs, if_true]; rw [hd], by simp, fun E hE m a lo' hi' ha hl hh => ?_⟩
  cases ha with
  | rints _ _ _ a cap hc hr =>
   obtain ⟨l1, l2⟩ := yI hl
   obtain ⟨h1, h2⟩ := yI hh
   have := hb C.P E lo' hi' l1 h1 l2 h2 E.w true cap hc
   have hlen := zDD r0 l h' b1 b2
   refine ⟨_, qQ hu hs this, ?_⟩
   rw [← hlen]
   refine .rints _ _ _ _ _ (by omega) fun i hi => ?_
   obtain ⟨ad, rfl, g1, g2, g3⟩ := hr (l + i) (by omega)
   obtain ⟨ab, ao, as⟩ := ad
   simp at g1 g2 g3; subst g1
   refine ⟨⟨ab, ao + l, none⟩, ?_, rfl, by simp only [Nat.add_assoc]; exact g2, by simp only [Nat.add_assoc]; rw [zJt _ _ _ _ _ hi]; simpa using g3⟩
   rw [if_neg (by omega)]
   simp [Addr.add_mid]
 ·rename_i e e' wd r0 hu
  split at h <;> (try (cases h; done))
  rename_i hs
  obtain ⟨l, h', hd, b1, b2, hb⟩ := kK h
  refine ⟨.pure, .robjs e' wd (cut r0 l h'), .ofPure fun bl K => by simp only [jW, hu, hs, if_true]; rw [hd], by simp, fun E hE m a lo' hi' ha hl hh => ?_⟩
  cases ha with
  | robjs _ _ _ _ a cap hc hw vv hne hr hv =>
   obtain ⟨l1, l2⟩ := yI hl
   obtain ⟨h1, h2⟩ := yI hh
   have := hb C.P E lo' hi' l1 h1 l2 h2 E.w true cap hc
   have hlen := zDD r0 l h' b1 b2
   refine ⟨_, qQ hu hs this, ?_⟩
   rw [← hlen]
   have hnel : cut r0 l h' ≠ [] → r0 ≠ [] ∧ cap ≠ l := fun hne' => by
    have := List.length_pos_iff.2 hne'
    have hr0 : 0 < r0.length := by omega
    exact ⟨fun e => by rw [e] at hr0; simp at hr0, by omega⟩
   refine .robjs _ _ _ _ _ _ (by omega) (fun x hx => ?_) (fun i j => vv (l + i) j) (fun hne' => ?_) (fun ad i x j y had hx hy => ?_) fun i x j y hx hy => hv (l + i) x j y (zFK _ _ _ _ _ hx) hy
   ·obtain ⟨i, hi⟩ := List.mem_iff_getElem?.1 hx
    exact hw x (List.mem_of_getElem? (zFK _ _ _ _ _ hi))
   ·obtain ⟨n1, n2⟩ := hnel hne'
    obtain ⟨ad, rfl, g1⟩ := hne n1
    obtain ⟨ab, ao, as⟩ := ad
    simp at g1; subst g1
    exact ⟨⟨ab, ao + l * wd, none⟩, by rw [if_neg n2]; simp [Addr.add_mid], rfl⟩
   ·obtain ⟨n1, n2⟩ := hnel (fun e => by rw [e] at hx; simp at hx)
    obtain ⟨ad0, rfl, g1⟩ := hne n1
    obtain ⟨ab, ao, as⟩ := ad0
    simp at g1; subst g1
    rw [if_neg n2] at had
    simp [Addr.add_mid] at had
    subst had
    have := hr _ (l + i) x j y rfl (zFK _ _ _ _ _ hx) hy
    simp only at this ⊢
    rw [show ao + l * wd + i * wd + j = ao + (l + i) * wd + j from by rw [Nat.add_mul]; omega]
    exact this
 ·rename_i e id p st len wd hu
  split at h <;> (try (cases h; done))
  rename_i hs
  obtain ⟨l, h', hd, b1, b2, hb⟩ := kK h
  refine ⟨.pure, .slice id p (st + l) (span len l h') wd, .ofPure fun bl K => by simp only [jW, hu, hs, if_true]; rw [hd], by simp, fun E hE m a lo' hi' ha hl hh => ?_⟩
  cases ha with
  | slice _ _ _ _ _ a cap hid hc hsm hr =>
   obtain ⟨l1, l2⟩ := yI hl
   obtain ⟨h1, h2⟩ := yI hh
   have := hb C.P E lo' hi' l1 h1 l2 h2 E.w true cap hc
   refine ⟨_, qQ hu hs this, ?_⟩
   rw [zHL]
   refine .slice _ _ _ _ _ _ _ hid (by omega) ?_ fun blk hb => ?_
   ·rcases hsm with rfl | ⟨ad, rfl⟩
    ·exact .inl (by omega)
    ·refine .inr ?_
     split
     ·exact ⟨_, rfl⟩
     ·exact ⟨_, rfl⟩
   ·obtain ⟨q, c, g1, g2, g3, g4⟩ := hr blk hb
    refine ⟨q, c, g1, by omega, ?_, ?_⟩
    ·have : (st + l + (cap - l)) * wd ≤ (st + cap) * wd := Nat.mul_le_mul_right _ (by omega)
     omega
    ·by_cases hcl : cap = l
     ·exact .inl (by omega)
     ·rw [if_neg hcl]
      rcases g4 with rfl | rfl
      ·omega
      ·refine .inr ?_
       simp [Addr.add_mid, Nat.add_mul]
       omega
 ·rename_i e id wd hu
  split at h <;> (try (cases h; done))
  rename_i hs
  split at h <;> (try (cases h; done))
  all_goals
   rename_i rl hb0
   obtain ⟨l, h', hd, b1, b2, hb⟩ := kK h
   refine ⟨.read, zFG id wd rl.length l h', .ofRead fun K => by simp only [jW, hu, hs, hb0, if_true]; rw [hd], by simp, fun E hE m a lo' hi' ha hl hh => ?_⟩
   rcases hE with rfl | hE
   ·cases ha with
    | mown _ r hid hr => have g := (hr _ hb0).1; simp [zZ] at g
    | own _ _ len a cap hid hc hr =>
     obtain ⟨g1, g2, g3⟩ := hr _ hb0
     have g1' := g1
     simp [zZ] at g1
     obtain ⟨g0, rfl⟩ := g1
     obtain ⟨l1, l2⟩ := yI hl
     obtain ⟨h1, h2⟩ := yI hh
     have := hb C.P E lo' hi' l1 h1 l2 h2 E.w true cap hc
     refine ⟨_, qQ hu hs this, ?_⟩
     have hgen : VR E true (.slice id [] l (span rl.length l h') wd) (.slice (if cap = l then a else a.map (·.add (l * wd))) (h'.getD rl.length - l) (cap - l)) := by
      rw [zHL]
      refine .slice _ _ _ _ _ _ _ hid (by omega) ?_ fun blk hb => ?_
      ·rcases g3 with rfl | rfl
       ·exact .inl (by omega)
       ·refine .inr ?_
        split <;> exact ⟨_, rfl⟩
      ·rw [hb0] at hb; cases hb
       refine ⟨0, _, g1', by omega, ?_, ?_⟩
       ·have : (l + (cap - l)) * wd ≤ cap * wd := Nat.mul_le_mul_right _ (by omega)
        omega
       ·by_cases hcl : cap = l
        ·exact .inl (by omega)
        ·rw [if_neg hcl]
         rcases g3 with rfl | rfl
         ·omega
         ·refine .inr ?_
          simp [Addr.add_mid]
     unfold zFG
     split
     ·exact hgen
     ·split
      ·simp only [Option.getD_none, Nat.sub_zero, Nat.zero_mul]
       refine .own _ _ _ _ _ hid (by omega) fun blk hb => ?_
       rw [hb0] at hb; cases hb
       refine ⟨g1', by omega, ?_⟩
       rcases g3 with rfl | rfl
       ·exact .inl rfl
       ·refine .inr ?_
        split
        ·rfl
        ·simp [Addr.add_mid]
      ·exact hgen
   ·cases hE
 ·rename_i n e k m' r0 hu
  split at h <;> (try (cases h; done))
  rename_i hs
  obtain ⟨l, h', hd, b1, b2, hb⟩ := kK h
  refine ⟨.pure, .rints k (cut r0 l h'), .ofPure fun bl K => by simp only [jW, hu, hs, if_true]; rw [hd], by simp, fun E hE m a lo' hi' ha hl hh => ?_⟩
  simp only [Bool.and_eq_true, beq_iff_eq] at hs
  obtain ⟨rfl, hs⟩ := hs
  cases ha with
  | rptr _ _ a hf hsp vv hr hv =>
   have hln := hf.len
   subst hln
   obtain ⟨ab, ao, as⟩ := a
   simp at hsp; subst hsp
   obtain ⟨l1, l2⟩ := yI hl
   obtain ⟨h1, h2⟩ := yI hh
   have := hb C.P E lo' hi' l1 h1 l2 h2 E.w false r0.length (Nat.le_refl _)
   have hlen := zDD r0 l h' b1 b2
   refine ⟨_, zCd hu hs this, ?_⟩
   rw [← hlen]
   refine zIC (r := r0) (l := l) (b := ab) (off := ao) (by omega) (fun i hi => ⟨zJt _ _ _ _ _ hi, by omega⟩) (fun hne => ?_) fun i hi => ?_
   ·have := List.length_pos_iff.2 hne
    rw [if_neg (by omega), Addr.add_mid, Nat.mul_one]
   ·have hz : (zH (.ints k r0.length r0))[i]? = some (.int k r0[i]) := by simp [zH, List.getElem?_eq_getElem hi]
    obtain ⟨g1, g2⟩ := hr i _ hz
    refine ⟨g1, ?_⟩
    simp only at g2
    rw [g2, (hv i _ hz).int_inv]
    simp [List.getElem?_eq_getElem hi]
 ·rename_i n e id p hu
  split at h <;> (try (cases h; done))
  rename_i v hb0
  split at h <;> (try (cases h; done))
  rename_i k m' r0 hg
  split at h <;> (try (cases h; done))
  rename_i hs
  obtain ⟨l, h', hd, b1, b2, hb⟩ := kK h
  refine ⟨.read, .slice id p l (span n l h') 1, .ofRead fun K => by simp only [jW, hu, hb0, hg, hs, if_true]; rw [hd], by simp, fun E hE m a lo' hi' ha hl hh => ?_⟩
  rcases hE with rfl | hE
  ·simp only [Bool.and_eq_true, beq_iff_eq] at hs
   obtain ⟨rfl, hs⟩ := hs
   obtain ⟨q, hq, rfl⟩ := ha.loc_ptr hb0
   obtain ⟨l1, l2⟩ := yI hl
   obtain ⟨h1, h2⟩ := yI hh
   have := hb C.P E lo' hi' l1 h1 l2 h2 E.w false m' (Nat.le_refl _)
   refine ⟨_, zCd hu hs this, ?_⟩
   rw [zHL]
   have ok := m.ok id _ hb0
   have hoff : zL v p = some q := hq
   obtain ⟨hfx, pre, post, hfl, hpre⟩ := kI ok.fit hg hoff
   have hlen0 := hfx.len
   have hext := ok.len
   simp only [zJ, hfl, zH, List.length_append, List.length_map] at hext
   refine .slice _ _ _ _ _ _ _ (z4 hb0) (by omega) (.inr ⟨_, rfl⟩) fun blk hb => ?_
   rw [hb0] at hb; cases hb
   refine ⟨q, m', by simp [zZ, hg, hoff], by omega, by omega, ?_⟩
   by_cases hcl : m' = l
   ·exact .inl (by omega)
   ·rw [if_neg hcl]
    exact .inr (by simp [Addr.add_mid])
  ·cases hE
end
end Go.Abs
end
section
set_option linter.unusedVariables false
set_option linter.unusedSimpArgs false
namespace Go.Abs
open Go
section
variable {R : Type} {C : Ctx}
theorem zAL : ∀ {l : List AV}, kA l = true → ∀ y ∈ l, zR y = true
 | [], _, y, hy => by simp at hy
 | a :: l, hl, y, hy => by
  simp [kA] at hl
  rcases List.mem_cons.1 hy with rfl | hy
  ·exact hl.1
  ·exact zAL hl.2 y hy
mutual
theorem kY : ∀ {x : AV}, zR x = true → ∀ y ∈ zH x, zR y = true
 | .agg kids, h, y, hy => by simp only [zR] at h; simp only [zH] at hy; exact zFr h y hy
 | .ints k n l, h, y, hy => by
  simp only [zH, List.mem_map] at hy
  obtain ⟨m, _, rfl⟩ := hy
  rfl
 | .any, h, y, hy | .tup _, h, y, hy | .bool _, h, y, hy | .int _ _, h, y, hy | .str _, h, y, hy | .nilp, h, y, hy | .ptr _ _, h, y, hy | .aptr _ _ _ _, h, y, hy | .rptr _, h, y, hy | .snil, h, y, hy | .slice _ _ _ _ _, h, y, hy | .own _ _, h, y, hy
 | .rints _ _, h, y, hy | .robjs _ _ _, h, y, hy | .fn _ _ _, h, y, hy | .nilf, h, y, hy | .iface _ _, h, y, hy | .nili, h, y, hy | .raw _, h, y, hy | .errv _ _ _, h, y, hy | .rmap _, h, y, hy => by simp [zH] at hy; subst hy; exact h
theorem zFr : ∀ {l : List AV}, kA l = true → ∀ y ∈ zG l, zR y = true
 | [], h, y, hy => by simp [zG] at hy
 | x :: r, h, y, hy => by
  simp [kA] at h
  simp only [zG, List.mem_append] at hy
  rcases hy with hy | hy
  ·exact kY h.1 y hy
  ·exact zFr h.2 y hy
end
theorem VR.low {E : Env} {b : Bool} {x : AV} {v : Value} (h : VR E b x v) : zR x = true → VR E false x v := by
 induction h with
 | any => exact fun _ => .any _ _
 | bool => exact fun _ => .bool _ _
 | int => exact fun _ => .int _ _ _
 | str => exact fun _ => .str _ _
 | nilp => exact fun _ => .nilp _
 | ptr => intro h; simp [zR] at h
 | aptr => intro h; simp [zR] at h
 | rptr o x a hf hs vv h hv ih => exact fun _ => .rptr _ x a hf hs vv h hv
 | snil => exact fun _ => .snil _
 | slice => intro h; simp [zR] at h
 | own => intro h; simp [zR] at h
 | rints o k l a cap hc h => exact fun _ => .rints _ k l a cap hc h
 | robjs o e w l a cap hc hw vv ha h hv ih => exact fun _ => .robjs _ e w l a cap hc hw vv ha h hv
 | agg o kids cs hf hs h ih =>
  intro hn
  simp only [zR] at hn
  refine .agg _ kids cs hf hs fun j x c h1 h2 => ih j x c h1 h2 ?_
  obtain ⟨y, hy, hm⟩ := zHn (List.mem_of_getElem? h1)
  exact kY (zAL hn y hy) x hm
 | ints o k n l h => exact fun _ => .ints _ k n l h
 | tup o vs cs hs h ih =>
  intro hn
  simp only [zR] at hn
  refine .tup _ vs cs hs fun j x c h1 h2 => ih j x c h1 h2 (zAL hn x (List.mem_of_getElem? h1))
 | fn o f xs ys as bs h1 h2 g1 g2 i1 i2 =>
  intro hn
  simp only [zR, Bool.and_eq_true] at hn
  exact .fn _ f xs ys as bs h1 h2 (fun j x c h1 h2 => i1 j x c h1 h2 (zAL hn.1 x (List.mem_of_getElem? h1))) (fun j x c h1 h2 => i2 j x c h1 h2 (zAL hn.2 x (List.mem_of_getElem? h1)))
 | nilf => exact fun _ => .nilf _
 | iface o t x v h ih => intro hn; simp only [zR] at hn; exact .iface _ t x v (ih hn)
 | nili => exact fun _ => .nili _
 | raw o v h1 h2 => exact fun _ => .raw _ _ h1 h2
 | errv o tF ts k v h => exact fun _ => .errv _ _ _ _ _ h
 | rmap o l r es c hr hh hs hst hl hk hv => exact fun _ => .rmap _ l r es c hr hh hs hst hl hk hv
 | mown => exact fun h => by simp [zR] at h
theorem zBn {P : Program} (w : World) (b o n : Nat) (cs : List Value) (hn : cs.length = n) (h : ∀ (j : Nat) v, cs[j]? = some v → w.cell? ⟨b, o + j, none⟩ = some v) :
  (loadCells ⟨b, o, none⟩ n).run P w = .ok cs.toArray w := by
 subst hn
 exact run_loadCells_list (P := P) w ⟨b, o, none⟩ cs fun j v hv => by rw [Addr.add_mid]; exact h j v hv
structure IntsAt (E : Env) (k : IntKind) (l : List Int) (v : Value) : Prop where
 len : ∀ (P : Program) w, (Builtin.lenOf v).run P w = .ok l.length w
 cells : ∀ (P : Program) (W : World), (∀ a, W.cell? a = E.w.cell? a) → ∀ m, m ≤ l.length → (Builtin.firstCells 1 m v).run P W = .ok ((l.take m).map (Value.int k)).toArray W
theorem wA {E : Env} {k : IntKind} {l : List Int} {a : Option Addr} {n cap b o : Nat} (hn : n = l.length) (ha : l ≠ [] → a = some ⟨b, o, none⟩)
  (h : ∀ i, i < l.length → E.cell b (o + i) = some (.int k (l.getD i 0))) : IntsAt E k l (.slice a n cap) := by
 subst hn
 refine ⟨fun P w => rfl, fun P W hW m hm => ?_⟩
 cases a with
 | none =>
  have : l = [] := by
   by_cases e : l = []
   ·exact e
   ·exact absurd (ha e) (by simp)
  subst this
  simp [Builtin.firstCells]
 | some ad =>
  simp only [Builtin.firstCells, Nat.mul_one]
  rcases Nat.eq_zero_or_pos m with rfl | hp
  ·simp [loadCells, loadCellsFrom]
  ·have hne : l ≠ [] := fun e => by subst e; simp at hm; omega
   cases ha hne
   refine zBn W b o m _ (by simp; omega) fun j v hv => ?_
   rw [hW]
   simp only [List.getElem?_map, List.getElem?_take] at hv
   split at hv
   ·rename_i hj
    have hjl : j < l.length := by omega
    simp [List.getElem?_eq_getElem hjl] at hv
    subst hv
    have := h j hjl
    simp [List.getElem?_eq_getElem hjl] at this
    exact this
   ·simp at hv
theorem wV (l : List Int) (s n i : Nat) (hi : i < ((l.drop s).take n).length) : ((l.drop s).take n).getD i 0 = l.getD (s + i) 0 ∧ s + i < l.length := by
 simp at hi
 have h1 : s + i < l.length := by omega
 have hin : i < n := by omega
 refine ⟨?_, h1⟩
 simp [List.getD_eq_getElem?_getD, List.getElem?_take, List.getElem?_drop, if_pos hin]
theorem jH {bl : zC} {x : AV} {k : IntKind} {l : List Int} (h : wE bl x = some (.ints k l)) {E : Env} (hE : E.bl = bl ∨ zR x = true) (m : Mem E) {v : Value} (hv : VR E true x v) : IntsAt E k l v := by
 unfold wE at h
 split at h
 ·rename_i s
  cases h
  cases hv
  refine ⟨fun P w => by simp [Builtin.lenOf, bytesOf], fun P W hW n hn => ?_⟩
  have hm : n ≤ s.size := by simpa [bytesOf] using hn
  have he : (s.extract 0 n).data = s.data.extract 0 n := by simp
  simp only [Builtin.firstCells, he, Sem.run_pure]
  congr 1
  apply Array.ext'
  simp [bytesOf]
  rfl
 ·cases h
  cases hv with
  | rints _ _ _ a cap hc hh =>
   by_cases hl : l = []
   ·subst hl
    exact wA (b := 0) (o := 0) rfl (fun h => absurd rfl h) fun i hi => by simp at hi
   ·obtain ⟨ad, rfl, g1, _⟩ := hh 0 (List.length_pos_iff.2 hl)
    obtain ⟨ab, ao, as⟩ := ad
    simp at g1; subst g1
    refine wA (b := ab) (o := ao) rfl (fun _ => rfl) fun i hi => ?_
    obtain ⟨ad, e, _, _, g⟩ := hh i hi
    cases e
    exact g
 ·cases h
 ·rename_i id w
  rcases hE with rfl | hE
  ·split at h
   ·rename_i k' l' hb
    cases h
    cases hv with
    | mown _ r hid hh => have g := (hh _ hb).1; simp [zZ] at g
    | own _ _ len a cap hid hc hh =>
     obtain ⟨g1, g2, g3⟩ := hh _ hb
     simp [zZ] at g1
     obtain ⟨_, rfl⟩ := g1
     have ok := m.ok id _ hb
     refine wA (b := (E.loc id).1) (o := (E.loc id).2.1) rfl (fun hne => ?_) fun i hi => ?_
     ·rcases g3 with rfl | rfl
      ·have := List.length_pos_iff.2 hne; omega
      ·rfl
     ·obtain ⟨v, h1, h2⟩ := ok.cells i (.int k (l.getD i 0)) (by simp [zJ, List.getElem?_eq_getElem hi])
      rw [h1, h2.int_inv]
   ·cases h
   ·cases h
  ·simp [zR] at hE
 ·rename_i id path s n w
  rcases hE with rfl | hE
  ·split at h
   ·rename_i _ _ k' l' hb
    cases h
    cases hv with
    | slice _ _ _ _ _ a cap hid hc hsm hh =>
     obtain ⟨q, c, g1, g2, g3, g4⟩ := hh _ hb
     simp [zZ] at g1
     obtain ⟨rfl, rfl, rfl⟩ := g1
     have ok := m.ok id _ hb
     refine wA (b := (E.loc id).1) (o := (E.loc id).2.1 + s) (by simp; omega) (fun hne => ?_) fun i hi => ?_
     ·rcases g4 with rfl | rfl
      ·have := List.length_pos_iff.2 hne; simp at this; omega
      ·simp
     ·obtain ⟨e1, e2⟩ := wV l' s n i hi
      obtain ⟨v, h1, h2⟩ := ok.cells (s + i) (.int k (l'.getD (s + i) 0)) (by simp [zJ, List.getElem?_eq_getElem e2])
      rw [Nat.add_assoc, h1, h2.int_inv, e1]
   ·cases h
   ·rename_i path _ _ v0 hb
    split at h
    ·rename_i k' n' l' hg
     cases h
     cases hv with
     | slice _ _ _ _ _ a cap hid hc hsm hh =>
      obtain ⟨q, c, g1, g2, g3, g4⟩ := hh _ hb
      obtain ⟨ho, rfl, rfl⟩ := zDP hg g1
      have ok := m.ok id _ hb
      obtain ⟨f1, f2⟩ := zBu (blk := .var v0) ok.fit hg ho
      have hln := f1.len
      refine wA (b := (E.loc id).1) (o := (E.loc id).2.1 + q + s) (by simp; omega) (fun hne => ?_) fun i hi => ?_
      ·rcases g4 with rfl | rfl
       ·have := List.length_pos_iff.2 hne; simp at this; omega
       ·simp
      ·obtain ⟨e1, e2⟩ := wV l' s n i hi
       obtain ⟨v, h1, h2⟩ := ok.cells (q + (s + i)) (.int k (l'.getD (s + i) 0)) (f2 (s + i) _ (by simp [zH, List.getElem?_eq_getElem e2]))
       rw [Nat.add_assoc, Nat.add_assoc, h1, h2.int_inv, e1]
    ·cases h
   ·cases h
  ·simp [zR] at hE
 ·cases h
end
end Go.Abs
end
section
set_option linter.unusedVariables false
set_option linter.unusedSimpArgs false
namespace Go.Abs
open Go
section
variable {R : Type} {C : Ctx}
theorem zKn {t : TypeId} {x : AV} {bl : zC} {K : z9 R} {r : R} (h : zLA C t x bl K = some r) :
  ∃ v, KS (R := R) (zLA C t x) bl .pure v bl ∧ ∀ E : Env, ∀ a (ts : Array TypeId) ty, ts[0]? = some t → VR E true x a → ∃ v', (Builtin.cap_ ts ty #[a]).run C.P E.w = .ok v' E.w ∧ VR E true v v' := by
 unfold zLA at h
 split at h <;> (try (cases h; done))
 rename_i e hu
 exact ⟨.int .i64 0, .ofPure fun bl K => by simp only [zLA, hu], fun E a ts ty hts ha => ⟨_, by cases ha; simp [Builtin.cap_, hts, run_underlying hu, goInt], .int _ _ _⟩⟩
theorem zKe {t : TypeId} {x : AV} {bl : zC} {K : z9 R} {r : R} (h : zEf C t x bl K = some r) :
  ∃ cat v, KS (R := R) (zEf C t x) bl cat v bl ∧ cat ≠ .write ∧ ∀ E, (E.bl = bl ∨ cat = .pure) → Mem E → ∀ a (ts : Array TypeId) ty, ts[0]? = some t → VR E true x a → ∃ v', (Builtin.len_ ts ty #[a]).run C.P E.w = .ok v' E.w ∧ VR E true v v' := by
 unfold zEf at h
 split at h <;> (try (cases h; done))
 ·rename_i s hu
  exact ⟨.pure, .int .i64 s.size, .ofPure fun bl K => by simp only [zEf, hu], by simp, fun E hE m a ts ty hts ha => ⟨_, by cases ha; simp [Builtin.len_, hts, run_underlying hu, goInt], .int _ _ _⟩⟩
 ·rename_i e hu
  exact ⟨.pure, .int .i64 0, .ofPure fun bl K => by simp only [zEf, hu], by simp, fun E hE m a ts ty hts ha => ⟨_, by cases ha; simp [Builtin.len_, hts, run_underlying hu, goInt], .int _ _ _⟩⟩
 ·rename_i e k l hu
  exact ⟨.pure, .int .i64 l.length, .ofPure fun bl K => by simp only [zEf, hu], by simp, fun E hE m a ts ty hts ha => ⟨_, by cases ha; simp [Builtin.len_, hts, run_underlying hu, goInt], .int _ _ _⟩⟩
 ·rename_i e e' w l hu
  exact ⟨.pure, .int .i64 l.length, .ofPure fun bl K => by simp only [zEf, hu], by simp, fun E hE m a ts ty hts ha => ⟨_, by cases ha; simp [Builtin.len_, hts, run_underlying hu, goInt], .int _ _ _⟩⟩
 ·rename_i e i1 i2 i3 n i4 hu
  exact ⟨.pure, .int .i64 n, .ofPure fun bl K => by simp only [zEf, hu], by simp, fun E hE m a ts ty hts ha => ⟨_, by cases ha; simp [Builtin.len_, hts, run_underlying hu, goInt], .int _ _ _⟩⟩
 ·rename_i e id w hu
  split at h <;> (try (cases h; done))
  all_goals
   rename_i l hb
   refine ⟨.read, .int .i64 l.length, .ofRead fun K => by simp only [zEf, hu, hb], by simp, fun E hE m a ts ty hts ha => ?_⟩
   rcases hE with rfl | hE
   ·cases ha with
    | mown _ r hid hh => have g := (hh _ hb).1; simp [zZ] at g
    | own _ _ len a cap hid hc hh =>
     obtain ⟨g1, _⟩ := hh _ hb
     simp [zZ] at g1
     exact ⟨_, by simp [Builtin.len_, hts, run_underlying hu, goInt]; rfl, by rw [g1.2]; exact .int _ _ _⟩
   ·cases hE
 ·rename_i x n e hu
  refine ⟨.pure, .int .i64 n, .ofPure fun bl K => by simp only [zEf, hu], by simp, fun E hE m a ts ty hts ha => ⟨.int .i64 n, ?_, .int _ _ _⟩⟩
  simp [Builtin.len_, hts, run_underlying hu, goInt]
theorem zFF {t : TypeId} {x : AV} {bl : zC} {K : z9 R} {r : R} (h : qS C t x bl K = some r) :
  ∃ cat v, KS (R := R) (qS C t x) bl cat v bl ∧ cat ≠ .write ∧ ∀ E, (E.bl = bl ∨ cat = .pure) → Mem E → ∀ a, VR E true x a → ∃ v', (Instr.arrayAt t a).run C.P E.w = .ok v' E.w ∧ VR E true v v' := by
 unfold qS at h
 split at h <;> (try (cases h; done))
 ·rename_i n e k l hu
  split at h <;> (try (cases h; done))
  rename_i hn
  split at h <;> (try (cases h; done))
  rename_i hn0
  refine ⟨.pure, .rptr (.ints k n (l.take n)), .ofPure fun bl K => by simp only [qS, hu, hn, if_true]; exact if_pos hn0, by simp, fun E hE m a ha => ?_⟩
  cases ha with
  | rints _ _ _ a cap hc hh =>
   obtain ⟨ad, rfl, g1, _⟩ := hh 0 (by omega)
   obtain ⟨ab, ao, as⟩ := ad
   simp at g1; subst g1
   have hh' : ∀ i, i < l.length → E.ro ab (ao + i) ∧ E.cell ab (ao + i) = some (.int k (l.getD i 0)) := fun i hi => by
    obtain ⟨ad, e, _, g2, g3⟩ := hh i hi
    cases e
    exact ⟨g2, g3⟩
   refine ⟨.pointer (some ⟨ab, ao, none⟩), by simp [Instr.arrayAt, run_underlying hu, Nat.not_lt.2 hn], ?_⟩
   have hz : ∀ (j : Nat) y, (zH (.ints k n (l.take n)))[j]? = some y → j < l.length ∧ y = .int k (l.getD j 0) := fun j y hy => by
    simp only [zH, List.getElem?_map, List.getElem?_take] at hy
    split at hy
    ·rename_i hj
     have hjl : j < l.length := by omega
     simp [List.getElem?_eq_getElem hjl] at hy
     exact ⟨hjl, by simp [List.getElem?_eq_getElem hjl, hy]⟩
    ·simp at hy
   exact .rptr _ _ _ (.ints _ _ _ (by simp; omega)) rfl (fun j => .int k (l.getD j 0)) (fun j y hy => by
    obtain ⟨h1, rfl⟩ := hz j y hy
    exact hh' j h1) fun j y hy => by
    obtain ⟨h1, rfl⟩ := hz j y hy
    exact .int _ _ _
 ·rename_i n e id p s len w hu
  split at h <;> (try (cases h; done))
  rename_i hw
  split at h <;> (try (cases h; done))
  rename_i hn
  split at h <;> (try (cases h; done))
  rename_i hn0
  subst hw
  refine ⟨.pure, .aptr id p s n, .ofPure fun bl K => by simp only [qS, hu, hn, if_true]; exact if_pos hn0, by simp, fun E hE m a ha => ?_⟩
  cases ha with
  | slice _ _ _ _ _ a cap hid hc hsm hh =>
   rcases hsm with rfl | ⟨ad, rfl⟩
   ·omega
   ·refine ⟨.pointer (some ad), by simp [Instr.arrayAt, run_underlying hu, Nat.not_lt.2 hn], ?_⟩
    refine .aptr _ _ _ _ _ hid fun blk hb => ?_
    obtain ⟨q, c, g1, g2, g3, g4⟩ := hh blk hb
    rcases g4 with rfl | g4
    ·omega
    ·cases g4
     exact ⟨rfl, q, 1, c, g1, rfl, by omega, rfl, by simp⟩
 ·rename_i n e id w hu
  split at h <;> (try (cases h; done))
  rename_i hw
  subst hw
  split at h <;> (try (cases h; done))
  rename_i k l hb
  split at h <;> (try (cases h; done))
  rename_i hn
  split at h <;> (try (cases h; done))
  rename_i hn0
  refine ⟨.read, .aptr id [] 0 n, .ofRead fun K => by simp only [qS, hu, hb, hn, if_true]; exact if_pos hn0, by simp, fun E hE m a ha => ?_⟩
  rcases hE with rfl | hE
  ·cases ha with
   | own _ _ len a cap hid hc hh =>
    obtain ⟨g1, g2, g3⟩ := hh _ hb
    simp [zZ] at g1
    subst g1
    rcases g3 with rfl | rfl
    ·omega
    ·refine ⟨.pointer (some ⟨(E.loc id).1, (E.loc id).2.1, none⟩), by simp [Instr.arrayAt, run_underlying hu, Nat.not_lt.2 hn], ?_⟩
     refine .aptr _ _ _ _ _ hid fun blk hb' => ?_
     rw [hb] at hb'; cases hb'
     exact ⟨rfl, 0, 1, l.length, rfl, rfl, by omega, rfl, by simp⟩
  ·cases hE
theorem zJQ (k : List Int) (b : ByteArray) : k.foldl (fun s n => s.push (UInt8.ofNat n.toNat)) b = ⟨b.data ++ (k.map fun n => UInt8.ofNat n.toNat).toArray⟩ := by
 induction k generalizing b with
 | nil => simp
 | cons n r ih =>
  rw [List.foldl_cons, ih]
  congr 1
  apply Array.ext'
  simp [ByteArray.push]
end
end Go.Abs
end
section
set_option linter.unusedVariables false
set_option linter.unusedSimpArgs false
namespace Go.Abs
open Go
section
variable {R : Type} {C : Ctx}
def Out (E : Env) (P : Program) (cat : Cat) (v : AV) (bl' : zC) (m : Sem Value) : Prop :=
 ∃ v' E', m.run P E.w = .ok v' E'.w ∧ (E'.bl = if cat = .pure then E.bl else bl') ∧ Go E E' ∧ VR E' true v v'
theorem Out.same {E : Env} {P : Program} {cat : Cat} {v : AV} {bl' : zC} {m : Sem Value} (hm : Mem E) (hb : E.bl = bl' ∨ cat = .pure)
  (h : ∃ v', m.run P E.w = .ok v' E.w ∧ VR E true v v') : Out E P cat v bl' m := by
 obtain ⟨v', h1, h2⟩ := h
 refine ⟨v', E, h1, ?_, .refl hm, h2⟩
 split
 ·rfl
 ·rcases hb with hb | hb
  ·exact hb
  ·contradiction
theorem j8 {P : Program} {E : Env} {l : List Int} {a : Option Addr} {n c : Nat} (h : IntsAt E .u8 l (.slice a n c)) :
  (Conv.bytesToString (.slice a n c)).run P E.w = .ok (.string (strOf l)) E.w := by
 have hn : n = l.length := by
  have := h.len P E.w
  simpa [Builtin.lenOf] using this
 subst hn
 have hc := h.cells P E.w (fun _ => rfl) l.length (Nat.le_refl _)
 cases a with
 | none =>
  simp [Builtin.firstCells] at hc
  subst hc
  rfl
 | some ad =>
  simp only [Builtin.firstCells, Nat.mul_one, List.take_length] at hc
  rw [run_bytesToString E.w ad l.length c l hc, zJQ]
  congr 2
  unfold strOf
  congr 1
  apply Array.ext'
  simp
theorem zFi {E : Env} {bl : zC} {x : AV} {k : IntKind} {l : List Int} (h : wE bl x = some (.ints k l)) (hs : ∀ s, x ≠ .str s) (hE : E.bl = bl) {v : Value} (hv : VR E true x v) : ∃ a n c, v = .slice a n c := by
 subst hE
 unfold wE at h
 split at h
 ·exact absurd rfl (hs _)
 ·cases hv; exact ⟨_, _, _, rfl⟩
 ·cases hv; exact ⟨_, _, _, rfl⟩
 ·cases hv with
  | own => exact ⟨_, _, _, rfl⟩
  | mown _ r hid hh =>
   split at h <;> (try (cases h; done))
   all_goals (rename_i hb; have g := (hh _ hb).1; simp [zZ] at g)
 ·cases hv; exact ⟨_, _, _, rfl⟩
 ·cases h
theorem zCK {s d : TypeId} {x : AV} {bl : zC} {K : z9 R} {r : R} (hx : ∀ t, x ≠ .str t) (h : zAQ C s d x bl K = some r) :
  ∃ v, KS (R := R) (zAQ C s d x) bl .read v bl ∧ ∀ E, E.bl = bl → Mem E → ∀ a, VR E true x a → Out E C.P .read v bl (convert s d a) := by
 unfold zAQ at h
 split at h <;> (try (cases h; done))
 rename_i e hs hd
 split at h <;> (try (cases h; done))
 rename_i hk
 have he := qI hk
 split at h <;> (try (cases h; done))
 rename_i k l hl
 split at h <;> (try (cases h; done))
 rename_i hk8
 subst hk8
 refine ⟨.str (strOf l), .ofRead fun K => by simp only [zAQ, hs, hd, hl, if_pos hk, if_true], fun E hE m a ha => .same m (.inl hE) ⟨.string (strOf l), ?_, .str _ _⟩⟩
 obtain ⟨a', n, c, rfl⟩ := zFi hl hx hE ha
 rw [run_convert_bytes_string E.w s d e a' n c hs he hd]
 exact j8 (jH hl (.inl hE) m ha)
theorem zJw {s d : TypeId} {x : AV} {bl : zC} {K : z9 R} {r : R} (h : zAZ C s d x bl K = some r) :
  ∃ cat v bl', KS (R := R) (zAZ C s d x) bl cat v bl' ∧ ∀ E, (E.bl = bl ∨ cat = .pure) → Mem E → ∀ a, VR E true x a → Out E C.P cat v bl' (convert s d a) := by
 unfold zAZ at h
 split at h <;> (try (cases h; done))
 ·rename_i ik n
  split at h <;> (try (cases h; done))
  rename_i d1 k hs hd
  refine ⟨.pure, .int k (k.wrap n), bl, .ofPure fun bl K => by simp only [zAZ, hs, hd], fun E hE m a ha => .same m hE ⟨.int k (k.wrap n), ?_, .int _ _ _⟩⟩
  cases ha
  simp [convert, run_underlying hs, run_underlying hd, Conv.intToInt]
 ·rename_i st
  split at h <;> (try (cases h; done))
  ·rename_i hs hd
   refine ⟨.pure, .str st, bl, .ofPure fun bl K => by simp only [zAZ, hs, hd], fun E hE m a ha => .same m hE ⟨.string st, ?_, .str _ _⟩⟩
   cases ha
   simp [convert, run_underlying hs, run_underlying hd]
  ·rename_i e hs hd
   split at h <;> (try (cases h; done))
   rename_i hk
   refine ⟨.write, .own bl.length 1, bl ++ [some (.ints .u8 (bytesOf st))], .ofWrite fun K => by simp only [zAZ, hs, hd, if_pos hk], fun E hE m a ha => ?_⟩
   rcases hE with rfl | hE
   ·simp only [Bool.and_eq_true, decide_eq_true_eq] at hk
    have he := qI hk.1
    cases ha
    have hrun := run_bytes_of_string (P := C.P) E.w s d e st hs hd he
    generalize hg : grownCap E.w st.size 0 e = g at hrun
    have hgle : st.size ≤ g := by rw [← hg]; exact grownCap_ge _ _ _ _
    have hsz : (bytesRow st g).size = g := by
     simp only [bytesRow, Array.size_append, Array.size_map, Array.size_replicate]
     have : st.data.size = st.size := rfl
     omega
    rw [hsz] at hrun
    have go1 := Go.drew m
    have go2 := Go.new go1.mem (bytesRow st g) e g (.ints .u8 (bytesOf st)) (g, g + 1) (fun j hj => by simp; omega) trivial (by simp [zJ, bytesOf]; exact hgle) (by rw [hsz]; exact Nat.le_refl _) (fun j x v hx hv => by
     simp only [zJ, bytesOf, List.getElem?_map] at hx
     cases hb : st.data.toList[j]? with
     | none => simp [hb] at hx
     | some b =>
      simp [hb] at hx
      subst hx
      have hj : j < st.data.size := by have := (List.getElem?_eq_some_iff.1 hb).1; simpa using this
      rw [bytesRow_at st g j hj] at hv
      have : st.data[j] = b := by
       have := List.getElem?_eq_some_iff.1 hb
       simpa using this.2
      rw [this] at hv
      cases hv
      exact .int _ _ _)
    refine ⟨_, _, hrun, rfl, go1.trans go2, ?_⟩
    have hbn : zF (E.drew.new (bytesRow st g) e g (.ints .u8 (bytesOf st)) (g, g + 1)).bl E.bl.length = some (.ints .u8 (bytesOf st)) := kO
    have hln : (E.drew.new (bytesRow st g) e g (.ints .u8 (bytesOf st)) (g, g + 1)).loc E.bl.length = (E.w.heap.size, 0, g) := by simp [Env.new, Env.drew]
    refine .own _ _ _ _ _ (z4 hbn) hgle fun blk hb => ?_
    rw [hbn] at hb; cases hb
    rw [hln]
    exact ⟨by simp [zZ, bytesOf], by simp, .inr rfl⟩
   ·cases hE
 ·split at h <;> (try (cases h; done))
  rename_i e hs hd
  split at h <;> (try (cases h; done))
  rename_i hk
  have he := qI hk
  refine ⟨.pure, .str ByteArray.empty, bl, .ofPure fun bl K => by simp only [zAZ, hs, hd, if_pos hk], fun E hE m a ha => .same m hE ⟨.string ByteArray.empty, ?_, .str _ _⟩⟩
  cases ha
  rw [run_convert_bytes_string E.w s d e none 0 0 hs he hd]
  rfl
 ·rename_i k l
  split at h <;> (try (cases h; done))
  rename_i e hs hd
  split at h <;> (try (cases h; done))
  rename_i hk
  have he := qI hk
  split at h <;> (try (cases h; done))
  rename_i hk8
  subst hk8
  refine ⟨.pure, .str (strOf l), bl, .ofPure fun bl K => by simp only [zAZ, hs, hd, if_pos hk, if_true], fun E hE m a ha => .same m hE ⟨.string (strOf l), ?_, .str _ _⟩⟩
  obtain ⟨a', n, c, rfl⟩ := zFi (bl := E.bl) (x := .rints .u8 l) (k := .u8) (l := l) rfl (by simp) rfl ha
  rw [run_convert_bytes_string E.w s d e a' n c hs he hd]
  exact j8 (jH (bl := bl) (x := .rints .u8 l) rfl (.inr rfl) m ha)
 ·rename_i id w
  obtain ⟨v, h1, h2⟩ := zCK (by simp) h
  exact ⟨.read, v, bl, ⟨fun K => by simp only [zAZ]; exact h1.det K, fun h => (by cases h), fun _ => rfl⟩, fun E hE m a ha => by
   rcases hE with hE | hE
   ·exact h2 E hE m a ha
   ·cases hE⟩
 ·rename_i id p a n w
  obtain ⟨v, h1, h2⟩ := zCK (by simp) h
  exact ⟨.read, v, bl, ⟨fun K => by simp only [zAZ]; exact h1.det K, fun h => (by cases h), fun _ => rfl⟩, fun E hE m a ha => by
   rcases hE with hE | hE
   ·exact h2 E hE m a ha
   ·cases hE⟩
end
end Go.Abs
end
section
set_option linter.unusedVariables false
set_option linter.unusedSimpArgs false
namespace Go.Abs
open Go
section
variable {R : Type} {C : Ctx}
def qY (E : Env) (o : Bool) (l : List AV) (cs : Array Value) (off : Nat) : Prop := ∀ (j : Nat) z, l[j]? = some z → ∃ c, cs[off + j]? = some c ∧ VR E o z c
theorem qY.left {E : Env} {o : Bool} {a b : List AV} {cs : Array Value} {off : Nat} (h : qY E o (a ++ b) cs off) : qY E o a cs off := fun j z hz =>
 h j z (by rw [List.getElem?_append_left (List.getElem?_eq_some_iff.1 hz).1]; exact hz)
theorem qY.right {E : Env} {o : Bool} {a b : List AV} {cs : Array Value} {off : Nat} (h : qY E o (a ++ b) cs off) : qY E o b cs (off + a.length) := fun j z hz => by
 have := h (a.length + j) z (by rw [List.getElem?_append_right (by omega)]; simpa using hz)
 rwa [← Nat.add_assoc] at this
def zIv (P : Program) (E : Env) (o : Bool) (f : Nat) (t : TypeId) : Prop :=
 ∀ x y b x' y', yJ P f t x = true → yJ P f t y = true → qT x y = some b → VR E o x x' → VR E o y y' → ∀ d w, (Op.equalIn (d + f) t x' y').run P w = .ok b w
theorem jZ {x y : AV} {a b : List AV} {r : Bool} (h : k9 (x :: a) (y :: b) = some r) : ∃ p q, qT x y = some p ∧ k9 a b = some q ∧ r = (p && q) := by
 simp only [k9] at h
 split at h
 ·cases h; exact ⟨_, _, ‹_›, ‹_›, rfl⟩
 ·cases h
theorem zCI {P : Program} {E : Env} {o : Bool} {f : Nat} (xs ys : Array Value) : ∀ (fs : List Field) (a b : List AV) (off : Nat) (r : Bool),
  (∀ g ∈ fs, g.name ≠ "_" ∧ zIv P E o f g.type) → kN P (yJ P f) fs a off = true → kN P (yJ P f) fs b off = true → (∀ x ∈ a, Fit x) → (∀ x ∈ b, Fit x) →
  qY E o (zG a) xs off → qY E o (zG b) ys off → k9 a b = some r → ∀ d w, (Op.eqFields (d + f) xs ys fs).run P w = .ok r w
 | [], a, b, off, r, _, ha, hb, _, _, _, _, he, d, w => by
  cases a <;> cases b <;> first | (simp [k9] at he; subst he; simp [Op.eqFields]) | (simp [kN] at ha; done) | (simp [kN] at hb; done)
 | g :: fs, [], b, off, r, _, ha, _, _, _, _, _, he, d, w => by simp [kN] at ha
 | g :: fs, x :: a, [], off, r, _, _, hb, _, _, _, _, he, d, w => by simp [kN] at hb
 | g :: fs, x :: a, y :: b, off, r, hg, ha, hb, fa, fb, ca, cb, he, d, w => by
  simp [kN] at ha hb
  obtain ⟨⟨⟨a1, a2⟩, a3⟩, a4⟩ := ha
  obtain ⟨⟨⟨b1, b2⟩, b3⟩, b4⟩ := hb
  obtain ⟨p, q, e1, e2, rfl⟩ := jZ he
  obtain ⟨hn, hs⟩ := hg g (by simp)
  simp only [zG] at ca cb
  obtain ⟨vx, hx⟩ := jF (P := P) (E := E) (o := o) (cs := xs) (off := off) a3 (fa x (by simp)) ca.left
  obtain ⟨vy, hy⟩ := jF (P := P) (E := E) (o := o) (cs := ys) (off := off) b3 (fb y (by simp)) cb.left
  have heq := hs x y p vx vy a3 b3 e1 (hx w).2 (hy w).2 d w
  have cra := ca.right
  have crb := cb.right
  rw [(fa x (by simp)).length] at cra
  rw [(fb y (by simp)).length, ← b2, a2] at crb
  have ih := zCI xs ys fs a b (off + width x) q (fun g hg' => hg g (by simp [hg'])) a4 (by rw [← a2, b2]; exact b4) (fun z hz => fa z (by simp [hz])) (fun z hz => fb z (by simp [hz])) cra crb e2 d w
  rw [← a1] at hx hy
  simp only [Op.eqFields, hn, ne_eq, not_false_eq_true, if_true, Sem.run_bind, a1, (hx w).1, Result.andThen_ok]
  rw [← a1, (hx w).1, Result.andThen_ok, (hy w).1, Result.andThen_ok, heq, Result.andThen_ok]
  cases p
  ·simp
  ·simpa using ih
theorem zEl {P : Program} {e : TypeId} {k k' : IntKind} {l m : List Int} {d : Nat} (hu : P.underlying e = some (.int k')) (n : Nat) (hl : l.length = n) (hm : m.length = n) (w : World) :
  ∀ (is : List Nat), (∀ i ∈ is, i < n) → (Op.eqItems (d + 1) e 1 (l.map (Value.int k)).toArray (m.map (Value.int k)).toArray is).run P w = .ok (is.all fun i => l.getD i 0 == m.getD i 0) w
 | [], _ => by simp [Op.eqItems]
 | i :: is, h => by
  have hi := h i (by simp)
  have ih := zEl (P := P) (e := e) (k := k) (k' := k') (l := l) (m := m) (d := d) hu n hl hm w is fun j hj => h j (by simp [hj])
  have hp : ∀ (r : List Int), r.length = n → (part e (r.map (Value.int k)).toArray i).run P w = .ok (.int k (r.getD i 0)) w := fun r hr => by
   have : i < r.length := by omega
   simp [part, zAy hu, TypeDesc.isRow, List.getElem?_eq_getElem this]
  simp only [Op.eqItems, Nat.mul_one, Sem.run_bind, hp l hl, hp m hm, Result.andThen_ok, run_equalIn_int w d e k k' _ _ hu]
  cases hb : (l.getD i 0 == m.getD i 0)
  ·simp only [Bool.not_false, if_true, Sem.run_pure, List.all_cons, hb, Bool.false_and]
  ·simp only [Bool.not_true, Bool.false_eq_true, if_false, List.all_cons, hb, Bool.true_and]
   exact ih
theorem zHU (l m : List Int) (n : Nat) (hl : l.length = n) (hm : m.length = n) : ((List.range n).all fun i => l.getD i 0 == m.getD i 0) = (l == m) := by
 rw [Bool.eq_iff_iff]
 simp only [List.all_eq_true, List.mem_range, beq_iff_eq]
 constructor
 ·intro h
  apply List.ext_getElem (by omega)
  intro i h1 h2
  have := h i (by omega)
  simpa [List.getElem?_eq_getElem h1, List.getElem?_eq_getElem h2] using this
 ·rintro rfl i _; rfl
theorem zDp {P : Program} {E : Env} {o : Bool} {f : Nat} {e : TypeId} (hs : zIv P E o f e) (xs ys : Array Value) (sz : Nat) : ∀ (a b : List AV) (i : Nat) (r : Bool),
  (∀ x ∈ a, (yJ P f e x = true ∧ width x = sz) ∧ Fit x) → (∀ x ∈ b, (yJ P f e x = true ∧ width x = sz) ∧ Fit x) → qY E o (zG a) xs (i * sz) → qY E o (zG b) ys (i * sz) → k9 a b = some r →
  ∀ d w, (Op.eqItems (d + f) e sz xs ys (List.range' i a.length)).run P w = .ok r w
 | [], [], i, r, _, _, _, _, he, d, w => by simp [k9] at he; subst he; simp [Op.eqItems]
 | [], _ :: _, i, r, _, _, _, _, he, d, w => by simp [k9] at he
 | _ :: _, [], i, r, _, _, _, _, he, d, w => by simp [k9] at he
 | x :: a, y :: b, i, r, ha, hb, ca, cb, he, d, w => by
  obtain ⟨p, q, e1, e2, rfl⟩ := jZ he
  obtain ⟨⟨a1, a2⟩, a3⟩ := ha x (by simp)
  obtain ⟨⟨b1, b2⟩, b3⟩ := hb y (by simp)
  simp only [zG] at ca cb
  obtain ⟨vx, hx⟩ := jF (P := P) (E := E) (o := o) (cs := xs) (off := i * sz) a1 a3 ca.left
  obtain ⟨vy, hy⟩ := jF (P := P) (E := E) (o := o) (cs := ys) (off := i * sz) b1 b3 cb.left
  have heq := hs x y p vx vy a1 b1 e1 (hx w).2 (hy w).2 d w
  have cra := ca.right
  have crb := cb.right
  rw [a3.length, a2, ← Nat.succ_mul] at cra
  rw [b3.length, b2, ← Nat.succ_mul] at crb
  have ih := zDp hs xs ys sz a b (i + 1) q (fun z hz => ha z (by simp [hz])) (fun z hz => hb z (by simp [hz])) cra crb e2 d w
  simp only [List.length_cons, List.range'_succ, Op.eqItems, Sem.run_bind, (hx w).1, (hy w).1, Result.andThen_ok, heq]
  cases p
  ·simp
  ·simpa using ih
theorem zGs {P : Program} {f : Nat} {t : TypeId} (h : zBX P f t = true) : ∃ d, P.underlying t = some d := by
 cases f with
 | zero => simp [zBX] at h
 | succ f =>
  unfold zBX at h
  split at h <;> first | exact ⟨_, ‹_›⟩ | cases h
theorem zEk {P : Program} {E : Env} {o : Bool} : ∀ (f : Nat) (t : TypeId), zBX P f t = true → zIv P E o f t
 | 0, t, h => by simp [zBX] at h
 | f + 1, t, h => by
  intro x y b x' y' hx hy he hvx hvy d w
  unfold zBX at h
  rw [show d + (f + 1) = (d + f) + 1 from rfl]
  split at h <;> (try (cases h; done))
  ·rename_i hu
   unfold yJ at hx hy
   rw [hu] at hx hy
   cases x <;> simp at hx
   cases y <;> simp at hy
   simp [qT] at he; subst he
   cases hvx; cases hvy
   exact run_equalIn_bool' w (d + f) t _ _ hu
  ·rename_i k hu
   unfold yJ at hx hy
   rw [hu] at hx hy
   cases x <;> simp at hx
   cases y <;> simp at hy
   obtain ⟨rfl, _⟩ := hx
   obtain ⟨rfl, _⟩ := hy
   simp [qT] at he; subst he
   cases hvx; cases hvy
   exact run_equalIn_int w (d + f) t _ _ _ _ hu
  ·rename_i hu
   unfold yJ at hx hy
   rw [hu] at hx hy
   cases x <;> simp at hx
   cases y <;> simp at hy
   simp [qT] at he; subst he
   cases hvx; cases hvy
   rw [beq_toListBytes]
   exact run_equalIn_string w (d + f) t _ _ hu
  ·rename_i n e hu
   rcases kZ hx hu with ⟨k, l, rfl, hk, hsz⟩ | ⟨ka, f', hf', rfl, hla, hka⟩
   ·rcases kZ hy hu with ⟨k', m, rfl, hk', _⟩ | ⟨_, _, _, rfl, _⟩
    ·rw [hk] at hk'; cases hk'
     simp [qT] at he; subst he
     cases hvx with
     | ints _ _ _ _ h1 =>
      cases hvy with
      | ints _ _ _ _ h2 =>
       have hue := qI hk
       obtain ⟨i, hi⟩ := Go.Abs.info_of_underlying hue
       have hci : P.cellsOf e = 1 := by simp only [zP, hi] at hsz; simp [Program.cellsOf, hi, hsz]
       rw [run_equalIn_array w (d + f) _ _ hu hi, hci]
       cases f with
       | zero => simp [zBX] at h
       | succ f =>
        rw [show d + (f + 1) = (d + f) + 1 from rfl, zEl hue n h1 h2 w _ (fun i hi => List.mem_range.1 hi), zHU l m n h1 h2]
    ·simp [qT] at he
   ·rcases kZ hy hu with ⟨_, _, rfl, _⟩ | ⟨kb, f'', hf'', rfl, hlb, hkb⟩
    ·simp [qT] at he
    ·cases hf'; cases hf''
     simp only [qT] at he
     obtain ⟨xs, rfl, fa, sa, ca⟩ := hvx.agg_inv
     obtain ⟨ys, rfl, fb, sb, cb⟩ := hvy.agg_inv
     have cellsOf : ∀ {l : List AV} {cs : Array Value}, cs.size = (zG l).length → (∀ (j : Nat) x c, (zG l)[j]? = some x → cs[j]? = some c → VR E o x c) → qY E o (zG l) cs (0 * zP P e) := fun {l cs} h1 h2 j z hz => by
      have hj := (List.getElem?_eq_some_iff.1 hz).1
      have hc : cs[j]? = some (cs[j]'(by omega)) := Array.getElem?_eq_getElem (by omega)
      exact ⟨_, by rw [Nat.zero_mul, Nat.zero_add]; exact hc, h2 j z _ hz hc⟩
     have := zDp (zEk f e h) xs ys (zP P e) ka kb 0 b (fun z hz => ⟨hka z hz, fa.kid hz⟩) (fun z hz => ⟨hkb z hz, fb.kid hz⟩) (cellsOf sa ca) (cellsOf sb cb) he d w
     obtain ⟨dd, hue⟩ := zGs h
     obtain ⟨i, hi⟩ := Go.Abs.info_of_underlying hue
     have hci : P.cellsOf e = zP P e := by simp [Program.cellsOf, zP, hi]
     rw [run_equalIn_array w (d + f) _ _ hu hi, hci, List.range_eq_range', ← hla]
     exact this
  ·rename_i fs hu
   obtain ⟨f1, ka, hf1, rfl, _⟩ := qE hx hu
   obtain ⟨f2, kb, hf2, rfl, _⟩ := qE hy hu
   cases hf1; cases hf2
   simp only [qT] at he
   unfold yJ at hx hy
   rw [hu] at hx hy
   simp only [Bool.and_eq_true, Bool.not_eq_true', List.all_eq_true, bne_iff_ne, ne_eq] at hx hy h
   obtain ⟨xs, rfl, fa, sa, ca⟩ := hvx.agg_inv
   obtain ⟨ys, rfl, fb, sb, cb⟩ := hvy.agg_inv
   have hfs : P.fieldsOf t = fs := by simp [Program.fieldsOf, hu]
   have cellsOf : ∀ {l : List AV} {cs : Array Value}, cs.size = (zG l).length → (∀ (j : Nat) x c, (zG l)[j]? = some x → cs[j]? = some c → VR E o x c) → qY E o (zG l) cs 0 := fun {l cs} h1 h2 j z hz => by
    have hj := (List.getElem?_eq_some_iff.1 hz).1
    have hc : cs[j]? = some (cs[j]'(by omega)) := Array.getElem?_eq_getElem (by omega)
    exact ⟨_, by rw [Nat.zero_add]; exact hc, h2 j z _ hz hc⟩
   rw [run_equalIn_struct w (d + f) t xs ys (by rw [hfs]; exact hu) h.1, hfs]
   exact zCI xs ys fs.toList ka kb 0 b (fun g hg => ⟨(h.2 g hg).1, zEk f g.type (h.2 g hg).2⟩) hx.1 hy.1 (fun z hz => fa.kid hz) (fun z hz => fb.kid hz) (cellsOf sa ca) (cellsOf sb cb) he d w
theorem zLu {t : TypeId} {x y : AV} {K : Bool → Option R} {r : R} (h : eqK C t x y K = some r) :
  ∃ b, (∀ K2 : Bool → Option R, eqK C t x y K2 = K2 b) ∧ C.P.eqGuardType C.P.depth t = false ∧ ∀ E x' y', VR E true x x' → VR E true y y' → ∀ w, (Op.equal t x' y').run C.P w = .ok b w := by
 unfold eqK at h
 split at h <;> (try (cases h; done))
 rename_i hc
 split at h <;> (try (cases h; done))
 rename_i b hb
 refine ⟨b, fun K2 => by simp only [eqK, if_pos hc, hb], ?_, fun E x' y' hx hy w => ?_⟩
 ·simp only [Bool.and_eq_true, Bool.not_eq_true'] at hc; exact hc.2
 ·simp only [Bool.and_eq_true, Bool.not_eq_true'] at hc
  have := zEk (P := C.P) (E := E) (o := true) 8 t hc.1.1.1 x y b x' y' hc.1.1.2 hc.1.2 hb hx hy 9992 w
  exact this
end
end Go.Abs
end
section
set_option linter.unusedVariables false
set_option linter.unusedSimpArgs false
namespace Go.Abs
open Go
section
variable {R : Type} {C : Ctx}
theorem zEN {E : Env} {o : Bool} {x : AV} {v : Value} (h : zEO x v = true) : VR E o x v ∧ zCj x := by
 unfold zEO at h
 split at h <;> (try (cases h; done))
 ·simp at h; obtain ⟨rfl, rfl⟩ := h; exact ⟨.int _ _ _, by simp, by simp⟩
 ·simp at h; subst h; exact ⟨.bool _ _, by simp, by simp⟩
 ·simp at h; obtain ⟨rfl, rfl⟩ := h; exact ⟨.str _ _, by simp, by simp⟩
 ·exact ⟨.snil _, by simp, by simp⟩
 ·exact ⟨.nilp _, by simp, by simp⟩
 ·exact ⟨.nilf _, by simp, by simp⟩
 ·exact ⟨.nili _, by simp, by simp⟩
 ·exact ⟨.raw _ _ rfl rfl, by simp, by simp⟩
theorem zCL {E : Env} {o : Bool} : ∀ {l : List AV} {cs : List Value}, zBy l cs = true → l.length = cs.length ∧ ∀ (j : Nat) x c, l[j]? = some x → cs[j]? = some c → VR E o x c
 | [], [], _ => ⟨rfl, fun j x c h => by simp at h⟩
 | [], _ :: _, h => by simp [zBy] at h
 | _ :: _, [], h => by simp [zBy] at h
 | x :: l, c :: cs, h => by
  simp [zBy] at h
  obtain ⟨h1, h2⟩ := zCL (E := E) (o := o) h.2
  refine ⟨by simp [h1], fun j y d hy hd => ?_⟩
  cases j with
  | zero => simp at hy hd; subst hy; subst hd; exact (zEN h.1).1
  | succ j => exact h2 j y d (by simpa using hy) (by simpa using hd)
mutual
theorem zGo : ∀ {x : AV}, zMD x = true → Fit x
 | .agg kids, h => by simp only [zMD] at h; exact .agg _ (zHo h)
 | .ints k n l, h => by simp [zMD] at h; exact .ints _ _ _ h
 | .any, h | .tup _, h | .bool _, h | .int _ _, h | .str _, h | .nilp, h | .ptr _ _, h | .aptr _ _ _ _, h | .rptr _, h | .snil, h | .slice _ _ _ _ _, h | .own _ _, h
 | .rints _ _, h | .robjs _ _ _, h | .fn _ _ _, h | .nilf, h | .iface _ _, h | .nili, h | .raw _, h | .errv _ _ _, h | .rmap _, h => .leaf _ ⟨by simp, by simp⟩
theorem zHo : ∀ {l : List AV}, zKH l = true → ∀ x ∈ l, Fit x
 | [], _, x, hx => by simp at hx
 | y :: l, h, x, hx => by
  simp [zKH] at h
  rcases List.mem_cons.1 hx with e | hx
  ·rw [e]; exact zGo h.1
  ·exact zHo h.2 x hx
end
theorem yZ {P : Program} {t : TypeId} {z : AV} (h : zAe P t = some z) : ∃ i v, P.info? t = some i ∧ i.zero = some v ∧ (∀ w, (zeroValue t).run P w = .ok v w) ∧ (∀ E o, VR E o z v) ∧ Fit z ∧ z ≠ .any ∧ ∀ vs, z ≠ .tup vs := by
 unfold zAe at h
 split at h <;> (try (cases h; done))
 rename_i x i hx hi
 have run : ∀ v, i.zero = some v → ∀ w, (zeroValue t).run P w = .ok v w := fun v hv w => by simp [zeroValue, typeInfo, hi, hv]
 split at h <;> (try (cases h; done))
 ·rename_i cs hz
  split at h <;> (try (cases h; done))
  ·rename_i kids
   split at h <;> (try (cases h; done))
   rename_i hc
   cases h
   simp only [Bool.and_eq_true] at hc
   have hf := zGo hc.2
   refine ⟨i, .agg cs, hi, hz, run _ hz, fun E o => ?_, hf, by simp, by simp⟩
   obtain ⟨h1, h2⟩ := zCL (E := E) (o := o) hc.1
   exact .agg _ _ _ hf (by simpa [zH] using h1.symm) fun j x c hx hc => h2 j x c hx (by rw [Array.getElem?_toList]; exact hc)
  ·rename_i k n l
   split at h <;> (try (cases h; done))
   rename_i hc
   cases h
   simp only [Bool.and_eq_true] at hc
   have hf := zGo hc.2
   refine ⟨i, .agg cs, hi, hz, run _ hz, fun E o => ?_, hf, by simp, by simp⟩
   obtain ⟨h1, h2⟩ := zCL (E := E) (o := o) hc.1
   have : cs = (l.map (Value.int k)).toArray := by
    apply Array.ext_getElem?
    intro j
    simp only [zH, List.length_map, Array.length_toList] at h1
    cases hl : l[j]? with
    | none =>
     have : l.length ≤ j := List.getElem?_eq_none_iff.1 hl
     rw [Array.getElem?_eq_none (by omega)]
     simp [hl]
    | some n =>
     have hj := (List.getElem?_eq_some_iff.1 hl).1
     have hc : cs[j]? = some (cs[j]'(by omega)) := Array.getElem?_eq_getElem (by omega)
     have := h2 j (.int k n) _ (by simp [zH, hl]) (by rw [Array.getElem?_toList]; exact hc)
     rw [hc, this.int_inv]
     simp [hl]
   rw [this]
   exact .ints _ _ _ _ hf.len
 ·rename_i v hna hz
  split at h <;> (try (cases h; done))
  rename_i hn1 hn2
  split at h <;> (try (cases h; done))
  rename_i hl
  cases h
  obtain ⟨_, h2⟩ := zEN (E := ⟨default, fun _ _ => False, fun _ => (0, 0, 0), []⟩) (o := false) hl
  refine ⟨i, v, hi, hz, run _ hz, fun E o => (zEN hl).1, .leaf _ h2, ?_, ?_⟩
  ·intro e; subst e; simp [zEO] at hl
  ·intro vs e; subst e; simp [zEO] at hl
theorem zDX {E : Env} {x : AV} {v : Value} (t : TypeId) (m : Mem E) (hv : VR E true x v) (hx : x ≠ .any ∧ ∀ vs, x ≠ .tup vs) :
  ∃ E', (E'.w = E.w.alloc (.cells v.cells t)) ∧ E'.bl = E.bl ++ [some (.var x)] ∧ Go E E' ∧ VR E' true (.ptr E.bl.length []) (.pointer (some ⟨E.w.heap.size, 0, none⟩)) := by
 obtain ⟨hf, hs, hc⟩ := hv.cells hx
 have go := Go.new m v.cells t v.cells.size (.var x) (0, 0) (fun j _ => by simp) hf (by simp [zJ, hs]) (Nat.le_refl _) hc
 refine ⟨_, rfl, rfl, go, ?_⟩
 have hbn : zF (E.new v.cells t v.cells.size (.var x)).bl E.bl.length = some (.var x) := kO
 refine .ptr _ _ _ (z4 hbn) fun blk hb => ?_
 rw [hbn] at hb; cases hb
 exact ⟨rfl, 0, by simp [yS, zL], by simp [Env.new], by simp [Env.new]⟩
theorem zDo {E : Env} {id : Nat} {x : AV} {v : Value} (t : TypeId) (m : Mem E) (h0 : zF E.bl id = some .free) (hv : VR E true x v) (hx : x ≠ .any ∧ ∀ vs, x ≠ .tup vs) :
  ∃ E', (E'.w = E.w.alloc (.cells v.cells t)) ∧ E'.bl = E.bl.set id (some (.var x)) ∧ Go E E' ∧ VR E' true (.ptr id []) (.pointer (some ⟨E.w.heap.size, 0, none⟩)) := by
 obtain ⟨hf, hs, hc⟩ := hv.cells hx
 have go := Go.fill m id h0 v.cells t v.cells.size (.var x) (0, 0) (fun j _ => by simp) hf (by simp [zJ, hs]) (Nat.le_refl _) hc
 refine ⟨_, rfl, rfl, go, ?_⟩
 have hbn : zF (E.fill id v.cells t v.cells.size (.var x)).bl id = some (.var x) := yE (z4 h0)
 refine .ptr _ _ _ (z4 hbn) fun blk hb => ?_
 rw [hbn] at hb; cases hb
 exact ⟨rfl, 0, by simp [yS, zL], by simp [Env.fill], by simp [Env.fill]⟩
theorem zAC {P : Program} (t : TypeId) (v : Value) (w : World) : (newVar t v).run P w = .ok ⟨w.heap.size, 0, none⟩ (w.alloc (.cells v.cells t)) := by
 simp [newVar, newRow]
theorem wG {E : Env} {c : Array Value} {e t wd len cap : Nat} {blk : Blk} {fr : Nat × Nat} (hr : zZ blk [] = some (0, wd, len)) (hc : len ≤ cap) (he : cap * wd ≤ e) :
  VR (E.new c t e blk fr) true (.own E.bl.length wd) (.slice (some ⟨E.w.heap.size, 0, none⟩) len cap) := by
 have hbn : zF (E.new c t e blk fr).bl E.bl.length = some blk := kO
 refine .own _ _ _ _ _ (z4 hbn) hc fun b hb => ?_
 rw [hbn] at hb; cases hb
 have hl : (E.new c t e blk fr).loc E.bl.length = (E.w.heap.size, 0, e) := by simp [Env.new]
 rw [hl]
 exact ⟨hr, he, .inr rfl⟩
theorem zAk (n : Nat) (z : AV) : ∀ (j : Nat) x, (zG (List.replicate n z))[j]? = some x → (zH z).length ≠ 0 → (zH z)[j % (zH z).length]? = some x := by
 induction n with
 | zero => intro j x h; simp [zG] at h
 | succ n ih =>
  intro j x h hne
  rw [List.replicate_succ, zG] at h
  rcases Nat.lt_or_ge j (zH z).length with hj | hj
  ·rw [List.getElem?_append_left hj] at h
   rwa [Nat.mod_eq_of_lt hj]
  ·rw [List.getElem?_append_right hj] at h
   rw [Nat.mod_eq_sub_mod hj]
   exact ih _ _ h hne
theorem yL (n : Nat) (z : AV) : (zG (List.replicate n z)).length = n * (zH z).length := by
 induction n with
 | zero => simp [zG]
 | succ n ih => rw [List.replicate_succ, zG, List.length_append, ih, Nat.succ_mul]; omega
theorem zFv {P : Program} {t : TypeId} {i : TypeInfo} (h : P.info? t = some i) : zAR P t = i.bytes ∧ zP P t = i.size := by simp [zAR, zP, h]
theorem jR (z : Array Value) (n j : Nat) (hj : j < n) (hz : z.size ≠ 0) : (madeCells z n)[j]? = z[j % z.size]? := by
 have hm : j % z.size < z.size := Nat.mod_lt _ (Nat.pos_of_ne_zero hz)
 simp [madeCells, hj, hm]
theorem zEL {t : TypeId} {l c : AV} {bl : zC} {K : z9 R} {r : R} (h : jX C t l c bl K = some r) :
  ∃ v bl', KS (R := R) (jX C t l c) bl .write v bl' ∧ ∀ E, E.bl = bl → Mem E → ∀ l' c', VR E true l l' → VR E true c c' → Out E C.P .write v bl' (Instr.makeSlice t l' c') := by
 unfold jX at h
 split at h <;> (try (cases h; done))
 rename_i e k1 n k2 m' hu
 split at h <;> (try (cases h; done))
 rename_i h0
 split at h <;> (try (cases h; done))
 rename_i h1
 split at h <;> (try (cases h; done))
 rename_i h2
 split at h <;> (try (cases h; done))
 rename_i h3
 split at h <;> (try (cases h; done))
 ·rename_i k z hz
  split at h <;> (try (cases h; done))
  rename_i hs
  obtain ⟨i, v, hi, hv, hrun, hvr, hf, _⟩ := yZ hz
  obtain ⟨hb, hsz⟩ := zFv hi
  have hs1 := (zDJ hs).1
  refine ⟨.own bl.length 1, bl ++ [some (.ints k (List.replicate n.toNat z))], .ofWrite fun K => by simp only [jX, hu, h0, h1, h2, h3, hz, hs, if_true], fun E hE m l' c' hl hc => ?_⟩
  subst hE
  cases hl; cases hc
  have hve := (hvr E true).int_inv
  subst hve
  have run := run_make (P := C.P) E.w t e i _ hu hi hv k1 k2 n m' h0 h1 (by rw [Int.mul_comm, ← hb]; omega) (by omega)
  rw [show m'.toNat * i.size = m'.toNat from by rw [← hsz, hs1, Nat.mul_one]] at run
  have hcs : (madeCells (Value.int k z).cells m'.toNat).size = m'.toNat := size_madeCells _ _
  have go := Go.new m (madeCells (Value.int k z).cells m'.toNat) e m'.toNat (.ints k (List.replicate n.toNat z)) (0, 0) (fun j _ => by simp) trivial (by simp [zJ]; omega) (by rw [hcs]; exact Nat.le_refl _) (fun j x v hx hv => by
   have hj : j < n.toNat := by have := (List.getElem?_eq_some_iff.1 hx).1; simpa [zJ] using this
   rw [jR _ _ _ (by omega) (by simp [Value.cells])] at hv
   simp [Value.cells, Nat.mod_one] at hv
   simp [zJ, List.getElem?_replicate, hj] at hx
   subst hx; subst hv
   exact .int _ _ _)
  refine ⟨_, _, run, rfl, go, ?_⟩
  exact wG (by simp [zZ]) (by omega) (by omega)
 ·rename_i z hnz hz
  split at h <;> (try (cases h; done))
  rename_i hs
  obtain ⟨i, v, hi, hv, hrun, hvr, hf, hx1, hx2⟩ := yZ hz
  obtain ⟨hb, hsz⟩ := zFv hi
  refine ⟨.own bl.length (zP C.P e), bl ++ [some (.objs e (zP C.P e) (List.replicate n.toNat z))], .ofWrite fun K => ?_, fun E hE m l' c' hl hc => ?_⟩
  ·simp only [jX, hu, h0, h1, h2, h3, if_true]
   split
   ·rename_i k' z' hz'
    rw [hz] at hz'; cases hz'
    exact absurd rfl (hnz _ _)
   ·rename_i z' _ hz'
    rw [hz] at hz'; cases hz'
    rw [if_pos hs]
   ·rename_i hz'
    rw [hz] at hz'; cases hz'
  ·subst hE
   simp only [Bool.and_eq_true, decide_eq_true_eq] at hs
   obtain ⟨⟨⟨hs1, hs4⟩, hs2⟩, hs3⟩ := hs
   obtain ⟨_, _, hw, _⟩ := yU hs2
   cases hl; cases hc
   have run := run_make (P := C.P) E.w t e i _ hu hi hv k1 k2 n m' h0 h1 (by rw [Int.mul_comm, ← hb]; omega) (by omega)
   rw [← hsz] at run
   obtain ⟨_, hcz, hcr⟩ := (hvr E true).cells ⟨hx1, hx2⟩
   have hfl := hf.length
   have hcs : (madeCells v.cells (m'.toNat * zP C.P e)).size = m'.toNat * zP C.P e := size_madeCells _ _
   have hle : n.toNat * zP C.P e ≤ m'.toNat * zP C.P e := Nat.mul_le_mul_right _ (by omega)
   have go := Go.new m (madeCells v.cells (m'.toNat * zP C.P e)) e (m'.toNat * zP C.P e) (.objs e (zP C.P e) (List.replicate n.toNat z)) (0, 0) (fun j _ => by simp)
    (fun x hx => by rw [List.eq_of_mem_replicate hx]; exact ⟨⟨hf, hw.symm⟩, hs1, hs4⟩) (by simp only [zJ, yL]; rw [hfl, ← hw]; exact hle) (by rw [hcs]; exact Nat.le_refl _) (fun j x c hx hc => by
    have hj := (List.getElem?_eq_some_iff.1 hx).1
    simp only [zJ, yL] at hj
    rw [hfl, ← hw] at hj
    rw [jR _ _ _ (by omega) (by omega)] at hc
    have hx' := zAk n.toNat z j x hx (by omega)
    rw [hcz] at hc
    exact hcr _ x c hx' hc)
   refine ⟨_, _, run, rfl, go, ?_⟩
   exact wG (by simp [zZ]) (by omega) (Nat.le_refl _)
end
end Go.Abs
end
section
set_option linter.unusedVariables false
set_option linter.unusedSimpArgs false
namespace Go.Abs
open Go
section
variable {R : Type} {C : Ctx}
theorem zFC (need old : Nat) (h : old < need) : Builtin.nextslicecap need old ≤ 2 * need := by
 have grow : ∀ (rounds c : Nat), c ≤ 2 * need → 256 ≤ need → Builtin.growBy need rounds c ≤ 2 * need := by
  intro rounds
  induction rounds with
  | zero => intro c hc _; exact hc
  | succ r ih =>
   intro c hc hn
   unfold Builtin.growBy
   split
   ·exact hc
   ·exact ih _ (by omega) hn
 unfold Builtin.nextslicecap
 split
 ·omega
 ·split
  ·omega
  ·exact grow 4 old (by omega) (by omega)
structure ObjsAt (E : Env) (w : Nat) (l : List AV) (v : Value) (cs : List Value) : Prop where
 len : ∀ (P : Program) W, (Builtin.lenOf v).run P W = .ok l.length W
 size : cs.length = l.length * w
 cells : ∀ (P : Program) (W : World), (∀ a, W.cell? a = E.w.cell? a) → (Builtin.firstCells w l.length v).run P W = .ok cs.toArray W
 vr : ∀ (j : Nat) x c, (zG l)[j]? = some x → cs[j]? = some c → VR E false x c
 fit : ∀ x ∈ l, (Fit x ∧ width x = w) ∧ zR x = true ∧ solid x = true
theorem yD {l : List AV} {w : Nat} (h : ∀ x ∈ l, (Fit x ∧ width x = w) ∧ zR x = true ∧ solid x = true) : (zG l).length = l.length * w := by
 induction l with
 | nil => simp [zG]
 | cons x r ih =>
  simp only [zG, List.length_append, List.length_cons, Nat.succ_mul]
  rw [(h x (by simp)).1.1.length, (h x (by simp)).1.2, ih fun y hy => h y (by simp [hy])]
  omega
theorem kW {l : List AV} {w : Nat} (h : ∀ x ∈ l, (Fit x ∧ width x = w) ∧ zR x = true ∧ solid x = true) {j : Nat} {y : AV} (hy : (zG l)[j]? = some y) :
  ∃ x, l[j / w]? = some x ∧ (zH x)[j % w]? = some y := by
 induction l generalizing j with
 | nil => simp [zG] at hy
 | cons x r ih =>
  have hx := (h x (by simp)).1
  have hlx := hx.1.length
  simp only [zG] at hy
  rcases Nat.lt_or_ge j (zH x).length with hj | hj
  ·rw [List.getElem?_append_left hj] at hy
   exact ⟨x, by rw [Nat.div_eq_of_lt (by omega)]; rfl, by rw [Nat.mod_eq_of_lt (by omega)]; exact hy⟩
  ·rw [List.getElem?_append_right hj] at hy
   obtain ⟨z, h1, h2⟩ := ih (fun y hy => h y (by simp [hy])) hy
   rw [hlx, hx.2] at h1 h2 hj
   have hw : 0 < w := by
    rcases Nat.eq_zero_or_pos w with h0 | h0
    ·subst h0
     have := (List.getElem?_eq_some_iff.1 hy).1
     rw [yD fun y hy => h y (by simp [hy])] at this
     omega
    ·exact h0
   refine ⟨z, ?_, ?_⟩
   ·rw [show j = (j - w) + w from by omega, Nat.add_div_right _ hw]
    simpa using h1
   ·rw [show j = (j - w) + w from by omega, Nat.add_mod_right]
    simpa using h2
theorem zAv {E : Env} {w : Nat} {l : List AV} {a : Option Addr} {n cap b o : Nat} (hn : n = l.length) (hf : ∀ x ∈ l, (Fit x ∧ width x = w) ∧ zR x = true ∧ solid x = true)
  (ha : l ≠ [] → a = some ⟨b, o, none⟩) (h : ∀ (j : Nat) x, (zG l)[j]? = some x → ∃ c, E.cell b (o + j) = some c ∧ VR E false x c) : ∃ cs, ObjsAt E w l (.slice a n cap) cs := by
 subst hn
 have hlen := yD hf
 have hall : ∀ j, ∃ v, ∀ y, (zG l)[j]? = some y → E.cell b (o + j) = some v ∧ VR E false y v := fun j => by
  cases hy : (zG l)[j]? with
  | none => exact ⟨undef, fun y h => by simp at h⟩
  | some y => obtain ⟨v, h1, h2⟩ := h j y hy; exact ⟨v, fun z hz => by simp at hz; subst hz; exact ⟨h1, h2⟩⟩
 obtain ⟨vv, hvv⟩ := Classical.axiomOfChoice hall
 refine ⟨(List.range (l.length * w)).map vv, fun P W => rfl, by simp, fun P W hW => ?_, fun j x c hx hc => ?_, hf⟩
 ·cases a with
  | none =>
   have : l = [] := by
    by_cases e : l = []
    ·exact e
    ·exact absurd (ha e) (by simp)
   subst this
   simp [Builtin.firstCells]
  | some ad =>
   simp only [Builtin.firstCells]
   rcases Nat.eq_zero_or_pos (l.length * w) with h0 | hp
   ·rw [h0]; simp [loadCells, loadCellsFrom]
   ·have hne : l ≠ [] := fun e => by subst e; simp at hp
    cases ha hne
    refine zBn W b o _ _ (by simp) fun j v hv => ?_
    rw [hW]
    have hj := (List.getElem?_eq_some_iff.1 hv).1
    simp at hj
    rw [List.getElem?_map, List.getElem?_range hj] at hv
    simp at hv
    subst hv
    exact (hvv j _ (List.getElem?_eq_getElem (by omega))).1
 ·have hj := (List.getElem?_eq_some_iff.1 hx).1
  rw [List.getElem?_map, List.getElem?_range (by omega)] at hc
  simp at hc
  subst hc
  exact (hvv j x hx).2
theorem zDW {l : List AV} {w s n : Nat} (h : ∀ x ∈ l, (Fit x ∧ width x = w) ∧ zR x = true ∧ solid x = true) {j : Nat} {y : AV} (hy : (zG ((l.drop s).take n))[j]? = some y) : (zG l)[s * w + j]? = some y := by
 have hs : s ≤ l.length ∨ l.length < s := by omega
 rcases hs with hs | hs
 ·have e1 : zG l = zG (l.take s) ++ zG (l.drop s) := by rw [← jN, List.take_append_drop]
  have e2 : zG (l.drop s) = zG ((l.drop s).take n) ++ zG ((l.drop s).drop n) := by rw [← jN, List.take_append_drop]
  have e3 : (zG (l.take s)).length = s * w := by rw [yD fun x hx => h x (List.mem_of_mem_take hx)]; simp [Nat.min_eq_left hs]
  rw [e1, List.getElem?_append_right (by omega), e3, Nat.add_sub_cancel_left, e2, List.getElem?_append_left (List.getElem?_eq_some_iff.1 hy).1]
  exact hy
 ·rw [List.drop_eq_nil_of_le (by omega)] at hy
  simp [zG] at hy
theorem zDB {bl : zC} {x : AV} {e w : Nat} {l : List AV} (h : wE bl x = some (.objs e w l)) {E : Env} (hE : E.bl = bl ∨ zR x = true) (m : Mem E) {v : Value} (hv : VR E true x v) : ∃ cs, ObjsAt E w l v cs := by
 unfold wE at h
 split at h
 ·cases h
 ·cases h
 ·cases h
  cases hv with
  | robjs _ _ _ _ a cap hc hw vv hne hh hv =>
   by_cases hl : l = []
   ·subst hl
    exact zAv (b := 0) (o := 0) rfl hw (fun h => absurd rfl h) fun j x hx => by simp [zG] at hx
   ·obtain ⟨ad, rfl, g1⟩ := hne hl
    obtain ⟨ab, ao, as⟩ := ad
    simp at g1; subst g1
    refine zAv (b := ab) (o := ao) rfl hw (fun _ => rfl) fun j y hy => ?_
    obtain ⟨x, h1, h2⟩ := kW hw hy
    obtain ⟨g1, g2⟩ := hh _ (j / w) x (j % w) y rfl h1 h2
    refine ⟨_, ?_, hv (j / w) x (j % w) y h1 h2⟩
    simp only at g2
    rw [show ao + j / w * w + j % w = ao + j from by have := Nat.div_add_mod j w; rw [Nat.mul_comm] at this; omega] at g2
    exact g2
 ·rename_i id w'
  rcases hE with rfl | hE
  ·split at h
   ·cases h
   ·rename_i e' w2 l' hb
    cases h
    cases hv with
    | mown _ r hid hh => have g := (hh _ hb).1; simp [zZ] at g
    | own _ _ len a cap hid hc hh =>
     obtain ⟨g1, g2, g3⟩ := hh _ hb
     simp [zZ] at g1
     obtain ⟨_, rfl⟩ := g1
     have ok := m.ok id _ hb
     refine zAv (b := (E.loc id).1) (o := (E.loc id).2.1) rfl ok.fit (fun hne => ?_) fun j y hy => ?_
     ·rcases g3 with rfl | rfl
      ·have := List.length_pos_iff.2 hne; omega
      ·rfl
     ·obtain ⟨v, h1, h2⟩ := ok.cells j y hy
      obtain ⟨x, k1, k2⟩ := kW ok.fit hy
      exact ⟨v, h1, h2.low (kY (ok.fit x (List.mem_of_getElem? k1)).2.1 y (List.mem_of_getElem? k2))⟩
   ·cases h
  ·simp [zR] at hE
 ·rename_i id path s n w'
  rcases hE with rfl | hE
  ·split at h
   ·cases h
   ·rename_i _ _ e' w2 l' hb
    cases h
    cases hv with
    | slice _ _ _ _ _ a cap hid hc hsm hh =>
     obtain ⟨q, c, g1, g2, g3, g4⟩ := hh _ hb
     simp [zZ] at g1
     obtain ⟨rfl, rfl, rfl⟩ := g1
     have ok := m.ok id _ hb
     have hfit : ∀ x ∈ (l'.drop s).take n, (Fit x ∧ width x = w) ∧ zR x = true ∧ solid x = true := fun x hx => ok.fit x (List.mem_of_mem_drop (List.mem_of_mem_take hx))
     refine zAv (b := (E.loc id).1) (o := (E.loc id).2.1 + s * w) (by simp; omega) hfit (fun hne => ?_) fun j y hy => ?_
     ·rcases g4 with rfl | rfl
      ·have := List.length_pos_iff.2 hne; simp at this; omega
      ·simp
     ·have hy' := zDW ok.fit hy
      obtain ⟨v, h1, h2⟩ := ok.cells _ y hy'
      obtain ⟨x, k1, k2⟩ := kW hfit hy
      exact ⟨v, by rw [Nat.add_assoc]; exact h1, h2.low (kY (hfit x (List.mem_of_getElem? k1)).2.1 y (List.mem_of_getElem? k2))⟩
   ·split at h
    ·cases h
    ·cases h
   ·cases h
  ·simp [zR] at hE
 ·cases h
end
end Go.Abs
end
section
set_option linter.unusedVariables false
set_option linter.unusedSimpArgs false
namespace Go.Abs
open Go
section
variable {R : Type} {C : Ctx}
def zHD (P : Program) (tx : TypeId) : Prop := (∃ e', P.underlying tx = some (.slice e')) ∨ P.underlying tx = some .string
theorem zLX {P : Program} {tx : TypeId} (h : zJR P tx = true) : zHD P tx := by
 unfold zHD
 unfold zJR at h
 split at h
 ·rename_i e hu; exact .inl ⟨e, hu⟩
 ·rename_i hu; exact .inr hu
 ·cases h
theorem zIL {P : Program} {E : Env} {tx : TypeId} {k : IntKind} {l : List Int} {v : Value} (ht : zHD P tx) (h : IntsAt E k l v) : Src P 1 tx v l.length (l.map (Value.int k)) E.w := by
 refine ⟨ht, fun w' => h.len P w', ?_, ?_, by simp, fun u hu => ?_⟩
 ·have := h.cells P E.w (fun _ => rfl) l.length (Nat.le_refl _); rwa [List.take_length] at this
 ·have := h.cells P E.w.drew (fun _ => rfl) l.length (Nat.le_refl _); rwa [List.take_length] at this
 ·obtain ⟨n, _, rfl⟩ := List.mem_map.1 hu; rfl
theorem ObjsAt.one {E : Env} {w : Nat} {l : List AV} {v : Value} {cs : List Value} (h : ObjsAt E w l v cs) : ∀ u ∈ cs, u.oneCell' = true := fun u hu => by
 obtain ⟨j, hj⟩ := List.mem_iff_getElem?.1 hu
 have hjl := (List.getElem?_eq_some_iff.1 hj).1
 have hfl := yD h.fit
 have hx := List.getElem?_eq_getElem (l := zG l) (i := j) (by rw [hfl, ← h.size]; exact hjl)
 obtain ⟨y, h1, h2⟩ := kW h.fit hx
 obtain ⟨g1, g2⟩ := zDs (h.fit y (List.mem_of_getElem? h1)).2.2 _ (List.mem_of_getElem? h2)
 exact (h.vr j _ u hx hj).oneCell g1 g2
theorem zIK {P : Program} {E : Env} {tx : TypeId} {w : Nat} {l : List AV} {v : Value} {cs : List Value} (ht : zHD P tx) (h : ObjsAt E w l v cs) : Src P w tx v l.length cs E.w :=
 ⟨ht, fun w' => h.len P w', h.cells P E.w fun _ => rfl, h.cells P E.w.drew fun _ => rfl, h.size, h.one⟩
structure AppSrc (P : Program) (t tx ty e w : Nat) (v : Value) (n : Nat) (news : List Value) (W : World) : Prop where
 newsLen : news.length = n * w
 nothing : n = 0 → ∀ (i : TypeInfo), P.underlying t = some (.slice e) → P.info? e = some i → i.size = w → ∀ (a : Option Addr) (len cap : Nat), len ≤ cap →
  (Builtin.append_ #[t, tx] ty #[.slice a len cap, v]).run P W = .ok (.slice a len cap) W
 room : ∀ (i : TypeInfo), P.underlying t = some (.slice e) → P.info? e = some i → i.size = w → ∀ (b off sLen sCap : Nat), sLen + n ≤ sCap → n * i.bytes ≤ 281474976710656 →
  (∀ j, j < news.length → (W.cell? ⟨b, off + sLen * w + j, none⟩).isSome = true) → (∀ j, j < news.length → W.frozen? ⟨b, off + sLen * w + j, none⟩ = false) →
  (Builtin.append_ #[t, tx] ty #[.slice (some ⟨b, off, none⟩) sLen sCap, v]).run P W = .ok (.slice (some ⟨b, off, none⟩) (sLen + n) sCap) (W.setCells b (off + sLen * w) news)
 grow : ∀ (i : TypeInfo) (z : Value), P.underlying t = some (.slice e) → P.info? e = some i → i.zero = some z → i.size = w → ∀ (base : Option Addr) (sLen sCap : Nat) (olds : List Value),
  (Builtin.firstCells i.size sLen (.slice base sLen sCap)).run P W.drew = .ok olds.toArray W.drew → sCap < sLen + n → ((sLen + n : Nat) : Int) ≤ 9223372036854775807 → n * i.bytes ≤ 281474976710656 → Builtin.nextslicecap (sLen + n) sCap * i.bytes ≤ 281474976710656 →
  (Builtin.append_ #[t, tx] ty #[.slice base sLen sCap, v]).run P W =
   .ok (.slice (some ⟨W.heap.size, 0, none⟩) (sLen + n) (grownCap W (sLen + n) sCap e))
    (W.drew.alloc (.cells ((olds ++ news).toArray ++ Builtin.zeroCells z.cells (grownCap W (sLen + n) sCap e - (sLen + n))) e))
theorem AppSrc.ofSrc {P : Program} {t tx ty e w : Nat} {v : Value} {n : Nat} {news : List Value} {W : World} (h : Src P w tx v n news W) : AppSrc P t tx ty e w v n news W where
 newsLen := h.newsLen
 nothing := fun h0 i hu hi hw a len cap hle => by
  subst h0; subst hw
  have hnil : news = [] := List.length_eq_zero_iff.1 (by rw [h.newsLen]; simp)
  subst hnil
  exact run_append_nothing W t tx ty e i hu hi a len cap hle v h
 room := fun i hu hi hw b off sLen sCap hr hb hc hf => by
  subst hw
  exact run_append_room_src W t tx ty e i hu hi b off sLen sCap v n news h hr hc hf
 grow := fun i z hu hi hz hw base sLen sCap olds hold hg h63 hb hfit => by
  subst hw
  exact run_append_grow_src W t tx ty e i z hu hi hz base sLen sCap olds hold v n news h hg h63 hfit
theorem zBc (u : Value) (n : Nat) : Builtin.zeroCells #[u] n = (List.replicate n u).toArray := by
 apply Array.ext
 ·simp [Builtin.zeroCells]
 ·intro i h1 h2
  simp [Builtin.zeroCells, Nat.mod_one]
theorem AppSrc.ofZeros {P : Program} {t tx ty e : Nat} {k kn kq : IntKind} {z : Int} {n : Nat} {W : World} (hx : P.underlying tx = some (.int kn)) (hz : ∃ i, P.info? e = some i ∧ i.zero = some (.int k z) ∧ i.size = 1) (h63 : n ≤ 9223372036854775807) :
  AppSrc P t tx ty e 1 (.int kq n) n ((List.replicate n z).map (Value.int k)) W := by
 obtain ⟨i0, hi0, hz0, hs0⟩ := hz
 have hw : IntKind.i64.wrap (n : Int) = n := by rw [IntKind.wrap_i64]; omega
 have hneg : ¬ ((n : Int) < 0) := by omega
 have hcs : (Value.int k z).cells = #[.int k z] := rfl
 refine ⟨by simp, fun h0 i hu hi hw1 a len cap hle => ?_, fun i hu hi hw1 b off sLen sCap hr hb hc hf => ?_, fun i z' hu hi hz hw1 base sLen sCap olds hold hg h63' hb hfit => ?_⟩
 ·subst h0
  have h00 : IntKind.i64.wrap 0 = 0 := by decide
  cases a <;> simp [Builtin.append_, run_underlying hu, run_underlying hx, sizeOf, typeInfo, hi, asInt, asIntOf, h00, hle, storeCells]
 ·have hi' : i = i0 := Option.some.inj (hi.symm.trans hi0)
  subst hi'
  have hst := run_storeCells_cells (P := P) b (off + sLen * 1) ((List.replicate n z).map (Value.int k)) 0 W (by simpa using hc) (by simpa using hf) (fun u hu => by
   obtain ⟨m, _, rfl⟩ := List.mem_map.1 hu; rfl)
  simp only [Nat.add_zero] at hst
  have h48i : ¬ (281474976710656 < (n : Int) * (i.bytes : Int)) := by
   rw [← Int.natCast_mul]; omega
  have hmr : (List.replicate n z).map (Value.int k) = List.replicate n (Value.int k z) := by simp
  by_cases h0 : n = 0
  ·subst h0
   have h00 : IntKind.i64.wrap 0 = 0 := by decide
   simp [Builtin.append_, run_underlying hu, run_underlying hx, sizeOf, typeInfo, hi, asInt, asIntOf, h00, hs0] at *
   simp [hr, storeCells, World.setCells]
  ·have hns : ¬ (n * 1 = 0) := by omega
   simp [Builtin.append_, run_underlying hu, run_underlying hx, sizeOf, typeInfo, zeroValue, hi, hz0, hs0, asInt, asIntOf, hw, hneg, h48i, h0, hr, Addr.add_lit, hcs, zBc] at *
   rw [hst]
   rfl
 ·have hi' : i = i0 := Option.some.inj (hi.symm.trans hi0)
  subst hi'
  have hzz : z' = .int k z := Option.some.inj (hz.symm.trans hz0)
  subst hzz
  rcases Nat.eq_zero_or_pos n with h0 | h0
  ·subst h0
   have h00 : IntKind.i64.wrap 0 = 0 := by decide
   have hn : ¬ (sLen ≤ sCap) := by omega
   have h63'' : ¬ (9223372036854775807 < (sLen : Int)) := by omega
   have h48' : ¬ (281474976710656 < Builtin.nextslicecap sLen sCap * i.bytes) := by simp at hfit; omega
   rw [hs0] at hold
   simp [Builtin.append_, run_underlying hu, run_underlying hx, sizeOf, typeInfo, zeroValue, hi, hz0, hs0, asInt, asIntOf, h00, hn, h63'', h48', Question.forced, hold, newRow, grownCap, hcs, zBc]
  ·rw [Go.Lib.run_append_grow_zeros W t tx ty e i _ kq kn hu hx hi hz0 base sLen sCap olds hold n h0 (by omega) hg h63' hb hfit]
   congr 2
   congr 1
   simp only [hcs, zBc]
   apply Array.ext'
   simp [List.append_assoc, List.replicate_append_replicate]
def Env.empty (E : Env) (blk : Blk) : Env := { E with loc := fun i => if i = E.bl.length then (0, 0, 0) else E.loc i, bl := E.bl ++ [some blk] }
theorem Go.empty {E : Env} (m : Mem E) (blk : Blk) (hf : zCS blk) (hl : zJ blk = []) (hmp : wB blk = false := by rfl) : Go E (E.empty blk) := by
 have hloc : ∀ i, i < E.bl.length → (E.empty blk).loc i = E.loc i := fun i hi => by simp [Env.empty, Nat.ne_of_lt hi]
 have hlocn : (E.empty blk).loc E.bl.length = (0, 0, 0) := by simp [Env.empty]
 have hget : ∀ i bi, zF (E.empty blk).bl i = some bi → (i < E.bl.length ∧ zF E.bl i = some bi) ∨ (i = E.bl.length ∧ bi = blk) := fun i bi h => by
  rcases z7 h with h | ⟨h1, h2⟩
  ·exact .inl h
  ·cases h2; exact .inr ⟨h1, rfl⟩
 have hext : ∀ i bi, zF (E.empty blk).bl i = some bi → ∀ b o, yA (E.empty blk) i b o → zF E.bl i = some bi ∧ yA E i b o := fun i bi h b o hx => by
  rcases hget i bi h with ⟨h1, h2⟩ | ⟨h1, _⟩
  ·unfold yA at hx ⊢; rw [hloc i h1] at hx; exact ⟨h2, hx⟩
  ·subst h1; unfold yA at hx; rw [hlocn] at hx; simp at hx
 have hown : ∀ b o, Own (E.empty blk) b o → Own E b o := fun b o ⟨i, bi, h, hx⟩ => ⟨i, bi, hext i bi h b o hx⟩
 have fr : Fr E (E.empty blk) := ⟨rfl, rfl, rfl, Nat.le_refl _, fun _ _ _ _ => rfl, fun _ _ _ => rfl, fun _ _ _ _ => rfl, fun b o h => .inl (hown b o h), fun _ _ h => .inl h, fun _ _ h => h⟩
 have st : Step E (E.empty blk) := .of_fr m fr (by simp [Env.empty]) fun i hi bi h => by
  rcases hget i bi h with ⟨h1, h2⟩ | ⟨h1, _⟩
  ·exact ⟨bi, h2, hloc i h1, fun _ _ h => h, fun _ _ h => h⟩
  ·omega
 refine ⟨st, fr, ⟨fun i bi h => ?_, fun i j bi bj hij hi hj b o hx hy => ?_, m.roe, fun b o ho => m.rod b o (hown b o ho)⟩⟩
 ·rcases hget i bi h with ⟨h1, h2⟩ | ⟨h1, h2⟩
  ·have k := m.ok i bi h2
   refine ⟨k.fit, by rw [hloc i h1]; exact k.len, fun j x hx => ?_, fun hm j hj => ?_, fun l hl => by rw [hloc i h1]; exact ⟨(k.mp l hl).1, (k.mp l hl).2.mono st rfl⟩⟩
   ·rw [hloc i h1]
    obtain ⟨v, g1, g2⟩ := k.cells j x hx
    exact ⟨v, g1, g2.mono st⟩
   ·rw [hloc i h1] at hj ⊢; exact k.room hm j hj
  ·subst h1; subst h2
   refine ⟨hf, by rw [hl, hlocn]; simp, fun j x hx => by rw [hl] at hx; simp at hx, fun _ j hj => by rw [hlocn] at hj; simp at hj, fun l hl => by rw [hl] at hmp; cases hmp⟩
 ·obtain ⟨h1, h2⟩ := hext i bi hi b o hx
  obtain ⟨k1, k2⟩ := hext j bj hj b o hy
  exact m.dis i j bi bj hij h1 k1 b o h2 k2
theorem zHx {need old bytes : Nat} (h : old < need) (hb : need * bytes ≤ 70368744177664) : Builtin.nextslicecap need old * bytes ≤ 281474976710656 := by
 have h1 := Nat.mul_le_mul_right bytes (zFC need old h)
 rw [Nat.mul_assoc] at h1
 omega
theorem zIt {E : Env} {t tx ty e w n : Nat} {v : Value} {news : List Value} {blk : Blk} (m : Mem E) (hu : C.P.underlying t = some (.slice e)) (hs : qF C.P e w = true)
  (src : AppSrc C.P t tx ty e w v n news E.w) (hb : n * zAR C.P e ≤ 70368744177664) (h63 : n ≤ 9223372036854775807) (hf : zCS blk) (hr : zZ blk [] = some (0, w, n)) (hl : (zJ blk).length = n * w)
  (h : ∀ (j : Nat) x c, (zJ blk)[j]? = some x → news[j]? = some c → VR E true x c) :
  Out E C.P .write (.own E.bl.length w) (E.bl ++ [some blk]) (Builtin.append_ #[t, tx] ty #[.slice none 0 0, v]) := by
 obtain ⟨i, z, hi, hz, hiz, hby, hzc⟩ := zCU hs
 subst hiz
 rcases Nat.eq_zero_or_pos n with h0 | h0
 ·subst h0
  have hnil : news = [] := List.length_eq_zero_iff.1 (by rw [src.newsLen]; simp)
  subst hnil
  have run := src.nothing rfl i hu hi rfl none 0 0 (Nat.le_refl _)
  have hfl : zJ blk = [] := List.length_eq_zero_iff.1 (by rw [hl]; simp)
  refine ⟨_, E.empty blk, run, rfl, Go.empty m blk hf hfl (jK hr), ?_⟩
  have hbn : zF (E.empty blk).bl E.bl.length = some blk := kO
  refine .own _ _ _ _ _ (z4 hbn) (Nat.le_refl _) fun b hb => ?_
  rw [hbn] at hb; cases hb
  exact ⟨hr, by simp, .inl rfl⟩
 ·have hold : (Builtin.firstCells i.size 0 (.slice none 0 0)).run C.P E.w.drew = .ok ([] : List Value).toArray E.w.drew := rfl
  have run := src.grow i z hu hi hz rfl none 0 0 [] hold (by omega) (by omega) (by rw [← hby]; omega) (by rw [← hby]; exact zHx (by omega) (by simpa using hb))
  simp only [Nat.zero_add, List.nil_append] at run
  generalize hg : grownCap E.w n 0 e = g at run
  have hgle : n ≤ g := by rw [← hg]; exact grownCap_ge _ _ _ _
  have go1 := Go.drew m
  have hle : n * i.size ≤ g * i.size := Nat.mul_le_mul_right _ hgle
  have hsz : (news.toArray ++ Builtin.zeroCells z.cells (g - n)).size = g * i.size := by
   simp only [Array.size_append, List.size_toArray, size_zeroCells, src.newsLen, hzc]
   rw [← Nat.add_mul]; congr 1; omega
  have go2 := Go.new go1.mem (news.toArray ++ Builtin.zeroCells z.cells (g - n)) e (g * i.size) blk (0, 0) (fun j _ => by simp) hf (by rw [hl]; exact hle) (by rw [hsz]; exact Nat.le_refl _) (fun j x c hx hc => by
   have hj := (List.getElem?_eq_some_iff.1 hx).1
   rw [hl] at hj
   rw [Array.getElem?_append_left (by simp [src.newsLen]; exact hj)] at hc
   exact (h j x c hx (by simpa using hc)).mono go1.step) (jK hr)
  exact ⟨_, _, run, rfl, go1.trans go2, wG hr hgle (Nat.le_refl _)⟩
theorem zIQ {E : Env} {id q : Nat} {vs : List Value} {blk : Blk} (h : ∀ j, j < vs.length → (E.cell (E.loc id).1 ((E.loc id).2.1 + q + j)).isSome = true) (j : Nat) (c : Value) (hc : vs[j]? = some c) :
  (E.put id q vs blk).cell (E.loc id).1 ((E.loc id).2.1 + q + j) = some c := by
 obtain ⟨hj, rfl⟩ := List.getElem?_eq_some_iff.1 hc
 exact World.cell?_setCells_in _ vs _ E.w h j hj
theorem VR.own_slice {E : Env} {id w len cap : Nat} {a : Option Addr} (h : VR E true (.own id w) (.slice a len cap)) : id < E.bl.length ∧ len ≤ cap ∧
  ∀ blk, zF E.bl id = some blk → zZ blk [] = some (0, w, len) ∧ cap * w ≤ (E.loc id).2.2 ∧ (cap = 0 ∨ a = some ⟨(E.loc id).1, (E.loc id).2.1, none⟩) := by
 cases h with
 | own _ _ _ _ _ hid hc hh => exact ⟨hid, hc, hh⟩
theorem zIs {E : Env} {t tx ty e w n id len cap : Nat} {a : Option Addr} {v : Value} {news olds : List Value} {blk blk' : Blk} (m : Mem E) (hu : C.P.underlying t = some (.slice e)) (hs : qF C.P e w = true)
  (hown : VR E true (.own id w) (.slice a len cap)) (hbk : zF E.bl id = some blk) (hr0 : zZ blk [] = some (0, w, len)) (hl0 : (zJ blk).length = len * w)
  (hold : ∀ W : World, (∀ x, W.cell? x = E.w.cell? x) → (Builtin.firstCells w len (.slice a len cap)).run C.P W = .ok olds.toArray W) (holdl : olds.length = len * w)
  (holdr : ∀ (j : Nat) x c, (zJ blk)[j]? = some x → olds[j]? = some c → VR E true x c)
  (src : AppSrc C.P t tx ty e w v n news E.w) (hb : (len + n) * zAR C.P e ≤ 70368744177664) (h63 : len + n ≤ 9223372036854775807) (hf : zCS blk') (hr : zZ blk' [] = some (0, w, len + n)) (hl : (zJ blk').length = (len + n) * w)
  (h1 : ∀ (j : Nat) x, (zJ blk')[j]? = some x → j < len * w → (zJ blk)[j]? = some x)
  (h2 : ∀ (j : Nat) x c, (zJ blk')[j]? = some x → len * w ≤ j → news[j - len * w]? = some c → VR E true x c) :
  Out E C.P .write (.own E.bl.length w) (E.bl.set id none ++ [some blk']) (Builtin.append_ #[t, tx] ty #[.slice a len cap, v]) := by
 obtain ⟨i, z, hi, hz, hiz, hby, hzc⟩ := zCU hs
 subst hiz
 have hid := z4 hbk
 cases hown.own_slice with
 | intro _ hch =>
  obtain ⟨hc, hh⟩ := hch
  obtain ⟨_, hext, hadr⟩ := hh blk hbk
  have hnl := src.newsLen
  rcases Nat.lt_or_ge cap (len + n) with hg | hg
  · -- a new row
   have hbn : n * i.bytes ≤ 281474976710656 := by
    rw [← hby]; rw [Nat.add_mul] at hb; omega
   have run := src.grow i z hu hi hz rfl a len cap olds (hold _ fun _ => rfl) hg (by omega) hbn (by rw [← hby]; exact zHx hg hb)
   generalize hgc : grownCap E.w (len + n) cap e = g at run
   have hgle : len + n ≤ g := by rw [← hgc]; exact grownCap_ge _ _ _ _
   have go1 := Go.drew m
   have hle : (len + n) * i.size ≤ g * i.size := Nat.mul_le_mul_right _ hgle
   have hsz : ((olds ++ news).toArray ++ Builtin.zeroCells z.cells (g - (len + n))).size = g * i.size := by
    simp only [Array.size_append, List.size_toArray, size_zeroCells, List.length_append, hnl, hzc, holdl]
    rw [← Nat.add_mul, ← Nat.add_mul]; congr 1; omega
   have go2 := Go.new go1.mem ((olds ++ news).toArray ++ Builtin.zeroCells z.cells (g - (len + n))) e (g * i.size) blk' (0, 0) (fun j _ => by simp) hf (by rw [hl]; exact hle) (by rw [hsz]; exact Nat.le_refl _) (fun j x c hx hc => by
    have hj := (List.getElem?_eq_some_iff.1 hx).1
    rw [hl, Nat.add_mul] at hj
    rw [Array.getElem?_append_left (by simp [hnl, holdl]; exact hj)] at hc
    have hc' : (olds ++ news)[j]? = some c := by simpa using hc
    rcases Nat.lt_or_ge j (len * i.size) with hlt | hge
    ·rw [List.getElem?_append_left (by omega)] at hc'
     exact (holdr j x c (h1 j x hx hlt) hc').mono go1.step
    ·rw [List.getElem?_append_right (by omega), holdl] at hc'
     exact (h2 j x c hx hge hc').mono go1.step) (jK hr)
   have go3 := Go.kill go2.mem id
   refine ⟨_, _, run, ?_, (go1.trans go2).trans go3, (wG hr hgle (Nat.le_refl _)).mono go3.step⟩
   show (E.bl ++ [some blk']).set id none = _
   rw [List.set_append_left _ _ hid]
   rfl
  ·rcases Nat.eq_zero_or_pos cap with h0 | h0
   · -- nothing at all
    have hn0 : n = 0 := by omega
    have hl00 : len = 0 := by omega
    subst hn0; subst hl00; subst h0
    have hnil : news = [] := List.length_eq_zero_iff.1 (by rw [hnl]; simp)
    subst hnil
    have run := src.nothing rfl i hu hi rfl a 0 0 (Nat.le_refl _)
    have hfl : zJ blk' = [] := List.length_eq_zero_iff.1 (by rw [hl]; simp)
    have go := Go.move m id blk blk' hbk hf (by rw [hfl]; simp) (fun j x hx => by rw [hfl] at hx; simp at hx) (jK hr0) (jK hr)
    refine ⟨_, E.move id blk', run, rfl, go, ?_⟩
    have hbn : zF (E.move id blk').bl E.bl.length = some blk' := by
     show zF (E.bl.set id none ++ [some blk']) E.bl.length = _
     have : E.bl.length = (E.bl.set id none).length := by simp
     rw [this]; exact kO
    refine .own _ _ _ _ _ (z4 hbn) (Nat.le_refl _) fun b hb => ?_
    rw [hbn] at hb; cases hb
    exact ⟨hr, by simp, .inl rfl⟩
   ·rcases hadr with h | rfl
    ·omega
    have ok := m.ok id blk hbk
    have hle : (len + n) * i.size ≤ cap * i.size := Nat.mul_le_mul_right _ hg
    have hroomc : ∀ j, j < news.length → (E.cell (E.loc id).1 ((E.loc id).2.1 + len * i.size + j)).isSome = true ∧ E.w.frozen? ⟨(E.loc id).1, (E.loc id).2.1 + len * i.size + j, none⟩ = false := fun j hj => by
     have := ok.room (jK hr0) (len * i.size + j) (by rw [Nat.add_mul] at hle; omega)
     rw [← Nat.add_assoc] at this
     exact this
    have hbn : n * i.bytes ≤ 281474976710656 := by
     rw [← hby]; rw [Nat.add_mul] at hb; omega
    have run := src.room i hu hi rfl (E.loc id).1 (E.loc id).2.1 len cap hg hbn (fun j hj => (hroomc j hj).1) (fun j hj => (hroomc j hj).2)
    have go1 := Go.put m id (len * i.size) news blk blk hbk (by rw [hnl]; rw [Nat.add_mul] at hle; omega) ok.fit ok.len (fun j x hx hj1 hj2 => by
     have := (List.getElem?_eq_some_iff.1 hx).1; omega) (fun j x hx _ => hx) (fun _ _ h => h) (fun _ _ h => h) (jK hr0)
    have hbl1 : zF (E.put id (len * i.size) news blk).bl id = some blk := yE hid
    have ok1 := go1.mem.ok id blk hbl1
    have go2 := Go.move go1.mem id blk blk' hbl1 hf (by rw [hl]; show _ ≤ (E.loc id).2.2; omega) (fun j x hx => by
     have hj := (List.getElem?_eq_some_iff.1 hx).1
     rw [hl, Nat.add_mul] at hj
     rcases Nat.lt_or_ge j (len * i.size) with hlt | hge
     ·exact ok1.cells j x (h1 j x hx hlt)
     ·have hjn : j - len * i.size < news.length := by omega
      refine ⟨news[j - len * i.size], ?_, (h2 j x _ hx hge (List.getElem?_eq_getElem hjn)).mono go1.step⟩
      have := zIQ (blk := blk) (fun j hj => (hroomc j hj).1) (j - len * i.size) _ (List.getElem?_eq_getElem hjn)
      rw [show (E.loc id).2.1 + len * i.size + (j - len * i.size) = (E.loc id).2.1 + j from by omega] at this
      exact this) (jK hr0) (jK hr)
    refine ⟨_, (E.put id (len * i.size) news blk).move id blk', run, ?_, go1.trans go2, ?_⟩
    ·show (E.bl.set id (some blk)).set id none ++ _ = _
     rw [List.set_set]
     rfl
    ·have hlen' : (E.put id (len * i.size) news blk).bl.length = E.bl.length := by simp [Env.put]
     have hbn : zF ((E.put id (len * i.size) news blk).move id blk').bl E.bl.length = some blk' := by
      show zF ((E.bl.set id (some blk)).set id none ++ [some blk']) E.bl.length = _
      have : E.bl.length = ((E.bl.set id (some blk)).set id none).length := by simp
      rw [this]; exact kO
     refine .own _ _ _ _ _ (z4 hbn) hg fun b hb => ?_
     rw [hbn] at hb; cases hb
     have hl2 : ((E.put id (len * i.size) news blk).move id blk').loc E.bl.length = E.loc id := by
      show (if E.bl.length = (E.put id (len * i.size) news blk).bl.length then _ else _) = _
      rw [hlen', if_pos rfl]
      rfl
     rw [hl2]
     exact ⟨hr, hext, .inr rfl⟩
end
end Go.Abs
end
