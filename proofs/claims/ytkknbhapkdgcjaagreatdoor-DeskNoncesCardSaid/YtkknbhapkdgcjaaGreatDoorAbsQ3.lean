/- An executor of the model's code over abstract values, and that it is right: what it tells of a run is what the run does. No condition. -/
import Derived.Test.YtkknbhapkdgcjaaGreatDoorAbsQ2
import Derived.Laws.StructEq
import Derived.DeepKeys
section
set_option linter.unusedVariables false
set_option linter.unusedSimpArgs false
namespace Go.Abs
open Go
section
variable {R : Type} {C : Ctx}
theorem confGo_get {P : Program} {cf : TypeId → AV → Bool} : ∀ {fs : List Field} {kids : List AV} {off f : Nat} {a : Field}, confGo P cf fs kids off = true → fs[f]? = some a →
  ∃ y, kids[f]? = some y ∧ a.offset = off + widths (kids.take f) ∧ sizeQ P a.type = width y ∧ cf a.type y = true
 | [], kids, off, f, a, h, hf => by simp at hf
 | b :: fs, [], off, f, a, h, hf => by simp [confGo] at h
 | b :: fs, y :: kids, off, 0, a, h, hf => by
  simp at hf; subst hf
  simp [confGo] at h
  exact ⟨y, rfl, by simp [widths]; exact h.1.1.1, h.1.1.2, h.1.2⟩
 | b :: fs, y :: kids, off, f + 1, a, h, hf => by
  simp at hf
  simp [confGo] at h
  obtain ⟨z, h1, h2, h3, h4⟩ := confGo_get h.2 hf
  exact ⟨z, by simpa using h1, by simp [widths]; omega, h3, h4⟩
theorem conf_struct {P : Program} {n : Nat} {t : TypeId} {x : AV} {fs : Array Field} (h : conf P n t x = true) (hu : P.underlying t = some (.struct fs)) :
  ∃ m kids, n = m + 1 ∧ x = .agg kids ∧ ∀ (f : Nat) a, fs[f]? = some a → ∃ y, kids[f]? = some y ∧ a.offset = widths (kids.take f) ∧ sizeQ P a.type = width y ∧ conf P m a.type y = true := by
 cases n with
 | zero => simp [conf] at h
 | succ m =>
  unfold conf at h
  rw [hu] at h
  cases x <;> simp at h
  rename_i kids
  refine ⟨m, kids, rfl, rfl, fun f a hf => ?_⟩
  obtain ⟨y, h1, h2, h3, h4⟩ := confGo_get h.1 (f := f) (a := a) (by simpa using hf)
  exact ⟨y, h1, by omega, h3, h4⟩
theorem conf_array {P : Program} {n : Nat} {t e m : Nat} {x : AV} (h : conf P n t x = true) (hu : P.underlying t = some (.array m e)) :
  (∃ k l, x = .ints k m l ∧ kindOf P e = some k ∧ sizeQ P e = 1) ∨
  (∃ kids n', n = n' + 1 ∧ x = .agg kids ∧ kids.length = m ∧ ∀ y ∈ kids, conf P n' e y = true ∧ width y = sizeQ P e) := by
 cases n with
 | zero => simp [conf] at h
 | succ n' =>
  unfold conf at h
  rw [hu] at h
  cases x <;> simp at h
  ·rename_i kids
   exact .inr ⟨kids, n', rfl, rfl, h.1.1, fun y hy => h.1.2 y hy⟩
  ·rename_i k n2 l
   obtain ⟨⟨⟨rfl, h2⟩, h3⟩, h4⟩ := h
   exact .inl ⟨k, l, rfl, h2, h3⟩
theorem widths_take_eq {kids : List AV} {w : Nat} (h : ∀ y ∈ kids, width y = w) : ∀ i, i ≤ kids.length → widths (kids.take i) = i * w := by
 intro i
 induction i with
 | zero => intro _; simp [widths]
 | succ i ih =>
  intro hi
  rw [List.take_succ_eq_append_getElem (by omega), widths_append, ih (by omega)]
  simp only [widths, Nat.add_zero]
  rw [h _ (List.getElem_mem _), Nat.succ_mul]
theorem kindOf_inv {P : Program} {e : TypeId} {k : IntKind} (h : kindOf P e = some k) : P.underlying e = some (.int k) := by
 unfold kindOf at h
 split at h
 ·cases h; assumption
 ·cases h
theorem part_sound {P : Program} {E : Env} {o : Bool} {f t off : Nat} {y : AV} {cs : Array Value} (hc : conf P f t y = true) (hf : Fit y)
  (h : ∀ (j : Nat) z, (flat y)[j]? = some z → ∃ c, cs[off + j]? = some c ∧ VR E o z c) : ∃ v, ∀ w, (part t cs off).run P w = .ok v w ∧ VR E o y v := by
 obtain ⟨d, hu, hs, hr⟩ := conf_gives hc
 have hl := hf.length
 rcases hr with ⟨hl, hd⟩ | ⟨hd, hr⟩
 ·obtain ⟨h1, h2⟩ := hl.one
  obtain ⟨c, g1, g2⟩ := h 0 y (by rw [h1]; rfl)
  rw [Nat.add_zero] at g1
  exact ⟨c, fun w => ⟨by simp [part, run_isAgg hu, hd, g1], g2⟩⟩
 ·have hsz : width y ≤ cs.size - off := by
   rcases Nat.eq_zero_or_pos (width y) with h0 | h0
   ·omega
   ·obtain ⟨c, g1, _⟩ := h (width y - 1) _ (List.getElem?_eq_getElem (by omega))
    have := (Array.getElem?_eq_some_iff.1 g1).1
    omega
  have hget : ∀ (j : Nat) c, (cs.extract off (off + width y))[j]? = some c → ∃ z, (flat y)[j]? = some z ∧ VR E o z c := fun j c hj => by
   have hjl := (Array.getElem?_eq_some_iff.1 hj).1
   simp at hjl
   have hz := List.getElem?_eq_getElem (l := flat y) (i := j) (by omega)
   obtain ⟨c', g1, g2⟩ := h j _ hz
   rw [Array.getElem?_extract] at hj
   rw [if_pos (by omega)] at hj
   rw [g1] at hj
   cases hj
   exact ⟨_, hz, g2⟩
  refine ⟨.agg (cs.extract off (off + width y)), fun w => ⟨by simp [part, run_isAgg hu, hd, run_sizeOf hu, hs], ?_⟩⟩
  rcases hr with ⟨kids, rfl⟩ | ⟨k, n, l, rfl⟩
  ·refine .agg _ _ _ hf (by simp [width]; simp only [flat, width] at hl hsz; omega) fun j z c hz hj => ?_
   obtain ⟨z', h1, h2⟩ := hget j c hj
   simp only [flat] at h1
   rw [hz] at h1
   cases h1
   exact h2
  ·have hn := hf.len
   have : (cs.extract off (off + width (.ints k n l))) = (l.map (Value.int k)).toArray := by
    apply Array.ext_getElem?
    intro j
    cases hj : (cs.extract off (off + width (.ints k n l)))[j]? with
    | none =>
     have : l.length ≤ j := by
      have := Array.getElem?_eq_none_iff.1 hj
      simp only [Array.size_extract, width] at this hsz
      omega
     simp [List.getElem?_eq_none this]
    | some c =>
     obtain ⟨z, hz, hv⟩ := hget j c hj
     simp only [flat, List.getElem?_map] at hz
     cases hlj : l[j]? with
     | none => simp [hlj] at hz
     | some m =>
      simp [hlj] at hz
      subst hz
      rw [hv.int_inv]
      simp [hlj]
   rw [this]
   exact .ints _ _ _ _ hn
theorem VR.agg_inv {E : Env} {o : Bool} {kids : List AV} {v : Value} (h : VR E o (.agg kids) v) : ∃ cs, v = .agg cs ∧ Fit (.agg kids) ∧ cs.size = (flats kids).length ∧
  ∀ (j : Nat) x c, (flats kids)[j]? = some x → cs[j]? = some c → VR E o x c := by
 cases h with
 | agg _ _ cs hf hs h => exact ⟨cs, rfl, hf, hs, h⟩
theorem kid_cells {E : Env} {o : Bool} {kids : List AV} {cs : Array Value} (hf : Fit (.agg kids)) (hs : cs.size = (flats kids).length)
  (h : ∀ (j : Nat) x c, (flats kids)[j]? = some x → cs[j]? = some c → VR E o x c) {f : Nat} {y : AV} (hy : kids[f]? = some y) :
  ∀ (j : Nat) z, (flat y)[j]? = some z → ∃ c, cs[widths (kids.take f) + j]? = some c ∧ VR E o z c := fun j z hz => by
 have hfl : (flats kids)[widths (kids.take f) + j]? = some z := by
  rw [flats_split hy, List.getElem?_append_right (by rw [fits_length fun x hx => hf.kid (List.mem_of_mem_take hx)]; omega),
   fits_length fun x hx => hf.kid (List.mem_of_mem_take hx), Nat.add_sub_cancel_left, List.getElem?_append_left (List.getElem?_eq_some_iff.1 hz).1]
  exact hz
 have hlt := (List.getElem?_eq_some_iff.1 hfl).1
 have hc : cs[widths (kids.take f) + j]? = some (cs[widths (kids.take f) + j]'(by omega)) := Array.getElem?_eq_getElem (by omega)
 exact ⟨_, hc, h _ _ _ hfl hc⟩
theorem fieldK_sound {t : TypeId} {x : AV} {f : Nat} {K : AV → Option R} {r : R} (h : fieldK C t x f K = some r) :
  ∃ v, (∀ K2 : AV → Option R, fieldK C t x f K2 = K2 v) ∧ ∀ E o x', VR E o x x' → ∃ v', ∀ w, (Instr.field t x' f).run C.P w = .ok v' w ∧ VR E o v v' := by
 unfold fieldK at h
 split at h <;> (try (cases h; done))
 rename_i kids
 split at h <;> (try (cases h; done))
 rename_i y fs hy hu
 split at h <;> (try (cases h; done))
 rename_i a ha
 split at h <;> (try (cases h; done))
 rename_i hc
 refine ⟨y, fun K2 => by simp [fieldK, hy, hu, ha, hc], fun E o x' hx => ?_⟩
 obtain ⟨cs, rfl, hf, hs, hcells⟩ := hx.agg_inv
 obtain ⟨m, kids', _, hk, hget⟩ := conf_struct hc hu
 cases hk
 obtain ⟨y', g1, g2, g3, g4⟩ := hget f a ha
 rw [hy] at g1
 cases g1
 obtain ⟨v, hv⟩ := part_sound (P := C.P) (E := E) (o := o) (cs := cs) (off := a.offset) g4 (hf.kid (List.mem_of_getElem? hy)) (by rw [g2]; exact kid_cells hf hs hcells hy)
 exact ⟨v, fun w => ⟨by simp [Instr.field, run_underlying hu, ha, asAgg, (hv w).1], (hv w).2⟩⟩
theorem bytesOf_get (s : ByteArray) (i : Nat) (h : i < s.size) : s[i]? = some s[i] ∧ (bytesOf s).getD i 0 = (s[i].toNat : Int) := by
 refine ⟨by simp [h], ?_⟩
 have : i < s.data.toList.length := by simpa using h
 simp [bytesOf, List.getElem?_eq_getElem this, h]
 rfl
theorem indexK_sound {t : TypeId} {x ix : AV} {K : AV → Option R} {r : R} (h : indexK C t x ix K = some r) :
  ∃ v, (∀ K2 : AV → Option R, indexK C t x ix K2 = K2 v) ∧ ∀ E o x' i', VR E o x x' → VR E o ix i' → ∃ v', ∀ w, (Instr.index t x' i').run C.P w = .ok v' w ∧ VR E o v v' := by
 unfold indexK at h
 split at h <;> (try (cases h; done))
 rename_i ik i
 split at h <;> (try (cases h; done))
 ·rename_i n e k m l hu
  split at h <;> (try (cases h; done))
  rename_i hc
  split at h <;> (try (cases h; done))
  rename_i h0
  split at h <;> (try (cases h; done))
  rename_i h1
  refine ⟨.int k (l.getD i.toNat 0), fun K2 => by simp only [indexK, hu, hc, h0, h1, if_true], fun E o x' i' hx hi => ?_⟩
  cases hi
  have hfx : VR E o (.ints k m l) x' := hx
  cases hx with
  | ints _ _ _ _ hl =>
   rcases conf_array hc hu with ⟨k', l', e1, e2, e3⟩ | ⟨_, _, _, e1, _⟩
   ·cases e1
    have hin : i.toNat < l.length := by omega
    refine ⟨.int k (l.getD i.toNat 0), fun w => ⟨?_, .int _ _ _⟩⟩
    have hue := kindOf_inv e2
    have hp : (part e (l.map (Value.int k)).toArray i.toNat).run C.P w = .ok (.int k (l.getD i.toNat 0)) w := by
     simp [part, run_isAgg hue, TypeDesc.isRow, List.getElem?_eq_getElem hin]
    simp [Instr.index, asIntOf, run_underlying hu, h0, h1, run_sizeOf hue, e3, hp]
   ·cases e1
 ·rename_i n e kids hu
  split at h <;> (try (cases h; done))
  rename_i hc
  split at h <;> (try (cases h; done))
  rename_i h0
  split at h <;> (try (cases h; done))
  rename_i h1
  refine ⟨kids.getD i.toNat .any, fun K2 => by simp only [indexK, hu, hc, h0, h1, if_true], fun E o x' i' hx hi => ?_⟩
  cases hi
  obtain ⟨cs, rfl, hf, hs, hcells⟩ := hx.agg_inv
  rcases conf_array hc hu with ⟨_, _, e1, _⟩ | ⟨kids', n', _, e1, e2, e3⟩
  ·cases e1
  ·cases e1
   have hin : i.toNat < kids.length := by omega
   have hy := List.getElem?_eq_getElem hin
   have hd : kids.getD i.toNat .any = kids[i.toNat] := by simp [hy]
   obtain ⟨c1, c2⟩ := e3 _ (List.getElem_mem hin)
   obtain ⟨d, hue, _⟩ := conf_gives c1
   obtain ⟨v, hv⟩ := part_sound (P := C.P) (E := E) (o := o) (cs := cs) (off := i.toNat * sizeQ C.P e) c1 (hf.kid (List.getElem_mem hin)) (by
    have := kid_cells hf hs hcells hy
    rwa [widths_take_eq (fun y hy => (e3 y hy).2) _ (Nat.le_of_lt hin)] at this)
   refine ⟨v, fun w => ⟨?_, by rw [hd]; exact (hv w).2⟩⟩
   simp [Instr.index, asIntOf, run_underlying hu, h0, h1, run_sizeOf hue, (hv w).1]
 ·rename_i s hu
  split at h <;> (try (cases h; done))
  rename_i h0
  split at h <;> (try (cases h; done))
  rename_i h1
  refine ⟨.int .u8 ((bytesOf s).getD i.toNat 0), fun K2 => by simp only [indexK, hu, h0, h1, if_true], fun E o x' i' hx hi => ?_⟩
  cases hi
  cases hx
  have hin : i.toNat < s.size := by omega
  obtain ⟨g1, g2⟩ := bytesOf_get s i.toNat hin
  refine ⟨.int .u8 (s[i.toNat].toNat : Int), fun w => ⟨?_, by rw [g2]; exact .int _ _ _⟩⟩
  simp [Instr.index, asIntOf, run_underlying hu, h0, g1]
end
end Go.Abs
end
section
set_option linter.unusedVariables false
set_option linter.unusedSimpArgs false
namespace Go.Abs
open Go
section
variable {R : Type} {C : Ctx}
theorem offPath_snoc : ∀ {p : List Nat} {v x : AV} {q : Nat} (i : Nat), getPath v p = some x → offPath v p = some q → offPath v (p ++ [i]) = (offPath x [i]).map (q + ·)
 | [], v, x, q, i, hg, ho => by simp [getPath] at hg; simp [offPath] at ho; subst hg; subst ho; simp
 | a :: p, .agg kids, x, q, i, hg, ho => by
  simp only [getPath] at hg
  simp only [offPath, List.cons_append] at ho ⊢
  split at hg
  ·rename_i y hy
   simp only [hy] at ho ⊢
   cases hq : offPath y p with
   | none => simp [hq] at ho
   | some q' =>
    simp [hq] at ho
    rw [offPath_snoc i hg hq]
    cases offPath x [i] <;> simp; omega
  ·cases hg
 | [a], .ints k n l, x, q, i, hg, ho => by
  simp [getPath] at hg; subst hg
  simp [offPath]
 | a :: b :: p, .ints k n l, x, q, i, hg, ho => by simp [getPath] at hg
 | a :: p, .any, x, _, _, h, _ | a :: p, .bool _, x, _, _, h, _ | a :: p, .int _ _, x, _, _, h, _ | a :: p, .str _, x, _, _, h, _ | a :: p, .nilp, x, _, _, h, _ | a :: p, .ptr _ _, x, _, _, h, _ | a :: p, .aptr _ _ _ _, x, _, _, h, _
 | a :: p, .rptr _, x, _, _, h, _ | a :: p, .snil, x, _, _, h, _ | a :: p, .slice _ _ _ _ _, x, _, _, h, _ | a :: p, .own _ _, x, _, _, h, _ | a :: p, .rints _ _, x, _, _, h, _ | a :: p, .robjs _ _ _, x, _, _, h, _ | a :: p, .tup _, x, _, _, h, _
 | a :: p, .fn _ _ _, x, _, _, h, _ | a :: p, .nilf, x, _, _, h, _ | a :: p, .iface _ _, x, _, _, h, _ | a :: p, .nili, x, _, _, h, _ | a :: p, .raw _, x, _, _, h, _ | a :: p, .errv _ _ _, x, _, _, h, _ | a :: p, .rmap _, x, _, _, h, _ => by simp [getPath] at h
theorem offB_snoc {blk : Blk} {p : List Nat} {x : AV} {q i q' : Nat} (hg : getB blk p = some x) (ho : offB blk p = some q) (hx : offPath x [i] = some q') : offB blk (p ++ [i]) = some (q + q') := by
 cases blk with
 | free => simp [offB] at ho
 | mp l => simp [offB] at ho
 | var v => simp only [offB, getB] at hg ho ⊢; rw [offPath_snoc i hg ho, hx]; rfl
 | ints k l =>
  cases p with
  | nil => simp [getB] at hg
  | cons a p => cases p with
   | nil => simp [getB] at hg; subst hg; simp [offPath] at hx
   | cons => simp [getB] at hg
 | objs e w l =>
  cases p with
  | nil => simp [getB] at hg
  | cons a p =>
   simp only [getB] at hg
   simp only [offB, List.cons_append] at ho ⊢
   cases hz : l[a]? with
   | none => simp [hz] at ho
   | some z =>
    simp only [hz] at ho ⊢
    have : l.getD a .any = z := by simp [hz]
    rw [this] at hg
    cases hq : offPath z p with
    | none => simp [hq] at ho
    | some q0 =>
     simp [hq] at ho
     rw [offPath_snoc i hg hq, hx]
     simp; omega
theorem run_fieldPlace {P : Program} {a : Addr} {f : Field} {d : TypeDesc} (hu : P.underlying f.type = some d) (h : sizeQ P f.type ≠ 0) (w : World) : (fieldPlace a f).run P w = .ok (a.add f.offset) w := by
 simp [fieldPlace, run_sizeOf hu, h]
theorem fieldAddrK_sound {t : TypeId} {x : AV} {f : Nat} {bl : Blks} {K : Kont R} {r : R} (h : fieldAddrK C t x f bl K = some r) :
  ∃ cat v, KS (R := R) (fieldAddrK C t x f) bl cat v bl ∧ cat ≠ .write ∧ ∀ E, (E.bl = bl ∨ cat = .pure) → Mem E → ∀ a, VR E true x a → ∃ v', (Instr.fieldAt t a f).run C.P E.w = .ok v' E.w ∧ VR E true v v' := by
 unfold fieldAddrK at h
 split at h
 ·rename_i kids
  split at h <;> (try (cases h; done))
  rename_i y fs hy hu
  split at h <;> (try (cases h; done))
  rename_i a ha
  split at h <;> (try (cases h; done))
  rename_i hc
  refine ⟨.pure, .rptr y, .ofPure fun bl K => by simp only [fieldAddrK, hy, hu, ha, if_pos hc], by simp, fun E hE m p hp => ?_⟩
  simp only [Bool.and_eq_true, decide_eq_true_eq] at hc
  obtain ⟨m', kids', _, hk, hget⟩ := conf_struct hc.1 hu
  cases hk
  obtain ⟨y', g1, g2, g3, g4⟩ := hget f a ha
  rw [hy] at g1; cases g1
  obtain ⟨d, hud, _⟩ := conf_gives g4
  cases hp with
  | rptr _ _ p hf hs vv hh hv =>
   obtain ⟨pb, po, ps⟩ := p
   simp at hs; subst hs
   have hin : ∀ (j : Nat) z, (flat y)[j]? = some z → (flat (.agg kids))[a.offset + j]? = some z := fun j z hz => by
    simp only [flat]
    rw [flats_split hy, g2, List.getElem?_append_right (by rw [fits_length fun x hx => hf.kid (List.mem_of_mem_take hx)]; omega),
     fits_length fun x hx => hf.kid (List.mem_of_mem_take hx), Nat.add_sub_cancel_left, List.getElem?_append_left (List.getElem?_eq_some_iff.1 hz).1]
    exact hz
   refine ⟨.pointer (some ⟨pb, po + a.offset, none⟩), by simp [Instr.fieldAt, run_underlying hu, ha, Instr.sureAddr, run_fieldPlace hud hc.2, Addr.add_mid], ?_⟩
   exact .rptr _ _ _ (hf.kid (List.mem_of_getElem? hy)) rfl (fun j => vv (a.offset + j)) (fun j z hz => by simp only [Nat.add_assoc]; exact hh _ z (hin j z hz)) fun j z hz => hv _ z (hin j z hz)
 ·rename_i id path
  split at h <;> (try (cases h; done))
  rename_i b hb
  split at h <;> (try (cases h; done))
  rename_i fs hu
  split at h <;> (try (cases h; done))
  rename_i a ha
  obtain ⟨y, hk, x, hy, sim⟩ := decB_sound h
  rw [hk] at h
  split at h <;> (try (cases h; done))
  rename_i hc
  refine ⟨.read, .ptr id (path ++ [f]), .ofRead fun K => by simp only [fieldAddrK, hb, hu, ha]; rw [hk, if_pos hc], by simp, fun E hE m p hp => ?_⟩
  rcases hE with rfl | hE
  ·simp only [Bool.and_eq_true, decide_eq_true_eq] at hc
   obtain ⟨m', kids, _, hk, hget⟩ := conf_struct hc.1 hu
   subst hk
   obtain ⟨z, g1, g2, g3, g4⟩ := hget f a ha
   obtain ⟨d, hud, _⟩ := conf_gives g4
   obtain ⟨q, hq, rfl⟩ := hp.loc_ptr hb
   refine ⟨.pointer (some ⟨(E.loc id).1, (E.loc id).2.1 + q + a.offset, none⟩), by simp [Instr.fieldAt, run_underlying hu, ha, Instr.sureAddr, run_fieldPlace hud hc.2, Addr.add_mid], ?_⟩
   refine .ptr _ _ _ (bget_lt hb) fun blk hb' => ?_
   rw [hb] at hb'; cases hb'
   have ho : offPath x [f] = some (widths (kids.take f)) := by rw [← sim.off]; simp [offPath, g1]
   exact ⟨rfl, q + widths (kids.take f), offB_snoc hy hq ho, rfl, by simp [g2]; omega⟩
  ·cases hE
 ·cases h
end
end Go.Abs
end
section
set_option linter.unusedVariables false
set_option linter.unusedSimpArgs false
namespace Go.Abs
open Go
section
variable {R : Type} {C : Ctx}
theorem szOK_inv {P : Program} {e : TypeId} {w : Nat} (h : szOK P e w = true) : sizeQ P e = w ∧ w ≠ 0 := by
 simp only [szOK, Bool.and_eq_true, beq_iff_eq, bne_iff_ne] at h; exact h.1
theorem szOK_zero {P : Program} {e : TypeId} {w : Nat} (h : szOK P e w = true) : ∃ i z, P.info? e = some i ∧ i.zero = some z ∧ i.size = w ∧ bytesQ P e = i.bytes ∧ z.cells.size = i.size := by
 have h1 := (szOK_inv h).1
 simp only [szOK, Bool.and_eq_true] at h
 have h2 := h.2
 split at h2
 ·rename_i i hi
  split at h2
  ·rename_i z hz
   exact ⟨i, z, hi, hz, by simpa [sizeQ, hi] using h1, by simp [bytesQ, hi], by simpa using h2⟩
  ·cases h2
 ·cases h2
theorem run_sizeOf' {P : Program} {e : TypeId} {wd : Nat} (h : szOK P e wd = true) (w : World) : (sizeOf e).run P w = .ok wd w := by
 obtain ⟨h1, h2⟩ := szOK_inv h
 unfold sizeQ at h1
 split at h1
 ·rename_i i hi
  simp [sizeOf, typeInfo, hi, h1]
 ·omega
theorem rowB_off {blk : Blk} {p : List Nat} {q w c i : Nat} (h : rowB blk p = some (q, w, c)) (hi : i < c) : offB blk (p ++ [i]) = some (q + i * w) := by
 cases blk with
 | free => simp [rowB] at h
 | mp l => simp [rowB] at h; omega
 | var v =>
  have h' := h
  simp only [rowB] at h
  split at h
  ·rename_i k n l q' hg ho
   obtain ⟨h1, rfl, rfl⟩ := rowB_var hg h'
   rw [h1] at ho; cases ho
   simp only [offB]
   rw [offPath_snoc i hg h1]
   simp [offPath, hi]
  ·cases h
 | ints k l =>
  cases p with
  | nil => simp [rowB] at h; obtain ⟨rfl, rfl, rfl⟩ := h; simp [offB, hi]
  | cons => simp [rowB] at h
 | objs e w' l =>
  cases p with
  | nil => simp [rowB] at h; obtain ⟨rfl, rfl, rfl⟩ := h; simp [offB, List.getElem?_eq_getElem hi, offPath]
  | cons => simp [rowB] at h
theorem run_indexAt_slice {P : Program} {t e : TypeId} {ad : Addr} {len cap : Nat} {k : IntKind} {i : Int} {wd : Nat} (hu : P.underlying t = some (.slice e)) (hs : szOK P e wd = true) (h0 : 0 ≤ i) (h1 : i < len) (w : World) :
  (Instr.indexAt t (.slice (some ad) len cap) (.int k i)).run P w = .ok (.pointer (some (ad.add (i.toNat * wd)))) w := by
 simp [Instr.indexAt, asIntOf, run_underlying hu, h0, h1, run_sizeOf' hs]
theorem run_indexAt_array {P : Program} {t e : TypeId} {ad : Addr} {n : Nat} {k : IntKind} {i : Int} {wd : Nat} (hu : P.underlying t = some (.array n e)) (hs : ∀ w, (sizeOf e).run P w = .ok wd w) (h0 : 0 ≤ i) (h1 : i < n) (w : World) :
  (Instr.indexAt t (.pointer (some ad)) (.int k i)).run P w = .ok (.pointer (some (ad.add (i.toNat * wd)))) w := by
 simp [Instr.indexAt, asIntOf, run_underlying hu, Instr.sureAddr, h0, h1, hs]
theorem indexAddrK_sound {t : TypeId} {x ix : AV} {bl : Blks} {K : Kont R} {r : R} (h : indexAddrK C t x ix bl K = some r) :
  ∃ cat v, KS (R := R) (indexAddrK C t x ix) bl cat v bl ∧ cat ≠ .write ∧ ∀ E, (E.bl = bl ∨ cat = .pure) → Mem E → ∀ a i', VR E true x a → VR E true ix i' → ∃ v', (Instr.indexAt t a i').run C.P E.w = .ok v' E.w ∧ VR E true v v' := by
 unfold indexAddrK at h
 split at h <;> (try (cases h; done))
 rename_i ik i
 split at h <;> (try (cases h; done))
 ·rename_i e k l hu
  split at h <;> (try (cases h; done))
  rename_i hs
  split at h <;> (try (cases h; done))
  rename_i h0
  split at h <;> (try (cases h; done))
  rename_i h1
  refine ⟨.pure, .rptr (.int k (l.getD i.toNat 0)), .ofPure fun bl K => by simp only [indexAddrK, hu, hs, h0, h1, if_true], by simp, fun E hE m a i' ha hi => ?_⟩
  cases hi
  cases ha with
  | rints _ _ _ a cap hc hh =>
   have hin : i.toNat < l.length := by omega
   obtain ⟨ad, rfl, g1, g2, g3⟩ := hh i.toNat hin
   obtain ⟨ab, ao, as⟩ := ad
   simp at g1 g2 g3; subst g1
   refine ⟨_, run_indexAt_slice hu hs h0 (by simpa using h1) E.w, ?_⟩
   rw [Addr.add_mid, Nat.mul_one]
   exact .rptr _ _ _ (.leaf _ ⟨by simp, by simp⟩) rfl (fun _ => .int k (l.getD i.toNat 0)) (fun j y hy => by
    cases j with
    | zero => exact ⟨g2, by simpa using g3⟩
    | succ j => simp [flat] at hy) fun j y hy => by
    cases j with
    | zero => simp [flat] at hy; subst hy; simp; exact .int _ _ _
    | succ j => simp [flat] at hy
 ·rename_i e e' wd l hu
  split at h <;> (try (cases h; done))
  rename_i hs
  split at h <;> (try (cases h; done))
  rename_i h0
  split at h <;> (try (cases h; done))
  rename_i h1
  obtain ⟨y, hd, hsim⟩ := decK_sound h
  have hsame := hsim.same
  refine ⟨.pure, .rptr y, .ofPure fun bl K => by simp only [indexAddrK, hu, hs, h0, h1, if_true]; rw [hd], by simp, fun E hE m a i' ha hi => ?_⟩
  cases hi
  cases ha with
  | robjs _ _ _ _ a cap hc hw vv hne hh hv =>
   have hin : i.toNat < l.length := by omega
   have hx := List.getElem?_eq_getElem hin
   have hgd : l.getD i.toNat .any = l[i.toNat] := by simp [hx]
   rw [hgd] at hsame
   obtain ⟨ad, rfl, g1⟩ := hne (fun e => by subst e; simp at hin)
   obtain ⟨ab, ao, as⟩ := ad
   simp at g1; subst g1
   refine ⟨_, run_indexAt_slice hu hs h0 (by simpa using h1) E.w, ?_⟩
   rw [Addr.add_mid]
   have hzz : ∀ (j : Nat) z', (flat y)[j]? = some z' → ∃ z, (flat l[i.toNat])[j]? = some z := fun j z' hz' => by
    have hj := (List.getElem?_eq_some_iff.1 hz').1
    exact ⟨_, List.getElem?_eq_getElem (by rw [← hsame.len]; exact hj)⟩
   refine .rptr _ _ _ (hsame.fit (hw _ (List.getElem_mem hin)).1.1) rfl (fun j => vv i.toNat j) (fun j z' hz' => ?_) fun j z' hz' => ?_
   ·obtain ⟨z, hz⟩ := hzz j z' hz'
    exact hh _ i.toNat _ j z rfl hx hz
   ·obtain ⟨z, hz⟩ := hzz j z' hz'
    exact hsame.vr j z z' hz hz' E false _ (hv i.toNat _ j z hx hz)
 ·rename_i e id wd hu
  split at h <;> (try (cases h; done))
  rename_i hs
  split at h <;> (try (cases h; done))
  all_goals
   rename_i hb
   split at h <;> (try (cases h; done))
   rename_i h0
   split at h <;> (try (cases h; done))
   rename_i h1
   refine ⟨.read, .ptr id [i.toNat], .ofRead fun K => by simp only [indexAddrK, hu, hs, hb, h0, h1, if_true], by simp, fun E hE m a i' ha hi => ?_⟩
   rcases hE with rfl | hE
   ·cases hi
    cases ha with
    | mown _ r hid hh => have g := (hh _ hb).1; simp [rowB] at g
    | own _ _ len a cap hid hc hh =>
     obtain ⟨g1, g2, g3⟩ := hh _ hb
     have g1' := g1
     simp [rowB] at g1
     have hlen : i < (len : Int) := by rw [← g1.2]; exact h1
     have hw := g1.1
     rcases g3 with rfl | rfl
     ·omega
     ·refine ⟨_, run_indexAt_slice hu hs h0 hlen E.w, ?_⟩
      rw [Addr.add_mid]
      refine .ptr _ _ _ hid fun blk hb' => ?_
      rw [hb] at hb'; cases hb'
      exact ⟨rfl, i.toNat * wd, by have := rowB_off g1' (i := i.toNat) (by omega); simpa using this, rfl, rfl⟩
   ·cases hE
 ·rename_i e id p st len wd hu
  split at h <;> (try (cases h; done))
  rename_i hs
  split at h <;> (try (cases h; done))
  rename_i h0
  split at h <;> (try (cases h; done))
  rename_i h1
  refine ⟨.pure, .ptr id (p ++ [st + i.toNat]), .ofPure fun bl K => by simp only [indexAddrK, hu, hs, h0, h1, if_true], by simp, fun E hE m a i' ha hi => ?_⟩
  cases hi
  cases ha with
  | slice _ _ _ _ _ a cap hid hc hsm hh =>
   rcases hsm with rfl | ⟨ad, rfl⟩
   ·omega
   ·refine ⟨_, run_indexAt_slice hu hs h0 h1 E.w, ?_⟩
    refine .ptr _ _ _ hid fun blk hb => ?_
    obtain ⟨q, c, g1, g2, g3, g4⟩ := hh blk hb
    rcases g4 with rfl | g4
    ·omega
    ·cases g4
     rw [Addr.add_mid]
     exact ⟨rfl, q + (st + i.toNat) * wd, rowB_off g1 (by omega), rfl, by simp [Nat.add_mul]; omega⟩
 ·rename_i n e k m' l hu
  split at h <;> (try (cases h; done))
  rename_i hs
  split at h <;> (try (cases h; done))
  rename_i h0
  split at h <;> (try (cases h; done))
  rename_i h1
  refine ⟨.pure, .rptr (.int k (l.getD i.toNat 0)), .ofPure fun bl K => by simp only [indexAddrK, hu, hs, h0, h1, if_true], by simp, fun E hE m a i' ha hi => ?_⟩
  simp only [Bool.and_eq_true, beq_iff_eq] at hs
  obtain ⟨rfl, hs⟩ := hs
  cases hi
  cases ha with
  | rptr _ _ a hf hsp vv hh hv =>
   have hl := hf.len
   have hin : i.toNat < l.length := by omega
   obtain ⟨ab, ao, as⟩ := a
   simp at hsp; subst hsp
   have hz : (flat (.ints k m' l))[i.toNat]? = some (.int k l[i.toNat]) := by simp [flat, List.getElem?_eq_getElem hin]
   refine ⟨_, run_indexAt_array hu (run_sizeOf' hs) h0 h1 E.w, ?_⟩
   rw [Addr.add_mid, Nat.mul_one]
   have e : l.getD i.toNat 0 = l[i.toNat] := by simp [List.getElem?_eq_getElem hin]
   rw [e]
   exact .rptr _ _ _ (.leaf _ ⟨by simp, by simp⟩) rfl (fun j => vv (i.toNat + j)) (fun j y hy => by
    cases j with
    | zero => exact hh _ _ hz
    | succ j => simp [flat] at hy) fun j y hy => by
    cases j with
    | zero => simp [flat] at hy; subst hy; exact hv _ _ hz
    | succ j => simp [flat] at hy
 ·rename_i n e kids hu
  split at h <;> (try (cases h; done))
  rename_i hs
  split at h <;> (try (cases h; done))
  rename_i h0
  split at h <;> (try (cases h; done))
  rename_i h1
  refine ⟨.pure, .rptr (kids.getD i.toNat .any), .ofPure fun bl K => by simp only [indexAddrK, hu, hs, h0, h1, if_true], by simp, fun E hE m a i' ha hi => ?_⟩
  simp only [Bool.and_eq_true, beq_iff_eq] at hs
  cases hi
  rcases conf_array hs.2 hu with ⟨_, _, e1, _⟩ | ⟨kids', n', _, e1, e2, e3⟩
  ·cases e1
  cases e1
  have hin : i.toNat < kids.length := by omega
  have hy := List.getElem?_eq_getElem hin
  have hd : kids.getD i.toNat .any = kids[i.toNat] := by simp [hy]
  rw [hd]
  obtain ⟨c1, c2⟩ := e3 _ (List.getElem_mem hin)
  obtain ⟨d, hue, _⟩ := conf_gives c1
  cases ha with
  | rptr _ _ a hf hsp vv hh hv =>
   obtain ⟨ab, ao, as⟩ := a
   simp at hsp; subst hsp
   have hin' : ∀ (j : Nat) z, (flat kids[i.toNat])[j]? = some z → (flat (.agg kids))[i.toNat * sizeQ C.P e + j]? = some z := fun j z hz => by
    simp only [flat]
    rw [flats_split hy, ← widths_take_eq (fun y hy => (e3 y hy).2) _ (Nat.le_of_lt hin), List.getElem?_append_right (by rw [fits_length fun x hx => hf.kid (List.mem_of_mem_take hx)]; omega),
     fits_length fun x hx => hf.kid (List.mem_of_mem_take hx), Nat.add_sub_cancel_left, List.getElem?_append_left (List.getElem?_eq_some_iff.1 hz).1]
    exact hz
   refine ⟨_, run_indexAt_array hu (fun w => run_sizeOf hue w) h0 h1 E.w, ?_⟩
   rw [Addr.add_mid]
   exact .rptr _ _ _ (hf.kid (List.getElem_mem hin)) rfl (fun j => vv (i.toNat * sizeQ C.P e + j)) (fun j z hz => by simp only [Nat.add_assoc]; exact hh _ z (hin' j z hz)) fun j z hz => hv _ z (hin' j z hz)
 ·rename_i n e id p hu
  split at h <;> (try (cases h; done))
  rename_i b hb
  obtain ⟨y, hk, x, hy, sim⟩ := decB_sound h
  rw [hk] at h
  split at h <;> (try (cases h; done))
  rename_i hc
  split at h <;> (try (cases h; done))
  rename_i h0
  split at h <;> (try (cases h; done))
  rename_i h1
  refine ⟨.read, .ptr id (p ++ [i.toNat]), .ofRead fun K => by simp only [indexAddrK, hu, hb]; rw [hk]; simp only [hc, h0, h1, if_true], by simp, fun E hE m a i' ha hi => ?_⟩
  rcases hE with rfl | hE
  ·cases hi
   obtain ⟨q, hq, rfl⟩ := ha.loc_ptr hb
   rcases conf_array hc hu with ⟨k, l, e1, e2, e3⟩ | ⟨kids, n', _, e1, e2, e3⟩
   ·subst e1
    have hue := kindOf_inv e2
    refine ⟨_, run_indexAt_array hu (fun w => run_sizeOf hue w) h0 h1 E.w, ?_⟩
    rw [Addr.add_mid, e3, Nat.mul_one]
    refine .ptr _ _ _ (bget_lt hb) fun blk hb' => ?_
    rw [hb] at hb'; cases hb'
    exact ⟨rfl, q + i.toNat, offB_snoc hy hq (by rw [← sim.off]; simp [offPath]; omega), rfl, by simp; omega⟩
   ·subst e1
    have hin : i.toNat < kids.length := by omega
    obtain ⟨c1, c2⟩ := e3 _ (List.getElem_mem hin)
    obtain ⟨d, hue, _⟩ := conf_gives c1
    refine ⟨_, run_indexAt_array hu (fun w => run_sizeOf hue w) h0 h1 E.w, ?_⟩
    rw [Addr.add_mid]
    refine .ptr _ _ _ (bget_lt hb) fun blk hb' => ?_
    rw [hb] at hb'; cases hb'
    exact ⟨rfl, q + i.toNat * sizeQ C.P e, offB_snoc hy hq (by rw [← sim.off]; simp [offPath, List.getElem?_eq_getElem hin, widths_take_eq (fun y hy => (e3 y hy).2) _ (Nat.le_of_lt hin)]), rfl, by simp; omega⟩
  ·cases hE
end
end Go.Abs
end
section
set_option linter.unusedVariables false
set_option linter.unusedSimpArgs false
namespace Go.Abs
open Go
section
variable {R : Type} {C : Ctx}
theorem cut_length {α : Type} (r : List α) (l : Nat) (h : Option Nat) (h1 : l ≤ h.getD r.length) (h2 : h.getD r.length ≤ r.length) : (cut r l h).length = h.getD r.length - l := by
 cases h with
 | none => simp [cut]
 | some h => simp [cut] at h2 ⊢; omega
theorem span_eq (n l : Nat) (h : Option Nat) : span n l h = h.getD n - l := by cases h <;> rfl
theorem cut_get {α : Type} (r : List α) (l : Nat) (h : Option Nat) (i : Nat) (x : α) (hx : (cut r l h)[i]? = some x) : r[l + i]? = some x := by
 cases h with
 | none => simpa [cut] using hx
 | some h =>
  simp only [cut, List.getElem?_take, List.getElem?_drop] at hx
  split at hx
  ·exact hx
  ·cases hx
theorem cut_getD {α : Type} (r : List α) (l : Nat) (h : Option Nat) (d : α) (i : Nat) (hi : i < (cut r l h).length) : (cut r l h).getD i d = r.getD (l + i) d := by
 have h1 := List.getElem?_eq_getElem hi
 have h2 := cut_get r l h i _ h1
 simp [List.getD_eq_getElem?_getD, h1, h2]
theorem optmap_some {x : Option AV} {x' : Option Value} {E : Env} (h : (x = none ∧ x' = none) ∨ ∃ y v, x = some y ∧ x' = some v ∧ VR E true y v) :
  (∀ z, x = some z → ∃ v, x' = some v ∧ VR E true z v) ∧ (x = none → x' = none) := by
 rcases h with ⟨rfl, rfl⟩ | ⟨y, v, rfl, rfl, h⟩
 ·exact ⟨fun z hz => by simp at hz, fun _ => rfl⟩
 ·exact ⟨fun z hz => by cases hz; exact ⟨v, rfl, h⟩, fun h => by simp at h⟩
def OptR (E : Env) (x : Option AV) (x' : Option Value) : Prop := (x = none ∧ x' = none) ∨ ∃ y v, x = some y ∧ x' = some v ∧ VR E true y v
theorem run_slice_slice {P : Program} {t e : TypeId} {a : Option Addr} {len cap l h wd : Nat} {lo hi : Option Value} (hu : P.underlying t = some (.slice e)) (hs : szOK P e wd = true) {w : World}
  (hb : (Instr.sliceBounds true len cap lo hi none).run P w = .ok (l, h, cap) w) :
  (Instr.sliceAt t (.slice a len cap) lo hi none).run P w = .ok (.slice (if cap = l then a else a.map (·.add (l * wd))) (h - l) (cap - l)) w := by
 simp [Instr.sliceAt, Instr.slice, run_underlying hu, hb, run_sizeOf' hs]
theorem run_slice_array {P : Program} {t e n : Nat} {a : Addr} {l h wd : Nat} {lo hi : Option Value} (hu : P.underlying t = some (.array n e)) (hs : szOK P e wd = true) {w : World}
  (hb : (Instr.sliceBounds false n n lo hi none).run P w = .ok (l, h, n) w) :
  (Instr.sliceAt t (.pointer (some a)) lo hi none).run P w = .ok (.slice (some (if n = l then a else a.add (l * wd))) (h - l) (n - l)) w := by
 simp [Instr.sliceAt, run_underlying hu, Instr.sureAddr, hb, run_sizeOf' hs]
theorem vr_rints_of {E : Env} {o : Bool} {k : IntKind} {r' r : List Int} {b off l : Nat} {a : Option Addr} {cap : Nat} (hc : r'.length ≤ cap)
  (hget : ∀ i, i < r'.length → r'.getD i 0 = r.getD (l + i) 0 ∧ l + i < r.length)
  (ha : r' ≠ [] → a = some ⟨b, off + l, none⟩) (h : ∀ i, i < r.length → E.ro b (off + i) ∧ E.cell b (off + i) = some (.int k (r.getD i 0))) :
  VR E o (.rints k r') (.slice a r'.length cap) := by
 refine .rints o k r' a cap hc fun i hi => ?_
 obtain ⟨h1, h2⟩ := hget i hi
 obtain ⟨g1, g2⟩ := h (l + i) h2
 refine ⟨_, ha (fun e => by subst e; simp at hi), rfl, ?_, ?_⟩
 ·simp only; rw [Nat.add_assoc]; exact g1
 ·simp only; rw [Nat.add_assoc, h1]; exact g2
theorem sliceK_sound {t : TypeId} {x : AV} {lo hi : Option AV} {bl : Blks} {K : Kont R} {r : R} (h : sliceK C t x lo hi bl K = some r) :
  ∃ cat v, KS (R := R) (sliceK C t x lo hi) bl cat v bl ∧ cat ≠ .write ∧ ∀ E, (E.bl = bl ∨ cat = .pure) → Mem E → ∀ a lo' hi', VR E true x a → OptR E lo lo' → OptR E hi hi' →
   ∃ v', (Instr.sliceAt t a lo' hi' none).run C.P E.w = .ok v' E.w ∧ VR E true v v' := by
 unfold sliceK at h
 split at h <;> (try (cases h; done))
 ·rename_i s hu
  obtain ⟨l, h', hd, b1, b2, hb⟩ := boundsK_sound h
  refine ⟨.pure, .str (s.extract l (h'.getD s.size)), .ofPure fun bl K => by simp only [sliceK, hu]; rw [hd], by simp, fun E hE m a lo' hi' ha hl hh => ?_⟩
  cases ha
  obtain ⟨l1, l2⟩ := optmap_some hl
  obtain ⟨h1, h2⟩ := optmap_some hh
  have := hb C.P E lo' hi' l1 h1 l2 h2 E.w false s.size (Nat.le_refl _)
  exact ⟨_, by simp [Instr.sliceAt, Instr.slice, run_underlying hu, this], .str _ _⟩
 ·rename_i e hu
  split at h <;> (try (cases h; done))
  rename_i hs
  obtain ⟨l, h', hd, b1, b2, hb⟩ := boundsK_sound h
  refine ⟨.pure, .snil, .ofPure fun bl K => by simp only [sliceK, hu, hs, if_true]; rw [hd], by simp, fun E hE m a lo' hi' ha hl hh => ?_⟩
  cases ha
  obtain ⟨l1, l2⟩ := optmap_some hl
  obtain ⟨h1, h2⟩ := optmap_some hh
  have := hb C.P E lo' hi' l1 h1 l2 h2 E.w true 0 (Nat.le_refl _)
  have hl0 : l = 0 := by omega
  have hh0 : h'.getD 0 = 0 := by omega
  refine ⟨_, run_slice_slice hu hs this, ?_⟩
  rw [hl0, hh0]
  exact .snil _
 ·rename_i e k r0 hu
  split at h <;> (try (cases h; done))
  rename_i hs
  obtain ⟨l, h', hd, b1, b2, hb⟩ := boundsK_sound h
  refine ⟨.pure, .rints k (cut r0 l h'), .ofPure fun bl K => by simp only [sliceK, hu, hs, if_true]; rw [hd], by simp, fun E hE m a lo' hi' ha hl hh => ?_⟩
  cases ha with
  | rints _ _ _ a cap hc hr =>
   obtain ⟨l1, l2⟩ := optmap_some hl
   obtain ⟨h1, h2⟩ := optmap_some hh
   have := hb C.P E lo' hi' l1 h1 l2 h2 E.w true cap hc
   have hlen := cut_length r0 l h' b1 b2
   refine ⟨_, run_slice_slice hu hs this, ?_⟩
   rw [← hlen]
   refine .rints _ _ _ _ _ (by omega) fun i hi => ?_
   obtain ⟨ad, rfl, g1, g2, g3⟩ := hr (l + i) (by omega)
   obtain ⟨ab, ao, as⟩ := ad
   simp at g1 g2 g3; subst g1
   refine ⟨⟨ab, ao + l, none⟩, ?_, rfl, by simp only [Nat.add_assoc]; exact g2, by simp only [Nat.add_assoc]; rw [cut_getD _ _ _ _ _ hi]; simpa using g3⟩
   rw [if_neg (by omega)]
   simp [Addr.add_mid]
 ·rename_i e e' wd r0 hu
  split at h <;> (try (cases h; done))
  rename_i hs
  obtain ⟨l, h', hd, b1, b2, hb⟩ := boundsK_sound h
  refine ⟨.pure, .robjs e' wd (cut r0 l h'), .ofPure fun bl K => by simp only [sliceK, hu, hs, if_true]; rw [hd], by simp, fun E hE m a lo' hi' ha hl hh => ?_⟩
  cases ha with
  | robjs _ _ _ _ a cap hc hw vv hne hr hv =>
   obtain ⟨l1, l2⟩ := optmap_some hl
   obtain ⟨h1, h2⟩ := optmap_some hh
   have := hb C.P E lo' hi' l1 h1 l2 h2 E.w true cap hc
   have hlen := cut_length r0 l h' b1 b2
   refine ⟨_, run_slice_slice hu hs this, ?_⟩
   rw [← hlen]
   have hnel : cut r0 l h' ≠ [] → r0 ≠ [] ∧ cap ≠ l := fun hne' => by
    have := List.length_pos_iff.2 hne'
    have hr0 : 0 < r0.length := by omega
    exact ⟨fun e => by rw [e] at hr0; simp at hr0, by omega⟩
   refine .robjs _ _ _ _ _ _ (by omega) (fun x hx => ?_) (fun i j => vv (l + i) j) (fun hne' => ?_) (fun ad i x j y had hx hy => ?_) fun i x j y hx hy => hv (l + i) x j y (cut_get _ _ _ _ _ hx) hy
   ·obtain ⟨i, hi⟩ := List.mem_iff_getElem?.1 hx
    exact hw x (List.mem_of_getElem? (cut_get _ _ _ _ _ hi))
   ·obtain ⟨n1, n2⟩ := hnel hne'
    obtain ⟨ad, rfl, g1⟩ := hne n1
    obtain ⟨ab, ao, as⟩ := ad
    simp at g1; subst g1
    exact ⟨⟨ab, ao + l * wd, none⟩, by rw [if_neg n2]; simp [Addr.add_mid], rfl⟩
   ·obtain ⟨n1, n2⟩ := hnel (fun e => by rw [e] at hx; simp at hx)
    obtain ⟨ad0, rfl, g1⟩ := hne n1
    obtain ⟨ab, ao, as⟩ := ad0
    simp at g1; subst g1
    rw [if_neg n2] at had
    simp [Addr.add_mid] at had
    subst had
    have := hr _ (l + i) x j y rfl (cut_get _ _ _ _ _ hx) hy
    simp only at this ⊢
    rw [show ao + l * wd + i * wd + j = ao + (l + i) * wd + j from by rw [Nat.add_mul]; omega]
    exact this
 ·rename_i e id p st len wd hu
  split at h <;> (try (cases h; done))
  rename_i hs
  obtain ⟨l, h', hd, b1, b2, hb⟩ := boundsK_sound h
  refine ⟨.pure, .slice id p (st + l) (span len l h') wd, .ofPure fun bl K => by simp only [sliceK, hu, hs, if_true]; rw [hd], by simp, fun E hE m a lo' hi' ha hl hh => ?_⟩
  cases ha with
  | slice _ _ _ _ _ a cap hid hc hsm hr =>
   obtain ⟨l1, l2⟩ := optmap_some hl
   obtain ⟨h1, h2⟩ := optmap_some hh
   have := hb C.P E lo' hi' l1 h1 l2 h2 E.w true cap hc
   refine ⟨_, run_slice_slice hu hs this, ?_⟩
   rw [span_eq]
   refine .slice _ _ _ _ _ _ _ hid (by omega) ?_ fun blk hb => ?_
   ·rcases hsm with rfl | ⟨ad, rfl⟩
    ·exact .inl (by omega)
    ·refine .inr ?_
     split
     ·exact ⟨_, rfl⟩
     ·exact ⟨_, rfl⟩
   ·obtain ⟨q, c, g1, g2, g3, g4⟩ := hr blk hb
    refine ⟨q, c, g1, by omega, ?_, ?_⟩
    ·have : (st + l + (cap - l)) * wd ≤ (st + cap) * wd := Nat.mul_le_mul_right _ (by omega)
     omega
    ·by_cases hcl : cap = l
     ·exact .inl (by omega)
     ·rw [if_neg hcl]
      rcases g4 with rfl | rfl
      ·omega
      ·refine .inr ?_
       simp [Addr.add_mid, Nat.add_mul]
       omega
 ·rename_i e id wd hu
  split at h <;> (try (cases h; done))
  rename_i hs
  split at h <;> (try (cases h; done))
  all_goals
   rename_i rl hb0
   obtain ⟨l, h', hd, b1, b2, hb⟩ := boundsK_sound h
   refine ⟨.read, pieceOf id wd rl.length l h', .ofRead fun K => by simp only [sliceK, hu, hs, hb0, if_true]; rw [hd], by simp, fun E hE m a lo' hi' ha hl hh => ?_⟩
   rcases hE with rfl | hE
   ·cases ha with
    | mown _ r hid hr => have g := (hr _ hb0).1; simp [rowB] at g
    | own _ _ len a cap hid hc hr =>
     obtain ⟨g1, g2, g3⟩ := hr _ hb0
     have g1' := g1
     simp [rowB] at g1
     obtain ⟨g0, rfl⟩ := g1
     obtain ⟨l1, l2⟩ := optmap_some hl
     obtain ⟨h1, h2⟩ := optmap_some hh
     have := hb C.P E lo' hi' l1 h1 l2 h2 E.w true cap hc
     refine ⟨_, run_slice_slice hu hs this, ?_⟩
     have hgen : VR E true (.slice id [] l (span rl.length l h') wd) (.slice (if cap = l then a else a.map (·.add (l * wd))) (h'.getD rl.length - l) (cap - l)) := by
      rw [span_eq]
      refine .slice _ _ _ _ _ _ _ hid (by omega) ?_ fun blk hb => ?_
      ·rcases g3 with rfl | rfl
       ·exact .inl (by omega)
       ·refine .inr ?_
        split <;> exact ⟨_, rfl⟩
      ·rw [hb0] at hb; cases hb
       refine ⟨0, _, g1', by omega, ?_, ?_⟩
       ·have : (l + (cap - l)) * wd ≤ cap * wd := Nat.mul_le_mul_right _ (by omega)
        omega
       ·by_cases hcl : cap = l
        ·exact .inl (by omega)
        ·rw [if_neg hcl]
         rcases g3 with rfl | rfl
         ·omega
         ·refine .inr ?_
          simp [Addr.add_mid]
     unfold pieceOf
     split
     ·exact hgen
     ·split
      ·simp only [Option.getD_none, Nat.sub_zero, Nat.zero_mul]
       refine .own _ _ _ _ _ hid (by omega) fun blk hb => ?_
       rw [hb0] at hb; cases hb
       refine ⟨g1', by omega, ?_⟩
       rcases g3 with rfl | rfl
       ·exact .inl rfl
       ·refine .inr ?_
        split
        ·rfl
        ·simp [Addr.add_mid]
      ·exact hgen
   ·cases hE
 ·rename_i n e k m' r0 hu
  split at h <;> (try (cases h; done))
  rename_i hs
  obtain ⟨l, h', hd, b1, b2, hb⟩ := boundsK_sound h
  refine ⟨.pure, .rints k (cut r0 l h'), .ofPure fun bl K => by simp only [sliceK, hu, hs, if_true]; rw [hd], by simp, fun E hE m a lo' hi' ha hl hh => ?_⟩
  simp only [Bool.and_eq_true, beq_iff_eq] at hs
  obtain ⟨rfl, hs⟩ := hs
  cases ha with
  | rptr _ _ a hf hsp vv hr hv =>
   have hln := hf.len
   subst hln
   obtain ⟨ab, ao, as⟩ := a
   simp at hsp; subst hsp
   obtain ⟨l1, l2⟩ := optmap_some hl
   obtain ⟨h1, h2⟩ := optmap_some hh
   have := hb C.P E lo' hi' l1 h1 l2 h2 E.w false r0.length (Nat.le_refl _)
   have hlen := cut_length r0 l h' b1 b2
   refine ⟨_, run_slice_array hu hs this, ?_⟩
   rw [← hlen]
   refine vr_rints_of (r := r0) (l := l) (b := ab) (off := ao) (by omega) (fun i hi => ⟨cut_getD _ _ _ _ _ hi, by omega⟩) (fun hne => ?_) fun i hi => ?_
   ·have := List.length_pos_iff.2 hne
    rw [if_neg (by omega), Addr.add_mid, Nat.mul_one]
   ·have hz : (flat (.ints k r0.length r0))[i]? = some (.int k r0[i]) := by simp [flat, List.getElem?_eq_getElem hi]
    obtain ⟨g1, g2⟩ := hr i _ hz
    refine ⟨g1, ?_⟩
    simp only at g2
    rw [g2, (hv i _ hz).int_inv]
    simp [List.getElem?_eq_getElem hi]
 ·rename_i n e id p hu
  split at h <;> (try (cases h; done))
  rename_i v hb0
  split at h <;> (try (cases h; done))
  rename_i k m' r0 hg
  split at h <;> (try (cases h; done))
  rename_i hs
  obtain ⟨l, h', hd, b1, b2, hb⟩ := boundsK_sound h
  refine ⟨.read, .slice id p l (span n l h') 1, .ofRead fun K => by simp only [sliceK, hu, hb0, hg, hs, if_true]; rw [hd], by simp, fun E hE m a lo' hi' ha hl hh => ?_⟩
  rcases hE with rfl | hE
  ·simp only [Bool.and_eq_true, beq_iff_eq] at hs
   obtain ⟨rfl, hs⟩ := hs
   obtain ⟨q, hq, rfl⟩ := ha.loc_ptr hb0
   obtain ⟨l1, l2⟩ := optmap_some hl
   obtain ⟨h1, h2⟩ := optmap_some hh
   have := hb C.P E lo' hi' l1 h1 l2 h2 E.w false m' (Nat.le_refl _)
   refine ⟨_, run_slice_array hu hs this, ?_⟩
   rw [span_eq]
   have ok := m.ok id _ hb0
   have hoff : offPath v p = some q := hq
   obtain ⟨hfx, pre, post, hfl, hpre⟩ := getPath_spec ok.fit hg hoff
   have hlen0 := hfx.len
   have hext := ok.len
   simp only [flatB, hfl, flat, List.length_append, List.length_map] at hext
   refine .slice _ _ _ _ _ _ _ (bget_lt hb0) (by omega) (.inr ⟨_, rfl⟩) fun blk hb => ?_
   rw [hb0] at hb; cases hb
   refine ⟨q, m', by simp [rowB, hg, hoff], by omega, by omega, ?_⟩
   by_cases hcl : m' = l
   ·exact .inl (by omega)
   ·rw [if_neg hcl]
    exact .inr (by simp [Addr.add_mid])
  ·cases hE
end
end Go.Abs
end
section
set_option linter.unusedVariables false
set_option linter.unusedSimpArgs false
namespace Go.Abs
open Go
section
variable {R : Type} {C : Ctx}
theorem noOwns_mem : ∀ {l : List AV}, noOwns l = true → ∀ y ∈ l, noOwn y = true
 | [], _, y, hy => by simp at hy
 | a :: l, hl, y, hy => by
  simp [noOwns] at hl
  rcases List.mem_cons.1 hy with rfl | hy
  ·exact hl.1
  ·exact noOwns_mem hl.2 y hy
mutual
theorem flat_noOwn : ∀ {x : AV}, noOwn x = true → ∀ y ∈ flat x, noOwn y = true
 | .agg kids, h, y, hy => by simp only [noOwn] at h; simp only [flat] at hy; exact flats_noOwn h y hy
 | .ints k n l, h, y, hy => by
  simp only [flat, List.mem_map] at hy
  obtain ⟨m, _, rfl⟩ := hy
  rfl
 | .any, h, y, hy | .tup _, h, y, hy | .bool _, h, y, hy | .int _ _, h, y, hy | .str _, h, y, hy | .nilp, h, y, hy | .ptr _ _, h, y, hy | .aptr _ _ _ _, h, y, hy | .rptr _, h, y, hy | .snil, h, y, hy | .slice _ _ _ _ _, h, y, hy | .own _ _, h, y, hy
 | .rints _ _, h, y, hy | .robjs _ _ _, h, y, hy | .fn _ _ _, h, y, hy | .nilf, h, y, hy | .iface _ _, h, y, hy | .nili, h, y, hy | .raw _, h, y, hy | .errv _ _ _, h, y, hy | .rmap _, h, y, hy => by simp [flat] at hy; subst hy; exact h
theorem flats_noOwn : ∀ {l : List AV}, noOwns l = true → ∀ y ∈ flats l, noOwn y = true
 | [], h, y, hy => by simp [flats] at hy
 | x :: r, h, y, hy => by
  simp [noOwns] at h
  simp only [flats, List.mem_append] at hy
  rcases hy with hy | hy
  ·exact flat_noOwn h.1 y hy
  ·exact flats_noOwn h.2 y hy
end
theorem VR.low {E : Env} {b : Bool} {x : AV} {v : Value} (h : VR E b x v) : noOwn x = true → VR E false x v := by
 induction h with
 | any => exact fun _ => .any _ _
 | bool => exact fun _ => .bool _ _
 | int => exact fun _ => .int _ _ _
 | str => exact fun _ => .str _ _
 | nilp => exact fun _ => .nilp _
 | ptr => intro h; simp [noOwn] at h
 | aptr => intro h; simp [noOwn] at h
 | rptr o x a hf hs vv h hv ih => exact fun _ => .rptr _ x a hf hs vv h hv
 | snil => exact fun _ => .snil _
 | slice => intro h; simp [noOwn] at h
 | own => intro h; simp [noOwn] at h
 | rints o k l a cap hc h => exact fun _ => .rints _ k l a cap hc h
 | robjs o e w l a cap hc hw vv ha h hv ih => exact fun _ => .robjs _ e w l a cap hc hw vv ha h hv
 | agg o kids cs hf hs h ih =>
  intro hn
  simp only [noOwn] at hn
  refine .agg _ kids cs hf hs fun j x c h1 h2 => ih j x c h1 h2 ?_
  obtain ⟨y, hy, hm⟩ := flats_mem (List.mem_of_getElem? h1)
  exact flat_noOwn (noOwns_mem hn y hy) x hm
 | ints o k n l h => exact fun _ => .ints _ k n l h
 | tup o vs cs hs h ih =>
  intro hn
  simp only [noOwn] at hn
  refine .tup _ vs cs hs fun j x c h1 h2 => ih j x c h1 h2 (noOwns_mem hn x (List.mem_of_getElem? h1))
 | fn o f xs ys as bs h1 h2 g1 g2 i1 i2 =>
  intro hn
  simp only [noOwn, Bool.and_eq_true] at hn
  exact .fn _ f xs ys as bs h1 h2 (fun j x c h1 h2 => i1 j x c h1 h2 (noOwns_mem hn.1 x (List.mem_of_getElem? h1))) (fun j x c h1 h2 => i2 j x c h1 h2 (noOwns_mem hn.2 x (List.mem_of_getElem? h1)))
 | nilf => exact fun _ => .nilf _
 | iface o t x v h ih => intro hn; simp only [noOwn] at hn; exact .iface _ t x v (ih hn)
 | nili => exact fun _ => .nili _
 | raw o v h1 h2 => exact fun _ => .raw _ _ h1 h2
 | errv o tF ts k v h => exact fun _ => .errv _ _ _ _ _ h
 | rmap o l r es c hr hh hs hst hl hk hv => exact fun _ => .rmap _ l r es c hr hh hs hst hl hk hv
 | mown => exact fun h => by simp [noOwn] at h
theorem run_loadCells_of {P : Program} (w : World) (b o n : Nat) (cs : List Value) (hn : cs.length = n) (h : ∀ (j : Nat) v, cs[j]? = some v → w.cell? ⟨b, o + j, none⟩ = some v) :
  (loadCells ⟨b, o, none⟩ n).run P w = .ok cs.toArray w := by
 subst hn
 exact run_loadCells_list (P := P) w ⟨b, o, none⟩ cs fun j v hv => by rw [Addr.add_mid]; exact h j v hv
structure IntsAt (E : Env) (k : IntKind) (l : List Int) (v : Value) : Prop where
 len : ∀ (P : Program) w, (Builtin.lenOf v).run P w = .ok l.length w
 cells : ∀ (P : Program) (W : World), (∀ a, W.cell? a = E.w.cell? a) → ∀ m, m ≤ l.length → (Builtin.firstCells 1 m v).run P W = .ok ((l.take m).map (Value.int k)).toArray W
theorem intsAt_slice {E : Env} {k : IntKind} {l : List Int} {a : Option Addr} {n cap b o : Nat} (hn : n = l.length) (ha : l ≠ [] → a = some ⟨b, o, none⟩)
  (h : ∀ i, i < l.length → E.cell b (o + i) = some (.int k (l.getD i 0))) : IntsAt E k l (.slice a n cap) := by
 subst hn
 refine ⟨fun P w => rfl, fun P W hW m hm => ?_⟩
 cases a with
 | none =>
  have : l = [] := by
   by_cases e : l = []
   ·exact e
   ·exact absurd (ha e) (by simp)
  subst this
  simp [Builtin.firstCells]
 | some ad =>
  simp only [Builtin.firstCells, Nat.mul_one]
  rcases Nat.eq_zero_or_pos m with rfl | hp
  ·simp [loadCells, loadCellsFrom]
  ·have hne : l ≠ [] := fun e => by subst e; simp at hm; omega
   cases ha hne
   refine run_loadCells_of W b o m _ (by simp; omega) fun j v hv => ?_
   rw [hW]
   simp only [List.getElem?_map, List.getElem?_take] at hv
   split at hv
   ·rename_i hj
    have hjl : j < l.length := by omega
    simp [List.getElem?_eq_getElem hjl] at hv
    subst hv
    have := h j hjl
    simp [List.getElem?_eq_getElem hjl] at this
    exact this
   ·simp at hv
theorem ints_take_get (l : List Int) (s n i : Nat) (hi : i < ((l.drop s).take n).length) : ((l.drop s).take n).getD i 0 = l.getD (s + i) 0 ∧ s + i < l.length := by
 simp at hi
 have h1 : s + i < l.length := by omega
 have hin : i < n := by omega
 refine ⟨?_, h1⟩
 simp [List.getD_eq_getElem?_getD, List.getElem?_take, List.getElem?_drop, if_pos hin]
theorem elsOf_ints {bl : Blks} {x : AV} {k : IntKind} {l : List Int} (h : elsOf bl x = some (.ints k l)) {E : Env} (hE : E.bl = bl ∨ noOwn x = true) (m : Mem E) {v : Value} (hv : VR E true x v) : IntsAt E k l v := by
 unfold elsOf at h
 split at h
 ·rename_i s
  cases h
  cases hv
  refine ⟨fun P w => by simp [Builtin.lenOf, bytesOf], fun P W hW n hn => ?_⟩
  have hm : n ≤ s.size := by simpa [bytesOf] using hn
  have he : (s.extract 0 n).data = s.data.extract 0 n := by simp
  simp only [Builtin.firstCells, he, Sem.run_pure]
  congr 1
  apply Array.ext'
  simp [bytesOf]
  rfl
 ·cases h
  cases hv with
  | rints _ _ _ a cap hc hh =>
   by_cases hl : l = []
   ·subst hl
    exact intsAt_slice (b := 0) (o := 0) rfl (fun h => absurd rfl h) fun i hi => by simp at hi
   ·obtain ⟨ad, rfl, g1, _⟩ := hh 0 (List.length_pos_iff.2 hl)
    obtain ⟨ab, ao, as⟩ := ad
    simp at g1; subst g1
    refine intsAt_slice (b := ab) (o := ao) rfl (fun _ => rfl) fun i hi => ?_
    obtain ⟨ad, e, _, _, g⟩ := hh i hi
    cases e
    exact g
 ·cases h
 ·rename_i id w
  rcases hE with rfl | hE
  ·split at h
   ·rename_i k' l' hb
    cases h
    cases hv with
    | mown _ r hid hh => have g := (hh _ hb).1; simp [rowB] at g
    | own _ _ len a cap hid hc hh =>
     obtain ⟨g1, g2, g3⟩ := hh _ hb
     simp [rowB] at g1
     obtain ⟨_, rfl⟩ := g1
     have ok := m.ok id _ hb
     refine intsAt_slice (b := (E.loc id).1) (o := (E.loc id).2.1) rfl (fun hne => ?_) fun i hi => ?_
     ·rcases g3 with rfl | rfl
      ·have := List.length_pos_iff.2 hne; omega
      ·rfl
     ·obtain ⟨v, h1, h2⟩ := ok.cells i (.int k (l.getD i 0)) (by simp [flatB, List.getElem?_eq_getElem hi])
      rw [h1, h2.int_inv]
   ·cases h
   ·cases h
  ·simp [noOwn] at hE
 ·rename_i id path s n w
  rcases hE with rfl | hE
  ·split at h
   ·rename_i _ _ k' l' hb
    cases h
    cases hv with
    | slice _ _ _ _ _ a cap hid hc hsm hh =>
     obtain ⟨q, c, g1, g2, g3, g4⟩ := hh _ hb
     simp [rowB] at g1
     obtain ⟨rfl, rfl, rfl⟩ := g1
     have ok := m.ok id _ hb
     refine intsAt_slice (b := (E.loc id).1) (o := (E.loc id).2.1 + s) (by simp; omega) (fun hne => ?_) fun i hi => ?_
     ·rcases g4 with rfl | rfl
      ·have := List.length_pos_iff.2 hne; simp at this; omega
      ·simp
     ·obtain ⟨e1, e2⟩ := ints_take_get l' s n i hi
      obtain ⟨v, h1, h2⟩ := ok.cells (s + i) (.int k (l'.getD (s + i) 0)) (by simp [flatB, List.getElem?_eq_getElem e2])
      rw [Nat.add_assoc, h1, h2.int_inv, e1]
   ·cases h
   ·rename_i path _ _ v0 hb
    split at h
    ·rename_i k' n' l' hg
     cases h
     cases hv with
     | slice _ _ _ _ _ a cap hid hc hsm hh =>
      obtain ⟨q, c, g1, g2, g3, g4⟩ := hh _ hb
      obtain ⟨ho, rfl, rfl⟩ := rowB_var hg g1
      have ok := m.ok id _ hb
      obtain ⟨f1, f2⟩ := getB_spec (blk := .var v0) ok.fit hg ho
      have hln := f1.len
      refine intsAt_slice (b := (E.loc id).1) (o := (E.loc id).2.1 + q + s) (by simp; omega) (fun hne => ?_) fun i hi => ?_
      ·rcases g4 with rfl | rfl
       ·have := List.length_pos_iff.2 hne; simp at this; omega
       ·simp
      ·obtain ⟨e1, e2⟩ := ints_take_get l' s n i hi
       obtain ⟨v, h1, h2⟩ := ok.cells (q + (s + i)) (.int k (l'.getD (s + i) 0)) (f2 (s + i) _ (by simp [flat, List.getElem?_eq_getElem e2]))
       rw [Nat.add_assoc, Nat.add_assoc, h1, h2.int_inv, e1]
    ·cases h
   ·cases h
  ·simp [noOwn] at hE
 ·cases h
end
end Go.Abs
end
section
set_option linter.unusedVariables false
set_option linter.unusedSimpArgs false
namespace Go.Abs
open Go
section
variable {R : Type} {C : Ctx}
theorem capK_sound {t : TypeId} {x : AV} {bl : Blks} {K : Kont R} {r : R} (h : capK C t x bl K = some r) :
  ∃ v, KS (R := R) (capK C t x) bl .pure v bl ∧ ∀ E : Env, ∀ a (ts : Array TypeId) ty, ts[0]? = some t → VR E true x a → ∃ v', (Builtin.cap_ ts ty #[a]).run C.P E.w = .ok v' E.w ∧ VR E true v v' := by
 unfold capK at h
 split at h <;> (try (cases h; done))
 rename_i e hu
 exact ⟨.int .i64 0, .ofPure fun bl K => by simp only [capK, hu], fun E a ts ty hts ha => ⟨_, by cases ha; simp [Builtin.cap_, hts, run_underlying hu, goInt], .int _ _ _⟩⟩
theorem lenK_sound {t : TypeId} {x : AV} {bl : Blks} {K : Kont R} {r : R} (h : lenK C t x bl K = some r) :
  ∃ cat v, KS (R := R) (lenK C t x) bl cat v bl ∧ cat ≠ .write ∧ ∀ E, (E.bl = bl ∨ cat = .pure) → Mem E → ∀ a (ts : Array TypeId) ty, ts[0]? = some t → VR E true x a → ∃ v', (Builtin.len_ ts ty #[a]).run C.P E.w = .ok v' E.w ∧ VR E true v v' := by
 unfold lenK at h
 split at h <;> (try (cases h; done))
 ·rename_i s hu
  exact ⟨.pure, .int .i64 s.size, .ofPure fun bl K => by simp only [lenK, hu], by simp, fun E hE m a ts ty hts ha => ⟨_, by cases ha; simp [Builtin.len_, hts, run_underlying hu, goInt], .int _ _ _⟩⟩
 ·rename_i e hu
  exact ⟨.pure, .int .i64 0, .ofPure fun bl K => by simp only [lenK, hu], by simp, fun E hE m a ts ty hts ha => ⟨_, by cases ha; simp [Builtin.len_, hts, run_underlying hu, goInt], .int _ _ _⟩⟩
 ·rename_i e k l hu
  exact ⟨.pure, .int .i64 l.length, .ofPure fun bl K => by simp only [lenK, hu], by simp, fun E hE m a ts ty hts ha => ⟨_, by cases ha; simp [Builtin.len_, hts, run_underlying hu, goInt], .int _ _ _⟩⟩
 ·rename_i e e' w l hu
  exact ⟨.pure, .int .i64 l.length, .ofPure fun bl K => by simp only [lenK, hu], by simp, fun E hE m a ts ty hts ha => ⟨_, by cases ha; simp [Builtin.len_, hts, run_underlying hu, goInt], .int _ _ _⟩⟩
 ·rename_i e i1 i2 i3 n i4 hu
  exact ⟨.pure, .int .i64 n, .ofPure fun bl K => by simp only [lenK, hu], by simp, fun E hE m a ts ty hts ha => ⟨_, by cases ha; simp [Builtin.len_, hts, run_underlying hu, goInt], .int _ _ _⟩⟩
 ·rename_i e id w hu
  split at h <;> (try (cases h; done))
  all_goals
   rename_i l hb
   refine ⟨.read, .int .i64 l.length, .ofRead fun K => by simp only [lenK, hu, hb], by simp, fun E hE m a ts ty hts ha => ?_⟩
   rcases hE with rfl | hE
   ·cases ha with
    | mown _ r hid hh => have g := (hh _ hb).1; simp [rowB] at g
    | own _ _ len a cap hid hc hh =>
     obtain ⟨g1, _⟩ := hh _ hb
     simp [rowB] at g1
     exact ⟨_, by simp [Builtin.len_, hts, run_underlying hu, goInt]; rfl, by rw [g1.2]; exact .int _ _ _⟩
   ·cases hE
 ·rename_i x n e hu
  refine ⟨.pure, .int .i64 n, .ofPure fun bl K => by simp only [lenK, hu], by simp, fun E hE m a ts ty hts ha => ⟨.int .i64 n, ?_, .int _ _ _⟩⟩
  simp [Builtin.len_, hts, run_underlying hu, goInt]
theorem arrayPtrK_sound {t : TypeId} {x : AV} {bl : Blks} {K : Kont R} {r : R} (h : arrayPtrK C t x bl K = some r) :
  ∃ cat v, KS (R := R) (arrayPtrK C t x) bl cat v bl ∧ cat ≠ .write ∧ ∀ E, (E.bl = bl ∨ cat = .pure) → Mem E → ∀ a, VR E true x a → ∃ v', (Instr.arrayAt t a).run C.P E.w = .ok v' E.w ∧ VR E true v v' := by
 unfold arrayPtrK at h
 split at h <;> (try (cases h; done))
 ·rename_i n e k l hu
  split at h <;> (try (cases h; done))
  rename_i hn
  split at h <;> (try (cases h; done))
  rename_i hn0
  refine ⟨.pure, .rptr (.ints k n (l.take n)), .ofPure fun bl K => by simp only [arrayPtrK, hu, hn, if_true]; exact if_pos hn0, by simp, fun E hE m a ha => ?_⟩
  cases ha with
  | rints _ _ _ a cap hc hh =>
   obtain ⟨ad, rfl, g1, _⟩ := hh 0 (by omega)
   obtain ⟨ab, ao, as⟩ := ad
   simp at g1; subst g1
   have hh' : ∀ i, i < l.length → E.ro ab (ao + i) ∧ E.cell ab (ao + i) = some (.int k (l.getD i 0)) := fun i hi => by
    obtain ⟨ad, e, _, g2, g3⟩ := hh i hi
    cases e
    exact ⟨g2, g3⟩
   refine ⟨.pointer (some ⟨ab, ao, none⟩), by simp [Instr.arrayAt, run_underlying hu, Nat.not_lt.2 hn], ?_⟩
   have hz : ∀ (j : Nat) y, (flat (.ints k n (l.take n)))[j]? = some y → j < l.length ∧ y = .int k (l.getD j 0) := fun j y hy => by
    simp only [flat, List.getElem?_map, List.getElem?_take] at hy
    split at hy
    ·rename_i hj
     have hjl : j < l.length := by omega
     simp [List.getElem?_eq_getElem hjl] at hy
     exact ⟨hjl, by simp [List.getElem?_eq_getElem hjl, hy]⟩
    ·simp at hy
   exact .rptr _ _ _ (.ints _ _ _ (by simp; omega)) rfl (fun j => .int k (l.getD j 0)) (fun j y hy => by
    obtain ⟨h1, rfl⟩ := hz j y hy
    exact hh' j h1) fun j y hy => by
    obtain ⟨h1, rfl⟩ := hz j y hy
    exact .int _ _ _
 ·rename_i n e id p s len w hu
  split at h <;> (try (cases h; done))
  rename_i hw
  split at h <;> (try (cases h; done))
  rename_i hn
  split at h <;> (try (cases h; done))
  rename_i hn0
  subst hw
  refine ⟨.pure, .aptr id p s n, .ofPure fun bl K => by simp only [arrayPtrK, hu, hn, if_true]; exact if_pos hn0, by simp, fun E hE m a ha => ?_⟩
  cases ha with
  | slice _ _ _ _ _ a cap hid hc hsm hh =>
   rcases hsm with rfl | ⟨ad, rfl⟩
   ·omega
   ·refine ⟨.pointer (some ad), by simp [Instr.arrayAt, run_underlying hu, Nat.not_lt.2 hn], ?_⟩
    refine .aptr _ _ _ _ _ hid fun blk hb => ?_
    obtain ⟨q, c, g1, g2, g3, g4⟩ := hh blk hb
    rcases g4 with rfl | g4
    ·omega
    ·cases g4
     exact ⟨rfl, q, 1, c, g1, rfl, by omega, rfl, by simp⟩
 ·rename_i n e id w hu
  split at h <;> (try (cases h; done))
  rename_i hw
  subst hw
  split at h <;> (try (cases h; done))
  rename_i k l hb
  split at h <;> (try (cases h; done))
  rename_i hn
  split at h <;> (try (cases h; done))
  rename_i hn0
  refine ⟨.read, .aptr id [] 0 n, .ofRead fun K => by simp only [arrayPtrK, hu, hb, hn, if_true]; exact if_pos hn0, by simp, fun E hE m a ha => ?_⟩
  rcases hE with rfl | hE
  ·cases ha with
   | own _ _ len a cap hid hc hh =>
    obtain ⟨g1, g2, g3⟩ := hh _ hb
    simp [rowB] at g1
    subst g1
    rcases g3 with rfl | rfl
    ·omega
    ·refine ⟨.pointer (some ⟨(E.loc id).1, (E.loc id).2.1, none⟩), by simp [Instr.arrayAt, run_underlying hu, Nat.not_lt.2 hn], ?_⟩
     refine .aptr _ _ _ _ _ hid fun blk hb' => ?_
     rw [hb] at hb'; cases hb'
     exact ⟨rfl, 0, 1, l.length, rfl, rfl, by omega, rfl, by simp⟩
  ·cases hE
theorem strOf_fold (k : List Int) (b : ByteArray) : k.foldl (fun s n => s.push (UInt8.ofNat n.toNat)) b = ⟨b.data ++ (k.map fun n => UInt8.ofNat n.toNat).toArray⟩ := by
 induction k generalizing b with
 | nil => simp
 | cons n r ih =>
  rw [List.foldl_cons, ih]
  congr 1
  apply Array.ext'
  simp [ByteArray.push]
end
end Go.Abs
end
section
set_option linter.unusedVariables false
set_option linter.unusedSimpArgs false
namespace Go.Abs
open Go
section
variable {R : Type} {C : Ctx}
def Out (E : Env) (P : Program) (cat : Cat) (v : AV) (bl' : Blks) (m : Sem Value) : Prop :=
 ∃ v' E', m.run P E.w = .ok v' E'.w ∧ (E'.bl = if cat = .pure then E.bl else bl') ∧ Go E E' ∧ VR E' true v v'
theorem Out.same {E : Env} {P : Program} {cat : Cat} {v : AV} {bl' : Blks} {m : Sem Value} (hm : Mem E) (hb : E.bl = bl' ∨ cat = .pure)
  (h : ∃ v', m.run P E.w = .ok v' E.w ∧ VR E true v v') : Out E P cat v bl' m := by
 obtain ⟨v', h1, h2⟩ := h
 refine ⟨v', E, h1, ?_, .refl hm, h2⟩
 split
 ·rfl
 ·rcases hb with hb | hb
  ·exact hb
  ·contradiction
theorem run_bytesToString_ints {P : Program} {E : Env} {l : List Int} {a : Option Addr} {n c : Nat} (h : IntsAt E .u8 l (.slice a n c)) :
  (Conv.bytesToString (.slice a n c)).run P E.w = .ok (.string (strOf l)) E.w := by
 have hn : n = l.length := by
  have := h.len P E.w
  simpa [Builtin.lenOf] using this
 subst hn
 have hc := h.cells P E.w (fun _ => rfl) l.length (Nat.le_refl _)
 cases a with
 | none =>
  simp [Builtin.firstCells] at hc
  subst hc
  rfl
 | some ad =>
  simp only [Builtin.firstCells, Nat.mul_one, List.take_length] at hc
  rw [run_bytesToString E.w ad l.length c l hc, strOf_fold]
  congr 2
  unfold strOf
  congr 1
  apply Array.ext'
  simp
theorem vr_is_slice {E : Env} {bl : Blks} {x : AV} {k : IntKind} {l : List Int} (h : elsOf bl x = some (.ints k l)) (hs : ∀ s, x ≠ .str s) (hE : E.bl = bl) {v : Value} (hv : VR E true x v) : ∃ a n c, v = .slice a n c := by
 subst hE
 unfold elsOf at h
 split at h
 ·exact absurd rfl (hs _)
 ·cases hv; exact ⟨_, _, _, rfl⟩
 ·cases hv; exact ⟨_, _, _, rfl⟩
 ·cases hv with
  | own => exact ⟨_, _, _, rfl⟩
  | mown _ r hid hh =>
   split at h <;> (try (cases h; done))
   all_goals (rename_i hb; have g := (hh _ hb).1; simp [rowB] at g)
 ·cases hv; exact ⟨_, _, _, rfl⟩
 ·cases h
theorem convOwnK_sound {s d : TypeId} {x : AV} {bl : Blks} {K : Kont R} {r : R} (hx : ∀ t, x ≠ .str t) (h : convOwnK C s d x bl K = some r) :
  ∃ v, KS (R := R) (convOwnK C s d x) bl .read v bl ∧ ∀ E, E.bl = bl → Mem E → ∀ a, VR E true x a → Out E C.P .read v bl (convert s d a) := by
 unfold convOwnK at h
 split at h <;> (try (cases h; done))
 rename_i e hs hd
 split at h <;> (try (cases h; done))
 rename_i hk
 have he := kindOf_inv hk
 split at h <;> (try (cases h; done))
 rename_i k l hl
 split at h <;> (try (cases h; done))
 rename_i hk8
 subst hk8
 refine ⟨.str (strOf l), .ofRead fun K => by simp only [convOwnK, hs, hd, hl, if_pos hk, if_true], fun E hE m a ha => .same m (.inl hE) ⟨.string (strOf l), ?_, .str _ _⟩⟩
 obtain ⟨a', n, c, rfl⟩ := vr_is_slice hl hx hE ha
 rw [run_convert_bytes_string E.w s d e a' n c hs he hd]
 exact run_bytesToString_ints (elsOf_ints hl (.inl hE) m ha)
theorem convK_sound {s d : TypeId} {x : AV} {bl : Blks} {K : Kont R} {r : R} (h : convK C s d x bl K = some r) :
  ∃ cat v bl', KS (R := R) (convK C s d x) bl cat v bl' ∧ ∀ E, (E.bl = bl ∨ cat = .pure) → Mem E → ∀ a, VR E true x a → Out E C.P cat v bl' (convert s d a) := by
 unfold convK at h
 split at h <;> (try (cases h; done))
 ·rename_i ik n
  split at h <;> (try (cases h; done))
  rename_i d1 k hs hd
  refine ⟨.pure, .int k (k.wrap n), bl, .ofPure fun bl K => by simp only [convK, hs, hd], fun E hE m a ha => .same m hE ⟨.int k (k.wrap n), ?_, .int _ _ _⟩⟩
  cases ha
  simp [convert, run_underlying hs, run_underlying hd, Conv.intToInt]
 ·rename_i st
  split at h <;> (try (cases h; done))
  ·rename_i hs hd
   refine ⟨.pure, .str st, bl, .ofPure fun bl K => by simp only [convK, hs, hd], fun E hE m a ha => .same m hE ⟨.string st, ?_, .str _ _⟩⟩
   cases ha
   simp [convert, run_underlying hs, run_underlying hd]
  ·rename_i e hs hd
   split at h <;> (try (cases h; done))
   rename_i hk
   refine ⟨.write, .own bl.length 1, bl ++ [some (.ints .u8 (bytesOf st))], .ofWrite fun K => by simp only [convK, hs, hd, if_pos hk], fun E hE m a ha => ?_⟩
   rcases hE with rfl | hE
   ·simp only [Bool.and_eq_true, decide_eq_true_eq] at hk
    have he := kindOf_inv hk.1
    cases ha
    have hrun := run_bytes_of_string (P := C.P) E.w s d e st hs hd he
    generalize hg : grownCap E.w st.size 0 e = g at hrun
    have hgle : st.size ≤ g := by rw [← hg]; exact grownCap_ge _ _ _ _
    have hsz : (bytesRow st g).size = g := by
     simp only [bytesRow, Array.size_append, Array.size_map, Array.size_replicate]
     have : st.data.size = st.size := rfl
     omega
    rw [hsz] at hrun
    have go1 := Go.drew m
    have go2 := Go.new go1.mem (bytesRow st g) e g (.ints .u8 (bytesOf st)) (g, g + 1) (fun j hj => by simp; omega) trivial (by simp [flatB, bytesOf]; exact hgle) (by rw [hsz]; exact Nat.le_refl _) (fun j x v hx hv => by
     simp only [flatB, bytesOf, List.getElem?_map] at hx
     cases hb : st.data.toList[j]? with
     | none => simp [hb] at hx
     | some b =>
      simp [hb] at hx
      subst hx
      have hj : j < st.data.size := by have := (List.getElem?_eq_some_iff.1 hb).1; simpa using this
      rw [bytesRow_at st g j hj] at hv
      have : st.data[j] = b := by
       have := List.getElem?_eq_some_iff.1 hb
       simpa using this.2
      rw [this] at hv
      cases hv
      exact .int _ _ _)
    refine ⟨_, _, hrun, rfl, go1.trans go2, ?_⟩
    have hbn : bget (E.drew.new (bytesRow st g) e g (.ints .u8 (bytesOf st)) (g, g + 1)).bl E.bl.length = some (.ints .u8 (bytesOf st)) := bget_new
    have hln : (E.drew.new (bytesRow st g) e g (.ints .u8 (bytesOf st)) (g, g + 1)).loc E.bl.length = (E.w.heap.size, 0, g) := by simp [Env.new, Env.drew]
    refine .own _ _ _ _ _ (bget_lt hbn) hgle fun blk hb => ?_
    rw [hbn] at hb; cases hb
    rw [hln]
    exact ⟨by simp [rowB, bytesOf], by simp, .inr rfl⟩
   ·cases hE
 ·split at h <;> (try (cases h; done))
  rename_i e hs hd
  split at h <;> (try (cases h; done))
  rename_i hk
  have he := kindOf_inv hk
  refine ⟨.pure, .str ByteArray.empty, bl, .ofPure fun bl K => by simp only [convK, hs, hd, if_pos hk], fun E hE m a ha => .same m hE ⟨.string ByteArray.empty, ?_, .str _ _⟩⟩
  cases ha
  rw [run_convert_bytes_string E.w s d e none 0 0 hs he hd]
  rfl
 ·rename_i k l
  split at h <;> (try (cases h; done))
  rename_i e hs hd
  split at h <;> (try (cases h; done))
  rename_i hk
  have he := kindOf_inv hk
  split at h <;> (try (cases h; done))
  rename_i hk8
  subst hk8
  refine ⟨.pure, .str (strOf l), bl, .ofPure fun bl K => by simp only [convK, hs, hd, if_pos hk, if_true], fun E hE m a ha => .same m hE ⟨.string (strOf l), ?_, .str _ _⟩⟩
  obtain ⟨a', n, c, rfl⟩ := vr_is_slice (bl := E.bl) (x := .rints .u8 l) (k := .u8) (l := l) rfl (by simp) rfl ha
  rw [run_convert_bytes_string E.w s d e a' n c hs he hd]
  exact run_bytesToString_ints (elsOf_ints (bl := bl) (x := .rints .u8 l) rfl (.inr rfl) m ha)
 ·rename_i id w
  obtain ⟨v, h1, h2⟩ := convOwnK_sound (by simp) h
  exact ⟨.read, v, bl, ⟨fun K => by simp only [convK]; exact h1.det K, fun h => (by cases h), fun _ => rfl⟩, fun E hE m a ha => by
   rcases hE with hE | hE
   ·exact h2 E hE m a ha
   ·cases hE⟩
 ·rename_i id p a n w
  obtain ⟨v, h1, h2⟩ := convOwnK_sound (by simp) h
  exact ⟨.read, v, bl, ⟨fun K => by simp only [convK]; exact h1.det K, fun h => (by cases h), fun _ => rfl⟩, fun E hE m a ha => by
   rcases hE with hE | hE
   ·exact h2 E hE m a ha
   ·cases hE⟩
end
end Go.Abs
end
section
set_option linter.unusedVariables false
set_option linter.unusedSimpArgs false
namespace Go.Abs
open Go
section
variable {R : Type} {C : Ctx}
def CellsAt (E : Env) (o : Bool) (l : List AV) (cs : Array Value) (off : Nat) : Prop := ∀ (j : Nat) z, l[j]? = some z → ∃ c, cs[off + j]? = some c ∧ VR E o z c
theorem CellsAt.left {E : Env} {o : Bool} {a b : List AV} {cs : Array Value} {off : Nat} (h : CellsAt E o (a ++ b) cs off) : CellsAt E o a cs off := fun j z hz =>
 h j z (by rw [List.getElem?_append_left (List.getElem?_eq_some_iff.1 hz).1]; exact hz)
theorem CellsAt.right {E : Env} {o : Bool} {a b : List AV} {cs : Array Value} {off : Nat} (h : CellsAt E o (a ++ b) cs off) : CellsAt E o b cs (off + a.length) := fun j z hz => by
 have := h (a.length + j) z (by rw [List.getElem?_append_right (by omega)]; simpa using hz)
 rwa [← Nat.add_assoc] at this
def EqSound (P : Program) (E : Env) (o : Bool) (f : Nat) (t : TypeId) : Prop :=
 ∀ x y b x' y', conf P f t x = true → conf P f t y = true → eqAV x y = some b → VR E o x x' → VR E o y y' → ∀ d w, (Op.equalIn (d + f) t x' y').run P w = .ok b w
theorem eqAVs_cons {x y : AV} {a b : List AV} {r : Bool} (h : eqAVs (x :: a) (y :: b) = some r) : ∃ p q, eqAV x y = some p ∧ eqAVs a b = some q ∧ r = (p && q) := by
 simp only [eqAVs] at h
 split at h
 ·cases h; exact ⟨_, _, ‹_›, ‹_›, rfl⟩
 ·cases h
theorem eqFields_sound {P : Program} {E : Env} {o : Bool} {f : Nat} (xs ys : Array Value) : ∀ (fs : List Field) (a b : List AV) (off : Nat) (r : Bool),
  (∀ g ∈ fs, g.name ≠ "_" ∧ EqSound P E o f g.type) → confGo P (conf P f) fs a off = true → confGo P (conf P f) fs b off = true → (∀ x ∈ a, Fit x) → (∀ x ∈ b, Fit x) →
  CellsAt E o (flats a) xs off → CellsAt E o (flats b) ys off → eqAVs a b = some r → ∀ d w, (Op.eqFields (d + f) xs ys fs).run P w = .ok r w
 | [], a, b, off, r, _, ha, hb, _, _, _, _, he, d, w => by
  cases a <;> cases b <;> first | (simp [eqAVs] at he; subst he; simp [Op.eqFields]) | (simp [confGo] at ha; done) | (simp [confGo] at hb; done)
 | g :: fs, [], b, off, r, _, ha, _, _, _, _, _, he, d, w => by simp [confGo] at ha
 | g :: fs, x :: a, [], off, r, _, _, hb, _, _, _, _, he, d, w => by simp [confGo] at hb
 | g :: fs, x :: a, y :: b, off, r, hg, ha, hb, fa, fb, ca, cb, he, d, w => by
  simp [confGo] at ha hb
  obtain ⟨⟨⟨a1, a2⟩, a3⟩, a4⟩ := ha
  obtain ⟨⟨⟨b1, b2⟩, b3⟩, b4⟩ := hb
  obtain ⟨p, q, e1, e2, rfl⟩ := eqAVs_cons he
  obtain ⟨hn, hs⟩ := hg g (by simp)
  simp only [flats] at ca cb
  obtain ⟨vx, hx⟩ := part_sound (P := P) (E := E) (o := o) (cs := xs) (off := off) a3 (fa x (by simp)) ca.left
  obtain ⟨vy, hy⟩ := part_sound (P := P) (E := E) (o := o) (cs := ys) (off := off) b3 (fb y (by simp)) cb.left
  have heq := hs x y p vx vy a3 b3 e1 (hx w).2 (hy w).2 d w
  have cra := ca.right
  have crb := cb.right
  rw [(fa x (by simp)).length] at cra
  rw [(fb y (by simp)).length, ← b2, a2] at crb
  have ih := eqFields_sound xs ys fs a b (off + width x) q (fun g hg' => hg g (by simp [hg'])) a4 (by rw [← a2, b2]; exact b4) (fun z hz => fa z (by simp [hz])) (fun z hz => fb z (by simp [hz])) cra crb e2 d w
  rw [← a1] at hx hy
  simp only [Op.eqFields, hn, ne_eq, not_false_eq_true, if_true, Sem.run_bind, a1, (hx w).1, Result.andThen_ok]
  rw [← a1, (hx w).1, Result.andThen_ok, (hy w).1, Result.andThen_ok, heq, Result.andThen_ok]
  cases p
  ·simp
  ·simpa using ih
theorem eqItems_ints {P : Program} {e : TypeId} {k k' : IntKind} {l m : List Int} {d : Nat} (hu : P.underlying e = some (.int k')) (n : Nat) (hl : l.length = n) (hm : m.length = n) (w : World) :
  ∀ (is : List Nat), (∀ i ∈ is, i < n) → (Op.eqItems (d + 1) e 1 (l.map (Value.int k)).toArray (m.map (Value.int k)).toArray is).run P w = .ok (is.all fun i => l.getD i 0 == m.getD i 0) w
 | [], _ => by simp [Op.eqItems]
 | i :: is, h => by
  have hi := h i (by simp)
  have ih := eqItems_ints (P := P) (e := e) (k := k) (k' := k') (l := l) (m := m) (d := d) hu n hl hm w is fun j hj => h j (by simp [hj])
  have hp : ∀ (r : List Int), r.length = n → (part e (r.map (Value.int k)).toArray i).run P w = .ok (.int k (r.getD i 0)) w := fun r hr => by
   have : i < r.length := by omega
   simp [part, run_isAgg hu, TypeDesc.isRow, List.getElem?_eq_getElem this]
  simp only [Op.eqItems, Nat.mul_one, Sem.run_bind, hp l hl, hp m hm, Result.andThen_ok, run_equalIn_int w d e k k' _ _ hu]
  cases hb : (l.getD i 0 == m.getD i 0)
  ·simp only [Bool.not_false, if_true, Sem.run_pure, List.all_cons, hb, Bool.false_and]
  ·simp only [Bool.not_true, Bool.false_eq_true, if_false, List.all_cons, hb, Bool.true_and]
   exact ih
theorem range_all_eq (l m : List Int) (n : Nat) (hl : l.length = n) (hm : m.length = n) : ((List.range n).all fun i => l.getD i 0 == m.getD i 0) = (l == m) := by
 rw [Bool.eq_iff_iff]
 simp only [List.all_eq_true, List.mem_range, beq_iff_eq]
 constructor
 ·intro h
  apply List.ext_getElem (by omega)
  intro i h1 h2
  have := h i (by omega)
  simpa [List.getElem?_eq_getElem h1, List.getElem?_eq_getElem h2] using this
 ·rintro rfl i _; rfl
theorem eqItems_sound {P : Program} {E : Env} {o : Bool} {f : Nat} {e : TypeId} (hs : EqSound P E o f e) (xs ys : Array Value) (sz : Nat) : ∀ (a b : List AV) (i : Nat) (r : Bool),
  (∀ x ∈ a, (conf P f e x = true ∧ width x = sz) ∧ Fit x) → (∀ x ∈ b, (conf P f e x = true ∧ width x = sz) ∧ Fit x) → CellsAt E o (flats a) xs (i * sz) → CellsAt E o (flats b) ys (i * sz) → eqAVs a b = some r →
  ∀ d w, (Op.eqItems (d + f) e sz xs ys (List.range' i a.length)).run P w = .ok r w
 | [], [], i, r, _, _, _, _, he, d, w => by simp [eqAVs] at he; subst he; simp [Op.eqItems]
 | [], _ :: _, i, r, _, _, _, _, he, d, w => by simp [eqAVs] at he
 | _ :: _, [], i, r, _, _, _, _, he, d, w => by simp [eqAVs] at he
 | x :: a, y :: b, i, r, ha, hb, ca, cb, he, d, w => by
  obtain ⟨p, q, e1, e2, rfl⟩ := eqAVs_cons he
  obtain ⟨⟨a1, a2⟩, a3⟩ := ha x (by simp)
  obtain ⟨⟨b1, b2⟩, b3⟩ := hb y (by simp)
  simp only [flats] at ca cb
  obtain ⟨vx, hx⟩ := part_sound (P := P) (E := E) (o := o) (cs := xs) (off := i * sz) a1 a3 ca.left
  obtain ⟨vy, hy⟩ := part_sound (P := P) (E := E) (o := o) (cs := ys) (off := i * sz) b1 b3 cb.left
  have heq := hs x y p vx vy a1 b1 e1 (hx w).2 (hy w).2 d w
  have cra := ca.right
  have crb := cb.right
  rw [a3.length, a2, ← Nat.succ_mul] at cra
  rw [b3.length, b2, ← Nat.succ_mul] at crb
  have ih := eqItems_sound hs xs ys sz a b (i + 1) q (fun z hz => ha z (by simp [hz])) (fun z hz => hb z (by simp [hz])) cra crb e2 d w
  simp only [List.length_cons, List.range'_succ, Op.eqItems, Sem.run_bind, (hx w).1, (hy w).1, Result.andThen_ok, heq]
  cases p
  ·simp
  ·simpa using ih
theorem eqTy_under {P : Program} {f : Nat} {t : TypeId} (h : eqTy P f t = true) : ∃ d, P.underlying t = some d := by
 cases f with
 | zero => simp [eqTy] at h
 | succ f =>
  unfold eqTy at h
  split at h <;> first | exact ⟨_, ‹_›⟩ | cases h
theorem eq_sound {P : Program} {E : Env} {o : Bool} : ∀ (f : Nat) (t : TypeId), eqTy P f t = true → EqSound P E o f t
 | 0, t, h => by simp [eqTy] at h
 | f + 1, t, h => by
  intro x y b x' y' hx hy he hvx hvy d w
  unfold eqTy at h
  rw [show d + (f + 1) = (d + f) + 1 from rfl]
  split at h <;> (try (cases h; done))
  ·rename_i hu
   unfold conf at hx hy
   rw [hu] at hx hy
   cases x <;> simp at hx
   cases y <;> simp at hy
   simp [eqAV] at he; subst he
   cases hvx; cases hvy
   exact run_equalIn_bool' w (d + f) t _ _ hu
  ·rename_i k hu
   unfold conf at hx hy
   rw [hu] at hx hy
   cases x <;> simp at hx
   cases y <;> simp at hy
   obtain ⟨rfl, _⟩ := hx
   obtain ⟨rfl, _⟩ := hy
   simp [eqAV] at he; subst he
   cases hvx; cases hvy
   exact run_equalIn_int w (d + f) t _ _ _ _ hu
  ·rename_i hu
   unfold conf at hx hy
   rw [hu] at hx hy
   cases x <;> simp at hx
   cases y <;> simp at hy
   simp [eqAV] at he; subst he
   cases hvx; cases hvy
   rw [beq_toListBytes]
   exact run_equalIn_string w (d + f) t _ _ hu
  ·rename_i n e hu
   rcases conf_array hx hu with ⟨k, l, rfl, hk, hsz⟩ | ⟨ka, f', hf', rfl, hla, hka⟩
   ·rcases conf_array hy hu with ⟨k', m, rfl, hk', _⟩ | ⟨_, _, _, rfl, _⟩
    ·rw [hk] at hk'; cases hk'
     simp [eqAV] at he; subst he
     cases hvx with
     | ints _ _ _ _ h1 =>
      cases hvy with
      | ints _ _ _ _ h2 =>
       have hue := kindOf_inv hk
       obtain ⟨i, hi⟩ := Go.Abs.info_of_underlying hue
       have hci : P.cellsOf e = 1 := by simp only [sizeQ, hi] at hsz; simp [Program.cellsOf, hi, hsz]
       rw [run_equalIn_array w (d + f) _ _ hu hi, hci]
       cases f with
       | zero => simp [eqTy] at h
       | succ f =>
        rw [show d + (f + 1) = (d + f) + 1 from rfl, eqItems_ints hue n h1 h2 w _ (fun i hi => List.mem_range.1 hi), range_all_eq l m n h1 h2]
    ·simp [eqAV] at he
   ·rcases conf_array hy hu with ⟨_, _, rfl, _⟩ | ⟨kb, f'', hf'', rfl, hlb, hkb⟩
    ·simp [eqAV] at he
    ·cases hf'; cases hf''
     simp only [eqAV] at he
     obtain ⟨xs, rfl, fa, sa, ca⟩ := hvx.agg_inv
     obtain ⟨ys, rfl, fb, sb, cb⟩ := hvy.agg_inv
     have cellsOf : ∀ {l : List AV} {cs : Array Value}, cs.size = (flats l).length → (∀ (j : Nat) x c, (flats l)[j]? = some x → cs[j]? = some c → VR E o x c) → CellsAt E o (flats l) cs (0 * sizeQ P e) := fun {l cs} h1 h2 j z hz => by
      have hj := (List.getElem?_eq_some_iff.1 hz).1
      have hc : cs[j]? = some (cs[j]'(by omega)) := Array.getElem?_eq_getElem (by omega)
      exact ⟨_, by rw [Nat.zero_mul, Nat.zero_add]; exact hc, h2 j z _ hz hc⟩
     have := eqItems_sound (eq_sound f e h) xs ys (sizeQ P e) ka kb 0 b (fun z hz => ⟨hka z hz, fa.kid hz⟩) (fun z hz => ⟨hkb z hz, fb.kid hz⟩) (cellsOf sa ca) (cellsOf sb cb) he d w
     obtain ⟨dd, hue⟩ := eqTy_under h
     obtain ⟨i, hi⟩ := Go.Abs.info_of_underlying hue
     have hci : P.cellsOf e = sizeQ P e := by simp [Program.cellsOf, sizeQ, hi]
     rw [run_equalIn_array w (d + f) _ _ hu hi, hci, List.range_eq_range', ← hla]
     exact this
  ·rename_i fs hu
   obtain ⟨f1, ka, hf1, rfl, _⟩ := conf_struct hx hu
   obtain ⟨f2, kb, hf2, rfl, _⟩ := conf_struct hy hu
   cases hf1; cases hf2
   simp only [eqAV] at he
   unfold conf at hx hy
   rw [hu] at hx hy
   simp only [Bool.and_eq_true, Bool.not_eq_true', List.all_eq_true, bne_iff_ne, ne_eq] at hx hy h
   obtain ⟨xs, rfl, fa, sa, ca⟩ := hvx.agg_inv
   obtain ⟨ys, rfl, fb, sb, cb⟩ := hvy.agg_inv
   have hfs : P.fieldsOf t = fs := by simp [Program.fieldsOf, hu]
   have cellsOf : ∀ {l : List AV} {cs : Array Value}, cs.size = (flats l).length → (∀ (j : Nat) x c, (flats l)[j]? = some x → cs[j]? = some c → VR E o x c) → CellsAt E o (flats l) cs 0 := fun {l cs} h1 h2 j z hz => by
    have hj := (List.getElem?_eq_some_iff.1 hz).1
    have hc : cs[j]? = some (cs[j]'(by omega)) := Array.getElem?_eq_getElem (by omega)
    exact ⟨_, by rw [Nat.zero_add]; exact hc, h2 j z _ hz hc⟩
   rw [run_equalIn_struct w (d + f) t xs ys (by rw [hfs]; exact hu) h.1, hfs]
   exact eqFields_sound xs ys fs.toList ka kb 0 b (fun g hg => ⟨(h.2 g hg).1, eq_sound f g.type (h.2 g hg).2⟩) hx.1 hy.1 (fun z hz => fa.kid hz) (fun z hz => fb.kid hz) (cellsOf sa ca) (cellsOf sb cb) he d w
theorem eqK_sound {t : TypeId} {x y : AV} {K : Bool → Option R} {r : R} (h : eqK C t x y K = some r) :
  ∃ b, (∀ K2 : Bool → Option R, eqK C t x y K2 = K2 b) ∧ C.P.eqGuardType C.P.depth t = false ∧ ∀ E x' y', VR E true x x' → VR E true y y' → ∀ w, (Op.equal t x' y').run C.P w = .ok b w := by
 unfold eqK at h
 split at h <;> (try (cases h; done))
 rename_i hc
 split at h <;> (try (cases h; done))
 rename_i b hb
 refine ⟨b, fun K2 => by simp only [eqK, if_pos hc, hb], ?_, fun E x' y' hx hy w => ?_⟩
 ·simp only [Bool.and_eq_true, Bool.not_eq_true'] at hc; exact hc.2
 ·simp only [Bool.and_eq_true, Bool.not_eq_true'] at hc
  have := eq_sound (P := C.P) (E := E) (o := true) 8 t hc.1.1.1 x y b x' y' hc.1.1.2 hc.1.2 hb hx hy 9992 w
  exact this
end
end Go.Abs
end
section
set_option linter.unusedVariables false
set_option linter.unusedSimpArgs false
namespace Go.Abs
open Go
section
variable {R : Type} {C : Ctx}
theorem leafEq_vr {E : Env} {o : Bool} {x : AV} {v : Value} (h : leafEq x v = true) : VR E o x v ∧ Leaf x := by
 unfold leafEq at h
 split at h <;> (try (cases h; done))
 ·simp at h; obtain ⟨rfl, rfl⟩ := h; exact ⟨.int _ _ _, by simp, by simp⟩
 ·simp at h; subst h; exact ⟨.bool _ _, by simp, by simp⟩
 ·simp at h; obtain ⟨rfl, rfl⟩ := h; exact ⟨.str _ _, by simp, by simp⟩
 ·exact ⟨.snil _, by simp, by simp⟩
 ·exact ⟨.nilp _, by simp, by simp⟩
 ·exact ⟨.nilf _, by simp, by simp⟩
 ·exact ⟨.nili _, by simp, by simp⟩
 ·exact ⟨.raw _ _ rfl rfl, by simp, by simp⟩
theorem cellsChk_vr {E : Env} {o : Bool} : ∀ {l : List AV} {cs : List Value}, cellsChk l cs = true → l.length = cs.length ∧ ∀ (j : Nat) x c, l[j]? = some x → cs[j]? = some c → VR E o x c
 | [], [], _ => ⟨rfl, fun j x c h => by simp at h⟩
 | [], _ :: _, h => by simp [cellsChk] at h
 | _ :: _, [], h => by simp [cellsChk] at h
 | x :: l, c :: cs, h => by
  simp [cellsChk] at h
  obtain ⟨h1, h2⟩ := cellsChk_vr (E := E) (o := o) h.2
  refine ⟨by simp [h1], fun j y d hy hd => ?_⟩
  cases j with
  | zero => simp at hy hd; subst hy; subst hd; exact (leafEq_vr h.1).1
  | succ j => exact h2 j y d (by simpa using hy) (by simpa using hd)
mutual
theorem fits_fit : ∀ {x : AV}, fits x = true → Fit x
 | .agg kids, h => by simp only [fits] at h; exact .agg _ (fitss_fit h)
 | .ints k n l, h => by simp [fits] at h; exact .ints _ _ _ h
 | .any, h | .tup _, h | .bool _, h | .int _ _, h | .str _, h | .nilp, h | .ptr _ _, h | .aptr _ _ _ _, h | .rptr _, h | .snil, h | .slice _ _ _ _ _, h | .own _ _, h
 | .rints _ _, h | .robjs _ _ _, h | .fn _ _ _, h | .nilf, h | .iface _ _, h | .nili, h | .raw _, h | .errv _ _ _, h | .rmap _, h => .leaf _ ⟨by simp, by simp⟩
theorem fitss_fit : ∀ {l : List AV}, fitss l = true → ∀ x ∈ l, Fit x
 | [], _, x, hx => by simp at hx
 | y :: l, h, x, hx => by
  simp [fitss] at h
  rcases List.mem_cons.1 hx with e | hx
  ·rw [e]; exact fits_fit h.1
  ·exact fitss_fit h.2 x hx
end
theorem zeroOf_sound {P : Program} {t : TypeId} {z : AV} (h : zeroOf P t = some z) : ∃ i v, P.info? t = some i ∧ i.zero = some v ∧ (∀ w, (zeroValue t).run P w = .ok v w) ∧ (∀ E o, VR E o z v) ∧ Fit z ∧ z ≠ .any ∧ ∀ vs, z ≠ .tup vs := by
 unfold zeroOf at h
 split at h <;> (try (cases h; done))
 rename_i x i hx hi
 have run : ∀ v, i.zero = some v → ∀ w, (zeroValue t).run P w = .ok v w := fun v hv w => by simp [zeroValue, typeInfo, hi, hv]
 split at h <;> (try (cases h; done))
 ·rename_i cs hz
  split at h <;> (try (cases h; done))
  ·rename_i kids
   split at h <;> (try (cases h; done))
   rename_i hc
   cases h
   simp only [Bool.and_eq_true] at hc
   have hf := fits_fit hc.2
   refine ⟨i, .agg cs, hi, hz, run _ hz, fun E o => ?_, hf, by simp, by simp⟩
   obtain ⟨h1, h2⟩ := cellsChk_vr (E := E) (o := o) hc.1
   exact .agg _ _ _ hf (by simpa [flat] using h1.symm) fun j x c hx hc => h2 j x c hx (by rw [Array.getElem?_toList]; exact hc)
  ·rename_i k n l
   split at h <;> (try (cases h; done))
   rename_i hc
   cases h
   simp only [Bool.and_eq_true] at hc
   have hf := fits_fit hc.2
   refine ⟨i, .agg cs, hi, hz, run _ hz, fun E o => ?_, hf, by simp, by simp⟩
   obtain ⟨h1, h2⟩ := cellsChk_vr (E := E) (o := o) hc.1
   have : cs = (l.map (Value.int k)).toArray := by
    apply Array.ext_getElem?
    intro j
    simp only [flat, List.length_map, Array.length_toList] at h1
    cases hl : l[j]? with
    | none =>
     have : l.length ≤ j := List.getElem?_eq_none_iff.1 hl
     rw [Array.getElem?_eq_none (by omega)]
     simp [hl]
    | some n =>
     have hj := (List.getElem?_eq_some_iff.1 hl).1
     have hc : cs[j]? = some (cs[j]'(by omega)) := Array.getElem?_eq_getElem (by omega)
     have := h2 j (.int k n) _ (by simp [flat, hl]) (by rw [Array.getElem?_toList]; exact hc)
     rw [hc, this.int_inv]
     simp [hl]
   rw [this]
   exact .ints _ _ _ _ hf.len
 ·rename_i v hna hz
  split at h <;> (try (cases h; done))
  rename_i hn1 hn2
  split at h <;> (try (cases h; done))
  rename_i hl
  cases h
  obtain ⟨_, h2⟩ := leafEq_vr (E := ⟨default, fun _ _ => False, fun _ => (0, 0, 0), []⟩) (o := false) hl
  refine ⟨i, v, hi, hz, run _ hz, fun E o => (leafEq_vr hl).1, .leaf _ h2, ?_, ?_⟩
  ·intro e; subst e; simp [leafEq] at hl
  ·intro vs e; subst e; simp [leafEq] at hl
theorem newVar_sound {E : Env} {x : AV} {v : Value} (t : TypeId) (m : Mem E) (hv : VR E true x v) (hx : x ≠ .any ∧ ∀ vs, x ≠ .tup vs) :
  ∃ E', (E'.w = E.w.alloc (.cells v.cells t)) ∧ E'.bl = E.bl ++ [some (.var x)] ∧ Go E E' ∧ VR E' true (.ptr E.bl.length []) (.pointer (some ⟨E.w.heap.size, 0, none⟩)) := by
 obtain ⟨hf, hs, hc⟩ := hv.cells hx
 have go := Go.new m v.cells t v.cells.size (.var x) (0, 0) (fun j _ => by simp) hf (by simp [flatB, hs]) (Nat.le_refl _) hc
 refine ⟨_, rfl, rfl, go, ?_⟩
 have hbn : bget (E.new v.cells t v.cells.size (.var x)).bl E.bl.length = some (.var x) := bget_new
 refine .ptr _ _ _ (bget_lt hbn) fun blk hb => ?_
 rw [hbn] at hb; cases hb
 exact ⟨rfl, 0, by simp [offB, offPath], by simp [Env.new], by simp [Env.new]⟩
theorem fillVar_sound {E : Env} {id : Nat} {x : AV} {v : Value} (t : TypeId) (m : Mem E) (h0 : bget E.bl id = some .free) (hv : VR E true x v) (hx : x ≠ .any ∧ ∀ vs, x ≠ .tup vs) :
  ∃ E', (E'.w = E.w.alloc (.cells v.cells t)) ∧ E'.bl = E.bl.set id (some (.var x)) ∧ Go E E' ∧ VR E' true (.ptr id []) (.pointer (some ⟨E.w.heap.size, 0, none⟩)) := by
 obtain ⟨hf, hs, hc⟩ := hv.cells hx
 have go := Go.fill m id h0 v.cells t v.cells.size (.var x) (0, 0) (fun j _ => by simp) hf (by simp [flatB, hs]) (Nat.le_refl _) hc
 refine ⟨_, rfl, rfl, go, ?_⟩
 have hbn : bget (E.fill id v.cells t v.cells.size (.var x)).bl id = some (.var x) := bget_set_self (bget_lt h0)
 refine .ptr _ _ _ (bget_lt hbn) fun blk hb => ?_
 rw [hbn] at hb; cases hb
 exact ⟨rfl, 0, by simp [offB, offPath], by simp [Env.fill], by simp [Env.fill]⟩
theorem run_newVar {P : Program} (t : TypeId) (v : Value) (w : World) : (newVar t v).run P w = .ok ⟨w.heap.size, 0, none⟩ (w.alloc (.cells v.cells t)) := by
 simp [newVar, newRow]
theorem vr_own_new {E : Env} {c : Array Value} {e t wd len cap : Nat} {blk : Blk} {fr : Nat × Nat} (hr : rowB blk [] = some (0, wd, len)) (hc : len ≤ cap) (he : cap * wd ≤ e) :
  VR (E.new c t e blk fr) true (.own E.bl.length wd) (.slice (some ⟨E.w.heap.size, 0, none⟩) len cap) := by
 have hbn : bget (E.new c t e blk fr).bl E.bl.length = some blk := bget_new
 refine .own _ _ _ _ _ (bget_lt hbn) hc fun b hb => ?_
 rw [hbn] at hb; cases hb
 have hl : (E.new c t e blk fr).loc E.bl.length = (E.w.heap.size, 0, e) := by simp [Env.new]
 rw [hl]
 exact ⟨hr, he, .inr rfl⟩
theorem flats_replicate (n : Nat) (z : AV) : ∀ (j : Nat) x, (flats (List.replicate n z))[j]? = some x → (flat z).length ≠ 0 → (flat z)[j % (flat z).length]? = some x := by
 induction n with
 | zero => intro j x h; simp [flats] at h
 | succ n ih =>
  intro j x h hne
  rw [List.replicate_succ, flats] at h
  rcases Nat.lt_or_ge j (flat z).length with hj | hj
  ·rw [List.getElem?_append_left hj] at h
   rwa [Nat.mod_eq_of_lt hj]
  ·rw [List.getElem?_append_right hj] at h
   rw [Nat.mod_eq_sub_mod hj]
   exact ih _ _ h hne
theorem flats_replicate_length (n : Nat) (z : AV) : (flats (List.replicate n z)).length = n * (flat z).length := by
 induction n with
 | zero => simp [flats]
 | succ n ih => rw [List.replicate_succ, flats, List.length_append, ih, Nat.succ_mul]; omega
theorem bytesQ_info {P : Program} {t : TypeId} {i : TypeInfo} (h : P.info? t = some i) : bytesQ P t = i.bytes ∧ sizeQ P t = i.size := by simp [bytesQ, sizeQ, h]
theorem madeCells_get (z : Array Value) (n j : Nat) (hj : j < n) (hz : z.size ≠ 0) : (madeCells z n)[j]? = z[j % z.size]? := by
 have hm : j % z.size < z.size := Nat.mod_lt _ (Nat.pos_of_ne_zero hz)
 simp [madeCells, hj, hm]
theorem makeSliceK_sound {t : TypeId} {l c : AV} {bl : Blks} {K : Kont R} {r : R} (h : makeSliceK C t l c bl K = some r) :
  ∃ v bl', KS (R := R) (makeSliceK C t l c) bl .write v bl' ∧ ∀ E, E.bl = bl → Mem E → ∀ l' c', VR E true l l' → VR E true c c' → Out E C.P .write v bl' (Instr.makeSlice t l' c') := by
 unfold makeSliceK at h
 split at h <;> (try (cases h; done))
 rename_i e k1 n k2 m' hu
 split at h <;> (try (cases h; done))
 rename_i h0
 split at h <;> (try (cases h; done))
 rename_i h1
 split at h <;> (try (cases h; done))
 rename_i h2
 split at h <;> (try (cases h; done))
 rename_i h3
 split at h <;> (try (cases h; done))
 ·rename_i k z hz
  split at h <;> (try (cases h; done))
  rename_i hs
  obtain ⟨i, v, hi, hv, hrun, hvr, hf, _⟩ := zeroOf_sound hz
  obtain ⟨hb, hsz⟩ := bytesQ_info hi
  have hs1 := (szOK_inv hs).1
  refine ⟨.own bl.length 1, bl ++ [some (.ints k (List.replicate n.toNat z))], .ofWrite fun K => by simp only [makeSliceK, hu, h0, h1, h2, h3, hz, hs, if_true], fun E hE m l' c' hl hc => ?_⟩
  subst hE
  cases hl; cases hc
  have hve := (hvr E true).int_inv
  subst hve
  have run := run_make (P := C.P) E.w t e i _ hu hi hv k1 k2 n m' h0 h1 (by rw [Int.mul_comm, ← hb]; omega) (by omega)
  rw [show m'.toNat * i.size = m'.toNat from by rw [← hsz, hs1, Nat.mul_one]] at run
  have hcs : (madeCells (Value.int k z).cells m'.toNat).size = m'.toNat := size_madeCells _ _
  have go := Go.new m (madeCells (Value.int k z).cells m'.toNat) e m'.toNat (.ints k (List.replicate n.toNat z)) (0, 0) (fun j _ => by simp) trivial (by simp [flatB]; omega) (by rw [hcs]; exact Nat.le_refl _) (fun j x v hx hv => by
   have hj : j < n.toNat := by have := (List.getElem?_eq_some_iff.1 hx).1; simpa [flatB] using this
   rw [madeCells_get _ _ _ (by omega) (by simp [Value.cells])] at hv
   simp [Value.cells, Nat.mod_one] at hv
   simp [flatB, List.getElem?_replicate, hj] at hx
   subst hx; subst hv
   exact .int _ _ _)
  refine ⟨_, _, run, rfl, go, ?_⟩
  exact vr_own_new (by simp [rowB]) (by omega) (by omega)
 ·rename_i z hnz hz
  split at h <;> (try (cases h; done))
  rename_i hs
  obtain ⟨i, v, hi, hv, hrun, hvr, hf, hx1, hx2⟩ := zeroOf_sound hz
  obtain ⟨hb, hsz⟩ := bytesQ_info hi
  refine ⟨.own bl.length (sizeQ C.P e), bl ++ [some (.objs e (sizeQ C.P e) (List.replicate n.toNat z))], .ofWrite fun K => ?_, fun E hE m l' c' hl hc => ?_⟩
  ·simp only [makeSliceK, hu, h0, h1, h2, h3, if_true]
   split
   ·rename_i k' z' hz'
    rw [hz] at hz'; cases hz'
    exact absurd rfl (hnz _ _)
   ·rename_i z' _ hz'
    rw [hz] at hz'; cases hz'
    rw [if_pos hs]
   ·rename_i hz'
    rw [hz] at hz'; cases hz'
  ·subst hE
   simp only [Bool.and_eq_true, decide_eq_true_eq] at hs
   obtain ⟨⟨⟨hs1, hs4⟩, hs2⟩, hs3⟩ := hs
   obtain ⟨_, _, hw, _⟩ := conf_gives hs2
   cases hl; cases hc
   have run := run_make (P := C.P) E.w t e i _ hu hi hv k1 k2 n m' h0 h1 (by rw [Int.mul_comm, ← hb]; omega) (by omega)
   rw [← hsz] at run
   obtain ⟨_, hcz, hcr⟩ := (hvr E true).cells ⟨hx1, hx2⟩
   have hfl := hf.length
   have hcs : (madeCells v.cells (m'.toNat * sizeQ C.P e)).size = m'.toNat * sizeQ C.P e := size_madeCells _ _
   have hle : n.toNat * sizeQ C.P e ≤ m'.toNat * sizeQ C.P e := Nat.mul_le_mul_right _ (by omega)
   have go := Go.new m (madeCells v.cells (m'.toNat * sizeQ C.P e)) e (m'.toNat * sizeQ C.P e) (.objs e (sizeQ C.P e) (List.replicate n.toNat z)) (0, 0) (fun j _ => by simp)
    (fun x hx => by rw [List.eq_of_mem_replicate hx]; exact ⟨⟨hf, hw.symm⟩, hs1, hs4⟩) (by simp only [flatB, flats_replicate_length]; rw [hfl, ← hw]; exact hle) (by rw [hcs]; exact Nat.le_refl _) (fun j x c hx hc => by
    have hj := (List.getElem?_eq_some_iff.1 hx).1
    simp only [flatB, flats_replicate_length] at hj
    rw [hfl, ← hw] at hj
    rw [madeCells_get _ _ _ (by omega) (by omega)] at hc
    have hx' := flats_replicate n.toNat z j x hx (by omega)
    rw [hcz] at hc
    exact hcr _ x c hx' hc)
   refine ⟨_, _, run, rfl, go, ?_⟩
   exact vr_own_new (by simp [rowB]) (by omega) (Nat.le_refl _)
end
end Go.Abs
end
section
set_option linter.unusedVariables false
set_option linter.unusedSimpArgs false
namespace Go.Abs
open Go
section
variable {R : Type} {C : Ctx}
theorem nextslicecap_le (need old : Nat) (h : old < need) : Builtin.nextslicecap need old ≤ 2 * need := by
 have grow : ∀ (rounds c : Nat), c ≤ 2 * need → 256 ≤ need → Builtin.growBy need rounds c ≤ 2 * need := by
  intro rounds
  induction rounds with
  | zero => intro c hc _; exact hc
  | succ r ih =>
   intro c hc hn
   unfold Builtin.growBy
   split
   ·exact hc
   ·exact ih _ (by omega) hn
 unfold Builtin.nextslicecap
 split
 ·omega
 ·split
  ·omega
  ·exact grow 4 old (by omega) (by omega)
structure ObjsAt (E : Env) (w : Nat) (l : List AV) (v : Value) (cs : List Value) : Prop where
 len : ∀ (P : Program) W, (Builtin.lenOf v).run P W = .ok l.length W
 size : cs.length = l.length * w
 cells : ∀ (P : Program) (W : World), (∀ a, W.cell? a = E.w.cell? a) → (Builtin.firstCells w l.length v).run P W = .ok cs.toArray W
 vr : ∀ (j : Nat) x c, (flats l)[j]? = some x → cs[j]? = some c → VR E false x c
 fit : ∀ x ∈ l, (Fit x ∧ width x = w) ∧ noOwn x = true ∧ solid x = true
theorem objs_flat_length {l : List AV} {w : Nat} (h : ∀ x ∈ l, (Fit x ∧ width x = w) ∧ noOwn x = true ∧ solid x = true) : (flats l).length = l.length * w := by
 induction l with
 | nil => simp [flats]
 | cons x r ih =>
  simp only [flats, List.length_append, List.length_cons, Nat.succ_mul]
  rw [(h x (by simp)).1.1.length, (h x (by simp)).1.2, ih fun y hy => h y (by simp [hy])]
  omega
theorem objs_flat_get {l : List AV} {w : Nat} (h : ∀ x ∈ l, (Fit x ∧ width x = w) ∧ noOwn x = true ∧ solid x = true) {j : Nat} {y : AV} (hy : (flats l)[j]? = some y) :
  ∃ x, l[j / w]? = some x ∧ (flat x)[j % w]? = some y := by
 induction l generalizing j with
 | nil => simp [flats] at hy
 | cons x r ih =>
  have hx := (h x (by simp)).1
  have hlx := hx.1.length
  simp only [flats] at hy
  rcases Nat.lt_or_ge j (flat x).length with hj | hj
  ·rw [List.getElem?_append_left hj] at hy
   exact ⟨x, by rw [Nat.div_eq_of_lt (by omega)]; rfl, by rw [Nat.mod_eq_of_lt (by omega)]; exact hy⟩
  ·rw [List.getElem?_append_right hj] at hy
   obtain ⟨z, h1, h2⟩ := ih (fun y hy => h y (by simp [hy])) hy
   rw [hlx, hx.2] at h1 h2 hj
   have hw : 0 < w := by
    rcases Nat.eq_zero_or_pos w with h0 | h0
    ·subst h0
     have := (List.getElem?_eq_some_iff.1 hy).1
     rw [objs_flat_length fun y hy => h y (by simp [hy])] at this
     omega
    ·exact h0
   refine ⟨z, ?_, ?_⟩
   ·rw [show j = (j - w) + w from by omega, Nat.add_div_right _ hw]
    simpa using h1
   ·rw [show j = (j - w) + w from by omega, Nat.add_mod_right]
    simpa using h2
theorem objsAt_slice {E : Env} {w : Nat} {l : List AV} {a : Option Addr} {n cap b o : Nat} (hn : n = l.length) (hf : ∀ x ∈ l, (Fit x ∧ width x = w) ∧ noOwn x = true ∧ solid x = true)
  (ha : l ≠ [] → a = some ⟨b, o, none⟩) (h : ∀ (j : Nat) x, (flats l)[j]? = some x → ∃ c, E.cell b (o + j) = some c ∧ VR E false x c) : ∃ cs, ObjsAt E w l (.slice a n cap) cs := by
 subst hn
 have hlen := objs_flat_length hf
 have hall : ∀ j, ∃ v, ∀ y, (flats l)[j]? = some y → E.cell b (o + j) = some v ∧ VR E false y v := fun j => by
  cases hy : (flats l)[j]? with
  | none => exact ⟨undef, fun y h => by simp at h⟩
  | some y => obtain ⟨v, h1, h2⟩ := h j y hy; exact ⟨v, fun z hz => by simp at hz; subst hz; exact ⟨h1, h2⟩⟩
 obtain ⟨vv, hvv⟩ := Classical.axiomOfChoice hall
 refine ⟨(List.range (l.length * w)).map vv, fun P W => rfl, by simp, fun P W hW => ?_, fun j x c hx hc => ?_, hf⟩
 ·cases a with
  | none =>
   have : l = [] := by
    by_cases e : l = []
    ·exact e
    ·exact absurd (ha e) (by simp)
   subst this
   simp [Builtin.firstCells]
  | some ad =>
   simp only [Builtin.firstCells]
   rcases Nat.eq_zero_or_pos (l.length * w) with h0 | hp
   ·rw [h0]; simp [loadCells, loadCellsFrom]
   ·have hne : l ≠ [] := fun e => by subst e; simp at hp
    cases ha hne
    refine run_loadCells_of W b o _ _ (by simp) fun j v hv => ?_
    rw [hW]
    have hj := (List.getElem?_eq_some_iff.1 hv).1
    simp at hj
    rw [List.getElem?_map, List.getElem?_range hj] at hv
    simp at hv
    subst hv
    exact (hvv j _ (List.getElem?_eq_getElem (by omega))).1
 ·have hj := (List.getElem?_eq_some_iff.1 hx).1
  rw [List.getElem?_map, List.getElem?_range (by omega)] at hc
  simp at hc
  subst hc
  exact (hvv j x hx).2
theorem objs_sub_get {l : List AV} {w s n : Nat} (h : ∀ x ∈ l, (Fit x ∧ width x = w) ∧ noOwn x = true ∧ solid x = true) {j : Nat} {y : AV} (hy : (flats ((l.drop s).take n))[j]? = some y) : (flats l)[s * w + j]? = some y := by
 have hs : s ≤ l.length ∨ l.length < s := by omega
 rcases hs with hs | hs
 ·have e1 : flats l = flats (l.take s) ++ flats (l.drop s) := by rw [← flats_append, List.take_append_drop]
  have e2 : flats (l.drop s) = flats ((l.drop s).take n) ++ flats ((l.drop s).drop n) := by rw [← flats_append, List.take_append_drop]
  have e3 : (flats (l.take s)).length = s * w := by rw [objs_flat_length fun x hx => h x (List.mem_of_mem_take hx)]; simp [Nat.min_eq_left hs]
  rw [e1, List.getElem?_append_right (by omega), e3, Nat.add_sub_cancel_left, e2, List.getElem?_append_left (List.getElem?_eq_some_iff.1 hy).1]
  exact hy
 ·rw [List.drop_eq_nil_of_le (by omega)] at hy
  simp [flats] at hy
theorem elsOf_objs {bl : Blks} {x : AV} {e w : Nat} {l : List AV} (h : elsOf bl x = some (.objs e w l)) {E : Env} (hE : E.bl = bl ∨ noOwn x = true) (m : Mem E) {v : Value} (hv : VR E true x v) : ∃ cs, ObjsAt E w l v cs := by
 unfold elsOf at h
 split at h
 ·cases h
 ·cases h
 ·cases h
  cases hv with
  | robjs _ _ _ _ a cap hc hw vv hne hh hv =>
   by_cases hl : l = []
   ·subst hl
    exact objsAt_slice (b := 0) (o := 0) rfl hw (fun h => absurd rfl h) fun j x hx => by simp [flats] at hx
   ·obtain ⟨ad, rfl, g1⟩ := hne hl
    obtain ⟨ab, ao, as⟩ := ad
    simp at g1; subst g1
    refine objsAt_slice (b := ab) (o := ao) rfl hw (fun _ => rfl) fun j y hy => ?_
    obtain ⟨x, h1, h2⟩ := objs_flat_get hw hy
    obtain ⟨g1, g2⟩ := hh _ (j / w) x (j % w) y rfl h1 h2
    refine ⟨_, ?_, hv (j / w) x (j % w) y h1 h2⟩
    simp only at g2
    rw [show ao + j / w * w + j % w = ao + j from by have := Nat.div_add_mod j w; rw [Nat.mul_comm] at this; omega] at g2
    exact g2
 ·rename_i id w'
  rcases hE with rfl | hE
  ·split at h
   ·cases h
   ·rename_i e' w2 l' hb
    cases h
    cases hv with
    | mown _ r hid hh => have g := (hh _ hb).1; simp [rowB] at g
    | own _ _ len a cap hid hc hh =>
     obtain ⟨g1, g2, g3⟩ := hh _ hb
     simp [rowB] at g1
     obtain ⟨_, rfl⟩ := g1
     have ok := m.ok id _ hb
     refine objsAt_slice (b := (E.loc id).1) (o := (E.loc id).2.1) rfl ok.fit (fun hne => ?_) fun j y hy => ?_
     ·rcases g3 with rfl | rfl
      ·have := List.length_pos_iff.2 hne; omega
      ·rfl
     ·obtain ⟨v, h1, h2⟩ := ok.cells j y hy
      obtain ⟨x, k1, k2⟩ := objs_flat_get ok.fit hy
      exact ⟨v, h1, h2.low (flat_noOwn (ok.fit x (List.mem_of_getElem? k1)).2.1 y (List.mem_of_getElem? k2))⟩
   ·cases h
  ·simp [noOwn] at hE
 ·rename_i id path s n w'
  rcases hE with rfl | hE
  ·split at h
   ·cases h
   ·rename_i _ _ e' w2 l' hb
    cases h
    cases hv with
    | slice _ _ _ _ _ a cap hid hc hsm hh =>
     obtain ⟨q, c, g1, g2, g3, g4⟩ := hh _ hb
     simp [rowB] at g1
     obtain ⟨rfl, rfl, rfl⟩ := g1
     have ok := m.ok id _ hb
     have hfit : ∀ x ∈ (l'.drop s).take n, (Fit x ∧ width x = w) ∧ noOwn x = true ∧ solid x = true := fun x hx => ok.fit x (List.mem_of_mem_drop (List.mem_of_mem_take hx))
     refine objsAt_slice (b := (E.loc id).1) (o := (E.loc id).2.1 + s * w) (by simp; omega) hfit (fun hne => ?_) fun j y hy => ?_
     ·rcases g4 with rfl | rfl
      ·have := List.length_pos_iff.2 hne; simp at this; omega
      ·simp
     ·have hy' := objs_sub_get ok.fit hy
      obtain ⟨v, h1, h2⟩ := ok.cells _ y hy'
      obtain ⟨x, k1, k2⟩ := objs_flat_get hfit hy
      exact ⟨v, by rw [Nat.add_assoc]; exact h1, h2.low (flat_noOwn (hfit x (List.mem_of_getElem? k1)).2.1 y (List.mem_of_getElem? k2))⟩
   ·split at h
    ·cases h
    ·cases h
   ·cases h
  ·simp [noOwn] at hE
 ·cases h
end
end Go.Abs
end
