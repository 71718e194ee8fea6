/- An executor of the model's code over abstract values, and that it is right: what it tells of a run is what the run does. No condition. -/
import Derived.Test.YtkknbhapkdgcjaaDoorAbsM3
section
set_option linter.unusedVariables false
set_option linter.unusedSimpArgs false
namespace Go.Abs
open Go
section
theorem rens_eq_map (ρ : Nat → Option Nat) : ∀ l : List AV, rens ρ l = l.map (ren ρ)
  | [] => rfl
  | x :: r => by simp [rens, rens_eq_map ρ r]
theorem ren_leaf {ρ : Nat → Option Nat} {x : AV} (h : Leaf x) : Leaf (ren ρ x) := by
  obtain ⟨h1, h2⟩ := h
  constructor
  · intro kids e
    cases x <;> simp only [ren] at e <;> first
      | (split at e <;> cases e; done)
      | (cases e; done)
      | exact h1 _ rfl
  · intro k n l e
    cases x <;> simp only [ren] at e <;> first
      | (split at e <;> cases e; done)
      | (cases e; done)
      | (cases e; exact h2 _ _ _ rfl)
mutual
theorem flat_ren (ρ : Nat → Option Nat) : ∀ x : AV, flat (ren ρ x) = (flat x).map (ren ρ)
  | .agg kids => by simp only [ren, flat]; exact flats_ren ρ kids
  | .ints k n l => by simp [ren, flat]
  | .any | .tup _ | .bool _ | .int _ _ | .str _ | .nilp | .ptr _ _ | .aptr _ _ _ _ | .rptr _ | .snil | .slice _ _ _ _ _ | .own _ _
  | .rints _ _ | .robjs _ _ _ | .fn _ _ _ | .nilf | .iface _ _ | .nili | .raw _ | .errv _ _ _ | .emap => by
    rw [(ren_leaf (ρ := ρ) ⟨by simp, by simp⟩ : Leaf _).one.1]
    simp [flat]
theorem flats_ren (ρ : Nat → Option Nat) : ∀ l : List AV, flats (rens ρ l) = (flats l).map (ren ρ)
  | [] => rfl
  | x :: r => by simp [rens, flats, flat_ren ρ x, flats_ren ρ r]
end
mutual
theorem width_ren (ρ : Nat → Option Nat) : ∀ x : AV, width (ren ρ x) = width x
  | .agg kids => by simp only [ren, width]; exact widths_ren ρ kids
  | .ints k n l => by simp [ren]
  | .any | .tup _ | .bool _ | .int _ _ | .str _ | .nilp | .ptr _ _ | .aptr _ _ _ _ | .rptr _ | .snil | .slice _ _ _ _ _ | .own _ _
  | .rints _ _ | .robjs _ _ _ | .fn _ _ _ | .nilf | .iface _ _ | .nili | .raw _ | .errv _ _ _ | .emap => by
    rw [(ren_leaf (ρ := ρ) ⟨by simp, by simp⟩ : Leaf _).one.2]
    simp [width]
theorem widths_ren (ρ : Nat → Option Nat) : ∀ l : List AV, widths (rens ρ l) = widths l
  | [] => rfl
  | x :: r => by simp [rens, widths, width_ren ρ x, widths_ren ρ r]
end
theorem fit_ren (ρ : Nat → Option Nat) {x : AV} (h : Fit x) : Fit (ren ρ x) := by
  induction h with
  | ints k n l h => simp only [ren]; exact .ints _ _ _ h
  | agg kids h ih =>
    simp only [ren, rens_eq_map]
    refine .agg _ fun y hy => ?_
    obtain ⟨z, hz, rfl⟩ := List.mem_map.1 hy
    exact ih z hz
  | leaf x h => exact .leaf _ (ren_leaf h)
theorem offPath_ren (ρ : Nat → Option Nat) : ∀ (p : List Nat) (x : AV), offPath (ren ρ x) p = offPath x p
  | [], x => by simp [offPath]
  | i :: p, .agg kids => by
    simp only [ren, offPath, rens_eq_map]
    rw [List.getElem?_map]
    cases h : kids[i]? with
    | none => rfl
    | some y =>
      simp only [Option.map_some]
      rw [offPath_ren ρ p y, ← List.map_take, ← rens_eq_map, widths_ren]
  | i :: p, .ints k n l => by simp [ren]
  | i :: p, .any | i :: p, .tup _ | i :: p, .bool _ | i :: p, .int _ _ | i :: p, .str _ | i :: p, .nilp | i :: p, .ptr _ _ | i :: p, .aptr _ _ _ _ | i :: p, .rptr _ | i :: p, .snil | i :: p, .slice _ _ _ _ _ | i :: p, .own _ _
  | i :: p, .rints _ _ | i :: p, .robjs _ _ _ | i :: p, .fn _ _ _ | i :: p, .nilf | i :: p, .iface _ _ | i :: p, .nili | i :: p, .raw _ | i :: p, .errv _ _ _ | i :: p, .emap => by
    first | (simp only [ren]; done) | (simp only [ren]; split <;> simp [offPath]; done) | (simp [ren, offPath]; done)
theorem getPath_ren (ρ : Nat → Option Nat) : ∀ (p : List Nat) (x : AV), getPath (ren ρ x) p = (getPath x p).map (ren ρ)
  | [], x => by simp [getPath]
  | i :: p, .agg kids => by
    simp only [ren, getPath, rens_eq_map]
    rw [List.getElem?_map]
    cases h : kids[i]? with
    | none => rfl
    | some y => exact getPath_ren ρ p y
  | [i], .ints k n l => by simp [ren, getPath]
  | i :: j :: p, .ints k n l => by simp [ren, getPath]
  | i :: p, .any | i :: p, .tup _ | i :: p, .bool _ | i :: p, .int _ _ | i :: p, .str _ | i :: p, .nilp | i :: p, .ptr _ _ | i :: p, .aptr _ _ _ _ | i :: p, .rptr _ | i :: p, .snil | i :: p, .slice _ _ _ _ _ | i :: p, .own _ _
  | i :: p, .rints _ _ | i :: p, .robjs _ _ _ | i :: p, .fn _ _ _ | i :: p, .nilf | i :: p, .iface _ _ | i :: p, .nili | i :: p, .raw _ | i :: p, .errv _ _ _ | i :: p, .emap => by
    first | (simp only [ren, getPath]; rfl) | (simp only [ren]; split <;> simp [getPath]; done) | (simp [ren, getPath]; done)
theorem offB_ren (ρ : Nat → Option Nat) (b : Blk) (p : List Nat) : offB (renB ρ b) p = offB b p := by
  cases b with
  | free => first | rfl | trivial
  | var v => simp only [renB, offB]; exact offPath_ren ρ p v
  | ints k l => rfl
  | objs e w l => rfl
theorem rowB_ren (ρ : Nat → Option Nat) (b : Blk) (p : List Nat) : rowB (renB ρ b) p = rowB b p := by
  cases b with
  | free => first | rfl | trivial
  | var v =>
    simp only [renB, rowB, getPath_ren, offPath_ren]
    cases h : getPath v p with
    | none => rfl
    | some y =>
      cases hy : y with
      | ints k n l => simp [ren]
      | ptr i a => simp only [Option.map_some, ren]; cases ρ i <;> rfl
      | aptr i a b c => simp only [Option.map_some, ren]; cases ρ i <;> rfl
      | slice i a b c d => simp only [Option.map_some, ren]; cases ρ i <;> rfl
      | own i a => simp only [Option.map_some, ren]; cases ρ i <;> rfl
      | _ => simp only [Option.map_some, ren]
  | ints k l => rfl
  | objs e w l => rfl
mutual
theorem ren_noOwn {ρ : Nat → Option Nat} : ∀ {x : AV}, noOwn x = true → ren ρ x = x
  | .agg kids, h => by simp only [ren]; rw [rens_noOwn (by simpa [noOwn] using h)]
  | .tup kids, h => by simp only [ren]; rw [rens_noOwn (by simpa [noOwn] using h)]
  | .fn f a b, h => by
    simp only [noOwn, Bool.and_eq_true] at h
    simp only [ren]; rw [rens_noOwn h.1, rens_noOwn h.2]
  | .iface t v, h => by simp only [ren]; rw [ren_noOwn (by simpa [noOwn] using h)]
  | .any, _ | .bool _, _ | .int _ _, _ | .str _, _ | .nilp, _ | .rptr _, _ | .snil, _ | .rints _ _, _ | .robjs _ _ _, _ | .ints _ _ _, _ | .nilf, _ | .nili, _ | .raw _, _ | .errv _ _ _, _ | .emap, _ => by simp [ren]
  | .ptr _ _, h | .aptr _ _ _ _, h | .slice _ _ _ _ _, h | .own _ _, h => by simp [noOwn] at h
theorem rens_noOwn {ρ : Nat → Option Nat} : ∀ {l : List AV}, noOwns l = true → rens ρ l = l
  | [], _ => rfl
  | x :: r, h => by
    simp only [noOwns, Bool.and_eq_true] at h
    simp only [rens]; rw [ren_noOwn h.1, rens_noOwn h.2]
end
theorem flatB_ren {ρ : Nat → Option Nat} {b : Blk} (hf : FitB b) : flatB (renB ρ b) = (flatB b).map (ren ρ) := by
  cases b with
  | free => first | rfl | trivial
  | var v => exact flat_ren ρ v
  | ints k l => simp [renB, flatB, ren]
  | objs e w l =>
    simp only [renB, flatB]
    have : ∀ x ∈ flats l, ren ρ x = x := fun x hx => by
      obtain ⟨y, hy, hm⟩ := flats_mem hx
      exact ren_noOwn (flat_noOwn (hf y hy).2.1 x hm)
    rw [List.map_congr_left this, List.map_id']
theorem fitB_ren {ρ : Nat → Option Nat} {b : Blk} (hf : FitB b) : FitB (renB ρ b) := by
  cases b with
  | free => first | rfl | trivial
  | var v => exact fit_ren ρ hf
  | ints k l => trivial
  | objs e w l => exact hf
structure Turn (E E' : Env) (ρ : Nat → Option Nat) : Prop where
  blk : ∀ id j, ρ id = some j → id < E.bl.length → j < E'.bl.length ∧ ∀ b', bget E'.bl j = some b' → ∃ b, bget E.bl id = some b ∧ E'.loc j = E.loc id ∧
    (∀ p q, offB b p = some q → offB b' p = some q) ∧ (∀ p r, rowB b p = some r → rowB b' p = some r)
theorem VR.roMono {E E' : Env} (hro : ∀ b o, E.ro b o → E'.ro b o ∧ E'.cell b o = E.cell b o) (hmp : MapsStay E E') {o : Bool} {x : AV} {v : Value} (h : VR E o x v) : o = false → VR E' o x v := by
  induction h with
  | any => exact fun _ => .any _ _
  | bool => exact fun _ => .bool _ _
  | int => exact fun _ => .int _ _ _
  | str => exact fun _ => .str _ _
  | nilp => exact fun _ => .nilp _
  | ptr => intro h; cases h
  | aptr => intro h; cases h
  | rptr o x a hf hs vv h hv ih => exact fun _ => .rptr o x a hf hs vv (fun j y hy => ⟨(hro _ _ (h j y hy).1).1, (hro _ _ (h j y hy).1).2.trans (h j y hy).2⟩) fun j y hy => ih j y hy rfl
  | snil => exact fun _ => .snil _
  | slice => intro h; cases h
  | own => intro h; cases h
  | rints o k l a cap hc h =>
    exact fun _ => .rints o k l a cap hc fun i hi => let ⟨ad, h1, h2, h3, h4⟩ := h i hi; ⟨ad, h1, h2, (hro _ _ h3).1, (hro _ _ h3).2.trans h4⟩
  | robjs o e w l a cap hc hw vv ha h hv ih =>
    exact fun _ => .robjs o e w l a cap hc hw vv ha (fun ad i x j y h1 h2 h3 => ⟨(hro _ _ (h ad i x j y h1 h2 h3).1).1, (hro _ _ (h ad i x j y h1 h2 h3).1).2.trans (h ad i x j y h1 h2 h3).2⟩) fun i x j y h1 h2 => ih i x j y h1 h2 rfl
  | agg o kids cs hf hs h ih => exact fun ho => .agg o kids cs hf hs fun j x c h1 h2 => ih j x c h1 h2 ho
  | ints o k n l h => exact fun _ => .ints o k n l h
  | tup o vs cs hs h ih => exact fun ho => .tup o vs cs hs fun j x c h1 h2 => ih j x c h1 h2 ho
  | fn o f xs ys as bs h1 h2 g1 g2 i1 i2 => exact fun ho => .fn o f xs ys as bs h1 h2 (fun j x c h1 h2 => i1 j x c h1 h2 ho) (fun j x c h1 h2 => i2 j x c h1 h2 ho)
  | nilf => exact fun _ => .nilf _
  | iface o t x v h ih => exact fun ho => .iface o t x v (ih ho)
  | nili => exact fun _ => .nili _
  | raw o v h1 h2 => exact fun _ => .raw _ _ h1 h2
  | errv o tF ts k v h => exact fun _ => .errv _ _ _ _ _ (h.ro hro)
  | emap o r c h => exact fun _ => .emap _ _ _ (hmp _ _ h)
theorem noRefs_mem : ∀ {l : List AV}, noRefs l = true → ∀ y ∈ l, noRef y = true
  | x :: r, h, y, hy => by
    simp only [noRefs, Bool.and_eq_true] at h
    rcases List.mem_cons.1 hy with rfl | hy
    · exact h.1
    · exact noRefs_mem h.2 y hy
mutual
theorem flat_noRef : ∀ {x : AV}, noRef x = true → ∀ y ∈ flat x, noRef y = true
  | .agg kids, h, y, hy => flats_noRef (by simpa [noRef] using h) y (by simpa [flat] using hy)
  | .ints k n l, _, y, hy => by
    simp only [flat, List.mem_map] at hy
    obtain ⟨z, _, rfl⟩ := hy
    rfl
  | .any, h, y, hy | .tup _, h, y, hy | .bool _, h, y, hy | .int _ _, h, y, hy | .str _, h, y, hy | .nilp, h, y, hy | .ptr _ _, h, y, hy | .aptr _ _ _ _, h, y, hy | .rptr _, h, y, hy | .snil, h, y, hy | .slice _ _ _ _ _, h, y, hy | .own _ _, h, y, hy
  | .rints _ _, h, y, hy | .robjs _ _ _, h, y, hy | .fn _ _ _, h, y, hy | .nilf, h, y, hy | .iface _ _, h, y, hy | .nili, h, y, hy | .raw _, h, y, hy | .errv _ _ _, h, y, hy | .emap, h, y, hy => by
    simp only [flat, List.mem_singleton] at hy
    subst hy
    exact h
theorem flats_noRef : ∀ {l : List AV}, noRefs l = true → ∀ y ∈ flats l, noRef y = true
  | x :: r, h, y, hy => by
    simp only [noRefs, Bool.and_eq_true] at h
    simp only [flats, List.mem_append] at hy
    rcases hy with hy | hy
    · exact flat_noRef h.1 y hy
    · exact flats_noRef h.2 y hy
end
theorem VR.turn {E E' : Env} {ρ : Nat → Option Nat} (s : Turn E E' ρ) {R0 : Prop} (hro : R0 → ∀ b o, E.ro b o → E'.ro b o ∧ E'.cell b o = E.cell b o) (hmp : MapsStay E E') {o : Bool} {x : AV} {v : Value} (h : VR E o x v) : R0 ∨ noRef x = true → VR E' o (ren ρ x) v := by
  induction h with
  | any => exact fun _ => .any _ _
  | bool => exact fun _ => .bool _ _
  | int => exact fun _ => .int _ _ _
  | str => exact fun _ => .str _ _
  | nilp => exact fun _ => .nilp _
  | ptr id path a hid h =>
    intro _
    simp only [ren]
    split
    · rename_i j hj
      obtain ⟨h1, h2⟩ := s.blk id j hj hid
      refine .ptr j path a h1 fun b' hb => ?_
      obtain ⟨b, hb0, hl, ho, _⟩ := h2 b' hb
      obtain ⟨k1, q, k2, k3, k4⟩ := h b hb0
      exact ⟨k1, q, ho _ _ k2, by rw [hl]; exact k3, by rw [hl]; exact k4⟩
    · exact .any _ _
  | aptr id path st n a hid h =>
    intro _
    simp only [ren]
    split
    · rename_i j hj
      obtain ⟨h1, h2⟩ := s.blk id j hj hid
      refine .aptr j path st n a h1 fun b' hb => ?_
      obtain ⟨b, hb0, hl, _, hr⟩ := h2 b' hb
      obtain ⟨k1, q, w, c, k2, k3⟩ := h b hb0
      exact ⟨k1, q, w, c, hr _ _ k2, by rw [hl]; exact k3⟩
    · exact .any _ _
  | rptr o x a hf hs vv h hv ih =>
    intro hr
    rcases hr with hr | hr
    · simp only [ren]
      have hno : ∀ (j : Nat) y, (flat x)[j]? = some y → VR E' false y (vv j) := fun j y hy => VR.roMono (hro hr) hmp (hv j y hy) rfl
      exact .rptr o x a hf hs vv (fun j y hy => ⟨(hro hr _ _ (h j y hy).1).1, (hro hr _ _ (h j y hy).1).2.trans (h j y hy).2⟩) hno
    · simp [noRef] at hr
  | snil => exact fun _ => .snil _
  | slice id path st len w a cap hid hc hs h =>
    intro _
    simp only [ren]
    split
    · rename_i j hj
      obtain ⟨h1, h2⟩ := s.blk id j hj hid
      refine .slice j path st len w a cap h1 hc hs fun b' hb => ?_
      obtain ⟨b, hb0, hl, _, hr⟩ := h2 b' hb
      obtain ⟨q, c, k2, k3⟩ := h b hb0
      exact ⟨q, c, hr _ _ k2, by rw [hl]; exact k3⟩
    · exact .any _ _
  | own id w len a cap hid hc h =>
    intro _
    simp only [ren]
    split
    · rename_i j hj
      obtain ⟨h1, h2⟩ := s.blk id j hj hid
      refine .own j w len a cap h1 hc fun b' hb => ?_
      obtain ⟨b, hb0, hl, _, hr⟩ := h2 b' hb
      obtain ⟨k2, k3⟩ := h b hb0
      exact ⟨hr _ _ k2, by rw [hl]; exact k3⟩
    · exact .any _ _
  | rints o k l a cap hc h =>
    intro hr
    rcases hr with hr | hr
    · refine .rints o k l a cap hc fun i hi => ?_
      obtain ⟨ad, h1, h2, h3, h4⟩ := h i hi
      exact ⟨ad, h1, h2, (hro hr _ _ h3).1, (hro hr _ _ h3).2.trans h4⟩
    · simp [noRef] at hr
  | robjs o e w l a cap hc hw vv ha h hv ih =>
    intro hr
    rcases hr with hr | hr
    · simp only [ren]
      exact .robjs o e w l a cap hc hw vv ha (fun ad i x j y h1 h2 h3 => ⟨(hro hr _ _ (h ad i x j y h1 h2 h3).1).1, (hro hr _ _ (h ad i x j y h1 h2 h3).1).2.trans (h ad i x j y h1 h2 h3).2⟩) fun i x j y h1 h2 => VR.roMono (hro hr) hmp (hv i x j y h1 h2) rfl
    · simp [noRef] at hr
  | agg o kids cs hf hs h ih =>
    intro hr
    have e : flats (rens ρ kids) = (flats kids).map (ren ρ) := flats_ren ρ kids
    have hf' := fit_ren ρ hf
    simp only [ren] at hf' ⊢
    refine .agg o _ cs hf' (by rw [e, List.length_map]; exact hs) fun j x c h1 h2 => ?_
    rw [e, List.getElem?_map] at h1
    cases h3 : (flats kids)[j]? with
    | none => rw [h3] at h1; cases h1
    | some y =>
      rw [h3] at h1
      cases h1
      exact ih j y c h3 h2 (hr.imp_right fun hr => flats_noRef (by simpa [noRef] using hr) y (List.mem_of_getElem? h3))
  | ints o k n l h => exact fun _ => .ints o k n l h
  | tup o vs cs hs h ih =>
    intro hr
    simp only [ren, rens_eq_map]
    refine .tup o _ cs (by rw [List.length_map]; exact hs) fun j x c h1 h2 => ?_
    rw [List.getElem?_map] at h1
    cases h3 : vs[j]? with
    | none => rw [h3] at h1; cases h1
    | some y =>
      rw [h3] at h1
      cases h1
      exact ih j y c h3 h2 (hr.imp_right fun hr => noRefs_mem (by simpa [noRef] using hr) y (List.mem_of_getElem? h3))
  | fn o f xs ys as bs h1 h2 g1 g2 i1 i2 =>
    intro hr
    have hr' : R0 ∨ (noRefs xs = true ∧ noRefs ys = true) := hr.imp_right fun hr => by simpa [noRef] using hr
    simp only [ren, rens_eq_map]
    refine .fn o f _ _ as bs (by rw [List.length_map]; exact h1) (by rw [List.length_map]; exact h2) (fun j x c k1 k2 => ?_) (fun j x c k1 k2 => ?_)
    · rw [List.getElem?_map] at k1
      cases k3 : xs[j]? with
      | none => rw [k3] at k1; cases k1
      | some y =>
        rw [k3] at k1
        cases k1
        exact i1 j y c k3 k2 (hr'.imp_right fun hr => noRefs_mem hr.1 y (List.mem_of_getElem? k3))
    · rw [List.getElem?_map] at k1
      cases k3 : ys[j]? with
      | none => rw [k3] at k1; cases k1
      | some y =>
        rw [k3] at k1
        cases k1
        exact i2 j y c k3 k2 (hr'.imp_right fun hr => noRefs_mem hr.2 y (List.mem_of_getElem? k3))
  | nilf => exact fun _ => .nilf _
  | iface o t x v h ih => intro hr; simp only [ren]; exact .iface o t _ v (ih (by simpa [noRef] using hr))
  | nili => exact fun _ => .nili _
  | raw o v h1 h2 => exact fun _ => .raw _ _ h1 h2
  | errv o tF ts k v h => 
    intro hr
    rcases hr with hr | hr
    · exact .errv _ _ _ _ _ (h.ro (hro hr))
    · simp [noRef] at hr
  | emap o r c h => intro _; exact .emap _ _ _ (hmp _ _ h)
end
end Go.Abs
end
section
set_option linter.unusedVariables false
set_option linter.unusedSimpArgs false
namespace Go.Abs
open Go
theorem reach_spec (bl : Blks) : ∀ (f : Nat) (todo acc : List Nat), acc.Nodup → (∀ i ∈ acc, i < bl.length) → (reach bl f todo acc).Nodup ∧ ∀ i ∈ reach bl f todo acc, i < bl.length
  | 0, _, acc, h, k => ⟨h, k⟩
  | f + 1, [], acc, h, k => ⟨h, k⟩
  | f + 1, i :: r, acc, h, k => by
    unfold reach
    split
    · exact reach_spec bl f r acc h k
    · rename_i hc
      simp at hc
      refine reach_spec bl f _ _ ?_ ?_
      · rw [List.nodup_append]
        exact ⟨h, by simp, fun a ha b hb => by simp at hb; subst hb; intro e; subst e; exact hc.1 ha⟩
      · intro j hj
        rcases List.mem_append.1 hj with hj | hj
        · exact k j hj
        · simp at hj; subst hj; exact hc.2
theorem pos_go : ∀ (l : List Nat) (n i j : Nat), pos.go i l n = some j → n ≤ j ∧ l[j - n]? = some i
  | [], n, i, j, h => by cases h
  | x :: r, n, i, j, h => by
    unfold pos.go at h
    split at h
    · rename_i e
      cases h
      simp [e]
    · have := pos_go r (n + 1) i j h
      refine ⟨by omega, ?_⟩
      rw [show j - n = (j - (n + 1)) + 1 by omega, List.getElem?_cons_succ]
      exact this.2
theorem pos_spec {l : List Nat} {i j : Nat} (h : pos l i = some j) : l[j]? = some i := by
  have := (pos_go l 0 i j h).2
  simpa using this
def Env.lend (E : Env) (lent : List Nat) (looks : Bool) : Env :=
  { w := E.w
    ro := fun b o => E.ro b o ∨ (looks = true ∧ ∃ id blk, id ∉ lent ∧ bget E.bl id = some blk ∧ InExt E id b o)
    loc := fun j => E.loc (lent.getD j 0)
    bl := lent.map fun i => (bget E.bl i).map (renB (pos lent)) }
theorem lend_get {E : Env} {lent : List Nat} {looks : Bool} {j : Nat} {b' : Blk} (h : bget (E.lend lent looks).bl j = some b') :
    ∃ id b, lent[j]? = some id ∧ bget E.bl id = some b ∧ b' = renB (pos lent) b ∧ (E.lend lent looks).loc j = E.loc id := by
  have hl := bget_lt h
  simp only [Env.lend, List.length_map] at hl
  simp only [Env.lend, bget, List.getD_eq_getElem?_getD, List.getElem?_map] at h
  rw [List.getElem?_eq_getElem hl] at h
  simp only [Option.map_some, Option.getD_some] at h
  cases hb : bget E.bl lent[j] with
  | none => rw [show (E.bl[lent[j]]?.getD none) = bget E.bl lent[j] by simp [bget], hb] at h; cases h
  | some b =>
    rw [show (E.bl[lent[j]]?.getD none) = bget E.bl lent[j] by simp [bget], hb] at h
    cases h
    exact ⟨lent[j], b, List.getElem?_eq_getElem hl, hb, rfl, by simp [Env.lend, hl]⟩
theorem Turn.lend {E : Env} {lent : List Nat} {looks : Bool} (hl : ∀ i ∈ lent, i < E.bl.length) : Turn E (E.lend lent looks) (pos lent) := by
  refine ⟨fun id j hj hid => ⟨?_, fun b' hb => ?_⟩⟩
  · have := pos_spec hj
    have := (List.getElem?_eq_some_iff.1 this).1
    simpa [Env.lend] using this
  · obtain ⟨id', b, h1, h2, rfl, h3⟩ := lend_get hb
    rw [pos_spec hj] at h1
    cases h1
    exact ⟨b, h2, h3, fun p q h => by rw [offB_ren]; exact h, fun p r h => by rw [rowB_ren]; exact h⟩
theorem own_lend {E : Env} {lent : List Nat} {looks : Bool} {b o : Nat} (h : Own (E.lend lent looks) b o) : ∃ id blk, id ∈ lent ∧ bget E.bl id = some blk ∧ InExt E id b o := by
  obtain ⟨j, b', hb, hx⟩ := h
  obtain ⟨id, blk, h1, h2, h3, h4⟩ := lend_get hb
  unfold InExt at hx
  rw [h4] at hx
  exact ⟨id, blk, List.mem_of_getElem? h1, h2, hx⟩
theorem lend_ro {E : Env} {lent : List Nat} {looks : Bool} : True → ∀ b o, E.ro b o → (E.lend lent looks).ro b o ∧ (E.lend lent looks).cell b o = E.cell b o :=
  fun _ b o h => ⟨.inl h, rfl⟩
theorem Mem.lend {E : Env} {lent : List Nat} {looks : Bool} (m : Mem E) (hl : ∀ i ∈ lent, i < E.bl.length) (hn : lent.Nodup) : Mem (E.lend lent looks) := by
  refine ⟨fun j b' hb => ?_, fun i j bi bj hij hi hj b o hx hy => ?_, fun b o h => ?_, fun b o ho h => ?_⟩
  · obtain ⟨id, blk, h1, h2, rfl, h4⟩ := lend_get hb
    have k := m.ok id blk h2
    refine ⟨fitB_ren k.fit, by rw [flatB_ren k.fit, List.length_map, h4]; exact k.len, fun i x hx => ?_, fun i hi => ?_⟩
    · rw [flatB_ren k.fit, List.getElem?_map] at hx
      cases hy : (flatB blk)[i]? with
      | none => rw [hy] at hx; cases hx
      | some y =>
        rw [hy] at hx
        cases hx
        obtain ⟨v, h5, h6⟩ := k.cells i y hy
        exact ⟨v, by rw [h4]; exact h5, VR.turn (Turn.lend hl) lend_ro (fun _ _ h => h) h6 (.inl trivial)⟩
    · rw [h4] at hi ⊢
      exact k.room i hi
  · obtain ⟨id, blk, h1, h2, _, h4⟩ := lend_get hi
    obtain ⟨id', blk', k1, k2, _, k4⟩ := lend_get hj
    unfold InExt at hx hy
    rw [h4] at hx
    rw [k4] at hy
    refine m.dis id id' blk blk' (fun e => ?_) h2 k2 b o hx hy
    subst e
    exact hij ((List.getElem?_inj (List.getElem?_eq_some_iff.1 h1).1 hn).1 (h1.trans k1.symm))
  · rcases h with h | ⟨_, id, blk, _, h2, h3⟩
    · exact m.roe b o h
    · have := ((m.ok id blk h2).room (o - (E.loc id).2.1) (by have := h3.2; omega)).1
      rw [show (E.loc id).2.1 + (o - (E.loc id).2.1) = o by have := h3.2; omega, h3.1] at this
      exact this
  · obtain ⟨id, blk, h1, h2, h3⟩ := own_lend ho
    rcases h with h | ⟨_, id', blk', k1, k2, k3⟩
    · exact m.rod b o ⟨id, blk, h2, h3⟩ h
    · exact m.dis id id' blk blk' (fun e => k1 (e ▸ h1)) h2 k2 b o h3 k3
theorem putBack_get (ρ : Nat → Option Nat) : ∀ (lent : List Nat) (out bl : Blks), lent.Nodup → (∀ i ∈ lent, i < bl.length) → lent.length ≤ out.length →
    (putBack ρ lent out bl).length = bl.length + (out.length - lent.length) ∧
    (∀ i, i < bl.length → i ∉ lent → bget (putBack ρ lent out bl) i = bget bl i) ∧
    (∀ (j : Nat) i, lent[j]? = some i → bget (putBack ρ lent out bl) i = (bget out j).map (renB ρ)) ∧
    ∀ j, bget (putBack ρ lent out bl) (bl.length + j) = (bget out (lent.length + j)).map (renB ρ)
  | [], out, bl, _, _, _ => by
    unfold putBack
    refine ⟨by simp, fun i hi _ => bget_append hi, fun j i h => by simp at h, fun j => ?_⟩
    simp only [bget, List.getD_eq_getElem?_getD]
    rw [List.getElem?_append_right (by omega)]
    simp only [Nat.add_sub_cancel_left, List.getElem?_map, List.length_nil, Nat.zero_add]
    cases out[j]? <;> rfl
  | i :: is, [], bl, _, _, hl => by simp at hl
  | i :: is, b :: out, bl, hn, hb, hl => by
    unfold putBack
    rw [List.nodup_cons] at hn
    obtain ⟨h1, h2, h3, h4⟩ := putBack_get ρ is out (bl.set i (b.map (renB ρ))) hn.2 (fun j hj => by simpa using hb j (by simp [hj])) (by simpa using hl)
    have hi : i < bl.length := hb i (by simp)
    refine ⟨by simpa using h1, fun k hk hm => ?_, fun j k hj => ?_, fun j => ?_⟩
    · simp only [List.mem_cons, not_or] at hm
      rw [h2 k (by simpa using hk) hm.2, bget_set_ne (fun e => hm.1 e.symm)]
    · cases j with
      | zero =>
        simp at hj
        subst hj
        rw [h2 i (by simpa using hi) hn.1, bget_set_self hi]
        rfl
      | succ j =>
        rw [h3 j k (by simpa using hj)]
        simp [bget]
    · have := h4 j
      simp only [List.length_set] at this
      rw [this]
      simp [bget, Nat.succ_add]
def Env.back (E E2 : Env) (lent : List Nat) (looks : Bool) (out : Blks) : Env :=
  { w := E2.w
    ro := fun b o => if looks = true then E.ro b o else E2.ro b o
    loc := fun i => if i < E.bl.length then E.loc i else E2.loc (lent.length + (i - E.bl.length))
    bl := putBack (backOf lent E.bl.length) lent out E.bl }
structure BackIn (E E2 : Env) (lent : List Nat) (looks : Bool) (out : Blks) : Prop where
  m : Mem E
  hl : ∀ i ∈ lent, i < E.bl.length
  hn : lent.Nodup
  go : Go (E.lend lent looks) E2
  bl : E2.bl = out
  rf : looks = true → refFree out = true
  nf : noFrees E.bl lent = true
theorem refFree_get : ∀ {out : Blks} {j : Nat} {b : Blk}, refFree out = true → bget out j = some b → (∃ v, b = .var v ∧ noRef v = true) ∨ (∃ k l, b = .ints k l) ∨ b = .free
  | [], j, b, _, h => by simp [bget] at h
  | x :: r, 0, b, hr, h => by
    simp [bget] at h
    subst h
    unfold refFree at hr
    split at hr
    · rename_i heq; cases heq
    · rename_i heq
      injection heq with h1 h2
      injection h1 with h1
      subst h1
      simp at hr
      exact .inl ⟨_, rfl, hr.1⟩
    · cases hr
    · rename_i h1 h2 heq
      injection heq with h3 h4
      subst h3
      cases b with
      | free => exact .inr (.inr rfl)
      | var v => exact absurd rfl (h1 v)
      | ints k l => exact .inr (.inl ⟨k, l, rfl⟩)
      | objs e w l => exact absurd rfl (h2 e w l)
  | x :: r, j + 1, b, hr, h => by
    have h' : bget r j = some b := by simpa [bget] using h
    refine refFree_get (out := r) (j := j) ?_ h'
    unfold refFree at hr
    split at hr
    · rename_i heq; cases heq
    · rename_i heq
      injection heq with h1 h2
      subst h2
      simp at hr
      exact hr.2
    · cases hr
    · rename_i heq
      injection heq with h3 h4
      subst h4
      exact hr
theorem refFree_flat {b : Blk} (h : (∃ v, b = .var v ∧ noRef v = true) ∨ (∃ k l, b = .ints k l) ∨ b = .free) : ∀ y ∈ flatB b, noRef y = true := by
  rcases h with ⟨v, rfl, h⟩ | ⟨k, l, rfl⟩ | rfl
  rotate_left 2
  · intro y hy; simp [flatB] at hy
  · exact flat_noRef h
  · intro y hy
    simp [flatB] at hy
    obtain ⟨z, _, rfl⟩ := hy
    rfl
theorem BackIn.old {E E2 : Env} {lent : List Nat} {looks : Bool} {out : Blks} (B : BackIn E E2 lent looks out) {j : Nat} (hj : j < (E.lend lent looks).bl.length) {b2 : Blk} (hb : bget E2.bl j = some b2) :
    ∃ blk, bget (E.lend lent looks).bl j = some blk ∧ E2.loc j = (E.lend lent looks).loc j ∧ (∀ p q, offB blk p = some q → offB b2 p = some q) ∧ (∀ p r, rowB blk p = some r → rowB b2 p = some r) := by
  rcases B.go.step.blk j hj b2 hb with hf | h
  · obtain ⟨id, b, h1, h2, h3, _⟩ := lend_get hf
    have : b = .free := by cases b <;> simp [renB] at h3 ⊢
    subst this
    have := List.all_eq_true.1 B.nf id (List.mem_of_getElem? h1)
    simp [h2] at this
  · exact h
theorem back_get {E E2 : Env} {lent : List Nat} {looks : Bool} {out : Blks} (B : BackIn E E2 lent looks out) {i : Nat} {b : Blk} (h : bget (E.back E2 lent looks out).bl i = some b) :
    (i ∉ lent ∧ bget E.bl i = some b ∧ (E.back E2 lent looks out).loc i = E.loc i) ∨
    ∃ j b2, bget out j = some b2 ∧ b = renB (backOf lent E.bl.length) b2 ∧ (E.back E2 lent looks out).loc i = E2.loc j ∧
      ((lent[j]? = some i ∧ i < E.bl.length ∧ E2.loc j = E.loc i) ∨ (lent.length ≤ j ∧ i = E.bl.length + (j - lent.length))) := by
  have hlo : lent.length ≤ out.length := by
    have := B.go.step.len
    rw [B.bl] at this
    simpa [Env.lend] using this
  obtain ⟨h1, h2, h3, h4⟩ := putBack_get (backOf lent E.bl.length) lent out E.bl B.hn B.hl hlo
  rcases Nat.lt_or_ge i E.bl.length with hi | hi
  · by_cases hm : i ∈ lent
    · obtain ⟨j, hj⟩ := List.getElem?_of_mem hm
      have := h3 j i hj
      change bget (putBack _ _ _ _) i = some b at h
      rw [this] at h
      cases hb : bget out j with
      | none => rw [hb] at h; cases h
      | some b2 =>
        rw [hb] at h
        cases h
        have hjl : j < (E.lend lent looks).bl.length := by have := (List.getElem?_eq_some_iff.1 hj).1; simpa [Env.lend] using this
        obtain ⟨b1, k1, k2, _⟩ := B.old hjl (by rw [B.bl]; exact hb)
        obtain ⟨id, b0, g1, g2, g3, g4⟩ := lend_get k1
        rw [hj] at g1
        cases g1
        have e : E2.loc j = E.loc i := k2.trans g4
        exact .inr ⟨j, b2, hb, rfl, by simp [Env.back, hi, e], .inl ⟨hj, hi, e⟩⟩
    · have := h2 i hi hm
      change bget (putBack _ _ _ _) i = some b at h
      rw [this] at h
      exact .inl ⟨hm, h, by simp [Env.back, hi]⟩
  · have := h4 (i - E.bl.length)
    rw [show E.bl.length + (i - E.bl.length) = i by omega] at this
    change bget (putBack _ _ _ _) i = some b at h
    rw [this] at h
    cases hb : bget out (lent.length + (i - E.bl.length)) with
    | none => rw [hb] at h; cases h
    | some b2 =>
      rw [hb] at h
      cases h
      exact .inr ⟨_, b2, hb, rfl, by simp [Env.back, Nat.not_lt.2 hi], .inr ⟨by omega, by omega⟩⟩
theorem Turn.back {E E2 : Env} {lent : List Nat} {looks : Bool} {out : Blks} (B : BackIn E E2 lent looks out) : Turn E2 (E.back E2 lent looks out) (backOf lent E.bl.length) := by
  have hlo : lent.length ≤ out.length := by
    have := B.go.step.len
    rw [B.bl] at this
    simpa [Env.lend] using this
  obtain ⟨h1, h2, h3, h4⟩ := putBack_get (backOf lent E.bl.length) lent out E.bl B.hn B.hl hlo
  refine ⟨fun id j hj hid => ?_⟩
  rw [B.bl] at hid
  unfold backOf at hj
  split at hj
  · rename_i hlt
    have hjE := B.hl j (List.mem_of_getElem? hj)
    refine ⟨by show j < (putBack _ _ _ _).length; rw [h1]; omega, fun b' hb => ?_⟩
    change bget (putBack _ _ _ _) j = some b' at hb
    rw [h3 id j hj] at hb
    cases ho : bget out id with
    | none => rw [ho] at hb; cases hb
    | some b2 =>
      rw [ho] at hb
      cases hb
      have hjl : id < (E.lend lent looks).bl.length := by simpa [Env.lend] using hlt
      obtain ⟨b1, k1, k2, _⟩ := B.old hjl (by rw [B.bl]; exact ho)
      obtain ⟨i, b0, g1, g2, g3, g4⟩ := lend_get k1
      rw [hj] at g1
      cases g1
      exact ⟨b2, by rw [B.bl]; exact ho, by simp only [Env.back, hjE, if_true]; exact (k2.trans g4).symm, fun p q h => by rw [offB_ren]; exact h, fun p r h => by rw [rowB_ren]; exact h⟩
  · rename_i hlt
    cases hj
    refine ⟨by show _ < (putBack _ _ _ _).length; rw [h1]; omega, fun b' hb => ?_⟩
    change bget (putBack _ _ _ _) _ = some b' at hb
    rw [h4, show lent.length + (id - lent.length) = id by omega] at hb
    cases ho : bget out id with
    | none => rw [ho] at hb; cases hb
    | some b2 =>
      rw [ho] at hb
      cases hb
      exact ⟨b2, by rw [B.bl]; exact ho, by simp only [Env.back]; rw [if_neg (by omega), show lent.length + (E.bl.length + (id - lent.length) - E.bl.length) = id by omega], fun p q h => by rw [offB_ren]; exact h, fun p r h => by rw [rowB_ren]; exact h⟩
theorem Fr.back {E E2 : Env} {lent : List Nat} {looks : Bool} {out : Blks} (B : BackIn E E2 lent looks out) : Fr E (E.back E2 lent looks out) := by
  have f := B.go.fr
  have ol : ∀ b o, Own (E.lend lent looks) b o → Own E b o := fun b o h => let ⟨id, blk, _, h2, h3⟩ := own_lend h; ⟨id, blk, h2, h3⟩
  have o2 : ∀ b o, Own E2 b o → Own E b o ∨ E.w.heap.size ≤ b := fun b o h => (f.own b o h).imp (ol b o) id
  refine ⟨f.os, f.tape, f.output, f.size, fun b o hb hn => f.cell b o hb fun h => hn (ol b o h), fun b hb hn => f.blk b hb fun o h => hn o (ol b o h),
    fun b o hb hn => f.frz b o hb fun h => hn (ol b o h), fun b o h => ?_, fun b o h => ?_, fun b o h => ?_⟩
  · obtain ⟨i, bk, hb, hx⟩ := h
    unfold InExt at hx
    rcases back_get B hb with ⟨_, h2, h3⟩ | ⟨j, b2, h2, _, h3, _⟩
    · rw [h3] at hx
      exact .inl ⟨i, bk, h2, hx⟩
    · rw [h3] at hx
      exact o2 b o ⟨j, b2, by rw [B.bl]; exact h2, hx⟩
  · simp only [Env.back] at h
    split at h
    · exact .inl h
    · rename_i hk
      rcases f.roi b o h with h | h | h
      · rcases h with h | ⟨h, _⟩
        · exact .inl h
        · exact absurd h hk
      · exact .inr (.inl (ol b o h))
      · exact .inr (.inr h)
  · simp only [Env.back]
    split
    · exact h
    · exact f.rom b o (.inl h)
theorem Go.back {E E2 : Env} {lent : List Nat} {looks : Bool} {out : Blks} (B : BackIn E E2 lent looks out) : Go E (E.back E2 lent looks out) := by
  have f := B.go.fr
  have fr := Fr.back B
  have hlo : lent.length ≤ out.length := by
    have := B.go.step.len
    rw [B.bl] at this
    simpa [Env.lend] using this
  obtain ⟨h1, h2, h3, h4⟩ := putBack_get (backOf lent E.bl.length) lent out E.bl B.hn B.hl hlo
  have st : Step E (E.back E2 lent looks out) := .of_fr B.m fr (by show _ ≤ (putBack _ _ _ _).length; rw [h1]; omega) fun id hid blk' hb => by
    rcases back_get B hb with ⟨_, g2, g3⟩ | ⟨j, b2, g2, rfl, g3, g4⟩
    · exact ⟨blk', g2, g3, fun _ _ h => h, fun _ _ h => h⟩
    · rcases g4 with ⟨g4, _, g5⟩ | ⟨_, g4⟩
      · have hjl : j < (E.lend lent looks).bl.length := by have := (List.getElem?_eq_some_iff.1 g4).1; simpa [Env.lend] using this
        obtain ⟨b1, k1, k2, k3, k4⟩ := B.old hjl (by rw [B.bl]; exact g2)
        obtain ⟨i, b0, e1, e2, rfl, e4⟩ := lend_get k1
        rw [g4] at e1
        cases e1
        refine ⟨b0, e2, g3.trans g5, fun p q h => ?_, fun p r h => ?_⟩
        · rw [offB_ren]
          exact k3 p q (by rw [offB_ren]; exact h)
        · rw [rowB_ren]
          exact k4 p r (by rw [rowB_ren]; exact h)
      · omega
  have ro2 : ∀ b o, (E.back E2 lent looks out).ro b o → E2.ro b o := fun b o h => by
    simp only [Env.back] at h
    split at h
    · exact f.rom b o (.inl h)
    · exact h
  have nl : ∀ id blk, id ∉ lent → bget E.bl id = some blk → ∀ b o, InExt E id b o → ¬ Own (E.lend lent looks) b o := fun id blk hm hb b o hx ho => by
    obtain ⟨id', blk', k1, k2, k3⟩ := own_lend ho
    exact B.m.dis id id' blk blk' (fun e => hm (e ▸ k1)) hb k2 b o hx k3
  refine ⟨st, fr, ⟨fun i bk hb => ?_, fun i j bi bj hij hi hj b o hx hy => ?_, fun b o h => B.go.mem.roe b o (ro2 b o h), fun b o ho h => ?_⟩⟩
  · rcases back_get B hb with ⟨g1, g2, g3⟩ | ⟨j, b2, g2, rfl, g3, g4⟩
    · have k := B.m.ok i bk g2
      have same : ∀ j, j < (E.loc i).2.2 → ¬ Own (E.lend lent looks) (E.loc i).1 ((E.loc i).2.1 + j) := fun j hj => nl i bk g1 g2 _ _ ⟨rfl, by omega, by omega⟩
      refine ⟨k.fit, by rw [g3]; exact k.len, fun j x hx => ?_, fun j hj => ?_⟩
      · obtain ⟨v, e1, e2⟩ := k.cells j x hx
        have hj : j < (E.loc i).2.2 := by have := (List.getElem?_eq_some_iff.1 hx).1; have := k.len; omega
        rw [g3]
        exact ⟨v, (f.cell _ _ (cell_lt (k.room j hj).1) (same j hj)).trans e1, e2.mono st⟩
      · rw [g3] at hj ⊢
        have e := k.room j hj
        have hlt := cell_lt e.1
        exact ⟨by rw [show (E.back E2 lent looks out).cell _ _ = _ from f.cell _ _ hlt (same j hj)]; exact e.1, (f.frz _ _ hlt (same j hj)).trans e.2⟩
    · have k := B.go.mem.ok j b2 (by rw [B.bl]; exact g2)
      refine ⟨fitB_ren k.fit, by rw [flatB_ren k.fit, List.length_map, g3]; exact k.len, fun n x hx => ?_, fun n hn => by rw [g3] at hn ⊢; exact k.room n hn⟩
      rw [flatB_ren k.fit, List.getElem?_map] at hx
      cases hy : (flatB b2)[n]? with
      | none => rw [hy] at hx; cases hx
      | some y =>
        rw [hy] at hx
        cases hx
        obtain ⟨v, e1, e2⟩ := k.cells n y hy
        rw [g3]
        refine ⟨v, e1, VR.turn (R0 := looks ≠ true) (Turn.back B) (fun hk b o h => ⟨by simp only [Env.back, hk, if_false]; exact h, rfl⟩) (fun _ _ h => h) e2 ?_⟩
        by_cases hk : looks = true
        · exact .inr (refFree_flat (refFree_get (B.rf hk) g2) y (List.mem_of_getElem? hy))
        · exact .inl hk
  · unfold InExt at hx hy
    rcases back_get B hi with ⟨g1, g2, g3⟩ | ⟨n, b2, g2, _, g3, g4⟩ <;> rcases back_get B hj with ⟨e1, e2, e3⟩ | ⟨k, c2, e2, _, e3, e4⟩
    · rw [g3] at hx
      rw [e3] at hy
      exact B.m.dis i j bi bj hij g2 e2 b o hx hy
    · rw [g3] at hx
      rw [e3] at hy
      rcases f.own b o ⟨k, c2, by rw [B.bl]; exact e2, hy⟩ with h | h
      · exact nl i bi g1 g2 b o hx h
      · have := B.m.own_lt ⟨i, bi, g2, hx⟩
        change E.w.heap.size ≤ b at h
        omega
    · rw [g3] at hx
      rw [e3] at hy
      rcases f.own b o ⟨n, b2, by rw [B.bl]; exact g2, hx⟩ with h | h
      · exact nl j bj e1 e2 b o hy h
      · have := B.m.own_lt ⟨j, bj, e2, hy⟩
        change E.w.heap.size ≤ b at h
        omega
    · rw [g3] at hx
      rw [e3] at hy
      refine B.go.mem.dis n k b2 c2 (fun e => hij ?_) (by rw [B.bl]; exact g2) (by rw [B.bl]; exact e2) b o hx hy
      subst e
      rcases g4 with ⟨g4, _⟩ | ⟨g4, g5⟩ <;> rcases e4 with ⟨e4, _⟩ | ⟨e4, e5⟩
      · exact Option.some.inj (g4.symm.trans e4)
      · have := (List.getElem?_eq_some_iff.1 g4).1
        omega
      · have := (List.getElem?_eq_some_iff.1 e4).1
        omega
      · omega
  · obtain ⟨i, bk, hb, hx⟩ := ho
    unfold InExt at hx
    rcases back_get B hb with ⟨g1, g2, g3⟩ | ⟨j, b2, g2, _, g3, _⟩
    · rw [g3] at hx
      simp only [Env.back] at h
      split at h
      · exact B.m.rod b o ⟨i, bk, g2, hx⟩ h
      · rename_i hk
        rcases f.roi b o h with h | h | h
        · rcases h with h | ⟨h, _⟩
          · exact B.m.rod b o ⟨i, bk, g2, hx⟩ h
          · exact absurd h hk
        · exact nl i bk g1 g2 b o hx h
        · have := B.m.own_lt ⟨i, bk, g2, hx⟩
          change E.w.heap.size ≤ b at h
          omega
    · rw [g3] at hx
      exact B.go.mem.rod b o ⟨j, b2, by rw [B.bl]; exact g2, hx⟩ (ro2 b o h)
end Go.Abs
end
section
set_option linter.unusedVariables false
set_option linter.unusedSimpArgs false
namespace Go.Abs
open Go
mutual
theorem view_noOwn (bl : Blks) : ∀ {x : AV}, noOwn x = true → view bl x = some x
  | .agg kids, h => by unfold view; rw [views_noOwn bl (by simpa [noOwn] using h)]
  | .tup kids, h => by unfold view; rw [views_noOwn bl (by simpa [noOwn] using h)]
  | .fn f a b, h => by
    simp only [noOwn, Bool.and_eq_true] at h
    unfold view; rw [views_noOwn bl h.1, views_noOwn bl h.2]
  | .iface t v, h => by unfold view; rw [view_noOwn bl (by simpa [noOwn] using h)]
  | .any, _ | .bool _, _ | .int _ _, _ | .str _, _ | .nilp, _ | .rptr _, _ | .snil, _ | .rints _ _, _ | .robjs _ _ _, _ | .ints _ _ _, _ | .nilf, _ | .nili, _ | .raw _, _ | .errv _ _ _, _ | .emap, _ => by simp [view]
  | .ptr _ _, h | .aptr _ _ _ _, h | .slice _ _ _ _ _, h | .own _ _, h => by simp [noOwn] at h
theorem views_noOwn (bl : Blks) : ∀ {l : List AV}, noOwns l = true → views bl l = some l
  | [], _ => rfl
  | x :: r, h => by
    simp only [noOwns, Bool.and_eq_true] at h
    unfold views; rw [view_noOwn bl h.1, views_noOwn bl h.2]
end
theorem views_get (bl : Blks) : ∀ {l l' : List AV}, views bl l = some l' → l'.length = l.length ∧ ∀ (j : Nat) y, l'[j]? = some y → ∃ x, l[j]? = some x ∧ view bl x = some y
  | [], l', h => by cases h; exact ⟨rfl, fun j y h => by simp at h⟩
  | x :: r, l', h => by
    unfold views at h
    split at h
    · rename_i y r' h1 h2
      cases h
      obtain ⟨g1, g2⟩ := views_get bl h2
      refine ⟨by simp [g1], fun j z hz => ?_⟩
      cases j with
      | zero => simp at hz; subst hz; exact ⟨x, rfl, h1⟩
      | succ j => exact g2 j z (by simpa using hz)
    · cases h
theorem view_leaf (bl : Blks) {x y : AV} (hx : Leaf x) (h : view bl x = some y) : Leaf y := by
  unfold view at h
  split at h
  all_goals try (exact absurd rfl (hx.1 _))
  all_goals (repeat' (split at h))
  all_goals (first | (cases h; done) | (cases h; exact hx) | (cases h; exact ⟨by simp, by simp⟩))
mutual
theorem flat_view (bl : Blks) : ∀ {x y : AV}, view bl x = some y → (flat y).length = (flat x).length ∧ width y = width x ∧ ∀ (j : Nat) z, (flat y)[j]? = some z → ∃ u, (flat x)[j]? = some u ∧ view bl u = some z
  | .agg kids, y, h => by
    unfold view at h
    split at h
    · rename_i l hl
      cases h
      simpa only [flat, width] using flats_view bl hl
    · cases h
  | .ints k n l, y, h => by
    simp only [view] at h
    cases h
    refine ⟨rfl, rfl, fun j z hz => ⟨z, hz, ?_⟩⟩
    have := List.mem_of_getElem? hz
    simp only [flat, List.mem_map] at this
    obtain ⟨u, _, rfl⟩ := this
    simp [view]
  | .any, y, h | .tup _, y, h | .bool _, y, h | .int _ _, y, h | .str _, y, h | .nilp, y, h | .ptr _ _, y, h | .aptr _ _ _ _, y, h | .rptr _, y, h | .snil, y, h | .slice _ _ _ _ _, y, h | .own _ _, y, h
  | .rints _ _, y, h | .robjs _ _ _, y, h | .fn _ _ _, y, h | .nilf, y, h | .iface _ _, y, h | .nili, y, h | .raw _, y, h | .errv _ _ _, y, h | .emap, y, h => by
    have hy := (view_leaf bl ⟨by simp, by simp⟩ h).one
    rw [hy.1, hy.2]
    refine ⟨by simp [flat], by simp [width], fun j z hz => ?_⟩
    cases j with
    | zero => simp at hz; subst hz; exact ⟨_, by simp [flat], h⟩
    | succ j => simp at hz
theorem flats_view (bl : Blks) : ∀ {l l' : List AV}, views bl l = some l' → (flats l').length = (flats l).length ∧ widths l' = widths l ∧ ∀ (j : Nat) z, (flats l')[j]? = some z → ∃ u, (flats l)[j]? = some u ∧ view bl u = some z
  | [], l', h => by cases h; exact ⟨rfl, rfl, fun j z h => by simp [flats] at h⟩
  | x :: r, l', h => by
    unfold views at h
    split at h
    · rename_i y r' h1 h2
      cases h
      obtain ⟨a1, a2, a3⟩ := flat_view bl h1
      obtain ⟨b1, b2, b3⟩ := flats_view bl h2
      refine ⟨by simp [flats, a1, b1], by simp [widths, a2, b2], fun j z hz => ?_⟩
      simp only [flats] at hz ⊢
      rcases Nat.lt_or_ge j (flat y).length with hj | hj
      · rw [List.getElem?_append_left hj] at hz
        rw [List.getElem?_append_left (by omega)]
        exact a3 j z hz
      · rw [List.getElem?_append_right hj] at hz
        rw [List.getElem?_append_right (by omega), ← a1]
        exact b3 _ z hz
    · cases h
end
theorem fit_view (bl : Blks) {x : AV} (hf : Fit x) : ∀ {y : AV}, view bl x = some y → Fit y := by
  induction hf with
  | ints k n l h => intro y hy; simp only [view] at hy; cases hy; exact .ints _ _ _ h
  | agg kids h ih =>
    intro y hy
    unfold view at hy
    split at hy
    · rename_i l hl
      cases hy
      refine .agg _ fun z hz => ?_
      obtain ⟨j, hj⟩ := List.getElem?_of_mem hz
      obtain ⟨x, h1, h2⟩ := (views_get bl hl).2 j z hj
      exact ih x (List.mem_of_getElem? h1) h2
    · cases hy
  | leaf x h => intro y hy; exact .leaf _ (view_leaf bl h hy)
structure Looks (E Ec : Env) (S : Nat → Prop) : Prop where
  ro : ∀ b o, E.ro b o → Ec.ro b o
  cell : ∀ b o, Ec.cell b o = E.cell b o
  own : ∀ id blk, S id → bget E.bl id = some blk → ∀ b o, InExt E id b o → Ec.ro b o
  mp : MapsStay E Ec
theorem rints_of {E : Env} {k : IntKind} {l : List Int} {a : Option Addr} {n cap b o : Nat} (hn : n = l.length) (hc : n ≤ cap) (ha : l ≠ [] → a = some ⟨b, o, none⟩)
    (h : ∀ i, i < l.length → E.ro b (o + i) ∧ E.cell b (o + i) = some (.int k (l.getD i 0))) : VR E false (.rints k l) (.slice a n cap) := by
  subst hn
  refine .rints _ k l a cap hc fun i hi => ?_
  have hne : l ≠ [] := fun e => by subst e; simp at hi
  exact ⟨_, ha hne, rfl, (h i hi).1, (h i hi).2⟩
theorem objs_flat_put {l : List AV} {w : Nat} (h : ∀ x ∈ l, (Fit x ∧ width x = w) ∧ noOwn x = true ∧ solid x = true) {i j : Nat} {x y : AV} (hx : l[i]? = some x) (hy : (flat x)[j]? = some y) :
    (flats l)[i * w + j]? = some y := by
  rw [flats_split hx]
  have hi := (List.getElem?_eq_some_iff.1 hx).1
  have e : (flats (l.take i)).length = i * w := by rw [objs_flat_length fun x hx => h x (List.mem_of_mem_take hx)]; simp [Nat.min_eq_left (Nat.le_of_lt hi)]
  rw [List.getElem?_append_right (by omega), e, Nat.add_sub_cancel_left, List.getElem?_append_left (List.getElem?_eq_some_iff.1 hy).1]
  exact hy
theorem robjs_of {E : Env} {e w : Nat} {l : List AV} {a : Option Addr} {n cap b o : Nat} (hn : n = l.length) (hc : n ≤ cap) (hf : ∀ x ∈ l, (Fit x ∧ width x = w) ∧ noOwn x = true ∧ solid x = true)
    (ha : l ≠ [] → a = some ⟨b, o, none⟩) (h : ∀ (j : Nat) x, (flats l)[j]? = some x → E.ro b (o + j) ∧ ∃ c, E.cell b (o + j) = some c ∧ VR E false x c) : VR E false (.robjs e w l) (.slice a n cap) := by
  subst hn
  have hall : ∀ j, ∃ v, ∀ y, (flats l)[j]? = some y → E.cell b (o + j) = some v ∧ VR E false y v := fun j => by
    cases hy : (flats l)[j]? with
    | none => exact ⟨undef, fun y h => by simp at h⟩
    | some y => obtain ⟨_, v, h1, h2⟩ := h j y hy; exact ⟨v, fun z hz => by simp at hz; subst hz; exact ⟨h1, h2⟩⟩
  obtain ⟨vv, hvv⟩ := Classical.axiomOfChoice hall
  refine .robjs _ e w l a cap hc hf (fun i j => vv (i * w + j)) (fun hne => ⟨_, ha hne, rfl⟩) (fun ad i x j y had hx hy => ?_) fun i x j y hx hy => ?_
  · have hne : l ≠ [] := fun e => by subst e; simp at hx
    have := ha hne
    rw [had] at this
    cases this
    have hj := objs_flat_put hf hx hy
    refine ⟨?_, ?_⟩
    · simp only [Nat.add_assoc]; exact (h _ y hj).1
    · simp only [Nat.add_assoc]; exact (hvv _ y hj).1
  · exact (hvv _ y (objs_flat_put hf hx hy)).2
theorem idss_mem : ∀ {l : List AV} {x : AV} {i : Nat}, x ∈ l → i ∈ ids x → i ∈ idss l
  | y :: r, x, i, hx, hi => by
    unfold idss
    rcases List.mem_cons.1 hx with rfl | hx
    · exact List.mem_append_left _ hi
    · exact List.mem_append_right _ (idss_mem hx hi)
mutual
theorem ids_flat : ∀ {x y : AV} {i : Nat}, y ∈ flat x → i ∈ ids y → i ∈ ids x
  | .agg kids, y, i, hy, hi => by unfold ids; exact idss_flats (by simpa [flat] using hy) hi
  | .ints k n l, y, i, hy, hi => by
    simp only [flat, List.mem_map] at hy
    obtain ⟨z, _, rfl⟩ := hy
    simp [ids] at hi
  | .any, y, i, hy, hi | .tup _, y, i, hy, hi | .bool _, y, i, hy, hi | .int _ _, y, i, hy, hi | .str _, y, i, hy, hi | .nilp, y, i, hy, hi | .ptr _ _, y, i, hy, hi | .aptr _ _ _ _, y, i, hy, hi | .rptr _, y, i, hy, hi | .snil, y, i, hy, hi | .slice _ _ _ _ _, y, i, hy, hi | .own _ _, y, i, hy, hi
  | .rints _ _, y, i, hy, hi | .robjs _ _ _, y, i, hy, hi | .fn _ _ _, y, i, hy, hi | .nilf, y, i, hy, hi | .iface _ _, y, i, hy, hi | .nili, y, i, hy, hi | .raw _, y, i, hy, hi | .errv _ _ _, y, i, hy, hi | .emap, y, i, hy, hi => by
    simp only [flat, List.mem_singleton] at hy
    subst hy
    exact hi
theorem idss_flats : ∀ {l : List AV} {y : AV} {i : Nat}, y ∈ flats l → i ∈ ids y → i ∈ idss l
  | x :: r, y, i, hy, hi => by
    unfold idss
    simp only [flats, List.mem_append] at hy
    rcases hy with hy | hy
    · exact List.mem_append_left _ (ids_flat hy hi)
    · exact List.mem_append_right _ (idss_flats hy hi)
end
theorem view_own {E Ec : Env} {S : Nat → Prop} (L : Looks E Ec S) (m : Mem E) {id : Nat} {b : Blk} (hb : bget E.bl id = some b) (hs : S id) {j : Nat} {z : AV} (hz : (flatB b)[j]? = some z) (hn : noOwn z = true) :
    Ec.ro (E.loc id).1 ((E.loc id).2.1 + j) ∧ ∃ c, Ec.cell (E.loc id).1 ((E.loc id).2.1 + j) = some c ∧ VR Ec false z c := by
  have k := m.ok id b hb
  have hj := (List.getElem?_eq_some_iff.1 hz).1
  have := k.len
  refine ⟨L.own id b hs hb _ _ ⟨rfl, by omega, by omega⟩, ?_⟩
  obtain ⟨v, h1, h2⟩ := k.cells j z hz
  exact ⟨v, by rw [L.cell]; exact h1, VR.roMono (fun b o h => ⟨L.ro b o h, L.cell b o⟩) L.mp (h2.low hn) rfl⟩
theorem view_sound {E Ec : Env} {S : Nat → Prop} (L : Looks E Ec S) (m : Mem E) {o : Bool} {x : AV} {v : Value} (h : VR E o x v) :
    ∀ {y : AV}, view E.bl x = some y → (∀ i ∈ ids x, S i) → VR Ec false y v := by
  have leaf : ∀ {o : Bool} {x : AV} {v : Value}, VR E o x v → noOwn x = true → ∀ {y : AV}, view E.bl x = some y → VR Ec false y v := by
    intro o x v h hn y hy
    rw [view_noOwn _ hn] at hy
    cases hy
    exact VR.roMono (fun b o h => ⟨L.ro b o h, L.cell b o⟩) L.mp (h.low hn) rfl
  induction h with
  | any o v => intro y hy _; exact leaf (.any o v) rfl hy
  | bool o b => intro y hy _; exact leaf (.bool o b) rfl hy
  | int o k n => intro y hy _; exact leaf (.int o k n) rfl hy
  | str o s => intro y hy _; exact leaf (.str o s) rfl hy
  | nilp o => intro y hy _; exact leaf (.nilp o) rfl hy
  | rptr o x a hf hs vv h hv ih => intro y hy _; exact leaf (.rptr o x a hf hs vv h hv) rfl hy
  | snil o => intro y hy _; exact leaf (.snil o) rfl hy
  | rints o k l a cap hc h => intro y hy _; exact leaf (.rints o k l a cap hc h) rfl hy
  | robjs o e w l a cap hc hw vv ha h hv ih => intro y hy _; exact leaf (.robjs o e w l a cap hc hw vv ha h hv) rfl hy
  | ints o k n l h => intro y hy _; exact leaf (.ints o k n l h) rfl hy
  | nilf o => intro y hy _; exact leaf (.nilf o) rfl hy
  | nili o => intro y hy _; exact leaf (.nili o) rfl hy
  | raw o v h1 h2 => intro y hy _; exact leaf (.raw o v h1 h2) rfl hy
  | errv o tF ts k v h => intro y hy _; exact leaf (.errv o tF ts k v h) rfl hy
  | emap o r c h => intro y hy _; exact leaf (.emap o r c h) rfl hy
  | aptr => intro y hy _; simp [view] at hy
  | agg o kids cs hf hs h ih =>
    intro y hy hi
    have hfy := fit_view _ hf hy
    unfold view at hy
    split at hy
    · rename_i l hl
      cases hy
      obtain ⟨g1, g2, g3⟩ := flats_view _ hl
      refine .agg _ _ cs hfy (by rw [g1]; exact hs) fun j z c h1 h2 => ?_
      obtain ⟨u, h3, h4⟩ := g3 j z h1
      exact ih j u c h3 h2 h4 fun i hi' => hi i (by unfold ids; exact idss_flats (List.mem_of_getElem? h3) hi')
    · cases hy
  | tup o vs cs hs h ih =>
    intro y hy hi
    unfold view at hy
    split at hy
    · rename_i l hl
      cases hy
      obtain ⟨g1, g2⟩ := views_get _ hl
      refine .tup _ _ cs (by rw [g1]; exact hs) fun j z c h1 h2 => ?_
      obtain ⟨u, h3, h4⟩ := g2 j z h1
      exact ih j u c h3 h2 h4 fun i hi' => hi i (by unfold ids; exact idss_mem (List.mem_of_getElem? h3) hi')
    · cases hy
  | fn o f xs ys as bs h1 h2 g1 g2 i1 i2 =>
    intro y hy hi
    unfold view at hy
    split at hy
    · rename_i l l' hl hl'
      cases hy
      obtain ⟨e1, e2⟩ := views_get _ hl
      obtain ⟨e3, e4⟩ := views_get _ hl'
      refine .fn _ f _ _ as bs (by rw [e1]; exact h1) (by rw [e3]; exact h2) (fun j z c k1 k2 => ?_) (fun j z c k1 k2 => ?_)
      · obtain ⟨u, h3, h4⟩ := e2 j z k1
        exact i1 j u c h3 k2 h4 fun i hi' => hi i (by unfold ids; exact List.mem_append_left _ (idss_mem (List.mem_of_getElem? h3) hi'))
      · obtain ⟨u, h3, h4⟩ := e4 j z k1
        exact i2 j u c h3 k2 h4 fun i hi' => hi i (by unfold ids; exact List.mem_append_right _ (idss_mem (List.mem_of_getElem? h3) hi'))
    · cases hy
  | iface o t x v h ih =>
    intro y hy hi
    unfold view at hy
    split at hy
    · rename_i l hl
      cases hy
      exact .iface _ t _ v (ih hl fun i hi' => hi i (by unfold ids; exact hi'))
    · cases hy
  | ptr id path a hid h =>
    intro y hy hi
    have hs : S id := hi id (by simp [ids])
    unfold view at hy
    split at hy
    · rename_i b hb
      split at hy
      · rename_i x' hg
        split at hy
        · rename_i hn
          cases hy
          obtain ⟨h1, q, h2, h3, h4⟩ := h b hb
          obtain ⟨f1, f2⟩ := getB_spec (m.ok id b hb).fit hg h2
          have hall : ∀ j, ∃ c, ∀ z, (flat x')[j]? = some z → Ec.ro a.block (a.off + j) ∧ Ec.cell a.block (a.off + j) = some c ∧ VR Ec false z c := fun j => by
            cases hz : (flat x')[j]? with
            | none => exact ⟨undef, fun y h => by simp at h⟩
            | some z =>
              obtain ⟨g1, c, g2, g3⟩ := view_own L m hb hs (f2 j z hz) (flat_noOwn hn z (List.mem_of_getElem? hz))
              rw [← Nat.add_assoc, ← h3, ← h4] at g1 g2
              exact ⟨c, fun u hu => by simp at hu; subst hu; exact ⟨g1, g2, g3⟩⟩
          obtain ⟨vv, hvv⟩ := Classical.axiomOfChoice hall
          exact .rptr _ x' a f1 h1 vv (fun j z hz => ⟨(hvv j z hz).1, (hvv j z hz).2.1⟩) fun j z hz => (hvv j z hz).2.2
        · cases hy
      · cases hy
    · cases hy
  | slice id path s len w a cap hid hc hsm hh =>
    intro y hy hi
    have hs : S id := hi id (by simp [ids])
    unfold view at hy
    split at hy
    · rename_i _ _ k l hb
      cases hy
      obtain ⟨q, c, g1, g2, g3, g4⟩ := hh _ hb
      simp [rowB] at g1
      obtain ⟨rfl, rfl, rfl⟩ := g1
      refine rints_of (b := (E.loc id).1) (o := (E.loc id).2.1 + s) (by simp; omega) hc (fun hne => ?_) fun i hi => ?_
      · rcases g4 with rfl | rfl
        · have := List.length_pos_iff.2 hne; simp at this; omega
        · simp
      · obtain ⟨e1, e2⟩ := ints_take_get l s len i hi
        obtain ⟨r1, v, h1, h2⟩ := view_own L m hb hs (j := s + i) (z := .int k (l.getD (s + i) 0)) (by simp [flatB, List.getElem?_eq_getElem e2]) rfl
        rw [Nat.add_assoc, e1, h1, h2.int_inv]
        exact ⟨r1, rfl⟩
    · rename_i _ _ e w' l hb
      cases hy
      obtain ⟨q, c, g1, g2, g3, g4⟩ := hh _ hb
      simp [rowB] at g1
      obtain ⟨rfl, rfl, rfl⟩ := g1
      have ok := m.ok id _ hb
      have hfit : ∀ x ∈ (l.drop s).take len, (Fit x ∧ width x = w') ∧ noOwn x = true ∧ solid x = true := fun x hx => ok.fit x (List.mem_of_mem_drop (List.mem_of_mem_take hx))
      refine robjs_of (b := (E.loc id).1) (o := (E.loc id).2.1 + s * w') (by simp; omega) hc hfit (fun hne => ?_) fun j z hz => ?_
      · rcases g4 with rfl | rfl
        · have := List.length_pos_iff.2 hne; simp at this; omega
        · simp
      · obtain ⟨x, k1, k2⟩ := objs_flat_get hfit hz
        rw [Nat.add_assoc]
        exact view_own L m hb hs (objs_sub_get ok.fit hz) (flat_noOwn (hfit x (List.mem_of_getElem? k1)).2.1 z (List.mem_of_getElem? k2))
    · rename_i _ _ v0 hb
      split at hy
      · rename_i k n' l hg
        cases hy
        obtain ⟨q, c, g1, g2, g3, g4⟩ := hh _ hb
        obtain ⟨ho, rfl, rfl⟩ := rowB_var hg g1
        obtain ⟨f1, f2⟩ := getB_spec (blk := .var v0) (m.ok id _ hb).fit hg ho
        have hln := f1.len
        refine rints_of (b := (E.loc id).1) (o := (E.loc id).2.1 + q + s) (by simp; omega) hc (fun hne => ?_) fun i hi => ?_
        · rcases g4 with rfl | rfl
          · have := List.length_pos_iff.2 hne; simp at this; omega
          · simp
        · obtain ⟨e1, e2⟩ := ints_take_get l s len i hi
          obtain ⟨r1, v, h1, h2⟩ := view_own L m hb hs (f2 (s + i) (.int k (l.getD (s + i) 0)) (by simp [flat, List.getElem?_eq_getElem e2])) rfl
          rw [Nat.add_assoc, Nat.add_assoc, e1, h1, h2.int_inv]
          exact ⟨r1, rfl⟩
      · cases hy
    · cases hy
  | own id w len a cap hid hc hh =>
    intro y hy hi
    have hs : S id := hi id (by simp [ids])
    unfold view at hy
    split at hy
    · rename_i k l hb
      cases hy
      obtain ⟨g1, g2, g3⟩ := hh _ hb
      simp [rowB] at g1
      obtain ⟨_, rfl⟩ := g1
      refine rints_of (b := (E.loc id).1) (o := (E.loc id).2.1) rfl hc (fun hne => ?_) fun i hi => ?_
      · rcases g3 with rfl | rfl
        · have := List.length_pos_iff.2 hne; omega
        · rfl
      · obtain ⟨r1, v, h1, h2⟩ := view_own L m hb hs (j := i) (z := .int k (l.getD i 0)) (by simp [flatB, List.getElem?_eq_getElem hi]) rfl
        rw [h1, h2.int_inv]
        exact ⟨r1, rfl⟩
    · rename_i e w' l hb
      cases hy
      obtain ⟨g1, g2, g3⟩ := hh _ hb
      simp [rowB] at g1
      obtain ⟨_, rfl⟩ := g1
      have ok := m.ok id _ hb
      refine robjs_of (b := (E.loc id).1) (o := (E.loc id).2.1) rfl hc ok.fit (fun hne => ?_) fun j z hz => ?_
      · rcases g3 with rfl | rfl
        · have := List.length_pos_iff.2 hne; omega
        · rfl
      · obtain ⟨x, k1, k2⟩ := objs_flat_get ok.fit hz
        exact view_own L m hb hs hz (flat_noOwn (ok.fit x (List.mem_of_getElem? k1)).2.1 z (List.mem_of_getElem? k2))
    · cases hy
theorem bget_killAll : ∀ {S : List Nat} {bl : Blks} {i : Nat} {b : Blk}, bget (killAll S bl) i = some b → i ∉ S ∧ bget bl i = some b
  | [], _, _, _, h => ⟨by simp, h⟩
  | a :: r, bl, i, b, h => by
    obtain ⟨h1, h2⟩ := bget_killAll (S := r) (bl := bl.set a none) h
    obtain ⟨h3, h4⟩ := bget_kill h2
    exact ⟨by simp [h1, h3], h4⟩
theorem killAll_length : ∀ (S : List Nat) (bl : Blks), (killAll S bl).length = bl.length
  | [], _ => rfl
  | a :: r, bl => by rw [killAll, killAll_length]; simp
def Env.frz (E : Env) (S : List Nat) : Env := { w := E.w, ro := fun b o => E.ro b o ∨ ∃ id blk, id ∈ S ∧ bget E.bl id = some blk ∧ InExt E id b o, loc := E.loc, bl := killAll S E.bl }
theorem frz_go {E : Env} (m : Mem E) (S : List Nat) : Go E (E.frz S) := by
  have hown : ∀ b o, Own (E.frz S) b o → Own E b o := fun b o ⟨i, bi, h, hx⟩ => ⟨i, bi, (bget_killAll h).2, hx⟩
  have fr : Fr E (E.frz S) := ⟨rfl, rfl, rfl, Nat.le_refl _, fun _ _ _ _ => rfl, fun _ _ _ => rfl, fun _ _ _ _ => rfl, fun b o h => .inl (hown b o h), fun b o h => by
    rcases h with h | ⟨id, blk, _, hb, hx⟩
    · exact .inl h
    · exact .inr (.inl ⟨id, blk, hb, hx⟩), fun _ _ h => .inl h⟩
  have st : Step E (E.frz S) := .of_fr m fr (by simp [Env.frz, killAll_length]) fun i hi bi h => ⟨bi, (bget_killAll h).2, rfl, fun _ _ h => h, fun _ _ h => h⟩
  refine ⟨st, fr, ⟨fun i bi h => ?_, fun i j bi bj hij hi hj => m.dis i j bi bj hij (bget_killAll hi).2 (bget_killAll hj).2, fun b o h => ?_, fun b o ⟨i, bi, h, hx⟩ hr => ?_⟩⟩
  · have k := m.ok i bi (bget_killAll h).2
    exact ⟨k.fit, k.len, fun j x hx => let ⟨v, h1, h2⟩ := k.cells j x hx; ⟨v, h1, h2.mono st⟩, k.room⟩
  · rcases h with h | ⟨id, blk, _, hb, h1, h2, h3⟩
    · exact m.roe b o h
    · have := ((m.ok id blk hb).room (o - (E.loc id).2.1) (by omega)).1
      rw [h1, show (E.loc id).2.1 + (o - (E.loc id).2.1) = o by omega] at this
      exact this
  · obtain ⟨h1, h2⟩ := bget_killAll h
    rcases hr with hr | ⟨id, blk, hs, hb, hy⟩
    · exact m.rod b o ⟨i, bi, h2, hx⟩ hr
    · exact m.dis i id bi blk (fun e => h1 (by rw [e]; exact hs)) h2 hb b o hx hy
theorem frz_looks (E : Env) (S : List Nat) : Looks E (E.frz S) (· ∈ S) := ⟨fun _ _ h => .inl h, fun _ _ => rfl, fun id blk hs hb b o hx => .inr ⟨id, blk, hs, hb, hx⟩, fun _ _ h => h⟩
theorem viewPs_sound {E : Env} {S : List Nat} (m : Mem E) : ∀ {ps : List (Nat × AV)} {vs : List (Nat × Value)} {ps' : List (Nat × AV)}, PartsR E ps vs → viewPs E.bl ps = some ps' → (∀ i ∈ idss (ps.map (·.2)), i ∈ S) → PartsR (E.frz S) ps' vs
  | _, _, ps', .nil, h, _ => by cases h; exact .nil
  | _, _, ps', .cons i x v r s hv ht, h, hS => by
    simp only [viewPs] at h
    split at h <;> (try (cases h; done))
    rename_i y l hy hl
    cases h
    have hin : ∀ j ∈ ids x, j ∈ S := fun j hj => hS j (by simp only [List.map_cons]; unfold idss; exact List.mem_append_left _ hj)
    have hin2 : ∀ j ∈ idss (r.map (·.2)), j ∈ S := fun j hj => hS j (by simp only [List.map_cons]; unfold idss; exact List.mem_append_right _ hj)
    exact .cons i y v l s ((view_sound (frz_looks E S) m hv hy hin).lift) (viewPs_sound m ht hl hin2)
end Go.Abs
end
section
set_option linter.unusedVariables false
set_option linter.unusedSimpArgs false
namespace Go.Abs
open Go
def CallDoes (P : Program) (f : FuncId) (vs : Array Value) (w : World) (Q : Value → World → Prop) : Prop :=
  (∃ fn, P.funcs[f]? = some fn ∧ fn.name ≠ "runtime.NumGoroutine" ∧ fn.body.isNone = false ∧ Calls P f vs w fun e w' => ∃ v, e = .returned v ∧ Q v w') ∨
  ∃ v w', (callFunc f vs).run P w = .ok (.value v) w' ∧ Q v w'
theorem CallDoes.mono {P : Program} {f : FuncId} {vs : Array Value} {w : World} {Q Q' : Value → World → Prop} (h : CallDoes P f vs w Q) (hq : ∀ v w, Q v w → Q' v w) : CallDoes P f vs w Q' := by
  rcases h with ⟨fn, h1, h2, h3, h4⟩ | ⟨v, w', h1, h2⟩
  · exact .inl ⟨fn, h1, h2, h3, h4.mono fun e w' ⟨v, hv, h⟩ => ⟨v, hv, hq v w' h⟩⟩
  · exact .inr ⟨v, w', h1, hq v w' h2⟩
structure Args (E : Env) (xs : List AV) (vs : Array Value) : Prop where
  size : vs.size = xs.length
  vr : ∀ (j : Nat) x c, xs[j]? = some x → vs[j]? = some c → VR E true x c
def ErrAt (E : Env) (g ts : Nat) : Prop := ∃ (a : Addr) (ca : Array Value) (ta : TypeId), a.spot = none ∧ E.ro g 0 ∧ E.cell g 0 = some (.iface ts (.pointer (some a))) ∧ a.block < E.w.heap.size ∧ E.w.heap[a.block]? = some (.cells ca ta (0, 0)) ∧ ∀ o, ¬ Own E a.block o
structure Glob (G : Nat → AV) (E : Env) : Prop where
  vars : ∀ g, (match G g with | .any => True | x => VR E false (.rptr x) (.pointer (some ⟨g, 0, none⟩)))
  errs : ∀ g tF ts k, G g = .errv tF ts k → k = g ∧ ErrAt E g ts
  dif : ∀ g g' tF ts k tF' ts' k', G g = .errv tF ts k → G g' = .errv tF' ts' k' → g ≠ g' → ∀ u u' p, E.cell g 0 = some (.iface u p) → E.cell g' 0 = some (.iface u' p) → False
theorem Glob.plain {G : Nat → AV} {E : Env} (h : ∀ g, (match G g with | .any => True | x => VR E false (.rptr x) (.pointer (some ⟨g, 0, none⟩)))) (hn : ∀ g tF ts k, G g ≠ .errv tF ts k) : Glob G E :=
  ⟨h, fun g _ _ _ he => absurd he (hn g _ _ _), fun g _ _ _ _ _ _ _ he => absurd he (hn g _ _ _)⟩
def Keeps (E E' : Env) : Prop := E.w.heap.size ≤ E'.w.heap.size ∧ ∀ b, b < E.w.heap.size → (∀ o, ¬ Own E b o) → E'.w.heap[b]? = E.w.heap[b]? ∧ ∀ o, ¬ Own E' b o
theorem Fr.keeps {E E' : Env} (f : Fr E E') : Keeps E E' := ⟨f.size, fun b hb hn => ⟨f.blk b hb hn, fun o ho => by
  rcases f.own b o ho with h | h
  · exact hn o h
  · omega⟩⟩
theorem lend_keeps {E : Env} {lent : List Nat} {looks : Bool} : Keeps E (E.lend lent looks) := ⟨Nat.le_refl _, fun b hb hn => ⟨rfl, fun o ho => let ⟨id, blk, _, h2, h3⟩ := own_lend ho; hn o ⟨id, blk, h2, h3⟩⟩⟩
theorem Glob.mono {G : Nat → AV} {E E' : Env} (hro : ∀ b o, E.ro b o → E'.ro b o ∧ E'.cell b o = E.cell b o) (hmp : MapsStay E E') (hk : Keeps E E') (h : Glob G E) : Glob G E' := by
  have cell : ∀ g tF ts k, G g = .errv tF ts k → E'.cell g 0 = E.cell g 0 := fun g tF ts k he => let ⟨_, a, ca, ta, _, h2, _⟩ := h.errs g tF ts k he; (hro _ _ h2).2
  refine ⟨fun g => ?_, fun g tF ts k he => ?_, fun g g' tF ts k tF' ts' k' h1 h2 hne u u' p c1 c2 => ?_⟩
  · have := h.vars g
    split
    · trivial
    · rename_i x hx
      split at this
      · rename_i he; exact absurd he hx
      · exact VR.roMono hro hmp this rfl
  · obtain ⟨e, a, ca, ta, h1, h2, h3, h4, h5, h6⟩ := h.errs g tF ts k he
    exact ⟨e, a, ca, ta, h1, (hro _ _ h2).1, (hro _ _ h2).2.trans h3, Nat.lt_of_lt_of_le h4 hk.1, (hk.2 _ h4 h6).1.trans h5, (hk.2 _ h4 h6).2⟩
  · rw [cell g tF ts k h1] at c1
    rw [cell g' tF' ts' k' h2] at c2
    exact h.dif g g' _ _ _ _ _ _ h1 h2 hne u u' p c1 c2
def FnOK (P : Program) (G : Nat → AV) (f : FuncId) (args : List AV) (lent : Blks) (v : AV) (out : Blks) : Prop :=
  ∀ (E : Env) (vs : Array Value), E.bl = lent → Mem E → Glob G E → Args E args vs → CallDoes P f vs E.w fun v' w' => ∃ E', E'.w = w' ∧ E'.bl = out ∧ Go E E' ∧ VR E' true v v'
def CalleeS (P : Program) (G : Nat → AV) (f : FuncId) (m : Callee) : Prop :=
  ∀ args lent, (∀ (R : Type) (K : AV → Blks → Option R), m.run args lent K = none) ∨ ∃ v out, (∀ (R : Type) (K : AV → Blks → Option R), m.run args lent K = K v out) ∧ FnOK P G f args lent v out
theorem handed_sound {E : Env} {lent : List Nat} {lk : Bool} (m : Mem E) (hl : ∀ i ∈ lent, i < E.bl.length) : ∀ {fs : List Bool} {xs ys : List AV} {b : Bool}, handed E.bl lent fs xs = some (ys, b) → (b = true → lk = true) →
    ys.length = xs.length ∧ ∀ (j : Nat) y, ys[j]? = some y → ∃ x, xs[j]? = some x ∧ ∀ c, VR E true x c → VR (E.lend lent lk) true y c
  | fs, [], ys, b, h, hb => by
    cases fs with
    | nil => simp only [handed] at h; cases h; exact ⟨rfl, fun j y h => by simp at h⟩
    | cons f fs => cases f <;> simp only [handed] at h <;> (cases h; exact ⟨rfl, fun j y h => by simp at h⟩)
  | fs, x :: r, ys, b, h, hb => by
    have low : ∀ {f : List Bool}, (if ((ids x).all fun i => !lent.contains i) = true then
      (match view E.bl x, handed E.bl lent f.tail r with | some y, some (l, b) => some (y :: l, b || !noOwn x) | _, _ => none) else none) = some (ys, b) →
      ys.length = (x :: r).length ∧ ∀ (j : Nat) y, ys[j]? = some y → ∃ z, (x :: r)[j]? = some z ∧ ∀ c, VR E true z c → VR (E.lend lent lk) true y c := by
      intro f h
      split at h
      · rename_i hi
        split at h
        · rename_i y l b' hy hr
          cases h
          obtain ⟨g1, g2⟩ := handed_sound m hl hr fun h => hb (by simp [h])
          refine ⟨by simp [g1], fun j z hz => ?_⟩
          cases j with
          | succ j => exact g2 j z (by simpa using hz)
          | zero =>
            simp at hz
            subst hz
            refine ⟨x, rfl, fun c hc => ?_⟩
            by_cases hn : noOwn x = true
            · rw [view_noOwn _ hn] at hy
              cases hy
              exact (VR.roMono (lend_ro trivial) (fun _ _ h => h) (hc.low hn) rfl).lift
            · have hk : lk = true := hb (by simp [hn])
              refine (view_sound (Ec := E.lend lent lk) (S := fun i => i ∉ lent) ⟨fun b o h => Or.inl h, fun b o => rfl, fun id blk hs hbk b o hx => Or.inr ⟨hk, id, blk, hs, hbk, hx⟩, fun _ _ h => h⟩ m hc hy fun i hii => ?_).lift
              have := List.all_eq_true.1 hi i hii
              simpa using this
        · cases h
      · cases h
    cases fs with
    | nil => simp only [handed] at h; exact low (f := []) h
    | cons f fs =>
      cases f with
      | false => simp only [handed] at h; exact low (f := false :: fs) h
      | true =>
        simp only [handed] at h
        split at h
        · rename_i l b' hr
          cases h
          obtain ⟨g1, g2⟩ := handed_sound m hl hr hb
          refine ⟨by simp [g1], fun j z hz => ?_⟩
          cases j with
          | succ j => exact g2 j z (by simpa using hz)
          | zero =>
            simp at hz
            subst hz
            exact ⟨x, rfl, fun c hc => VR.turn (Turn.lend hl) lend_ro (fun _ _ h => h) hc (.inl trivial)⟩
        · cases h
theorem handed_alike {bl bl2 : Blks} {lent : List Nat} : ∀ {fs : List Bool} {xs ys : List AV}, handed bl lent fs xs = some (ys, false) → handed bl2 lent fs xs = some (ys, false)
  | fs, [], ys, h => by
    cases fs with
    | nil => simp only [handed] at h ⊢; exact h
    | cons f fs => cases f <;> simp only [handed] at h ⊢ <;> exact h
  | fs, x :: r, ys, h => by
    have low : ∀ {f : List Bool}, (if ((ids x).all fun i => !lent.contains i) = true then
      (match view bl x, handed bl lent f.tail r with | some y, some (l, b) => some (y :: l, b || !noOwn x) | _, _ => none) else none) = some (ys, false) →
      (if ((ids x).all fun i => !lent.contains i) = true then
      (match view bl2 x, handed bl2 lent f.tail r with | some y, some (l, b) => some (y :: l, b || !noOwn x) | _, _ => none) else none) = some (ys, false) := by
      intro f h
      split at h
      · rename_i hi
        rw [if_pos hi]
        split at h
        · rename_i y l b' hy hr
          simp only [Option.some.injEq, Prod.mk.injEq, Bool.or_eq_false_iff, Bool.not_eq_false'] at h
          obtain ⟨h1, rfl, hn⟩ := h
          rw [view_noOwn _ hn] at hy
          cases hy
          rw [view_noOwn _ hn, handed_alike hr]
          simp [h1, hn]
        · cases h
      · cases h
    cases fs with
    | nil => simp only [handed] at h ⊢; exact low (f := []) h
    | cons f fs =>
      cases f with
      | false => simp only [handed] at h ⊢; exact low (f := false :: fs) h
      | true =>
        simp only [handed] at h ⊢
        split at h
        · rename_i l b' hr
          cases h
          rw [handed_alike hr]
        · cases h
section
variable {R : Type} {C : Ctx}
theorem call_main {P : Program} {G : Nat → AV} {f : FuncId} {m : Callee} {args args' : List AV} {looks : Bool} {lent : List Nat} {v : AV} {out : Blks} {E : Env}
    (hm : Mem E) (hg : Glob G E) (hlt : ∀ i ∈ lent, i < E.bl.length) (hnd : lent.Nodup)
    (hh : handed E.bl lent m.lend args = some (args', looks)) (hf : FnOK P G f args' (lent.map fun i => (bget E.bl i).map (renB (pos lent))) v out)
    (hr : looks = true → noRef v = true ∧ refFree out = true) (hnf : noFrees E.bl lent = true) {vs : Array Value} (ha : Args E args vs) :
    CallDoes P f vs E.w fun v' w' => ∃ E', E'.w = w' ∧ E'.bl = putBack (backOf lent E.bl.length) lent out E.bl ∧ Go E E' ∧ VR E' true (ren (backOf lent E.bl.length) v) v' := by
  obtain ⟨g1, g2⟩ := handed_sound (lk := looks) hm hlt hh fun h => h
  refine (hf (E.lend lent looks) vs rfl (hm.lend hlt hnd) (hg.mono (lend_ro trivial) (fun _ _ h => h) lend_keeps) ⟨by rw [ha.size, g1], fun j y c hy hc => ?_⟩).mono fun v' w' ⟨E2, h1, h2, h3, h4⟩ => ?_
  · obtain ⟨x, hx, hv⟩ := g2 j y hy
    exact hv c (ha.vr j x c hx hc)
  · have B : BackIn E E2 lent looks out := ⟨hm, hlt, hnd, h3, h2, fun h => (hr h).2, hnf⟩
    refine ⟨E.back E2 lent looks out, h1, rfl, Go.back B, VR.turn (R0 := looks ≠ true) (Turn.back B) (fun hk b o h => ⟨by simp only [Env.back, hk, if_false]; exact h, rfl⟩) (fun _ _ h => h) h4 ?_⟩
    by_cases hk : looks = true
    · exact .inr (hr hk).1
    · exact .inl hk
theorem callK_sound {f : FuncId} {args : List AV} {bl : Blks} {K : Kont R} {r : R} (hΓ : ∀ f m, C.Γ f = some m → CalleeS C.P C.G f m) (h : callK C f args bl K = some r) :
    ∃ cat v bl', KS (R := R) (callK C f args) bl cat v bl' ∧ ∀ E, (E.bl = bl ∨ cat = .pure) → Mem E → Glob C.G E → ∀ vs, Args E args vs →
      CallDoes C.P f vs E.w fun v' w' => ∃ E', E'.w = w' ∧ (E'.bl = if cat = .pure then E.bl else bl') ∧ Go E E' ∧ VR E' true v v' := by
  unfold callK at h
  cases hm : C.Γ f with
  | none => rw [hm] at h; cases h
  | some m =>
  simp only [hm] at h
  obtain ⟨hnd, hlt⟩ := reach_spec bl 40 (lentIds m.lend args) [] List.nodup_nil (by simp)
  generalize hlent : reach bl 40 (lentIds m.lend args) [] = lent at h hnd hlt
  cases hh : handed bl lent m.lend args with
  | none => simp [hh] at h
  | some p =>
  obtain ⟨args', looks⟩ := p
  simp only [hh] at h
  obtain hno | ⟨v, out, hdet, hfn⟩ := hΓ f m hm args' (lent.map fun i => (bget bl i).map (renB (pos lent)))
  · rw [hno] at h; cases h
  rw [hdet] at h
  have det : ∀ K2 : Kont R, callK C f args bl K2 = (if ((lentIds m.lend args).isEmpty && out.isEmpty) = true then
          (if noOwn v = true then
            (if looks = true then (if noRef v = true then K2 .read v bl else none) else K2 .pure v bl) else none)
        else (if ((!looks || (noRef v && refFree out)) && noFrees bl lent) = true then
          K2 .write (ren (backOf lent bl.length) v) (putBack (backOf lent bl.length) lent out bl) else none)) := fun K2 => by
    unfold callK
    simp only [hm, hlent, hh]
    rw [hdet]
  split at h
  · rename_i he
    simp only [Bool.and_eq_true, List.isEmpty_iff] at he
    obtain ⟨he1, rfl⟩ := he
    have hl0 : lent = [] := by rw [← hlent, he1]; rfl
    subst hl0
    split at h
    · rename_i hn
      have put0 : ∀ (n : Nat) (b : Blks), putBack (backOf [] n) [] [] b = b := fun n b => by simp [putBack]
      have key : ∀ E : Env, Mem E → Glob C.G E → handed E.bl [] m.lend args = some (args', looks) → (looks = true → noRef v = true) → ∀ vs, Args E args vs →
          CallDoes C.P f vs E.w fun v' w' => ∃ E', E'.w = w' ∧ E'.bl = E.bl ∧ Go E E' ∧ VR E' true v v' := fun E hM hG hH hr vs ha => by
        have := call_main (P := C.P) (G := C.G) (f := f) hM hG (lent := []) (by simp) List.nodup_nil hH hfn (fun h => ⟨hr h, rfl⟩) rfl ha
        rw [put0, ren_noOwn hn] at this
        exact this
      split at h
      · rename_i hk
        split at h
        · rename_i hr
          refine ⟨.read, v, bl, .ofRead fun K2 => by rw [det]; simp [he1, hn, hk, hr], fun E hE hM hG vs ha => ?_⟩
          rcases hE with rfl | hE
          · exact key E hM hG hh (fun _ => hr) vs ha
          · cases hE
        · cases h
      · rename_i hk
        have hk' : looks = false := by simpa using hk
        subst hk'
        refine ⟨.pure, v, bl, .ofPure fun b2 K2 => ?_, fun E hE hM hG vs ha => ?_⟩
        · unfold callK
          simp only [hm, he1]
          rw [show reach b2 40 [] [] = [] from rfl]
          simp only [handed_alike (bl2 := b2) hh]
          simp only [List.map_nil] at hdet ⊢
          rw [hdet]
          simp [hn]
        · exact key E hM hG (handed_alike hh) (fun h => by cases h) vs ha
    · cases h
  · rename_i he
    split at h
    · rename_i hk
      refine ⟨.write, _, _, .ofWrite fun K2 => by rw [det, if_neg he, if_pos hk], fun E hE hM hG vs ha => ?_⟩
      rcases hE with rfl | hE
      · simp only [reduceCtorEq, if_false]
        rw [Bool.and_eq_true] at hk
        refine call_main hM hG hlt hnd hh hfn (fun hk2 => ?_) hk.2 ha
        subst hk2
        simpa using hk.1
      · cases hE
    · cases h
end
end Go.Abs
end
