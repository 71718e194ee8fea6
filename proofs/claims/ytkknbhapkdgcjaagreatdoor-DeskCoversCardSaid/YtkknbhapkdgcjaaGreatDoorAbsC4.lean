/- An executor of the model's code over abstract values, and that it is right: what it tells of a run is what the run does. No condition. -/
import Derived.Test.YtkknbhapkdgcjaaGreatDoorAbsC3
section
set_option linter.unusedVariables false
set_option linter.unusedSimpArgs false
namespace Go.Abs
open Go
section
variable {R : Type} {C : Ctx}
theorem zFg {e : TypeId} {x : AV} {bl : zC} {K : z9 R} {r : R} (h : kQ C e x bl K = some r) :
  ∃ v bl', KS (R := R) (kQ C e x) bl .write v bl' ∧ ∀ t tx, C.P.underlying t = some (.slice e) → zHD C.P tx → ∀ E, E.bl = bl → Mem E → ∀ x' ty, VR E true x x' → Out E C.P .write v bl' (Builtin.append_ #[t, tx] ty #[.slice none 0 0, x']) := by
 unfold kQ at h
 split at h <;> (try (cases h; done))
 ·rename_i k l hel
  split at h <;> (try (cases h; done))
  rename_i hc
  split at h <;> (try (cases h; done))
  rename_i hb
  refine ⟨.own bl.length 1, bl ++ [some (.ints k l)], .ofWrite fun K => by simp only [kQ, hel, if_pos hc, if_pos hb], fun t tx hu ht E hE m x' ty hx => ?_⟩
  subst hE
  simp only [Bool.and_eq_true, decide_eq_true_eq] at hc
  have src := AppSrc.ofSrc (t := t) (ty := ty) (e := e) (zIL ht (jH hel (.inl rfl) m hx))
  exact zIt m hu hc.2 src hb.1 hb.2 trivial (by simp [zZ]) (by simp [zJ]) fun j x c hx hc => by
   simp only [zJ, List.getElem?_map] at hx hc
   cases hl : l[j]? with
   | none => simp [hl] at hx
   | some n => simp [hl] at hx hc; subst hx; subst hc; exact .int _ _ _
 ·rename_i e' w l hel
  split at h <;> (try (cases h; done))
  rename_i hc
  split at h <;> (try (cases h; done))
  rename_i hb
  refine ⟨.own bl.length w, bl ++ [some (.objs e w l)], .ofWrite fun K => by simp only [kQ, hel, if_pos hc, if_pos hb], fun t tx hu ht E hE m x' ty hx => ?_⟩
  subst hE
  simp only [Bool.and_eq_true, beq_iff_eq] at hc
  obtain ⟨cs, oa⟩ := zDB hel (.inl rfl) m hx
  have src := AppSrc.ofSrc (t := t) (ty := ty) (e := e) (zIK ht oa)
  exact zIt m hu hc.2 src hb.1 hb.2 oa.fit (by simp [zZ]) (by simp only [zJ]; exact yD oa.fit) fun j x c hx hc => (oa.vr j x c hx hc).lift
theorem zFf {e id w : Nat} {x : AV} {bl : zC} {K : z9 R} {r : R} (h : kP C e id w x bl K = some r) :
  ∃ v bl', KS (R := R) (kP C e id w x) bl .write v bl' ∧ ∀ t tx, C.P.underlying t = some (.slice e) → zHD C.P tx → ∀ E, E.bl = bl → Mem E → ∀ s' x' ty, VR E true (.own id w) s' → VR E true x x' → Out E C.P .write v bl' (Builtin.append_ #[t, tx] ty #[s', x']) := by
 unfold kP at h
 split at h <;> (try (cases h; done))
 ·rename_i k r0 k' l hel hbk
  split at h <;> (try (cases h; done))
  rename_i hc
  split at h <;> (try (cases h; done))
  rename_i hb
  refine ⟨.own bl.length 1, bl.set id none ++ [some (.ints k (l ++ r0))], .ofWrite fun K => by simp only [kP, hel, hbk, if_pos hc, if_pos hb], fun t tx hu ht E hE m s' x' ty hs hx => ?_⟩
  subst hE
  simp only [Bool.and_eq_true, decide_eq_true_eq, beq_iff_eq] at hc
  obtain ⟨⟨⟨hk, rfl⟩, hsz⟩, rfl⟩ := hc
  have src := AppSrc.ofSrc (t := t) (ty := ty) (e := e) (zIL ht (jH hel (.inl rfl) m hx))
  have hself : IntsAt E k l s' := jH (bl := E.bl) (x := .own id 1) (by simp [wE, hbk]) (.inl rfl) m hs
  cases hs with
  | own _ _ len a cap hid hcap hh =>
   obtain ⟨g1, g2, g3⟩ := hh _ hbk
   have g1' := g1
   simp [zZ] at g1
   subst g1
   exact zIs (blk := .ints k l) (olds := l.map (Value.int k)) m hu hsz (.own _ _ _ _ _ hid hcap hh) hbk (by simp [zZ]) (by simp [zJ]) (fun W hW => by
     have := hself.cells C.P W hW l.length (Nat.le_refl _); rwa [List.take_length] at this) (by simp)
    (fun j x c hx hc => by
     simp only [zJ, List.getElem?_map] at hx hc
     cases hl : l[j]? with
     | none => simp [hl] at hx
     | some n => simp [hl] at hx hc; subst hx; subst hc; exact .int _ _ _)
    src hb.1 hb.2 trivial (by simp [zZ]) (by simp [zJ])
    (fun j x hx hj => by
     simp only [zJ, List.map_append] at hx ⊢
     rwa [List.getElem?_append_left (by simp; omega)] at hx)
    (fun j x c hx hj hc => by
     simp only [zJ, List.map_append] at hx
     rw [List.getElem?_append_right (by simp; omega), List.length_map, List.getElem?_map] at hx
     rw [Nat.mul_one, List.getElem?_map] at hc
     cases hl : r0[j - l.length]? with
     | none => simp [hl] at hx
     | some n => simp [hl] at hx hc; subst hx; subst hc; exact .int _ _ _)
 ·rename_i e1 w1 r0 e2 w2 l hel hbk
  split at h <;> (try (cases h; done))
  rename_i hc
  split at h <;> (try (cases h; done))
  rename_i hb
  refine ⟨.own bl.length w, bl.set id none ++ [some (.objs e w (l ++ r0))], .ofWrite fun K => by simp only [kP, hel, hbk, if_pos hc, if_pos hb], fun t tx hu ht E hE m s' x' ty hs hx => ?_⟩
  subst hE
  simp only [Bool.and_eq_true, beq_iff_eq] at hc
  obtain ⟨⟨⟨⟨rfl, rfl⟩, rfl⟩, rfl⟩, hsz⟩ := hc
  obtain ⟨cs, oa⟩ := zDB hel (.inl rfl) m hx
  have src := AppSrc.ofSrc (t := t) (ty := ty) (e := e2) (zIK ht oa)
  obtain ⟨os, ob⟩ := zDB (bl := E.bl) (x := .own id w2) (e := e2) (w := w2) (l := l) (by simp [wE, hbk]) (.inl rfl) m hs
  cases hs with
  | mown _ r hid hh => have g := (hh _ hbk).1; simp [zZ] at g
  | own _ _ len a cap hid hcap hh =>
   obtain ⟨g1, g2, g3⟩ := hh _ hbk
   simp [zZ] at g1
   subst g1
   have hfl := yD ob.fit
   have hfr := yD oa.fit
   have hall : ∀ x ∈ l ++ r0, (Fit x ∧ width x = w2) ∧ zR x = true ∧ solid x = true := fun x hx => by
    rcases List.mem_append.1 hx with hx | hx
    ·exact ob.fit x hx
    ·exact oa.fit x hx
   exact zIs (blk := .objs e2 w2 l) (olds := os) m hu hsz (.own _ _ _ _ _ hid hcap hh) hbk (by simp [zZ]) (by simp only [zJ]; exact hfl) (fun W hW => ob.cells C.P W hW) ob.size
    (fun j x c hx hc => (ob.vr j x c hx hc).lift)
    src hb.1 hb.2 hall (by simp [zZ]) (by simp only [zJ]; rw [yD hall, List.length_append])
    (fun j x hx hj => by
     simp only [zJ, jN] at hx ⊢
     rwa [List.getElem?_append_left (by omega)] at hx)
    (fun j x c hx hj hc => by
     simp only [zJ, jN] at hx
     rw [List.getElem?_append_right (by omega), hfl] at hx
     exact (oa.vr _ x c hx hc).lift)
theorem zGE {e : TypeId} {k : IntKind} {l : List Int} {bl : zC} {K : z9 R} {r : R} (h : kQ C e (.rints k l) bl K = some r) :
  ∃ v bl', KS (R := R) (kQ C e (.rints k l)) bl .write v bl' ∧ qF C.P e 1 = true ∧ l.length ≤ 9223372036854775807 ∧ ∀ t tx ty, C.P.underlying t = some (.slice e) → ∀ E, E.bl = bl → Mem E → ∀ x',
   AppSrc C.P t tx ty e 1 x' l.length (l.map (Value.int k)) E.w → Out E C.P .write v bl' (Builtin.append_ #[t, tx] ty #[.slice none 0 0, x']) := by
 have hel : wE bl (.rints k l) = some (.ints k l) := rfl
 unfold kQ at h
 simp only [hel] at h
 split at h <;> (try (cases h; done))
 rename_i hc
 split at h <;> (try (cases h; done))
 rename_i hb
 have hc' := hc
 simp only [Bool.and_eq_true, decide_eq_true_eq] at hc
 refine ⟨.own bl.length 1, bl ++ [some (.ints k l)], .ofWrite fun K => by simp only [kQ, hel, if_pos hc', if_pos hb], hc.2, hb.2, fun t tx ty hu E hE m x' src => ?_⟩
 subst hE
 exact zIt m hu hc.2 src hb.1 hb.2 trivial (by simp [zZ]) (by simp [zJ]) fun j x c hx hc => by
  simp only [zJ, List.getElem?_map] at hx hc
  cases hl : l[j]? with
  | none => simp [hl] at hx
  | some n => simp [hl] at hx hc; subst hx; subst hc; exact .int _ _ _
theorem zGD {e id w : Nat} {k : IntKind} {r0 : List Int} {bl : zC} {K : z9 R} {r : R} (h : kP C e id w (.rints k r0) bl K = some r) :
  ∃ v bl', KS (R := R) (kP C e id w (.rints k r0)) bl .write v bl' ∧ qF C.P e 1 = true ∧ r0.length ≤ 9223372036854775807 ∧ ∀ t tx ty, C.P.underlying t = some (.slice e) → ∀ E, E.bl = bl → Mem E → ∀ s' x', VR E true (.own id w) s' →
   AppSrc C.P t tx ty e 1 x' r0.length (r0.map (Value.int k)) E.w → Out E C.P .write v bl' (Builtin.append_ #[t, tx] ty #[s', x']) := by
 have hel : wE bl (.rints k r0) = some (.ints k r0) := rfl
 unfold kP at h
 rw [hel] at h
 split at h <;> (try (cases h; done))
 ·rename_i k0 r1 k' l hel2 hbk
  cases hel2
  split at h <;> (try (cases h; done))
  rename_i hc
  split at h <;> (try (cases h; done))
  rename_i hb
  have hc' := hc
  simp only [Bool.and_eq_true, decide_eq_true_eq, beq_iff_eq] at hc
  obtain ⟨⟨⟨hk, rfl⟩, hsz⟩, rfl⟩ := hc
  refine ⟨.own bl.length 1, bl.set id none ++ [some (.ints k (l ++ r0))], .ofWrite fun K => by simp only [kP, hel, hbk]; rw [if_pos (by simp [hk, hsz]), if_pos hb], hsz, by omega, fun t tx ty hu E hE m s' x' hs src => ?_⟩
  subst hE
  have hself : IntsAt E k l s' := jH (bl := E.bl) (x := .own id 1) (by simp [wE, hbk]) (.inl rfl) m hs
  cases hs with
  | own _ _ len a cap hid hcap hh =>
   obtain ⟨g1, g2, g3⟩ := hh _ hbk
   have g1' := g1
   simp [zZ] at g1
   subst g1
   exact zIs (blk := .ints k l) (olds := l.map (Value.int k)) m hu hsz (.own _ _ _ _ _ hid hcap hh) hbk (by simp [zZ]) (by simp [zJ]) (fun W hW => by
     have := hself.cells C.P W hW l.length (Nat.le_refl _); rwa [List.take_length] at this) (by simp)
    (fun j x c hx hc => by
     simp only [zJ, List.getElem?_map] at hx hc
     cases hl : l[j]? with
     | none => simp [hl] at hx
     | some n => simp [hl] at hx hc; subst hx; subst hc; exact .int _ _ _)
    src hb.1 hb.2 trivial (by simp [zZ]) (by simp [zJ])
    (fun j x hx hj => by
     simp only [zJ, List.map_append] at hx ⊢
     rwa [List.getElem?_append_left (by simp; omega)] at hx)
    (fun j x c hx hj hc => by
     simp only [zJ, List.map_append] at hx
     rw [List.getElem?_append_right (by simp; omega), List.length_map, List.getElem?_map] at hx
     rw [Nat.mul_one, List.getElem?_map] at hc
     cases hl : r0[j - l.length]? with
     | none => simp [hl] at hx
     | some n => simp [hl] at hx hc; subst hx; subst hc; exact .int _ _ _)
 ·rename_i hel2 _
  cases hel2
theorem zGC {e : TypeId} {s : AV} {n : Int} {bl : zC} {K : z9 R} {r : R} (h : zBC C e s n bl K = some r) :
  ∃ v bl', KS (R := R) (zBC C e s n) bl .write v bl' ∧ ∀ t tx kn, C.P.underlying t = some (.slice e) → C.P.underlying tx = some (.int kn) → ∀ E, E.bl = bl → Mem E → ∀ s' ty, VR E true s s' →
   Out E C.P .write v bl' (Builtin.append_ #[t, tx] ty #[s', .int .i64 n]) := by
 unfold zBC at h
 split at h <;> (try (cases h; done))
 rename_i h0
 split at h <;> (try (cases h; done))
 rename_i k z hz
 have zero : qF C.P e 1 = true → ∃ i, C.P.info? e = some i ∧ i.zero = some (.int k z) ∧ i.size = 1 := fun hs => by
  obtain ⟨i, v, h1, h2, _, h4, _⟩ := yZ hz
  obtain ⟨i2, z2, g1, g2, g3, _⟩ := zCU hs
  obtain rfl : i = i2 := Option.some.inj (h1.symm.trans g1)
  have hv : v = .int k z := by
   have := h4 ⟨default, fun _ _ => True, fun _ => (0, 0, 0), []⟩ false
   cases this; rfl
  exact ⟨i, h1, by rw [h2, hv], g3⟩
 have hn : n = ((n.toNat : Nat) : Int) := by omega
 split at h <;> (try (cases h; done))
 ·obtain ⟨v, bl', h1, hsz, h63, h2⟩ := zGE h
  rw [List.length_replicate] at h63
  refine ⟨v, bl', ⟨fun K => by have := h1.det K; simp only [zBC, if_pos h0, hz]; exact this, fun h => (by cases h), fun h => (by cases h)⟩, fun t tx kn hu hx E hE m s' ty hs => ?_⟩
  cases hs
  rw [hn]
  exact h2 t tx ty hu E hE m _ (by rw [List.length_replicate]; exact AppSrc.ofZeros hx (zero hsz) h63)
 ·rename_i id w
  obtain ⟨v, bl', h1, hsz, h63, h2⟩ := zGD h
  rw [List.length_replicate] at h63
  refine ⟨v, bl', ⟨fun K => by have := h1.det K; simp only [zBC, if_pos h0, hz]; exact this, fun h => (by cases h), fun h => (by cases h)⟩, fun t tx kn hu hx E hE m s' ty hs => ?_⟩
  rw [hn]
  exact h2 t tx ty hu E hE m _ _ hs (by rw [List.length_replicate]; exact AppSrc.ofZeros hx (zero hsz) h63)
theorem zGO {t tx : TypeId} {s x : AV} {bl : zC} {K : z9 R} {r : R} (h : wW C t tx s x bl K = some r) :
  ∃ cat v bl', KS (R := R) (wW C t tx s x) bl cat v bl' ∧ ∀ E, (E.bl = bl ∨ cat = .pure) → Mem E → ∀ s' x' ty, VR E true s s' → VR E true x x' → Out E C.P cat v bl' (Builtin.append_ #[t, tx] ty #[s', x']) := by
 unfold wW at h
 split at h <;> (try (cases h; done))
 rename_i e hu
 split at h
 case isFalse htx =>
  split at h <;> (try (cases h; done))
  rename_i kn n hx
  obtain ⟨v, bl', h1, h2⟩ := zGC h
  refine ⟨.write, v, bl', ⟨fun K => ?_, fun h => (by cases h), fun h => (by cases h)⟩, fun E hE m s' x' ty hsv hxv => ?_⟩
  ·have := h1.det K
   unfold wW
   simp only [hu, if_neg htx, hx]
   exact this
  ·rcases hE with rfl | hE
   ·cases hxv
    exact h2 t tx kn hu hx E rfl m s' ty hsv
   ·cases hE
 rename_i htx
 have ht := zLX htx
 have nothing : ∀ {E : Env} {w : Nat}, qF C.P e w = true → ∀ a len cap ty, len ≤ cap → (Builtin.append_ #[t, tx] ty #[.slice a len cap, .slice none 0 0]).run C.P E.w = .ok (.slice a len cap) E.w := fun {E w} hs a len cap ty hle => by
  obtain ⟨i, z, hi, _⟩ := zCU hs
  exact run_append_nothing E.w t tx ty e i hu hi a len cap hle _ ⟨ht, fun _ => rfl, rfl, rfl, by simp, fun u hu => by cases hu⟩
 split at h <;> (try (cases h; done))
 ·split at h
  ·split at h <;> (try (cases h; done))
   rename_i hs
   refine ⟨.pure, .snil, bl, .ofPure fun bl K => by simp only [wW, hu, if_pos htx, if_pos hs], fun E hE m s' x' ty hsv hxv => .same m hE ?_⟩
   cases hsv; cases hxv
   exact ⟨_, nothing hs none 0 0 ty (Nat.le_refl _), .snil _⟩
  ·rename_i x hnx
   obtain ⟨v, bl', h1, h2⟩ := zFg h
   refine ⟨.write, v, bl', ⟨fun K => ?_, fun h => (by cases h), fun h => (by cases h)⟩, fun E hE m s' x' ty hsv hxv => ?_⟩
   ·have := h1.det K
    unfold wW
    simp only [hu, if_pos htx]
    exact this
   ·rcases hE with rfl | hE
    ·cases hsv
     exact h2 t tx hu ht E rfl m x' ty hxv
    ·cases hE
 ·rename_i id w
  split at h
  ·split at h <;> (try (cases h; done))
   rename_i hs
   refine ⟨.pure, .own id w, bl, .ofPure fun bl K => by simp only [wW, hu, if_pos htx, if_pos hs], fun E hE m s' x' ty hsv hxv => .same m hE ?_⟩
   cases hxv
   cases hsv with
   | mown _ r hid hh => simp [qF] at hs
   | own _ _ len a cap hid hcap hh => exact ⟨_, nothing hs a len cap ty hcap, .own _ _ _ _ _ hid hcap hh⟩
  ·rename_i x hnx
   obtain ⟨v, bl', h1, h2⟩ := zFf h
   refine ⟨.write, v, bl', ⟨fun K => ?_, fun h => (by cases h), fun h => (by cases h)⟩, fun E hE m s' x' ty hsv hxv => ?_⟩
   ·have := h1.det K
    unfold wW
    simp only [hu, if_pos htx]
    exact this
   ·rcases hE with rfl | hE
    ·exact h2 t tx hu ht E rfl m s' x' ty hsv hxv
    ·cases hE
end
end Go.Abs
end
section
set_option linter.unusedVariables false
set_option linter.unusedSimpArgs false
namespace Go.Abs
open Go
section
variable {R : Type} {C : Ctx}
theorem zJn (off : Nat) : ∀ (l : List Value) (k : Nat) (cells : Array Value), off + k + l.length ≤ cells.size →
  ((l.zipIdx k).foldl (fun cs (p : Value × Nat) => cs.setIfInBounds (off + p.2) p.1) cells).size = cells.size ∧
  ∀ m, ((l.zipIdx k).foldl (fun cs (p : Value × Nat) => cs.setIfInBounds (off + p.2) p.1) cells)[m]? = if off + k ≤ m ∧ m < off + k + l.length then l[m - (off + k)]? else cells[m]?
 | [], k, cells, h => ⟨rfl, fun m => by rw [if_neg (by simp)]; rfl⟩
 | c :: l, k, cells, h => by
  simp only [List.zipIdx_cons, List.foldl_cons]
  have hs : (cells.setIfInBounds (off + k) c).size = cells.size := by simp
  obtain ⟨h1, h2⟩ := zJn off l (k + 1) (cells.setIfInBounds (off + k) c) (by rw [hs]; simp at h; omega)
  refine ⟨by rw [h1, hs], fun m => ?_⟩
  rw [h2 m]
  simp only [List.length_cons] at h ⊢
  by_cases hm : m = off + k
  ·subst hm
   have hlt : off + k < cells.size := by omega
   rw [if_neg (by omega), if_pos (by omega)]
   simp [hlt]
  ·by_cases hr : off + (k + 1) ≤ m ∧ m < off + (k + 1) + l.length
   ·rw [if_pos hr, if_pos (by omega), show m - (off + k) = (m - (off + (k + 1))) + 1 from by omega]
    simp
   ·rw [if_neg hr, if_neg (by omega)]
    rw [Array.getElem?_setIfInBounds_ne (by omega)]
theorem zMF {cells : Array Value} {v : Value} {off size : Nat} (hs : v.cells.size = size) (h : off + size ≤ cells.size) :
  (v.cells.zipIdx.foldl (fun cs (p : Value × Nat) => cs.setIfInBounds (off + p.2) p.1) cells).size = cells.size ∧
  ∀ m, (v.cells.zipIdx.foldl (fun cs (p : Value × Nat) => cs.setIfInBounds (off + p.2) p.1) cells)[m]? = if off ≤ m ∧ m < off + size then v.cells[m - off]? else cells[m]? := by
 have := zJn off v.cells.toList 0 cells (by simp; omega)
 rw [← Array.foldl_toList]
 simp only [Array.toList_zipIdx]
 refine ⟨this.1, fun m => ?_⟩
 rw [this.2 m]
 simp [hs]
def zEC (E : Env) (l : List AV) (cs : Array Value) : Prop := cs.size = l.length ∧ ∀ (j : Nat) x c, l[j]? = some x → cs[j]? = some c → VR E true x c
theorem zJy {E : Env} {kids : List AV} {cs : Array Value} {i : Nat} {z y : AV} {v : Value} (hc : zEC E (zG kids) cs) (hf : ∀ x ∈ kids, Fit x) (hz : kids[i]? = some z) (hsh : yB z y = true)
  (hv : VR E true y v) (hy : y ≠ .any ∧ ∀ vs, y ≠ .tup vs) :
  v.cells.size = width z ∧ zX (kids.take i) + v.cells.size ≤ cs.size ∧
  zEC E (zG (kids.set i y)) (v.cells.zipIdx.foldl (fun cs (p : Value × Nat) => cs.setIfInBounds (zX (kids.take i) + p.2) p.1) cs) ∧ (∀ x ∈ kids.set i y, Fit x) := by
 obtain ⟨hfy, hs, hcv⟩ := hv.cells hy
 have hwz := jP hsh
 have hfz := hf z (List.mem_of_getElem? hz)
 have hl1 := hfy.length
 have hl2 := hfz.length
 have hpre : (zG (kids.take i)).length = zX (kids.take i) := kU fun x hx => hf x (List.mem_of_mem_take hx)
 have hsplit := kJ hz
 have hsplit' : zG (kids.set i y) = zG (kids.take i) ++ (zH y ++ zG (kids.drop (i + 1))) := zHm hz
 have hsz : cs.size = zX (kids.take i) + ((zH z).length + (zG (kids.drop (i + 1))).length) := by rw [hc.1, hsplit]; simp [hpre]
 have hle : zX (kids.take i) + v.cells.size ≤ cs.size := by omega
 obtain ⟨f1, f2⟩ := zMF (cells := cs) (v := v) (off := zX (kids.take i)) rfl hle
 refine ⟨by omega, hle, ⟨by rw [f1, hsz, hsplit']; simp [hpre]; omega, fun j x c hx hcj => ?_⟩, zJp hf hfy⟩
 rw [f2 j] at hcj
 rw [hsplit'] at hx
 rcases Nat.lt_or_ge j (zX (kids.take i)) with h1 | h1
 ·rw [List.getElem?_append_left (by omega)] at hx
  rw [if_neg (by omega)] at hcj
  exact hc.2 j x c (by rw [hsplit, List.getElem?_append_left (by omega)]; exact hx) hcj
 ·rw [List.getElem?_append_right (by omega), hpre] at hx
  rcases Nat.lt_or_ge j (zX (kids.take i) + v.cells.size) with h2 | h2
  ·rw [List.getElem?_append_left (by omega)] at hx
   rw [if_pos ⟨h1, h2⟩] at hcj
   exact hcv _ x c hx hcj
  ·rw [List.getElem?_append_right (by omega)] at hx
   rw [if_neg (by omega)] at hcj
   refine hc.2 j x c ?_ hcj
   rw [hsplit, List.getElem?_append_right (by omega), hpre, List.getElem?_append_right (by omega)]
   rw [show j - zX (List.take i kids) - (zH z).length = j - zX (List.take i kids) - (zH y).length from by omega]
   exact hx
inductive PartsR (E : Env) : List (Nat × AV) → List (Nat × Value) → Prop where
 | nil : PartsR E [] []
 | cons (i x v r s) (h : VR E true x v) (t : PartsR E r s) : PartsR E ((i, x) :: r) ((i, v) :: s)
theorem zFA {p : Nat × AV} {r : List (Nat × AV)} (h : jC (p :: r) = true) : (p.2 ≠ .any ∧ ∀ vs, p.2 ≠ .tup vs) ∧ jC r = true := by
 simp only [jC, List.all_cons, Bool.and_eq_true] at h
 refine ⟨⟨fun e => ?_, fun vs e => ?_⟩, by simpa [jC] using h.2⟩
 ·have := h.1; rw [e] at this; simp at this
 ·have := h.1; rw [e] at this; simp at this
theorem zCF {E : Env} (place : Nat → Option (Nat × Nat)) : ∀ {ps : List (Nat × AV)} {vs : List (Nat × Value)} {kids : List AV} {cs : Array Value} {x : AV}, PartsR E ps vs → zCG (.agg kids) ps = some x → jC ps = true →
  (∀ x ∈ kids, Fit x) → zEC E (zG kids) cs → (∀ i z, kids[i]? = some z → place i = some (zX (kids.take i), width z)) →
  ∃ cs', Instr.fill place cs vs = some cs' ∧ VR E true x (.agg cs')
 | [], vs, kids, cs, x, hp, hf, _, hfit, hc, _ => by
  cases hp
  simp [zCG] at hf
  subst hf
  exact ⟨cs, rfl, .agg _ _ _ (.agg _ hfit) hc.1 hc.2⟩
 | (i, y) :: r, vs, kids, cs, x, hp, hf, hs, hfit, hc, hpl => by
  cases hp with
  | cons _ _ v _ s hv ht =>
   simp only [zCG] at hf
   split at hf
   ·rename_i z hz
    split at hf
    ·rename_i hsh
     obtain ⟨hs1, hs2⟩ := zFA hs
     obtain ⟨g1, g2, g3, g4⟩ := zJy hc hfit hz hsh hv hs1
     have hshape := zBJ hz hsh
     obtain ⟨cs', h1, h2⟩ := zCF place ht hf hs2 g4 g3 fun i' z' hz' => by
      have hlt : i' < kids.length := by have := (List.getElem?_eq_some_iff.1 hz').1; simpa using this
      obtain ⟨u, hu, hu2⟩ := zAr hshape i' _ (List.getElem?_eq_getElem hlt)
      rw [hz'] at hu; cases hu
      rw [hpl i' _ (List.getElem?_eq_getElem hlt), qP (zBd hshape i'), jP hu2]
     refine ⟨cs', ?_, h2⟩
     simp only [Instr.fill, hpl i z hz]
     rw [if_neg (by simp; omega)]
     exact h1
    ·cases hf
   ·cases hf
theorem zHp {E : Env} (place : Nat → Option (Nat × Nat)) (k : IntKind) (n : Nat) (hpl : ∀ i, place i = some (i, 1)) : ∀ {ps : List (Nat × AV)} {vs : List (Nat × Value)} {l : List Int} {x : AV}, PartsR E ps vs → zCG (.ints k n l) ps = some x → l.length = n →
  ∃ cs', Instr.fill place (l.map (Value.int k)).toArray vs = some cs' ∧ VR E true x (.agg cs')
 | [], vs, l, x, hp, hf, hl => by
  cases hp
  simp [zCG] at hf
  subst hf
  exact ⟨_, rfl, .ints _ _ _ _ hl⟩
 | (i, y) :: r, vs, l, x, hp, hf, hl => by
  cases hp with
  | cons _ _ v _ s hv ht =>
   cases y <;> simp only [zCG] at hf <;> first | (cases hf; done) | skip
   rename_i k' m
   split at hf
   ·rename_i hk
    subst hk
    split at hf
    ·rename_i hi
     cases hv
     have hil : i < l.length := by omega
     obtain ⟨cs', h1, h2⟩ := zHp place k n hpl ht hf (by simpa using hl)
     refine ⟨cs', ?_, h2⟩
     have hset : ((Value.int k m).cells.zipIdx.foldl (fun cs (p : Value × Nat) => cs.setIfInBounds (i + p.2) p.1) (l.map (Value.int k)).toArray) = ((l.set i m).map (Value.int k)).toArray := by
      simp [Value.cells, List.map_set]
     simp only [Instr.fill, hpl i]
     rw [if_neg (by simp [Value.cells]; omega), hset]
     exact h1
    ·cases hf
   ·cases hf
theorem zEG {E : Env} {ev : Operand → AV} {a : Act} (h : ∀ x, VR E true (ev x) (a.eval x)) : ∀ (l : List (Nat × Operand)), PartsR E (l.map fun p => (p.1, ev p.2)) (l.map fun p => (p.1, a.eval p.2))
 | [] => .nil
 | p :: l => .cons _ _ _ _ _ (h p.2) (zEG h l)
theorem zIo {t : TypeId} {ps : List (Nat × AV)} {K : AV → Option R} {r : R} (h : zFe C t ps K = some r) :
  ∃ v, (∀ K2 : AV → Option R, zFe C t ps K2 = K2 v) ∧ ∀ E (vs : Array (Nat × Value)), PartsR E ps vs.toList → ∃ v', ∀ w, (Instr.build t vs).run C.P w = .ok v' w ∧ VR E true v v' := by
 unfold zFe at h
 split at h <;> (try (cases h; done))
 rename_i z hz
 split at h <;> (try (cases h; done))
 rename_i hc
 split at h <;> (try (cases h; done))
 rename_i x hx
 refine ⟨x, fun K2 => by simp only [zFe, hz, if_pos hc, hx], fun E vs hp => ?_⟩
 simp only [Bool.and_eq_true, decide_eq_true_eq] at hc
 obtain ⟨⟨⟨hc1, hc2⟩, hc3⟩, hc4⟩ := hc
 obtain ⟨i, v, hi, hv, hrun, hvr, hf, hz1, hz2⟩ := yZ hz
 obtain ⟨d, hu, hs, hr⟩ := yU hc2
 rcases hr with ⟨hl, hd⟩ | ⟨hd, hr⟩
 ·exact absurd hc3 (by obtain ⟨l1, l2⟩ := hl; cases z <;> simp_all [isComp])
 ·rcases hr with ⟨kids, rfl⟩ | ⟨k, n, l, rfl⟩
  ·obtain ⟨cs, rfl, hfit, hcs, hcv⟩ := (hvr E true).agg_inv
   cases d <;> simp at hd
   ·rename_i n e
    rcases kZ hc2 hu with ⟨_, _, e1, _⟩ | ⟨kids', n', _, e1, e2, e3⟩
    ·cases e1
    ·cases e1
     obtain ⟨cs', h1, h2⟩ := zCF (E := E) (fun i => some (i * zP C.P e, zP C.P e)) hp hx hc1 (fun x hx => hfit.kid hx) ⟨hcs, hcv⟩ fun i z hz => by
      have hil := (List.getElem?_eq_some_iff.1 hz).1
      rw [k8 (fun y hy => (e3 y hy).2) _ (Nat.le_of_lt hil), (e3 z (List.mem_of_getElem? hz)).2]
     have hne : kids ≠ [] := fun e => by subst e; simp [width, zX] at hc4
     obtain ⟨y, hy⟩ := List.exists_mem_of_ne_nil _ hne
     obtain ⟨_, hue, _⟩ := yU (e3 y hy).1
     refine ⟨.agg cs', fun w => ⟨?_, h2⟩⟩
     simp only [Instr.build, Sem.run_bind, hrun, Result.andThen_ok, run_underlying hu, Value.cells, yW hue, h1, Sem.run_pure]
   ·rename_i fs
    obtain ⟨m', kids', _, ek, hget⟩ := qE hc2 hu
    cases ek
    have hlen : kids.length = fs.size := by
     unfold yJ at hc2
     rw [hu] at hc2
     simp only [Bool.and_eq_true] at hc2
     have : ∀ (l : List Field) (k : List AV) (off : Nat), kN C.P (yJ C.P 7) l k off = true → k.length = l.length := by
      intro l
      induction l with
      | nil => intro k off h; cases k <;> simp [kN] at h; rfl
      | cons a l ih => intro k off h; cases k <;> simp [kN] at h; simp [ih _ _ h.2]
     simpa using this _ _ _ hc2.1
    obtain ⟨cs', h1, h2⟩ := zCF (E := E) (fun i => (fs.map fun f => (f.offset, zP C.P f.type))[i]?) hp hx hc1 (fun x hx => hfit.kid hx) ⟨hcs, hcv⟩ fun i z hz => by
     have hil := (List.getElem?_eq_some_iff.1 hz).1
     have hfi : fs[i]? = some (fs[i]'(by omega)) := Array.getElem?_eq_getElem (by omega)
     obtain ⟨y, g1, g2, g3, g4⟩ := hget i _ hfi
     rw [hz] at g1; cases g1
     simp [hfi, g2, g3]
    refine ⟨.agg cs', fun w => ⟨?_, h2⟩⟩
    have hmap : (fs.mapM fun f => (do pure (f.offset, ← sizeOf f.type) : Sem (Nat × Nat))).run C.P w = .ok (fs.map fun f => (f.offset, zP C.P f.type)) w := by
     have key : ∀ (l : List Field), (∀ f ∈ l, (sizeOf f.type).run C.P w = .ok (zP C.P f.type) w) → (l.mapM fun f => (do pure (f.offset, ← sizeOf f.type) : Sem (Nat × Nat))).run C.P w = .ok (l.map fun f => (f.offset, zP C.P f.type)) w := by
      intro l
      induction l with
      | nil => intro _; rfl
      | cons f l ih =>
       intro h
       have h1 := h f (by simp)
       have h2 := ih fun g hg => h g (by simp [hg])
       simp only [List.mapM_cons, Sem.run_bind, Sem.run_pure, h1, Result.andThen_ok, h2, List.map_cons]
     rw [Array.mapM_eq_mapM_toList]
     have := key fs.toList fun f hf => by
      obtain ⟨i, hi⟩ := List.mem_iff_getElem?.1 hf
      obtain ⟨y, _, _, _, g4⟩ := hget i f (by simpa using hi)
      obtain ⟨_, hue, _⟩ := yU g4
      exact yW hue w
     simp only [Sem.run_map, this, Result.andThen_ok]
     congr 1
     apply Array.ext'
     simp
    simp only [Instr.build, Sem.run_bind, hrun, Result.andThen_ok, run_underlying hu, Value.cells, hmap, h1, Sem.run_pure]
  ·have hve := hvr E true
   cases hve with
   | ints _ _ _ _ hln =>
    cases d <;> simp at hd
    ·rename_i n' e
     rcases kZ hc2 hu with ⟨k', l', e1, e2, e3⟩ | ⟨_, _, _, e1, _⟩
     ·cases e1
      have hue := qI e2
      obtain ⟨cs', h1, h2⟩ := zHp (E := E) (fun i => some (i * 1, 1)) k n (fun i => by simp) hp hx hln
      refine ⟨.agg cs', fun w => ⟨?_, h2⟩⟩
      simp [Instr.build, hrun, Value.cells, run_underlying hu, yW hue, e3]
      simp at h1
      rw [h1]
      rfl
     ·cases e1
    ·obtain ⟨_, _, _, e1, _⟩ := qE hc2 hu
     cases e1
end
end Go.Abs
end
section
set_option linter.unusedVariables false
set_option linter.unusedSimpArgs false
namespace Go.Abs
open Go
section
variable {R : Type} {C : Ctx}
theorem zCH {E : Env} (k : IntKind) : ∀ {ps : List (Nat × AV)} {vs : List (Nat × Value)} {l l' : List Int}, PartsR E ps vs → zBw k l ps = some l' →
  l'.length = l.length ∧ Instr.fill (fun i => some (i * 1, 1)) (l.map (Value.int k)).toArray vs = some (l'.map (Value.int k)).toArray
 | [], vs, l, l', hp, hf => by
  cases hp
  simp [zBw] at hf
  subst hf
  exact ⟨rfl, rfl⟩
 | (i, y) :: r, vs, l, l', hp, hf => by
  cases hp with
  | cons _ _ v _ s hv ht =>
   cases y <;> simp only [zBw] at hf <;> first | (cases hf; done) | skip
   rename_i k' m
   split at hf
   ·rename_i hk
    subst hk
    split at hf
    ·rename_i hi
     cases hv
     obtain ⟨h1, h2⟩ := zCH k ht hf
     refine ⟨by simpa using h1, ?_⟩
     have hset : ((Value.int k m).cells.zipIdx.foldl (fun cs (p : Value × Nat) => cs.setIfInBounds (i * 1 + p.2) p.1) (l.map (Value.int k)).toArray) = ((l.set i m).map (Value.int k)).toArray := by
      simp [Value.cells, List.map_set]
     simp only [Instr.fill]
     rw [if_neg (by simp [Value.cells]; omega), hset]
     exact h2
    ·cases hf
   ·cases hf
theorem zBW : ∀ {ps : List (Nat × AV)} {l l' : List AV}, zBv l ps = some l' → zCG (.agg l) ps = some (.agg l') ∧ (l'.length = l.length) ∧
  ∀ w, (∀ x ∈ l, width x = w ∧ zR x = true ∧ solid x = true) → ∀ x ∈ l', width x = w ∧ zR x = true ∧ solid x = true
 | [], l, l', h => by simp [zBv] at h; subst h; exact ⟨rfl, rfl, fun w h => h⟩
 | (i, y) :: r, l, l', h => by
  simp only [zBv] at h
  split at h
  ·rename_i z hz
   split at h
   ·rename_i hc
    simp only [Bool.and_eq_true] at hc
    obtain ⟨h1, h2, h3⟩ := zBW h
    refine ⟨by simp only [zCG, hz, if_pos hc.1.1]; exact h1, by simpa using h2, fun w hw => h3 w fun x hx => ?_⟩
    rcases List.mem_or_eq_of_mem_set hx with hx | hx
    ·exact hw x hx
    ·subst hx
     exact ⟨by rw [← jP hc.1.1]; exact (hw z (List.mem_of_getElem? hz)).1, hc.1.2, hc.2⟩
   ·cases h
  ·cases h
theorem zGe (k : IntKind) (z : Int) (n : Nat) : madeCells (Value.int k z).cells n = ((List.replicate n z).map (Value.int k)).toArray := by
 apply Array.ext_getElem?
 intro j
 rcases Nat.lt_or_ge j n with hj | hj
 ·rw [jR _ _ _ hj (by simp [Value.cells])]
  simp [Value.cells, Nat.mod_one, hj]
 ·rw [Array.getElem?_eq_none (by rw [size_madeCells]; exact hj)]
  simp [hj]
theorem j9 {P : Program} {t e n w : Nat} {vs : Array (Nat × Value)} {z : Value} {cs : Array Value} (hu : P.underlying t = some (.slice e)) (hs : ∀ W, (sizeOf e).run P W = .ok w W) (hn : n * w ≤ 16777216) (hz : ∀ W, (zeroValue e).run P W = .ok z W)
  (hf : Instr.fill (fun i => some (i * w, w)) (madeCells z.cells (n * w)) vs.toList = some cs) (W : World) :
  (Instr.buildSlice t n vs).run P W = .ok (.slice (some ⟨W.heap.size, 0, none⟩) n n) (W.alloc (.cells cs e)) := by
 have h1 : ¬ (16777216 < n * w) := by omega
 by_cases h0 : n * w = 0
 ·have hm : madeCells z.cells (n * w) = (Array.range 0).map (fun x => (#[] : Array Value)[x % (#[] : Array Value).size]!) := by rw [h0]; simp [madeCells]
  rw [hm] at hf
  simp only [Instr.buildSlice, Sem.run_bind, run_underlying hu, Result.andThen_ok, hs]
  rw [if_neg (by simpa using h1)]
  simp only [h0, if_true, Sem.run_bind, Sem.run_pure, Result.andThen_ok, hf]
  simp [newRow]
 ·simp only [Instr.buildSlice, Sem.run_bind, run_underlying hu, Result.andThen_ok, hs]
  rw [if_neg (by simpa using h1)]
  have hf' : Instr.fill (fun i => some (i * w, w)) ((Array.range (n * w)).map (fun x => z.cells[x % z.cells.size]!)) vs.toList = some cs := hf
  simp only [h0, if_false, Sem.run_bind, Sem.run_pure, Result.andThen_ok, hz, hf']
  simp [newRow]
theorem qX {t n : Nat} {ps : List (Nat × AV)} {bl : zC} {K : z9 R} {r : R} (h : yG C t n ps bl K = some r) :
  ∃ v bl', KS (R := R) (yG C t n ps) bl .write v bl' ∧ ∀ E, E.bl = bl → Mem E → ∀ vs : Array (Nat × Value), PartsR E ps vs.toList → Out E C.P .write v bl' (Instr.buildSlice t n vs) := by
 unfold yG at h
 split at h <;> (try (cases h; done))
 rename_i e hu
 split at h <;> (try (cases h; done))
 rename_i hc
 have hc' := hc
 simp only [Bool.and_eq_true, decide_eq_true_eq] at hc'
 split at h <;> (try (cases h; done))
 ·rename_i k z hz
  split at h <;> (try (cases h; done))
  rename_i hs
  split at h <;> (try (cases h; done))
  rename_i l hl
  refine ⟨.own bl.length 1, bl ++ [some (.ints k l)], .ofWrite fun K => by simp only [yG, hu, if_pos hc, hz, if_pos hs, hl], fun E hE m vs hp => ?_⟩
  subst hE
  obtain ⟨i, v, hi, hv, hrun, hvr, _⟩ := yZ hz
  have hve := (hvr E true).int_inv
  subst hve
  obtain ⟨hlen, hfill⟩ := zCH k hp hl
  simp at hlen
  have hsz := (zDJ hs).1
  have run := j9 (n := n) (w := 1) (vs := vs) (cs := (l.map (Value.int k)).toArray) hu (qD hs) (by rw [hsz] at hc'; omega) hrun (by rw [Nat.mul_one, zGe]; exact hfill) E.w
  have go := Go.new m (l.map (Value.int k)).toArray e n (.ints k l) (0, 0) (fun j _ => by simp) trivial (by simp [zJ, hlen]) (by simp [hlen]) (fun j x c hx hc => by
   simp only [zJ, List.getElem?_map] at hx
   simp only [List.getElem?_toArray, List.getElem?_map] at hc
   cases hj : l[j]? with
   | none => simp [hj] at hx
   | some a => simp [hj] at hx hc; subst hx; subst hc; exact .int _ _ _)
  exact ⟨_, _, run, rfl, go, wG (by simp [zZ, hlen]) (Nat.le_refl _) (by omega)⟩
 ·rename_i z hnz hz
  split at h <;> (try (cases h; done))
  rename_i hs
  split at h <;> (try (cases h; done))
  rename_i l hl
  refine ⟨.own bl.length (zP C.P e), bl ++ [some (.objs e (zP C.P e) l)], .ofWrite fun K => ?_, fun E hE m vs hp => ?_⟩
  ·simp only [yG, hu, if_pos hc]
   split
   ·rename_i k' z' hz'
    rw [hz] at hz'; cases hz'
    exact absurd rfl (hnz _ _)
   ·rename_i z' _ hz'
    rw [hz] at hz'; cases hz'
    rw [if_pos hs, hl]
   ·rename_i hz'
    rw [hz] at hz'; cases hz'
  ·subst hE
   simp only [Bool.and_eq_true, decide_eq_true_eq] at hs
   obtain ⟨⟨⟨hs1, hs2⟩, hs3⟩, hs4⟩ := hs
   obtain ⟨i, v, hi, hv, hrun, hvr, hfz, hx1, hx2⟩ := yZ hz
   obtain ⟨d, hue, hw, _⟩ := yU hs3
   obtain ⟨_, hcz, hcr⟩ := (hvr E true).cells ⟨hx1, hx2⟩
   have hfl := hfz.length
   obtain ⟨f1, f2, f3⟩ := zBW hl
   simp at f2
   have hrep : ∀ x ∈ List.replicate n z, x = z := fun x hx => List.eq_of_mem_replicate hx
   have hmade : zEC E (zG (List.replicate n z)) (madeCells v.cells (n * zP C.P e)) := by
    refine ⟨by rw [size_madeCells, yL, hfl, hw], fun j x c hx hc => ?_⟩
    have hj := (List.getElem?_eq_some_iff.1 hx).1
    rw [yL, hfl, ← hw] at hj
    rw [jR _ _ _ hj (by omega), hcz] at hc
    exact hcr _ x c (zAk n z j x hx (by omega)) hc
   obtain ⟨cs', h1, h2⟩ := zCF (E := E) (fun i => some (i * zP C.P e, zP C.P e)) hp f1 hc'.2 (fun x hx => by rw [hrep x hx]; exact hfz) hmade fun i y hy => by
    have hil := (List.getElem?_eq_some_iff.1 hy).1
    rw [k8 (w := zP C.P e) (fun y hy => by rw [hrep y hy]; exact hw.symm) _ (Nat.le_of_lt hil), hrep y (List.mem_of_getElem? hy), hw]
   obtain ⟨cs'', e1, hfit, hcs, hcv⟩ := h2.agg_inv
   cases e1
   have hall := f3 (zP C.P e) fun x hx => by rw [hrep x hx]; exact ⟨hw.symm, hs1, hs2⟩
   have hfb : ∀ x ∈ l, (Fit x ∧ width x = zP C.P e) ∧ zR x = true ∧ solid x = true := fun x hx => ⟨⟨hfit.kid hx, (hall x hx).1⟩, (hall x hx).2⟩
   have run := j9 (n := n) (w := zP C.P e) (vs := vs) (cs := cs') hu (yW hue) hc'.1 hrun h1 E.w
   have hlf := yD hfb
   have go := Go.new m cs' e (n * zP C.P e) (.objs e (zP C.P e) l) (0, 0) (fun j _ => by simp) hfb (by simp only [zJ]; rw [hlf, f2]; exact Nat.le_refl _) (by rw [hcs, hlf, f2]; exact Nat.le_refl _) (fun j x c hx hc => hcv j x c hx hc)
   exact ⟨_, _, run, rfl, go, wG (by simp [zZ, f2]) (Nat.le_refl _) (Nat.le_refl _)⟩
theorem zIc (a b : Nat) : Nat.min a b = min a b := rfl
theorem zDi {P : Program} {E : Env} {t e : TypeId} {ts : Array TypeId} {ty : TypeId} {k : IntKind} {l : List Int} {v : Value} {a : Option Addr} {n cap b o : Nat} (hts : ts[0]? = some t) (hu : P.underlying t = some (.slice e)) (hs : qF P e 1 = true)
  (h : IntsAt E k l v) (ha : min l.length n ≠ 0 → a = some ⟨b, o, none⟩) (hr : ∀ j, j < min l.length n → (E.cell b (o + j)).isSome = true ∧ E.w.frozen? ⟨b, o + j, none⟩ = false) :
  (Builtin.copy_ ts ty #[.slice a n cap, v]).run P E.w = .ok (.int .i64 (min l.length n : Nat)) (E.w.setCells b o ((l.take (min l.length n)).map (Value.int k))) := by
 have hc := h.cells P E.w (fun _ => rfl) (min l.length n) (Nat.min_le_left _ _)
 have hl := h.len P E.w
 have hst := run_storeCells_cells (P := P) b o ((l.take (min l.length n)).map (Value.int k)) 0 E.w (fun j hj => by
   have := (hr j (by simp at hj; omega)).1
   rw [Nat.add_zero]; exact this) (fun j hj => by
   have := (hr j (by simp at hj; omega)).2
   rw [Nat.add_zero]; exact this) (fun c hc => by obtain ⟨m, _, rfl⟩ := List.mem_map.1 hc; rfl)
 rw [Nat.add_zero] at hst
 cases a with
 | none =>
  have h0 : min l.length n = 0 := by
   by_cases h0 : min l.length n = 0
   ·exact h0
   ·exact absurd (ha h0) (by simp)
  rw [h0] at hc ⊢
  simp [Builtin.copy_, hts, run_underlying hu, hl, qD hs, h0, zIc, hc, goInt]
  rfl
 | some ad =>
  by_cases h0 : min l.length n = 0
  ·rw [h0] at hc ⊢
   simp [Builtin.copy_, hts, run_underlying hu, hl, qD hs, h0, zIc, hc, goInt, storeCells]
   rfl
  ·cases ha h0
   simp only [Builtin.copy_, hts, List.getElem?_toArray, List.getElem?_cons_zero, List.getElem?_cons_succ, Sem.run_bind, run_underlying hu, Result.andThen_ok, hl, qD hs, zIc, hc, hst, Sem.run_pure, goInt]
theorem zJv {t : TypeId} {d x : AV} {bl : zC} {K : z9 R} {r : R} (h : zGv C t d x bl K = some r) :
  ∃ v bl', KS (R := R) (zGv C t d x) bl .write v bl' ∧ ∀ E, E.bl = bl → Mem E → ∀ d' x' (ts : Array TypeId) ty, ts[0]? = some t → VR E true d d' → VR E true x x' → Out E C.P .write v bl' (Builtin.copy_ ts ty #[d', x']) := by
 unfold zGv at h
 split at h <;> (try (cases h; done))
 rename_i e hu
 split at h <;> (try (cases h; done))
 rename_i hs
 split at h <;> (try (cases h; done))
 ·rename_i k r0 id w hel
  split at h <;> (try (cases h; done))
  rename_i k' l hbk
  split at h <;> (try (cases h; done))
  rename_i hk
  subst hk
  refine ⟨.int .i64 (min r0.length l.length : Nat), bl.set id (some (.ints k (r0.take l.length ++ l.drop r0.length))), .ofWrite fun K => by simp only [zGv, hu, if_pos hs, hel, hbk, if_true], fun E hE m d' x' ts ty hts hd hx => ?_⟩
  subst hE
  have src := jH hel (.inl rfl) m hx
  cases hd with
  | mown _ r hid hh => have g := (hh _ hbk).1; simp [zZ] at g
  | own _ _ len a cap hid hcap hh =>
   obtain ⟨g1, g2, g3⟩ := hh _ hbk
   simp [zZ] at g1
   obtain ⟨rfl, rfl⟩ := g1
   have ok := m.ok id _ hbk
   have run := zDi (P := C.P) (b := (E.loc id).1) (o := (E.loc id).2.1) (cap := cap) (ty := ty) hts hu hs src (a := a) (n := l.length) (fun h0 => by
    rcases g3 with h | h
    ·omega
    ·exact h) (fun j hj => ok.room rfl j (by omega))
   have hlen : (r0.take l.length ++ l.drop r0.length).length = l.length := by simp; omega
   have hext := ok.len
   simp [zJ] at hext
   have go := Go.put m id 0 ((r0.take (min r0.length l.length)).map (Value.int k)) _ (.ints k (r0.take l.length ++ l.drop r0.length)) hbk (by simp; omega) trivial (by simp only [zJ, List.length_map, hlen]; exact hext) (fun j y hy _ hj => by
    simp at hj
    simp only [zJ, List.getElem?_map] at hy
    rw [List.getElem?_append_left (by simp; omega), List.getElem?_take, if_pos (by omega)] at hy
    have hjl : j < r0.length := by omega
    simp [List.getElem?_eq_getElem hjl] at hy
    subst hy
    exact ⟨.int k r0[j], by simp [List.getElem?_take, hj, List.getElem?_eq_getElem hjl], .int _ _ _⟩) (fun j y hy hj => by
    simp at hj
    simp only [zJ, List.getElem?_map] at hy ⊢
    have hjl : j < l.length := by have := (List.getElem?_eq_some_iff.1 (show ((r0.take l.length ++ l.drop r0.length).map (AV.int k))[j]? = some y by rw [List.getElem?_map]; exact hy)).1; simp at this; omega
    rw [List.getElem?_append_right (by simp; omega), List.getElem?_drop] at hy
    rw [show r0.length + (j - (List.take l.length r0).length) = j from by simp; omega] at hy
    exact hy) (fun p q hq => by
    cases p with
    | nil => simp [yS] at hq
    | cons i p => cases p with
     | nil => simpa [yS, hlen] using hq
     | cons => simp [yS] at hq) (fun p q hq => by
    cases p with
    | nil => simpa [zZ, hlen] using hq
    | cons => simp [zZ] at hq)
   exact ⟨_, _, run, rfl, go, .int _ _ _⟩
 ·rename_i k r0 id path st n w hel
  split at h <;> (try (cases h; done))
  rename_i k' mm l hbk
  split at h <;> (try (cases h; done))
  rename_i hk
  subst hk
  refine ⟨.int .i64 (min r0.length n : Nat), bl.set id (some (.var (.ints k mm (l.take st ++ (r0.take n ++ l.drop (st + min r0.length n)))))), .ofWrite fun K => by simp only [zGv, hu, if_pos hs, hel, hbk, if_true], fun E hE m d' x' ts ty hts hd hx => ?_⟩
  subst hE
  have src := jH hel (.inl rfl) m hx
  cases hd with
  | slice _ _ _ _ _ a cap hid hcap hsm hh =>
   obtain ⟨q, c, g1, g2, g3, g4⟩ := hh _ hbk
   simp [zZ, zM, zL] at g1
   obtain ⟨rfl, rfl, rfl⟩ := g1
   have ok := m.ok id _ hbk
   have hl : l.length = mm := Fit.len ok.fit
   have hext := ok.len
   simp [zJ, zH] at hext
   have run := zDi (P := C.P) (b := (E.loc id).1) (o := (E.loc id).2.1 + st) (cap := cap) (ty := ty) hts hu hs src (a := a) (n := n) (fun h0 => by
    rcases g4 with h | h
    ·omega
    ·simpa using h) (fun j hj => by rw [Nat.add_assoc]; exact ok.room rfl (st + j) (by omega))
   have hlen : (l.take st ++ (r0.take n ++ l.drop (st + min r0.length n))).length = mm := by simp; omega
   have hget : ∀ (j : Nat), j < st ∨ st + min r0.length n ≤ j → (l.take st ++ (r0.take n ++ l.drop (st + min r0.length n)))[j]? = l[j]? := fun j hj => by
    rcases Nat.lt_or_ge j st with h1 | h1
    ·rw [List.getElem?_append_left (by simp; omega), List.getElem?_take, if_pos h1]
    ·rw [List.getElem?_append_right (by simp; omega), List.getElem?_append_right (by simp; omega), List.getElem?_drop]
     congr 1
     simp
     omega
   have go := Go.put m id st ((r0.take (min r0.length n)).map (Value.int k)) _ (.var (.ints k mm (l.take st ++ (r0.take n ++ l.drop (st + min r0.length n))))) hbk (by simp; omega) (.ints _ _ _ hlen) (by simp only [zJ, zH, List.length_map, hlen]; omega) (fun j y hy h1 hj => by
    simp at hj
    simp only [zJ, zH, List.getElem?_map] at hy
    have hjr : j - st < r0.length := by omega
    rw [List.getElem?_append_right (by simp; omega), List.getElem?_append_left (by simp; omega), List.getElem?_take, if_pos (by simp; omega)] at hy
    rw [show j - (List.take st l).length = j - st from by simp; omega] at hy
    simp [List.getElem?_eq_getElem hjr] at hy
    subst hy
    refine ⟨.int k r0[j - st], ?_, .int _ _ _⟩
    rw [List.getElem?_map, List.getElem?_take, if_pos (by omega), List.getElem?_eq_getElem hjr]
    rfl) (fun j y hy hj => by
    simp at hj
    simp only [zJ, zH, List.getElem?_map] at hy ⊢
    rwa [hget j (by omega)] at hy) (fun p q hq => by
    cases p with
    | nil => simpa [yS, zL] using hq
    | cons i p => cases p with
     | nil => simpa [yS, zL] using hq
     | cons => simp [yS, zL] at hq) (fun p q hq => by
    cases p with
    | nil => simpa [zZ, zM, zL] using hq
    | cons i p => cases p with
     | nil => simp [zZ, zM] at hq
     | cons => simp [zZ, zM] at hq)
   exact ⟨_, _, run, rfl, go, .int _ _ _⟩
end
end Go.Abs
end
section
set_option linter.unusedVariables false
set_option linter.unusedSimpArgs false
namespace Go.Abs
open Go
section
theorem jE (ρ : Nat → Option Nat) : ∀ l : List AV, zBg ρ l = l.map (ren ρ)
 | [] => rfl
 | x :: r => by simp [zBg, jE ρ r]
theorem zFX {ρ : Nat → Option Nat} {x : AV} (h : zCj x) : zCj (ren ρ x) := by
 obtain ⟨h1, h2⟩ := h
 constructor
 ·intro kids e
  cases x <;> simp only [ren] at e <;> first
   | (split at e <;> cases e; done)
   | (cases e; done)
   | exact h1 _ rfl
 ·intro k n l e
  cases x <;> simp only [ren] at e <;> first
   | (split at e <;> cases e; done)
   | (cases e; done)
   | (cases e; exact h2 _ _ _ rfl)
mutual
theorem zJo (ρ : Nat → Option Nat) : ∀ x : AV, zH (ren ρ x) = (zH x).map (ren ρ)
 | .agg kids => by simp only [ren, zH]; exact zEX ρ kids
 | .ints k n l => by simp [ren, zH]
 | .any | .tup _ | .bool _ | .int _ _ | .str _ | .nilp | .ptr _ _ | .aptr _ _ _ _ | .rptr _ | .snil | .slice _ _ _ _ _ | .own _ _
 | .rints _ _ | .robjs _ _ _ | .fn _ _ _ | .nilf | .iface _ _ | .nili | .raw _ | .errv _ _ _ | .rmap _ => by
  rw [(zFX (ρ := ρ) ⟨by simp, by simp⟩ : zCj _).one.1]
  simp [zH]
theorem zEX (ρ : Nat → Option Nat) : ∀ l : List AV, zG (zBg ρ l) = (zG l).map (ren ρ)
 | [] => rfl
 | x :: r => by simp [zBg, zG, zJo ρ x, zEX ρ r]
end
mutual
theorem zKW (ρ : Nat → Option Nat) : ∀ x : AV, width (ren ρ x) = width x
 | .agg kids => by simp only [ren, width]; exact zDq ρ kids
 | .ints k n l => by simp [ren]
 | .any | .tup _ | .bool _ | .int _ _ | .str _ | .nilp | .ptr _ _ | .aptr _ _ _ _ | .rptr _ | .snil | .slice _ _ _ _ _ | .own _ _
 | .rints _ _ | .robjs _ _ _ | .fn _ _ _ | .nilf | .iface _ _ | .nili | .raw _ | .errv _ _ _ | .rmap _ => by
  rw [(zFX (ρ := ρ) ⟨by simp, by simp⟩ : zCj _).one.2]
  simp [width]
theorem zDq (ρ : Nat → Option Nat) : ∀ l : List AV, zX (zBg ρ l) = zX l
 | [] => rfl
 | x :: r => by simp [zBg, zX, zKW ρ x, zDq ρ r]
end
theorem zKI (ρ : Nat → Option Nat) {x : AV} (h : Fit x) : Fit (ren ρ x) := by
 induction h with
 | ints k n l h => simp only [ren]; exact .ints _ _ _ h
 | agg kids h ih =>
  simp only [ren, jE]
  refine .agg _ fun y hy => ?_
  obtain ⟨z, hz, rfl⟩ := List.mem_map.1 hy
  exact ih z hz
 | leaf x h => exact .leaf _ (zFX h)
theorem zCu (ρ : Nat → Option Nat) : ∀ (p : List Nat) (x : AV), zL (ren ρ x) p = zL x p
 | [], x => by simp [zL]
 | i :: p, .agg kids => by
  simp only [ren, zL, jE]
  rw [List.getElem?_map]
  cases h : kids[i]? with
  | none => rfl
  | some y =>
   simp only [Option.map_some]
   rw [zCu ρ p y, ← List.map_take, ← jE, zDq]
 | i :: p, .ints k n l => by simp [ren]
 | i :: p, .any | i :: p, .tup _ | i :: p, .bool _ | i :: p, .int _ _ | i :: p, .str _ | i :: p, .nilp | i :: p, .ptr _ _ | i :: p, .aptr _ _ _ _ | i :: p, .rptr _ | i :: p, .snil | i :: p, .slice _ _ _ _ _ | i :: p, .own _ _
 | i :: p, .rints _ _ | i :: p, .robjs _ _ _ | i :: p, .fn _ _ _ | i :: p, .nilf | i :: p, .iface _ _ | i :: p, .nili | i :: p, .raw _ | i :: p, .errv _ _ _ | i :: p, .rmap _ => by
  first | (simp only [ren]; done) | (simp only [ren]; split <;> simp [zL]; done) | (simp [ren, zL]; done)
theorem zFq (ρ : Nat → Option Nat) : ∀ (p : List Nat) (x : AV), zM (ren ρ x) p = (zM x p).map (ren ρ)
 | [], x => by simp [zM]
 | i :: p, .agg kids => by
  simp only [ren, zM, jE]
  rw [List.getElem?_map]
  cases h : kids[i]? with
  | none => rfl
  | some y => exact zFq ρ p y
 | [i], .ints k n l => by simp [ren, zM]
 | i :: j :: p, .ints k n l => by simp [ren, zM]
 | i :: p, .any | i :: p, .tup _ | i :: p, .bool _ | i :: p, .int _ _ | i :: p, .str _ | i :: p, .nilp | i :: p, .ptr _ _ | i :: p, .aptr _ _ _ _ | i :: p, .rptr _ | i :: p, .snil | i :: p, .slice _ _ _ _ _ | i :: p, .own _ _
 | i :: p, .rints _ _ | i :: p, .robjs _ _ _ | i :: p, .fn _ _ _ | i :: p, .nilf | i :: p, .iface _ _ | i :: p, .nili | i :: p, .raw _ | i :: p, .errv _ _ _ | i :: p, .rmap _ => by
  first | (simp only [ren, zM]; rfl) | (simp only [ren]; split <;> simp [zM]; done) | (simp [ren, zM]; done)
theorem zAI (ρ : Nat → Option Nat) (b : Blk) (p : List Nat) : yS (qG ρ b) p = yS b p := by
 cases b with
 | free => first | rfl | trivial
 | mp l => first | rfl | exact hf
 | var v => simp only [qG, yS]; exact zCu ρ p v
 | ints k l => rfl
 | objs e w l => rfl
theorem zAD (ρ : Nat → Option Nat) (b : Blk) (p : List Nat) : zZ (qG ρ b) p = zZ b p := by
 cases b with
 | free => first | rfl | trivial
 | mp l => first | rfl | exact hf
 | var v =>
  simp only [qG, zZ, zFq, zCu]
  cases h : zM v p with
  | none => rfl
  | some y =>
   cases hy : y with
   | ints k n l => simp [ren]
   | ptr i a => simp only [Option.map_some, ren]; cases ρ i <;> rfl
   | aptr i a b c => simp only [Option.map_some, ren]; cases ρ i <;> rfl
   | slice i a b c d => simp only [Option.map_some, ren]; cases ρ i <;> rfl
   | own i a => simp only [Option.map_some, ren]; cases ρ i <;> rfl
   | _ => simp only [Option.map_some, ren]
 | ints k l => rfl
 | objs e w l => rfl
mutual
theorem zCW {ρ : Nat → Option Nat} : ∀ {x : AV}, zR x = true → ren ρ x = x
 | .agg kids, h => by simp only [ren]; rw [zAF (by simpa [zR] using h)]
 | .tup kids, h => by simp only [ren]; rw [zAF (by simpa [zR] using h)]
 | .fn f a b, h => by
  simp only [zR, Bool.and_eq_true] at h
  simp only [ren]; rw [zAF h.1, zAF h.2]
 | .iface t v, h => by simp only [ren]; rw [zCW (by simpa [zR] using h)]
 | .any, _ | .bool _, _ | .int _ _, _ | .str _, _ | .nilp, _ | .rptr _, _ | .snil, _ | .rints _ _, _ | .robjs _ _ _, _ | .ints _ _ _, _ | .nilf, _ | .nili, _ | .raw _, _ | .errv _ _ _, _ | .rmap _, _ => by simp [ren]
 | .ptr _ _, h | .aptr _ _ _ _, h | .slice _ _ _ _ _, h | .own _ _, h => by simp [zR] at h
theorem zAF {ρ : Nat → Option Nat} : ∀ {l : List AV}, kA l = true → zBg ρ l = l
 | [], _ => rfl
 | x :: r, h => by
  simp only [kA, Bool.and_eq_true] at h
  simp only [zBg]; rw [zCW h.1, zAF h.2]
end
theorem zDb {ρ : Nat → Option Nat} {b : Blk} (hf : zCS b) : zJ (qG ρ b) = (zJ b).map (ren ρ) := by
 cases b with
 | free => first | rfl | trivial
 | mp l => first | rfl | exact hf
 | var v => exact zJo ρ v
 | ints k l => simp [qG, zJ, ren]
 | objs e w l =>
  simp only [qG, zJ]
  have : ∀ x ∈ zG l, ren ρ x = x := fun x hx => by
   obtain ⟨y, hy, hm⟩ := zHn hx
   exact zCW (kY (hf y hy).2.1 x hm)
  rw [List.map_congr_left this, List.map_id']
theorem zJq {ρ : Nat → Option Nat} {b : Blk} (hf : zCS b) : zCS (qG ρ b) := by
 cases b with
 | free => first | rfl | trivial
 | mp l => first | rfl | exact hf
 | var v => exact zKI ρ hf
 | ints k l => trivial
 | objs e w l => exact hf
structure Turn (E E' : Env) (ρ : Nat → Option Nat) : Prop where
 blk : ∀ id j, ρ id = some j → id < E.bl.length → j < E'.bl.length ∧ ∀ b', zF E'.bl j = some b' → ∃ b, zF E.bl id = some b ∧ E'.loc j = E.loc id ∧
  (∀ p q, yS b p = some q → yS b' p = some q) ∧ (∀ p r, zZ b p = some r → zZ b' p = some r)
theorem VR.roMono {E E' : Env} (hro : ∀ b o, E.ro b o → E'.ro b o ∧ E'.cell b o = E.cell b o) (hmp : jS E E') {o : Bool} {x : AV} {v : Value} (h : VR E o x v) : o = false → VR E' o x v := by
 induction h with
 | any => exact fun _ => .any _ _
 | bool => exact fun _ => .bool _ _
 | int => exact fun _ => .int _ _ _
 | str => exact fun _ => .str _ _
 | nilp => exact fun _ => .nilp _
 | ptr => intro h; cases h
 | aptr => intro h; cases h
 | rptr o x a hf hs vv h hv ih => exact fun _ => .rptr o x a hf hs vv (fun j y hy => ⟨(hro _ _ (h j y hy).1).1, (hro _ _ (h j y hy).1).2.trans (h j y hy).2⟩) fun j y hy => ih j y hy rfl
 | snil => exact fun _ => .snil _
 | slice => intro h; cases h
 | own => intro h; cases h
 | rints o k l a cap hc h =>
  exact fun _ => .rints o k l a cap hc fun i hi => let ⟨ad, h1, h2, h3, h4⟩ := h i hi; ⟨ad, h1, h2, (hro _ _ h3).1, (hro _ _ h3).2.trans h4⟩
 | robjs o e w l a cap hc hw vv ha h hv ih =>
  exact fun _ => .robjs o e w l a cap hc hw vv ha (fun ad i x j y h1 h2 h3 => ⟨(hro _ _ (h ad i x j y h1 h2 h3).1).1, (hro _ _ (h ad i x j y h1 h2 h3).1).2.trans (h ad i x j y h1 h2 h3).2⟩) fun i x j y h1 h2 => ih i x j y h1 h2 rfl
 | agg o kids cs hf hs h ih => exact fun ho => .agg o kids cs hf hs fun j x c h1 h2 => ih j x c h1 h2 ho
 | ints o k n l h => exact fun _ => .ints o k n l h
 | tup o vs cs hs h ih => exact fun ho => .tup o vs cs hs fun j x c h1 h2 => ih j x c h1 h2 ho
 | fn o f xs ys as bs h1 h2 g1 g2 i1 i2 => exact fun ho => .fn o f xs ys as bs h1 h2 (fun j x c h1 h2 => i1 j x c h1 h2 ho) (fun j x c h1 h2 => i2 j x c h1 h2 ho)
 | nilf => exact fun _ => .nilf _
 | iface o t x v h ih => exact fun ho => .iface o t x v (ih ho)
 | nili => exact fun _ => .nili _
 | raw o v h1 h2 => exact fun _ => .raw _ _ h1 h2
 | errv o tF ts k v h => exact fun _ => .errv _ _ _ _ _ (h.ro hro)
 | rmap o l r es c hr hh hs hst hl hk hv ihk ihv => exact fun _ => .rmap o l r es c (hro _ _ hr).1 (hmp _ _ _ hr hh) hs hst hl (fun j e k v h1 h2 => ihk j e k v h1 h2 rfl) fun j e k v h1 h2 => ihv j e k v h1 h2 rfl
 | mown => intro h; cases h
theorem MapAt.to {E E' : Env} (hro : ∀ b o, E.ro b o → E'.ro b o ∧ E'.cell b o = E.cell b o) (hmp : jS E E') {r : Nat} {l : List AV} (h : E'.w.heap[r]? = E.w.heap[r]?) (k : MapAt E r l) : MapAt E' r l := by
 obtain ⟨es, c, h1, h2, h3, h4⟩ := k
 exact ⟨es, c, h.trans h1, h2, h3, fun j e k v he hl => ⟨VR.roMono hro hmp (h4 j e k v he hl).1 rfl, VR.roMono hro hmp (h4 j e k v he hl).2 rfl⟩⟩
theorem zJi (ρ : Nat → Option Nat) (b : Blk) : wB (qG ρ b) = wB b := by cases b <;> rfl
theorem zMn {ρ : Nat → Option Nat} {b : Blk} {l : List AV} (h : qG ρ b = .mp l) : b = .mp l := by cases b <;> first | exact h | cases h
theorem zBP : ∀ {l : List AV}, zAK l = true → ∀ y ∈ l, kR y = true
 | x :: r, h, y, hy => by
  simp only [zAK, Bool.and_eq_true] at h
  rcases List.mem_cons.1 hy with rfl | hy
  ·exact h.1
  ·exact zBP h.2 y hy
mutual
theorem zGn : ∀ {x : AV}, kR x = true → ∀ y ∈ zH x, kR y = true
 | .agg kids, h, y, hy => zCD (by simpa [kR] using h) y (by simpa [zH] using hy)
 | .ints k n l, _, y, hy => by
  simp only [zH, List.mem_map] at hy
  obtain ⟨z, _, rfl⟩ := hy
  rfl
 | .any, h, y, hy | .tup _, h, y, hy | .bool _, h, y, hy | .int _ _, h, y, hy | .str _, h, y, hy | .nilp, h, y, hy | .ptr _ _, h, y, hy | .aptr _ _ _ _, h, y, hy | .rptr _, h, y, hy | .snil, h, y, hy | .slice _ _ _ _ _, h, y, hy | .own _ _, h, y, hy
 | .rints _ _, h, y, hy | .robjs _ _ _, h, y, hy | .fn _ _ _, h, y, hy | .nilf, h, y, hy | .iface _ _, h, y, hy | .nili, h, y, hy | .raw _, h, y, hy | .errv _ _ _, h, y, hy | .rmap _, h, y, hy => by
  simp only [zH, List.mem_singleton] at hy
  subst hy
  exact h
theorem zCD : ∀ {l : List AV}, zAK l = true → ∀ y ∈ zG l, kR y = true
 | x :: r, h, y, hy => by
  simp only [zAK, Bool.and_eq_true] at h
  simp only [zG, List.mem_append] at hy
  rcases hy with hy | hy
  ·exact zGn h.1 y hy
  ·exact zCD h.2 y hy
end
theorem VR.turn {E E' : Env} {ρ : Nat → Option Nat} (s : Turn E E' ρ) {R0 : Prop} (hro : R0 → ∀ b o, E.ro b o → E'.ro b o ∧ E'.cell b o = E.cell b o) (hmp : jS E E') {o : Bool} {x : AV} {v : Value} (h : VR E o x v) : R0 ∨ kR x = true → VR E' o (ren ρ x) v := by
 induction h with
 | any => exact fun _ => .any _ _
 | bool => exact fun _ => .bool _ _
 | int => exact fun _ => .int _ _ _
 | str => exact fun _ => .str _ _
 | nilp => exact fun _ => .nilp _
 | ptr id path a hid h =>
  intro _
  simp only [ren]
  split
  ·rename_i j hj
   obtain ⟨h1, h2⟩ := s.blk id j hj hid
   refine .ptr j path a h1 fun b' hb => ?_
   obtain ⟨b, hb0, hl, ho, _⟩ := h2 b' hb
   obtain ⟨k1, q, k2, k3, k4⟩ := h b hb0
   exact ⟨k1, q, ho _ _ k2, by rw [hl]; exact k3, by rw [hl]; exact k4⟩
  ·exact .any _ _
 | aptr id path st n a hid h =>
  intro _
  simp only [ren]
  split
  ·rename_i j hj
   obtain ⟨h1, h2⟩ := s.blk id j hj hid
   refine .aptr j path st n a h1 fun b' hb => ?_
   obtain ⟨b, hb0, hl, _, hr⟩ := h2 b' hb
   obtain ⟨k1, q, w, c, k2, k3⟩ := h b hb0
   exact ⟨k1, q, w, c, hr _ _ k2, by rw [hl]; exact k3⟩
  ·exact .any _ _
 | rptr o x a hf hs vv h hv ih =>
  intro hr
  rcases hr with hr | hr
  ·simp only [ren]
   have hno : ∀ (j : Nat) y, (zH x)[j]? = some y → VR E' false y (vv j) := fun j y hy => VR.roMono (hro hr) hmp (hv j y hy) rfl
   exact .rptr o x a hf hs vv (fun j y hy => ⟨(hro hr _ _ (h j y hy).1).1, (hro hr _ _ (h j y hy).1).2.trans (h j y hy).2⟩) hno
  ·simp [kR] at hr
 | snil => exact fun _ => .snil _
 | slice id path st len w a cap hid hc hs h =>
  intro _
  simp only [ren]
  split
  ·rename_i j hj
   obtain ⟨h1, h2⟩ := s.blk id j hj hid
   refine .slice j path st len w a cap h1 hc hs fun b' hb => ?_
   obtain ⟨b, hb0, hl, _, hr⟩ := h2 b' hb
   obtain ⟨q, c, k2, k3⟩ := h b hb0
   exact ⟨q, c, hr _ _ k2, by rw [hl]; exact k3⟩
  ·exact .any _ _
 | own id w len a cap hid hc h =>
  intro _
  simp only [ren]
  split
  ·rename_i j hj
   obtain ⟨h1, h2⟩ := s.blk id j hj hid
   refine .own j w len a cap h1 hc fun b' hb => ?_
   obtain ⟨b, hb0, hl, _, hr⟩ := h2 b' hb
   obtain ⟨k2, k3⟩ := h b hb0
   exact ⟨hr _ _ k2, by rw [hl]; exact k3⟩
  ·exact .any _ _
 | rints o k l a cap hc h =>
  intro hr
  rcases hr with hr | hr
  ·refine .rints o k l a cap hc fun i hi => ?_
   obtain ⟨ad, h1, h2, h3, h4⟩ := h i hi
   exact ⟨ad, h1, h2, (hro hr _ _ h3).1, (hro hr _ _ h3).2.trans h4⟩
  ·simp [kR] at hr
 | robjs o e w l a cap hc hw vv ha h hv ih =>
  intro hr
  rcases hr with hr | hr
  ·simp only [ren]
   exact .robjs o e w l a cap hc hw vv ha (fun ad i x j y h1 h2 h3 => ⟨(hro hr _ _ (h ad i x j y h1 h2 h3).1).1, (hro hr _ _ (h ad i x j y h1 h2 h3).1).2.trans (h ad i x j y h1 h2 h3).2⟩) fun i x j y h1 h2 => VR.roMono (hro hr) hmp (hv i x j y h1 h2) rfl
  ·simp [kR] at hr
 | agg o kids cs hf hs h ih =>
  intro hr
  have e : zG (zBg ρ kids) = (zG kids).map (ren ρ) := zEX ρ kids
  have hf' := zKI ρ hf
  simp only [ren] at hf' ⊢
  refine .agg o _ cs hf' (by rw [e, List.length_map]; exact hs) fun j x c h1 h2 => ?_
  rw [e, List.getElem?_map] at h1
  cases h3 : (zG kids)[j]? with
  | none => rw [h3] at h1; cases h1
  | some y =>
   rw [h3] at h1
   cases h1
   exact ih j y c h3 h2 (hr.imp_right fun hr => zCD (by simpa [kR] using hr) y (List.mem_of_getElem? h3))
 | ints o k n l h => exact fun _ => .ints o k n l h
 | tup o vs cs hs h ih =>
  intro hr
  simp only [ren, jE]
  refine .tup o _ cs (by rw [List.length_map]; exact hs) fun j x c h1 h2 => ?_
  rw [List.getElem?_map] at h1
  cases h3 : vs[j]? with
  | none => rw [h3] at h1; cases h1
  | some y =>
   rw [h3] at h1
   cases h1
   exact ih j y c h3 h2 (hr.imp_right fun hr => zBP (by simpa [kR] using hr) y (List.mem_of_getElem? h3))
 | fn o f xs ys as bs h1 h2 g1 g2 i1 i2 =>
  intro hr
  have hr' : R0 ∨ (zAK xs = true ∧ zAK ys = true) := hr.imp_right fun hr => by simpa [kR] using hr
  simp only [ren, jE]
  refine .fn o f _ _ as bs (by rw [List.length_map]; exact h1) (by rw [List.length_map]; exact h2) (fun j x c k1 k2 => ?_) (fun j x c k1 k2 => ?_)
  ·rw [List.getElem?_map] at k1
   cases k3 : xs[j]? with
   | none => rw [k3] at k1; cases k1
   | some y =>
    rw [k3] at k1
    cases k1
    exact i1 j y c k3 k2 (hr'.imp_right fun hr => zBP hr.1 y (List.mem_of_getElem? k3))
  ·rw [List.getElem?_map] at k1
   cases k3 : ys[j]? with
   | none => rw [k3] at k1; cases k1
   | some y =>
    rw [k3] at k1
    cases k1
    exact i2 j y c k3 k2 (hr'.imp_right fun hr => zBP hr.2 y (List.mem_of_getElem? k3))
 | nilf => exact fun _ => .nilf _
 | iface o t x v h ih => intro hr; simp only [ren]; exact .iface o t _ v (ih (by simpa [kR] using hr))
 | nili => exact fun _ => .nili _
 | raw o v h1 h2 => exact fun _ => .raw _ _ h1 h2
 | errv o tF ts k v h => 
  intro hr
  rcases hr with hr | hr
  ·exact .errv _ _ _ _ _ (h.ro (hro hr))
  ·simp [kR] at hr
 | rmap o l r es c hr0 hh hs hst hl hk hv ihk ihv =>
  intro hr
  rcases hr with hr | hr
  ·exact .rmap o l r es c (hro hr _ _ hr0).1 (hmp _ _ _ hr0 hh) hs hst hl (fun j e k v h1 h2 => VR.roMono (hro hr) hmp (hk j e k v h1 h2) rfl) fun j e k v h1 h2 => VR.roMono (hro hr) hmp (hv j e k v h1 h2) rfl
  ·simp [kR] at hr
 | mown id r hid h =>
  intro _
  simp only [ren]
  split
  ·rename_i j hj
   obtain ⟨h1, h2⟩ := s.blk id j hj hid
   refine .mown j r h1 fun b' hb => ?_
   obtain ⟨b, hb0, hl, _, hr⟩ := h2 b' hb
   obtain ⟨k2, k3⟩ := h b hb0
   exact ⟨hr _ _ k2, by rw [hl]; exact k3⟩
  ·exact .any _ _
end
end Go.Abs
end
section
set_option linter.unusedVariables false
set_option linter.unusedSimpArgs false
namespace Go.Abs
open Go
theorem wJ (bl : zC) : ∀ (f : Nat) (todo acc : List Nat), acc.Nodup → (∀ i ∈ acc, i < bl.length) → (yY bl f todo acc).Nodup ∧ ∀ i ∈ yY bl f todo acc, i < bl.length
 | 0, _, acc, h, k => ⟨h, k⟩
 | f + 1, [], acc, h, k => ⟨h, k⟩
 | f + 1, i :: r, acc, h, k => by
  unfold yY
  split
  ·exact wJ bl f r acc h k
  ·rename_i hc
   simp at hc
   refine wJ bl f _ _ ?_ ?_
   ·rw [List.nodup_append]
    exact ⟨h, by simp, fun a ha b hb => by simp at hb; subst hb; intro e; subst e; exact hc.1 ha⟩
   ·intro j hj
    rcases List.mem_append.1 hj with hj | hj
    ·exact k j hj
    ·simp at hj; subst hj; exact hc.2
theorem zMe : ∀ (l : List Nat) (n i j : Nat), pos.go i l n = some j → n ≤ j ∧ l[j - n]? = some i
 | [], n, i, j, h => by cases h
 | x :: r, n, i, j, h => by
  unfold pos.go at h
  split at h
  ·rename_i e
   cases h
   simp [e]
  ·have := zMe r (n + 1) i j h
   refine ⟨by omega, ?_⟩
   rw [show j - n = (j - (n + 1)) + 1 by omega, List.getElem?_cons_succ]
   exact this.2
theorem zIR {l : List Nat} {i j : Nat} (h : pos l i = some j) : l[j]? = some i := by
 have := (zMe l 0 i j h).2
 simpa using this
def Env.lend (E : Env) (lent : List Nat) (looks : Bool) : Env :=
 {w := E.w
  ro := fun b o => E.ro b o ∨ (looks = true ∧ ∃ id blk, id ∉ lent ∧ zF E.bl id = some blk ∧ yA E id b o)
  loc := fun j => E.loc (lent.getD j 0)
  bl := lent.map fun i => (zF E.bl i).map (qG (pos lent)) }
theorem jG {E : Env} {lent : List Nat} {looks : Bool} {j : Nat} {b' : Blk} (h : zF (E.lend lent looks).bl j = some b') :
  ∃ id b, lent[j]? = some id ∧ zF E.bl id = some b ∧ b' = qG (pos lent) b ∧ (E.lend lent looks).loc j = E.loc id := by
 have hl := z4 h
 simp only [Env.lend, List.length_map] at hl
 simp only [Env.lend, zF, List.getD_eq_getElem?_getD, List.getElem?_map] at h
 rw [List.getElem?_eq_getElem hl] at h
 simp only [Option.map_some, Option.getD_some] at h
 cases hb : zF E.bl lent[j] with
 | none => rw [show (E.bl[lent[j]]?.getD none) = zF E.bl lent[j] by simp [zF], hb] at h; cases h
 | some b =>
  rw [show (E.bl[lent[j]]?.getD none) = zF E.bl lent[j] by simp [zF], hb] at h
  cases h
  exact ⟨lent[j], b, List.getElem?_eq_getElem hl, hb, rfl, by simp [Env.lend, hl]⟩
theorem Turn.lend {E : Env} {lent : List Nat} {looks : Bool} (hl : ∀ i ∈ lent, i < E.bl.length) : Turn E (E.lend lent looks) (pos lent) := by
 refine ⟨fun id j hj hid => ⟨?_, fun b' hb => ?_⟩⟩
 ·have := zIR hj
  have := (List.getElem?_eq_some_iff.1 this).1
  simpa [Env.lend] using this
 ·obtain ⟨id', b, h1, h2, rfl, h3⟩ := jG hb
  rw [zIR hj] at h1
  cases h1
  exact ⟨b, h2, h3, fun p q h => by rw [zAI]; exact h, fun p r h => by rw [zAD]; exact h⟩
theorem zAH {E : Env} {lent : List Nat} {looks : Bool} {b o : Nat} (h : Own (E.lend lent looks) b o) : ∃ id blk, id ∈ lent ∧ zF E.bl id = some blk ∧ yA E id b o := by
 obtain ⟨j, b', hb, hx⟩ := h
 obtain ⟨id, blk, h1, h2, h3, h4⟩ := jG hb
 unfold yA at hx
 rw [h4] at hx
 exact ⟨id, blk, List.mem_of_getElem? h1, h2, hx⟩
theorem wU {E : Env} {lent : List Nat} {looks : Bool} : True → ∀ b o, E.ro b o → (E.lend lent looks).ro b o ∧ (E.lend lent looks).cell b o = E.cell b o :=
 fun _ b o h => ⟨.inl h, rfl⟩
theorem Mem.lend {E : Env} {lent : List Nat} {looks : Bool} (m : Mem E) (hl : ∀ i ∈ lent, i < E.bl.length) (hn : lent.Nodup) : Mem (E.lend lent looks) := by
 refine ⟨fun j b' hb => ?_, fun i j bi bj hij hi hj b o hx hy => ?_, fun b o h => ?_, fun b o ho h => ?_⟩
 ·obtain ⟨id, blk, h1, h2, rfl, h4⟩ := jG hb
  have k := m.ok id blk h2
  refine ⟨zJq k.fit, by rw [zDb k.fit, List.length_map, h4]; exact k.len, fun i x hx => ?_, fun hm i hi => ?_, fun l hl => ?_⟩
  ·rw [zDb k.fit, List.getElem?_map] at hx
   cases hy : (zJ blk)[i]? with
   | none => rw [hy] at hx; cases hx
   | some y =>
    rw [hy] at hx
    cases hx
    obtain ⟨v, h5, h6⟩ := k.cells i y hy
    exact ⟨v, by rw [h4]; exact h5, VR.turn (Turn.lend hl) wU (fun _ _ _ _ h => h) h6 (.inl trivial)⟩
  ·rw [h4] at hi ⊢
   rw [zJi] at hm
   exact k.room hm i hi
  ·rw [h4]
   have := k.mp l (zMn hl)
   exact ⟨this.1, this.2.to (wU trivial) (fun _ _ _ _ h => h) rfl⟩
 ·obtain ⟨id, blk, h1, h2, _, h4⟩ := jG hi
  obtain ⟨id', blk', k1, k2, _, k4⟩ := jG hj
  unfold yA at hx hy
  rw [h4] at hx
  rw [k4] at hy
  refine m.dis id id' blk blk' (fun e => ?_) h2 k2 b o hx hy
  subst e
  exact hij ((List.getElem?_inj (List.getElem?_eq_some_iff.1 h1).1 hn).1 (h1.trans k1.symm))
 ·rcases h with h | ⟨_, id, blk, _, h2, h3⟩
  ·exact m.roe b o h
  ·exact m.own_lt ⟨id, blk, h2, h3⟩
 ·obtain ⟨id, blk, h1, h2, h3⟩ := zAH ho
  rcases h with h | ⟨_, id', blk', k1, k2, k3⟩
  ·exact m.rod b o ⟨id, blk, h2, h3⟩ h
  ·exact m.dis id id' blk blk' (fun e => k1 (e ▸ h1)) h2 k2 b o h3 k3
theorem zAW (ρ : Nat → Option Nat) : ∀ (lent : List Nat) (out bl : zC), lent.Nodup → (∀ i ∈ lent, i < bl.length) → lent.length ≤ out.length →
  (z8 ρ lent out bl).length = bl.length + (out.length - lent.length) ∧
  (∀ i, i < bl.length → i ∉ lent → zF (z8 ρ lent out bl) i = zF bl i) ∧
  (∀ (j : Nat) i, lent[j]? = some i → zF (z8 ρ lent out bl) i = (zF out j).map (qG ρ)) ∧
  ∀ j, zF (z8 ρ lent out bl) (bl.length + j) = (zF out (lent.length + j)).map (qG ρ)
 | [], out, bl, _, _, _ => by
  unfold z8
  refine ⟨by simp, fun i hi _ => kC hi, fun j i h => by simp at h, fun j => ?_⟩
  simp only [zF, List.getD_eq_getElem?_getD]
  rw [List.getElem?_append_right (by omega)]
  simp only [Nat.add_sub_cancel_left, List.getElem?_map, List.length_nil, Nat.zero_add]
  cases out[j]? <;> rfl
 | i :: is, [], bl, _, _, hl => by simp at hl
 | i :: is, b :: out, bl, hn, hb, hl => by
  unfold z8
  rw [List.nodup_cons] at hn
  obtain ⟨h1, h2, h3, h4⟩ := zAW ρ is out (bl.set i (b.map (qG ρ))) hn.2 (fun j hj => by simpa using hb j (by simp [hj])) (by simpa using hl)
  have hi : i < bl.length := hb i (by simp)
  refine ⟨by simpa using h1, fun k hk hm => ?_, fun j k hj => ?_, fun j => ?_⟩
  ·simp only [List.mem_cons, not_or] at hm
   rw [h2 k (by simpa using hk) hm.2, yH (fun e => hm.1 e.symm)]
  ·cases j with
   | zero =>
    simp at hj
    subst hj
    rw [h2 i (by simpa using hi) hn.1, yE hi]
    rfl
   | succ j =>
    rw [h3 j k (by simpa using hj)]
    simp [zF]
  ·have := h4 j
   simp only [List.length_set] at this
   rw [this]
   simp [zF, Nat.succ_add]
def Env.back (E E2 : Env) (lent : List Nat) (looks : Bool) (out : zC) : Env :=
 {w := E2.w
  ro := fun b o => if looks = true then E.ro b o else E2.ro b o
  loc := fun i => if i < E.bl.length then E.loc i else E2.loc (lent.length + (i - E.bl.length))
  bl := z8 (z1 lent E.bl.length) lent out E.bl }
structure BackIn (E E2 : Env) (lent : List Nat) (looks : Bool) (out : zC) : Prop where
 m : Mem E
 hl : ∀ i ∈ lent, i < E.bl.length
 hn : lent.Nodup
 go : Go (E.lend lent looks) E2
 bl : E2.bl = out
 rf : looks = true → wR out = true
 nf : jL E.bl lent = true
theorem zCp : ∀ {out : zC} {j : Nat} {b : Blk}, wR out = true → zF out j = some b → (∃ v, b = .var v ∧ kR v = true) ∨ (∃ k l, b = .ints k l) ∨ b = .free
 | [], j, b, _, h => by simp [zF] at h
 | x :: r, 0, b, hr, h => by
  simp [zF] at h
  subst h
  unfold wR at hr
  split at hr
  ·rename_i heq; cases heq
  ·rename_i heq
   injection heq with h1 h2
   injection h1 with h1
   subst h1
   simp at hr
   exact .inl ⟨_, rfl, hr.1⟩
  ·cases hr
  ·cases hr
  ·rename_i h1 h2 h2' heq
   injection heq with h3 h4
   subst h3
   cases b with
   | mp l => exact absurd rfl (h2' l)
   | free => exact .inr (.inr rfl)
   | var v => exact absurd rfl (h1 v)
   | ints k l => exact .inr (.inl ⟨k, l, rfl⟩)
   | objs e w l => exact absurd rfl (h2 e w l)
 | x :: r, j + 1, b, hr, h => by
  have h' : zF r j = some b := by simpa [zF] using h
  refine zCp (out := r) (j := j) ?_ h'
  unfold wR at hr
  split at hr
  ·rename_i heq; cases heq
  ·rename_i heq
   injection heq with h1 h2
   subst h2
   simp at hr
   exact hr.2
  ·cases hr
  ·cases hr
  ·rename_i heq
   injection heq with h3 h4
   subst h4
   exact hr
theorem zHS {b : Blk} (h : (∃ v, b = .var v ∧ kR v = true) ∨ (∃ k l, b = .ints k l) ∨ b = .free) : ∀ y ∈ zJ b, kR y = true := by
 rcases h with ⟨v, rfl, h⟩ | ⟨k, l, rfl⟩ | rfl
 rotate_left 2
 ·intro y hy; simp [zJ] at hy
 ·exact zGn h
 ·intro y hy
  simp [zJ] at hy
  obtain ⟨z, _, rfl⟩ := hy
  rfl
theorem BackIn.old {E E2 : Env} {lent : List Nat} {looks : Bool} {out : zC} (B : BackIn E E2 lent looks out) {j : Nat} (hj : j < (E.lend lent looks).bl.length) {b2 : Blk} (hb : zF E2.bl j = some b2) :
  ∃ blk, zF (E.lend lent looks).bl j = some blk ∧ E2.loc j = (E.lend lent looks).loc j ∧ (∀ p q, yS blk p = some q → yS b2 p = some q) ∧ (∀ p r, zZ blk p = some r → zZ b2 p = some r) := by
 rcases B.go.step.blk j hj b2 hb with hf | h
 ·obtain ⟨id, b, h1, h2, h3, _⟩ := jG hf
  have : b = .free := by cases b <;> simp [qG] at h3 ⊢
  subst this
  have := List.all_eq_true.1 B.nf id (List.mem_of_getElem? h1)
  simp [h2] at this
 ·exact h
theorem zBB {E E2 : Env} {lent : List Nat} {looks : Bool} {out : zC} (B : BackIn E E2 lent looks out) {i : Nat} {b : Blk} (h : zF (E.back E2 lent looks out).bl i = some b) :
  (i ∉ lent ∧ zF E.bl i = some b ∧ (E.back E2 lent looks out).loc i = E.loc i) ∨
  ∃ j b2, zF out j = some b2 ∧ b = qG (z1 lent E.bl.length) b2 ∧ (E.back E2 lent looks out).loc i = E2.loc j ∧
   ((lent[j]? = some i ∧ i < E.bl.length ∧ E2.loc j = E.loc i) ∨ (lent.length ≤ j ∧ i = E.bl.length + (j - lent.length))) := by
 have hlo : lent.length ≤ out.length := by
  have := B.go.step.len
  rw [B.bl] at this
  simpa [Env.lend] using this
 obtain ⟨h1, h2, h3, h4⟩ := zAW (z1 lent E.bl.length) lent out E.bl B.hn B.hl hlo
 rcases Nat.lt_or_ge i E.bl.length with hi | hi
 ·by_cases hm : i ∈ lent
  ·obtain ⟨j, hj⟩ := List.getElem?_of_mem hm
   have := h3 j i hj
   change zF (z8 _ _ _ _) i = some b at h
   rw [this] at h
   cases hb : zF out j with
   | none => rw [hb] at h; cases h
   | some b2 =>
    rw [hb] at h
    cases h
    have hjl : j < (E.lend lent looks).bl.length := by have := (List.getElem?_eq_some_iff.1 hj).1; simpa [Env.lend] using this
    obtain ⟨b1, k1, k2, _⟩ := B.old hjl (by rw [B.bl]; exact hb)
    obtain ⟨id, b0, g1, g2, g3, g4⟩ := jG k1
    rw [hj] at g1
    cases g1
    have e : E2.loc j = E.loc i := k2.trans g4
    exact .inr ⟨j, b2, hb, rfl, by simp [Env.back, hi, e], .inl ⟨hj, hi, e⟩⟩
  ·have := h2 i hi hm
   change zF (z8 _ _ _ _) i = some b at h
   rw [this] at h
   exact .inl ⟨hm, h, by simp [Env.back, hi]⟩
 ·have := h4 (i - E.bl.length)
  rw [show E.bl.length + (i - E.bl.length) = i by omega] at this
  change zF (z8 _ _ _ _) i = some b at h
  rw [this] at h
  cases hb : zF out (lent.length + (i - E.bl.length)) with
  | none => rw [hb] at h; cases h
  | some b2 =>
   rw [hb] at h
   cases h
   exact .inr ⟨_, b2, hb, rfl, by simp [Env.back, Nat.not_lt.2 hi], .inr ⟨by omega, by omega⟩⟩
theorem Turn.back {E E2 : Env} {lent : List Nat} {looks : Bool} {out : zC} (B : BackIn E E2 lent looks out) : Turn E2 (E.back E2 lent looks out) (z1 lent E.bl.length) := by
 have hlo : lent.length ≤ out.length := by
  have := B.go.step.len
  rw [B.bl] at this
  simpa [Env.lend] using this
 obtain ⟨h1, h2, h3, h4⟩ := zAW (z1 lent E.bl.length) lent out E.bl B.hn B.hl hlo
 refine ⟨fun id j hj hid => ?_⟩
 rw [B.bl] at hid
 unfold z1 at hj
 split at hj
 ·rename_i hlt
  have hjE := B.hl j (List.mem_of_getElem? hj)
  refine ⟨by show j < (z8 _ _ _ _).length; rw [h1]; omega, fun b' hb => ?_⟩
  change zF (z8 _ _ _ _) j = some b' at hb
  rw [h3 id j hj] at hb
  cases ho : zF out id with
  | none => rw [ho] at hb; cases hb
  | some b2 =>
   rw [ho] at hb
   cases hb
   have hjl : id < (E.lend lent looks).bl.length := by simpa [Env.lend] using hlt
   obtain ⟨b1, k1, k2, _⟩ := B.old hjl (by rw [B.bl]; exact ho)
   obtain ⟨i, b0, g1, g2, g3, g4⟩ := jG k1
   rw [hj] at g1
   cases g1
   exact ⟨b2, by rw [B.bl]; exact ho, by simp only [Env.back, hjE, if_true]; exact (k2.trans g4).symm, fun p q h => by rw [zAI]; exact h, fun p r h => by rw [zAD]; exact h⟩
 ·rename_i hlt
  cases hj
  refine ⟨by show _ < (z8 _ _ _ _).length; rw [h1]; omega, fun b' hb => ?_⟩
  change zF (z8 _ _ _ _) _ = some b' at hb
  rw [h4, show lent.length + (id - lent.length) = id by omega] at hb
  cases ho : zF out id with
  | none => rw [ho] at hb; cases hb
  | some b2 =>
   rw [ho] at hb
   cases hb
   exact ⟨b2, by rw [B.bl]; exact ho, by simp only [Env.back]; rw [if_neg (by omega), show lent.length + (E.bl.length + (id - lent.length) - E.bl.length) = id by omega], fun p q h => by rw [zAI]; exact h, fun p r h => by rw [zAD]; exact h⟩
theorem Fr.back {E E2 : Env} {lent : List Nat} {looks : Bool} {out : zC} (B : BackIn E E2 lent looks out) : Fr E (E.back E2 lent looks out) := by
 have f := B.go.fr
 have ol : ∀ b o, Own (E.lend lent looks) b o → Own E b o := fun b o h => let ⟨id, blk, _, h2, h3⟩ := zAH h; ⟨id, blk, h2, h3⟩
 have o2 : ∀ b o, Own E2 b o → Own E b o ∨ E.w.heap.size ≤ b := fun b o h => (f.own b o h).imp (ol b o) id
 refine ⟨f.os, f.tape, f.output, f.size, fun b o hb hn => f.cell b o hb fun h => hn (ol b o h), fun b hb hn => f.blk b hb fun o h => hn o (ol b o h),
  fun b o hb hn => f.frz b o hb fun h => hn (ol b o h), fun b o h => ?_, fun b o h => ?_, fun b o h => ?_⟩
 ·obtain ⟨i, bk, hb, hx⟩ := h
  unfold yA at hx
  rcases zBB B hb with ⟨_, h2, h3⟩ | ⟨j, b2, h2, _, h3, _⟩
  ·rw [h3] at hx
   exact .inl ⟨i, bk, h2, hx⟩
  ·rw [h3] at hx
   exact o2 b o ⟨j, b2, by rw [B.bl]; exact h2, hx⟩
 ·simp only [Env.back] at h
  split at h
  ·exact .inl h
  ·rename_i hk
   rcases f.roi b o h with h | h | h
   ·rcases h with h | ⟨h, _⟩
    ·exact .inl h
    ·exact absurd h hk
   ·exact .inr (.inl (ol b o h))
   ·exact .inr (.inr h)
 ·simp only [Env.back]
  split
  ·exact h
  ·exact f.rom b o (.inl h)
theorem Go.back {E E2 : Env} {lent : List Nat} {looks : Bool} {out : zC} (B : BackIn E E2 lent looks out) : Go E (E.back E2 lent looks out) := by
 have f := B.go.fr
 have fr := Fr.back B
 have hlo : lent.length ≤ out.length := by
  have := B.go.step.len
  rw [B.bl] at this
  simpa [Env.lend] using this
 obtain ⟨h1, h2, h3, h4⟩ := zAW (z1 lent E.bl.length) lent out E.bl B.hn B.hl hlo
 have st : Step E (E.back E2 lent looks out) := .of_fr B.m fr (by show _ ≤ (z8 _ _ _ _).length; rw [h1]; omega) fun id hid blk' hb => by
  rcases zBB B hb with ⟨_, g2, g3⟩ | ⟨j, b2, g2, rfl, g3, g4⟩
  ·exact ⟨blk', g2, g3, fun _ _ h => h, fun _ _ h => h⟩
  ·rcases g4 with ⟨g4, _, g5⟩ | ⟨_, g4⟩
   ·have hjl : j < (E.lend lent looks).bl.length := by have := (List.getElem?_eq_some_iff.1 g4).1; simpa [Env.lend] using this
    obtain ⟨b1, k1, k2, k3, k4⟩ := B.old hjl (by rw [B.bl]; exact g2)
    obtain ⟨i, b0, e1, e2, rfl, e4⟩ := jG k1
    rw [g4] at e1
    cases e1
    refine ⟨b0, e2, g3.trans g5, fun p q h => ?_, fun p r h => ?_⟩
    ·rw [zAI]
     exact k3 p q (by rw [zAI]; exact h)
    ·rw [zAD]
     exact k4 p r (by rw [zAD]; exact h)
   ·omega
 have ro2 : ∀ b o, (E.back E2 lent looks out).ro b o → E2.ro b o := fun b o h => by
  simp only [Env.back] at h
  split at h
  ·exact f.rom b o (.inl h)
  ·exact h
 have nl : ∀ id blk, id ∉ lent → zF E.bl id = some blk → ∀ b o, yA E id b o → ¬ Own (E.lend lent looks) b o := fun id blk hm hb b o hx ho => by
  obtain ⟨id', blk', k1, k2, k3⟩ := zAH ho
  exact B.m.dis id id' blk blk' (fun e => hm (e ▸ k1)) hb k2 b o hx k3
 refine ⟨st, fr, ⟨fun i bk hb => ?_, fun i j bi bj hij hi hj b o hx hy => ?_, fun b o h => B.go.mem.roe b o (ro2 b o h), fun b o ho h => ?_⟩⟩
 ·rcases zBB B hb with ⟨g1, g2, g3⟩ | ⟨j, b2, g2, rfl, g3, g4⟩
  ·have k := B.m.ok i bk g2
   have same : ∀ j, j < (E.loc i).2.2 → ¬ Own (E.lend lent looks) (E.loc i).1 ((E.loc i).2.1 + j) := fun j hj => nl i bk g1 g2 _ _ ⟨rfl, by omega, by omega⟩
   refine ⟨k.fit, by rw [g3]; exact k.len, fun j x hx => ?_, fun hm j hj => ?_, fun l hl => ?_⟩
   ·obtain ⟨v, e1, e2⟩ := k.cells j x hx
    have hj : j < (E.loc i).2.2 := by have := (List.getElem?_eq_some_iff.1 hx).1; have := k.len; omega
    rw [g3]
    exact ⟨v, (f.cell _ _ (k7 (by show (E.cell _ _).isSome = true; rw [e1]; rfl)) (same j hj)).trans e1, e2.mono st⟩
   ·rw [g3] at hj ⊢
    have e := k.room hm j hj
    have hlt := k7 e.1
    exact ⟨by rw [show (E.back E2 lent looks out).cell _ _ = _ from f.cell _ _ hlt (same j hj)]; exact e.1, (f.frz _ _ hlt (same j hj)).trans e.2⟩
   ·rw [g3]
    subst hl
    have := k.mp l rfl
    refine ⟨this.1, this.2.mono st (f.blk _ this.2.lt fun o ho => ?_)⟩
    obtain ⟨id', blk', k1, k2, k3⟩ := zAH ho
    exact g1 (B.m.mp_alone g2 k2 k3 ▸ k1)
  ·have k := B.go.mem.ok j b2 (by rw [B.bl]; exact g2)
   refine ⟨zJq k.fit, by rw [zDb k.fit, List.length_map, g3]; exact k.len, fun n x hx => ?_, fun hm n hn => by rw [g3] at hn ⊢; rw [zJi] at hm; exact k.room hm n hn, fun l hl => ?_⟩
   rotate_left
   ·rw [g3]
    have hl2 := zMn hl
    have := k.mp l hl2
    have hk : looks ≠ true := fun hk => by
     rcases zCp (B.rf hk) g2 with ⟨v, e, _⟩ | ⟨k, l, e⟩ | e <;> rw [hl2] at e <;> cases e
    exact ⟨this.1, MapAt.to (E := E2) (E' := E.back E2 lent looks out) (fun b o (h : E2.ro b o) => ⟨by simp only [Env.back, if_neg hk]; exact h, rfl⟩) (fun _ _ _ _ h => h) rfl this.2⟩
   rw [zDb k.fit, List.getElem?_map] at hx
   cases hy : (zJ b2)[n]? with
   | none => rw [hy] at hx; cases hx
   | some y =>
    rw [hy] at hx
    cases hx
    obtain ⟨v, e1, e2⟩ := k.cells n y hy
    rw [g3]
    refine ⟨v, e1, VR.turn (R0 := looks ≠ true) (Turn.back B) (fun hk b o h => ⟨by simp only [Env.back, hk, if_false]; exact h, rfl⟩) (fun _ _ _ _ h => h) e2 ?_⟩
    by_cases hk : looks = true
    ·exact .inr (zHS (zCp (B.rf hk) g2) y (List.mem_of_getElem? hy))
    ·exact .inl hk
 ·unfold yA at hx hy
  rcases zBB B hi with ⟨g1, g2, g3⟩ | ⟨n, b2, g2, _, g3, g4⟩ <;> rcases zBB B hj with ⟨e1, e2, e3⟩ | ⟨k, c2, e2, _, e3, e4⟩
  ·rw [g3] at hx
   rw [e3] at hy
   exact B.m.dis i j bi bj hij g2 e2 b o hx hy
  ·rw [g3] at hx
   rw [e3] at hy
   rcases f.own b o ⟨k, c2, by rw [B.bl]; exact e2, hy⟩ with h | h
   ·exact nl i bi g1 g2 b o hx h
   ·have := B.m.own_lt ⟨i, bi, g2, hx⟩
    change E.w.heap.size ≤ b at h
    omega
  ·rw [g3] at hx
   rw [e3] at hy
   rcases f.own b o ⟨n, b2, by rw [B.bl]; exact g2, hx⟩ with h | h
   ·exact nl j bj e1 e2 b o hy h
   ·have := B.m.own_lt ⟨j, bj, e2, hy⟩
    change E.w.heap.size ≤ b at h
    omega
  ·rw [g3] at hx
   rw [e3] at hy
   refine B.go.mem.dis n k b2 c2 (fun e => hij ?_) (by rw [B.bl]; exact g2) (by rw [B.bl]; exact e2) b o hx hy
   subst e
   rcases g4 with ⟨g4, _⟩ | ⟨g4, g5⟩ <;> rcases e4 with ⟨e4, _⟩ | ⟨e4, e5⟩
   ·exact Option.some.inj (g4.symm.trans e4)
   ·have := (List.getElem?_eq_some_iff.1 g4).1
    omega
   ·have := (List.getElem?_eq_some_iff.1 e4).1
    omega
   ·omega
 ·obtain ⟨i, bk, hb, hx⟩ := ho
  unfold yA at hx
  rcases zBB B hb with ⟨g1, g2, g3⟩ | ⟨j, b2, g2, _, g3, _⟩
  ·rw [g3] at hx
   simp only [Env.back] at h
   split at h
   ·exact B.m.rod b o ⟨i, bk, g2, hx⟩ h
   ·rename_i hk
    rcases f.roi b o h with h | h | h
    ·rcases h with h | ⟨h, _⟩
     ·exact B.m.rod b o ⟨i, bk, g2, hx⟩ h
     ·exact absurd h hk
    ·exact nl i bk g1 g2 b o hx h
    ·have := B.m.own_lt ⟨i, bk, g2, hx⟩
     change E.w.heap.size ≤ b at h
     omega
  ·rw [g3] at hx
   exact B.go.mem.rod b o ⟨j, b2, by rw [B.bl]; exact g2, hx⟩ (ro2 b o h)
end Go.Abs
end
section
set_option linter.unusedVariables false
set_option linter.unusedSimpArgs false
namespace Go.Abs
open Go
mutual
theorem jU (bl : zC) : ∀ {x : AV}, zR x = true → yQ bl x = some x
 | .agg kids, h => by unfold yQ; rw [wX bl (by simpa [zR] using h)]
 | .tup kids, h => by unfold yQ; rw [wX bl (by simpa [zR] using h)]
 | .fn f a b, h => by
  simp only [zR, Bool.and_eq_true] at h
  unfold yQ; rw [wX bl h.1, wX bl h.2]
 | .iface t v, h => by unfold yQ; rw [jU bl (by simpa [zR] using h)]
 | .any, _ | .bool _, _ | .int _ _, _ | .str _, _ | .nilp, _ | .rptr _, _ | .snil, _ | .rints _ _, _ | .robjs _ _ _, _ | .ints _ _ _, _ | .nilf, _ | .nili, _ | .raw _, _ | .errv _ _ _, _ | .rmap _, _ => by simp [yQ]
 | .ptr _ _, h | .aptr _ _ _ _, h | .slice _ _ _ _ _, h | .own _ _, h => by simp [zR] at h
theorem wX (bl : zC) : ∀ {l : List AV}, kA l = true → wD bl l = some l
 | [], _ => rfl
 | x :: r, h => by
  simp only [kA, Bool.and_eq_true] at h
  unfold wD; rw [jU bl h.1, wX bl h.2]
end
theorem zBl (bl : zC) : ∀ {l l' : List AV}, wD bl l = some l' → l'.length = l.length ∧ ∀ (j : Nat) y, l'[j]? = some y → ∃ x, l[j]? = some x ∧ yQ bl x = some y
 | [], l', h => by cases h; exact ⟨rfl, fun j y h => by simp at h⟩
 | x :: r, l', h => by
  unfold wD at h
  split at h
  ·rename_i y r' h1 h2
   cases h
   obtain ⟨g1, g2⟩ := zBl bl h2
   refine ⟨by simp [g1], fun j z hz => ?_⟩
   cases j with
   | zero => simp at hz; subst hz; exact ⟨x, rfl, h1⟩
   | succ j => exact g2 j z (by simpa using hz)
  ·cases h
theorem zGQ (bl : zC) {x y : AV} (hx : zCj x) (h : yQ bl x = some y) : zCj y := by
 unfold yQ at h
 split at h
 all_goals try (exact absurd rfl (hx.1 _))
 all_goals (repeat' (split at h))
 all_goals (first | (cases h; done) | (cases h; exact hx) | (cases h; exact ⟨by simp, by simp⟩))
mutual
theorem zLs (bl : zC) : ∀ {x y : AV}, yQ bl x = some y → (zH y).length = (zH x).length ∧ width y = width x ∧ ∀ (j : Nat) z, (zH y)[j]? = some z → ∃ u, (zH x)[j]? = some u ∧ yQ bl u = some z
 | .agg kids, y, h => by
  unfold yQ at h
  split at h
  ·rename_i l hl
   cases h
   simpa only [zH, width] using zDz bl hl
  ·cases h
 | .ints k n l, y, h => by
  simp only [yQ] at h
  cases h
  refine ⟨rfl, rfl, fun j z hz => ⟨z, hz, ?_⟩⟩
  have := List.mem_of_getElem? hz
  simp only [zH, List.mem_map] at this
  obtain ⟨u, _, rfl⟩ := this
  simp [yQ]
 | .any, y, h | .tup _, y, h | .bool _, y, h | .int _ _, y, h | .str _, y, h | .nilp, y, h | .ptr _ _, y, h | .aptr _ _ _ _, y, h | .rptr _, y, h | .snil, y, h | .slice _ _ _ _ _, y, h | .own _ _, y, h
 | .rints _ _, y, h | .robjs _ _ _, y, h | .fn _ _ _, y, h | .nilf, y, h | .iface _ _, y, h | .nili, y, h | .raw _, y, h | .errv _ _ _, y, h | .rmap _, y, h => by
  have hy := (zGQ bl ⟨by simp, by simp⟩ h).one
  rw [hy.1, hy.2]
  refine ⟨by simp [zH], by simp [width], fun j z hz => ?_⟩
  cases j with
  | zero => simp at hz; subst hz; exact ⟨_, by simp [zH], h⟩
  | succ j => simp at hz
theorem zDz (bl : zC) : ∀ {l l' : List AV}, wD bl l = some l' → (zG l').length = (zG l).length ∧ zX l' = zX l ∧ ∀ (j : Nat) z, (zG l')[j]? = some z → ∃ u, (zG l)[j]? = some u ∧ yQ bl u = some z
 | [], l', h => by cases h; exact ⟨rfl, rfl, fun j z h => by simp [zG] at h⟩
 | x :: r, l', h => by
  unfold wD at h
  split at h
  ·rename_i y r' h1 h2
   cases h
   obtain ⟨a1, a2, a3⟩ := zLs bl h1
   obtain ⟨b1, b2, b3⟩ := zDz bl h2
   refine ⟨by simp [zG, a1, b1], by simp [zX, a2, b2], fun j z hz => ?_⟩
   simp only [zG] at hz ⊢
   rcases Nat.lt_or_ge j (zH y).length with hj | hj
   ·rw [List.getElem?_append_left hj] at hz
    rw [List.getElem?_append_left (by omega)]
    exact a3 j z hz
   ·rw [List.getElem?_append_right hj] at hz
    rw [List.getElem?_append_right (by omega), ← a1]
    exact b3 _ z hz
  ·cases h
end
theorem zME (bl : zC) {x : AV} (hf : Fit x) : ∀ {y : AV}, yQ bl x = some y → Fit y := by
 induction hf with
 | ints k n l h => intro y hy; simp only [yQ] at hy; cases hy; exact .ints _ _ _ h
 | agg kids h ih =>
  intro y hy
  unfold yQ at hy
  split at hy
  ·rename_i l hl
   cases hy
   refine .agg _ fun z hz => ?_
   obtain ⟨j, hj⟩ := List.getElem?_of_mem hz
   obtain ⟨x, h1, h2⟩ := (zBl bl hl).2 j z hj
   exact ih x (List.mem_of_getElem? h1) h2
  ·cases hy
 | leaf x h => intro y hy; exact .leaf _ (zGQ bl h hy)
structure Looks (E Ec : Env) (S : Nat → Prop) : Prop where
 ro : ∀ b o, E.ro b o → Ec.ro b o
 cell : ∀ b o, Ec.cell b o = E.cell b o
 own : ∀ id blk, S id → zF E.bl id = some blk → ∀ b o, yA E id b o → Ec.ro b o
 heap : ∀ r : Nat, Ec.w.heap[r]? = E.w.heap[r]?
theorem Looks.mp {E Ec : Env} {S : Nat → Prop} (L : Looks E Ec S) : jS E Ec := fun r _ _ _ h => (L.heap r).trans h
theorem zFW {E : Env} {k : IntKind} {l : List Int} {a : Option Addr} {n cap b o : Nat} (hn : n = l.length) (hc : n ≤ cap) (ha : l ≠ [] → a = some ⟨b, o, none⟩)
  (h : ∀ i, i < l.length → E.ro b (o + i) ∧ E.cell b (o + i) = some (.int k (l.getD i 0))) : VR E false (.rints k l) (.slice a n cap) := by
 subst hn
 refine .rints _ k l a cap hc fun i hi => ?_
 have hne : l ≠ [] := fun e => by subst e; simp at hi
 exact ⟨_, ha hne, rfl, (h i hi).1, (h i hi).2⟩
theorem zDk {l : List AV} {w : Nat} (h : ∀ x ∈ l, (Fit x ∧ width x = w) ∧ zR x = true ∧ solid x = true) {i j : Nat} {x y : AV} (hx : l[i]? = some x) (hy : (zH x)[j]? = some y) :
  (zG l)[i * w + j]? = some y := by
 rw [kJ hx]
 have hi := (List.getElem?_eq_some_iff.1 hx).1
 have e : (zG (l.take i)).length = i * w := by rw [yD fun x hx => h x (List.mem_of_mem_take hx)]; simp [Nat.min_eq_left (Nat.le_of_lt hi)]
 rw [List.getElem?_append_right (by omega), e, Nat.add_sub_cancel_left, List.getElem?_append_left (List.getElem?_eq_some_iff.1 hy).1]
 exact hy
theorem zFV {E : Env} {e w : Nat} {l : List AV} {a : Option Addr} {n cap b o : Nat} (hn : n = l.length) (hc : n ≤ cap) (hf : ∀ x ∈ l, (Fit x ∧ width x = w) ∧ zR x = true ∧ solid x = true)
  (ha : l ≠ [] → a = some ⟨b, o, none⟩) (h : ∀ (j : Nat) x, (zG l)[j]? = some x → E.ro b (o + j) ∧ ∃ c, E.cell b (o + j) = some c ∧ VR E false x c) : VR E false (.robjs e w l) (.slice a n cap) := by
 subst hn
 have hall : ∀ j, ∃ v, ∀ y, (zG l)[j]? = some y → E.cell b (o + j) = some v ∧ VR E false y v := fun j => by
  cases hy : (zG l)[j]? with
  | none => exact ⟨undef, fun y h => by simp at h⟩
  | some y => obtain ⟨_, v, h1, h2⟩ := h j y hy; exact ⟨v, fun z hz => by simp at hz; subst hz; exact ⟨h1, h2⟩⟩
 obtain ⟨vv, hvv⟩ := Classical.axiomOfChoice hall
 refine .robjs _ e w l a cap hc hf (fun i j => vv (i * w + j)) (fun hne => ⟨_, ha hne, rfl⟩) (fun ad i x j y had hx hy => ?_) fun i x j y hx hy => ?_
 ·have hne : l ≠ [] := fun e => by subst e; simp at hx
  have := ha hne
  rw [had] at this
  cases this
  have hj := zDk hf hx hy
  refine ⟨?_, ?_⟩
  ·simp only [Nat.add_assoc]; exact (h _ y hj).1
  ·simp only [Nat.add_assoc]; exact (hvv _ y hj).1
 ·exact (hvv _ y (zDk hf hx hy)).2
theorem zEh : ∀ {l : List AV} {x : AV} {i : Nat}, x ∈ l → i ∈ ids x → i ∈ qZ l
 | y :: r, x, i, hx, hi => by
  unfold qZ
  rcases List.mem_cons.1 hx with rfl | hx
  ·exact List.mem_append_left _ hi
  ·exact List.mem_append_right _ (zEh hx hi)
mutual
theorem zMw : ∀ {x y : AV} {i : Nat}, y ∈ zH x → i ∈ ids y → i ∈ ids x
 | .agg kids, y, i, hy, hi => by unfold ids; exact zDw (by simpa [zH] using hy) hi
 | .ints k n l, y, i, hy, hi => by
  simp only [zH, List.mem_map] at hy
  obtain ⟨z, _, rfl⟩ := hy
  simp [ids] at hi
 | .any, y, i, hy, hi | .tup _, y, i, hy, hi | .bool _, y, i, hy, hi | .int _ _, y, i, hy, hi | .str _, y, i, hy, hi | .nilp, y, i, hy, hi | .ptr _ _, y, i, hy, hi | .aptr _ _ _ _, y, i, hy, hi | .rptr _, y, i, hy, hi | .snil, y, i, hy, hi | .slice _ _ _ _ _, y, i, hy, hi | .own _ _, y, i, hy, hi
 | .rints _ _, y, i, hy, hi | .robjs _ _ _, y, i, hy, hi | .fn _ _ _, y, i, hy, hi | .nilf, y, i, hy, hi | .iface _ _, y, i, hy, hi | .nili, y, i, hy, hi | .raw _, y, i, hy, hi | .errv _ _ _, y, i, hy, hi | .rmap _, y, i, hy, hi => by
  simp only [zH, List.mem_singleton] at hy
  subst hy
  exact hi
theorem zDw : ∀ {l : List AV} {y : AV} {i : Nat}, y ∈ zG l → i ∈ ids y → i ∈ qZ l
 | x :: r, y, i, hy, hi => by
  unfold qZ
  simp only [zG, List.mem_append] at hy
  rcases hy with hy | hy
  ·exact List.mem_append_left _ (zMw hy hi)
  ·exact List.mem_append_right _ (zDw hy hi)
end
theorem zBm {E Ec : Env} {S : Nat → Prop} (L : Looks E Ec S) (m : Mem E) {id : Nat} {b : Blk} (hb : zF E.bl id = some b) (hs : S id) {j : Nat} {z : AV} (hz : (zJ b)[j]? = some z) (hn : zR z = true) :
  Ec.ro (E.loc id).1 ((E.loc id).2.1 + j) ∧ ∃ c, Ec.cell (E.loc id).1 ((E.loc id).2.1 + j) = some c ∧ VR Ec false z c := by
 have k := m.ok id b hb
 have hj := (List.getElem?_eq_some_iff.1 hz).1
 have := k.len
 refine ⟨L.own id b hs hb _ _ ⟨rfl, by omega, by omega⟩, ?_⟩
 obtain ⟨v, h1, h2⟩ := k.cells j z hz
 exact ⟨v, by rw [L.cell]; exact h1, VR.roMono (fun b o h => ⟨L.ro b o h, L.cell b o⟩) L.mp (h2.low hn) rfl⟩
theorem jB {E Ec : Env} {S : Nat → Prop} (L : Looks E Ec S) (m : Mem E) {o : Bool} {x : AV} {v : Value} (h : VR E o x v) :
  ∀ {y : AV}, yQ E.bl x = some y → (∀ i ∈ ids x, S i) → VR Ec false y v := by
 have leaf : ∀ {o : Bool} {x : AV} {v : Value}, VR E o x v → zR x = true → ∀ {y : AV}, yQ E.bl x = some y → VR Ec false y v := by
  intro o x v h hn y hy
  rw [jU _ hn] at hy
  cases hy
  exact VR.roMono (fun b o h => ⟨L.ro b o h, L.cell b o⟩) L.mp (h.low hn) rfl
 induction h with
 | any o v => intro y hy _; exact leaf (.any o v) rfl hy
 | bool o b => intro y hy _; exact leaf (.bool o b) rfl hy
 | int o k n => intro y hy _; exact leaf (.int o k n) rfl hy
 | str o s => intro y hy _; exact leaf (.str o s) rfl hy
 | nilp o => intro y hy _; exact leaf (.nilp o) rfl hy
 | rptr o x a hf hs vv h hv ih => intro y hy _; exact leaf (.rptr o x a hf hs vv h hv) rfl hy
 | snil o => intro y hy _; exact leaf (.snil o) rfl hy
 | rints o k l a cap hc h => intro y hy _; exact leaf (.rints o k l a cap hc h) rfl hy
 | robjs o e w l a cap hc hw vv ha h hv ih => intro y hy _; exact leaf (.robjs o e w l a cap hc hw vv ha h hv) rfl hy
 | ints o k n l h => intro y hy _; exact leaf (.ints o k n l h) rfl hy
 | nilf o => intro y hy _; exact leaf (.nilf o) rfl hy
 | nili o => intro y hy _; exact leaf (.nili o) rfl hy
 | raw o v h1 h2 => intro y hy _; exact leaf (.raw o v h1 h2) rfl hy
 | errv o tF ts k v h => intro y hy _; exact leaf (.errv o tF ts k v h) rfl hy
 | rmap o l r es c hr hh hs hst hl hk hv => intro y hy _; exact leaf (.rmap o l r es c hr hh hs hst hl hk hv) rfl hy
 | mown id r hid hh =>
  intro y hy hi
  have hs : S id := hi id (by simp [ids])
  unfold yQ at hy
  split at hy
  ·rename_i hb; have g := (hh _ hb).1; simp [zZ] at g
  ·rename_i hb; have g := (hh _ hb).1; simp [zZ] at g
  ·rename_i l hb
   cases hy
   obtain ⟨_, rfl⟩ := hh _ hb
   obtain ⟨_, es, c, h1, h2, h3, h4⟩ := (m.ok id _ hb).mp l rfl
   have low : ∀ {y : AV} {v : Value}, VR E false y v → VR Ec false y v := fun h => VR.roMono (fun b o h => ⟨L.ro b o h, L.cell b o⟩) L.mp h rfl
   exact .rmap _ l _ es c (L.own id _ hs hb _ _ (m.mp_own hb)) ((L.heap _).trans h1) h2 h3 (m.ok id _ hb).fit (fun j e k v he hl => low (h4 j e k v he hl).1) fun j e k v he hl => low (h4 j e k v he hl).2
  ·cases hy
 | aptr => intro y hy _; simp [yQ] at hy
 | agg o kids cs hf hs h ih =>
  intro y hy hi
  have hfy := zME _ hf hy
  unfold yQ at hy
  split at hy
  ·rename_i l hl
   cases hy
   obtain ⟨g1, g2, g3⟩ := zDz _ hl
   refine .agg _ _ cs hfy (by rw [g1]; exact hs) fun j z c h1 h2 => ?_
   obtain ⟨u, h3, h4⟩ := g3 j z h1
   exact ih j u c h3 h2 h4 fun i hi' => hi i (by unfold ids; exact zDw (List.mem_of_getElem? h3) hi')
  ·cases hy
 | tup o vs cs hs h ih =>
  intro y hy hi
  unfold yQ at hy
  split at hy
  ·rename_i l hl
   cases hy
   obtain ⟨g1, g2⟩ := zBl _ hl
   refine .tup _ _ cs (by rw [g1]; exact hs) fun j z c h1 h2 => ?_
   obtain ⟨u, h3, h4⟩ := g2 j z h1
   exact ih j u c h3 h2 h4 fun i hi' => hi i (by unfold ids; exact zEh (List.mem_of_getElem? h3) hi')
  ·cases hy
 | fn o f xs ys as bs h1 h2 g1 g2 i1 i2 =>
  intro y hy hi
  unfold yQ at hy
  split at hy
  ·rename_i l l' hl hl'
   cases hy
   obtain ⟨e1, e2⟩ := zBl _ hl
   obtain ⟨e3, e4⟩ := zBl _ hl'
   refine .fn _ f _ _ as bs (by rw [e1]; exact h1) (by rw [e3]; exact h2) (fun j z c k1 k2 => ?_) (fun j z c k1 k2 => ?_)
   ·obtain ⟨u, h3, h4⟩ := e2 j z k1
    exact i1 j u c h3 k2 h4 fun i hi' => hi i (by unfold ids; exact List.mem_append_left _ (zEh (List.mem_of_getElem? h3) hi'))
   ·obtain ⟨u, h3, h4⟩ := e4 j z k1
    exact i2 j u c h3 k2 h4 fun i hi' => hi i (by unfold ids; exact List.mem_append_right _ (zEh (List.mem_of_getElem? h3) hi'))
  ·cases hy
 | iface o t x v h ih =>
  intro y hy hi
  unfold yQ at hy
  split at hy
  ·rename_i l hl
   cases hy
   exact .iface _ t _ v (ih hl fun i hi' => hi i (by unfold ids; exact hi'))
  ·cases hy
 | ptr id path a hid h =>
  intro y hy hi
  have hs : S id := hi id (by simp [ids])
  unfold yQ at hy
  split at hy
  ·rename_i b hb
   split at hy
   ·rename_i x' hg
    split at hy
    ·rename_i hn
     cases hy
     obtain ⟨h1, q, h2, h3, h4⟩ := h b hb
     obtain ⟨f1, f2⟩ := zBu (m.ok id b hb).fit hg h2
     have hall : ∀ j, ∃ c, ∀ z, (zH x')[j]? = some z → Ec.ro a.block (a.off + j) ∧ Ec.cell a.block (a.off + j) = some c ∧ VR Ec false z c := fun j => by
      cases hz : (zH x')[j]? with
      | none => exact ⟨undef, fun y h => by simp at h⟩
      | some z =>
       obtain ⟨g1, c, g2, g3⟩ := zBm L m hb hs (f2 j z hz) (kY hn z (List.mem_of_getElem? hz))
       rw [← Nat.add_assoc, ← h3, ← h4] at g1 g2
       exact ⟨c, fun u hu => by simp at hu; subst hu; exact ⟨g1, g2, g3⟩⟩
     obtain ⟨vv, hvv⟩ := Classical.axiomOfChoice hall
     exact .rptr _ x' a f1 h1 vv (fun j z hz => ⟨(hvv j z hz).1, (hvv j z hz).2.1⟩) fun j z hz => (hvv j z hz).2.2
    ·cases hy
   ·cases hy
  ·cases hy
 | slice id path s len w a cap hid hc hsm hh =>
  intro y hy hi
  have hs : S id := hi id (by simp [ids])
  unfold yQ at hy
  split at hy
  ·rename_i _ _ k l hb
   cases hy
   obtain ⟨q, c, g1, g2, g3, g4⟩ := hh _ hb
   simp [zZ] at g1
   obtain ⟨rfl, rfl, rfl⟩ := g1
   refine zFW (b := (E.loc id).1) (o := (E.loc id).2.1 + s) (by simp; omega) hc (fun hne => ?_) fun i hi => ?_
   ·rcases g4 with rfl | rfl
    ·have := List.length_pos_iff.2 hne; simp at this; omega
    ·simp
   ·obtain ⟨e1, e2⟩ := wV l s len i hi
    obtain ⟨r1, v, h1, h2⟩ := zBm L m hb hs (j := s + i) (z := .int k (l.getD (s + i) 0)) (by simp [zJ, List.getElem?_eq_getElem e2]) rfl
    rw [Nat.add_assoc, e1, h1, h2.int_inv]
    exact ⟨r1, rfl⟩
  ·rename_i _ _ e w' l hb
   cases hy
   obtain ⟨q, c, g1, g2, g3, g4⟩ := hh _ hb
   simp [zZ] at g1
   obtain ⟨rfl, rfl, rfl⟩ := g1
   have ok := m.ok id _ hb
   have hfit : ∀ x ∈ (l.drop s).take len, (Fit x ∧ width x = w') ∧ zR x = true ∧ solid x = true := fun x hx => ok.fit x (List.mem_of_mem_drop (List.mem_of_mem_take hx))
   refine zFV (b := (E.loc id).1) (o := (E.loc id).2.1 + s * w') (by simp; omega) hc hfit (fun hne => ?_) fun j z hz => ?_
   ·rcases g4 with rfl | rfl
    ·have := List.length_pos_iff.2 hne; simp at this; omega
    ·simp
   ·obtain ⟨x, k1, k2⟩ := kW hfit hz
    rw [Nat.add_assoc]
    exact zBm L m hb hs (zDW ok.fit hz) (kY (hfit x (List.mem_of_getElem? k1)).2.1 z (List.mem_of_getElem? k2))
  ·rename_i _ _ v0 hb
   split at hy
   ·rename_i k n' l hg
    cases hy
    obtain ⟨q, c, g1, g2, g3, g4⟩ := hh _ hb
    obtain ⟨ho, rfl, rfl⟩ := zDP hg g1
    obtain ⟨f1, f2⟩ := zBu (blk := .var v0) (m.ok id _ hb).fit hg ho
    have hln := f1.len
    refine zFW (b := (E.loc id).1) (o := (E.loc id).2.1 + q + s) (by simp; omega) hc (fun hne => ?_) fun i hi => ?_
    ·rcases g4 with rfl | rfl
     ·have := List.length_pos_iff.2 hne; simp at this; omega
     ·simp
    ·obtain ⟨e1, e2⟩ := wV l s len i hi
     obtain ⟨r1, v, h1, h2⟩ := zBm L m hb hs (f2 (s + i) (.int k (l.getD (s + i) 0)) (by simp [zH, List.getElem?_eq_getElem e2])) rfl
     rw [Nat.add_assoc, Nat.add_assoc, e1, h1, h2.int_inv]
     exact ⟨r1, rfl⟩
   ·cases hy
  ·cases hy
 | own id w len a cap hid hc hh =>
  intro y hy hi
  have hs : S id := hi id (by simp [ids])
  unfold yQ at hy
  split at hy
  ·rename_i k l hb
   cases hy
   obtain ⟨g1, g2, g3⟩ := hh _ hb
   simp [zZ] at g1
   obtain ⟨_, rfl⟩ := g1
   refine zFW (b := (E.loc id).1) (o := (E.loc id).2.1) rfl hc (fun hne => ?_) fun i hi => ?_
   ·rcases g3 with rfl | rfl
    ·have := List.length_pos_iff.2 hne; omega
    ·rfl
   ·obtain ⟨r1, v, h1, h2⟩ := zBm L m hb hs (j := i) (z := .int k (l.getD i 0)) (by simp [zJ, List.getElem?_eq_getElem hi]) rfl
    rw [h1, h2.int_inv]
    exact ⟨r1, rfl⟩
  ·rename_i e w' l hb
   cases hy
   obtain ⟨g1, g2, g3⟩ := hh _ hb
   simp [zZ] at g1
   obtain ⟨_, rfl⟩ := g1
   have ok := m.ok id _ hb
   refine zFV (b := (E.loc id).1) (o := (E.loc id).2.1) rfl hc ok.fit (fun hne => ?_) fun j z hz => ?_
   ·rcases g3 with rfl | rfl
    ·have := List.length_pos_iff.2 hne; omega
    ·rfl
   ·obtain ⟨x, k1, k2⟩ := kW ok.fit hz
    exact zBm L m hb hs hz (kY (ok.fit x (List.mem_of_getElem? k1)).2.1 z (List.mem_of_getElem? k2))
  ·rename_i hb; have g := (hh _ hb).1; simp [zZ] at g
  ·cases hy
theorem qM : ∀ {S : List Nat} {bl : zC} {i : Nat} {b : Blk}, zF (yO S bl) i = some b → i ∉ S ∧ zF bl i = some b
 | [], _, _, _, h => ⟨by simp, h⟩
 | a :: r, bl, i, b, h => by
  obtain ⟨h1, h2⟩ := qM (S := r) (bl := bl.set a none) h
  obtain ⟨h3, h4⟩ := j5 h2
  exact ⟨by simp [h1, h3], h4⟩
theorem zCw : ∀ (S : List Nat) (bl : zC), (yO S bl).length = bl.length
 | [], _ => rfl
 | a :: r, bl => by rw [yO, zCw]; simp
def Env.frz (E : Env) (S : List Nat) : Env := { w := E.w, ro := fun b o => E.ro b o ∨ ∃ id blk, id ∈ S ∧ zF E.bl id = some blk ∧ yA E id b o, loc := E.loc, bl := yO S E.bl }
theorem zCC {E : Env} (m : Mem E) (S : List Nat) : Go E (E.frz S) := by
 have hown : ∀ b o, Own (E.frz S) b o → Own E b o := fun b o ⟨i, bi, h, hx⟩ => ⟨i, bi, (qM h).2, hx⟩
 have fr : Fr E (E.frz S) := ⟨rfl, rfl, rfl, Nat.le_refl _, fun _ _ _ _ => rfl, fun _ _ _ => rfl, fun _ _ _ _ => rfl, fun b o h => .inl (hown b o h), fun b o h => by
  rcases h with h | ⟨id, blk, _, hb, hx⟩
  ·exact .inl h
  ·exact .inr (.inl ⟨id, blk, hb, hx⟩), fun _ _ h => .inl h⟩
 have st : Step E (E.frz S) := .of_fr m fr (by simp [Env.frz, zCw]) fun i hi bi h => ⟨bi, (qM h).2, rfl, fun _ _ h => h, fun _ _ h => h⟩
 refine ⟨st, fr, ⟨fun i bi h => ?_, fun i j bi bj hij hi hj => m.dis i j bi bj hij (qM hi).2 (qM hj).2, fun b o h => ?_, fun b o ⟨i, bi, h, hx⟩ hr => ?_⟩⟩
 ·have k := m.ok i bi (qM h).2
  exact ⟨k.fit, k.len, fun j x hx => let ⟨v, h1, h2⟩ := k.cells j x hx; ⟨v, h1, h2.mono st⟩, k.rom, fun l hl => ⟨(k.mp l hl).1, (k.mp l hl).2.mono st rfl⟩⟩
 ·rcases h with h | ⟨id, blk, _, hb, h1, h2, h3⟩
  ·exact m.roe b o h
  ·exact m.own_lt ⟨id, blk, hb, h1, h2, h3⟩
 ·obtain ⟨h1, h2⟩ := qM h
  rcases hr with hr | ⟨id, blk, hs, hb, hy⟩
  ·exact m.rod b o ⟨i, bi, h2, hx⟩ hr
  ·exact m.dis i id bi blk (fun e => h1 (by rw [e]; exact hs)) h2 hb b o hx hy
theorem wM (E : Env) (S : List Nat) : Looks E (E.frz S) (· ∈ S) := ⟨fun _ _ h => .inl h, fun _ _ => rfl, fun id blk hs hb b o hx => .inr ⟨id, blk, hs, hb, hx⟩, fun _ => rfl⟩
theorem zDI {E : Env} {S : List Nat} (m : Mem E) : ∀ {ps : List (Nat × AV)} {vs : List (Nat × Value)} {ps' : List (Nat × AV)}, PartsR E ps vs → zHI E.bl ps = some ps' → (∀ i ∈ qZ (ps.map (·.2)), i ∈ S) → PartsR (E.frz S) ps' vs
 | _, _, ps', .nil, h, _ => by cases h; exact .nil
 | _, _, ps', .cons i x v r s hv ht, h, hS => by
  simp only [zHI] at h
  split at h <;> (try (cases h; done))
  rename_i y l hy hl
  cases h
  have hin : ∀ j ∈ ids x, j ∈ S := fun j hj => hS j (by simp only [List.map_cons]; unfold qZ; exact List.mem_append_left _ hj)
  have hin2 : ∀ j ∈ qZ (r.map (·.2)), j ∈ S := fun j hj => hS j (by simp only [List.map_cons]; unfold qZ; exact List.mem_append_right _ hj)
  exact .cons i y v l s ((jB (wM E S) m hv hy hin).lift) (zDI m ht hl hin2)
end Go.Abs
end
section
set_option linter.unusedVariables false
set_option linter.unusedSimpArgs false
namespace Go.Abs
open Go
def zAd (P : Program) (f : FuncId) (vs : Array Value) (w : World) (Q : Value → World → Prop) : Prop :=
 (∃ fn, P.funcs[f]? = some fn ∧ fn.name ≠ "runtime.NumGoroutine" ∧ fn.body.isNone = false ∧ Calls P f vs w fun e w' => ∃ v, e = .returned v ∧ Q v w') ∨
 ∃ v w', (callFunc f vs).run P w = .ok (.value v) w' ∧ Q v w'
theorem zAd.mono {P : Program} {f : FuncId} {vs : Array Value} {w : World} {Q Q' : Value → World → Prop} (h : zAd P f vs w Q) (hq : ∀ v w, Q v w → Q' v w) : zAd P f vs w Q' := by
 rcases h with ⟨fn, h1, h2, h3, h4⟩ | ⟨v, w', h1, h2⟩
 ·exact .inl ⟨fn, h1, h2, h3, h4.mono fun e w' ⟨v, hv, h⟩ => ⟨v, hv, hq v w' h⟩⟩
 ·exact .inr ⟨v, w', h1, hq v w' h2⟩
structure Args (E : Env) (xs : List AV) (vs : Array Value) : Prop where
 size : vs.size = xs.length
 vr : ∀ (j : Nat) x c, xs[j]? = some x → vs[j]? = some c → VR E true x c
def zNe (E : Env) (g ts : Nat) : Prop := ∃ (a : Addr) (ca : Array Value) (ta : TypeId), a.spot = none ∧ E.ro g 0 ∧ E.cell g 0 = some (.iface ts (.pointer (some a))) ∧ a.block < E.w.heap.size ∧ E.w.heap[a.block]? = some (.cells ca ta (0, 0)) ∧ ∀ o, ¬ Own E a.block o
structure Glob (G : Nat → AV) (E : Env) : Prop where
 vars : ∀ g, (match G g with | .any => True | x => VR E false (.rptr x) (.pointer (some ⟨g, 0, none⟩)))
 errs : ∀ g tF ts k, G g = .errv tF ts k → k = g ∧ zNe E g ts
 dif : ∀ g g' tF ts k tF' ts' k', G g = .errv tF ts k → G g' = .errv tF' ts' k' → g ≠ g' → ∀ u u' p, E.cell g 0 = some (.iface u p) → E.cell g' 0 = some (.iface u' p) → False
theorem Glob.plain {G : Nat → AV} {E : Env} (h : ∀ g, (match G g with | .any => True | x => VR E false (.rptr x) (.pointer (some ⟨g, 0, none⟩)))) (hn : ∀ g tF ts k, G g ≠ .errv tF ts k) : Glob G E :=
 ⟨h, fun g _ _ _ he => absurd he (hn g _ _ _), fun g _ _ _ _ _ _ _ he => absurd he (hn g _ _ _)⟩
def zNd (E E' : Env) : Prop := E.w.heap.size ≤ E'.w.heap.size ∧ ∀ b, b < E.w.heap.size → (∀ o, ¬ Own E b o) → E'.w.heap[b]? = E.w.heap[b]? ∧ ∀ o, ¬ Own E' b o
theorem Fr.keeps {E E' : Env} (f : Fr E E') : zNd E E' := ⟨f.size, fun b hb hn => ⟨f.blk b hb hn, fun o ho => by
 rcases f.own b o ho with h | h
 ·exact hn o h
 ·omega⟩⟩
theorem zGf {E : Env} {lent : List Nat} {looks : Bool} : zNd E (E.lend lent looks) := ⟨Nat.le_refl _, fun b hb hn => ⟨rfl, fun o ho => let ⟨id, blk, _, h2, h3⟩ := zAH ho; hn o ⟨id, blk, h2, h3⟩⟩⟩
theorem Glob.mono {G : Nat → AV} {E E' : Env} (hro : ∀ b o, E.ro b o → E'.ro b o ∧ E'.cell b o = E.cell b o) (hmp : jS E E') (hk : zNd E E') (h : Glob G E) : Glob G E' := by
 have cell : ∀ g tF ts k, G g = .errv tF ts k → E'.cell g 0 = E.cell g 0 := fun g tF ts k he => let ⟨_, a, ca, ta, _, h2, _⟩ := h.errs g tF ts k he; (hro _ _ h2).2
 refine ⟨fun g => ?_, fun g tF ts k he => ?_, fun g g' tF ts k tF' ts' k' h1 h2 hne u u' p c1 c2 => ?_⟩
 ·have := h.vars g
  split
  ·trivial
  ·rename_i x hx
   split at this
   ·rename_i he; exact absurd he hx
   ·exact VR.roMono hro hmp this rfl
 ·obtain ⟨e, a, ca, ta, h1, h2, h3, h4, h5, h6⟩ := h.errs g tF ts k he
  exact ⟨e, a, ca, ta, h1, (hro _ _ h2).1, (hro _ _ h2).2.trans h3, Nat.lt_of_lt_of_le h4 hk.1, (hk.2 _ h4 h6).1.trans h5, (hk.2 _ h4 h6).2⟩
 ·rw [cell g tF ts k h1] at c1
  rw [cell g' tF' ts' k' h2] at c2
  exact h.dif g g' _ _ _ _ _ _ h1 h2 hne u u' p c1 c2
def zEB (P : Program) (G : Nat → AV) (f : FuncId) (args : List AV) (lent : zC) (v : AV) (out : zC) : Prop :=
 ∀ (E : Env) (vs : Array Value), E.bl = lent → Mem E → Glob G E → Args E args vs → zAd P f vs E.w fun v' w' => ∃ E', E'.w = w' ∧ E'.bl = out ∧ Go E E' ∧ VR E' true v v'
def zE (P : Program) (G : Nat → AV) (f : FuncId) (m : Callee) : Prop :=
 ∀ args lent, (∀ (R : Type) (K : AV → zC → Option R), m.run args lent K = none) ∨ ∃ v out, (∀ (R : Type) (K : AV → zC → Option R), m.run args lent K = K v out) ∧ zEB P G f args lent v out
theorem zBR {E : Env} {lent : List Nat} {lk : Bool} (m : Mem E) (hl : ∀ i ∈ lent, i < E.bl.length) : ∀ {fs : List Bool} {xs ys : List AV} {b : Bool}, z6 E.bl lent fs xs = some (ys, b) → (b = true → lk = true) →
  ys.length = xs.length ∧ ∀ (j : Nat) y, ys[j]? = some y → ∃ x, xs[j]? = some x ∧ ∀ c, VR E true x c → VR (E.lend lent lk) true y c
 | fs, [], ys, b, h, hb => by
  cases fs with
  | nil => simp only [z6] at h; cases h; exact ⟨rfl, fun j y h => by simp at h⟩
  | cons f fs => cases f <;> simp only [z6] at h <;> (cases h; exact ⟨rfl, fun j y h => by simp at h⟩)
 | fs, x :: r, ys, b, h, hb => by
  have low : ∀ {f : List Bool}, (if ((ids x).all fun i => !lent.contains i) = true then
   (match yQ E.bl x, z6 E.bl lent f.tail r with | some y, some (l, b) => some (y :: l, b || !zR x) | _, _ => none) else none) = some (ys, b) →
   ys.length = (x :: r).length ∧ ∀ (j : Nat) y, ys[j]? = some y → ∃ z, (x :: r)[j]? = some z ∧ ∀ c, VR E true z c → VR (E.lend lent lk) true y c := by
   intro f h
   split at h
   ·rename_i hi
    split at h
    ·rename_i y l b' hy hr
     cases h
     obtain ⟨g1, g2⟩ := zBR m hl hr fun h => hb (by simp [h])
     refine ⟨by simp [g1], fun j z hz => ?_⟩
     cases j with
     | succ j => exact g2 j z (by simpa using hz)
     | zero =>
      simp at hz
      subst hz
      refine ⟨x, rfl, fun c hc => ?_⟩
      by_cases hn : zR x = true
      ·rw [jU _ hn] at hy
       cases hy
       exact (VR.roMono (wU trivial) (fun _ _ _ _ h => h) (hc.low hn) rfl).lift
      ·have hk : lk = true := hb (by simp [hn])
       refine (jB (Ec := E.lend lent lk) (S := fun i => i ∉ lent) ⟨fun b o h => Or.inl h, fun b o => rfl, fun id blk hs hbk b o hx => Or.inr ⟨hk, id, blk, hs, hbk, hx⟩, fun _ => rfl⟩ m hc hy fun i hii => ?_).lift
       have := List.all_eq_true.1 hi i hii
       simpa using this
    ·cases h
   ·cases h
  cases fs with
  | nil => simp only [z6] at h; exact low (f := []) h
  | cons f fs =>
   cases f with
   | false => simp only [z6] at h; exact low (f := false :: fs) h
   | true =>
    simp only [z6] at h
    split at h
    ·rename_i l b' hr
     cases h
     obtain ⟨g1, g2⟩ := zBR m hl hr hb
     refine ⟨by simp [g1], fun j z hz => ?_⟩
     cases j with
     | succ j => exact g2 j z (by simpa using hz)
     | zero =>
      simp at hz
      subst hz
      exact ⟨x, rfl, fun c hc => VR.turn (Turn.lend hl) wU (fun _ _ _ _ h => h) hc (.inl trivial)⟩
    ·cases h
theorem qJ {bl bl2 : zC} {lent : List Nat} : ∀ {fs : List Bool} {xs ys : List AV}, z6 bl lent fs xs = some (ys, false) → z6 bl2 lent fs xs = some (ys, false)
 | fs, [], ys, h => by
  cases fs with
  | nil => simp only [z6] at h ⊢; exact h
  | cons f fs => cases f <;> simp only [z6] at h ⊢ <;> exact h
 | fs, x :: r, ys, h => by
  have low : ∀ {f : List Bool}, (if ((ids x).all fun i => !lent.contains i) = true then
   (match yQ bl x, z6 bl lent f.tail r with | some y, some (l, b) => some (y :: l, b || !zR x) | _, _ => none) else none) = some (ys, false) →
   (if ((ids x).all fun i => !lent.contains i) = true then
   (match yQ bl2 x, z6 bl2 lent f.tail r with | some y, some (l, b) => some (y :: l, b || !zR x) | _, _ => none) else none) = some (ys, false) := by
   intro f h
   split at h
   ·rename_i hi
    rw [if_pos hi]
    split at h
    ·rename_i y l b' hy hr
     simp only [Option.some.injEq, Prod.mk.injEq, Bool.or_eq_false_iff, Bool.not_eq_false'] at h
     obtain ⟨h1, rfl, hn⟩ := h
     rw [jU _ hn] at hy
     cases hy
     rw [jU _ hn, qJ hr]
     simp [h1, hn]
    ·cases h
   ·cases h
  cases fs with
  | nil => simp only [z6] at h ⊢; exact low (f := []) h
  | cons f fs =>
   cases f with
   | false => simp only [z6] at h ⊢; exact low (f := false :: fs) h
   | true =>
    simp only [z6] at h ⊢
    split at h
    ·rename_i l b' hr
     cases h
     rw [qJ hr]
    ·cases h
section
variable {R : Type} {C : Ctx}
theorem zHy {P : Program} {G : Nat → AV} {f : FuncId} {m : Callee} {args args' : List AV} {looks : Bool} {lent : List Nat} {v : AV} {out : zC} {E : Env}
  (hm : Mem E) (hg : Glob G E) (hlt : ∀ i ∈ lent, i < E.bl.length) (hnd : lent.Nodup)
  (hh : z6 E.bl lent m.lend args = some (args', looks)) (hf : zEB P G f args' (lent.map fun i => (zF E.bl i).map (qG (pos lent))) v out)
  (hr : looks = true → kR v = true ∧ wR out = true) (hnf : jL E.bl lent = true) {vs : Array Value} (ha : Args E args vs) :
  zAd P f vs E.w fun v' w' => ∃ E', E'.w = w' ∧ E'.bl = z8 (z1 lent E.bl.length) lent out E.bl ∧ Go E E' ∧ VR E' true (ren (z1 lent E.bl.length) v) v' := by
 obtain ⟨g1, g2⟩ := zBR (lk := looks) hm hlt hh fun h => h
 refine (hf (E.lend lent looks) vs rfl (hm.lend hlt hnd) (hg.mono (wU trivial) (fun _ _ _ _ h => h) zGf) ⟨by rw [ha.size, g1], fun j y c hy hc => ?_⟩).mono fun v' w' ⟨E2, h1, h2, h3, h4⟩ => ?_
 ·obtain ⟨x, hx, hv⟩ := g2 j y hy
  exact hv c (ha.vr j x c hx hc)
 ·have B : BackIn E E2 lent looks out := ⟨hm, hlt, hnd, h3, h2, fun h => (hr h).2, hnf⟩
  refine ⟨E.back E2 lent looks out, h1, rfl, Go.back B, VR.turn (R0 := looks ≠ true) (Turn.back B) (fun hk b o h => ⟨by simp only [Env.back, hk, if_false]; exact h, rfl⟩) (fun _ _ _ _ h => h) h4 ?_⟩
  by_cases hk : looks = true
  ·exact .inr (hr hk).1
  ·exact .inl hk
theorem zAb {f : FuncId} {args : List AV} {bl : zC} {K : z9 R} {r : R} (hΓ : ∀ f m, C.Γ f = some m → zE C.P C.G f m) (h : kS C f args bl K = some r) :
  ∃ cat v bl', KS (R := R) (kS C f args) bl cat v bl' ∧ ∀ E, (E.bl = bl ∨ cat = .pure) → Mem E → Glob C.G E → ∀ vs, Args E args vs →
   zAd C.P f vs E.w fun v' w' => ∃ E', E'.w = w' ∧ (E'.bl = if cat = .pure then E.bl else bl') ∧ Go E E' ∧ VR E' true v v' := by
 unfold kS at h
 cases hm : C.Γ f with
 | none => rw [hm] at h; cases h
 | some m =>
 simp only [hm] at h
 obtain ⟨hnd, hlt⟩ := wJ bl 40 (kE m.lend args) [] List.nodup_nil (by simp)
 generalize hlent : yY bl 40 (kE m.lend args) [] = lent at h hnd hlt
 cases hh : z6 bl lent m.lend args with
 | none => simp [hh] at h
 | some p =>
 obtain ⟨args', looks⟩ := p
 simp only [hh] at h
 obtain hno | ⟨v, out, hdet, hfn⟩ := hΓ f m hm args' (lent.map fun i => (zF bl i).map (qG (pos lent)))
 ·rw [hno] at h; cases h
 rw [hdet] at h
 have det : ∀ K2 : z9 R, kS C f args bl K2 = (if ((kE m.lend args).isEmpty && out.isEmpty) = true then
     (if zR v = true then
      (if looks = true then (if kR v = true then K2 .read v bl else none) else K2 .pure v bl) else none)
    else (if ((!looks || (kR v && wR out)) && jL bl lent) = true then
     K2 .write (ren (z1 lent bl.length) v) (z8 (z1 lent bl.length) lent out bl) else none)) := fun K2 => by
  unfold kS
  simp only [hm, hlent, hh]
  rw [hdet]
 split at h
 ·rename_i he
  simp only [Bool.and_eq_true, List.isEmpty_iff] at he
  obtain ⟨he1, rfl⟩ := he
  have hl0 : lent = [] := by rw [← hlent, he1]; rfl
  subst hl0
  split at h
  ·rename_i hn
   have put0 : ∀ (n : Nat) (b : zC), z8 (z1 [] n) [] [] b = b := fun n b => by simp [z8]
   have key : ∀ E : Env, Mem E → Glob C.G E → z6 E.bl [] m.lend args = some (args', looks) → (looks = true → kR v = true) → ∀ vs, Args E args vs →
     zAd C.P f vs E.w fun v' w' => ∃ E', E'.w = w' ∧ E'.bl = E.bl ∧ Go E E' ∧ VR E' true v v' := fun E hM hG hH hr vs ha => by
    have := zHy (P := C.P) (G := C.G) (f := f) hM hG (lent := []) (by simp) List.nodup_nil hH hfn (fun h => ⟨hr h, rfl⟩) rfl ha
    rw [put0, zCW hn] at this
    exact this
   split at h
   ·rename_i hk
    split at h
    ·rename_i hr
     refine ⟨.read, v, bl, .ofRead fun K2 => by rw [det]; simp [he1, hn, hk, hr], fun E hE hM hG vs ha => ?_⟩
     rcases hE with rfl | hE
     ·exact key E hM hG hh (fun _ => hr) vs ha
     ·cases hE
    ·cases h
   ·rename_i hk
    have hk' : looks = false := by simpa using hk
    subst hk'
    refine ⟨.pure, v, bl, .ofPure fun b2 K2 => ?_, fun E hE hM hG vs ha => ?_⟩
    ·unfold kS
     simp only [hm, he1]
     rw [show yY b2 40 [] [] = [] from rfl]
     simp only [qJ (bl2 := b2) hh]
     simp only [List.map_nil] at hdet ⊢
     rw [hdet]
     simp [hn]
    ·exact key E hM hG (qJ hh) (fun h => by cases h) vs ha
  ·cases h
 ·rename_i he
  split at h
  ·rename_i hk
   refine ⟨.write, _, _, .ofWrite fun K2 => by rw [det, if_neg he, if_pos hk], fun E hE hM hG vs ha => ?_⟩
   rcases hE with rfl | hE
   ·simp only [reduceCtorEq, if_false]
    rw [Bool.and_eq_true] at hk
    refine zHy hM hG hlt hnd hh hfn (fun hk2 => ?_) hk.2 ha
    subst hk2
    simpa using hk.1
   ·cases hE
  ·cases h
end
end Go.Abs
end
