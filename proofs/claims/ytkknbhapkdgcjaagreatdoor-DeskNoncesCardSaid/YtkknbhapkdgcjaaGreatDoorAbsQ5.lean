/- An executor of the model's code over abstract values, and that it is right: what it tells of a run is what the run does. No condition. -/
import Derived.Test.YtkknbhapkdgcjaaGreatDoorAbsQ4
section
set_option linter.unusedVariables false
set_option linter.unusedSimpArgs false
namespace Go.Abs
open Go
mutual
theorem view_noOwn (bl : Blks) : ∀ {x : AV}, noOwn x = true → view bl x = some x
 | .agg kids, h => by unfold view; rw [views_noOwn bl (by simpa [noOwn] using h)]
 | .tup kids, h => by unfold view; rw [views_noOwn bl (by simpa [noOwn] using h)]
 | .fn f a b, h => by
  simp only [noOwn, Bool.and_eq_true] at h
  unfold view; rw [views_noOwn bl h.1, views_noOwn bl h.2]
 | .iface t v, h => by unfold view; rw [view_noOwn bl (by simpa [noOwn] using h)]
 | .any, _ | .bool _, _ | .int _ _, _ | .str _, _ | .nilp, _ | .rptr _, _ | .snil, _ | .rints _ _, _ | .robjs _ _ _, _ | .ints _ _ _, _ | .nilf, _ | .nili, _ | .raw _, _ | .errv _ _ _, _ | .rmap _, _ => by simp [view]
 | .ptr _ _, h | .aptr _ _ _ _, h | .slice _ _ _ _ _, h | .own _ _, h => by simp [noOwn] at h
theorem views_noOwn (bl : Blks) : ∀ {l : List AV}, noOwns l = true → views bl l = some l
 | [], _ => rfl
 | x :: r, h => by
  simp only [noOwns, Bool.and_eq_true] at h
  unfold views; rw [view_noOwn bl h.1, views_noOwn bl h.2]
end
theorem views_get (bl : Blks) : ∀ {l l' : List AV}, views bl l = some l' → l'.length = l.length ∧ ∀ (j : Nat) y, l'[j]? = some y → ∃ x, l[j]? = some x ∧ view bl x = some y
 | [], l', h => by cases h; exact ⟨rfl, fun j y h => by simp at h⟩
 | x :: r, l', h => by
  unfold views at h
  split at h
  ·rename_i y r' h1 h2
   cases h
   obtain ⟨g1, g2⟩ := views_get bl h2
   refine ⟨by simp [g1], fun j z hz => ?_⟩
   cases j with
   | zero => simp at hz; subst hz; exact ⟨x, rfl, h1⟩
   | succ j => exact g2 j z (by simpa using hz)
  ·cases h
theorem view_leaf (bl : Blks) {x y : AV} (hx : Leaf x) (h : view bl x = some y) : Leaf y := by
 unfold view at h
 split at h
 all_goals try (exact absurd rfl (hx.1 _))
 all_goals (repeat' (split at h))
 all_goals (first | (cases h; done) | (cases h; exact hx) | (cases h; exact ⟨by simp, by simp⟩))
mutual
theorem flat_view (bl : Blks) : ∀ {x y : AV}, view bl x = some y → (flat y).length = (flat x).length ∧ width y = width x ∧ ∀ (j : Nat) z, (flat y)[j]? = some z → ∃ u, (flat x)[j]? = some u ∧ view bl u = some z
 | .agg kids, y, h => by
  unfold view at h
  split at h
  ·rename_i l hl
   cases h
   simpa only [flat, width] using flats_view bl hl
  ·cases h
 | .ints k n l, y, h => by
  simp only [view] at h
  cases h
  refine ⟨rfl, rfl, fun j z hz => ⟨z, hz, ?_⟩⟩
  have := List.mem_of_getElem? hz
  simp only [flat, List.mem_map] at this
  obtain ⟨u, _, rfl⟩ := this
  simp [view]
 | .any, y, h | .tup _, y, h | .bool _, y, h | .int _ _, y, h | .str _, y, h | .nilp, y, h | .ptr _ _, y, h | .aptr _ _ _ _, y, h | .rptr _, y, h | .snil, y, h | .slice _ _ _ _ _, y, h | .own _ _, y, h
 | .rints _ _, y, h | .robjs _ _ _, y, h | .fn _ _ _, y, h | .nilf, y, h | .iface _ _, y, h | .nili, y, h | .raw _, y, h | .errv _ _ _, y, h | .rmap _, y, h => by
  have hy := (view_leaf bl ⟨by simp, by simp⟩ h).one
  rw [hy.1, hy.2]
  refine ⟨by simp [flat], by simp [width], fun j z hz => ?_⟩
  cases j with
  | zero => simp at hz; subst hz; exact ⟨_, by simp [flat], h⟩
  | succ j => simp at hz
theorem flats_view (bl : Blks) : ∀ {l l' : List AV}, views bl l = some l' → (flats l').length = (flats l).length ∧ widths l' = widths l ∧ ∀ (j : Nat) z, (flats l')[j]? = some z → ∃ u, (flats l)[j]? = some u ∧ view bl u = some z
 | [], l', h => by cases h; exact ⟨rfl, rfl, fun j z h => by simp [flats] at h⟩
 | x :: r, l', h => by
  unfold views at h
  split at h
  ·rename_i y r' h1 h2
   cases h
   obtain ⟨a1, a2, a3⟩ := flat_view bl h1
   obtain ⟨b1, b2, b3⟩ := flats_view bl h2
   refine ⟨by simp [flats, a1, b1], by simp [widths, a2, b2], fun j z hz => ?_⟩
   simp only [flats] at hz ⊢
   rcases Nat.lt_or_ge j (flat y).length with hj | hj
   ·rw [List.getElem?_append_left hj] at hz
    rw [List.getElem?_append_left (by omega)]
    exact a3 j z hz
   ·rw [List.getElem?_append_right hj] at hz
    rw [List.getElem?_append_right (by omega), ← a1]
    exact b3 _ z hz
  ·cases h
end
theorem fit_view (bl : Blks) {x : AV} (hf : Fit x) : ∀ {y : AV}, view bl x = some y → Fit y := by
 induction hf with
 | ints k n l h => intro y hy; simp only [view] at hy; cases hy; exact .ints _ _ _ h
 | agg kids h ih =>
  intro y hy
  unfold view at hy
  split at hy
  ·rename_i l hl
   cases hy
   refine .agg _ fun z hz => ?_
   obtain ⟨j, hj⟩ := List.getElem?_of_mem hz
   obtain ⟨x, h1, h2⟩ := (views_get bl hl).2 j z hj
   exact ih x (List.mem_of_getElem? h1) h2
  ·cases hy
 | leaf x h => intro y hy; exact .leaf _ (view_leaf bl h hy)
structure Looks (E Ec : Env) (S : Nat → Prop) : Prop where
 ro : ∀ b o, E.ro b o → Ec.ro b o
 cell : ∀ b o, Ec.cell b o = E.cell b o
 own : ∀ id blk, S id → bget E.bl id = some blk → ∀ b o, InExt E id b o → Ec.ro b o
 heap : ∀ r : Nat, Ec.w.heap[r]? = E.w.heap[r]?
theorem Looks.mp {E Ec : Env} {S : Nat → Prop} (L : Looks E Ec S) : MapsStay E Ec := fun r _ _ _ h => (L.heap r).trans h
theorem rints_of {E : Env} {k : IntKind} {l : List Int} {a : Option Addr} {n cap b o : Nat} (hn : n = l.length) (hc : n ≤ cap) (ha : l ≠ [] → a = some ⟨b, o, none⟩)
  (h : ∀ i, i < l.length → E.ro b (o + i) ∧ E.cell b (o + i) = some (.int k (l.getD i 0))) : VR E false (.rints k l) (.slice a n cap) := by
 subst hn
 refine .rints _ k l a cap hc fun i hi => ?_
 have hne : l ≠ [] := fun e => by subst e; simp at hi
 exact ⟨_, ha hne, rfl, (h i hi).1, (h i hi).2⟩
theorem objs_flat_put {l : List AV} {w : Nat} (h : ∀ x ∈ l, (Fit x ∧ width x = w) ∧ noOwn x = true ∧ solid x = true) {i j : Nat} {x y : AV} (hx : l[i]? = some x) (hy : (flat x)[j]? = some y) :
  (flats l)[i * w + j]? = some y := by
 rw [flats_split hx]
 have hi := (List.getElem?_eq_some_iff.1 hx).1
 have e : (flats (l.take i)).length = i * w := by rw [objs_flat_length fun x hx => h x (List.mem_of_mem_take hx)]; simp [Nat.min_eq_left (Nat.le_of_lt hi)]
 rw [List.getElem?_append_right (by omega), e, Nat.add_sub_cancel_left, List.getElem?_append_left (List.getElem?_eq_some_iff.1 hy).1]
 exact hy
theorem robjs_of {E : Env} {e w : Nat} {l : List AV} {a : Option Addr} {n cap b o : Nat} (hn : n = l.length) (hc : n ≤ cap) (hf : ∀ x ∈ l, (Fit x ∧ width x = w) ∧ noOwn x = true ∧ solid x = true)
  (ha : l ≠ [] → a = some ⟨b, o, none⟩) (h : ∀ (j : Nat) x, (flats l)[j]? = some x → E.ro b (o + j) ∧ ∃ c, E.cell b (o + j) = some c ∧ VR E false x c) : VR E false (.robjs e w l) (.slice a n cap) := by
 subst hn
 have hall : ∀ j, ∃ v, ∀ y, (flats l)[j]? = some y → E.cell b (o + j) = some v ∧ VR E false y v := fun j => by
  cases hy : (flats l)[j]? with
  | none => exact ⟨undef, fun y h => by simp at h⟩
  | some y => obtain ⟨_, v, h1, h2⟩ := h j y hy; exact ⟨v, fun z hz => by simp at hz; subst hz; exact ⟨h1, h2⟩⟩
 obtain ⟨vv, hvv⟩ := Classical.axiomOfChoice hall
 refine .robjs _ e w l a cap hc hf (fun i j => vv (i * w + j)) (fun hne => ⟨_, ha hne, rfl⟩) (fun ad i x j y had hx hy => ?_) fun i x j y hx hy => ?_
 ·have hne : l ≠ [] := fun e => by subst e; simp at hx
  have := ha hne
  rw [had] at this
  cases this
  have hj := objs_flat_put hf hx hy
  refine ⟨?_, ?_⟩
  ·simp only [Nat.add_assoc]; exact (h _ y hj).1
  ·simp only [Nat.add_assoc]; exact (hvv _ y hj).1
 ·exact (hvv _ y (objs_flat_put hf hx hy)).2
theorem idss_mem : ∀ {l : List AV} {x : AV} {i : Nat}, x ∈ l → i ∈ ids x → i ∈ idss l
 | y :: r, x, i, hx, hi => by
  unfold idss
  rcases List.mem_cons.1 hx with rfl | hx
  ·exact List.mem_append_left _ hi
  ·exact List.mem_append_right _ (idss_mem hx hi)
mutual
theorem ids_flat : ∀ {x y : AV} {i : Nat}, y ∈ flat x → i ∈ ids y → i ∈ ids x
 | .agg kids, y, i, hy, hi => by unfold ids; exact idss_flats (by simpa [flat] using hy) hi
 | .ints k n l, y, i, hy, hi => by
  simp only [flat, List.mem_map] at hy
  obtain ⟨z, _, rfl⟩ := hy
  simp [ids] at hi
 | .any, y, i, hy, hi | .tup _, y, i, hy, hi | .bool _, y, i, hy, hi | .int _ _, y, i, hy, hi | .str _, y, i, hy, hi | .nilp, y, i, hy, hi | .ptr _ _, y, i, hy, hi | .aptr _ _ _ _, y, i, hy, hi | .rptr _, y, i, hy, hi | .snil, y, i, hy, hi | .slice _ _ _ _ _, y, i, hy, hi | .own _ _, y, i, hy, hi
 | .rints _ _, y, i, hy, hi | .robjs _ _ _, y, i, hy, hi | .fn _ _ _, y, i, hy, hi | .nilf, y, i, hy, hi | .iface _ _, y, i, hy, hi | .nili, y, i, hy, hi | .raw _, y, i, hy, hi | .errv _ _ _, y, i, hy, hi | .rmap _, y, i, hy, hi => by
  simp only [flat, List.mem_singleton] at hy
  subst hy
  exact hi
theorem idss_flats : ∀ {l : List AV} {y : AV} {i : Nat}, y ∈ flats l → i ∈ ids y → i ∈ idss l
 | x :: r, y, i, hy, hi => by
  unfold idss
  simp only [flats, List.mem_append] at hy
  rcases hy with hy | hy
  ·exact List.mem_append_left _ (ids_flat hy hi)
  ·exact List.mem_append_right _ (idss_flats hy hi)
end
theorem view_own {E Ec : Env} {S : Nat → Prop} (L : Looks E Ec S) (m : Mem E) {id : Nat} {b : Blk} (hb : bget E.bl id = some b) (hs : S id) {j : Nat} {z : AV} (hz : (flatB b)[j]? = some z) (hn : noOwn z = true) :
  Ec.ro (E.loc id).1 ((E.loc id).2.1 + j) ∧ ∃ c, Ec.cell (E.loc id).1 ((E.loc id).2.1 + j) = some c ∧ VR Ec false z c := by
 have k := m.ok id b hb
 have hj := (List.getElem?_eq_some_iff.1 hz).1
 have := k.len
 refine ⟨L.own id b hs hb _ _ ⟨rfl, by omega, by omega⟩, ?_⟩
 obtain ⟨v, h1, h2⟩ := k.cells j z hz
 exact ⟨v, by rw [L.cell]; exact h1, VR.roMono (fun b o h => ⟨L.ro b o h, L.cell b o⟩) L.mp (h2.low hn) rfl⟩
theorem view_sound {E Ec : Env} {S : Nat → Prop} (L : Looks E Ec S) (m : Mem E) {o : Bool} {x : AV} {v : Value} (h : VR E o x v) :
  ∀ {y : AV}, view E.bl x = some y → (∀ i ∈ ids x, S i) → VR Ec false y v := by
 have leaf : ∀ {o : Bool} {x : AV} {v : Value}, VR E o x v → noOwn x = true → ∀ {y : AV}, view E.bl x = some y → VR Ec false y v := by
  intro o x v h hn y hy
  rw [view_noOwn _ hn] at hy
  cases hy
  exact VR.roMono (fun b o h => ⟨L.ro b o h, L.cell b o⟩) L.mp (h.low hn) rfl
 induction h with
 | any o v => intro y hy _; exact leaf (.any o v) rfl hy
 | bool o b => intro y hy _; exact leaf (.bool o b) rfl hy
 | int o k n => intro y hy _; exact leaf (.int o k n) rfl hy
 | str o s => intro y hy _; exact leaf (.str o s) rfl hy
 | nilp o => intro y hy _; exact leaf (.nilp o) rfl hy
 | rptr o x a hf hs vv h hv ih => intro y hy _; exact leaf (.rptr o x a hf hs vv h hv) rfl hy
 | snil o => intro y hy _; exact leaf (.snil o) rfl hy
 | rints o k l a cap hc h => intro y hy _; exact leaf (.rints o k l a cap hc h) rfl hy
 | robjs o e w l a cap hc hw vv ha h hv ih => intro y hy _; exact leaf (.robjs o e w l a cap hc hw vv ha h hv) rfl hy
 | ints o k n l h => intro y hy _; exact leaf (.ints o k n l h) rfl hy
 | nilf o => intro y hy _; exact leaf (.nilf o) rfl hy
 | nili o => intro y hy _; exact leaf (.nili o) rfl hy
 | raw o v h1 h2 => intro y hy _; exact leaf (.raw o v h1 h2) rfl hy
 | errv o tF ts k v h => intro y hy _; exact leaf (.errv o tF ts k v h) rfl hy
 | rmap o l r es c hr hh hs hst hl hk hv => intro y hy _; exact leaf (.rmap o l r es c hr hh hs hst hl hk hv) rfl hy
 | mown id r hid hh =>
  intro y hy hi
  have hs : S id := hi id (by simp [ids])
  unfold view at hy
  split at hy
  ·rename_i hb; have g := (hh _ hb).1; simp [rowB] at g
  ·rename_i hb; have g := (hh _ hb).1; simp [rowB] at g
  ·rename_i l hb
   cases hy
   obtain ⟨_, rfl⟩ := hh _ hb
   obtain ⟨_, es, c, h1, h2, h3, h4⟩ := (m.ok id _ hb).mp l rfl
   have low : ∀ {y : AV} {v : Value}, VR E false y v → VR Ec false y v := fun h => VR.roMono (fun b o h => ⟨L.ro b o h, L.cell b o⟩) L.mp h rfl
   exact .rmap _ l _ es c (L.own id _ hs hb _ _ (m.mp_own hb)) ((L.heap _).trans h1) h2 h3 (m.ok id _ hb).fit (fun j e k v he hl => low (h4 j e k v he hl).1) fun j e k v he hl => low (h4 j e k v he hl).2
  ·cases hy
 | aptr => intro y hy _; simp [view] at hy
 | agg o kids cs hf hs h ih =>
  intro y hy hi
  have hfy := fit_view _ hf hy
  unfold view at hy
  split at hy
  ·rename_i l hl
   cases hy
   obtain ⟨g1, g2, g3⟩ := flats_view _ hl
   refine .agg _ _ cs hfy (by rw [g1]; exact hs) fun j z c h1 h2 => ?_
   obtain ⟨u, h3, h4⟩ := g3 j z h1
   exact ih j u c h3 h2 h4 fun i hi' => hi i (by unfold ids; exact idss_flats (List.mem_of_getElem? h3) hi')
  ·cases hy
 | tup o vs cs hs h ih =>
  intro y hy hi
  unfold view at hy
  split at hy
  ·rename_i l hl
   cases hy
   obtain ⟨g1, g2⟩ := views_get _ hl
   refine .tup _ _ cs (by rw [g1]; exact hs) fun j z c h1 h2 => ?_
   obtain ⟨u, h3, h4⟩ := g2 j z h1
   exact ih j u c h3 h2 h4 fun i hi' => hi i (by unfold ids; exact idss_mem (List.mem_of_getElem? h3) hi')
  ·cases hy
 | fn o f xs ys as bs h1 h2 g1 g2 i1 i2 =>
  intro y hy hi
  unfold view at hy
  split at hy
  ·rename_i l l' hl hl'
   cases hy
   obtain ⟨e1, e2⟩ := views_get _ hl
   obtain ⟨e3, e4⟩ := views_get _ hl'
   refine .fn _ f _ _ as bs (by rw [e1]; exact h1) (by rw [e3]; exact h2) (fun j z c k1 k2 => ?_) (fun j z c k1 k2 => ?_)
   ·obtain ⟨u, h3, h4⟩ := e2 j z k1
    exact i1 j u c h3 k2 h4 fun i hi' => hi i (by unfold ids; exact List.mem_append_left _ (idss_mem (List.mem_of_getElem? h3) hi'))
   ·obtain ⟨u, h3, h4⟩ := e4 j z k1
    exact i2 j u c h3 k2 h4 fun i hi' => hi i (by unfold ids; exact List.mem_append_right _ (idss_mem (List.mem_of_getElem? h3) hi'))
  ·cases hy
 | iface o t x v h ih =>
  intro y hy hi
  unfold view at hy
  split at hy
  ·rename_i l hl
   cases hy
   exact .iface _ t _ v (ih hl fun i hi' => hi i (by unfold ids; exact hi'))
  ·cases hy
 | ptr id path a hid h =>
  intro y hy hi
  have hs : S id := hi id (by simp [ids])
  unfold view at hy
  split at hy
  ·rename_i b hb
   split at hy
   ·rename_i x' hg
    split at hy
    ·rename_i hn
     cases hy
     obtain ⟨h1, q, h2, h3, h4⟩ := h b hb
     obtain ⟨f1, f2⟩ := getB_spec (m.ok id b hb).fit hg h2
     have hall : ∀ j, ∃ c, ∀ z, (flat x')[j]? = some z → Ec.ro a.block (a.off + j) ∧ Ec.cell a.block (a.off + j) = some c ∧ VR Ec false z c := fun j => by
      cases hz : (flat x')[j]? with
      | none => exact ⟨undef, fun y h => by simp at h⟩
      | some z =>
       obtain ⟨g1, c, g2, g3⟩ := view_own L m hb hs (f2 j z hz) (flat_noOwn hn z (List.mem_of_getElem? hz))
       rw [← Nat.add_assoc, ← h3, ← h4] at g1 g2
       exact ⟨c, fun u hu => by simp at hu; subst hu; exact ⟨g1, g2, g3⟩⟩
     obtain ⟨vv, hvv⟩ := Classical.axiomOfChoice hall
     exact .rptr _ x' a f1 h1 vv (fun j z hz => ⟨(hvv j z hz).1, (hvv j z hz).2.1⟩) fun j z hz => (hvv j z hz).2.2
    ·cases hy
   ·cases hy
  ·cases hy
 | slice id path s len w a cap hid hc hsm hh =>
  intro y hy hi
  have hs : S id := hi id (by simp [ids])
  unfold view at hy
  split at hy
  ·rename_i _ _ k l hb
   cases hy
   obtain ⟨q, c, g1, g2, g3, g4⟩ := hh _ hb
   simp [rowB] at g1
   obtain ⟨rfl, rfl, rfl⟩ := g1
   refine rints_of (b := (E.loc id).1) (o := (E.loc id).2.1 + s) (by simp; omega) hc (fun hne => ?_) fun i hi => ?_
   ·rcases g4 with rfl | rfl
    ·have := List.length_pos_iff.2 hne; simp at this; omega
    ·simp
   ·obtain ⟨e1, e2⟩ := ints_take_get l s len i hi
    obtain ⟨r1, v, h1, h2⟩ := view_own L m hb hs (j := s + i) (z := .int k (l.getD (s + i) 0)) (by simp [flatB, List.getElem?_eq_getElem e2]) rfl
    rw [Nat.add_assoc, e1, h1, h2.int_inv]
    exact ⟨r1, rfl⟩
  ·rename_i _ _ e w' l hb
   cases hy
   obtain ⟨q, c, g1, g2, g3, g4⟩ := hh _ hb
   simp [rowB] at g1
   obtain ⟨rfl, rfl, rfl⟩ := g1
   have ok := m.ok id _ hb
   have hfit : ∀ x ∈ (l.drop s).take len, (Fit x ∧ width x = w') ∧ noOwn x = true ∧ solid x = true := fun x hx => ok.fit x (List.mem_of_mem_drop (List.mem_of_mem_take hx))
   refine robjs_of (b := (E.loc id).1) (o := (E.loc id).2.1 + s * w') (by simp; omega) hc hfit (fun hne => ?_) fun j z hz => ?_
   ·rcases g4 with rfl | rfl
    ·have := List.length_pos_iff.2 hne; simp at this; omega
    ·simp
   ·obtain ⟨x, k1, k2⟩ := objs_flat_get hfit hz
    rw [Nat.add_assoc]
    exact view_own L m hb hs (objs_sub_get ok.fit hz) (flat_noOwn (hfit x (List.mem_of_getElem? k1)).2.1 z (List.mem_of_getElem? k2))
  ·rename_i _ _ v0 hb
   split at hy
   ·rename_i k n' l hg
    cases hy
    obtain ⟨q, c, g1, g2, g3, g4⟩ := hh _ hb
    obtain ⟨ho, rfl, rfl⟩ := rowB_var hg g1
    obtain ⟨f1, f2⟩ := getB_spec (blk := .var v0) (m.ok id _ hb).fit hg ho
    have hln := f1.len
    refine rints_of (b := (E.loc id).1) (o := (E.loc id).2.1 + q + s) (by simp; omega) hc (fun hne => ?_) fun i hi => ?_
    ·rcases g4 with rfl | rfl
     ·have := List.length_pos_iff.2 hne; simp at this; omega
     ·simp
    ·obtain ⟨e1, e2⟩ := ints_take_get l s len i hi
     obtain ⟨r1, v, h1, h2⟩ := view_own L m hb hs (f2 (s + i) (.int k (l.getD (s + i) 0)) (by simp [flat, List.getElem?_eq_getElem e2])) rfl
     rw [Nat.add_assoc, Nat.add_assoc, e1, h1, h2.int_inv]
     exact ⟨r1, rfl⟩
   ·cases hy
  ·cases hy
 | own id w len a cap hid hc hh =>
  intro y hy hi
  have hs : S id := hi id (by simp [ids])
  unfold view at hy
  split at hy
  ·rename_i k l hb
   cases hy
   obtain ⟨g1, g2, g3⟩ := hh _ hb
   simp [rowB] at g1
   obtain ⟨_, rfl⟩ := g1
   refine rints_of (b := (E.loc id).1) (o := (E.loc id).2.1) rfl hc (fun hne => ?_) fun i hi => ?_
   ·rcases g3 with rfl | rfl
    ·have := List.length_pos_iff.2 hne; omega
    ·rfl
   ·obtain ⟨r1, v, h1, h2⟩ := view_own L m hb hs (j := i) (z := .int k (l.getD i 0)) (by simp [flatB, List.getElem?_eq_getElem hi]) rfl
    rw [h1, h2.int_inv]
    exact ⟨r1, rfl⟩
  ·rename_i e w' l hb
   cases hy
   obtain ⟨g1, g2, g3⟩ := hh _ hb
   simp [rowB] at g1
   obtain ⟨_, rfl⟩ := g1
   have ok := m.ok id _ hb
   refine robjs_of (b := (E.loc id).1) (o := (E.loc id).2.1) rfl hc ok.fit (fun hne => ?_) fun j z hz => ?_
   ·rcases g3 with rfl | rfl
    ·have := List.length_pos_iff.2 hne; omega
    ·rfl
   ·obtain ⟨x, k1, k2⟩ := objs_flat_get ok.fit hz
    exact view_own L m hb hs hz (flat_noOwn (ok.fit x (List.mem_of_getElem? k1)).2.1 z (List.mem_of_getElem? k2))
  ·rename_i hb; have g := (hh _ hb).1; simp [rowB] at g
  ·cases hy
theorem bget_killAll : ∀ {S : List Nat} {bl : Blks} {i : Nat} {b : Blk}, bget (killAll S bl) i = some b → i ∉ S ∧ bget bl i = some b
 | [], _, _, _, h => ⟨by simp, h⟩
 | a :: r, bl, i, b, h => by
  obtain ⟨h1, h2⟩ := bget_killAll (S := r) (bl := bl.set a none) h
  obtain ⟨h3, h4⟩ := bget_kill h2
  exact ⟨by simp [h1, h3], h4⟩
theorem killAll_length : ∀ (S : List Nat) (bl : Blks), (killAll S bl).length = bl.length
 | [], _ => rfl
 | a :: r, bl => by rw [killAll, killAll_length]; simp
def Env.frz (E : Env) (S : List Nat) : Env := { w := E.w, ro := fun b o => E.ro b o ∨ ∃ id blk, id ∈ S ∧ bget E.bl id = some blk ∧ InExt E id b o, loc := E.loc, bl := killAll S E.bl }
theorem frz_go {E : Env} (m : Mem E) (S : List Nat) : Go E (E.frz S) := by
 have hown : ∀ b o, Own (E.frz S) b o → Own E b o := fun b o ⟨i, bi, h, hx⟩ => ⟨i, bi, (bget_killAll h).2, hx⟩
 have fr : Fr E (E.frz S) := ⟨rfl, rfl, rfl, Nat.le_refl _, fun _ _ _ _ => rfl, fun _ _ _ => rfl, fun _ _ _ _ => rfl, fun b o h => .inl (hown b o h), fun b o h => by
  rcases h with h | ⟨id, blk, _, hb, hx⟩
  ·exact .inl h
  ·exact .inr (.inl ⟨id, blk, hb, hx⟩), fun _ _ h => .inl h⟩
 have st : Step E (E.frz S) := .of_fr m fr (by simp [Env.frz, killAll_length]) fun i hi bi h => ⟨bi, (bget_killAll h).2, rfl, fun _ _ h => h, fun _ _ h => h⟩
 refine ⟨st, fr, ⟨fun i bi h => ?_, fun i j bi bj hij hi hj => m.dis i j bi bj hij (bget_killAll hi).2 (bget_killAll hj).2, fun b o h => ?_, fun b o ⟨i, bi, h, hx⟩ hr => ?_⟩⟩
 ·have k := m.ok i bi (bget_killAll h).2
  exact ⟨k.fit, k.len, fun j x hx => let ⟨v, h1, h2⟩ := k.cells j x hx; ⟨v, h1, h2.mono st⟩, k.rom, fun l hl => ⟨(k.mp l hl).1, (k.mp l hl).2.mono st rfl⟩⟩
 ·rcases h with h | ⟨id, blk, _, hb, h1, h2, h3⟩
  ·exact m.roe b o h
  ·exact m.own_lt ⟨id, blk, hb, h1, h2, h3⟩
 ·obtain ⟨h1, h2⟩ := bget_killAll h
  rcases hr with hr | ⟨id, blk, hs, hb, hy⟩
  ·exact m.rod b o ⟨i, bi, h2, hx⟩ hr
  ·exact m.dis i id bi blk (fun e => h1 (by rw [e]; exact hs)) h2 hb b o hx hy
theorem frz_looks (E : Env) (S : List Nat) : Looks E (E.frz S) (· ∈ S) := ⟨fun _ _ h => .inl h, fun _ _ => rfl, fun id blk hs hb b o hx => .inr ⟨id, blk, hs, hb, hx⟩, fun _ => rfl⟩
theorem viewPs_sound {E : Env} {S : List Nat} (m : Mem E) : ∀ {ps : List (Nat × AV)} {vs : List (Nat × Value)} {ps' : List (Nat × AV)}, PartsR E ps vs → viewPs E.bl ps = some ps' → (∀ i ∈ idss (ps.map (·.2)), i ∈ S) → PartsR (E.frz S) ps' vs
 | _, _, ps', .nil, h, _ => by cases h; exact .nil
 | _, _, ps', .cons i x v r s hv ht, h, hS => by
  simp only [viewPs] at h
  split at h <;> (try (cases h; done))
  rename_i y l hy hl
  cases h
  have hin : ∀ j ∈ ids x, j ∈ S := fun j hj => hS j (by simp only [List.map_cons]; unfold idss; exact List.mem_append_left _ hj)
  have hin2 : ∀ j ∈ idss (r.map (·.2)), j ∈ S := fun j hj => hS j (by simp only [List.map_cons]; unfold idss; exact List.mem_append_right _ hj)
  exact .cons i y v l s ((view_sound (frz_looks E S) m hv hy hin).lift) (viewPs_sound m ht hl hin2)
end Go.Abs
end
section
set_option linter.unusedVariables false
set_option linter.unusedSimpArgs false
namespace Go.Abs
open Go
def CallDoes (P : Program) (f : FuncId) (vs : Array Value) (w : World) (Q : Value → World → Prop) : Prop :=
 (∃ fn, P.funcs[f]? = some fn ∧ fn.name ≠ "runtime.NumGoroutine" ∧ fn.body.isNone = false ∧ Calls P f vs w fun e w' => ∃ v, e = .returned v ∧ Q v w') ∨
 ∃ v w', (callFunc f vs).run P w = .ok (.value v) w' ∧ Q v w'
theorem CallDoes.mono {P : Program} {f : FuncId} {vs : Array Value} {w : World} {Q Q' : Value → World → Prop} (h : CallDoes P f vs w Q) (hq : ∀ v w, Q v w → Q' v w) : CallDoes P f vs w Q' := by
 rcases h with ⟨fn, h1, h2, h3, h4⟩ | ⟨v, w', h1, h2⟩
 ·exact .inl ⟨fn, h1, h2, h3, h4.mono fun e w' ⟨v, hv, h⟩ => ⟨v, hv, hq v w' h⟩⟩
 ·exact .inr ⟨v, w', h1, hq v w' h2⟩
structure Args (E : Env) (xs : List AV) (vs : Array Value) : Prop where
 size : vs.size = xs.length
 vr : ∀ (j : Nat) x c, xs[j]? = some x → vs[j]? = some c → VR E true x c
def ErrAt (E : Env) (g ts : Nat) : Prop := ∃ (a : Addr) (ca : Array Value) (ta : TypeId), a.spot = none ∧ E.ro g 0 ∧ E.cell g 0 = some (.iface ts (.pointer (some a))) ∧ a.block < E.w.heap.size ∧ E.w.heap[a.block]? = some (.cells ca ta (0, 0)) ∧ ∀ o, ¬ Own E a.block o
structure Glob (G : Nat → AV) (E : Env) : Prop where
 vars : ∀ g, (match G g with | .any => True | x => VR E false (.rptr x) (.pointer (some ⟨g, 0, none⟩)))
 errs : ∀ g tF ts k, G g = .errv tF ts k → k = g ∧ ErrAt E g ts
 dif : ∀ g g' tF ts k tF' ts' k', G g = .errv tF ts k → G g' = .errv tF' ts' k' → g ≠ g' → ∀ u u' p, E.cell g 0 = some (.iface u p) → E.cell g' 0 = some (.iface u' p) → False
theorem Glob.plain {G : Nat → AV} {E : Env} (h : ∀ g, (match G g with | .any => True | x => VR E false (.rptr x) (.pointer (some ⟨g, 0, none⟩)))) (hn : ∀ g tF ts k, G g ≠ .errv tF ts k) : Glob G E :=
 ⟨h, fun g _ _ _ he => absurd he (hn g _ _ _), fun g _ _ _ _ _ _ _ he => absurd he (hn g _ _ _)⟩
def Keeps (E E' : Env) : Prop := E.w.heap.size ≤ E'.w.heap.size ∧ ∀ b, b < E.w.heap.size → (∀ o, ¬ Own E b o) → E'.w.heap[b]? = E.w.heap[b]? ∧ ∀ o, ¬ Own E' b o
theorem Fr.keeps {E E' : Env} (f : Fr E E') : Keeps E E' := ⟨f.size, fun b hb hn => ⟨f.blk b hb hn, fun o ho => by
 rcases f.own b o ho with h | h
 ·exact hn o h
 ·omega⟩⟩
theorem lend_keeps {E : Env} {lent : List Nat} {looks : Bool} : Keeps E (E.lend lent looks) := ⟨Nat.le_refl _, fun b hb hn => ⟨rfl, fun o ho => let ⟨id, blk, _, h2, h3⟩ := own_lend ho; hn o ⟨id, blk, h2, h3⟩⟩⟩
theorem Glob.mono {G : Nat → AV} {E E' : Env} (hro : ∀ b o, E.ro b o → E'.ro b o ∧ E'.cell b o = E.cell b o) (hmp : MapsStay E E') (hk : Keeps E E') (h : Glob G E) : Glob G E' := by
 have cell : ∀ g tF ts k, G g = .errv tF ts k → E'.cell g 0 = E.cell g 0 := fun g tF ts k he => let ⟨_, a, ca, ta, _, h2, _⟩ := h.errs g tF ts k he; (hro _ _ h2).2
 refine ⟨fun g => ?_, fun g tF ts k he => ?_, fun g g' tF ts k tF' ts' k' h1 h2 hne u u' p c1 c2 => ?_⟩
 ·have := h.vars g
  split
  ·trivial
  ·rename_i x hx
   split at this
   ·rename_i he; exact absurd he hx
   ·exact VR.roMono hro hmp this rfl
 ·obtain ⟨e, a, ca, ta, h1, h2, h3, h4, h5, h6⟩ := h.errs g tF ts k he
  exact ⟨e, a, ca, ta, h1, (hro _ _ h2).1, (hro _ _ h2).2.trans h3, Nat.lt_of_lt_of_le h4 hk.1, (hk.2 _ h4 h6).1.trans h5, (hk.2 _ h4 h6).2⟩
 ·rw [cell g tF ts k h1] at c1
  rw [cell g' tF' ts' k' h2] at c2
  exact h.dif g g' _ _ _ _ _ _ h1 h2 hne u u' p c1 c2
def FnOK (P : Program) (G : Nat → AV) (f : FuncId) (args : List AV) (lent : Blks) (v : AV) (out : Blks) : Prop :=
 ∀ (E : Env) (vs : Array Value), E.bl = lent → Mem E → Glob G E → Args E args vs → CallDoes P f vs E.w fun v' w' => ∃ E', E'.w = w' ∧ E'.bl = out ∧ Go E E' ∧ VR E' true v v'
def CalleeS (P : Program) (G : Nat → AV) (f : FuncId) (m : Callee) : Prop :=
 ∀ args lent, (∀ (R : Type) (K : AV → Blks → Option R), m.run args lent K = none) ∨ ∃ v out, (∀ (R : Type) (K : AV → Blks → Option R), m.run args lent K = K v out) ∧ FnOK P G f args lent v out
theorem handed_sound {E : Env} {lent : List Nat} {lk : Bool} (m : Mem E) (hl : ∀ i ∈ lent, i < E.bl.length) : ∀ {fs : List Bool} {xs ys : List AV} {b : Bool}, handed E.bl lent fs xs = some (ys, b) → (b = true → lk = true) →
  ys.length = xs.length ∧ ∀ (j : Nat) y, ys[j]? = some y → ∃ x, xs[j]? = some x ∧ ∀ c, VR E true x c → VR (E.lend lent lk) true y c
 | fs, [], ys, b, h, hb => by
  cases fs with
  | nil => simp only [handed] at h; cases h; exact ⟨rfl, fun j y h => by simp at h⟩
  | cons f fs => cases f <;> simp only [handed] at h <;> (cases h; exact ⟨rfl, fun j y h => by simp at h⟩)
 | fs, x :: r, ys, b, h, hb => by
  have low : ∀ {f : List Bool}, (if ((ids x).all fun i => !lent.contains i) = true then
   (match view E.bl x, handed E.bl lent f.tail r with | some y, some (l, b) => some (y :: l, b || !noOwn x) | _, _ => none) else none) = some (ys, b) →
   ys.length = (x :: r).length ∧ ∀ (j : Nat) y, ys[j]? = some y → ∃ z, (x :: r)[j]? = some z ∧ ∀ c, VR E true z c → VR (E.lend lent lk) true y c := by
   intro f h
   split at h
   ·rename_i hi
    split at h
    ·rename_i y l b' hy hr
     cases h
     obtain ⟨g1, g2⟩ := handed_sound m hl hr fun h => hb (by simp [h])
     refine ⟨by simp [g1], fun j z hz => ?_⟩
     cases j with
     | succ j => exact g2 j z (by simpa using hz)
     | zero =>
      simp at hz
      subst hz
      refine ⟨x, rfl, fun c hc => ?_⟩
      by_cases hn : noOwn x = true
      ·rw [view_noOwn _ hn] at hy
       cases hy
       exact (VR.roMono (lend_ro trivial) (fun _ _ _ _ h => h) (hc.low hn) rfl).lift
      ·have hk : lk = true := hb (by simp [hn])
       refine (view_sound (Ec := E.lend lent lk) (S := fun i => i ∉ lent) ⟨fun b o h => Or.inl h, fun b o => rfl, fun id blk hs hbk b o hx => Or.inr ⟨hk, id, blk, hs, hbk, hx⟩, fun _ => rfl⟩ m hc hy fun i hii => ?_).lift
       have := List.all_eq_true.1 hi i hii
       simpa using this
    ·cases h
   ·cases h
  cases fs with
  | nil => simp only [handed] at h; exact low (f := []) h
  | cons f fs =>
   cases f with
   | false => simp only [handed] at h; exact low (f := false :: fs) h
   | true =>
    simp only [handed] at h
    split at h
    ·rename_i l b' hr
     cases h
     obtain ⟨g1, g2⟩ := handed_sound m hl hr hb
     refine ⟨by simp [g1], fun j z hz => ?_⟩
     cases j with
     | succ j => exact g2 j z (by simpa using hz)
     | zero =>
      simp at hz
      subst hz
      exact ⟨x, rfl, fun c hc => VR.turn (Turn.lend hl) lend_ro (fun _ _ _ _ h => h) hc (.inl trivial)⟩
    ·cases h
theorem handed_alike {bl bl2 : Blks} {lent : List Nat} : ∀ {fs : List Bool} {xs ys : List AV}, handed bl lent fs xs = some (ys, false) → handed bl2 lent fs xs = some (ys, false)
 | fs, [], ys, h => by
  cases fs with
  | nil => simp only [handed] at h ⊢; exact h
  | cons f fs => cases f <;> simp only [handed] at h ⊢ <;> exact h
 | fs, x :: r, ys, h => by
  have low : ∀ {f : List Bool}, (if ((ids x).all fun i => !lent.contains i) = true then
   (match view bl x, handed bl lent f.tail r with | some y, some (l, b) => some (y :: l, b || !noOwn x) | _, _ => none) else none) = some (ys, false) →
   (if ((ids x).all fun i => !lent.contains i) = true then
   (match view bl2 x, handed bl2 lent f.tail r with | some y, some (l, b) => some (y :: l, b || !noOwn x) | _, _ => none) else none) = some (ys, false) := by
   intro f h
   split at h
   ·rename_i hi
    rw [if_pos hi]
    split at h
    ·rename_i y l b' hy hr
     simp only [Option.some.injEq, Prod.mk.injEq, Bool.or_eq_false_iff, Bool.not_eq_false'] at h
     obtain ⟨h1, rfl, hn⟩ := h
     rw [view_noOwn _ hn] at hy
     cases hy
     rw [view_noOwn _ hn, handed_alike hr]
     simp [h1, hn]
    ·cases h
   ·cases h
  cases fs with
  | nil => simp only [handed] at h ⊢; exact low (f := []) h
  | cons f fs =>
   cases f with
   | false => simp only [handed] at h ⊢; exact low (f := false :: fs) h
   | true =>
    simp only [handed] at h ⊢
    split at h
    ·rename_i l b' hr
     cases h
     rw [handed_alike hr]
    ·cases h
section
variable {R : Type} {C : Ctx}
theorem call_main {P : Program} {G : Nat → AV} {f : FuncId} {m : Callee} {args args' : List AV} {looks : Bool} {lent : List Nat} {v : AV} {out : Blks} {E : Env}
  (hm : Mem E) (hg : Glob G E) (hlt : ∀ i ∈ lent, i < E.bl.length) (hnd : lent.Nodup)
  (hh : handed E.bl lent m.lend args = some (args', looks)) (hf : FnOK P G f args' (lent.map fun i => (bget E.bl i).map (renB (pos lent))) v out)
  (hr : looks = true → noRef v = true ∧ refFree out = true) (hnf : noFrees E.bl lent = true) {vs : Array Value} (ha : Args E args vs) :
  CallDoes P f vs E.w fun v' w' => ∃ E', E'.w = w' ∧ E'.bl = putBack (backOf lent E.bl.length) lent out E.bl ∧ Go E E' ∧ VR E' true (ren (backOf lent E.bl.length) v) v' := by
 obtain ⟨g1, g2⟩ := handed_sound (lk := looks) hm hlt hh fun h => h
 refine (hf (E.lend lent looks) vs rfl (hm.lend hlt hnd) (hg.mono (lend_ro trivial) (fun _ _ _ _ h => h) lend_keeps) ⟨by rw [ha.size, g1], fun j y c hy hc => ?_⟩).mono fun v' w' ⟨E2, h1, h2, h3, h4⟩ => ?_
 ·obtain ⟨x, hx, hv⟩ := g2 j y hy
  exact hv c (ha.vr j x c hx hc)
 ·have B : BackIn E E2 lent looks out := ⟨hm, hlt, hnd, h3, h2, fun h => (hr h).2, hnf⟩
  refine ⟨E.back E2 lent looks out, h1, rfl, Go.back B, VR.turn (R0 := looks ≠ true) (Turn.back B) (fun hk b o h => ⟨by simp only [Env.back, hk, if_false]; exact h, rfl⟩) (fun _ _ _ _ h => h) h4 ?_⟩
  by_cases hk : looks = true
  ·exact .inr (hr hk).1
  ·exact .inl hk
theorem callK_sound {f : FuncId} {args : List AV} {bl : Blks} {K : Kont R} {r : R} (hΓ : ∀ f m, C.Γ f = some m → CalleeS C.P C.G f m) (h : callK C f args bl K = some r) :
  ∃ cat v bl', KS (R := R) (callK C f args) bl cat v bl' ∧ ∀ E, (E.bl = bl ∨ cat = .pure) → Mem E → Glob C.G E → ∀ vs, Args E args vs →
   CallDoes C.P f vs E.w fun v' w' => ∃ E', E'.w = w' ∧ (E'.bl = if cat = .pure then E.bl else bl') ∧ Go E E' ∧ VR E' true v v' := by
 unfold callK at h
 cases hm : C.Γ f with
 | none => rw [hm] at h; cases h
 | some m =>
 simp only [hm] at h
 obtain ⟨hnd, hlt⟩ := reach_spec bl 40 (lentIds m.lend args) [] List.nodup_nil (by simp)
 generalize hlent : reach bl 40 (lentIds m.lend args) [] = lent at h hnd hlt
 cases hh : handed bl lent m.lend args with
 | none => simp [hh] at h
 | some p =>
 obtain ⟨args', looks⟩ := p
 simp only [hh] at h
 obtain hno | ⟨v, out, hdet, hfn⟩ := hΓ f m hm args' (lent.map fun i => (bget bl i).map (renB (pos lent)))
 ·rw [hno] at h; cases h
 rw [hdet] at h
 have det : ∀ K2 : Kont R, callK C f args bl K2 = (if ((lentIds m.lend args).isEmpty && out.isEmpty) = true then
     (if noOwn v = true then
      (if looks = true then (if noRef v = true then K2 .read v bl else none) else K2 .pure v bl) else none)
    else (if ((!looks || (noRef v && refFree out)) && noFrees bl lent) = true then
     K2 .write (ren (backOf lent bl.length) v) (putBack (backOf lent bl.length) lent out bl) else none)) := fun K2 => by
  unfold callK
  simp only [hm, hlent, hh]
  rw [hdet]
 split at h
 ·rename_i he
  simp only [Bool.and_eq_true, List.isEmpty_iff] at he
  obtain ⟨he1, rfl⟩ := he
  have hl0 : lent = [] := by rw [← hlent, he1]; rfl
  subst hl0
  split at h
  ·rename_i hn
   have put0 : ∀ (n : Nat) (b : Blks), putBack (backOf [] n) [] [] b = b := fun n b => by simp [putBack]
   have key : ∀ E : Env, Mem E → Glob C.G E → handed E.bl [] m.lend args = some (args', looks) → (looks = true → noRef v = true) → ∀ vs, Args E args vs →
     CallDoes C.P f vs E.w fun v' w' => ∃ E', E'.w = w' ∧ E'.bl = E.bl ∧ Go E E' ∧ VR E' true v v' := fun E hM hG hH hr vs ha => by
    have := call_main (P := C.P) (G := C.G) (f := f) hM hG (lent := []) (by simp) List.nodup_nil hH hfn (fun h => ⟨hr h, rfl⟩) rfl ha
    rw [put0, ren_noOwn hn] at this
    exact this
   split at h
   ·rename_i hk
    split at h
    ·rename_i hr
     refine ⟨.read, v, bl, .ofRead fun K2 => by rw [det]; simp [he1, hn, hk, hr], fun E hE hM hG vs ha => ?_⟩
     rcases hE with rfl | hE
     ·exact key E hM hG hh (fun _ => hr) vs ha
     ·cases hE
    ·cases h
   ·rename_i hk
    have hk' : looks = false := by simpa using hk
    subst hk'
    refine ⟨.pure, v, bl, .ofPure fun b2 K2 => ?_, fun E hE hM hG vs ha => ?_⟩
    ·unfold callK
     simp only [hm, he1]
     rw [show reach b2 40 [] [] = [] from rfl]
     simp only [handed_alike (bl2 := b2) hh]
     simp only [List.map_nil] at hdet ⊢
     rw [hdet]
     simp [hn]
    ·exact key E hM hG (handed_alike hh) (fun h => by cases h) vs ha
  ·cases h
 ·rename_i he
  split at h
  ·rename_i hk
   refine ⟨.write, _, _, .ofWrite fun K2 => by rw [det, if_neg he, if_pos hk], fun E hE hM hG vs ha => ?_⟩
   rcases hE with rfl | hE
   ·simp only [reduceCtorEq, if_false]
    rw [Bool.and_eq_true] at hk
    refine call_main hM hG hlt hnd hh hfn (fun hk2 => ?_) hk.2 ha
    subst hk2
    simpa using hk.1
   ·cases hE
  ·cases h
end
end Go.Abs
end
section
set_option linter.unusedVariables false
set_option linter.unusedSimpArgs false
namespace Go.Abs
open Go
section
variable {R : Type} {C : Ctx}
theorem Sim.vr {x y : AV} (h : Sim x y) {E : Env} {o : Bool} {v : Value} (hv : VR E o x v) : VR E o y v := by
 have hs := h.same
 cases h with
 | refl => exact hv
 | nilr k => exact vr_snil_rints hv
 | nilo e w => exact vr_snil_robjs hv
 | agg xs ys hl h =>
  obtain ⟨cs, rfl, hf, hsz, hc⟩ := hv.agg_inv
  have hlen : (flats ys).length = (flats xs).length := by have := hs.len; simpa only [flat] using this
  refine .agg _ ys cs (hs.fit hf) (by rw [hsz, hlen]) fun j z' c hz' hcj => ?_
  have hj := (List.getElem?_eq_some_iff.1 hz').1
  have hz : (flats xs)[j]? = some ((flats xs)[j]'(by omega)) := List.getElem?_eq_getElem (by omega)
  exact hs.vr j _ z' (by simpa only [flat] using hz) (by simpa only [flat] using hz') E o c (hc j _ c hz hcj)
mutual
theorem eqAV_width : ∀ (x y : AV) (b : Bool), eqAV x y = some b → width x = width y
 | .agg a, y, b, h => by
  cases y <;> simp only [eqAV] at h <;> (try (cases h; done))
  simp only [width]; exact eqAVs_width _ _ _ h
 | .ints k n l, y, b, h => by
  cases y <;> simp only [eqAV] at h <;> (try (cases h; done))
  split at h <;> (try (cases h; done))
  split at h <;> (try (cases h; done))
  rename_i e; simp only [width, e]
 | .bool _, y, b, h => by cases y <;> simp [eqAV] at h <;> rfl
 | .int _ _, y, b, h => by cases y <;> simp [eqAV] at h <;> rfl
 | .str _, y, b, h => by cases y <;> simp [eqAV] at h <;> rfl
 | .any, y, b, h | .tup _, y, b, h | .nilp, y, b, h | .ptr _ _, y, b, h | .aptr _ _ _ _, y, b, h | .rptr _, y, b, h | .snil, y, b, h | .slice _ _ _ _ _, y, b, h | .own _ _, y, b, h
 | .rints _ _, y, b, h | .robjs _ _ _, y, b, h | .fn _ _ _, y, b, h | .nilf, y, b, h | .iface _ _, y, b, h | .nili, y, b, h | .raw _, y, b, h | .errv _ _ _, y, b, h | .rmap _, y, b, h => by simp [eqAV] at h
theorem eqAVs_width : ∀ (x y : List AV) (b : Bool), eqAVs x y = some b → widths x = widths y
 | [], y, b, h => by cases y <;> simp [eqAVs] at h; rfl
 | x :: a, y, b, h => by
  cases y with
  | nil => simp [eqAVs] at h
  | cons y r =>
   obtain ⟨p, q, h1, h2, _⟩ := eqAVs_cons h
   simp only [widths]; rw [eqAV_width x y p h1, eqAVs_width a r q h2]
end
theorem eqAVs_length : ∀ {x y : List AV} {b : Bool}, eqAVs x y = some b → x.length = y.length
 | [], y, b, h => by cases y <;> simp [eqAVs] at h; rfl
 | x :: a, y, b, h => by
  cases y with
  | nil => simp [eqAVs] at h
  | cons y r =>
   obtain ⟨p, q, h1, h2, _⟩ := eqAVs_cons h
   simp only [List.length_cons]; rw [eqAVs_length h2]
theorem confGo_eq {P : Program} {f : Nat} (ih : ∀ t x y b, eqAV x y = some b → conf P f t x = true → conf P f t y = true) : ∀ (fs : List Field) (x y : List AV) (off : Nat) (b : Bool),
  eqAVs x y = some b → confGo P (conf P f) fs x off = true → confGo P (conf P f) fs y off = true
 | [], [], y, off, b, h, hx => by cases y <;> simp [eqAVs] at h; exact hx
 | [], x :: a, y, off, b, h, hx => by simp [confGo] at hx
 | g :: fs, [], y, off, b, h, hx => by simp [confGo] at hx
 | g :: fs, x :: a, y, off, b, h, hx => by
  cases y with
  | nil => simp [eqAVs] at h
  | cons y r =>
   obtain ⟨p, q, h1, h2, _⟩ := eqAVs_cons h
   simp only [confGo, Bool.and_eq_true] at hx ⊢
   obtain ⟨⟨⟨a1, a2⟩, a3⟩, a4⟩ := hx
   rw [← eqAV_width x y p h1]
   exact ⟨⟨⟨a1, a2⟩, ih _ _ _ _ h1 a3⟩, confGo_eq ih fs a r _ q h2 a4⟩
theorem all_eq {P : Program} {f e n : Nat} (ih : ∀ t x y b, eqAV x y = some b → conf P f t x = true → conf P f t y = true) : ∀ (x y : List AV) (b : Bool),
  eqAVs x y = some b → x.all (fun y => conf P f e y && width y == n) = true → y.all (fun y => conf P f e y && width y == n) = true
 | [], y, b, h, hx => by cases y <;> simp [eqAVs] at h; rfl
 | x :: a, y, b, h, hx => by
  cases y with
  | nil => simp [eqAVs] at h
  | cons y r =>
   obtain ⟨p, q, h1, h2, _⟩ := eqAVs_cons h
   simp only [List.all_cons, Bool.and_eq_true] at hx ⊢
   rw [← eqAV_width x y p h1]
   exact ⟨⟨ih _ _ _ _ h1 hx.1.1, hx.1.2⟩, all_eq ih a r q h2 hx.2⟩
theorem conf_eq {P : Program} : ∀ (f : Nat) (t : TypeId) (x y : AV) (b : Bool), eqAV x y = some b → conf P f t x = true → conf P f t y = true
 | 0, t, x, y, b, h, hx => by simp [conf] at hx
 | f + 1, t, x, y, b, h, hx => by
  cases x <;> cases y <;> simp only [eqAV] at h <;> (try (cases h; done))
  ·unfold conf at hx ⊢
   cases hu : P.underlying t with
   | none => rw [hu] at hx; cases hx
   | some d => rw [hu] at hx; cases d <;> first | exact hx | cases hx
  ·split at h <;> (try (cases h; done))
   rename_i hk; subst hk
   unfold conf at hx ⊢
   cases hu : P.underlying t with
   | none => rw [hu] at hx; cases hx
   | some d => rw [hu] at hx; cases d <;> first | exact hx | cases hx
  ·unfold conf at hx ⊢
   cases hu : P.underlying t with
   | none => rw [hu] at hx; cases hx
   | some d => rw [hu] at hx; cases d <;> first | exact hx | cases hx
  ·rename_i a c
   unfold conf at hx ⊢
   cases hu : P.underlying t with
   | none => rw [hu] at hx; cases hx
   | some d =>
    rw [hu] at hx
    cases d <;> try (cases hx; done)
    ·simp only [Bool.and_eq_true] at hx ⊢
     rw [← eqAVs_length h, ← eqAVs_width _ _ _ h]
     exact ⟨⟨hx.1.1, all_eq (conf_eq f) _ _ _ h hx.1.2⟩, hx.2⟩
    ·simp only [Bool.and_eq_true] at hx ⊢
     rw [← eqAVs_width _ _ _ h]
     exact ⟨confGo_eq (conf_eq f) _ _ _ _ _ h hx.1, hx.2⟩
  ·split at h <;> (try (cases h; done))
   rename_i hk; subst hk
   split at h <;> (try (cases h; done))
   rename_i hn; subst hn
   unfold conf at hx ⊢
   cases hu : P.underlying t with
   | none => rw [hu] at hx; cases hx
   | some d => rw [hu] at hx; cases d <;> first | exact hx | cases hx
mutual
theorem eqAV_true : ∀ (x y : AV), keyAV x = true → eqAV x y = some true → x = y
 | .agg a, y, hk, h => by
  cases y <;> simp only [eqAV] at h <;> (try (cases h; done))
  rw [eqAVs_true _ _ (by simpa [keyAV] using hk) h]
 | .ints k n l, y, hk, h => by
  cases y <;> simp only [eqAV] at h <;> (try (cases h; done))
  split at h <;> (try (cases h; done))
  split at h <;> (try (cases h; done))
  rename_i e1 e2; subst e1; subst e2
  simp at h; subst h; rfl
 | .int k n, y, hk, h => by
  cases y <;> simp only [eqAV] at h <;> (try (cases h; done))
  split at h <;> (try (cases h; done))
  rename_i e1; subst e1
  simp at h; subst h; rfl
 | .bool _, y, hk, h | .str _, y, hk, h | .any, y, hk, h | .tup _, y, hk, h | .nilp, y, hk, h | .ptr _ _, y, hk, h | .aptr _ _ _ _, y, hk, h | .rptr _, y, hk, h | .snil, y, hk, h | .slice _ _ _ _ _, y, hk, h | .own _ _, y, hk, h
 | .rints _ _, y, hk, h | .robjs _ _ _, y, hk, h | .fn _ _ _, y, hk, h | .nilf, y, hk, h | .iface _ _, y, hk, h | .nili, y, hk, h | .raw _, y, hk, h | .errv _ _ _, y, hk, h | .rmap _, y, hk, h => by simp [keyAV] at hk
theorem eqAVs_true : ∀ (x y : List AV), keyAVs x = true → eqAVs x y = some true → x = y
 | [], y, hk, h => by cases y <;> simp [eqAVs] at h; rfl
 | x :: a, y, hk, h => by
  cases y with
  | nil => simp [eqAVs] at h
  | cons y r =>
   obtain ⟨p, q, h1, h2, h3⟩ := eqAVs_cons h
   simp only [keyAVs, Bool.and_eq_true] at hk
   have hp : p = true := by cases p with | true => rfl | false => cases h3
   subst hp
   have hq : q = true := by cases q with | true => rfl | false => cases h3
   subst hq
   rw [eqAV_true x y hk.1 h1, eqAVs_true a r hk.2 h2]
end
mutual
theorem key_flat : ∀ (x : AV), keyAV x = true → noOwn x = true ∧ solid x = true ∧ ∀ z ∈ flat x, ∃ k n, z = .int k n
 | .agg a, hk => by
  have := keys_flat a (by simpa [keyAV] using hk)
  exact ⟨by simpa [noOwn] using this.1, by simpa [solid] using this.2.1, by simpa [flat] using this.2.2⟩
 | .ints k n l, hk => ⟨rfl, rfl, fun z hz => by simp only [flat, List.mem_map] at hz; obtain ⟨m, _, rfl⟩ := hz; exact ⟨_, _, rfl⟩⟩
 | .int k n, hk => ⟨rfl, rfl, fun z hz => by simp only [flat, List.mem_singleton] at hz; exact ⟨_, _, hz⟩⟩
 | .bool _, hk | .str _, hk | .any, hk | .tup _, hk | .nilp, hk | .ptr _ _, hk | .aptr _ _ _ _, hk | .rptr _, hk | .snil, hk | .slice _ _ _ _ _, hk | .own _ _, hk
 | .rints _ _, hk | .robjs _ _ _, hk | .fn _ _ _, hk | .nilf, hk | .iface _ _, hk | .nili, hk | .raw _, hk | .errv _ _ _, hk | .rmap _, hk => by simp [keyAV] at hk
theorem keys_flat : ∀ (x : List AV), keyAVs x = true → noOwns x = true ∧ solids x = true ∧ ∀ z ∈ flats x, ∃ k n, z = .int k n
 | [], hk => ⟨rfl, rfl, fun z hz => by simp [flats] at hz⟩
 | x :: a, hk => by
  simp only [keyAVs, Bool.and_eq_true] at hk
  obtain ⟨a1, a2, a3⟩ := key_flat x hk.1
  obtain ⟨b1, b2, b3⟩ := keys_flat a hk.2
  refine ⟨by simp [noOwns, a1, b1], by simp [solids, a2, b2], fun z hz => ?_⟩
  simp only [flats, List.mem_append] at hz
  rcases hz with hz | hz
  ·exact a3 z hz
  ·exact b3 z hz
end
theorem VR.int_val {E : Env} {o : Bool} {k : IntKind} {n : Int} {v : Value} (h : VR E o (.int k n) v) : v = .int k n := by cases h; rfl
theorem key_det {x : AV} (hk : keyAV x = true) {E : Env} {o o' : Bool} {v w : Value} (hv : VR E o x v) (hw : VR E o' x w) : v = w := by
 cases x <;> try (simp [keyAV] at hk; done)
 ·rw [hv.int_val, hw.int_val]
 ·rename_i kids
  obtain ⟨cs, rfl, _, s1, h1⟩ := hv.agg_inv
  obtain ⟨ds, rfl, _, s2, h2⟩ := hw.agg_inv
  congr 1
  apply Array.ext (by rw [s1, s2])
  intro j hj1 hj2
  have hz : (flats kids)[j]? = some ((flats kids)[j]'(by omega)) := List.getElem?_eq_getElem (by omega)
  obtain ⟨k, n, e⟩ := (key_flat _ hk).2.2 _ (List.mem_of_getElem? (by simpa only [flat] using hz))
  have g1 := h1 j _ _ hz (Array.getElem?_eq_getElem hj1)
  have g2 := h2 j _ _ hz (Array.getElem?_eq_getElem hj2)
  rw [e] at g1 g2
  rw [g1.int_val, g2.int_val]
 ·cases hv; cases hw; rfl
theorem sameBits_int (n : Nat) (k : IntKind) (m : Int) : Instr.sameBits n (.int k m) (.int k m) = true := by cases n <;> simp [Instr.sameBits]
theorem sameBits_key {x : AV} (hk : keyAV x = true) {E : Env} {o : Bool} {v : Value} (hv : VR E o x v) : Instr.sameBits 10000 v v = true := by
 have agg : ∀ cs : Array Value, (∀ c ∈ cs.toList, ∃ k n, c = .int k n) → Instr.sameBits 10000 (.agg cs) (.agg cs) = true := fun cs h => by
  simp only [Instr.sameBits, beq_self_eq_true, Bool.true_and, List.all_eq_true]
  rintro ⟨a, b⟩ hab
  have e : a = b := by
   obtain ⟨i, hi⟩ := List.getElem?_of_mem hab
   rw [List.getElem?_zip_eq_some] at hi
   exact Option.some.inj (hi.1.symm.trans hi.2)
  subst e
  obtain ⟨k, n, rfl⟩ := h a (List.of_mem_zip hab).1
  exact sameBits_int _ _ _
 cases x <;> try (simp [keyAV] at hk; done)
 ·rw [hv.int_val]; exact sameBits_int _ _ _
 ·rename_i kids
  obtain ⟨cs, rfl, _, s1, h1⟩ := hv.agg_inv
  refine agg cs fun c hc => ?_
  obtain ⟨j, hj⟩ := List.getElem?_of_mem hc
  have hjl := (List.getElem?_eq_some_iff.1 hj).1
  have hz : (flats kids)[j]? = some ((flats kids)[j]'(by simp at hjl; omega)) := List.getElem?_eq_getElem (by simp at hjl; omega)
  obtain ⟨k, n, e⟩ := (key_flat _ hk).2.2 _ (List.mem_of_getElem? (by simpa only [flat] using hz))
  have g1 := h1 j _ _ hz (by simpa using hj)
  rw [e] at g1
  exact ⟨k, n, g1.int_val⟩
 ·cases hv
  refine agg _ fun c hc => ?_
  simp at hc
  obtain ⟨m, _, rfl⟩ := hc
  exact ⟨_, _, rfl⟩
theorem run_stays {P : Program} {w : World} {v : Value} (h : Instr.sameBits 10000 v v = true) : (Instr.keyThatStays v v).run P w = .ok v w := by
 simp [Instr.keyThatStays, h]
theorem keyAVs_mem : ∀ {l : List AV}, keyAVs l = true → ∀ x ∈ l, keyAV x = true
 | y :: r, h, x, hx => by
  simp only [keyAVs, Bool.and_eq_true] at h
  rcases List.mem_cons.1 hx with rfl | hx
  ·exact h.1
  ·exact keyAVs_mem h.2 x hx
theorem cellsAt_of {E : Env} {o : Bool} {l : List AV} {cs : Array Value} (h1 : cs.size = (flats l).length) (h2 : ∀ (j : Nat) x c, (flats l)[j]? = some x → cs[j]? = some c → VR E o x c) (n : Nat) (hn : n = 0) : CellsAt E o (flats l) cs n := fun j z hz => by
 subst hn
 have hj := (List.getElem?_eq_some_iff.1 hz).1
 have hc : cs[j]? = some (cs[j]'(by omega)) := Array.getElem?_eq_getElem (by omega)
 exact ⟨_, by rw [Nat.zero_add]; exact hc, h2 j z _ hz hc⟩
theorem checkKey_ok {P : Program} {E : Env} {o em : Bool} : ∀ (f : Nat) (d : Nat) (t : TypeId) (x : AV) (x' : Value) (w : World), eqTy P f t = true → keyAV x = true → conf P f t x = true → VR E o x x' → (Instr.checkKey em (d + f) t x').run P w = .ok () w
 | 0, d, t, x, x', w, ht, _, _, _ => by simp [eqTy] at ht
 | f + 1, d, t, x, x', w, ht, hk, hc, hv => by
  have ht0 := ht
  unfold eqTy at ht
  rw [show d + (f + 1) = (d + f) + 1 from rfl]
  split at ht <;> (try (cases ht; done))
  ·rename_i hu
   unfold conf at hc
   rw [hu] at hc
   cases x <;> simp at hc
   simp [keyAV] at hk
  ·rename_i k hu
   unfold conf at hc
   rw [hu] at hc
   cases x <;> simp at hc
   obtain ⟨rfl, _⟩ := hc
   rw [hv.int_val]
   exact MapKept.run_checkKey hu (by simp [MapKept.IsKey]) em (d + f)
  ·rename_i hu
   unfold conf at hc
   rw [hu] at hc
   cases x <;> simp at hc
   simp [keyAV] at hk
  ·rename_i n e hu
   obtain ⟨de, hue⟩ := eqTy_under ht
   obtain ⟨ie, hie⟩ := Go.Abs.info_of_underlying hue
   have hso : (sizeOf e).run P w = .ok (sizeQ P e) w := by simp [sizeOf, typeInfo, hie, sizeQ]
   rcases conf_array hc hu with ⟨k, l, rfl, hke, hsz⟩ | ⟨ka, f', hf', rfl, hla, hka⟩
   ·cases hv with
    | ints _ _ _ _ hl =>
     have huk := kindOf_inv hke
     cases f with
     | zero => simp [eqTy] at ht
     | succ f =>
     rw [Instr.checkKey]
     simp only [Sem.run_bind, run_underlying hu, Result.andThen_ok]
     simp only [Std.Legacy.Range.forIn_eq_forIn_range', Std.Legacy.Range.size, Nat.sub_zero, Nat.add_one_sub_one, Nat.div_one]
     have hall : ∀ j ∈ List.range' 0 n, j < l.length := fun j hj => by
      have := List.mem_range'_1.1 hj
      omega
     generalize List.range' 0 n = is at hall
     induction is with
     | nil => simp
     | cons j is ih =>
      have hj := hall j (by simp)
      have hp : (part e (l.map (Value.int k)).toArray (j * 1)).run P w = .ok (.int k (l.getD j 0)) w := by
       simp [part, run_isAgg huk, TypeDesc.isRow, List.getElem?_eq_getElem hj, Nat.mul_one]
      have hq : (Instr.checkKey em (d + (f + 1)) e (.int k (l.getD j 0))).run P w = .ok () w := MapKept.run_checkKey huk (by simp [MapKept.IsKey]) em (d + f)
      simp only [List.forIn_cons, Sem.run_bind, hso, hsz, Result.andThen_ok, hp, hq, Sem.run_pure]
      exact ih fun y hy => hall y (by simp [hy])
   ·cases hf'
    obtain ⟨xs, rfl, fa, sa, ca⟩ := hv.agg_inv
    have hks := keyAVs_mem (by simpa [keyAV] using hk)
    have key : ∀ (a : List AV) (i : Nat), (∀ x ∈ a, keyAV x = true ∧ (conf P f e x = true ∧ width x = sizeQ P e) ∧ Fit x) → CellsAt E o (flats a) xs (i * sizeQ P e) →
      (forIn (List.range' i a.length) PUnit.unit fun i _ => do
       Instr.checkKey em (d + f) e (← part e xs (i * (← sizeOf e)))
       pure (ForInStep.yield PUnit.unit)).run P w = .ok PUnit.unit w := by
     intro a
     induction a with
     | nil => intro i _ _; simp
     | cons x a ih =>
      intro i ha ca
      obtain ⟨a0, ⟨a1, a2⟩, a3⟩ := ha x (by simp)
      simp only [flats] at ca
      obtain ⟨vx, hx⟩ := part_sound (P := P) (E := E) (o := o) (cs := xs) (off := i * sizeQ P e) a1 a3 ca.left
      have cra := ca.right
      rw [a3.length, a2, ← Nat.succ_mul] at cra
      have h1 := checkKey_ok (em := em) f d e x vx w ht a0 a1 (hx w).2
      simp only [List.length_cons, List.range'_succ, List.forIn_cons, Sem.run_bind, hso, Result.andThen_ok, (hx w).1, h1, Sem.run_pure]
      exact ih (i + 1) (fun z hz => ha z (by simp [hz])) cra
    rw [Instr.checkKey]
    simp only [Sem.run_bind, run_underlying hu, Result.andThen_ok]
    simp only [Std.Legacy.Range.forIn_eq_forIn_range', Std.Legacy.Range.size, Nat.sub_zero, Nat.add_one_sub_one, Nat.div_one]
    rw [← hla]
    rw [key ka 0 (fun z hz => ⟨hks z hz, hka z hz, fa.kid hz⟩) (cellsAt_of sa ca _ (Nat.zero_mul _))]
    rfl
  ·rename_i fs hu
   obtain ⟨f1, ka, hf1, rfl, hcs⟩ := conf_struct hc hu
   clear hcs
   cases hf1
   unfold conf at hc
   rw [hu] at hc
   simp only [Bool.and_eq_true, Bool.not_eq_true', List.all_eq_true, bne_iff_ne, ne_eq] at hc ht
   obtain ⟨xs, rfl, fa, sa, ca⟩ := hv.agg_inv
   have hks := keyAVs_mem (by simpa [keyAV] using hk)
   rw [Instr.checkKey]
   simp only [Sem.run_bind, run_underlying hu, Result.andThen_ok]
   rw [← Array.forIn_toList]
   have hca := cellsAt_of sa ca 0 rfl
   have hconf := hc.1
   have hfa : ∀ x ∈ ka, Fit x := fun z hz => fa.kid hz
   have hg : ∀ g ∈ fs.toList, g.name ≠ "_" ∧ eqTy P f g.type = true := fun g hg => ht.2 g hg
   clear hc ht ht0 hu hv fa sa ca hk
   generalize fs.toList = L at hg hconf
   generalize 0 = off at hca hconf
   induction L generalizing ka off with
   | nil => simp
   | cons g L ih =>
    cases ka with
    | nil => simp [confGo] at hconf
    | cons y ka =>
     simp [confGo] at hconf
     obtain ⟨⟨⟨a1, a2⟩, a3⟩, a4⟩ := hconf
     simp only [flats] at hca
     obtain ⟨vx, hx⟩ := part_sound (P := P) (E := E) (o := o) (cs := xs) (off := off) a3 (hfa y (by simp)) hca.left
     have cra := hca.right
     rw [(hfa y (by simp)).length] at cra
     obtain ⟨hn, hty⟩ := hg g (by simp)
     have h1 := checkKey_ok (em := em) f d g.type y vx w hty (hks y (by simp)) a3 (hx w).2
     simp only [List.forIn_cons, Sem.run_bind, hn, ne_eq, not_false_eq_true, if_true, Result.andThen_ok, a1, (hx w).1, h1, Sem.run_pure]
     exact ih ka (fun z hz => hks z (by simp [hz])) (fun z hz => hfa z (by simp [hz])) (fun z hz => hg z (by simp [hz])) (off + width y) cra a4
theorem mfindL_cons {k x : AV} {r : List AV} {q : Option Nat} (h : mfindL k (x :: r) = some q) : ∃ k' v b, x = .agg [k', v] ∧ eqAV k k' = some b ∧ ((b = true ∧ q = some 0) ∨ (b = false ∧ ∃ q', mfindL k r = some q' ∧ q = q'.map (· + 1))) := by
 unfold mfindL at h
 split at h <;> (try (cases h; done))
 rename_i k' v
 split at h <;> (try (cases h; done))
 ·rename_i he
  cases h
  exact ⟨k', v, true, rfl, he, .inl ⟨rfl, rfl⟩⟩
 ·rename_i he
  refine ⟨k', v, false, rfl, he, .inr ⟨rfl, ?_⟩⟩
  split at h <;> (try (cases h; done))
  ·rename_i i hi; cases h; exact ⟨some i, hi, rfl⟩
  ·rename_i hi; cases h; exact ⟨none, hi, rfl⟩
theorem mfindL_at {k : AV} : ∀ {l : List AV} {i : Nat}, mfindL k l = some (some i) → ∃ k' v, l[i]? = some (.agg [k', v]) ∧ eqAV k k' = some true
 | [], i, h => by simp [mfindL] at h
 | x :: r, i, h => by
  obtain ⟨k', v, b, rfl, he, h2⟩ := mfindL_cons h
  rcases h2 with ⟨rfl, hq⟩ | ⟨rfl, q', hq', hq⟩
  ·cases hq; exact ⟨k', v, rfl, he⟩
  ·cases q' with
   | none => cases hq
   | some i' =>
    simp at hq; subst hq
    obtain ⟨k2, v2, h3, h4⟩ := mfindL_at hq'
    exact ⟨k2, v2, by simpa using h3, h4⟩
theorem findAsking_ok {P : Program} {E : Env} {kt : TypeId} {k : AV} {k' : Value} (ht : eqTy P 8 kt = true) (hc : conf P 8 kt k = true) (hk : VR E true k k') (w : World) :
  ∀ (l : List AV) (es : List MapEntry) (i0 : Nat) (q : Option Nat), es.length = l.length → (∀ (j : Nat) e kk v, es[j]? = some e → l[j]? = some (.agg [kk, v]) → VR E true kk e.key) → mfindL k l = some q →
   (Instr.findAsking kt k' es i0).run P w = .ok (q.map fun i => (i0 + i, (es.getD i default).val)) w
 | [], es, i0, q, hl, _, hq => by
  cases es with
  | nil => simp [mfindL] at hq; subst hq; simp [Instr.findAsking]
  | cons => simp at hl
 | x :: r, [], i0, q, hl, _, _ => by simp at hl
 | x :: r, e :: es, i0, q, hl, hv, hq => by
  obtain ⟨kk, v, b, rfl, he, h2⟩ := mfindL_cons hq
  have hkk := hv 0 e kk v rfl rfl
  have heq : (Op.equal kt k' e.key).run P w = .ok b w := eq_sound (P := P) (E := E) (o := true) 8 kt ht k kk b k' e.key hc (conf_eq 8 kt k kk b he hc) he hk hkk 9992 w
  rcases h2 with ⟨rfl, rfl⟩ | ⟨rfl, q', hq', rfl⟩
  ·simp [Instr.findAsking, heq]
  ·have ih := findAsking_ok ht hc hk w r es (i0 + 1) q' (by simpa using hl) (fun j e kk v h1 h2 => hv (j + 1) e kk v (by simpa using h1) (by simpa using h2)) hq'
   simp only [Instr.findAsking, Sem.run_bind, heq, Result.andThen_ok, Bool.false_eq_true, if_false, ih]
   cases q' with
   | none => rfl
   | some i => simp [Nat.add_assoc, Nat.add_comm 1 i]
theorem rowTy_inv {P : Program} {kt : TypeId} (h : rowTy P kt = true) : ∃ d, P.underlying kt = some d ∧ ∀ a b, Instr.sameNow d a b = none := by
 unfold rowTy at h
 split at h
 ·exact ⟨_, ‹_›, fun a b => by simp [Instr.sameNow]⟩
 ·exact ⟨_, ‹_›, fun a b => by simp [Instr.sameNow]⟩
 ·cases h
theorem findKey_ok {P : Program} {E : Env} {kt : TypeId} {k : AV} {k' : Value} (hr : rowTy P kt = true) (ht : eqTy P 8 kt = true) (hc : conf P 8 kt k = true) (hk : VR E true k k') (w : World)
  {l : List AV} {es : Array MapEntry} {q : Option Nat} (hl : es.size = l.length) (hv : ∀ (j : Nat) e kk v, es[j]? = some e → l[j]? = some (.agg [kk, v]) → VR E false kk e.key) (hq : mfindL k l = some q) :
  (Instr.findKey kt k' es.toList).run P w = .ok (q.map fun i => (i, (es.toList.getD i default).val)) w := by
 obtain ⟨d, hu, hs⟩ := rowTy_inv hr
 have ask := findAsking_ok ht hc hk w l es.toList 0 q (by simpa using hl) (fun j e kk v h1 h2 => (hv j e kk v (by simpa using h1) h2).lift) hq
 simp only [Nat.zero_add] at ask
 have hnow : Instr.findNow d k' es.toList 0 = match es.toList with | [] => some none | _ => none := by
  cases es.toList with
  | nil => rfl
  | cons e r => simp [Instr.findNow, hs]
 simp only [Instr.findKey, Sem.run_bind, run_underlying hu, Result.andThen_ok]
 rw [hnow]
 cases hes : es.toList with
 | nil =>
  have : l = [] := by
   have : es.size = 0 := by have := congrArg List.length hes; simpa using this
   exact List.length_eq_zero_iff.1 (by omega)
  subst this
  simp [mfindL] at hq
  subst hq
  simp
 | cons e r => rw [hes] at ask; exact ask
theorem ent_of {k v : AV} (h1 : Fit k) (h2 : noOwn k = true) (h3 : solid k = true) (h4 : Fit v) (h5 : noOwn v = true) (h6 : solid v = true) : Ent (.agg [k, v]) :=
 ⟨k, v, rfl, .agg _ fun x hx => by simp at hx; rcases hx with rfl | rfl; exact h1; exact h4, by simp [noOwn, noOwns, h2, h5], by simp [solid, solids, h3, h6]⟩
theorem entsOf_at {bl : Blks} {m : AV} {c : Cat} {l : List AV} (h : entsOf bl m = some (c, l)) {E : Env} (hE : E.bl = bl ∨ c = .pure) (mm : Mem E) {m' : Value} (hv : VR E true m m') :
  ∃ rr es cl, m' = .map (some rr) ∧ E.w.heap[rr]? = some (.map es cl) ∧ es.size = l.length ∧ (∀ x ∈ l, Ent x) ∧
   ∀ (j : Nat) e k v, es[j]? = some e → l[j]? = some (.agg [k, v]) → VR E false k e.key ∧ VR E false v e.val := by
 unfold entsOf at h
 split at h <;> (try (cases h; done))
 ·cases h
  cases hv with
  | rmap _ _ r es cl hr hh hs hst hl hk hvv => exact ⟨r, es, cl, rfl, hh, hs, hl, fun j e k v h1 h2 => ⟨hk j e k v h1 h2, hvv j e k v h1 h2⟩⟩
 ·split at h <;> (try (cases h; done))
  rename_i l' hb
  cases h
  rcases hE with rfl | hE
  ·cases hv with
   | own _ _ len a cap hid hc hh => have g := (hh _ hb).1; simp [rowB] at g
   | mown _ r hid hh =>
    obtain ⟨_, rfl⟩ := hh _ hb
    obtain ⟨_, es, cl, h1, h2, h3, h4⟩ := (mm.ok _ _ hb).mp _ rfl
    exact ⟨_, es, cl, rfl, h1, h2, (mm.ok _ _ hb).fit, h4⟩
  ·cases hE
theorem entsOf_cat {bl : Blks} {m : AV} {c : Cat} {l : List AV} (h : entsOf bl m = some (c, l)) : (c = .pure ∧ ∀ bl2, entsOf bl2 m = some (.pure, l)) ∨ c = .read := by
 unfold entsOf at h
 split at h <;> (try (cases h; done))
 ·cases h; exact .inl ⟨rfl, fun _ => rfl⟩
 ·split at h <;> (try (cases h; done))
  cases h; exact .inr rfl
theorem keyOK_inv {kt : TypeId} {k : AV} (h : keyOK C kt k = true) : rowTy C.P kt = true ∧ eqTy C.P 8 kt = true ∧ conf C.P 8 kt k = true ∧ keyAV k = true := by
 simp only [keyOK, Bool.and_eq_true] at h
 exact ⟨h.1.1.1, h.1.1.2, h.1.2, h.2⟩
theorem lookK_sound {t : TypeId} {m k : AV} {ok : Bool} {bl : Blks} {K : Kont R} {r : R} (h : lookK C t m k ok bl K = some r) :
  ∃ cat v, KS (R := R) (lookK C t m k ok) bl cat v bl ∧ cat ≠ .write ∧ ∀ E, (E.bl = bl ∨ cat = .pure) → Mem E → ∀ m' k', VR E true m m' → VR E true k k' → ∃ v', (Instr.lookup t m' k' ok).run C.P E.w = .ok v' E.w ∧ VR E true v v' := by
 unfold lookK at h
 split at h <;> (try (cases h; done))
 rename_i kt et c l hu hl
 split at h <;> (try (cases h; done))
 rename_i hk
 split at h <;> (try (cases h; done))
 rename_i z hz
 obtain ⟨p, hp, h⟩ := bindO_inv h
 obtain ⟨y, hd, hsim⟩ := decK_sound h
 have hF : ∀ bl2, entsOf bl2 m = some (c, l) → ∀ K2 : Kont R, lookK C t m k ok bl2 K2 = K2 c (if ok = true then .tup [y, .bool p.2] else y) bl2 := fun bl2 h2 K2 => by
  simp only [lookK, hu, h2, hk, if_true, hz, hp]
  exact (hd fun y => if ok = true then K2 c (.tup [y, .bool p.2]) bl2 else K2 c y bl2).trans (by cases ok <;> rfl)
 refine ⟨c, if ok = true then .tup [y, .bool p.2] else y, ?_, ?_, fun E hE mm m' k' hm hkv => ?_⟩
 ·rcases entsOf_cat hl with ⟨rfl, h2⟩ | rfl
  ·exact .ofPure fun bl2 K2 => hF bl2 (h2 bl2) K2
  ·exact .ofRead fun K2 => hF bl hl K2
 ·rcases entsOf_cat hl with ⟨rfl, _⟩ | rfl <;> simp
 ·obtain ⟨rr, es, cl, rfl, hh, hs, hen, hvv⟩ := entsOf_at hl hE mm hm
  obtain ⟨k1, k2, k3, k4⟩ := keyOK_inv hk
  obtain ⟨i, v, h1, h2, h3, h4, h5, h6, h7⟩ := zeroOf_sound hz
  have hck : ∀ em, (Instr.checkKey em 10000 kt k').run C.P E.w = .ok () E.w := fun em => checkKey_ok (em := em) 8 9992 kt k k' E.w k2 k4 k3 hkv
  have hg : (getObj rr).run C.P E.w = .ok (.map es cl) E.w := MapKept.run_getObj_map hh
  have done : ∀ (q : Option Nat) (v0 : Value) (b0 : Bool), mfindL k l = some q → (match q with | some i => v0 = (es.toList.getD i default).val ∧ b0 = true | none => v0 = v ∧ b0 = false) →
    (Instr.lookup t (.map (some rr)) k' ok).run C.P E.w = .ok (if ok = true then .tuple #[v0, .bool b0] else v0) E.w := fun q v0 b0 hq hv0 => by
   have hf := findKey_ok k1 k2 k3 hkv E.w hs (fun j e kk v h1 h2 => (hvv j e kk v h1 h2).1) hq
   cases q with
   | none =>
    obtain ⟨rfl, rfl⟩ := hv0
    simp only [Option.map_none] at hf
    simp [Instr.lookup, run_underlying hu, hg, hck, hf, h3, Result.andThen]
   | some i =>
    obtain ⟨rfl, rfl⟩ := hv0
    simp only [Option.map_some] at hf
    simp [Instr.lookup, run_underlying hu, hg, hck, hf, h3, Result.andThen]
  have fin : ∀ (v0 : Value), VR E true p.1 v0 → VR E true (if ok = true then .tup [y, .bool p.2] else y) (if ok = true then .tuple #[v0, .bool p.2] else v0) := fun v0 hv0 => by
   have hy := hsim.vr hv0
   cases ok
   ·exact hy
   ·refine .tup _ _ _ rfl fun j x c hx hc => ?_
    match j with
    | 0 => simp at hx hc; subst hx; subst hc; exact hy
    | 1 => simp at hx hc; subst hx; subst hc; exact .bool _ _
    | j + 2 => simp at hx
  unfold mgetL at hp
  split at hp <;> (try (cases hp; done))
  ·rename_i i hq
   cases hp
   obtain ⟨k0, v0, hli, _⟩ := mfindL_at hq
   have hil := (List.getElem?_eq_some_iff.1 hli).1
   have hei : es[i]? = some (es[i]'(by omega)) := Array.getElem?_eq_getElem (by omega)
   have hgd : es.toList.getD i default = es[i]'(by omega) := by simp [show i < es.size by omega]
   have hv0 : valOf (l.getD i .any) = v0 := by simp [hli, valOf]
   refine ⟨_, done (some i) _ true hq ⟨rfl, rfl⟩, fin _ ?_⟩
   simp only [hv0, hgd]
   exact (hvv i _ k0 v0 hei hli).2.lift
  ·rename_i hq
   cases hp
   exact ⟨_, done none v false hq ⟨rfl, rfl⟩, fin _ (h4 E true)⟩
theorem Stamps.push {es : Array MapEntry} {c : Nat} (h : Stamps es c) (k v : Value) : Stamps (es.push { key := k, val := v, born := c }) (c + 1) := by
 obtain ⟨h1, h2⟩ := h
 refine ⟨fun e he => ?_, ?_⟩
 ·simp at he
  rcases he with he | rfl
  ·have := h1 e (by simpa using he); omega
  ·simp
 ·simp only [Array.toList_push]
  refine List.pairwise_append.2 ⟨h2, by simp, fun a ha b hb => ?_⟩
  simp at hb; subst hb
  have := h1 a ha
  simp; omega
theorem Stamps.modify {es : Array MapEntry} {c : Nat} (h : Stamps es c) (i : Nat) (f : MapEntry → MapEntry) (hf : ∀ e, (f e).born = e.born) : Stamps (es.modify i f) c := by
 have e : (es.modify i f).toList.map (·.born) = es.toList.map (·.born) := by
  apply List.ext_getElem?
  intro j
  simp only [List.getElem?_map, Array.getElem?_toList, Array.getElem?_modify]
  split
  ·cases es[j]? <;> simp [hf]
  ·rfl
 obtain ⟨h1, h2⟩ := h
 refine ⟨fun x hx => ?_, ?_⟩
 ·have : x.born ∈ (es.modify i f).toList.map (·.born) := List.mem_map_of_mem hx
  rw [e] at this
  obtain ⟨y, hy, hyx⟩ := List.mem_map.1 this
  rw [← hyx]; exact h1 y hy
 ·have h3 : (es.toList.map (·.born)).Pairwise (· ≠ ·) := List.pairwise_map.2 h2
  rw [← e] at h3
  exact List.pairwise_map.1 h3
theorem Stamps.erase {es : Array MapEntry} {c : Nat} (h : Stamps es c) (i : Nat) : Stamps (es.eraseIdxIfInBounds i) c := by
 have hs : (es.eraseIdxIfInBounds i).toList.Sublist es.toList := by
  unfold Array.eraseIdxIfInBounds
  split
  ·rw [Array.toList_eraseIdx]; exact List.eraseIdx_sublist _ _
  ·exact List.Sublist.refl _
 exact ⟨fun e he => h.1 e (hs.subset he), h.2.sublist hs⟩
theorem own_map {E : Env} (mm : Mem E) {id w : Nat} {l : List AV} (hb : bget E.bl id = some (.mp l)) {m' : Value} (hv : VR E true (.own id w) m') :
  ∃ es cl, m' = .map (some (E.loc id).1) ∧ E.w.heap[(E.loc id).1]? = some (.map es cl) ∧ es.size = l.length ∧ Stamps es cl ∧ (∀ x ∈ l, Ent x) ∧
   ∀ (j : Nat) e k v, es[j]? = some e → l[j]? = some (.agg [k, v]) → VR E false k e.key ∧ VR E false v e.val := by
 cases hv with
 | own _ _ len a cap hid hc hh => have g := (hh _ hb).1; simp [rowB] at g
 | mown _ r hid hh =>
  obtain ⟨_, rfl⟩ := hh _ hb
  obtain ⟨_, es, cl, h1, h2, h3, h4⟩ := (mm.ok _ _ hb).mp _ rfl
  exact ⟨es, cl, rfl, h1, h2, h3, (mm.ok _ _ hb).fit, h4⟩
theorem run_setMap {P : Program} {E : Env} {id : Nat} {es es' : Array MapEntry} {cl cl' : Nat} {l : List AV} (h : E.w.heap[(E.loc id).1]? = some (.map es cl)) : (setObj (E.loc id).1 (.map es' cl')).run P E.w = .ok () (E.mset id es' cl' l).w :=
 MapKept.run_setObj_map _ h
theorem mapUpdK_sound {t : TypeId} {m k v : AV} {bl : Blks} {K : Kont R} {r : R} (h : mapUpdK C t m k v bl K = some r) :
  ∃ bl', KS (R := R) (mapUpdK C t m k v) bl .write .any bl' ∧ ∀ E, E.bl = bl → Mem E → ∀ m' k' v', VR E true m m' → VR E true k k' → VR E true v v' → ∃ E', (Instr.mapUpdate t m' k' v').run C.P E.w = .ok () E'.w ∧ E'.bl = bl' ∧ Go E E' := by
 unfold mapUpdK at h
 split at h <;> (try (cases h; done))
 rename_i kt et id w hu
 split at h <;> (try (cases h; done))
 rename_i l hb
 split at h <;> (try (cases h; done))
 rename_i hk
 obtain ⟨l', hp, h⟩ := bindO_inv h
 refine ⟨bl.set id (some (.mp l')), .ofWrite fun K2 => by simp only [mapUpdK, hu, hb, if_pos hk, hp]; rfl, fun E hE mm m' k' v' hm hkv hvv => ?_⟩
 subst hE
 simp only [Bool.and_eq_true] at hk
 obtain ⟨⟨⟨hk, hcv⟩, hnv⟩, hsv⟩ := hk
 obtain ⟨k1, k2, k3, k4⟩ := keyOK_inv hk
 obtain ⟨es, cl, rfl, hh, hs, hst, hen, hat⟩ := own_map mm hb hm
 have hck : ∀ em, (Instr.checkKey em 10000 kt k').run C.P E.w = .ok () E.w := fun em => checkKey_ok (em := em) 8 9992 kt k k' E.w k2 k4 k3 hkv
 have hg : (getObj (E.loc id).1).run C.P E.w = .ok (.map es cl) E.w := MapKept.run_getObj_map hh
 obtain ⟨n1, n2, _⟩ := key_flat k k4
 have kfit : Fit k := (hkv.cells ⟨fun e => by subst e; simp [solid] at n2, fun vs e => by subst e; simp [solid] at n2⟩).1
 have vfit : Fit v := (hvv.cells ⟨fun e => by subst e; simp [solid] at hsv, fun vs e => by subst e; simp [solid] at hsv⟩).1
 have hent : Ent (.agg [k, v]) := ent_of kfit n1 n2 vfit hnv hsv
 have hkl := hkv.low n1
 have hvl := hvv.low hnv
 unfold mputL at hp
 split at hp <;> (try (cases hp; done))
 ·rename_i i hq
  cases hp
  obtain ⟨k0, v0, hli, heq⟩ := mfindL_at hq
  have hil := (List.getElem?_eq_some_iff.1 hli).1
  have hei : es[i]? = some (es[i]'(by omega)) := Array.getElem?_eq_getElem (by omega)
  have hf := findKey_ok k1 k2 k3 hkv E.w hs (fun j e kk v h1 h2 => (hat j e kk v h1 h2).1) hq
  simp only [Option.map_some] at hf
  have hkk : (es[i]'(by omega)).key = k' := by
   have h1 := (hat i _ k0 v0 hei hli).1
   have h2 := eqAV_true k k0 k4 heq
   rw [← h2] at h1
   exact key_det k4 h1 hkl
  have hstay := run_stays (P := C.P) (w := E.w) (sameBits_key k4 hkv)
  refine ⟨E.mset id (es.modify i fun e => { e with key := k', val := v' }) cl (l.set i (.agg [k, v])), ?_, rfl, Go.mset mm id l _ hb _ _ (by simp [hs]) (hst.modify i _ fun _ => rfl) (fun x hx => ?_) (fun j e kk vv he hl => ?_)⟩
  ·have hset := run_setMap (P := C.P) (es' := es.modify i fun e => { e with key := k', val := v' }) (cl' := cl) (l := l.set i (.agg [k, v])) hh
   simp [Instr.mapUpdate, run_underlying hu, hg, hck, hf, Result.andThen, hei, hkk, hstay, hset]
  ·rcases List.mem_or_eq_of_mem_set hx with hx | rfl
   ·exact hen x hx
   ·exact hent
  ·rw [Array.getElem?_modify] at he
   rw [List.getElem?_set] at hl
   by_cases hj : i = j
   ·subst hj
    rw [if_pos rfl, hei] at he
    simp at he
    rw [if_pos rfl, if_pos hil] at hl
    cases hl
    subst he
    exact ⟨hkl, hvl⟩
   ·rw [if_neg hj] at he hl
    exact hat j e kk vv he hl
 ·rename_i hq
  cases hp
  have hf := findKey_ok k1 k2 k3 hkv E.w hs (fun j e kk v h1 h2 => (hat j e kk v h1 h2).1) hq
  simp only [Option.map_none] at hf
  refine ⟨E.mset id (es.push { key := k', val := v', born := cl }) (cl + 1) (l ++ [.agg [k, v]]), ?_, rfl, Go.mset mm id l _ hb _ _ (by simp [hs]) (hst.push k' v') (fun x hx => ?_) (fun j e kk vv he hl => ?_)⟩
  ·have hset := run_setMap (P := C.P) (es' := es.push { key := k', val := v', born := cl }) (cl' := cl + 1) (l := l ++ [.agg [k, v]]) hh
   simp [Instr.mapUpdate, run_underlying hu, hg, hck, hf, Result.andThen, hset]
  ·rcases List.mem_append.1 hx with hx | hx
   ·exact hen x hx
   ·simp at hx; subst hx; exact hent
  ·rw [Array.getElem?_push] at he
   by_cases hj : j = es.size
   ·rw [if_pos hj] at he
    cases he
    rw [List.getElem?_append_right (by omega), show j - l.length = 0 by omega] at hl
    cases hl
    exact ⟨hkl, hvl⟩
   ·rw [if_neg hj] at he
    have hjl := (Array.getElem?_eq_some_iff.1 he).1
    rw [List.getElem?_append_left (by omega)] at hl
    exact hat j e kk vv he hl
theorem deleteK_sound {t : TypeId} {m k : AV} {bl : Blks} {K : Kont R} {r : R} (h : deleteK C t m k bl K = some r) :
  ∃ bl', KS (R := R) (deleteK C t m k) bl .write .any bl' ∧ ∀ E, E.bl = bl → Mem E → ∀ m' k' (ts : Array TypeId) ty, ts[0]? = some t → VR E true m m' → VR E true k k' → Out E C.P .write .any bl' (Builtin.delete_ ts ty #[m', k']) := by
 unfold deleteK at h
 split at h <;> (try (cases h; done))
 rename_i kt et id w hu
 split at h <;> (try (cases h; done))
 rename_i l hb
 split at h <;> (try (cases h; done))
 rename_i hk
 obtain ⟨l', hp, h⟩ := bindO_inv h
 refine ⟨bl.set id (some (.mp l')), .ofWrite fun K2 => by simp only [deleteK, hu, hb, if_pos hk, hp]; rfl, fun E hE mm m' k' ts ty hts hm hkv => ?_⟩
 subst hE
 obtain ⟨k1, k2, k3, k4⟩ := keyOK_inv hk
 obtain ⟨es, cl, rfl, hh, hs, hst, hen, hat⟩ := own_map mm hb hm
 have hck : ∀ em, (Instr.checkKey em 10000 kt k').run C.P E.w = .ok () E.w := fun em => checkKey_ok (em := em) 8 9992 kt k k' E.w k2 k4 k3 hkv
 have hg : (getObj (E.loc id).1).run C.P E.w = .ok (.map es cl) E.w := MapKept.run_getObj_map hh
 unfold mdelL at hp
 split at hp <;> (try (cases hp; done))
 ·rename_i i hq
  cases hp
  obtain ⟨k0, v0, hli, heq⟩ := mfindL_at hq
  have hil := (List.getElem?_eq_some_iff.1 hli).1
  have hf := findKey_ok k1 k2 k3 hkv E.w hs (fun j e kk v h1 h2 => (hat j e kk v h1 h2).1) hq
  simp only [Option.map_some] at hf
  have hel : (es.eraseIdxIfInBounds i).toList = es.toList.eraseIdx i := by
   unfold Array.eraseIdxIfInBounds
   rw [dif_pos (show i < es.size by omega), Array.toList_eraseIdx]
  have hesz : (es.eraseIdxIfInBounds i).size = (l.eraseIdx i).length := by
   have := congrArg List.length hel
   simp only [Array.length_toList, List.length_eraseIdx] at this
   rw [this, List.length_eraseIdx, hs]
  refine ⟨.tuple #[], E.mset id (es.eraseIdxIfInBounds i) cl (l.eraseIdx i), ?_, by simp [Env.mset], Go.mset mm id l _ hb _ _ hesz (hst.erase i) (fun x hx => hen x ((List.eraseIdx_sublist _ _).subset hx)) (fun j e kk vv he hl => ?_), .any _ _⟩
  ·have hset := run_setMap (P := C.P) (es' := es.eraseIdxIfInBounds i) (cl' := cl) (l := l.eraseIdx i) hh
   simp [Builtin.delete_, hts, run_underlying hu, hg, hck, hf, Result.andThen, hset]
  ·rw [← Array.getElem?_toList, hel, List.getElem?_eraseIdx] at he
   rw [List.getElem?_eraseIdx] at hl
   split at he
   ·rename_i hj
    rw [if_pos hj] at hl
    exact hat j e kk vv (by simpa using he) hl
   ·rename_i hj
    rw [if_neg hj] at hl
    exact hat (j + 1) e kk vv (by simpa using he) hl
 ·rename_i hq
  cases hp
  have hf := findKey_ok k1 k2 k3 hkv E.w hs (fun j e kk v h1 h2 => (hat j e kk v h1 h2).1) hq
  simp only [Option.map_none] at hf
  refine ⟨.tuple #[], E.mset id es cl l, ?_, by simp [Env.mset], Go.mset mm id l _ hb _ _ hs hst hen hat, .any _ _⟩
  have hset := run_setMap (P := C.P) (es' := es) (cl' := cl) (l := l) hh
  simp [Builtin.delete_, hts, run_underlying hu, hg, hck, hf, Result.andThen, hset]
theorem makeMapK_sound {t : TypeId} {bl : Blks} {K : Kont R} {r : R} (h : makeMapK C t bl K = some r) :
  ∃ cat v bl', KS (R := R) (makeMapK C t) bl cat v bl' ∧ ∀ E, (E.bl = bl ∨ cat = .pure) → Mem E → Out E C.P cat v bl' (Instr.makeMap t none) := by
 unfold makeMapK at h
 split at h
 ·rename_i hr
  refine ⟨.write, .own bl.length 0, bl ++ [some (.mp [])], .ofWrite fun K2 => by simp only [makeMapK, hr], fun E hE m => ?_⟩
  rcases hE with rfl | hE
  ·obtain ⟨g, v⟩ := Go.newMo m
   exact ⟨_, E.newMo, by simp [Instr.makeMap, Env.newMo], by simp [Env.newMo], g, v⟩
  ·cases hE
 ·rename_i hr
  refine ⟨.pure, .rmap [], bl, .ofPure fun bl K2 => by simp only [makeMapK, hr], fun E hE m => ?_⟩
  obtain ⟨g, v⟩ := Go.newMp m
  exact ⟨_, E.newMp, by simp [Instr.makeMap, Env.newMp], by simp [Env.newMp], g, v⟩
end
end Go.Abs
end
