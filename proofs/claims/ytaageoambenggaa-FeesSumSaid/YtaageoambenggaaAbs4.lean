/- An executor of the model's code over abstract values, and that it is right: what it tells of a run is what the run does. No condition. -/
import Derived.Test.YtaageoambenggaaAbs3
import Derived.Laws.Entries
section
set_option linter.unusedVariables false
set_option linter.unusedSimpArgs false
namespace Go.Abs
open Go

mutual
theorem view_noOwn (bl : Blks) : ∀ {x : AV}, noOwn x = true → view bl x = some x
  | .agg kids, h => by unfold view; rw [views_noOwn bl (by simpa [noOwn] using h)]
  | .tup kids, h => by unfold view; rw [views_noOwn bl (by simpa [noOwn] using h)]
  | .fn f a b, h => by
    simp only [noOwn, Bool.and_eq_true] at h
    unfold view; rw [views_noOwn bl h.1, views_noOwn bl h.2]
  | .iface t v, h => by unfold view; rw [view_noOwn bl (by simpa [noOwn] using h)]
  | .any, _ | .bool _, _ | .int _ _, _ | .str _, _ | .nilp, _ | .rptr _, _ | .snil, _ | .rints _ _, _ | .robjs _ _ _, _ | .ints _ _ _, _ | .nilf, _ | .nili, _ => by simp [view]
  | .ptr _ _, h | .aptr _ _ _ _, h | .slice _ _ _ _ _, h | .own _ _, h => by simp [noOwn] at h
theorem views_noOwn (bl : Blks) : ∀ {l : List AV}, noOwns l = true → views bl l = some l
  | [], _ => rfl
  | x :: r, h => by
    simp only [noOwns, Bool.and_eq_true] at h
    unfold views; rw [view_noOwn bl h.1, views_noOwn bl h.2]
end
theorem views_get (bl : Blks) : ∀ {l l' : List AV}, views bl l = some l' → l'.length = l.length ∧ ∀ (j : Nat) y, l'[j]? = some y → ∃ x, l[j]? = some x ∧ view bl x = some y
  | [], l', h => by cases h; exact ⟨rfl, fun j y h => by simp at h⟩
  | x :: r, l', h => by
    unfold views at h
    split at h
    · rename_i y r' h1 h2
      cases h
      obtain ⟨g1, g2⟩ := views_get bl h2
      refine ⟨by simp [g1], fun j z hz => ?_⟩
      cases j with
      | zero => simp at hz; subst hz; exact ⟨x, rfl, h1⟩
      | succ j => exact g2 j z (by simpa using hz)
    · cases h
theorem view_leaf (bl : Blks) {x y : AV} (hx : Leaf x) (h : view bl x = some y) : Leaf y := by
  unfold view at h
  split at h
  all_goals try (exact absurd rfl (hx.1 _))
  all_goals (repeat' (split at h))
  all_goals (first | (cases h; done) | (cases h; exact hx) | (cases h; exact ⟨by simp, by simp⟩))
mutual
theorem flat_view (bl : Blks) : ∀ {x y : AV}, view bl x = some y → (flat y).length = (flat x).length ∧ width y = width x ∧ ∀ (j : Nat) z, (flat y)[j]? = some z → ∃ u, (flat x)[j]? = some u ∧ view bl u = some z
  | .agg kids, y, h => by
    unfold view at h
    split at h
    · rename_i l hl
      cases h
      simpa only [flat, width] using flats_view bl hl
    · cases h
  | .ints k n l, y, h => by
    simp only [view] at h
    cases h
    refine ⟨rfl, rfl, fun j z hz => ⟨z, hz, ?_⟩⟩
    have := List.mem_of_getElem? hz
    simp only [flat, List.mem_map] at this
    obtain ⟨u, _, rfl⟩ := this
    simp [view]
  | .any, y, h | .tup _, y, h | .bool _, y, h | .int _ _, y, h | .str _, y, h | .nilp, y, h | .ptr _ _, y, h | .aptr _ _ _ _, y, h | .rptr _, y, h | .snil, y, h | .slice _ _ _ _ _, y, h | .own _ _, y, h
  | .rints _ _, y, h | .robjs _ _ _, y, h | .fn _ _ _, y, h | .nilf, y, h | .iface _ _, y, h | .nili, y, h => by
    have hy := (view_leaf bl ⟨by simp, by simp⟩ h).one
    rw [hy.1, hy.2]
    refine ⟨by simp [flat], by simp [width], fun j z hz => ?_⟩
    cases j with
    | zero => simp at hz; subst hz; exact ⟨_, by simp [flat], h⟩
    | succ j => simp at hz
theorem flats_view (bl : Blks) : ∀ {l l' : List AV}, views bl l = some l' → (flats l').length = (flats l).length ∧ widths l' = widths l ∧ ∀ (j : Nat) z, (flats l')[j]? = some z → ∃ u, (flats l)[j]? = some u ∧ view bl u = some z
  | [], l', h => by cases h; exact ⟨rfl, rfl, fun j z h => by simp [flats] at h⟩
  | x :: r, l', h => by
    unfold views at h
    split at h
    · rename_i y r' h1 h2
      cases h
      obtain ⟨a1, a2, a3⟩ := flat_view bl h1
      obtain ⟨b1, b2, b3⟩ := flats_view bl h2
      refine ⟨by simp [flats, a1, b1], by simp [widths, a2, b2], fun j z hz => ?_⟩
      simp only [flats] at hz ⊢
      rcases Nat.lt_or_ge j (flat y).length with hj | hj
      · rw [List.getElem?_append_left hj] at hz
        rw [List.getElem?_append_left (by omega)]
        exact a3 j z hz
      · rw [List.getElem?_append_right hj] at hz
        rw [List.getElem?_append_right (by omega), ← a1]
        exact b3 _ z hz
    · cases h
end
theorem fit_view (bl : Blks) {x : AV} (hf : Fit x) : ∀ {y : AV}, view bl x = some y → Fit y := by
  induction hf with
  | ints k n l h => intro y hy; simp only [view] at hy; cases hy; exact .ints _ _ _ h
  | agg kids h ih =>
    intro y hy
    unfold view at hy
    split at hy
    · rename_i l hl
      cases hy
      refine .agg _ fun z hz => ?_
      obtain ⟨j, hj⟩ := List.getElem?_of_mem hz
      obtain ⟨x, h1, h2⟩ := (views_get bl hl).2 j z hj
      exact ih x (List.mem_of_getElem? h1) h2
    · cases hy
  | leaf x h => intro y hy; exact .leaf _ (view_leaf bl h hy)
theorem noOwn_flats {l : List AV} (h : ∀ y ∈ l, noOwn y = true) : noOwns l = true := by
  induction l with
  | nil => rfl
  | cons x r ih => simp only [noOwns, h x (by simp), ih fun y hy => h y (by simp [hy])]; rfl
mutual
theorem view_low (bl : Blks) : ∀ {x y : AV}, view bl x = some y → noOwn y = true
  | .agg kids, y, h => by
    unfold view at h
    split at h
    · rename_i l hl; cases h; simpa [noOwn] using views_low bl hl
    · cases h
  | .tup kids, y, h => by
    unfold view at h
    split at h
    · rename_i l hl; cases h; simpa [noOwn] using views_low bl hl
    · cases h
  | .fn f a b, y, h => by
    unfold view at h
    split at h
    · rename_i l l' h1 h2; cases h; simp [noOwn, views_low bl h1, views_low bl h2]
    · cases h
  | .iface t v, y, h => by
    unfold view at h
    split at h
    · rename_i l hl; cases h; simpa [noOwn] using view_low bl hl
    · cases h
  | .ptr _ _, y, h | .aptr _ _ _ _, y, h | .slice _ _ _ _ _, y, h | .own _ _, y, h => by
    unfold view at h
    repeat' (split at h)
    all_goals (first | (cases h; done) | (cases h; rfl))
  | .any, y, h | .bool _, y, h | .int _ _, y, h | .str _, y, h | .nilp, y, h | .rptr _, y, h | .snil, y, h
  | .rints _ _, y, h | .robjs _ _ _, y, h | .nilf, y, h | .nili, y, h | .ints _ _ _, y, h => by simp only [view] at h; cases h; rfl
theorem views_low (bl : Blks) : ∀ {l l' : List AV}, views bl l = some l' → noOwns l' = true
  | [], l', h => by cases h; rfl
  | x :: r, l', h => by
    unfold views at h
    split at h
    · rename_i y r' h1 h2
      cases h
      simp [noOwns, view_low bl h1, views_low bl h2]
    · cases h
end

/-- own blocks that are only looked at. -/
structure Looks (E Ec : Env) (S : Nat → Prop) : Prop where
  ro : ∀ b o, E.ro b o → Ec.ro b o
  cell : ∀ b o, Ec.cell b o = E.cell b o
  own : ∀ id blk, S id → bget E.bl id = some blk → ∀ b o, InExt E id b o → Ec.ro b o

theorem rints_of {E : Env} {k : IntKind} {l : List Int} {a : Option Addr} {n cap b o : Nat} (hn : n = l.length) (hc : n ≤ cap) (ha : l ≠ [] → a = some ⟨b, o, none⟩)
    (h : ∀ i, i < l.length → E.ro b (o + i) ∧ E.cell b (o + i) = some (.int k (l.getD i 0))) : VR E false (.rints k l) (.slice a n cap) := by
  subst hn
  refine .rints _ k l a cap hc fun i hi => ?_
  have hne : l ≠ [] := fun e => by subst e; simp at hi
  exact ⟨_, ha hne, rfl, (h i hi).1, (h i hi).2⟩
theorem objs_flat_put {l : List AV} {w : Nat} (h : ∀ x ∈ l, (Fit x ∧ width x = w) ∧ noOwn x = true ∧ solid x = true) {i j : Nat} {x y : AV} (hx : l[i]? = some x) (hy : (flat x)[j]? = some y) :
    (flats l)[i * w + j]? = some y := by
  rw [flats_split hx]
  have hi := (List.getElem?_eq_some_iff.1 hx).1
  have e : (flats (l.take i)).length = i * w := by rw [objs_flat_length fun x hx => h x (List.mem_of_mem_take hx)]; simp [Nat.min_eq_left (Nat.le_of_lt hi)]
  rw [List.getElem?_append_right (by omega), e, Nat.add_sub_cancel_left, List.getElem?_append_left (List.getElem?_eq_some_iff.1 hy).1]
  exact hy
theorem robjs_of {E : Env} {e w : Nat} {l : List AV} {a : Option Addr} {n cap b o : Nat} (hn : n = l.length) (hc : n ≤ cap) (hf : ∀ x ∈ l, (Fit x ∧ width x = w) ∧ noOwn x = true ∧ solid x = true)
    (ha : l ≠ [] → a = some ⟨b, o, none⟩) (h : ∀ (j : Nat) x, (flats l)[j]? = some x → E.ro b (o + j) ∧ ∃ c, E.cell b (o + j) = some c ∧ VR E false x c) : VR E false (.robjs e w l) (.slice a n cap) := by
  subst hn
  have hall : ∀ j, ∃ v, ∀ y, (flats l)[j]? = some y → E.cell b (o + j) = some v ∧ VR E false y v := fun j => by
    cases hy : (flats l)[j]? with
    | none => exact ⟨undef, fun y h => by simp at h⟩
    | some y => obtain ⟨_, v, h1, h2⟩ := h j y hy; exact ⟨v, fun z hz => by simp at hz; subst hz; exact ⟨h1, h2⟩⟩
  obtain ⟨vv, hvv⟩ := Classical.axiomOfChoice hall
  refine .robjs _ e w l a cap hc hf (fun i j => vv (i * w + j)) (fun hne => ⟨_, ha hne, rfl⟩) (fun ad i x j y had hx hy => ?_) fun i x j y hx hy => ?_
  · have hne : l ≠ [] := fun e => by subst e; simp at hx
    have := ha hne
    rw [had] at this
    cases this
    have hj := objs_flat_put hf hx hy
    refine ⟨?_, ?_⟩
    · simp only [Nat.add_assoc]; exact (h _ y hj).1
    · simp only [Nat.add_assoc]; exact (hvv _ y hj).1
  · exact (hvv _ y (objs_flat_put hf hx hy)).2

theorem idss_mem : ∀ {l : List AV} {x : AV} {i : Nat}, x ∈ l → i ∈ ids x → i ∈ idss l
  | y :: r, x, i, hx, hi => by
    unfold idss
    rcases List.mem_cons.1 hx with rfl | hx
    · exact List.mem_append_left _ hi
    · exact List.mem_append_right _ (idss_mem hx hi)
mutual
theorem ids_flat : ∀ {x y : AV} {i : Nat}, y ∈ flat x → i ∈ ids y → i ∈ ids x
  | .agg kids, y, i, hy, hi => by unfold ids; exact idss_flats (by simpa [flat] using hy) hi
  | .ints k n l, y, i, hy, hi => by
    simp only [flat, List.mem_map] at hy
    obtain ⟨z, _, rfl⟩ := hy
    simp [ids] at hi
  | .any, y, i, hy, hi | .tup _, y, i, hy, hi | .bool _, y, i, hy, hi | .int _ _, y, i, hy, hi | .str _, y, i, hy, hi | .nilp, y, i, hy, hi | .ptr _ _, y, i, hy, hi | .aptr _ _ _ _, y, i, hy, hi | .rptr _, y, i, hy, hi | .snil, y, i, hy, hi | .slice _ _ _ _ _, y, i, hy, hi | .own _ _, y, i, hy, hi
  | .rints _ _, y, i, hy, hi | .robjs _ _ _, y, i, hy, hi | .fn _ _ _, y, i, hy, hi | .nilf, y, i, hy, hi | .iface _ _, y, i, hy, hi | .nili, y, i, hy, hi => by
    simp only [flat, List.mem_singleton] at hy
    subst hy
    exact hi
theorem idss_flats : ∀ {l : List AV} {y : AV} {i : Nat}, y ∈ flats l → i ∈ ids y → i ∈ idss l
  | x :: r, y, i, hy, hi => by
    unfold idss
    simp only [flats, List.mem_append] at hy
    rcases hy with hy | hy
    · exact List.mem_append_left _ (ids_flat hy hi)
    · exact List.mem_append_right _ (idss_flats hy hi)
end

theorem view_own {E Ec : Env} {S : Nat → Prop} (L : Looks E Ec S) (m : Mem E) {id : Nat} {b : Blk} (hb : bget E.bl id = some b) (hs : S id) {j : Nat} {z : AV} (hz : (flatB b)[j]? = some z) (hn : noOwn z = true) :
    Ec.ro (E.loc id).1 ((E.loc id).2.1 + j) ∧ ∃ c, Ec.cell (E.loc id).1 ((E.loc id).2.1 + j) = some c ∧ VR Ec false z c := by
  have k := m.ok id b hb
  have hj := (List.getElem?_eq_some_iff.1 hz).1
  have := k.len
  refine ⟨L.own id b hs hb _ _ ⟨rfl, by omega, by omega⟩, ?_⟩
  obtain ⟨v, h1, h2⟩ := k.cells j z hz
  exact ⟨v, by rw [L.cell]; exact h1, VR.roMono (fun b o h => ⟨L.ro b o h, L.cell b o⟩) (h2.low hn) rfl⟩

theorem view_sound {E Ec : Env} {S : Nat → Prop} (L : Looks E Ec S) (m : Mem E) {o : Bool} {x : AV} {v : Value} (h : VR E o x v) :
    ∀ {y : AV}, view E.bl x = some y → (∀ i ∈ ids x, S i) → VR Ec false y v := by
  have leaf : ∀ {o : Bool} {x : AV} {v : Value}, VR E o x v → noOwn x = true → ∀ {y : AV}, view E.bl x = some y → VR Ec false y v := by
    intro o x v h hn y hy
    rw [view_noOwn _ hn] at hy
    cases hy
    exact VR.roMono (fun b o h => ⟨L.ro b o h, L.cell b o⟩) (h.low hn) rfl
  induction h with
  | any o v => intro y hy _; exact leaf (.any o v) rfl hy
  | bool o b => intro y hy _; exact leaf (.bool o b) rfl hy
  | int o k n => intro y hy _; exact leaf (.int o k n) rfl hy
  | str o s => intro y hy _; exact leaf (.str o s) rfl hy
  | nilp o => intro y hy _; exact leaf (.nilp o) rfl hy
  | rptr o x a hf hs vv h hv ih => intro y hy _; exact leaf (.rptr o x a hf hs vv h hv) rfl hy
  | snil o => intro y hy _; exact leaf (.snil o) rfl hy
  | rints o k l a cap hc h => intro y hy _; exact leaf (.rints o k l a cap hc h) rfl hy
  | robjs o e w l a cap hc hw vv ha h hv ih => intro y hy _; exact leaf (.robjs o e w l a cap hc hw vv ha h hv) rfl hy
  | ints o k n l h => intro y hy _; exact leaf (.ints o k n l h) rfl hy
  | nilf o => intro y hy _; exact leaf (.nilf o) rfl hy
  | nili o => intro y hy _; exact leaf (.nili o) rfl hy
  | aptr => intro y hy _; simp [view] at hy
  | agg o kids cs hf hs h ih =>
    intro y hy hi
    have hfy := fit_view _ hf hy
    unfold view at hy
    split at hy
    · rename_i l hl
      cases hy
      obtain ⟨g1, g2, g3⟩ := flats_view _ hl
      refine .agg _ _ cs hfy (by rw [g1]; exact hs) fun j z c h1 h2 => ?_
      obtain ⟨u, h3, h4⟩ := g3 j z h1
      exact ih j u c h3 h2 h4 fun i hi' => hi i (by unfold ids; exact idss_flats (List.mem_of_getElem? h3) hi')
    · cases hy
  | tup o vs cs hs h ih =>
    intro y hy hi
    unfold view at hy
    split at hy
    · rename_i l hl
      cases hy
      obtain ⟨g1, g2⟩ := views_get _ hl
      refine .tup _ _ cs (by rw [g1]; exact hs) fun j z c h1 h2 => ?_
      obtain ⟨u, h3, h4⟩ := g2 j z h1
      exact ih j u c h3 h2 h4 fun i hi' => hi i (by unfold ids; exact idss_mem (List.mem_of_getElem? h3) hi')
    · cases hy
  | fn o f xs ys as bs h1 h2 g1 g2 i1 i2 =>
    intro y hy hi
    unfold view at hy
    split at hy
    · rename_i l l' hl hl'
      cases hy
      obtain ⟨e1, e2⟩ := views_get _ hl
      obtain ⟨e3, e4⟩ := views_get _ hl'
      refine .fn _ f _ _ as bs (by rw [e1]; exact h1) (by rw [e3]; exact h2) (fun j z c k1 k2 => ?_) (fun j z c k1 k2 => ?_)
      · obtain ⟨u, h3, h4⟩ := e2 j z k1
        exact i1 j u c h3 k2 h4 fun i hi' => hi i (by unfold ids; exact List.mem_append_left _ (idss_mem (List.mem_of_getElem? h3) hi'))
      · obtain ⟨u, h3, h4⟩ := e4 j z k1
        exact i2 j u c h3 k2 h4 fun i hi' => hi i (by unfold ids; exact List.mem_append_right _ (idss_mem (List.mem_of_getElem? h3) hi'))
    · cases hy
  | iface o t x v h ih =>
    intro y hy hi
    unfold view at hy
    split at hy
    · rename_i l hl
      cases hy
      exact .iface _ t _ v (ih hl fun i hi' => hi i (by unfold ids; exact hi'))
    · cases hy
  | ptr id path a hid h =>
    intro y hy hi
    have hs : S id := hi id (by simp [ids])
    unfold view at hy
    split at hy
    · rename_i b hb
      split at hy
      · rename_i x' hg
        split at hy
        · rename_i hn
          cases hy
          obtain ⟨h1, q, h2, h3, h4⟩ := h b hb
          obtain ⟨f1, f2⟩ := getB_spec (m.ok id b hb).fit hg h2
          have hall : ∀ j, ∃ c, ∀ z, (flat x')[j]? = some z → Ec.ro a.block (a.off + j) ∧ Ec.cell a.block (a.off + j) = some c ∧ VR Ec false z c := fun j => by
            cases hz : (flat x')[j]? with
            | none => exact ⟨undef, fun y h => by simp at h⟩
            | some z =>
              obtain ⟨g1, c, g2, g3⟩ := view_own L m hb hs (f2 j z hz) (flat_noOwn hn z (List.mem_of_getElem? hz))
              rw [← Nat.add_assoc, ← h3, ← h4] at g1 g2
              exact ⟨c, fun u hu => by simp at hu; subst hu; exact ⟨g1, g2, g3⟩⟩
          obtain ⟨vv, hvv⟩ := Classical.axiomOfChoice hall
          exact .rptr _ x' a f1 h1 vv (fun j z hz => ⟨(hvv j z hz).1, (hvv j z hz).2.1⟩) fun j z hz => (hvv j z hz).2.2
        · cases hy
      · cases hy
    · cases hy
  | slice id path s len w a cap hid hc hsm hh =>
    intro y hy hi
    have hs : S id := hi id (by simp [ids])
    unfold view at hy
    split at hy
    · rename_i _ _ k l hb
      cases hy
      obtain ⟨q, c, g1, g2, g3, g4⟩ := hh _ hb
      simp [rowB] at g1
      obtain ⟨rfl, rfl, rfl⟩ := g1
      refine rints_of (b := (E.loc id).1) (o := (E.loc id).2.1 + s) (by simp; omega) hc (fun hne => ?_) fun i hi => ?_
      · rcases g4 with rfl | rfl
        · have := List.length_pos_iff.2 hne; simp at this; omega
        · simp
      · obtain ⟨e1, e2⟩ := ints_take_get l s len i hi
        obtain ⟨r1, v, h1, h2⟩ := view_own L m hb hs (j := s + i) (z := .int k (l.getD (s + i) 0)) (by simp [flatB, List.getElem?_eq_getElem e2]) rfl
        rw [Nat.add_assoc, e1, h1, h2.int_inv]
        exact ⟨r1, rfl⟩
    · rename_i _ _ e w' l hb
      cases hy
      obtain ⟨q, c, g1, g2, g3, g4⟩ := hh _ hb
      simp [rowB] at g1
      obtain ⟨rfl, rfl, rfl⟩ := g1
      have ok := m.ok id _ hb
      have hfit : ∀ x ∈ (l.drop s).take len, (Fit x ∧ width x = w') ∧ noOwn x = true ∧ solid x = true := fun x hx => ok.fit x (List.mem_of_mem_drop (List.mem_of_mem_take hx))
      refine robjs_of (b := (E.loc id).1) (o := (E.loc id).2.1 + s * w') (by simp; omega) hc hfit (fun hne => ?_) fun j z hz => ?_
      · rcases g4 with rfl | rfl
        · have := List.length_pos_iff.2 hne; simp at this; omega
        · simp
      · obtain ⟨x, k1, k2⟩ := objs_flat_get hfit hz
        rw [Nat.add_assoc]
        exact view_own L m hb hs (objs_sub_get ok.fit hz) (flat_noOwn (hfit x (List.mem_of_getElem? k1)).2.1 z (List.mem_of_getElem? k2))
    · rename_i _ _ v0 hb
      split at hy
      · rename_i k n' l hg
        cases hy
        obtain ⟨q, c, g1, g2, g3, g4⟩ := hh _ hb
        obtain ⟨ho, rfl, rfl⟩ := rowB_var hg g1
        obtain ⟨f1, f2⟩ := getB_spec (blk := .var v0) (m.ok id _ hb).fit hg ho
        have hln := f1.len
        refine rints_of (b := (E.loc id).1) (o := (E.loc id).2.1 + q + s) (by simp; omega) hc (fun hne => ?_) fun i hi => ?_
        · rcases g4 with rfl | rfl
          · have := List.length_pos_iff.2 hne; simp at this; omega
          · simp
        · obtain ⟨e1, e2⟩ := ints_take_get l s len i hi
          obtain ⟨r1, v, h1, h2⟩ := view_own L m hb hs (f2 (s + i) (.int k (l.getD (s + i) 0)) (by simp [flat, List.getElem?_eq_getElem e2])) rfl
          rw [Nat.add_assoc, Nat.add_assoc, e1, h1, h2.int_inv]
          exact ⟨r1, rfl⟩
      · cases hy
    · cases hy
  | own id w len a cap hid hc hh =>
    intro y hy hi
    have hs : S id := hi id (by simp [ids])
    unfold view at hy
    split at hy
    · rename_i k l hb
      cases hy
      obtain ⟨g1, g2, g3⟩ := hh _ hb
      simp [rowB] at g1
      obtain ⟨_, rfl⟩ := g1
      refine rints_of (b := (E.loc id).1) (o := (E.loc id).2.1) rfl hc (fun hne => ?_) fun i hi => ?_
      · rcases g3 with rfl | rfl
        · have := List.length_pos_iff.2 hne; omega
        · rfl
      · obtain ⟨r1, v, h1, h2⟩ := view_own L m hb hs (j := i) (z := .int k (l.getD i 0)) (by simp [flatB, List.getElem?_eq_getElem hi]) rfl
        rw [h1, h2.int_inv]
        exact ⟨r1, rfl⟩
    · rename_i e w' l hb
      cases hy
      obtain ⟨g1, g2, g3⟩ := hh _ hb
      simp [rowB] at g1
      obtain ⟨_, rfl⟩ := g1
      have ok := m.ok id _ hb
      refine robjs_of (b := (E.loc id).1) (o := (E.loc id).2.1) rfl hc ok.fit (fun hne => ?_) fun j z hz => ?_
      · rcases g3 with rfl | rfl
        · have := List.length_pos_iff.2 hne; omega
        · rfl
      · obtain ⟨x, k1, k2⟩ := objs_flat_get ok.fit hz
        exact view_own L m hb hs hz (flat_noOwn (ok.fit x (List.mem_of_getElem? k1)).2.1 z (List.mem_of_getElem? k2))
    · cases hy
end Go.Abs
end

section
set_option linter.unusedVariables false
set_option linter.unusedSimpArgs false
namespace Go.Abs
open Go

/-- a call is done, to the end: what it answers. -/
def CallDoes (P : Program) (f : FuncId) (vs : Array Value) (w : World) (Q : Value → World → Prop) : Prop :=
  (∃ fn, P.funcs[f]? = some fn ∧ fn.name ≠ "runtime.NumGoroutine" ∧ fn.body.isNone = false ∧ Calls P f vs w fun e w' => ∃ v, e = .returned v ∧ Q v w') ∨
  ∃ v w', (callFunc f vs).run P w = .ok (.value v) w' ∧ Q v w'
theorem CallDoes.mono {P : Program} {f : FuncId} {vs : Array Value} {w : World} {Q Q' : Value → World → Prop} (h : CallDoes P f vs w Q) (hq : ∀ v w, Q v w → Q' v w) : CallDoes P f vs w Q' := by
  rcases h with ⟨fn, h1, h2, h3, h4⟩ | ⟨v, w', h1, h2⟩
  · exact .inl ⟨fn, h1, h2, h3, h4.mono fun e w' ⟨v, hv, h⟩ => ⟨v, hv, hq v w' h⟩⟩
  · exact .inr ⟨v, w', h1, hq v w' h2⟩
/-- values read as they should, each in its place. -/
structure Args (E : Env) (xs : List AV) (vs : Array Value) : Prop where
  size : vs.size = xs.length
  vr : ∀ (j : Nat) x c, xs[j]? = some x → vs[j]? = some c → VR E true x c
def Glob (G : Nat → AV) (E : Env) : Prop := ∀ g, (match G g with | .any => True | x => VR E false (.rptr x) (.pointer (some ⟨g, 0, none⟩)))
theorem Glob.mono {G : Nat → AV} {E E' : Env} (hro : ∀ b o, E.ro b o → E'.ro b o ∧ E'.cell b o = E.cell b o) (h : Glob G E) : Glob G E' := fun g => by
  have := h g
  split
  · trivial
  · rename_i x hx
    split at this
    · rename_i he; exact absurd he hx
    · exact VR.roMono hro this rfl
/-- what a function does. -/
def FnOK (P : Program) (G : Nat → AV) (f : FuncId) (args : List AV) (lent : Blks) (v : AV) (out : Blks) : Prop :=
  ∀ (E : Env) (vs : Array Value), E.bl = lent → Mem E → Glob G E → Args E args vs → CallDoes P f vs E.w fun v' w' => ∃ E', E'.w = w' ∧ E'.bl = out ∧ Go E E' ∧ VR E' true v v'
def CalleeS (P : Program) (G : Nat → AV) (f : FuncId) (m : Callee) : Prop :=
  ∀ args lent, (∀ (R : Type) (K : AV → Blks → Option R), m.run args lent K = none) ∨ ∃ v out, (∀ (R : Type) (K : AV → Blks → Option R), m.run args lent K = K v out) ∧ FnOK P G f args lent v out

theorem handed_sound {E : Env} {lent : List Nat} {lk : Bool} (m : Mem E) (hl : ∀ i ∈ lent, i < E.bl.length) : ∀ {fs : List Bool} {xs ys : List AV} {b : Bool}, handed E.bl lent fs xs = some (ys, b) → (b = true → lk = true) →
    ys.length = xs.length ∧ ∀ (j : Nat) y, ys[j]? = some y → ∃ x, xs[j]? = some x ∧ ∀ c, VR E true x c → VR (E.lend lent lk) true y c
  | fs, [], ys, b, h, hb => by
    cases fs with
    | nil => simp only [handed] at h; cases h; exact ⟨rfl, fun j y h => by simp at h⟩
    | cons f fs => cases f <;> simp only [handed] at h <;> (cases h; exact ⟨rfl, fun j y h => by simp at h⟩)
  | fs, x :: r, ys, b, h, hb => by
    have low : ∀ {f : List Bool}, (if ((ids x).all fun i => !lent.contains i) = true then
      (match view E.bl x, handed E.bl lent f.tail r with | some y, some (l, b) => some (y :: l, b || !noOwn x) | _, _ => none) else none) = some (ys, b) →
      ys.length = (x :: r).length ∧ ∀ (j : Nat) y, ys[j]? = some y → ∃ z, (x :: r)[j]? = some z ∧ ∀ c, VR E true z c → VR (E.lend lent lk) true y c := by
      intro f h
      split at h
      · rename_i hi
        split at h
        · rename_i y l b' hy hr
          cases h
          obtain ⟨g1, g2⟩ := handed_sound m hl hr fun h => hb (by simp [h])
          refine ⟨by simp [g1], fun j z hz => ?_⟩
          cases j with
          | succ j => exact g2 j z (by simpa using hz)
          | zero =>
            simp at hz
            subst hz
            refine ⟨x, rfl, fun c hc => ?_⟩
            by_cases hn : noOwn x = true
            · rw [view_noOwn _ hn] at hy
              cases hy
              exact (VR.roMono (lend_ro trivial) (hc.low hn) rfl).lift
            · have hk : lk = true := hb (by simp [hn])
              refine (view_sound (Ec := E.lend lent lk) (S := fun i => i ∉ lent) ⟨fun b o h => Or.inl h, fun b o => rfl, fun id blk hs hbk b o hx => Or.inr ⟨hk, id, blk, hs, hbk, hx⟩⟩ m hc hy fun i hii => ?_).lift
              have := List.all_eq_true.1 hi i hii
              simpa using this
        · cases h
      · cases h
    cases fs with
    | nil => simp only [handed] at h; exact low (f := []) h
    | cons f fs =>
      cases f with
      | false => simp only [handed] at h; exact low (f := false :: fs) h
      | true =>
        simp only [handed] at h
        split at h
        · rename_i l b' hr
          cases h
          obtain ⟨g1, g2⟩ := handed_sound m hl hr hb
          refine ⟨by simp [g1], fun j z hz => ?_⟩
          cases j with
          | succ j => exact g2 j z (by simpa using hz)
          | zero =>
            simp at hz
            subst hz
            exact ⟨x, rfl, fun c hc => VR.turn (Turn.lend hl) lend_ro hc (.inl trivial)⟩
        · cases h

theorem handed_alike {bl bl2 : Blks} {lent : List Nat} : ∀ {fs : List Bool} {xs ys : List AV}, handed bl lent fs xs = some (ys, false) → handed bl2 lent fs xs = some (ys, false)
  | fs, [], ys, h => by
    cases fs with
    | nil => simp only [handed] at h ⊢; exact h
    | cons f fs => cases f <;> simp only [handed] at h ⊢ <;> exact h
  | fs, x :: r, ys, h => by
    have low : ∀ {f : List Bool}, (if ((ids x).all fun i => !lent.contains i) = true then
      (match view bl x, handed bl lent f.tail r with | some y, some (l, b) => some (y :: l, b || !noOwn x) | _, _ => none) else none) = some (ys, false) →
      (if ((ids x).all fun i => !lent.contains i) = true then
      (match view bl2 x, handed bl2 lent f.tail r with | some y, some (l, b) => some (y :: l, b || !noOwn x) | _, _ => none) else none) = some (ys, false) := by
      intro f h
      split at h
      · rename_i hi
        rw [if_pos hi]
        split at h
        · rename_i y l b' hy hr
          simp only [Option.some.injEq, Prod.mk.injEq, Bool.or_eq_false_iff, Bool.not_eq_false'] at h
          obtain ⟨h1, rfl, hn⟩ := h
          rw [view_noOwn _ hn] at hy
          cases hy
          rw [view_noOwn _ hn, handed_alike hr]
          simp [h1, hn]
        · cases h
      · cases h
    cases fs with
    | nil => simp only [handed] at h ⊢; exact low (f := []) h
    | cons f fs =>
      cases f with
      | false => simp only [handed] at h ⊢; exact low (f := false :: fs) h
      | true =>
        simp only [handed] at h ⊢
        split at h
        · rename_i l b' hr
          cases h
          rw [handed_alike hr]
        · cases h

section
variable {R : Type} {C : Ctx}

theorem call_main {P : Program} {G : Nat → AV} {f : FuncId} {m : Callee} {args args' : List AV} {looks : Bool} {lent : List Nat} {v : AV} {out : Blks} {E : Env}
    (hm : Mem E) (hg : Glob G E) (hlt : ∀ i ∈ lent, i < E.bl.length) (hnd : lent.Nodup)
    (hh : handed E.bl lent m.lend args = some (args', looks)) (hf : FnOK P G f args' (lent.map fun i => (bget E.bl i).map (renB (pos lent))) v out)
    (hr : looks = true → noRef v = true ∧ refFree out = true) {vs : Array Value} (ha : Args E args vs) :
    CallDoes P f vs E.w fun v' w' => ∃ E', E'.w = w' ∧ E'.bl = putBack (backOf lent E.bl.length) lent out E.bl ∧ Go E E' ∧ VR E' true (ren (backOf lent E.bl.length) v) v' := by
  obtain ⟨g1, g2⟩ := handed_sound (lk := looks) hm hlt hh fun h => h
  refine (hf (E.lend lent looks) vs rfl (hm.lend hlt hnd) (hg.mono (lend_ro trivial)) ⟨by rw [ha.size, g1], fun j y c hy hc => ?_⟩).mono fun v' w' ⟨E2, h1, h2, h3, h4⟩ => ?_
  · obtain ⟨x, hx, hv⟩ := g2 j y hy
    exact hv c (ha.vr j x c hx hc)
  · have B : BackIn E E2 lent looks out := ⟨hm, hlt, hnd, h3, h2, fun h => (hr h).2⟩
    refine ⟨E.back E2 lent looks out, h1, rfl, Go.back B, VR.turn (R0 := looks ≠ true) (Turn.back B) (fun hk b o h => ⟨by simp only [Env.back, hk, if_false]; exact h, rfl⟩) h4 ?_⟩
    by_cases hk : looks = true
    · exact .inr (hr hk).1
    · exact .inl hk

theorem callK_sound {f : FuncId} {args : List AV} {bl : Blks} {K : Kont R} {r : R} (hΓ : ∀ f m, C.Γ f = some m → CalleeS C.P C.G f m) (h : callK C f args bl K = some r) :
    ∃ cat v bl', KS (R := R) (callK C f args) bl cat v bl' ∧ ∀ E, (E.bl = bl ∨ cat = .pure) → Mem E → Glob C.G E → ∀ vs, Args E args vs →
      CallDoes C.P f vs E.w fun v' w' => ∃ E', E'.w = w' ∧ (E'.bl = if cat = .pure then E.bl else bl') ∧ Go E E' ∧ VR E' true v v' := by
  unfold callK at h
  cases hm : C.Γ f with
  | none => rw [hm] at h; cases h
  | some m =>
  simp only [hm] at h
  obtain ⟨hnd, hlt⟩ := reach_spec bl 40 (lentIds m.lend args) [] List.nodup_nil (by simp)
  generalize hlent : reach bl 40 (lentIds m.lend args) [] = lent at h hnd hlt
  cases hh : handed bl lent m.lend args with
  | none => simp [hh] at h
  | some p =>
  obtain ⟨args', looks⟩ := p
  simp only [hh] at h
  obtain hno | ⟨v, out, hdet, hfn⟩ := hΓ f m hm args' (lent.map fun i => (bget bl i).map (renB (pos lent)))
  · rw [hno] at h; cases h
  rw [hdet] at h
  have det : ∀ K2 : Kont R, callK C f args bl K2 = (if ((lentIds m.lend args).isEmpty && out.isEmpty) = true then
          (if noOwn v = true then
            (if looks = true then (if noRef v = true then K2 .read v bl else none) else K2 .pure v bl) else none)
        else (if (!looks || (noRef v && refFree out)) = true then
          K2 .write (ren (backOf lent bl.length) v) (putBack (backOf lent bl.length) lent out bl) else none)) := fun K2 => by
    unfold callK
    simp only [hm, hlent, hh]
    rw [hdet]
  split at h
  · rename_i he
    simp only [Bool.and_eq_true, List.isEmpty_iff] at he
    obtain ⟨he1, rfl⟩ := he
    have hl0 : lent = [] := by rw [← hlent, he1]; rfl
    subst hl0
    split at h
    · rename_i hn
      have put0 : ∀ (n : Nat) (b : Blks), putBack (backOf [] n) [] [] b = b := fun n b => by simp [putBack]
      have key : ∀ E : Env, Mem E → Glob C.G E → handed E.bl [] m.lend args = some (args', looks) → (looks = true → noRef v = true) → ∀ vs, Args E args vs →
          CallDoes C.P f vs E.w fun v' w' => ∃ E', E'.w = w' ∧ E'.bl = E.bl ∧ Go E E' ∧ VR E' true v v' := fun E hM hG hH hr vs ha => by
        have := call_main (P := C.P) (G := C.G) (f := f) hM hG (lent := []) (by simp) List.nodup_nil hH hfn (fun h => ⟨hr h, rfl⟩) ha
        rw [put0, ren_noOwn hn] at this
        exact this
      split at h
      · rename_i hk
        split at h
        · rename_i hr
          refine ⟨.read, v, bl, .ofRead fun K2 => by rw [det]; simp [he1, hn, hk, hr], fun E hE hM hG vs ha => ?_⟩
          rcases hE with rfl | hE
          · exact key E hM hG hh (fun _ => hr) vs ha
          · cases hE
        · cases h
      · rename_i hk
        have hk' : looks = false := by simpa using hk
        subst hk'
        refine ⟨.pure, v, bl, .ofPure fun b2 K2 => ?_, fun E hE hM hG vs ha => ?_⟩
        · unfold callK
          simp only [hm, he1]
          rw [show reach b2 40 [] [] = [] from rfl]
          simp only [handed_alike (bl2 := b2) hh]
          simp only [List.map_nil] at hdet ⊢
          rw [hdet]
          simp [hn]
        · exact key E hM hG (handed_alike hh) (fun h => by cases h) vs ha
    · cases h
  · rename_i he
    split at h
    · rename_i hk
      refine ⟨.write, _, _, .ofWrite fun K2 => by rw [det, if_neg he, if_pos hk], fun E hE hM hG vs ha => ?_⟩
      rcases hE with rfl | hE
      · simp only [reduceCtorEq, if_false]
        refine call_main hM hG hlt hnd hh hfn (fun hk2 => ?_) ha
        subst hk2
        simpa using hk
      · cases hE
    · cases h
end
end Go.Abs
end

section
set_option linter.unusedVariables false
set_option linter.unusedSimpArgs false
namespace Go.Abs
open Go
section
variable {R : Type} {C : Ctx}

/-- behind an operation. -/
def Done (E : Env) (cat : Cat) (v : AV) (bl' : Blks) (v' : Value) (w' : World) : Prop :=
  ∃ E', E'.w = w' ∧ (E'.bl = if cat = .pure then E.bl else bl') ∧ Go E E' ∧ VR E' true v v'
/-- an operation does what the abstract one says. -/
def OpS (R : Type) (C : Ctx) (o : Oper) (ev : Operand → AV) (bl : Blks) (cat : Cat) (v : AV) (bl' : Blks) : Prop :=
  KS (R := R) (opK C o ev) bl cat v bl' ∧ ∀ E (a : Act), (E.bl = bl ∨ cat = .pure) → Mem E → Glob C.G E → (∀ x, VR E true (ev x) (a.eval x)) → OpDoes C.P o a E.w (Done E cat v bl')

theorem done_same {E : Env} {cat : Cat} {v : AV} {bl : Blks} {v' : Value} (hE : E.bl = bl ∨ cat = .pure) (m : Mem E) (h : VR E true v v') : Done E cat v bl v' E.w :=
  ⟨E, rfl, by
    split
    · rfl
    · rcases hE with h | h
      · exact h
      · contradiction, .refl m, h⟩
theorem done_out {E : Env} {P : Program} {o : Oper} {a : Act} {cat : Cat} {v : AV} {bl' : Blks} {s : Sem Value} (hx : execOp a.eval o = (do let x ← s; pure (.value x))) (h : Out E P cat v bl' s) : OpDoes P o a E.w (Done E cat v bl') := by
  obtain ⟨v', E', h1, h2, h3, h4⟩ := h
  refine .value (v' := v') (w' := E'.w) ?_ ⟨E', rfl, h2, h3, h4⟩
  rw [hx]
  simp [h1]
theorem does_val {E : Env} {P : Program} {o : Oper} {a : Act} {Rr : Value → World → Prop} {s : Sem Value} {v' : Value} (hx : execOp a.eval o = (do let x ← s; pure (.value x))) (h : s.run P E.w = .ok v' E.w) (hr : Rr v' E.w) : OpDoes P o a E.w Rr := by
  refine .value (v' := v') (w' := E.w) ?_ hr
  rw [hx]
  simp [h]

theorem args_map {E : Env} {ev : Operand → AV} {a : Act} (h : ∀ x, VR E true (ev x) (a.eval x)) (l : Array Operand) : Args E (l.toList.map ev) (l.map a.eval) := by
  refine ⟨by simp, fun j x c hx hc => ?_⟩
  rw [List.getElem?_map] at hx
  rw [Array.getElem?_map] at hc
  cases hl : l[j]? with
  | none => simp [hl] at hc
  | some y =>
    have : l.toList[j]? = some y := by simpa using hl
    rw [this] at hx
    rw [hl] at hc
    cases hx; cases hc
    exact h y
theorem args_append {E : Env} {xs ys : List AV} {vs us : Array Value} (h : Args E xs vs) (k : Args E ys us) : Args E (xs ++ ys) (vs ++ us) := by
  refine ⟨by simp [h.size, k.size], fun j x c hx hc => ?_⟩
  rcases Nat.lt_or_ge j xs.length with hj | hj
  · rw [List.getElem?_append_left hj] at hx
    rw [Array.getElem?_append_left (by rw [h.size]; exact hj)] at hc
    exact h.vr j x c hx hc
  · rw [List.getElem?_append_right hj] at hx
    rw [Array.getElem?_append_right (by rw [h.size]; exact hj), h.size] at hc
    exact k.vr _ x c hx hc

theorem maxK_sound {l : List AV} {K : AV → Option R} {r : R} (h : maxK l K = some r) :
    ∃ v, (∀ K2 : AV → Option R, maxK l K2 = K2 v) ∧ ∀ (P : Program) (E : Env) (vs : Array Value), Args E l vs → ∀ ts ty w, ∃ v', (Builtin.max_ ts ty vs).run P w = .ok v' w ∧ VR E true v v' := by
  unfold maxK at h
  split at h
  · rename_i k a r'
    obtain ⟨n, h1, h2⟩ := maxFrom_sound h
    refine ⟨.int k n, fun K2 => h1 K2, fun P E vs ha ts ty w => ⟨.int k n, ?_, .int _ _ _⟩⟩
    obtain ⟨vl⟩ := vs
    cases vl with
    | nil => have := ha.size; simp at this
    | cons u us =>
      have hu := ha.vr 0 (.int k a) u rfl rfl
      cases hu
      simp only [Builtin.max_]
      exact h2 P E us (by have := ha.size; simpa using this) (fun j x c hx hc => ha.vr (j + 1) x c (by simpa using hx) (by simpa using hc)) w
  · cases h
theorem minK_sound {l : List AV} {K : AV → Option R} {r : R} (h : minK l K = some r) :
    ∃ v, (∀ K2 : AV → Option R, minK l K2 = K2 v) ∧ ∀ (P : Program) (E : Env) (vs : Array Value), Args E l vs → ∀ ts ty w, ∃ v', (Builtin.min_ ts ty vs).run P w = .ok v' w ∧ VR E true v v' := by
  unfold minK at h
  split at h
  · rename_i k a r'
    obtain ⟨n, h1, h2⟩ := minFrom_sound h
    refine ⟨.int k n, fun K2 => h1 K2, fun P E vs ha ts ty w => ⟨.int k n, ?_, .int _ _ _⟩⟩
    obtain ⟨vl⟩ := vs
    cases vl with
    | nil => have := ha.size; simp at this
    | cons u us =>
      have hu := ha.vr 0 (.int k a) u rfl rfl
      cases hu
      simp only [Builtin.min_]
      exact h2 P E us (by have := ha.size; simpa using this) (fun j x c hx hc => ha.vr (j + 1) x c (by simpa using hx) (by simpa using hc)) w
  · cases h

/-- a pure piece with a value alone. -/
theorem OpS.ofVal {o : Oper} {ev : Operand → AV} {bl : Blks} {v : AV} {F : (AV → Option R) → Option R} (hF : ∀ bl K, opK C o ev bl K = F fun v => K .pure v bl) (hd : ∀ K2, F K2 = K2 v)
    (h : ∀ E (a : Act), Mem E → Glob C.G E → (∀ x, VR E true (ev x) (a.eval x)) → ∃ v', (execOp a.eval o).run C.P E.w = .ok (.value v') E.w ∧ VR E true v v') : OpS R C o ev bl .pure v bl := by
  refine ⟨.ofPure fun bl K => by rw [hF, hd], fun E a hE m hg hv => ?_⟩
  obtain ⟨v', h1, h2⟩ := h E a m hg hv
  exact .value h1 (done_same hE m h2)
theorem OpS.ofMem {o : Oper} {ev : Operand → AV} {bl : Blks} {cat : Cat} {v : AV} {F : Blks → Kont R → Option R} (hF : ∀ bl K, opK C o ev bl K = F bl K) (hs : KS F bl cat v bl)
    (h : ∀ E (a : Act), (E.bl = bl ∨ cat = .pure) → Mem E → (∀ x, VR E true (ev x) (a.eval x)) → ∃ v', (execOp a.eval o).run C.P E.w = .ok (.value v') E.w ∧ VR E true v v') : OpS R C o ev bl cat v bl := by
  refine ⟨⟨fun K => by rw [hF]; exact hs.det K, fun hc => ⟨rfl, fun bl2 K => by rw [hF]; exact (hs.pure hc).2 bl2 K⟩, fun _ => rfl⟩, fun E a hE m hg hv => ?_⟩
  obtain ⟨v', h1, h2⟩ := h E a hE m hv
  exact .value h1 (done_same hE m h2)
theorem OpS.ofOut {o : Oper} {ev : Operand → AV} {bl bl' : Blks} {cat : Cat} {v : AV} {F : Blks → Kont R → Option R} (hF : ∀ bl K, opK C o ev bl K = F bl K) (hs : KS F bl cat v bl')
    (h : ∀ E (a : Act), (E.bl = bl ∨ cat = .pure) → Mem E → (∀ x, VR E true (ev x) (a.eval x)) → ∃ s, execOp a.eval o = (do let x ← s; pure (.value x)) ∧ Out E C.P cat v bl' s) : OpS R C o ev bl cat v bl' := by
  refine ⟨⟨fun K => by rw [hF]; exact hs.det K, fun hc => ⟨(hs.pure hc).1, fun bl2 K => by rw [hF]; exact (hs.pure hc).2 bl2 K⟩, fun hc => hs.read hc⟩, fun E a hE m hg hv => ?_⟩
  obtain ⟨s, h1, h2⟩ := h E a hE m hv
  exact done_out h1 h2

theorem optR_map {E : Env} {ev : Operand → AV} {a : Act} (h : ∀ x, VR E true (ev x) (a.eval x)) (x : Option Operand) : OptR E (x.map ev) (x.map a.eval) := by
  cases x with
  | none => exact .inl ⟨rfl, rfl⟩
  | some x => exact .inr ⟨_, _, rfl, rfl, h x⟩

theorem eq_op_sound {P : Program} {t : TypeId} {b : Bool} {x' y' : Value} (x y : Operand) (op : BinOp) (hg : P.eqGuardType P.depth t = false) (hx : (∃ cs, x' = .agg cs) ∨ ∃ b, x' = .bool b)
    (hy : (∃ cs, y' = .agg cs) ∨ ∃ b, y' = .bool b) (h : ∀ w, (Op.equal t x' y').run P w = .ok b w) (hop : op = .eql ∨ op = .neq) (w : World) :
    (do eqGuard op t x y x' y'; binOp op t x' y').run P w = .ok (.bool (if op = .eql then b else !b)) w := by
  rcases hop with rfl | rfl <;> rcases hx with ⟨cs, rfl⟩ | ⟨b1, rfl⟩ <;> rcases hy with ⟨ds, rfl⟩ | ⟨b2, rfl⟩ <;> simp [eqGuard, binOp, hg, h]

theorem eq_op_ok {o : Oper} {ev : Operand → AV} {bl : Blks} {op : BinOp} {t : TypeId} {x y : Operand} {b5 : TypeId} {r : R} {X Y : AV} (ho : o.op = .binOp op t x y b5) (f : Bool → Bool)
    (hop : (op = .eql ∧ f = fun b => b) ∨ (op = .neq ∧ f = fun b => !b)) (hX : ev x = X) (hY : ev y = Y)
    (hXa : ∀ E v, VR E true X v → (∃ cs, v = .agg cs) ∨ ∃ b, v = .bool b) (hYa : ∀ E v, VR E true Y v → (∃ cs, v = .agg cs) ∨ ∃ b, v = .bool b)
    (hF : ∀ bl (K : Kont R), opK C o ev bl K = eqK C t X Y fun b => K .pure (.bool (f b)) bl) {K : Kont R} (h : opK C o ev bl K = some r) : ∃ cat v bl', OpS R C o ev bl cat v bl' := by
  rw [hF] at h
  obtain ⟨b, h1, hgt, h2⟩ := eqK_sound h
  refine ⟨.pure, .bool (f b), bl, ⟨.ofPure fun bl K => by rw [hF, h1], fun E a hE m hg hv => ?_⟩⟩
  subst hX; subst hY
  have hr := eq_op_sound (P := C.P) x y op hgt (hXa E _ (hv x)) (hYa E _ (hv y)) (h2 E _ _ (hv x) (hv y)) (hop.imp And.left And.left) E.w
  refine does_val (s := do eqGuard op t x y (a.eval x) (a.eval y); binOp op t (a.eval x) (a.eval y)) (by simp only [execOp, ho]) hr (done_same hE m ?_)
  rcases hop with ⟨rfl, rfl⟩ | ⟨rfl, rfl⟩ <;> exact .bool _ _

theorem opK_sound (hΓ : ∀ f m, C.Γ f = some m → CalleeS C.P C.G f m) {o : Oper} {ev : Operand → AV} {bl : Blks} {K : Kont R} {r : R} (h : opK C o ev bl K = some r) :
    ∃ cat v bl', OpS R C o ev bl cat v bl' := by
  obtain ⟨dst, op, ty, ps, af, gd⟩ := o
  cases op with
  | move x => exact ⟨.pure, ev x, bl, .ofVal (F := fun K => K (ev x)) (fun _ _ => rfl) (fun _ => rfl) fun E a m hg hv => ⟨_, rfl, hv x⟩⟩
  | assign x => exact ⟨.pure, ev x, bl, .ofVal (F := fun K => K (ev x)) (fun _ _ => rfl) (fun _ => rfl) fun E a m hg hv => ⟨_, rfl, hv x⟩⟩
  | pick c a b =>
    simp only [opK] at h
    split at h
    · rename_i t ht
      cases t with
      | true => exact ⟨.pure, ev a, bl, .ofVal (F := fun K => K (ev a)) (fun bl K => by simp [opK, ht]) (fun _ => rfl) fun E ac m hg hv => ⟨ac.eval a, by have := hv c; rw [ht] at this; simp [execOp, this.bool_inv, asBool], hv a⟩⟩
      | false => exact ⟨.pure, ev b, bl, .ofVal (F := fun K => K (ev b)) (fun bl K => by simp [opK, ht]) (fun _ => rfl) fun E ac m hg hv => ⟨ac.eval b, by have := hv c; rw [ht] at this; simp [execOp, this.bool_inv, asBool], hv b⟩⟩
    · cases h
  | alloc t =>
    simp only [opK] at h
    split at h
    · rename_i z hz
      obtain ⟨i, v, h1, h2, h3, h4, h5, h6, h7⟩ := zeroOf_sound hz
      refine ⟨.write, .ptr bl.length [], bl ++ [some (.var z)], .ofOut (F := opK C _ ev) (fun _ _ => rfl) (.ofWrite fun K => by simp only [opK, hz]) fun E a hE m hv => ⟨Instr.alloc t true (.tuple #[]), rfl, ?_⟩⟩
      rcases hE with rfl | hE
      · obtain ⟨E', g1, g2, g3, g4⟩ := newVar_sound t m (h4 E true) ⟨h6, h7⟩
        exact ⟨_, E', by simp [Instr.alloc, h3, run_newVar, g1], by simp [g2], g3, g4⟩
      · cases hE
    · cases h
  | box t x =>
    simp only [opK] at h
    have key : (ev x ≠ .any ∧ ∀ vs, ev x ≠ .tup vs) → ∃ cat v bl', OpS R C ⟨dst, .box t x, ty, ps, af, gd⟩ ev bl cat v bl' := fun hx => by
      refine ⟨.write, .ptr bl.length [], bl ++ [some (.var (ev x))], .ofOut (F := opK C _ ev) (fun _ _ => rfl) (.ofWrite fun K => ?_) fun E a hE m hv => ⟨Instr.box t (a.eval x), rfl, ?_⟩⟩
      · simp only [opK]
        split
        · rename_i e; exact absurd e hx.1
        · rename_i vs e; exact absurd e (hx.2 vs)
        · rfl
      · rcases hE with rfl | hE
        · obtain ⟨E', g1, g2, g3, g4⟩ := newVar_sound t m (hv x) hx
          exact ⟨_, E', by simp [Instr.box, run_newVar, g1], by simp [g2], g3, g4⟩
        · cases hE
    split at h
    · cases h
    · cases h
    · rename_i h1 h2
      exact key ⟨h1, h2⟩
  | build t parts =>
    simp only [opK] at h
    obtain ⟨v, h1, h2⟩ := buildK_sound h
    refine ⟨.pure, v, bl, .ofVal (F := buildK C t _) (fun _ _ => rfl) h1 fun E a m hg hv => ?_⟩
    obtain ⟨v', h3⟩ := h2 E (parts.map fun p => (p.1, a.eval p.2)) (by simpa using partsR_of hv parts.toList)
    exact ⟨v', by simp [execOp, (h3 E.w).1], (h3 E.w).2⟩
  | buildSlice t n parts =>
    simp only [opK] at h
    obtain ⟨v, bl', h1, h2⟩ := buildSliceK_sound h
    refine ⟨.write, v, bl', .ofOut (F := buildSliceK C t n _) (fun _ _ => rfl) h1 fun E a hE m hv => ⟨_, rfl, ?_⟩⟩
    rcases hE with hE | hE
    · exact h2 E hE m _ (by simpa using partsR_of hv parts.toList)
    · cases hE
  | load t x =>
    simp only [opK] at h
    obtain ⟨cat, v, h1, h2, h3⟩ := loadK_sound h
    refine ⟨cat, v, bl, .ofMem (F := loadK C t (ev x)) (fun _ _ => rfl) h1 fun E a hE m hv => ?_⟩
    obtain ⟨v', h4, h5⟩ := h3 E hE m _ (hv x)
    exact ⟨v', by simp [execOp, h4], h5⟩
  | store t p x =>
    simp only [opK] at h
    obtain ⟨bl', h1, h2⟩ := storeK_sound h
    refine ⟨.write, .any, bl', ⟨h1, fun E a hE m hg hv => ?_⟩⟩
    rcases hE with hE | hE
    · obtain ⟨E', g1, g2, g3⟩ := h2 E hE m _ _ (hv p) (hv x)
      exact .skip (w' := E'.w) (by simp [execOp, g1]) ⟨E', rfl, by simp [g2], g3, .any _ _⟩
    · cases hE
  | nilCheck x =>
    simp only [opK] at h
    split at h
    · rename_i id p hx
      refine ⟨.pure, .ptr id p, bl, .ofVal (F := fun K => K (.ptr id p)) (fun bl K => by simp only [opK, hx]) (fun _ => rfl) fun E a m hg hv => ?_⟩
      have hh := hv x
      rw [hx] at hh
      cases hu : a.eval x <;> rw [hu] at hh <;> (try (cases hh; done))
      rename_i ad
      cases ad with
      | none => cases hh
      | some ad => exact ⟨_, by simp only [execOp, hu]; rfl, hh⟩
    · rename_i y hx
      refine ⟨.pure, .rptr y, bl, .ofVal (F := fun K => K (.rptr y)) (fun bl K => by simp only [opK, hx]) (fun _ => rfl) fun E a m hg hv => ?_⟩
      have hh := hv x
      rw [hx] at hh
      cases hu : a.eval x <;> rw [hu] at hh <;> (try (cases hh; done))
      rename_i ad
      cases ad with
      | none => cases hh
      | some ad => exact ⟨_, by simp only [execOp, hu]; rfl, hh⟩
    · rename_i f l l' hx
      refine ⟨.pure, .fn (.func f) l l', bl, .ofVal (F := fun K => K (.fn (.func f) l l')) (fun bl K => by simp only [opK, hx]) (fun _ => rfl) fun E a m hg hv => ?_⟩
      have hh := hv x
      rw [hx] at hh
      cases hu : a.eval x <;> rw [hu] at hh <;> (try (cases hh; done))
      rename_i f' as bs
      have : f' = .func f := by cases hh; rfl
      subst this
      exact ⟨_, by simp only [execOp, hu]; rfl, hh⟩
    · cases h
  | binOp op t x y b5 =>
    have aggI : ∀ {k n l} (E : Env) v, VR E true (.ints k n l) v → (∃ cs, v = .agg cs) ∨ ∃ b, v = .bool b := fun E v h => by cases h; exact .inl ⟨_, rfl⟩
    have aggA : ∀ {l} (E : Env) v, VR E true (.agg l) v → (∃ cs, v = .agg cs) ∨ ∃ b, v = .bool b := fun E v h => by cases h; exact .inl ⟨_, rfl⟩
    have aggB : ∀ {b} (E : Env) v, VR E true (.bool b) v → (∃ cs, v = .agg cs) ∨ ∃ b, v = .bool b := fun E v h => by cases h; exact .inr ⟨_, rfl⟩
    have h0 := h
    simp only [opK] at h
    split at h
    · rename_i hx hy
      exact eq_op_ok rfl (fun b => b) (.inl ⟨rfl, rfl⟩) hx hy aggI aggI (fun bl K => by simp only [opK, hx, hy]) h0
    · rename_i hx hy
      exact eq_op_ok rfl (fun b => !b) (.inr ⟨rfl, rfl⟩) hx hy aggI aggI (fun bl K => by simp only [opK, hx, hy]) h0
    · rename_i hx hy
      exact eq_op_ok rfl (fun b => b) (.inl ⟨rfl, rfl⟩) hx hy aggA aggA (fun bl K => by simp only [opK, hx, hy]) h0
    · rename_i hx hy
      exact eq_op_ok rfl (fun b => !b) (.inr ⟨rfl, rfl⟩) hx hy aggA aggA (fun bl K => by simp only [opK, hx, hy]) h0
    · rename_i hx hy
      exact eq_op_ok rfl (fun b => b) (.inl ⟨rfl, rfl⟩) hx hy aggB aggB (fun bl K => by simp only [opK, hx, hy]) h0
    · rename_i hx hy
      exact eq_op_ok rfl (fun b => !b) (.inr ⟨rfl, rfl⟩) hx hy aggB aggB (fun bl K => by simp only [opK, hx, hy]) h0
    · obtain ⟨v, v', h1, h2, h3⟩ := binK_sound h
      refine ⟨.pure, v, bl, .ofVal (F := binK _ (ev x) (ev y)) (fun bl K => ?_) h1 fun E a m hg hv => ⟨v', ?_, h2.vr E true⟩⟩
      · simp only [opK]
      · have := h3 C.P E _ _ (hv x) (hv y) E.w t x y
        simp only [execOp]
        simp only [Sem.run_bind] at this ⊢
        rw [this]
        rfl
  | unOp op t x =>
    simp only [opK] at h
    obtain ⟨v, v', h1, h2, h3⟩ := unK_sound h
    refine ⟨.pure, v, bl, .ofVal (F := unK op (ev x)) (fun _ _ => rfl) h1 fun E a m hg hv => ⟨v', by simp [execOp, h3 C.P E _ (hv x) E.w], h2.vr E true⟩⟩
  | convert s d x =>
    simp only [opK] at h
    obtain ⟨cat, v, bl', h1, h2⟩ := convK_sound h
    exact ⟨cat, v, bl', .ofOut (F := convK C s d (ev x)) (fun _ _ => rfl) h1 fun E a hE m hv => ⟨_, rfl, h2 E hE m _ (hv x)⟩⟩
  | sliceToArrayPointer t x =>
    simp only [opK] at h
    obtain ⟨cat, v, h1, h2, h3⟩ := arrayPtrK_sound h
    refine ⟨cat, v, bl, .ofMem (F := arrayPtrK C t (ev x)) (fun _ _ => rfl) h1 fun E a hE m hv => ?_⟩
    obtain ⟨v', h4, h5⟩ := h3 E hE m _ (hv x)
    exact ⟨v', by simp [execOp, h4], h5⟩
  | makeInterface t x =>
    simp only [opK] at h
    split at h
    · cases h
    · rename_i d hnd hd
      refine ⟨.pure, .iface t (ev x), bl, .ofVal (F := fun K => K (.iface t (ev x))) (fun bl K => ?_) (fun _ => rfl) fun E a m hg hv => ⟨.iface t (a.eval x), ?_, .iface _ _ _ _ (hv x)⟩⟩
      · simp only [opK]
        split
        · rename_i hi; rw [hd] at hi; cases hi; exact absurd rfl (hnd _)
        · rfl
        · rename_i hi; rw [hd] at hi; cases hi
      · simp only [execOp, Instr.makeInterface]
        cases d <;> first
          | exact absurd rfl (hnd _)
          | simp [run_underlying hd]
    · cases h
  | makeFunc f xs ys =>
    simp only [opK] at h
    refine ⟨.pure, _, bl, .ofVal (F := fun K => K (.fn f (xs.toList.map ev) (ys.toList.map ev))) (fun _ _ => rfl) (fun _ => rfl) fun E a m hg hv => ⟨.func f (xs.map a.eval) (ys.map a.eval), rfl, ?_⟩⟩
    have g1 := args_map hv xs
    have g2 := args_map hv ys
    exact .fn _ _ _ _ _ _ g1.size g2.size g1.vr g2.vr
  | makeSlice t l c =>
    simp only [opK] at h
    obtain ⟨v, bl', h1, h2⟩ := makeSliceK_sound h
    refine ⟨.write, v, bl', .ofOut (F := makeSliceK C t (ev l) (ev c)) (fun _ _ => rfl) h1 fun E a hE m hv => ⟨_, rfl, ?_⟩⟩
    rcases hE with hE | hE
    · exact h2 E hE m _ _ (hv l) (hv c)
    · cases hE
  | slice t x lo hi mx =>
    cases mx with
    | some y => simp [opK] at h
    | none =>
      simp only [opK] at h
      obtain ⟨cat, v, h1, h2, h3⟩ := sliceK_sound h
      refine ⟨cat, v, bl, .ofMem (F := sliceK C t (ev x) (lo.map ev) (hi.map ev)) (fun _ _ => rfl) h1 fun E a hE m hv => ?_⟩
      obtain ⟨v', h4, h5⟩ := h3 E hE m _ _ _ (hv x) (optR_map hv lo) (optR_map hv hi)
      exact ⟨v', by simp [execOp, h4], h5⟩
  | fieldAddr t x f =>
    simp only [opK] at h
    obtain ⟨cat, v, h1, h2, h3⟩ := fieldAddrK_sound h
    refine ⟨cat, v, bl, .ofMem (F := fieldAddrK C t (ev x) f) (fun _ _ => rfl) h1 fun E a hE m hv => ?_⟩
    obtain ⟨v', h4, h5⟩ := h3 E hE m _ (hv x)
    exact ⟨v', by simp [execOp, h4], h5⟩
  | field t x f =>
    simp only [opK] at h
    obtain ⟨v, h1, h2⟩ := fieldK_sound h
    refine ⟨.pure, v, bl, .ofVal (F := fieldK C t (ev x) f) (fun _ _ => rfl) h1 fun E a m hg hv => ?_⟩
    obtain ⟨v', h3⟩ := h2 E true _ (hv x)
    exact ⟨v', by simp [execOp, (h3 E.w).1], (h3 E.w).2⟩
  | indexAddr t x ix =>
    simp only [opK] at h
    obtain ⟨cat, v, h1, h2, h3⟩ := indexAddrK_sound h
    refine ⟨cat, v, bl, .ofMem (F := indexAddrK C t (ev x) (ev ix)) (fun _ _ => rfl) h1 fun E a hE m hv => ?_⟩
    obtain ⟨v', h4, h5⟩ := h3 E hE m _ _ (hv x) (hv ix)
    exact ⟨v', by simp [execOp, h4], h5⟩
  | index t x ix =>
    simp only [opK] at h
    obtain ⟨v, h1, h2⟩ := indexK_sound h
    refine ⟨.pure, v, bl, .ofVal (F := indexK C t (ev x) (ev ix)) (fun _ _ => rfl) h1 fun E a m hg hv => ?_⟩
    obtain ⟨v', h3⟩ := h2 E true _ _ (hv x) (hv ix)
    exact ⟨v', by simp [execOp, (h3 E.w).1], (h3 E.w).2⟩
  | extract t i =>
    simp only [opK] at h
    split at h
    · rename_i vs ht
      split at h
      · rename_i v hi
        refine ⟨.pure, v, bl, .ofVal (F := fun K => K v) (fun bl K => by simp only [opK, ht, hi]) (fun _ => rfl) fun E a m hg hv => ?_⟩
        have := hv t
        rw [ht] at this
        cases hh : a.eval t with
        | tuple cs =>
          rw [hh] at this
          cases this with
          | tup _ _ _ hs hr =>
            have hlt : i < cs.size := by rw [hs]; exact (List.getElem?_eq_some_iff.1 hi).1
            exact ⟨cs[i], by simp [execOp, hh, Instr.extract, Array.getElem?_eq_getElem hlt], hr i v _ hi (Array.getElem?_eq_getElem hlt)⟩
        | _ => rw [hh] at this; cases this
      · cases h
    · cases h
  | call c =>
    simp only [opK] at h
    split at h
    · rename_i f hc
      split at h
      · rename_i g l l' hf
        obtain ⟨cat, v, bl', h1, h2⟩ := callK_sound hΓ h
        refine ⟨cat, v, bl', ⟨?_, fun E a hE m hg hv => ?_⟩⟩
        · have hF : ∀ bl (K : Kont R), opK C ⟨dst, .call c, ty, ps, af, gd⟩ ev bl K = callK C g (l ++ c.args.toList.map ev ++ l') bl K := fun bl K => by simp only [opK, hc, hf]
          exact ⟨fun K => by rw [hF]; exact h1.det K, fun hcat => ⟨(h1.pure hcat).1, fun b2 K => by rw [hF]; exact (h1.pure hcat).2 b2 K⟩, h1.read⟩
        · have hh := hv f
          rw [hf] at hh
          cases hu : a.eval f <;> rw [hu] at hh <;> (try (cases hh; done))
          rename_i f' as bs
          have : f' = .func g := by cases hh; rfl
          subst this
          have ga : Args E l as ∧ Args E l' bs := by
            cases hh with
            | fn _ _ _ _ _ _ h1 h2 g1 g2 => exact ⟨⟨h1, g1⟩, ⟨h2, g2⟩⟩
          have := h2 E hE m hg (as ++ c.args.map a.eval ++ bs) (args_append (args_append ga.1 (args_map hv c.args)) ga.2)
          have hx : execOp a.eval ⟨dst, .call c, ty, ps, af, gd⟩ = callFunc g (as ++ c.args.map a.eval ++ bs) := by
            simp only [execOp, resolve, hc, hu, Deferred.ofValue, pure_bind]
            simp only [invoke]
          intro next Q hn
          unfold Oper.wp
          rw [hx]
          rcases this with ⟨fn, k1, k2, k3, k4⟩ | ⟨v', w', k1, k2⟩
          · have hr : (callFunc g (as ++ c.args.map a.eval ++ bs)).run C.P E.w = .ok (.enter g (as ++ c.args.map a.eval ++ bs)) E.w := by
              have k3' : fn.body ≠ none := fun e => by rw [e] at k3; cases k3
              simp [callFunc, k1, k2, k3']
            rw [hr]
            simp only [Oper.upon]
            refine k4.mono fun e w' ⟨v', he, hq⟩ => ?_
            subst he
            exact hn v' w' hq
          · rw [k1]
            exact hn v' w' k2
      · cases h
    · rename_i b hc
      have hx : ∀ (a : Act), execOp a.eval ⟨dst, .call c, ty, ps, af, gd⟩ = builtin b c.argTypes ty (c.args.map fun | .const _ => true | _ => false) (c.args.map a.eval) := fun a => by
        simp only [execOp, resolve, hc]
        rfl
      have two : ∀ {x y : AV}, c.args.toList.map ev = [x, y] → ∀ (E : Env) (a : Act), (∀ x, VR E true (ev x) (a.eval x)) → ∃ x' y', c.args.map a.eval = #[x', y'] ∧ VR E true x x' ∧ VR E true y y' := by
        intro x y he E a hv
        cases hargs : c.args with
        | mk al =>
        rw [hargs] at he
        match al, he with
        | [p, q], he =>
          simp at he
          obtain ⟨rfl, rfl⟩ := he
          exact ⟨a.eval p, a.eval q, by simp, hv p, hv q⟩
      have one : ∀ {x : AV}, c.args.toList.map ev = [x] → ∀ (E : Env) (a : Act), (∀ x, VR E true (ev x) (a.eval x)) → ∃ x', c.args.map a.eval = #[x'] ∧ VR E true x x' := by
        intro x he E a hv
        cases hargs : c.args with
        | mk al =>
        rw [hargs] at he
        match al, he with
        | [p], he =>
          simp at he
          subst he
          exact ⟨a.eval p, by simp, hv p⟩
      split at h
      · rename_i t ts x ht hxs
        obtain ⟨cat, v, h1, h2, h3⟩ := lenK_sound h
        refine ⟨cat, v, bl, .ofMem (F := lenK C t x) (fun _ _ => by simp only [opK, hc, ht, hxs]) h1 fun E a hE m hv => ?_⟩
        obtain ⟨x', g1, g2⟩ := one hxs E a hv
        obtain ⟨v', h4, h5⟩ := h3 E hE m x' c.argTypes ty (by rw [← Array.getElem?_toList, ht]; rfl) g2
        exact ⟨v', by rw [hx, g1]; simp [builtin, h4], h5⟩
      · rename_i t tx s x ht hxs
        obtain ⟨cat, v, bl', h1, h2⟩ := appendK_sound h
        refine ⟨cat, v, bl', .ofOut (F := appendK C t tx s x) (fun _ _ => by simp only [opK, hc, ht, hxs]) h1 fun E a hE m hv => ?_⟩
        obtain ⟨x', y', g1, g2, g3⟩ := two hxs E a hv
        have ht' : c.argTypes = #[t, tx] := Array.ext' (by simpa using ht)
        exact ⟨_, by rw [hx, g1]; rfl, by rw [ht']; exact h2 E hE m x' y' ty g2 g3⟩
      · rename_i t ts d x ht hxs
        obtain ⟨v, bl', h1, h2⟩ := copyK_sound h
        refine ⟨.write, v, bl', .ofOut (F := copyK C t d x) (fun _ _ => by simp only [opK, hc, ht, hxs]) h1 fun E a hE m hv => ?_⟩
        obtain ⟨x', y', g1, g2, g3⟩ := two hxs E a hv
        rcases hE with hE | hE
        · exact ⟨_, by rw [hx, g1]; rfl, h2 E hE m x' y' c.argTypes ty (by rw [← Array.getElem?_toList, ht]; rfl) g2 g3⟩
        · cases hE
      · obtain ⟨v, h1, h2⟩ := maxK_sound h
        refine ⟨.pure, v, bl, .ofVal (F := maxK (c.args.toList.map ev)) (fun bl K => by simp only [opK, hc]) h1 fun E a m hg hv => ?_⟩
        obtain ⟨v', h3, h4⟩ := h2 C.P E _ (args_map hv c.args) c.argTypes ty E.w
        exact ⟨v', by rw [hx]; simp [builtin, h3], h4⟩
      · obtain ⟨v, h1, h2⟩ := minK_sound h
        refine ⟨.pure, v, bl, .ofVal (F := minK (c.args.toList.map ev)) (fun bl K => by simp only [opK, hc]) h1 fun E a m hg hv => ?_⟩
        obtain ⟨v', h3, h4⟩ := h2 C.P E _ (args_map hv c.args) c.argTypes ty E.w
        exact ⟨v', by rw [hx]; simp [builtin, h3], h4⟩
      · cases h
    · cases h
  | _ => simp [opK] at h
end
end Go.Abs
end

section
set_option linter.unusedVariables false
set_option linter.unusedSimpArgs false
namespace Go.Abs
open Go
section
variable {R : Type} {C : Ctx}

theorem opK_congr {ev ev' : Operand → AV} (o : Oper) (h : ∀ x ∈ o.op.operands, ev x = ev' x) (bl : Blks) (K : Kont R) : opK C o ev bl K = opK C o ev' bl K := by
  obtain ⟨dst, op, type, pos, after, guard⟩ := o
  have pairs : ∀ ps : Array (Nat × Operand), (∀ x ∈ ps.map (·.2), ev x = ev' x) → (ps.toList.map fun p => (p.1, ev p.2)) = (ps.toList.map fun p => (p.1, ev' p.2)) := fun ps hp =>
    List.map_congr_left fun p hm => by
      obtain ⟨i, x⟩ := p
      simp only [hp x (Array.mem_map.2 ⟨(i, x), by simpa using hm, rfl⟩)]
  cases op <;> simp only [Op.operands] at h <;> simp only [opK]
  case build t ps => rw [pairs ps fun x hx => h x (by simpa using hx)]
  case buildSlice t n ps => rw [pairs ps fun x hx => h x (by simpa using hx)]
  case makeFunc fn first captured =>
    rw [List.map_congr_left (l := first.toList) fun x hx => h x (by simp at hx; simp [hx]), List.map_congr_left (l := captured.toList) fun x hx => h x (by simp at hx; simp [hx])]
  case call c =>
    have hargs : c.args.toList.map ev = c.args.toList.map ev' := List.map_congr_left fun x hx => h x (by simp at hx; simp [Call.operands, hx])
    rw [hargs]
    cases hc : c.callee with
    | value f => simp only [h f (by simp [Call.operands, hc])]
    | invoke r m => rfl
    | builtin b => rfl
  case slice t x lo hi mx => cases lo <;> cases hi <;> cases mx <;> simp_all
  all_goals (first | rfl | (simp_all; done))

/-- is the operation done? -/
def GuardAt (ops : Array Oper) (o : Oper) (tm : List AV) (yes : Bool) : Prop :=
  (o.guard = none ∧ yes = true) ∨ ∃ j want d b, o.guard = some (j, want) ∧ (ops[j]?).bind (·.dst) = some d ∧ tm.getD d .any = .bool b ∧ yes = (want == b)
theorem set_same {l : List AV} {d : Nat} {x : AV} (h : l.getD d .any = x) (hx : x ≠ .any) : l.set d x = l := by
  rcases Nat.lt_or_ge d l.length with hd | hd
  · rw [List.getD_eq_getElem?_getD, List.getElem?_eq_getElem hd] at h
    simp at h
    rw [← h]
    exact List.set_getElem_self hd
  · rw [List.getD_eq_getElem?_getD, List.getElem?_eq_none hd] at h
    exact absurd h.symm hx
theorem guardK_inv {ops : Array Oper} {o : Oper} {tm : List AV} {K : Bool → List AV → Option R} {r : R} (h : guardK ops o tm K = some r) :
    ∃ yes, GuardAt ops o tm yes ∧ ∀ K2 : Bool → List AV → Option R, guardK ops o tm K2 = K2 yes tm := by
  unfold guardK at h
  split at h
  · rename_i hg
    exact ⟨true, .inl ⟨hg, rfl⟩, fun K2 => by simp only [guardK, hg]⟩
  · rename_i j want hg
    split at h
    · rename_i d hd
      split at h
      · rename_i b hb
        have hs := set_same hb (by simp)
        refine ⟨want == b, .inr ⟨j, want, d, b, hg, hd, hb, rfl⟩, fun K2 => ?_⟩
        simp only [guardK, hg, hd, hb]
        cases b with
        | true => simp [hs]
        | false => simp [hs]
      · cases h
    · cases h
theorem GuardAt.wanted {E : Env} {ops : Array Oper} {o : Oper} {tm : List AV} {yes : Bool} (h : GuardAt ops o tm yes) {a : Act}
    (hv : ∀ t ∈ o.looksAt ops, VR E true (tm.getD t .any) (a.tmps.getD t undef)) : Region.wanted o (yielded ops a.tmps) = yes := by
  rcases h with ⟨h, rfl⟩ | ⟨j, want, d, b, hg, hd, hb, rfl⟩
  · simp [Region.wanted, h]
  · have := hv d (by simp [Oper.looksAt, hg, hd])
    rw [hb] at this
    have hval := this.bool_inv
    have : a.tmps[d]? = some (.bool b) := by
      cases hx : a.tmps[d]? with
      | none => simp [hx] at hval; cases hval
      | some u => simp [hx] at hval; rw [hval]
    simp [Region.wanted, hg, yielded, hd, this]
    cases b <;> cases want <;> rfl

/-- what an operation that touches one block alone hangs on. -/
def Loc (R : Type) (C : Ctx) (o : Oper) (ev : Operand → AV) (bl : Blks) (v : AV) (bl' : Blks) : RC → Prop
  | .readAt id => ∀ bl2, bget bl2 id = bget bl id → ∀ K : Kont R, opK C o ev bl2 K = K .read v bl2
  | .storeAt id => ∃ b, bl' = bl.set id (some b) ∧ v = .any ∧ id < bl.length ∧ bget bl id ≠ none ∧ ∀ bl2, bget bl2 id = bget bl id → ∀ K : Kont R, opK C o ev bl2 K = K .write .any (bl2.set id (some b))
  | .alloc id => ∃ b, id = bl.length ∧ bl' = bl ++ [some b] ∧ ∀ bl2, bl2.length = bl.length → ∀ K : Kont R, opK C o ev bl2 K = K .write v (bl2 ++ [some b])
  | _ => True
def RC.cat : RC → Cat
  | .pure => .pure
  | .read | .readAt _ => .read
  | .write | .storeAt _ | .alloc _ => .write
theorem fine_cat (o : Op) (ev : Operand → AV) (n : Nat) (c : Cat) : (fine o ev n c).cat = c := by
  cases c <;> cases o <;> first
    | rfl
    | (simp only [fine]; split <;> rfl)
theorem det_one {c c' : Cat} {v v' : AV} {b b' : Blks} {F : Kont R → Option R} (r : R) (h1 : ∀ K, F K = K c v b) (h2 : ∀ K, F K = K c' v' b') : c = c' ∧ v = v' ∧ b = b' := by
  classical
  have := (h1 fun x y z => if x = c ∧ y = v ∧ z = b then some r else none).symm.trans (h2 _)
  rw [if_pos ⟨rfl, rfl, rfl⟩] at this
  by_cases h : c' = c ∧ v' = v ∧ b' = b
  · exact ⟨h.1.symm, h.2.1.symm, h.2.2.symm⟩
  · rw [if_neg h] at this; cases this
theorem fine_congr {ev ev' : Operand → AV} (o : Oper) (h : ∀ x ∈ o.op.operands, ev x = ev' x) (n : Nat) (c : Cat) : fine o.op ev n c = fine o.op ev' n c := by
  obtain ⟨dst, op, type, pos, after, guard⟩ := o
  cases c <;> try rfl
  · cases op <;> simp only [Op.operands] at h <;> simp only [fine]
    rw [h _ (by simp)]
  · cases op <;> simp only [Op.operands] at h <;> simp only [fine]
    rename_i t a x
    rw [h a (by simp)]
theorem loc_of {o : Oper} {ev : Operand → AV} {bl bl' : Blks} {c : Cat} {v : AV} (r : R) (hd : ∀ K : Kont R, opK C o ev bl K = K c v bl') : Loc R C o ev bl v bl' (fine o.op ev bl.length c) := by
  obtain ⟨dst, op, type, pos, after, guard⟩ := o
  cases c with
  | pure => trivial
  | read =>
    cases op <;> try trivial
    rename_i t a
    simp only [fine]
    split
    · rename_i id p ha
      intro bl2 hb K
      simp only [opK, ha] at hd ⊢
      have key : ∀ (bl : Blks) (K : Kont R), loadK C t (.ptr id p) bl K = match (match bget bl id with | some b => (match getB b p with | some x => if conf C.P 8 t x = true then some x else none | none => none) | none => none) with | some x => K .read x bl | none => none := fun bl K => by
        simp only [loadK]
        cases bget bl id with
        | none => rfl
        | some b =>
          simp only
          cases getB b p with
          | none => rfl
          | some x => simp only; split <;> rfl
      simp only [key] at hd ⊢
      rw [hb]
      split at hd
      · rename_i x hx
        obtain ⟨_, h2, _⟩ := det_one r (F := fun K => K .read x bl) hd (fun K => rfl)
        rw [h2]
      · have := hd fun _ _ _ => some r
        cases this
    · trivial
  | write =>
    cases op <;> try trivial
    case alloc t =>
      simp only [fine, opK] at hd ⊢
      cases hz : zeroOf C.P t with
      | none =>
        have := hd fun _ _ _ => some r
        simp only [hz] at this
        cases this
      | some z =>
        simp only [hz] at hd
        obtain ⟨_, h2, h3⟩ := det_one r (F := fun K => K .write (.ptr bl.length []) (bl ++ [some (.var z)])) hd (fun K => rfl)
        refine ⟨.var z, rfl, h3, fun bl2 hb K => ?_⟩
        simp only [opK, hz, hb, h2]
    case box t x =>
      simp only [fine, opK] at hd ⊢
      have key : ∀ (bl : Blks) (K : Kont R), (match ev x with | .any => none | .tup _ => none | v => K .write (.ptr bl.length []) (bl ++ [some (.var v)])) = if (match ev x with | .any => false | .tup _ => false | _ => true) = true then K .write (.ptr bl.length []) (bl ++ [some (.var (ev x))]) else none := fun bl K => by
        cases ev x <;> rfl
      have hd : ∀ K : Kont R, (if (match ev x with | .any => false | .tup _ => false | _ => true) = true then K .write (.ptr bl.length []) (bl ++ [some (.var (ev x))]) else none) = K .write v bl' := fun K => (key bl K).symm.trans (hd K)
      by_cases hc : (match ev x with | .any => false | .tup _ => false | _ => true) = true
      · simp only [if_pos hc] at hd
        obtain ⟨_, h2, h3⟩ := det_one r (F := fun K => K .write (.ptr bl.length []) (bl ++ [some (.var (ev x))])) hd (fun K => rfl)
        refine ⟨.var (ev x), rfl, h3, fun bl2 hb K => ?_⟩
        refine (key bl2 K).trans ?_
        rw [if_pos hc, hb, h2]
      · simp only [if_neg hc] at hd
        have := hd fun _ _ _ => some r
        cases this
    rename_i t a x
    simp only [fine]
    split
    · rename_i id p ha
      simp only [opK, ha] at hd
      have key : ∀ (bl : Blks) (K : Kont R), storeK C t (.ptr id p) (ev x) bl K = match (match bget bl id with | some b => (match setB b p (ev x) with | some b' => if (solid (ev x) && conf C.P 8 t (ev x)) = true then some b' else none | none => none) | none => none) with | some b' => K .write .any (bl.set id (some b')) | none => none := fun bl K => by
        simp only [storeK]
        cases bget bl id with
        | none => rfl
        | some b =>
          simp only
          cases setB b p (ev x) with
          | none => rfl
          | some b' => simp only; split <;> rfl
      simp only [key] at hd
      split at hd
      · rename_i b' hx
        obtain ⟨_, h2, h3⟩ := det_one r (F := fun K => K .write .any (bl.set id (some b'))) hd (fun K => rfl)
        refine ⟨b', h3, h2, ?_, ?_, fun bl2 hb K => ?_⟩
        · cases hg : bget bl id with
          | none => rw [hg] at hx; cases hx
          | some q => exact bget_lt hg
        · intro hg
          rw [hg] at hx; cases hx
        · simp only [opK, ha, key]
          rw [hb, hx]
      · have := hd fun _ _ _ => some r
        cases this
    · trivial
theorem opS_of_det (hΓ : ∀ f m, C.Γ f = some m → CalleeS C.P C.G f m) {o : Oper} {ev : Operand → AV} {bl bl' : Blks} {c : Cat} {v : AV} (r : R) (hd : ∀ K : Kont R, opK C o ev bl K = K c v bl') : OpS R C o ev bl c v bl' := by
  obtain ⟨c', v', bl1, hos⟩ := opK_sound hΓ (hd fun _ _ _ => some r)
  obtain ⟨rfl, rfl, rfl⟩ := det_one r hos.1.det hd
  exact hos

/-- what the text's order comes to, op by op. -/
structure StepAt (R : Type) (C : Ctx) (ops : Array Oper) (o : Oper) (tm tm' : List AV) (bl bl' : Blks) (v : AV) (rc : RC) (yes : Bool) : Prop where
  guard : GuardAt ops o tm yes
  slots : tm' = put tm o.dst v
  op : yes = true → ∃ ev, (∀ x ∈ o.op.operands, ev x = get C tm x) ∧ (∀ x, x ∉ o.op.operands → ev x = .any) ∧ OpS R C o ev bl rc.cat v bl' ∧ Loc R C o ev bl v bl' rc
  no : yes = false → v = .any ∧ rc = .pure ∧ bl' = bl
  same : rc.cat ≠ .write → bl' = bl
  at' : ∀ id, rc = .storeAt id → ∃ b, bl' = bl.set id (some b) ∧ id < bl.length ∧ bget bl id ≠ none
  al' : ∀ id, rc = .alloc id → ∃ b, id = bl.length ∧ bl' = bl ++ [some b]

theorem opsK_inv (hΓ : ∀ f m, C.Γ f = some m → CalleeS C.P C.G f m) {ops : Array Oper} : ∀ {l : List Oper} {tm : List AV} {bl : Blks} {cs : List RC} {K : List RC → List AV → Blks → Option R} {r : R}, opsK C ops l tm bl cs K = some r →
    ∃ (TM : Nat → List AV) (BL : Nat → Blks) (V : Nat → AV) (cat : Nat → RC) (yes : Nat → Bool), TM 0 = tm ∧ BL 0 = bl ∧
      (∀ (i : Nat) o, l[i]? = some o → StepAt R C ops o (TM i) (TM (i + 1)) (BL i) (BL (i + 1)) (V i) (cat i) (yes i)) ∧
      ∀ K2 : List RC → List AV → Blks → Option R, opsK C ops l tm bl cs K2 = K2 (cs.reverse ++ (List.range l.length).map cat) (TM l.length) (BL l.length)
  | [], tm, bl, cs, K, r, h => ⟨fun _ => tm, fun _ => bl, fun _ => .any, fun _ => .pure, fun _ => true, rfl, rfl, fun i o h => by simp at h, fun K2 => by simp [opsK]⟩
  | o :: l, tm, bl, cs, K, r, h => by
    classical
    unfold opsK at h
    obtain ⟨yes, hg, hdet⟩ := guardK_inv h
    rw [hdet] at h
    have glue : ∀ (v : AV) (c : RC) (bl1 : Blks), StepAt R C ops o tm (put tm o.dst v) bl bl1 v c yes → (∀ K2 : List RC → List AV → Blks → Option R, opsK C ops (o :: l) tm bl cs K2 = opsK C ops l (put tm o.dst v) bl1 (c :: cs) K2) →
        opsK C ops l (put tm o.dst v) bl1 (c :: cs) K = some r →
        ∃ (TM : Nat → List AV) (BL : Nat → Blks) (V : Nat → AV) (cat : Nat → RC) (yes : Nat → Bool), TM 0 = tm ∧ BL 0 = bl ∧
          (∀ (i : Nat) p, (o :: l)[i]? = some p → StepAt R C ops p (TM i) (TM (i + 1)) (BL i) (BL (i + 1)) (V i) (cat i) (yes i)) ∧
          ∀ K2 : List RC → List AV → Blks → Option R, opsK C ops (o :: l) tm bl cs K2 = K2 (cs.reverse ++ (List.range (o :: l).length).map cat) (TM (o :: l).length) (BL (o :: l).length) := by
      intro v c bl1 hst hd hk
      obtain ⟨TM, BL, V, cat, ys, h1, h2, h3, h4⟩ := opsK_inv hΓ hk
      refine ⟨fun i => match i with | 0 => tm | i + 1 => TM i, fun i => match i with | 0 => bl | i + 1 => BL i, fun i => match i with | 0 => v | i + 1 => V i,
        fun i => match i with | 0 => c | i + 1 => cat i, fun i => match i with | 0 => yes | i + 1 => ys i, rfl, rfl, fun i p hp => ?_, fun K2 => ?_⟩
      · cases i with
        | zero =>
          simp at hp
          subst hp
          simp only [h1, h2]
          exact hst
        | succ i => exact h3 i p (by simpa using hp)
      · rw [hd, h4]
        simp [List.range_succ_eq_map, Function.comp_def]
    cases yes with
    | true =>
      simp only [if_true] at h
      have hc : ∀ x ∈ o.op.operands, get C tm x = (if x ∈ o.op.operands then get C tm x else .any) := fun x hx => by simp [hx]
      rw [opK_congr o hc] at h
      obtain ⟨c, v, bl1, hos⟩ := opK_sound hΓ h
      have hks := hos.1
      have hloc := loc_of r hks.det
      rw [hks.det] at h
      rw [fine_congr o hc] at h
      generalize hrc : fine o.op (fun x => if x ∈ o.op.operands then get C tm x else .any) bl.length c = rc at h hloc
      have hcat : rc.cat = c := by rw [← hrc]; exact fine_cat _ _ _ _
      refine glue v rc bl1 ⟨hg, rfl, fun _ => ⟨_, fun x hx => by simp [hx], fun x hx => by simp [hx], by rw [hcat]; exact hos, hloc⟩, fun h => (by cases h), fun hcn => ?_, fun id hid => ?_, fun id hid => ?_⟩ (fun K2 => ?_) h
      · rw [hcat] at hcn
        cases c with
        | pure => exact (hks.pure rfl).1
        | read => exact hks.read rfl
        | write => exact absurd rfl hcn
      · subst hid
        obtain ⟨b, h1, _, h2, h3, _⟩ := hloc
        exact ⟨b, h1, h2, h3⟩
      · subst hid
        obtain ⟨b, h1, h2, _⟩ := hloc
        exact ⟨b, h1, h2⟩
      · conv => lhs; unfold opsK
        rw [hdet]
        simp only [if_true]
        rw [opK_congr o hc, hks.det, fine_congr o hc, hrc]
    | false =>
      simp only [Bool.false_eq_true, if_false] at h
      refine glue .any .pure bl ⟨hg, rfl, fun h => (by cases h), fun _ => ⟨rfl, rfl, rfl⟩, fun _ => rfl, fun id h => (by cases h), fun id h => (by cases h)⟩ (fun K2 => ?_) h
      conv => lhs; unfold opsK
      rw [hdet]
      simp

/-- how the slots stand. -/
structure SR (C : Ctx) (E : Env) (tm : List AV) (bl : Blks) (a : Act) : Prop where
  bl : E.bl = bl
  mem : Mem E
  glob : Glob C.G E
  size : a.tmps.size = tm.length
  vr : ∀ t, VR E true (tm.getD t .any) (a.tmps.getD t undef)
  defers : a.defers = []

theorem ofConst_vr (E : Env) (o : Bool) (v : Value) : VR E o (ofConst v) v := by
  unfold ofConst
  split
  · exact .bool _ _
  · exact .int _ _ _
  · exact .str _ _
  · exact .snil _
  · exact .nilp _
  · exact .nilf _
  · exact .nili _
  · exact .any _ _
theorem get_vr {E : Env} {tm : List AV} {a : Act} {x : Operand} (g : Glob C.G E) (h : ∀ t, x = .tmp t → VR E true (tm.getD t .any) (a.tmps.getD t undef)) : VR E true (get C tm x) (a.eval x) := by
  cases x with
  | tmp t => exact h t rfl
  | const v => exact ofConst_vr _ _ _
  | global n =>
    have := g n
    simp only [get]
    split
    · exact .any _ _
    · rename_i hx
      split at this
      · rename_i he; exact absurd he hx
      · exact this.lift
  | func f => exact .fn _ _ _ _ _ _ rfl rfl (fun j x c h => by simp at h) (fun j x c h => by simp at h)

/-- the blocks behind an operation. -/
def blAft (rc : RC) (bl bl' : Blks) : Blks := match rc with
  | .storeAt id => bl.set id (bget bl' id)
  | .alloc _ => bl ++ [bget bl' bl.length]
  | .write => bl'
  | _ => bl
theorem step_wp (hΓ : ∀ f m, C.Γ f = some m → CalleeS C.P C.G f m) (r : R) {ops : Array Oper} {i : Nat} {o : Oper} {tm tm' : List AV} {bl bl' : Blks} {v : AV} {rc : RC} {yes : Bool} (hs : StepAt R C ops o tm tm' bl bl' v rc yes) (hi : ops[i]? = some o) {E : Env} {a : Act}
    {K : Act → World → Prop} {Q : Exit → Act → World → Prop} (hE : E.bl = bl ∨ rc = .pure ∨ (∃ id, (rc = .readAt id ∨ rc = .storeAt id) ∧ bget E.bl id = bget bl id) ∨ (∃ id, rc = .alloc id ∧ E.bl.length = bl.length)) (m : Mem E) (g : Glob C.G E)
    (hl : ∀ t ∈ o.looksAt ops, VR E true (tm.getD t .any) (a.tmps.getD t undef))
    (hK : ∀ E' v', Go E E' → E'.bl = blAft rc E.bl bl' → VR E' true v v' → K (a.put o.dst v') E'.w) : wpOp C.P ops Q i K a E.w := by
  unfold wpOp
  simp only [hi]
  rw [hs.guard.wanted hl]
  cases yes with
  | true =>
    obtain ⟨ev, h1, h2, hos, hloc⟩ := hs.op rfl
    simp only [if_true]
    have hev : ∀ x, VR E true (ev x) (a.eval x) := fun x => by
      by_cases hx : x ∈ o.op.operands
      · rw [h1 x hx]
        refine get_vr g fun t ht => hl t ?_
        subst ht
        exact List.mem_append_left _ (List.mem_filterMap.2 ⟨.tmp t, by simpa using hx, rfl⟩)
      · rw [h2 x hx]
        exact .any _ _
    refine .inl ?_
    have use : ∀ (c : Cat) (b1 b2 : Blks), OpS R C o ev b1 c v b2 → (E.bl = b1 ∨ c = .pure) → (if c = .pure then E.bl else b2) = blAft rc E.bl bl' → o.wp C.P a E.w K Q := fun c b1 b2 hos hE hb =>
      hos.2 E a hE m g hev K Q fun v' w' ⟨E', e1, e2, e3, e4⟩ => by
        rw [← e1]
        exact hK E' v' e3 (e2.trans hb) e4
    have full : (∀ id, rc ≠ .readAt id) → (∀ id, rc ≠ .storeAt id) → (∀ id, rc ≠ .alloc id) → rc ≠ .pure → E.bl = bl := fun h1 h2 h4 h3 => by
      rcases hE with h | h | ⟨id, h | h, _⟩ | ⟨id, h, _⟩
      · exact h
      · exact absurd h h3
      · exact absurd h (h1 id)
      · exact absurd h (h2 id)
      · exact absurd h (h4 id)
    have part : ∀ id, (rc = .readAt id ∨ rc = .storeAt id) → bget E.bl id = bget bl id := fun id h => by
      rcases hE with h' | h' | ⟨id', h', hb⟩ | ⟨id', h', _⟩
      · rw [h']
      · subst h'; rcases h with h | h <;> cases h
      · rcases h with rfl | rfl <;> rcases h' with h' | h' <;> cases h' <;> exact hb
      · subst h'; rcases h with h | h <;> cases h
    cases rc with
    | pure => exact use .pure bl bl' hos (.inr rfl) rfl
    | read =>
      have h := full (by simp) (by simp) (by simp) (by simp)
      exact use .read bl bl' hos (.inl h) (by rw [hs.same (by simp [RC.cat])]; simpa [blAft] using h.symm)
    | readAt id => exact use .read E.bl E.bl (opS_of_det hΓ r (hloc E.bl (part id (.inl rfl)))) (.inl rfl) rfl
    | storeAt id =>
      obtain ⟨q, e1, e2, e3, _, e4⟩ := hloc
      subst e2
      refine use .write E.bl _ (opS_of_det hΓ r (e4 E.bl (part id (.inr rfl)))) (.inl rfl) ?_
      simp only [reduceCtorEq, if_false, blAft, e1]
      rw [bget_set_self e3]
    | alloc id =>
      obtain ⟨q, e0, e1, e2⟩ := hloc
      have hl : E.bl.length = bl.length := by
        rcases hE with h | h | ⟨id', h, _⟩ | ⟨id', _, h⟩
        · rw [h]
        · cases h
        · rcases h with h | h <;> cases h
        · exact h
      refine use .write E.bl _ (opS_of_det hΓ r (e2 E.bl hl)) (.inl rfl) ?_
      simp only [reduceCtorEq, if_false, blAft, e1, hl]
      rw [bget_new]
    | write =>
      have h := full (by simp) (by simp) (by simp) (by simp)
      exact use .write bl bl' hos (.inl h) rfl
  | false =>
    obtain ⟨rfl, rfl, rfl⟩ := hs.no rfl
    simp only [Bool.false_eq_true, if_false]
    exact hK E undef (.refl m) rfl (.any _ _)

theorem getD_put (tm : List AV) (d : Option Nat) (v : AV) (t : Nat) : (put tm d v).getD t .any = if d = some t ∧ t < tm.length then v else tm.getD t .any := by
  unfold put
  cases d with
  | none => simp
  | some d =>
    simp only [List.getD_eq_getElem?_getD, List.getElem?_set]
    by_cases h : d = t
    · subst h
      by_cases h2 : d < tm.length
      · simp [h2]
      · simp [h2]
    · simp [h]
theorem put_length (tm : List AV) (d : Option Nat) (v : AV) : (put tm d v).length = tm.length := by cases d <;> simp [put]
theorem act_put_get (a : Act) (d : Option Nat) (v : Value) (t : Nat) : (a.put d v).tmps.getD t undef = if d = some t ∧ t < a.tmps.size then v else a.tmps.getD t undef := by
  cases d with
  | none => simp [Act.put]
  | some d =>
    simp only [Act.put, Array.getD_eq_getD_getElem?, Array.getElem?_setIfInBounds]
    by_cases h : d = t
    · subst h
      by_cases h2 : d < a.tmps.size
      · simp [h2]
      · simp [h2]
    · simp [h]
theorem act_put_size (a : Act) (d : Option Nat) (v : Value) : (a.put d v).tmps.size = a.tmps.size := by cases d <;> simp [Act.put]
theorem act_put_defers (a : Act) (d : Option Nat) (v : Value) : (a.put d v).defers = a.defers := by cases d <;> rfl

theorem SR.put {E E' : Env} {tm : List AV} {bl bl' : Blks} {a : Act} (s : SR C E tm bl a) (g : Go E E') (hb : E'.bl = bl') {d : Option Nat} {v : AV} {v' : Value} (hv : VR E' true v v') :
    SR C E' (put tm d v) bl' (a.put d v') := by
  refine ⟨hb, g.mem, s.glob.mono g.step.ro, by rw [act_put_size, put_length, s.size], fun t => ?_, by rw [act_put_defers, s.defers]⟩
  rw [getD_put, act_put_get, s.size]
  split
  · exact hv
  · exact (s.vr t).mono g.step

theorem ops_text (hΓ : ∀ f m, C.Γ f = some m → CalleeS C.P C.G f m) (r : R) {ops : Array Oper} {TM : Nat → List AV} {BL : Nat → Blks} {V : Nat → AV} {cat : Nat → RC} {yes : Nat → Bool}
    (hst : ∀ (i : Nat) o, ops[i]? = some o → StepAt R C ops o (TM i) (TM (i + 1)) (BL i) (BL (i + 1)) (V i) (cat i) (yes i)) {Q : Exit → Act → World → Prop} :
    ∀ (n i : Nat) (E : Env) (a : Act), i + n = ops.size → SR C E (TM i) (BL i) a → (∀ E' a', Go E E' → SR C E' (TM ops.size) (BL ops.size) a' → Q .normal a' E'.w) →
      wpOps C.P ops Q (List.range' i n) a E.w
  | 0, i, E, a, hn, hs, hq => by
    have : i = ops.size := by omega
    subst this
    exact hq E a (.refl hs.mem) hs
  | n + 1, i, E, a, hn, hs, hq => by
    rw [List.range'_succ, wpOps_cons]
    have hi : i < ops.size := by omega
    have ho := Array.getElem?_eq_getElem hi
    have st := hst i _ ho
    refine step_wp hΓ r st ho (.inl hs.bl) hs.mem hs.glob (fun t _ => hs.vr t) fun E' v' g hb hv => ?_
    have s' := hs.put (d := ops[i].dst) g (bl' := BL (i + 1)) (by
      rw [hb, hs.bl]
      have hsame := st.same
      have hat := st.at'
      have hal := st.al'
      revert hsame hat hal
      generalize cat i = rc
      intro hsame hat hal
      cases rc with
      | alloc id =>
        obtain ⟨b, h1, h2⟩ := hal id rfl
        simp only [blAft, h2]
        rw [bget_new]
      | pure => exact (hsame (by simp [RC.cat])).symm
      | read => exact (hsame (by simp [RC.cat])).symm
      | readAt id => exact (hsame (by simp [RC.cat])).symm
      | storeAt id =>
        obtain ⟨b, h1, h2, _⟩ := hat id rfl
        simp only [blAft, h1]
        rw [bget_set_self h2]
      | write => rfl) hv
    rw [← st.slots] at s'
    exact ops_text hΓ r hst n (i + 1) E' _ (by omega) s' fun E2 a2 g2 s2 => hq E2 a2 (g.trans g2) s2
end
end Go.Abs
end

section
set_option linter.unusedVariables false
set_option linter.unusedSimpArgs false
namespace Go.Abs
open Go
section
variable {R : Type} {C : Ctx}

/-- closed under what binds. -/
def Closed (ops : Array Oper) (S : Nat → Prop) : Prop := ∀ (j : Nat) o, ops[j]? = some o → S j → ∀ e ∈ o.after, Region.binds .any e = true → S e.on

theorem fold_bits {S : Nat → Prop} (look : Nat → Nat) (hl : ∀ k i, S k → (look k).testBit i = true → S i) : ∀ (es : List Edge) (s : Nat), (∀ e ∈ es, Region.binds .any e = true → S e.on) → (∀ i, s.testBit i = true → S i) →
    ∀ i, (es.foldl (fun s e => if Region.binds .any e then s ||| 2 ^ e.on ||| look e.on else s) s).testBit i = true → S i
  | [], s, _, hs, i, h => hs i h
  | e :: es, s, he, hs, i, h => by
    rw [List.foldl_cons] at h
    refine fold_bits look hl es _ (fun e' h' => he e' (by simp [h'])) (fun k hk => ?_) i h
    split at hk
    · rename_i hb
      have hon := he e (by simp) hb
      simp only [Nat.testBit_or, Bool.or_eq_true] at hk
      rcases hk with (hk | hk) | hk
      · exact hs k hk
      · rw [Nat.testBit_two_pow] at hk
        simp at hk
        rw [← hk]; exact hon
      · exact hl e.on k hon hk
    · exact hs k hk
theorem before_spec {ops : Array Oper} {S : Nat → Prop} (hc : Closed ops S) : ∀ (j i : Nat), S j → ((Region.before ops).getD j 0).testBit i = true → S i := by
  unfold Region.before
  rw [← Array.foldl_toList]
  have key : ∀ (l : List Oper) (acc : Array Nat), (∀ (j : Nat) o, l[j]? = some o → ops[acc.size + j]? = some o) → (∀ j i, S j → (acc.getD j 0).testBit i = true → S i) →
      ∀ j i, S j → ((l.foldl (fun acc o => acc.push (o.after.foldl (fun s e => if Region.binds .any e then s ||| 2 ^ e.on ||| acc.getD e.on 0 else s) 0)) acc).getD j 0).testBit i = true → S i := by
    intro l
    induction l with
    | nil => intro acc _ h; exact h
    | cons o l ih =>
      intro acc ho h
      rw [List.foldl_cons]
      refine ih _ (fun j p hp => by have := ho (j + 1) p (by simpa using hp); rw [Array.size_push]; rw [show acc.size + 1 + j = acc.size + (j + 1) by omega]; exact this) fun j i hj hb => ?_
      rcases Nat.lt_trichotomy j acc.size with hlt | rfl | hgt
      · refine h j i hj ?_
        simp only [Array.getD_eq_getD_getElem?] at hb ⊢
        rw [Array.getElem?_push_lt hlt] at hb
        rw [Array.getElem?_eq_getElem hlt]
        exact hb
      · simp only [Array.getD_eq_getD_getElem?, Array.getElem?_push_size, Option.getD_some] at hb
        rw [← Array.foldl_toList] at hb
        refine fold_bits (fun k => acc.getD k 0) (fun k i hk hi => h k i hk hi) o.after.toList 0 (fun e he hbd => hc _ o (by simpa using ho 0 o rfl) hj e (by simpa using he) hbd) (fun i h => by simp at h) i ?_
        simpa [Array.getD_eq_getD_getElem?] using hb
      · simp only [Array.getD_eq_getD_getElem?] at hb
        rw [Array.getElem?_eq_none (by rw [Array.size_push]; omega)] at hb
        simp at hb
  exact key ops.toList #[] (fun j o h => by simpa using h) fun j i _ h => by simp at h

structure OrderFacts (ops : Array Oper) (cat : Nat → RC) : Prop where
  edge : ∀ (j : Nat) o, ops[j]? = some o → ∀ e ∈ o.after, Region.binds .any e = true → e.on < j
  cats : ∀ i j, i < j → j < ops.size → (cat i).free (cat j) = true ∨ ((Region.before ops).getD j 0).testBit i = true
  slots : ∀ (i j : Nat) p q, i < j → ops[i]? = some p → ops[j]? = some q → ((Region.before ops).getD j 0).testBit i = true ∨ p.apart ops q = true

theorem orderOK_facts {ops : Array Oper} {cat : Nat → RC} (h : orderOK ops ((List.range ops.size).map cat) = true) : OrderFacts ops cat := by
  unfold orderOK at h
  simp only [CheckFast.beforeF_eq, List.all_eq_true, List.mem_range, Bool.and_eq_true] at h
  have hcat : ∀ i, i < ops.size → ((List.range ops.size).map cat).toArray.getD i .write = cat i := fun i hi => by
    simp [Array.getD_eq_getD_getElem?, List.getElem?_map, List.getElem?_range hi]
  have hget : ∀ (i : Nat) o, ops[i]? = some o → ops.getD i default = o := fun i o ho => by simp [Array.getD_eq_getD_getElem?, ho]
  refine ⟨fun j o ho e he hb => ?_, fun i j hij hj => ?_, fun i j p q hij hp hq => ?_⟩
  · have hj := (Array.getElem?_eq_some_iff.1 ho).1
    have := (h j hj).1
    rw [hget j o ho, Array.all_eq_true_iff_forall_mem] at this
    have := this e he
    simpa [hb] using this
  · have := ((h j hj).2 i hij).1
    rw [hcat i (by omega), hcat j hj] at this
    simpa using this
  · have hj := (Array.getElem?_eq_some_iff.1 hq).1
    have := ((h j hj).2 i hij).2
    rw [hget i p hp, hget j q hq] at this
    simpa using this

/-- the slots after those of the operations that are done. -/
def tmS (tm0 : List AV) (dst : Nat → Option Nat) (V : Nat → AV) (S : Nat → Bool) : Nat → List AV
  | 0 => tm0
  | i + 1 => if S i = true then put (tmS tm0 dst V S i) (dst i) (V i) else tmS tm0 dst V S i
theorem tmS_length (tm0 : List AV) (dst : Nat → Option Nat) (V : Nat → AV) (S : Nat → Bool) : ∀ n, (tmS tm0 dst V S n).length = tm0.length
  | 0 => rfl
  | n + 1 => by
    unfold tmS
    split
    · rw [put_length]; exact tmS_length tm0 dst V S n
    · exact tmS_length tm0 dst V S n
theorem tmS_slot {n : Nat} {TM : Nat → List AV} {dst : Nat → Option Nat} {V : Nat → AV} {S : Nat → Bool} (hTM : ∀ i, i < n → TM (i + 1) = put (TM i) (dst i) (V i)) (hlen : ∀ i, i ≤ n → (TM i).length = (TM 0).length)
    {t i : Nat} (h : ∀ j, j < n → dst j = some t → (S j = true ↔ j < i)) : ∀ m, m ≤ n → (tmS (TM 0) dst V S m).getD t .any = (TM (min m i)).getD t .any
  | 0, _ => by simp [tmS]
  | m + 1, hm => by
    have ih := tmS_slot hTM hlen h m (by omega)
    unfold tmS
    by_cases hd : dst m = some t
    · have := h m (by omega) hd
      by_cases hs : S m = true
      · have hmi := this.1 hs
        rw [if_pos hs, getD_put, Nat.min_eq_left (by omega), hTM m (by omega), getD_put, tmS_length, hlen m (by omega), ih, Nat.min_eq_left (by omega)]
      · have hmi : ¬ m < i := fun e => hs (this.2 e)
        rw [if_neg hs, ih, Nat.min_eq_right (by omega), Nat.min_eq_right (by omega)]
    · have hleft : (if S m = true then put (tmS (TM 0) dst V S m) (dst m) (V m) else tmS (TM 0) dst V S m).getD t .any = (tmS (TM 0) dst V S m).getD t .any := by
        split
        · rw [getD_put, if_neg (fun e => hd e.1)]
        · rfl
      rw [hleft, ih]
      rcases Nat.lt_or_ge m i with hmi | hmi
      · rw [Nat.min_eq_left (by omega), Nat.min_eq_left (by omega), hTM m (by omega), getD_put, if_neg (fun e => hd e.1)]
      · rw [Nat.min_eq_right (by omega), Nat.min_eq_right (by omega)]
theorem tmS_upd {n : Nat} {tm0 : List AV} {dst : Nat → Option Nat} {V : Nat → AV} {S S' : Nat → Bool} {i : Nat} (hi : i < n) (hs : S i = false) (hS' : ∀ j, S' j = (S j || decide (j = i)))
    (h : ∀ j t, i < j → j < n → dst i = some t → dst j = some t → S j = false) (t : Nat) :
    (tmS tm0 dst V S' n).getD t .any = if dst i = some t ∧ t < tm0.length then V i else (tmS tm0 dst V S n).getD t .any := by
  have low : ∀ m, m ≤ i → tmS tm0 dst V S' m = tmS tm0 dst V S m := by
    intro m
    induction m with
    | zero => intro _; rfl
    | succ m ih =>
      intro hm
      unfold tmS
      rw [ih (by omega), hS' m]
      simp [show m ≠ i by omega]
  have high : ∀ k, i + 1 + k ≤ n → (tmS tm0 dst V S' (i + 1 + k)).getD t .any = if dst i = some t ∧ t < tm0.length then V i else (tmS tm0 dst V S (i + 1 + k)).getD t .any := by
    intro k
    induction k with
    | zero =>
      intro _
      simp only [Nat.add_zero]
      unfold tmS
      rw [low i (Nat.le_refl i), hS' i]
      simp only [decide_true, Bool.or_true, if_true, hs, Bool.false_eq_true, if_false]
      rw [getD_put, tmS_length]
    | succ k ih =>
      intro hk
      have ih := ih (by omega)
      rw [show i + 1 + (k + 1) = (i + 1 + k) + 1 by omega]
      conv => lhs; unfold tmS
      conv => rhs; unfold tmS
      rw [hS' (i + 1 + k)]
      simp only [show i + 1 + k ≠ i by omega, decide_false, Bool.or_false]
      by_cases hS : S (i + 1 + k) = true
      · simp only [hS, if_true]
        rw [getD_put, getD_put, tmS_length, tmS_length]
        by_cases hd : dst (i + 1 + k) = some t
        · have hne : dst i ≠ some t := fun e => by
            have := h (i + 1 + k) t (by omega) (by omega) e hd
            rw [this] at hS; cases hS
          simp only [hd, hne, true_and, false_and, if_false]
          split
          · rfl
          · rw [ih]; simp [hne]
        · simp only [hd, false_and, if_false]
          exact ih
      · simp only [hS, if_false]
        exact ih
  have := high (n - (i + 1)) (by omega)
  rw [show i + 1 + (n - (i + 1)) = n by omega] at this
  exact this

/-- how many are left. -/
def cnt (S : Nat → Bool) : Nat → Nat
  | 0 => 0
  | i + 1 => cnt S i + if S i = true then 0 else 1
theorem cnt_zero {S : Nat → Bool} : ∀ {n : Nat}, cnt S n = 0 → ∀ i, i < n → S i = true
  | n + 1, h, i, hi => by
    simp only [cnt] at h
    rcases Nat.lt_or_ge i n with h' | h'
    · exact cnt_zero (by omega) i h'
    · have : i = n := by omega
      subst this
      by_cases hs : S i = true
      · exact hs
      · simp [hs] at h
theorem cnt_pos {S : Nat → Bool} : ∀ {n : Nat}, cnt S n ≠ 0 → ∃ i, i < n ∧ S i = false
  | 0, h => absurd rfl h
  | n + 1, h => by
    by_cases hs : S n = true
    · simp only [cnt, hs, if_true, Nat.add_zero] at h
      obtain ⟨i, hi, h⟩ := cnt_pos h
      exact ⟨i, by omega, h⟩
    · exact ⟨n, by omega, by simpa using hs⟩
theorem cnt_upd {S S' : Nat → Bool} {i : Nat} (hs : S i = false) (hS' : ∀ j, S' j = (S j || decide (j = i))) : ∀ {n : Nat}, i < n → cnt S n = cnt S' n + 1
  | n + 1, hi => by
    have low : ∀ m, m ≤ i → cnt S' m = cnt S m := by
      intro m
      induction m with
      | zero => intro _; rfl
      | succ m ih => intro hm; simp only [cnt, ih (by omega), hS' m]; simp [show m ≠ i by omega]
    simp only [cnt, hS' n]
    rcases Nat.lt_or_ge i n with h' | h'
    · rw [cnt_upd hs hS' h']
      simp only [show n ≠ i by omega, decide_false, Bool.or_false]
      omega
    · have : i = n := by omega
      subst this
      rw [low i (Nat.le_refl i)]
      simp [hs]
theorem least {S : Nat → Bool} : ∀ {n : Nat}, S n = false → ∃ m, m ≤ n ∧ S m = false ∧ ∀ k, k < m → S k = true := by
  intro n
  induction n using Nat.strongRecOn with
  | _ n ih =>
    intro h
    by_cases hx : ∃ k, k < n ∧ S k = false
    · obtain ⟨k, hk, hs⟩ := hx
      obtain ⟨m, h1, h2⟩ := ih k hk hs
      exact ⟨m, by omega, h2⟩
    · exact ⟨n, Nat.le_refl n, h, fun k hk => by
        cases hs : S k with
        | true => rfl
        | false => exact absurd ⟨k, hk, hs⟩ hx⟩

section
variable {ops : Array Oper} {TM : Nat → List AV} {BL : Nat → Blks} {V : Nat → AV} {cat : Nat → RC} {yes : Nat → Bool}

def dstOf (ops : Array Oper) (i : Nat) : Option Nat := (ops[i]?).bind (·.dst)

structure AnyInv (C : Ctx) (ops : Array Oper) (TM : Nat → List AV) (BL : Nat → Blks) (V : Nat → AV) (cat : Nat → RC) (E : Env) (a : Act) (S : Nat → Bool) : Prop where
  mem : Mem E
  glob : Glob C.G E
  size : a.tmps.size = (TM 0).length
  defers : a.defers = []
  vr : ∀ t, VR E true ((tmS (TM 0) (dstOf ops) V S ops.size).getD t .any) (a.tmps.getD t undef)
  len : ∃ p, p ≤ ops.size ∧ E.bl.length = (BL p).length ∧ ∀ j, j < ops.size → (cat j = .write ∨ ∃ id, cat j = .alloc id) → (S j = true ↔ j < p)
  bl : ∀ id, ∃ p, p ≤ ops.size ∧ bget E.bl id = bget (BL p) id ∧ ∀ j, j < ops.size → (cat j = .write ∨ cat j = .storeAt id ∨ cat j = .alloc id) → (S j = true ↔ j < p)

theorem step_get (hst : ∀ (i : Nat) o, ops[i]? = some o → StepAt R C ops o (TM i) (TM (i + 1)) (BL i) (BL (i + 1)) (V i) (cat i) (yes i)) {i : Nat} (hi : i < ops.size) (hw : cat i ≠ .write) :
    ((∀ id, cat i ≠ .alloc id) → (BL (i + 1)).length = (BL i).length) ∧ ∀ id, cat i ≠ .storeAt id → cat i ≠ .alloc id → bget (BL (i + 1)) id = bget (BL i) id := by
  have st := hst i _ (Array.getElem?_eq_getElem hi)
  have hsame := st.same
  have hat := st.at'
  have hal := st.al'
  revert hsame hat hal hw
  generalize cat i = rc
  intro hw hsame hat hal
  cases rc with
  | write => exact absurd rfl hw
  | storeAt id =>
    obtain ⟨b, h1, h2, _⟩ := hat id rfl
    rw [h1]
    exact ⟨fun _ => by simp, fun id' h _ => bget_set_ne (fun e => h (by rw [e]))⟩
  | alloc id =>
    obtain ⟨b, h1, h2⟩ := hal id rfl
    rw [h2]
    refine ⟨fun h => absurd rfl (h id), fun id' _ h => ?_⟩
    have hne : id' ≠ (BL i).length := fun e => h (by rw [h1, e])
    rcases Nat.lt_or_ge id' (BL i).length with hl | hl
    · exact bget_append hl
    · simp [bget, List.getElem?_eq_none (show (BL i ++ [some b]).length ≤ id' by simp; omega), List.getElem?_eq_none hl]
  | pure => have := hsame (by simp [RC.cat]); rw [this]; exact ⟨fun _ => rfl, fun _ _ _ => rfl⟩
  | read => have := hsame (by simp [RC.cat]); rw [this]; exact ⟨fun _ => rfl, fun _ _ _ => rfl⟩
  | readAt id => have := hsame (by simp [RC.cat]); rw [this]; exact ⟨fun _ => rfl, fun _ _ _ => rfl⟩
theorem len_const (hst : ∀ (i : Nat) o, ops[i]? = some o → StepAt R C ops o (TM i) (TM (i + 1)) (BL i) (BL (i + 1)) (V i) (cat i) (yes i)) {p : Nat} : ∀ k, p + k ≤ ops.size → (∀ j, p ≤ j → j < p + k → cat j ≠ .write ∧ ∀ id, cat j ≠ .alloc id) → (BL (p + k)).length = (BL p).length
  | 0, _, _ => rfl
  | k + 1, hk, h => by
    rw [show p + (k + 1) = (p + k) + 1 by omega, (step_get hst (by omega) (h _ (by omega) (by omega)).1).1 (h _ (by omega) (by omega)).2]
    exact len_const hst k (by omega) fun j h1 h2 => h j h1 (by omega)
theorem get_const (hst : ∀ (i : Nat) o, ops[i]? = some o → StepAt R C ops o (TM i) (TM (i + 1)) (BL i) (BL (i + 1)) (V i) (cat i) (yes i)) {id p : Nat} : ∀ k, p + k ≤ ops.size → (∀ j, p ≤ j → j < p + k → cat j ≠ .write ∧ cat j ≠ .storeAt id ∧ cat j ≠ .alloc id) → bget (BL (p + k)) id = bget (BL p) id
  | 0, _, _ => rfl
  | k + 1, hk, h => by
    have hh := h (p + k) (by omega) (by omega)
    rw [show p + (k + 1) = (p + k) + 1 by omega, (step_get hst (by omega) hh.1).2 id hh.2.1 hh.2.2]
    exact get_const hst k (by omega) fun j h1 h2 => h j h1 (by omega)
theorem len_same (hst : ∀ (i : Nat) o, ops[i]? = some o → StepAt R C ops o (TM i) (TM (i + 1)) (BL i) (BL (i + 1)) (V i) (cat i) (yes i)) {p q : Nat} (hp : p ≤ ops.size) (hq : q ≤ ops.size)
    (h : ∀ j, j < ops.size → (cat j = .write ∨ ∃ id, cat j = .alloc id) → (j < p ↔ j < q)) : (BL p).length = (BL q).length := by
  rcases Nat.le_total p q with hpq | hpq
  · have := len_const hst (p := p) (q - p) (by omega) fun j h1 h2 => ⟨fun hw => by have := (h j (by omega) (.inl hw)).2 (by omega); omega, fun id hw => by have := (h j (by omega) (.inr ⟨id, hw⟩)).2 (by omega); omega⟩
    rw [show p + (q - p) = q by omega] at this
    exact this.symm
  · have := len_const hst (p := q) (p - q) (by omega) fun j h1 h2 => ⟨fun hw => by have := (h j (by omega) (.inl hw)).1 (by omega); omega, fun id hw => by have := (h j (by omega) (.inr ⟨id, hw⟩)).1 (by omega); omega⟩
    rw [show q + (p - q) = p by omega] at this
    exact this
theorem get_same (hst : ∀ (i : Nat) o, ops[i]? = some o → StepAt R C ops o (TM i) (TM (i + 1)) (BL i) (BL (i + 1)) (V i) (cat i) (yes i)) {id p q : Nat} (hp : p ≤ ops.size) (hq : q ≤ ops.size)
    (h : ∀ j, j < ops.size → (cat j = .write ∨ cat j = .storeAt id ∨ cat j = .alloc id) → (j < p ↔ j < q)) : bget (BL p) id = bget (BL q) id := by
  rcases Nat.le_total p q with hpq | hpq
  · have := get_const hst (id := id) (p := p) (q - p) (by omega) fun j h1 h2 => ⟨fun hw => by have := (h j (by omega) (.inl hw)).2 (by omega); omega, fun hw => by have := (h j (by omega) (.inr (.inl hw))).2 (by omega); omega, fun hw => by have := (h j (by omega) (.inr (.inr hw))).2 (by omega); omega⟩
    rw [show p + (q - p) = q by omega] at this
    exact this.symm
  · have := get_const hst (id := id) (p := q) (p - q) (by omega) fun j h1 h2 => ⟨fun hw => by have := (h j (by omega) (.inl hw)).1 (by omega); omega, fun hw => by have := (h j (by omega) (.inr (.inl hw))).1 (by omega); omega, fun hw => by have := (h j (by omega) (.inr (.inr hw))).1 (by omega); omega⟩
    rw [show q + (p - q) = p by omega] at this
    exact this
theorem blks_ext {a b : Blks} (hl : a.length = b.length) (h : ∀ id, bget a id = bget b id) : a = b := by
  apply List.ext_getElem hl
  intro i h1 h2
  have := h i
  simpa [bget, h1, h2] using this

theorem any_wp (hΓ : ∀ f m, C.Γ f = some m → CalleeS C.P C.G f m) (r : R) (hst : ∀ (i : Nat) o, ops[i]? = some o → StepAt R C ops o (TM i) (TM (i + 1)) (BL i) (BL (i + 1)) (V i) (cat i) (yes i)) (F : OrderFacts ops cat) {Q : Exit → Act → World → Prop} :
    ∀ (fuel : Nat) (listed : Array Bool) (E : Env) (a : Act), listed.size = ops.size → Closed ops (fun j => listed.getD j false = true) → cnt (fun j => listed.getD j false) ops.size = fuel →
      AnyInv C ops TM BL V cat E a (fun j => listed.getD j false) → (∀ E' a', Go E E' → SR C E' (TM ops.size) (BL ops.size) a' → Q .normal a' E'.w) →
      wpAny C.P .any ops Q fuel listed a E.w := by
  have hTM : ∀ i, i < ops.size → TM (i + 1) = put (TM i) (dstOf ops i) (V i) := fun i hi => by
    have ho := Array.getElem?_eq_getElem hi
    rw [(hst i _ ho).slots]
    simp [dstOf, ho]
  have hlen : ∀ i, i ≤ ops.size → (TM i).length = (TM 0).length := by
    intro i
    induction i with
    | zero => intro _; rfl
    | succ i ih => intro hi; rw [hTM i (by omega), put_length]; exact ih (by omega)
  have done : ∀ (listed : Array Bool) (E : Env) (a : Act), cnt (fun j => listed.getD j false) ops.size = 0 → AnyInv C ops TM BL V cat E a (fun j => listed.getD j false) → SR C E (TM ops.size) (BL ops.size) a := fun listed E a hc inv => by
    have hall := cnt_zero hc
    refine ⟨?_, inv.mem, inv.glob, by rw [inv.size, hlen _ (Nat.le_refl _)], fun t => ?_, inv.defers⟩
    · refine blks_ext ?_ fun id => ?_
      · obtain ⟨p, hp, hb, hw⟩ := inv.len
        rw [hb]
        exact len_same hst hp (Nat.le_refl _) fun j hj hwj => ⟨fun _ => hj, fun _ => (hw j hj hwj).1 (hall j hj)⟩
      · obtain ⟨p, hp, hb, hw⟩ := inv.bl id
        rw [hb]
        exact get_same hst hp (Nat.le_refl _) fun j hj hwj => ⟨fun _ => hj, fun _ => (hw j hj hwj).1 (hall j hj)⟩
    · have := tmS_slot hTM hlen (S := fun j => listed.getD j false) (t := t) (i := ops.size) (fun j hj _ => ⟨fun _ => hj, fun _ => hall j hj⟩) ops.size (Nat.le_refl _)
      rw [Nat.min_self] at this
      rw [← this]
      exact inv.vr t
  have ready_ne : ∀ (listed : Array Bool), listed.size = ops.size → cnt (fun j => listed.getD j false) ops.size ≠ 0 → Region.ready .any ops listed ≠ [] := fun listed hsz hc => by
    obtain ⟨i, hi, hs⟩ := cnt_pos hc
    obtain ⟨m, hm, hsm, hall⟩ := least (S := fun j => listed.getD j false) hs
    have ho := Array.getElem?_eq_getElem (xs := ops) (i := m) (by omega)
    have : m ∈ Region.ready .any ops listed := mem_ready.2 ⟨by
      have hml : m < listed.size := by omega
      simp [Array.getD_eq_getD_getElem?, hml] at hsm ⊢
      exact hsm, _, ho, fun e he hb => hall e.on (F.edge m _ ho e he hb)⟩
    intro e
    rw [e] at this
    cases this
  intro fuel
  induction fuel with
  | zero =>
    intro listed E a hsz hcl hc inv hq
    refine ⟨?_, hq E a (.refl inv.mem) (done listed E a hc inv)⟩
    have hall := cnt_zero hc
    cases hr : Region.ready .any ops listed with
    | nil => rfl
    | cons j r =>
      have hj : j ∈ Region.ready .any ops listed := by rw [hr]; simp
      obtain ⟨h0, o, ho, _⟩ := mem_ready.1 hj
      have hjn := (Array.getElem?_eq_some_iff.1 ho).1
      have := hall j hjn
      have hjl : j < listed.size := by omega
      simp [Array.getD_eq_getD_getElem?, hjl] at h0 this
      rw [h0] at this
      cases this
  | succ fuel ih =>
    intro listed E a hsz hcl hc inv hq
    refine ⟨fun h0 => absurd h0 (ready_ne listed hsz (by omega)), fun i hi => ?_⟩
    obtain ⟨h0, o, ho, hedges⟩ := mem_ready.1 hi
    have hin := (Array.getElem?_eq_some_iff.1 ho).1
    have hil : i < listed.size := by omega
    have hSi : listed.getD i false = false := by simp [Array.getD_eq_getD_getElem?, hil] at h0 ⊢; exact h0
    have hS' : ∀ j, (listed.setIfInBounds i true).getD j false = (listed.getD j false || decide (j = i)) := fun j => by
      simp only [Array.getD_eq_getD_getElem?, Array.getElem?_setIfInBounds]
      by_cases hji : j = i
      · subst hji; simp [hil]
      · have : ¬ i = j := fun e => hji e.symm
        simp [hji, this]
    have hcl' : Closed ops (fun j => (listed.setIfInBounds i true).getD j false = true) := fun j p hp hj e he hb => by
      simp only [hS', Bool.or_eq_true, decide_eq_true_eq] at hj ⊢
      rcases hj with hj | rfl
      · exact .inl (hcl j p hp hj e he hb)
      · rw [ho] at hp
        cases hp
        exact .inl (hedges e he hb)
    -- what must come ahead has come; what must come behind has not
    have ahead : ∀ j, ((Region.before ops).getD i 0).testBit j = true → j < i → listed.getD j false = true := fun j hb hji => by
      have := before_spec hcl' i j (by simp [hS']) hb
      simp only [hS', Bool.or_eq_true, decide_eq_true_eq] at this
      exact this.resolve_right (by omega)
    have behind : ∀ j, ((Region.before ops).getD j 0).testBit i = true → listed.getD j false = false := fun j hb => by
      cases hj : listed.getD j false with
      | false => rfl
      | true =>
        have := before_spec hcl j i hj hb
        rw [hSi] at this
        cases this
    have hbl : ∀ j, j < ops.size → (j < i → (cat j).free (cat i) = false) → (i < j → (cat i).free (cat j) = false) → j ≠ i → (listed.getD j false = true ↔ j < i) := fun j hj f1 f2 hne => by
      constructor
      · intro hs
        rcases Nat.lt_or_ge j i with h | h
        · exact h
        · have hlt : i < j := by omega
          rcases F.cats i j hlt hj with h1 | h1
          · rw [f2 hlt] at h1; cases h1
          · rw [behind j h1] at hs; cases hs
      · intro h
        rcases F.cats j i h hin with h1 | h1
        · rw [f1 h] at h1; cases h1
        · exact ahead j h1 h
    have self : (listed.getD i false = true ↔ i < i) := by rw [hSi]; simp
    have lenOf : (∀ j, j < ops.size → (cat j = .write ∨ ∃ id, cat j = .alloc id) → (listed.getD j false = true ↔ j < i)) → E.bl.length = (BL i).length := fun hall => by
      obtain ⟨p, hp, hb, hw⟩ := inv.len
      rw [hb]
      refine len_same hst hp (by omega) fun j hj hwj => ?_
      rw [← hw j hj hwj]
      exact hall j hj hwj
    have getOf : ∀ id, (∀ j, j < ops.size → (cat j = .write ∨ cat j = .storeAt id ∨ cat j = .alloc id) → (listed.getD j false = true ↔ j < i)) → bget E.bl id = bget (BL i) id := fun id hall => by
      obtain ⟨p, hp, hb, hw⟩ := inv.bl id
      rw [hb]
      refine get_same hst hp (by omega) fun j hj hwj => ?_
      rw [← hw j hj hwj]
      exact hall j hj hwj
    have lenI : (cat i = .read ∨ cat i = .write) → E.bl = BL i := fun hc => by
      have hall : ∀ j, j < ops.size → (cat j = .write ∨ (∃ id, cat j = .storeAt id) ∨ ∃ id, cat j = .alloc id) → (listed.getD j false = true ↔ j < i) := fun j hj hwj => by
        by_cases hji : j = i
        · subst hji; exact self
        · refine hbl j hj (fun _ => ?_) (fun _ => ?_) hji
          · rcases hwj with h | ⟨id, h⟩ | ⟨id, h⟩ <;> rcases hc with hc | hc <;> rw [h, hc] <;> rfl
          · rcases hwj with h | ⟨id, h⟩ | ⟨id, h⟩ <;> rcases hc with hc | hc <;> rw [h, hc] <;> rfl
      refine blks_ext (lenOf fun j hj hwj => hall j hj (hwj.elim .inl fun h => .inr (.inr h))) fun id => getOf id fun j hj hwj => hall j hj ?_
      rcases hwj with h | h | h
      · exact .inl h
      · exact .inr (.inl ⟨_, h⟩)
      · exact .inr (.inr ⟨_, h⟩)
    have atI : ∀ id, (cat i = .readAt id ∨ cat i = .storeAt id) → (∀ j, j < ops.size → (cat j = .write ∨ cat j = .storeAt id ∨ cat j = .alloc id) → (listed.getD j false = true ↔ j < i)) ∧ bget E.bl id = bget (BL i) id := fun id hc => by
      have hall : ∀ j, j < ops.size → (cat j = .write ∨ cat j = .storeAt id ∨ cat j = .alloc id) → (listed.getD j false = true ↔ j < i) := fun j hj hwj => by
        by_cases hji : j = i
        · subst hji; exact self
        · refine hbl j hj (fun _ => ?_) (fun _ => ?_) hji
          · rcases hwj with h | h | h <;> rcases hc with hc | hc <;> rw [h, hc] <;> simp [RC.free]
          · rcases hwj with h | h | h <;> rcases hc with hc | hc <;> rw [h, hc] <;> simp [RC.free]
      exact ⟨hall, getOf id hall⟩
    have alI : ∀ id, cat i = .alloc id → (∀ j, j < ops.size → (cat j = .write ∨ ∃ id, cat j = .alloc id) → (listed.getD j false = true ↔ j < i)) ∧ (∀ j, j < ops.size → (cat j = .write ∨ cat j = .storeAt id ∨ cat j = .alloc id) → (listed.getD j false = true ↔ j < i)) := fun id hc => by
      refine ⟨fun j hj hwj => ?_, fun j hj hwj => ?_⟩
      · by_cases hji : j = i
        · subst hji; exact self
        · refine hbl j hj (fun _ => ?_) (fun _ => ?_) hji
          · rcases hwj with h | ⟨id', h⟩ <;> rw [h, hc] <;> rfl
          · rcases hwj with h | ⟨id', h⟩ <;> rw [h, hc] <;> rfl
      · by_cases hji : j = i
        · subst hji; exact self
        · refine hbl j hj (fun _ => ?_) (fun _ => ?_) hji
          · rcases hwj with h | h | h <;> rw [h, hc] <;> simp [RC.free]
          · rcases hwj with h | h | h <;> rw [h, hc] <;> simp [RC.free]
    have hEbl : E.bl = BL i ∨ cat i = .pure ∨ (∃ id, (cat i = .readAt id ∨ cat i = .storeAt id) ∧ bget E.bl id = bget (BL i) id) ∨ (∃ id, cat i = .alloc id ∧ E.bl.length = (BL i).length) := by
      cases hcat : cat i with
      | pure => exact .inr (.inl rfl)
      | read => exact .inl (lenI (.inl hcat))
      | write => exact .inl (lenI (.inr hcat))
      | readAt id => exact .inr (.inr (.inl ⟨id, .inl rfl, (atI id (.inl hcat)).2⟩))
      | storeAt id => exact .inr (.inr (.inl ⟨id, .inr rfl, (atI id (.inr hcat)).2⟩))
      | alloc id => exact .inr (.inr (.inr ⟨id, rfl, lenOf (alI id hcat).1⟩))
    have st := hst i o ho
    refine step_wp hΓ r st ho hEbl inv.mem inv.glob (fun t ht => ?_) fun E' v' g hb' hv => ?_
    · have := tmS_slot hTM hlen (S := fun j => listed.getD j false) (t := t) (i := i) (fun j hj hd => ?_) ops.size (Nat.le_refl _)
      · rw [Nat.min_eq_right (by omega)] at this
        rw [← this]
        exact inv.vr t
      · have hoj := Array.getElem?_eq_getElem hj
        have hdj : ops[j].dst = some t := by simpa [dstOf, hoj] using hd
        constructor
        · intro hs
          rcases Nat.lt_trichotomy j i with h | rfl | h
          · exact h
          · rw [hSi] at hs; cases hs
          · rcases F.slots i j _ _ h ho hoj with h1 | h1
            · rw [behind j h1] at hs; cases hs
            · exact absurd ht ((Oper.apart_spec h1).2.2 t hdj)
        · intro h
          rcases F.slots j i _ _ h hoj ho with h1 | h1
          · exact ahead j h1 h
          · exact absurd ht ((Oper.apart_spec h1).1 t hdj)
    · refine ih _ E' _ (by simpa using hsz) hcl' (by have := cnt_upd (S := fun j => listed.getD j false) (S' := fun j => (listed.setIfInBounds i true).getD j false) hSi hS' hin; omega) ?_ fun E2 a2 g2 s2 => hq E2 a2 (g.trans g2) s2
      refine ⟨g.mem, inv.glob.mono g.step.ro, by rw [act_put_size]; exact inv.size, by rw [act_put_defers]; exact inv.defers, fun t => ?_, ?_, ?_⟩
      · rw [tmS_upd hin (S := fun j => listed.getD j false) hSi hS' (fun j t hij hj hdi hdj => ?_) t]
        · rw [act_put_get, inv.size]
          have : dstOf ops i = o.dst := by simp [dstOf, ho]
          rw [this]
          split
          · exact hv
          · exact (inv.vr t).mono g.step
        · have hoj := Array.getElem?_eq_getElem hj
          rcases F.slots i j _ _ hij ho hoj with h1 | h1
          · exact behind j h1
          · have hdi' : o.dst = some t := by simpa [dstOf, ho] using hdi
            have hdj' : ops[j].dst = some t := by simpa [dstOf, hoj] using hdj
            exact absurd hdj' ((Oper.apart_spec h1).2.1 t hdi')
      · have keep : cat i ≠ .write → (∀ id, cat i ≠ .alloc id) → E'.bl.length = E.bl.length → ∃ p, p ≤ ops.size ∧ E'.bl.length = (BL p).length ∧ ∀ j, j < ops.size → (cat j = .write ∨ ∃ id, cat j = .alloc id) → ((listed.setIfInBounds i true).getD j false = true ↔ j < p) := fun hne hne2 hl => by
          obtain ⟨p, hp, hb, hw⟩ := inv.len
          refine ⟨p, hp, hl.trans hb, fun j hj hwj => ?_⟩
          rw [← hw j hj hwj]
          simp only [hS', Bool.or_eq_true, decide_eq_true_eq]
          exact ⟨fun h => h.resolve_right (fun e => by subst e; exact hwj.elim hne fun ⟨id, h⟩ => hne2 id h), .inl⟩
        have step : E'.bl.length = (BL (i + 1)).length → (∀ j, j < ops.size → j ≠ i → (cat j = .write ∨ ∃ id, cat j = .alloc id) → (listed.getD j false = true ↔ j < i)) → ∃ p, p ≤ ops.size ∧ E'.bl.length = (BL p).length ∧ ∀ j, j < ops.size → (cat j = .write ∨ ∃ id, cat j = .alloc id) → ((listed.setIfInBounds i true).getD j false = true ↔ j < p) := fun hl hall => by
          refine ⟨i + 1, by omega, hl, fun j hj hwj => ?_⟩
          simp only [hS', Bool.or_eq_true, decide_eq_true_eq]
          by_cases hji : j = i
          · subst hji; simp
          · rw [hall j hj hji hwj]
            omega
        cases hcat : cat i with
        | pure => rw [hcat] at hb'; exact keep (by rw [hcat]; simp) (by rw [hcat]; simp) (by rw [hb']; rfl)
        | read => rw [hcat] at hb'; exact keep (by rw [hcat]; simp) (by rw [hcat]; simp) (by rw [hb']; rfl)
        | readAt id => rw [hcat] at hb'; exact keep (by rw [hcat]; simp) (by rw [hcat]; simp) (by rw [hb']; rfl)
        | storeAt id => rw [hcat] at hb'; exact keep (by rw [hcat]; simp) (by rw [hcat]; simp) (by rw [hb']; simp [blAft])
        | alloc id =>
          rw [hcat] at hb'
          obtain ⟨b, g1, g2⟩ := st.al' id hcat
          exact step (by rw [hb', g2]; simp [blAft, lenOf (alI id hcat).1]) fun j hj _ hwj => (alI id hcat).1 j hj hwj
        | write =>
          rw [hcat] at hb'
          refine step (by rw [hb']; rfl) fun j hj hji hwj => hbl j hj (fun _ => ?_) (fun _ => ?_) hji
          · rcases hwj with h | ⟨id, h⟩ <;> rw [h, hcat] <;> rfl
          · rcases hwj with h | ⟨id, h⟩ <;> rw [h, hcat] <;> rfl
      · intro id
        have keep : cat i ≠ .write → cat i ≠ .storeAt id → cat i ≠ .alloc id → bget E'.bl id = bget E.bl id → ∃ p, p ≤ ops.size ∧ bget E'.bl id = bget (BL p) id ∧ ∀ j, j < ops.size → (cat j = .write ∨ cat j = .storeAt id ∨ cat j = .alloc id) → ((listed.setIfInBounds i true).getD j false = true ↔ j < p) := fun hne hne2 hne3 hl => by
          obtain ⟨p, hp, hb, hw⟩ := inv.bl id
          refine ⟨p, hp, hl.trans hb, fun j hj hwj => ?_⟩
          rw [← hw j hj hwj]
          simp only [hS', Bool.or_eq_true, decide_eq_true_eq]
          exact ⟨fun h => h.resolve_right (fun e => by subst e; exact hwj.elim hne fun h => h.elim hne2 hne3), .inl⟩
        have step : bget E'.bl id = bget (BL (i + 1)) id → (∀ j, j < ops.size → j ≠ i → (cat j = .write ∨ cat j = .storeAt id ∨ cat j = .alloc id) → (listed.getD j false = true ↔ j < i)) → ∃ p, p ≤ ops.size ∧ bget E'.bl id = bget (BL p) id ∧ ∀ j, j < ops.size → (cat j = .write ∨ cat j = .storeAt id ∨ cat j = .alloc id) → ((listed.setIfInBounds i true).getD j false = true ↔ j < p) := fun hl hall => by
          refine ⟨i + 1, by omega, hl, fun j hj hwj => ?_⟩
          simp only [hS', Bool.or_eq_true, decide_eq_true_eq]
          by_cases hji : j = i
          · subst hji; simp
          · rw [hall j hj hji hwj]
            omega
        cases hcat : cat i with
        | pure => rw [hcat] at hb'; exact keep (by rw [hcat]; simp) (by rw [hcat]; simp) (by rw [hcat]; simp) (by rw [hb']; rfl)
        | read => rw [hcat] at hb'; exact keep (by rw [hcat]; simp) (by rw [hcat]; simp) (by rw [hcat]; simp) (by rw [hb']; rfl)
        | readAt id' => rw [hcat] at hb'; exact keep (by rw [hcat]; simp) (by rw [hcat]; simp) (by rw [hcat]; simp) (by rw [hb']; rfl)
        | storeAt id' =>
          rw [hcat] at hb'
          by_cases hid : id' = id
          · subst hid
            obtain ⟨hall, hget⟩ := atI id' (.inr hcat)
            obtain ⟨b, g1, g2, hb0⟩ := st.at' id' hcat
            have hlt : id' < E.bl.length := by
              cases hg : bget E.bl id' with
              | none => rw [hget] at hg; exact absurd hg hb0
              | some q => exact bget_lt hg
            exact step (by rw [hb']; simp only [blAft]; rw [bget_set_self hlt]) fun j hj _ hwj => hall j hj hwj
          · exact keep (by rw [hcat]; simp) (by rw [hcat]; simpa using hid) (by rw [hcat]; simp) (by rw [hb']; simp only [blAft]; rw [bget_set_ne hid])
        | alloc id' =>
          rw [hcat] at hb'
          obtain ⟨b, g1, g2⟩ := st.al' id' hcat
          have hl := lenOf (alI id' hcat).1
          have hE : E'.bl = E.bl ++ [some b] := by
            rw [hb']
            simp only [blAft, g2]
            rw [hl, bget_new]
          by_cases hid : id' = id
          · subst hid
            refine step ?_ fun j hj _ hwj => (alI id' hcat).2 j hj hwj
            rw [hE, g2, g1, bget_new, ← hl, bget_new]
          · refine keep (by rw [hcat]; simp) (by rw [hcat]; simp) (by rw [hcat]; simpa using hid) ?_
            rw [hE]
            rcases Nat.lt_or_ge id E.bl.length with h | h
            · exact bget_append h
            · have : id ≠ E.bl.length := fun e => hid (by rw [g1, ← hl, e])
              simp [bget, List.getElem?_eq_none (show (E.bl ++ [some b]).length ≤ id by simp; omega), List.getElem?_eq_none h]
        | write =>
          rw [hcat] at hb'
          refine step (by rw [hb']; rfl) fun j hj hji hwj => hbl j hj (fun _ => ?_) (fun _ => ?_) hji
          · rcases hwj with h | h | h <;> rw [h, hcat] <;> rfl
          · rcases hwj with h | h | h <;> rw [h, hcat] <;> rfl
end

theorem region_sound (hΓ : ∀ f m, C.Γ f = some m → CalleeS C.P C.G f m) (hmix : C.P.follows .mixedOrders = true) {id : Nat} {ops : Array Oper} {draw : Bool} {tm : List AV} {bl : Blks} {K : List AV → Blks → Option R} {r : R}
    (h : (opsK C ops ops.toList tm bl [] fun cs tm bl => if (!draw || orderOK ops cs) = true then K tm bl else none) = some r) :
    ∃ tm' bl', (∀ K2 : List AV → Blks → Option R, (opsK C ops ops.toList tm bl [] fun cs tm bl => if (!draw || orderOK ops cs) = true then K2 tm bl else none) = K2 tm' bl') ∧
      ∀ E a Q, SR C E tm bl a → (∀ E' a', Go E E' → SR C E' tm' bl' a' → Q .normal a' E'.w) → (Code.region id ops draw).wp C.P Q a E.w := by
  obtain ⟨TM, BL, V, cat, yes, h1, h2, h3, h4⟩ := opsK_inv hΓ h
  have hst : ∀ (i : Nat) o, ops[i]? = some o → StepAt R C ops o (TM i) (TM (i + 1)) (BL i) (BL (i + 1)) (V i) (cat i) (yes i) := fun i o ho => h3 i o (by simpa using ho)
  have h4 : ∀ K2 : List RC → List AV → Blks → Option R, opsK C ops ops.toList tm bl [] K2 = K2 ((List.range ops.size).map cat) (TM ops.size) (BL ops.size) := fun K2 => by simpa using h4 K2
  rw [h4] at h
  by_cases hok : (!draw || orderOK ops ((List.range ops.size).map cat)) = true
  · refine ⟨TM ops.size, BL ops.size, fun K2 => by rw [h4, if_pos hok], fun E a Q hs hq => ?_⟩
    subst h1; subst h2
    cases draw with
    | false =>
      refine wp_region ?_
      rw [List.range_eq_range']
      exact ops_text hΓ r hst ops.size 0 E a (by omega) hs hq
    | true =>
      have F := orderOK_facts (by simpa using hok)
      refine wp_region_any hmix ?_
      have g := Go.drew hs.mem
      refine any_wp hΓ r hst F ops.size _ E.drew a (by simp) (fun j o _ hj => ?_) ?_ ⟨g.mem, hs.glob.mono g.step.ro, hs.size, hs.defers, fun t => ?_, ⟨0, by omega, by rw [← hs.bl]; rfl, fun j hj _ => ?_⟩, fun id => ⟨0, by omega, by rw [← hs.bl]; rfl, fun j hj _ => ?_⟩⟩ fun E' a' g' s' => hq E' a' (g.trans g') s'
      · simp [Array.getD_eq_getD_getElem?, Array.getElem?_replicate] at hj
        split at hj <;> cases hj
      · have : ∀ n, n ≤ ops.size → cnt (fun j => (Array.replicate ops.size false).getD j false) n = n := by
          intro n
          induction n with
          | zero => intro _; rfl
          | succ n ih => intro hn; simp only [cnt, ih (by omega)]; simp [Array.getD_eq_getD_getElem?, Array.getElem?_replicate, show n < ops.size by omega]
        exact this _ (Nat.le_refl _)
      · have : ∀ n, tmS (TM 0) (dstOf ops) V (fun j => (Array.replicate ops.size false).getD j false) n = TM 0 := by
          intro n
          induction n with
          | zero => rfl
          | succ n ih =>
            unfold tmS
            rw [ih]
            split
            · rename_i hx
              simp [Array.getD_eq_getD_getElem?, Array.getElem?_replicate] at hx
              split at hx <;> cases hx
            · rfl
        rw [this]
        exact (hs.vr t).mono g.step
      all_goals
        constructor
        · intro hx
          simp [Array.getD_eq_getD_getElem?, Array.getElem?_replicate] at hx
          split at hx <;> cases hx
        · intro hx; omega
  · rw [if_neg hok] at h; cases h
end
end Go.Abs
end
