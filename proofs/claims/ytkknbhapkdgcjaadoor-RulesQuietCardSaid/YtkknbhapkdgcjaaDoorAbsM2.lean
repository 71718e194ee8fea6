/- An executor of the model's code over abstract values, and that it is right: what it tells of a run is what the run does. No condition. -/
import Derived.Test.YtkknbhapkdgcjaaDoorAbsM1
section
set_option linter.unusedVariables false
set_option linter.unusedSimpArgs false
namespace Go.Abs
open Go
def OpDoes (P : Program) (o : Oper) (a : Act) (w : World) (Rr : Value → World → Prop) : Prop :=
  ∀ next Q, (∀ v' w', Rr v' w' → next (a.put o.dst v') w') → o.wp P a w next Q
theorem OpDoes.value {P : Program} {o : Oper} {a : Act} {w w' : World} {v' : Value} {Rr : Value → World → Prop}
    (h : (execOp a.eval o).run P w = .ok (.value v') w') (hr : Rr v' w') : OpDoes P o a w Rr := fun next Q hn => by
  unfold Oper.wp; rw [h]; exact hn _ _ hr
theorem OpDoes.skip {P : Program} {o : Oper} {a : Act} {w w' : World} {Rr : Value → World → Prop}
    (h : (execOp a.eval o).run P w = .ok .skip w') (hr : Rr undef w') : OpDoes P o a w Rr := fun next Q hn => by
  unfold Oper.wp; rw [h]; exact hn _ _ hr
theorem OpDoes.mono {P : Program} {o : Oper} {a : Act} {w : World} {Rr Rr' : Value → World → Prop} (h : OpDoes P o a w Rr) (hr : ∀ v w, Rr v w → Rr' v w) :
    OpDoes P o a w Rr' := fun next Q hn => h next Q fun v w hv => hn v w (hr v w hv)
theorem VR.int_inv {E : Env} {o : Bool} {k : IntKind} {n : Int} {v : Value} (h : VR E o (.int k n) v) : v = .int k n := by cases h; rfl
theorem VR.bool_inv {E : Env} {o : Bool} {b : Bool} {v : Value} (h : VR E o (.bool b) v) : v = .bool b := by cases h; rfl
inductive Plain : AV → Value → Prop where
  | int (k n) : Plain (.int k n) (.int k n)
  | bool (b) : Plain (.bool b) (.bool b)
  | str (s) : Plain (.str s) (.string s)
theorem Plain.vr {x : AV} {v : Value} (h : Plain x v) (E : Env) (o : Bool) : VR E o x v := by
  cases h
  · exact .int _ _ _
  · exact .bool _ _
  · exact .str _ _
section
variable {R : Type}
theorem binK_sound {op : BinOp} {x y : AV} {K : AV → Option R} {r : R} (h : binK op x y K = some r) :
    ∃ v v', (∀ K2 : AV → Option R, binK op x y K2 = K2 v) ∧ Plain v v' ∧
      ∀ (P : Program) (E : Env) (x' y' : Value), VR E true x x' → VR E true y y' → ∀ w t xo yo, (do eqGuard op t xo yo x' y'; binOp op t x' y').run P w = .ok v' w := by
  unfold binK at h
  split at h <;> (try split at h) <;> (try split at h) <;> (try (cases h; done))
  all_goals
    try subst_vars
    first
    | refine ⟨_, _, fun K2 => rfl, .bool _, fun P E x' y' hx hy w t xo yo => ?_⟩
    | refine ⟨_, _, fun K2 => rfl, .str _, fun P E x' y' hx hy w t xo yo => ?_⟩
    | refine ⟨_, _, fun K2 => if_pos ‹_›, .int _ _, fun P E x' y' hx hy w t xo yo => ?_⟩
    | refine ⟨_, _, fun K2 => if_pos ‹_›, .str _, fun P E x' y' hx hy w t xo yo => ?_⟩
    | refine ⟨_, _, fun K2 => if_pos rfl, .int _ _, fun P E x' y' hx hy w t xo yo => ?_⟩
    | refine ⟨_, _, fun K2 => if_pos rfl, .bool _, fun P E x' y' hx hy w t xo yo => ?_⟩
    | refine ⟨_, _, fun K2 => (if_pos rfl).trans (if_neg ‹_›), .int _ _, fun P E x' y' hx hy w t xo yo => ?_⟩
    cases hx; cases hy
  all_goals try simp [eqGuard, binOp, Op.intArith, Op.intBits, Op.intCmp, Op.intDiv, Op.shift, Op.stringOp, ibits, ishl, ishr, *]
  all_goals first
    | (intro hh; omega)
    | omega
theorem unK_sound {op : UnOp} {x : AV} {K : AV → Option R} {r : R} (h : unK op x K = some r) :
    ∃ v v', (∀ K2 : AV → Option R, unK op x K2 = K2 v) ∧ Plain v v' ∧ ∀ (P : Program) (E : Env) (x' : Value), VR E true x x' → ∀ w, (Op.unary op x').run P w = .ok v' w := by
  unfold unK at h
  split at h <;> (try (cases h; done))
  · exact ⟨_, _, fun K2 => rfl, .int _ _, fun P E x' hx w => by cases hx; simp [Op.unary, Op.intArith]⟩
  · exact ⟨_, _, fun K2 => rfl, .int _ _, fun P E x' hx w => by cases hx; simp [Op.unary, Op.intBits, ibits]⟩
  · exact ⟨_, _, fun K2 => rfl, .bool _, fun P E x' hx w => by cases hx; simp [Op.unary]⟩
theorem maxFrom_sound {k : IntKind} : ∀ {l : List AV} {a : Int} {K : AV → Option R} {r : R}, maxFrom k a l K = some r →
    ∃ n, (∀ K2 : AV → Option R, maxFrom k a l K2 = K2 (.int k n)) ∧ ∀ (P : Program) (E : Env) (vs : List Value), vs.length = l.length → (∀ (j : Nat) x c, l[j]? = some x → vs[j]? = some c → VR E true x c) →
      ∀ w, (vs.foldlM Builtin.max2 (.int k a)).run P w = .ok (.int k n) w
  | [], a, K, r, h => ⟨a, fun K2 => rfl, fun P E vs hl _ w => by cases vs with | nil => rfl | cons => simp at hl⟩
  | x :: l, a, K, r, h => by
    unfold maxFrom at h
    split at h
    · rename_i k' b
      split at h
      · rename_i hk
        subst hk
        obtain ⟨n, h1, h2⟩ := maxFrom_sound h
        refine ⟨n, fun K2 => (if_pos rfl).trans (h1 K2), fun P E vs hl hv w => ?_⟩
        cases vs with
        | nil => simp at hl
        | cons v vs =>
          have := (hv 0 _ v rfl rfl).int_inv
          subst this
          simp only [List.foldlM_cons, Builtin.max2, Sem.run_bind, Sem.run_pure, Result.andThen_ok]
          exact h2 P E vs (by simpa using hl) (fun j x c hx hc => hv (j + 1) x c (by simpa using hx) (by simpa using hc)) w
      · cases h
    · cases h
theorem minFrom_sound {k : IntKind} : ∀ {l : List AV} {a : Int} {K : AV → Option R} {r : R}, minFrom k a l K = some r →
    ∃ n, (∀ K2 : AV → Option R, minFrom k a l K2 = K2 (.int k n)) ∧ ∀ (P : Program) (E : Env) (vs : List Value), vs.length = l.length → (∀ (j : Nat) x c, l[j]? = some x → vs[j]? = some c → VR E true x c) →
      ∀ w, (vs.foldlM Builtin.min2 (.int k a)).run P w = .ok (.int k n) w
  | [], a, K, r, h => ⟨a, fun K2 => rfl, fun P E vs hl _ w => by cases vs with | nil => rfl | cons => simp at hl⟩
  | x :: l, a, K, r, h => by
    unfold minFrom at h
    split at h
    · rename_i k' b
      split at h
      · rename_i hk
        subst hk
        obtain ⟨n, h1, h2⟩ := minFrom_sound h
        refine ⟨n, fun K2 => (if_pos rfl).trans (h1 K2), fun P E vs hl hv w => ?_⟩
        cases vs with
        | nil => simp at hl
        | cons v vs =>
          have := (hv 0 _ v rfl rfl).int_inv
          subst this
          simp only [List.foldlM_cons, Builtin.min2, Sem.run_bind, Sem.run_pure, Result.andThen_ok]
          exact h2 P E vs (by simpa using hl) (fun j x c hx hc => hv (j + 1) x c (by simpa using hx) (by simpa using hc)) w
      · cases h
    · cases h
theorem boundsK_sound {lo hi : Option AV} {n : Nat} {K : Nat → Option Nat → Option R} {r : R} (h : boundsK lo hi n K = some r) :
    ∃ l h', (∀ K2 : Nat → Option Nat → Option R, boundsK lo hi n K2 = K2 l h') ∧ l ≤ h'.getD n ∧ h'.getD n ≤ n ∧
      ∀ (P : Program) (E : Env) (lo' hi' : Option Value), (∀ x, lo = some x → ∃ v, lo' = some v ∧ VR E true x v) → (∀ x, hi = some x → ∃ v, hi' = some v ∧ VR E true x v) →
        (lo = none → lo' = none) → (hi = none → hi' = none) → ∀ w b cap, n ≤ cap → (Instr.sliceBounds b n cap lo' hi' none).run P w = .ok (l, h'.getD n, cap) w := by
  unfold boundsK at h
  split at h <;> (try (cases h; done))
  · exact ⟨0, none, fun _ => rfl, Nat.zero_le _, Nat.le_refl _, fun P E lo' hi' h1 h2 h3 h4 w b cap hc => by rw [h3 rfl, h4 rfl]; simp [Instr.sliceBounds]⟩
  · rename_i k l
    split at h <;> (try (cases h; done))
    split at h <;> (try (cases h; done))
    rename_i g1 g2
    refine ⟨l.toNat, none, fun _ => (if_pos g1).trans (if_pos g2), by simp; omega, Nat.le_refl _, fun P E lo' hi' h1 h2 h3 h4 w b cap hc => ?_⟩
    obtain ⟨v, rfl, hv⟩ := h1 _ rfl
    cases hv
    rw [h4 rfl]
    simp [Instr.sliceBounds, Instr.sliceBound, asIntOf, g1, g2]
  · rename_i k l
    split at h <;> (try (cases h; done))
    split at h <;> (try (cases h; done))
    rename_i g1 g2
    refine ⟨0, some l.toNat, fun _ => (if_pos g1).trans (if_pos g2), Nat.zero_le _, by simp; omega, fun P E lo' hi' h1 h2 h3 h4 w b cap hc => ?_⟩
    obtain ⟨v, rfl, hv⟩ := h2 _ rfl
    cases hv
    rw [h3 rfl]
    have : l ≤ (cap : Int) := by omega
    simp [Instr.sliceBounds, Instr.sliceBound, asIntOf, g1, this]
  · rename_i k l k2 h'
    split at h <;> (try (cases h; done))
    split at h <;> (try (cases h; done))
    split at h <;> (try (cases h; done))
    split at h <;> (try (cases h; done))
    rename_i g1 g2 g3 g4
    refine ⟨l.toNat, some h'.toNat, fun _ => (if_pos g1).trans ((if_pos g2).trans ((if_pos g3).trans (if_pos g4))), by simp; omega, by simp; omega, fun P E lo' hi' h1 h2 h3 h4 w b cap hc => ?_⟩
    obtain ⟨v, rfl, hv⟩ := h2 _ rfl
    cases hv
    obtain ⟨v, rfl, hv⟩ := h1 _ rfl
    cases hv
    have : h' ≤ (cap : Int) := by omega
    have e : l ≤ max h' 0 := by omega
    simp [Instr.sliceBounds, Instr.sliceBound, asIntOf, g1, g3, this, e]
end
end Go.Abs
end
section
set_option linter.unusedVariables false
set_option linter.unusedSimpArgs false
namespace Go.Abs
open Go
mutual
theorem shapeEq_refl : ∀ x : AV, shapeEq x x = true
  | .agg kids => by unfold shapeEq; exact shapesEq_refl kids
  | .ints k n l => by simp [shapeEq]
  | .any | .bool _ | .int _ _ | .str _ | .nilp | .ptr _ _ | .aptr _ _ _ _ | .rptr _ | .snil | .slice _ _ _ _ _ | .own _ _ | .rints _ _ | .robjs _ _ _ | .tup _ | .fn _ _ _ | .nilf | .iface _ _ | .nili | .raw _ | .errv _ _ _ | .emap => by simp [shapeEq]
theorem shapesEq_refl : ∀ l : List AV, shapesEq l l = true
  | [] => rfl
  | x :: r => by simp [shapesEq, shapeEq_refl x, shapesEq_refl r]
end
theorem shapesEq_length : ∀ {a b : List AV}, shapesEq a b = true → a.length = b.length
  | [], [], _ => rfl
  | [], _ :: _, h => by simp [shapesEq] at h
  | _ :: _, [], h => by simp [shapesEq] at h
  | x :: a, y :: b, h => by simp [shapesEq] at h; simp [shapesEq_length h.2]
mutual
theorem shapeEq_width : ∀ {x y : AV}, shapeEq x y = true → width x = width y
  | .agg a, .agg b, h => by simp [shapeEq] at h; simp [width, shapesEq_widths h]
  | .ints k n l, .ints k' m r, h => by simp [shapeEq] at h; simp [width, h]
  | .agg a, y, h => by cases y <;> first | (simp [shapeEq] at h; done) | (simp [shapeEq] at h; simp [width, shapesEq_widths h])
  | .ints k n l, y, h => by cases y <;> first | (simp [shapeEq] at h; done) | (simp [shapeEq] at h; simp [width, h])
  | .any, y, h | .bool _, y, h | .int _ _, y, h | .str _, y, h | .nilp, y, h | .ptr _ _, y, h | .aptr _ _ _ _, y, h | .rptr _, y, h | .snil, y, h | .slice _ _ _ _ _, y, h | .own _ _, y, h | .rints _ _, y, h | .robjs _ _ _, y, h
  | .tup _, y, h | .fn _ _ _, y, h | .nilf, y, h | .iface _ _, y, h | .nili, y, h | .raw _, y, h | .errv _ _ _, y, h | .emap, y, h => by cases y <;> first | (simp [shapeEq] at h; done) | rfl
theorem shapesEq_widths : ∀ {a b : List AV}, shapesEq a b = true → widths a = widths b
  | [], [], _ => rfl
  | [], _ :: _, h => by simp [shapesEq] at h
  | _ :: _, [], h => by simp [shapesEq] at h
  | x :: a, y :: b, h => by simp [shapesEq] at h; simp [widths, shapeEq_width h.1, shapesEq_widths h.2]
end
theorem shapesEq_get : ∀ {a b : List AV}, shapesEq a b = true → ∀ (i : Nat) x, a[i]? = some x → ∃ y, b[i]? = some y ∧ shapeEq x y = true
  | [], _, _, i, x, hx => by simp at hx
  | _ :: _, [], h, _, _, _ => by simp [shapesEq] at h
  | a0 :: a, b0 :: b, h, 0, x, hx => by simp at hx; subst hx; simp [shapesEq] at h; exact ⟨b0, rfl, h.1⟩
  | a0 :: a, b0 :: b, h, i + 1, x, hx => by simp at hx; simp [shapesEq] at h; obtain ⟨y, h1, h2⟩ := shapesEq_get h.2 i x hx; exact ⟨y, by simpa using h1, h2⟩
theorem shapesEq_take : ∀ {a b : List AV}, shapesEq a b = true → ∀ i, shapesEq (a.take i) (b.take i) = true
  | [], [], _, i => by simp [shapesEq]
  | [], _ :: _, h, _ => by simp [shapesEq] at h
  | _ :: _, [], h, _ => by simp [shapesEq] at h
  | x :: a, y :: b, h, 0 => rfl
  | x :: a, y :: b, h, i + 1 => by simp [shapesEq] at h; simp [shapesEq, h.1, shapesEq_take h.2 i]
theorem shapesEq_set : ∀ {a : List AV} {i : Nat} {x y : AV}, a[i]? = some x → shapeEq x y = true → shapesEq a (a.set i y) = true
  | [], i, x, y, h, _ => by simp at h
  | a0 :: a, 0, x, y, h, hs => by simp at h; subst h; simp [shapesEq, hs, shapesEq_refl]
  | a0 :: a, i + 1, x, y, h, hs => by simp at h; simp [shapesEq, shapeEq_refl, shapesEq_set h hs]
def Leaf (x : AV) : Prop := (∀ kids, x ≠ .agg kids) ∧ (∀ k n l, x ≠ .ints k n l)
theorem shapeEq_off : ∀ {p : List Nat} {x y : AV}, shapeEq x y = true → offPath x p = offPath y p
  | [], x, y, _ => by simp [offPath]
  | i :: p, .agg a, y, h => by
    cases y with
    | agg b =>
      simp only [shapeEq] at h
      simp only [offPath]
      cases hx : a[i]? with
      | none =>
        have hl := shapesEq_length h
        have : b[i]? = none := by rw [List.getElem?_eq_none_iff] at hx ⊢; omega
        rw [this]
      | some z =>
        obtain ⟨u, hu, hz⟩ := shapesEq_get h i z hx
        simp only [hu]
        rw [shapeEq_off hz, shapesEq_widths (shapesEq_take h i)]
    | _ => simp [shapeEq] at h
  | [i], .ints k n l, y, h => by cases y <;> simp_all [shapeEq, offPath]
  | i :: j :: p, .ints k n l, y, h => by cases y <;> simp_all [shapeEq, offPath]
  | i :: p, .any, y, h | i :: p, .bool _, y, h | i :: p, .int _ _, y, h | i :: p, .str _, y, h | i :: p, .nilp, y, h | i :: p, .ptr _ _, y, h | i :: p, .aptr _ _ _ _, y, h | i :: p, .rptr _, y, h | i :: p, .snil, y, h
  | i :: p, .slice _ _ _ _ _, y, h | i :: p, .own _ _, y, h | i :: p, .rints _ _, y, h | i :: p, .robjs _ _ _, y, h | i :: p, .tup _, y, h | i :: p, .fn _ _ _, y, h | i :: p, .nilf, y, h | i :: p, .iface _ _, y, h | i :: p, .nili, y, h | i :: p, .raw _, y, h | i :: p, .errv _ _ _, y, h | i :: p, .emap, y, h => by
    cases y <;> first | (simp [shapeEq] at h; done) | simp [offPath]
theorem shapeEq_getInts : ∀ {p : List Nat} {x y : AV} {k n l}, shapeEq x y = true → getPath x p = some (.ints k n l) → ∃ l', getPath y p = some (.ints k n l')
  | [], x, y, k, n, l, h, hg => by
    simp [getPath] at hg
    subst hg
    cases y <;> simp_all [shapeEq, getPath]
  | i :: p, .agg a, y, k, n, l, h, hg => by
    cases y with
    | agg b =>
      simp only [shapeEq] at h
      simp only [getPath] at hg ⊢
      split at hg
      · rename_i z hz
        obtain ⟨u, hu, hz'⟩ := shapesEq_get h i z hz
        simp only [hu]
        exact shapeEq_getInts hz' hg
      · cases hg
    | _ => simp [shapeEq] at h
  | [i], .ints k n l, y, _, _, _, h, hg => by simp [getPath] at hg
  | i :: j :: p, .ints k n l, y, _, _, _, h, hg => by simp [getPath] at hg
  | i :: p, .any, y, _, _, _, h, hg | i :: p, .bool _, y, _, _, _, h, hg | i :: p, .int _ _, y, _, _, _, h, hg | i :: p, .str _, y, _, _, _, h, hg | i :: p, .nilp, y, _, _, _, h, hg | i :: p, .ptr _ _, y, _, _, _, h, hg
  | i :: p, .aptr _ _ _ _, y, _, _, _, h, hg | i :: p, .rptr _, y, _, _, _, h, hg | i :: p, .snil, y, _, _, _, h, hg | i :: p, .slice _ _ _ _ _, y, _, _, _, h, hg | i :: p, .own _ _, y, _, _, _, h, hg | i :: p, .rints _ _, y, _, _, _, h, hg
  | i :: p, .robjs _ _ _, y, _, _, _, h, hg | i :: p, .tup _, y, _, _, _, h, hg | i :: p, .fn _ _ _, y, _, _, _, h, hg | i :: p, .nilf, y, _, _, _, h, hg | i :: p, .iface _ _, y, _, _, _, h, hg | i :: p, .nili, y, _, _, _, h, hg | i :: p, .raw _, y, _, _, _, h, hg | i :: p, .errv _ _ _, y, _, _, _, h, hg | i :: p, .emap, y, _, _, _, h, hg => by simp [getPath] at hg
theorem setPath_shape : ∀ {p : List Nat} {v x v' : AV}, setPath v p x = some v' → shapeEq v v' = true
  | [], v, x, v', h => by
    unfold setPath at h
    split at h
    · cases h; assumption
    · cases h
  | i :: p, .agg kids, x, v', h => by
    simp only [setPath] at h
    split at h
    · rename_i y hy
      cases hz : setPath y p x with
      | none => simp [hz] at h
      | some z =>
        simp [hz] at h
        subst h
        simp only [shapeEq]
        exact shapesEq_set hy (setPath_shape hz)
    · cases h
  | [i], .ints k n l, .int k' y, v', h => by
    simp only [setPath] at h
    split at h
    · cases h; simp [shapeEq]
    · cases h
  | [i], .ints k n l, x, v', h => by
    cases x <;> first | (simp [setPath] at h; done) | (simp only [setPath] at h; split at h; (cases h; simp [shapeEq]); (cases h))
  | i :: j :: p, .ints k n l, x, v', h => by cases x <;> simp [setPath] at h
  | i :: p, .any, x, v', h | i :: p, .bool _, x, v', h | i :: p, .int _ _, x, v', h | i :: p, .str _, x, v', h | i :: p, .nilp, x, v', h | i :: p, .ptr _ _, x, v', h | i :: p, .aptr _ _ _ _, x, v', h | i :: p, .rptr _, x, v', h
  | i :: p, .snil, x, v', h | i :: p, .slice _ _ _ _ _, x, v', h | i :: p, .own _ _, x, v', h | i :: p, .rints _ _, x, v', h | i :: p, .robjs _ _ _, x, v', h | i :: p, .tup _, x, v', h | i :: p, .fn _ _ _, x, v', h | i :: p, .nilf, x, v', h
  | i :: p, .iface _ _, x, v', h | i :: p, .nili, x, v', h | i :: p, .raw _, x, v', h | i :: p, .errv _ _ _, x, v', h | i :: p, .emap, x, v', h => by simp [setPath] at h
theorem flats_split : ∀ {kids : List AV} {i : Nat} {x : AV}, kids[i]? = some x → flats kids = flats (kids.take i) ++ (flat x ++ flats (kids.drop (i + 1)))
  | [], i, x, h => by simp at h
  | y :: r, 0, x, h => by simp at h; subst h; simp [flats]
  | y :: r, i + 1, x, h => by simp at h; simp [flats, flats_split h]
theorem Fit.kid {kids : List AV} (h : Fit (.agg kids)) {x : AV} (hx : x ∈ kids) : Fit x := by
  cases h with
  | agg _ h => exact h x hx
  | leaf _ h => exact absurd rfl (h.1 kids)
theorem Fit.len {k n l} (h : Fit (.ints k n l)) : l.length = n := by
  cases h with
  | ints _ _ _ h => exact h
  | leaf _ h => exact absurd rfl (h.2 k n l)
theorem map_split {α β : Type} (f : α → β) (l : List α) (i : Nat) (h : i < l.length) : l.map f = (l.take i).map f ++ (f l[i] :: (l.drop (i + 1)).map f) := by
  have e : l = l.take i ++ l[i] :: l.drop (i + 1) := by rw [← List.drop_eq_getElem_cons h, List.take_append_drop]
  conv => lhs; rw [e]
  simp only [List.map_append, List.map_cons]
theorem getPath_spec : ∀ {p : List Nat} {v x : AV} {q : Nat}, Fit v → getPath v p = some x → offPath v p = some q →
    Fit x ∧ ∃ pre post, flat v = pre ++ (flat x ++ post) ∧ pre.length = q
  | [], v, x, q, hf, hg, ho => by
    simp [getPath] at hg; simp [offPath] at ho; subst hg; subst ho
    exact ⟨hf, [], [], by simp, rfl⟩
  | i :: p, .agg kids, x, q, hf, hg, ho => by
    simp only [getPath] at hg
    simp only [offPath] at ho
    split at hg
    · rename_i y hy
      simp only [hy] at ho
      cases hq : offPath y p with
      | none => simp [hq] at ho
      | some q' =>
        simp [hq] at ho
        obtain ⟨h1, pre, post, h2, h3⟩ := getPath_spec (hf.kid (List.mem_of_getElem? hy)) hg hq
        refine ⟨h1, flats (kids.take i) ++ pre, post ++ flats (kids.drop (i + 1)), ?_, ?_⟩
        · simp [flat, flats_split hy, h2]
        · rw [List.length_append, fits_length fun z hz => hf.kid (List.mem_of_mem_take hz), h3]; exact ho
    · cases hg
  | [i], .ints k n l, x, q, hf, hg, ho => by
    simp [getPath] at hg; simp [offPath] at ho
    subst hg
    obtain ⟨hi, rfl⟩ := ho
    have hl := hf.len
    refine ⟨.leaf _ ⟨by simp, by simp⟩, (l.take i).map (.int k), (l.drop (i + 1)).map (.int k), ?_, by simp; omega⟩
    have : i < l.length := by omega
    simp only [flat]
    rw [List.getElem?_eq_getElem this, Option.getD_some]
    exact map_split _ l i this
  | i :: j :: p, .ints k n l, x, q, hf, hg, ho => by simp [getPath] at hg
  | i :: p, .any, x, _, _, h, _ | i :: p, .bool _, x, _, _, h, _ | i :: p, .int _ _, x, _, _, h, _ | i :: p, .str _, x, _, _, h, _ | i :: p, .nilp, x, _, _, h, _ | i :: p, .ptr _ _, x, _, _, h, _ | i :: p, .aptr _ _ _ _, x, _, _, h, _
  | i :: p, .rptr _, x, _, _, h, _ | i :: p, .snil, x, _, _, h, _ | i :: p, .slice _ _ _ _ _, x, _, _, h, _ | i :: p, .own _ _, x, _, _, h, _ | i :: p, .rints _ _, x, _, _, h, _ | i :: p, .robjs _ _ _, x, _, _, h, _ | i :: p, .tup _, x, _, _, h, _
  | i :: p, .fn _ _ _, x, _, _, h, _ | i :: p, .nilf, x, _, _, h, _ | i :: p, .iface _ _, x, _, _, h, _ | i :: p, .nili, x, _, _, h, _ | i :: p, .raw _, x, _, _, h, _ | i :: p, .errv _ _ _, x, _, _, h, _ | i :: p, .emap, x, _, _, h, _ => by simp [getPath] at h
theorem fits_set {kids : List AV} {i : Nat} {z : AV} (h : ∀ x ∈ kids, Fit x) (hz : Fit z) : ∀ x ∈ kids.set i z, Fit x := fun x hx => by
  rcases List.mem_or_eq_of_mem_set hx with h' | h'
  · exact h x h'
  · subst h'; exact hz
theorem flats_set {kids : List AV} {i : Nat} {x z : AV} (h : kids[i]? = some x) : flats (kids.set i z) = flats (kids.take i) ++ (flat z ++ flats (kids.drop (i + 1))) := by
  have hi := (List.getElem?_eq_some_iff.1 h).1
  have : (kids.set i z)[i]? = some z := by simp [hi]
  rw [flats_split this]
  simp [List.take_set_of_le (Nat.le_refl i), List.drop_set_of_lt (Nat.lt_succ_self i)]
theorem setPath_spec : ∀ {p : List Nat} {v x v' : AV} {q : Nat}, Fit v → Fit x → setPath v p x = some v' → offPath v p = some q →
    Fit v' ∧ ∃ pre mid post, flat v = pre ++ (mid ++ post) ∧ flat v' = pre ++ (flat x ++ post) ∧ pre.length = q ∧ mid.length = (flat x).length
  | [], v, x, v', q, hf, hx, hs, ho => by
    unfold setPath at hs
    split at hs
    · rename_i h
      cases hs
      simp [offPath] at ho; subst ho
      exact ⟨hx, [], flat v, [], by simp, by simp, rfl, by rw [hf.length, hx.length, shapeEq_width h]⟩
    · cases hs
  | i :: p, .agg kids, x, v', q, hf, hx, hs, ho => by
    simp only [setPath] at hs
    simp only [offPath] at ho
    split at hs
    · rename_i y hy
      simp only [hy] at ho
      cases hq : offPath y p with
      | none => simp [hq] at ho
      | some q' =>
        simp [hq] at ho
        cases hz : setPath y p x with
        | none => simp [hz] at hs
        | some z =>
          simp [hz] at hs
          subst hs
          obtain ⟨h1, pre, mid, post, h2, h3, h4, h5⟩ := setPath_spec (hf.kid (List.mem_of_getElem? hy)) hx hz hq
          refine ⟨.agg _ (fits_set (fun x hx => hf.kid hx) h1), flats (kids.take i) ++ pre, mid, post ++ flats (kids.drop (i + 1)), ?_, ?_, ?_, h5⟩
          · simp [flat, flats_split hy, h2]
          · simp [flat, flats_set hy, h3]
          · rw [List.length_append, fits_length fun z hz => hf.kid (List.mem_of_mem_take hz), h4]; exact ho
    · cases hs
  | [i], .ints k n l, x, v', q, hf, hx, hs, ho => by
    cases x <;> first | (simp [setPath] at hs; done) | skip
    rename_i k' y
    simp only [setPath] at hs
    split at hs
    · rename_i hk
      subst hk
      cases hs
      simp [offPath] at ho
      obtain ⟨hi, rfl⟩ := ho
      have hl := hf.len
      have : i < l.length := by omega
      refine ⟨.ints _ _ _ (by simpa using hl), (l.take i).map (.int k), [.int k l[i]], (l.drop (i + 1)).map (.int k), ?_, ?_, by simp; omega, by simp [flat]⟩
      · exact map_split _ l i this
      · simp only [flat, List.set_eq_take_append_cons_drop, if_pos this]
        simp
    · cases hs
  | i :: j :: p, .ints k n l, x, v', q, hf, hx, hs, ho => by cases x <;> simp [setPath] at hs
  | i :: p, .any, x, _, _, _, _, h, _ | i :: p, .bool _, x, _, _, _, _, h, _ | i :: p, .int _ _, x, _, _, _, _, h, _ | i :: p, .str _, x, _, _, _, _, h, _ | i :: p, .nilp, x, _, _, _, _, h, _ | i :: p, .ptr _ _, x, _, _, _, _, h, _ | i :: p, .aptr _ _ _ _, x, _, _, _, _, h, _
  | i :: p, .rptr _, x, _, _, _, _, h, _ | i :: p, .snil, x, _, _, _, _, h, _ | i :: p, .slice _ _ _ _ _, x, _, _, _, _, h, _ | i :: p, .own _ _, x, _, _, _, _, h, _ | i :: p, .rints _ _, x, _, _, _, _, h, _ | i :: p, .robjs _ _ _, x, _, _, _, _, h, _
  | i :: p, .tup _, x, _, _, _, _, h, _ | i :: p, .fn _ _ _, x, _, _, _, _, h, _ | i :: p, .nilf, x, _, _, _, _, h, _ | i :: p, .iface _ _, x, _, _, _, _, h, _ | i :: p, .nili, x, _, _, _, _, h, _ | i :: p, .raw _, x, _, _, _, _, h, _ | i :: p, .errv _ _ _, x, _, _, _, _, h, _ | i :: p, .emap, x, _, _, _, _, h, _ => by simp [setPath] at h
end Go.Abs
end
section
set_option linter.unusedVariables false
set_option linter.unusedSimpArgs false
namespace Go.Abs
open Go
theorem info_of_underlying {P : Program} {t : TypeId} {d : TypeDesc} (h : P.underlying t = some d) : ∃ i, P.info? t = some i := by
  unfold Program.underlying at h
  split at h
  · exact ⟨_, ‹_›⟩
  · exact ⟨_, ‹_›⟩
  · cases h
theorem run_sizeOf {P : Program} {t : TypeId} {d : TypeDesc} (h : P.underlying t = some d) (w : World) : (sizeOf t).run P w = .ok (sizeQ P t) w := by
  obtain ⟨i, hi⟩ := info_of_underlying h
  simp [sizeOf, typeInfo, hi, sizeQ]
theorem info_size {P : Program} {t : TypeId} {d : TypeDesc} (h : P.underlying t = some d) : (P.info? t).map (·.size) = some (sizeQ P t) := by
  obtain ⟨i, hi⟩ := info_of_underlying h
  simp [hi, sizeQ]
theorem conf_gives {P : Program} : ∀ {f : Nat} {t : TypeId} {x : AV}, conf P f t x = true → ∃ d, P.underlying t = some d ∧ sizeQ P t = width x ∧
    ((Leaf x ∧ d.isRow = false) ∨ (d.isRow = true ∧ ((∃ kids, x = .agg kids) ∨ ∃ k n l, x = .ints k n l)))
  | 0, t, x, h => by simp [conf] at h
  | f + 1, t, x, h => by
    unfold conf at h
    split at h <;> simp only [Bool.and_eq_true, beq_iff_eq, decide_eq_true_eq, Bool.false_eq_true] at h
    all_goals rename_i hu
    all_goals first
      | exact ⟨_, hu, h, .inl ⟨⟨by simp, by simp⟩, rfl⟩⟩
      | exact ⟨_, hu, h.2, .inl ⟨⟨by simp, by simp⟩, rfl⟩⟩
      | exact ⟨_, hu, by rw [h.2]; simp [width, h.1], .inr ⟨rfl, .inr ⟨_, _, _, rfl⟩⟩⟩
      | exact ⟨_, hu, by rw [h.2]; rfl, .inr ⟨rfl, .inl ⟨_, rfl⟩⟩⟩
theorem run_isAgg {P : Program} {t : TypeId} {d : TypeDesc} (h : P.underlying t = some d) (w : World) : (isAgg t).run P w = .ok d.isRow w := by
  unfold isAgg
  rw [Sem.run_bind, run_underlying h w]
  cases d <;> rfl
theorem Leaf.one {x : AV} (h : Leaf x) : flat x = [x] ∧ width x = 1 := ⟨(width_leaf h).2, (width_leaf h).1⟩
theorem load_sound {P : Program} {E : Env} {o : Bool} {f t b q : Nat} {x : AV} (hc : conf P f t x = true) (hf : Fit x)
    (h : ∀ (j : Nat) y, (flat x)[j]? = some y → ∃ v, E.cell b (q + j) = some v ∧ VR E o y v) : ∃ v, (loadVar t ⟨b, q, none⟩).run P E.w = .ok v E.w ∧ VR E o x v := by
  obtain ⟨d, hu, hs, hr⟩ := conf_gives hc
  rcases hr with ⟨hl, hd⟩ | ⟨hd, hr⟩
  · obtain ⟨h1, h2⟩ := hl.one
    obtain ⟨v, hv, hvr⟩ := h 0 x (by rw [h1]; rfl)
    refine ⟨v, ?_, hvr⟩
    have : E.w.cell? ⟨b, q, none⟩ = some v := hv
    simp [loadVar, run_isAgg hu, hd, this]
  · have hlen := hf.length
    have hall : ∀ j, ∃ v, ∀ y, (flat x)[j]? = some y → E.cell b (q + j) = some v ∧ VR E o y v := fun j => by
      cases hy : (flat x)[j]? with
      | none => exact ⟨undef, fun y h => by simp at h⟩
      | some y => obtain ⟨v, h1, h2⟩ := h j y hy; exact ⟨v, fun z hz => by simp at hz; subst hz; exact ⟨h1, h2⟩⟩
    obtain ⟨vv, hvv⟩ := Classical.axiomOfChoice hall
    let cs : List Value := (List.range (width x)).map vv
    have hcs : ∀ (j : Nat) v, cs[j]? = some v → ∃ y, (flat x)[j]? = some y ∧ v = vv j := fun j v hv => by
      have hj := (List.getElem?_eq_some_iff.1 hv).1
      simp [cs] at hj
      rw [List.getElem?_map, List.getElem?_range (by omega)] at hv
      simp at hv
      exact ⟨_, List.getElem?_eq_getElem (by omega), hv.symm⟩
    have hrange : E.w.rangeAt b q cs := fun j v hv => by
      obtain ⟨y, hy, rfl⟩ := hcs j v hv
      exact (hvv j y hy).1
    have hload := run_loadVar_mid (P := P) E.w b q t cs d hrange hu hd (by rw [info_size hu, hs]; simp [cs])
    refine ⟨_, hload, ?_⟩
    rcases hr with ⟨kids, rfl⟩ | ⟨k, n, l, rfl⟩
    · refine .agg _ _ _ hf (by simp [cs, ← hlen, flat]) fun j y c hy hc => ?_
      have hc' : cs[j]? = some c := by simpa using hc
      obtain ⟨z, hz, rfl⟩ := hcs j c hc'
      exact (hvv j y hy).2
    · have hn := hf.len
      have : cs = l.map (Value.int k) := by
        apply List.ext_getElem?
        intro j
        cases hc : cs[j]? with
        | none =>
          have : l.length ≤ j := by have := List.getElem?_eq_none_iff.1 hc; simp [cs, width] at this; omega
          rw [List.getElem?_eq_none (by simpa using this)]
        | some c =>
          obtain ⟨z, hz, rfl⟩ := hcs j c hc
          obtain ⟨_, h2⟩ := hvv j z hz
          simp only [flat, List.getElem?_map] at hz
          cases hlj : l[j]? with
          | none => simp [hlj] at hz
          | some m =>
            simp [hlj] at hz
            subst hz
            rw [h2.int_inv]
            simp [hlj]
      rw [this]
      exact .ints _ _ _ _ hn
theorem flats_mem {kids : List AV} {y : AV} (h : y ∈ flats kids) : ∃ x ∈ kids, y ∈ flat x := by
  induction kids with
  | nil => simp [flats] at h
  | cons x r ih =>
    simp only [flats, List.mem_append] at h
    rcases h with h | h
    · exact ⟨x, by simp, h⟩
    · obtain ⟨z, h1, h2⟩ := ih h; exact ⟨z, by simp [h1], h2⟩
mutual
theorem solid_flat : ∀ {x : AV}, solid x = true → ∀ y ∈ flat x, solid y = true ∧ Leaf y
  | .agg kids, h, y, hy => by simp only [solid] at h; simp only [flat] at hy; exact solids_flat h y hy
  | .ints k n l, h, y, hy => by
    simp only [flat, List.mem_map] at hy
    obtain ⟨m, _, rfl⟩ := hy
    exact ⟨rfl, by simp, by simp⟩
  | .any, h, y, hy | .tup _, h, y, hy => by simp [solid] at h
  | .bool _, h, y, hy | .int _ _, h, y, hy | .str _, h, y, hy | .nilp, h, y, hy | .ptr _ _, h, y, hy | .aptr _ _ _ _, h, y, hy | .rptr _, h, y, hy | .snil, h, y, hy | .slice _ _ _ _ _, h, y, hy | .own _ _, h, y, hy
  | .rints _ _, h, y, hy | .robjs _ _ _, h, y, hy | .fn _ _ _, h, y, hy | .nilf, h, y, hy | .iface _ _, h, y, hy | .nili, h, y, hy | .raw _, h, y, hy | .errv _ _ _, h, y, hy | .emap, h, y, hy => by simp [flat] at hy; subst hy; exact ⟨rfl, by simp, by simp⟩
theorem solids_flat : ∀ {l : List AV}, solids l = true → ∀ y ∈ flats l, solid y = true ∧ Leaf y
  | [], h, y, hy => by simp [flats] at hy
  | x :: r, h, y, hy => by
    simp [solids] at h
    simp only [flats, List.mem_append] at hy
    rcases hy with hy | hy
    · exact solid_flat h.1 y hy
    · exact solids_flat h.2 y hy
end
theorem VR.oneCell {E : Env} {o : Bool} {y : AV} {c : Value} (h : VR E o y c) (hs : solid y = true) (hl : Leaf y) : c.oneCell' = true := by
  cases h <;> first
    | rfl
    | assumption
    | (simp [solid] at hs; done)
    | (rename_i h; cases h.ch <;> rfl)
    | exact absurd rfl (hl.1 _)
    | exact absurd rfl (hl.2 _ _ _)
theorem VR.cells {E : Env} {o : Bool} {x : AV} {v : Value} (h : VR E o x v) (hx : x ≠ .any ∧ ∀ vs, x ≠ .tup vs) :
    Fit x ∧ v.cells.size = (flat x).length ∧ ∀ (j : Nat) y c, (flat x)[j]? = some y → v.cells[j]? = some c → VR E o y c := by
  have leaf : ∀ {x : AV} {v : Value}, VR E o x v → Leaf x → v.cells = #[v] → Fit x ∧ v.cells.size = (flat x).length ∧ ∀ (j : Nat) y c, (flat x)[j]? = some y → v.cells[j]? = some c → VR E o y c := fun {x v} h hl hc => by
    rw [hc, hl.one.1]
    refine ⟨.leaf _ hl, rfl, fun j y c hy hc => ?_⟩
    cases j with
    | zero => simp at hy hc; subst hy; subst hc; exact h
    | succ j => simp at hy
  cases h with
  | any => exact absurd rfl hx.1
  | tup => exact absurd rfl (hx.2 _)
  | agg _ kids cs hf hs h => exact ⟨hf, hs, h⟩
  | ints _ k n l h =>
    refine ⟨.ints _ _ _ h, by simp [Value.cells, flat], fun j y c hy hc => ?_⟩
    simp only [flat, List.getElem?_map] at hy
    simp [Value.cells] at hc
    cases hl : l[j]? with
    | none => simp [hl] at hy
    | some m => simp [hl] at hy hc; subst hy; subst hc; exact .int _ _ _
  | raw _ v h1 h2 => exact leaf (.raw _ v h1 h2) ⟨by simp, by simp⟩ h1
  | errv _ _ _ _ v h => exact leaf (.errv _ _ _ _ v h) ⟨by simp, by simp⟩ (by cases h.ch <;> rfl)
  | emap o r c h => exact leaf (.emap o r c h) ⟨by simp, by simp⟩ rfl
  | _ => first
    | exact leaf (by constructor <;> assumption) ⟨by simp, by simp⟩ rfl
    | exact leaf (by constructor) ⟨by simp, by simp⟩ rfl
    | skip
theorem store_sound {P : Program} {E : Env} {o : Bool} {f t b q : Nat} {x : AV} {v : Value} (hc : conf P f t x = true) (hs : solid x = true) (hv : VR E o x v)
    (h : ∀ j, j < width x → (E.cell b (q + j)).isSome = true ∧ E.w.frozen? ⟨b, q + j, none⟩ = false) :
    (storeVar t ⟨b, q, none⟩ v).run P E.w = .ok () (E.w.setCells b q v.cells.toList) := by
  obtain ⟨d, hu, hsz, _⟩ := conf_gives hc
  obtain ⟨hf, h1, h2⟩ := hv.cells ⟨fun e => by subst e; simp [solid] at hs, fun vs e => by subst e; simp [solid] at hs⟩
  have hl := hf.length
  have hrun := run_storeCells_cells (P := P) b q v.cells.toList 0 E.w (fun j hj => by
      have := (h j (by simp at hj; omega)).1
      rw [Nat.add_zero]; exact this) (fun j hj => by
      have := (h j (by simp at hj; omega)).2
      rw [Nat.add_zero]; exact this) (fun c hcm => by
      obtain ⟨j, hj⟩ := List.mem_iff_getElem?.1 hcm
      have hjl := (List.getElem?_eq_some_iff.1 hj).1
      have hy : (flat x)[j]? = some ((flat x)[j]'(by simp at hjl; omega)) := List.getElem?_eq_getElem (by simp at hjl; omega)
      obtain ⟨g1, g2⟩ := solid_flat hs _ (List.mem_of_getElem? hy)
      exact (h2 j _ c hy (by simpa using hj)).oneCell g1 g2)
  unfold storeVar
  rw [Sem.run_bind, run_sizeOf hu, Result.andThen_ok, if_neg (by omega)]
  simpa using hrun
theorem getB_spec {blk : Blk} {p : List Nat} {x : AV} {q : Nat} (hf : FitB blk) (hg : getB blk p = some x) (ho : offB blk p = some q) :
    Fit x ∧ ∀ (j : Nat) y, (flat x)[j]? = some y → (flatB blk)[q + j]? = some y := by
  cases blk with
  | free => simp [offB] at ho
  | var v =>
    obtain ⟨h1, pre, post, h2, h3⟩ := getPath_spec hf hg ho
    refine ⟨h1, fun j y hy => ?_⟩
    simp only [flatB, h2]
    have hj := (List.getElem?_eq_some_iff.1 hy).1
    rw [List.getElem?_append_right (by omega), List.getElem?_append_left (by omega), ← h3]
    simpa using hy
  | ints k l =>
    cases p with
    | nil => simp [getB] at hg
    | cons i p =>
      cases p with
      | nil =>
        simp [getB] at hg; simp [offB] at ho
        subst hg
        obtain ⟨hi, rfl⟩ := ho
        refine ⟨.leaf _ ⟨by simp, by simp⟩, fun j y hy => ?_⟩
        cases j with
        | zero => simp [flat] at hy; subst hy; simp [flatB, hi]
        | succ j => simp [flat] at hy
      | cons => simp [getB] at hg
  | objs e w l =>
    cases p with
    | nil => simp [getB] at hg
    | cons i p =>
      simp only [getB] at hg
      simp only [offB] at ho
      cases hx : l[i]? with
      | none => simp [hx] at ho
      | some z =>
        simp only [hx] at ho
        cases hq : offPath z p with
        | none => simp [hq] at ho
        | some q' =>
          simp [hq] at ho
          have hz : l.getD i .any = z := by simp [hx]
          rw [hz] at hg
          obtain ⟨g1, g2⟩ := (hf z (List.mem_of_getElem? hx)).1
          obtain ⟨h1, pre, post, h2, h3⟩ := getPath_spec g1 hg hq
          refine ⟨h1, fun j y hy => ?_⟩
          have hj := (List.getElem?_eq_some_iff.1 hy).1
          have htk : (flats (l.take i)).length = i * w := by
            have : ∀ (n : Nat), n ≤ l.length → (flats (l.take n)).length = n * w := by
              intro n
              induction n with
              | zero => intro _; simp [flats]
              | succ n ih =>
                intro hn
                rw [List.take_succ_eq_append_getElem (by omega), flats_append, List.length_append, ih (by omega)]
                obtain ⟨k1, k2⟩ := (hf l[n] (List.getElem_mem _)).1
                simp only [flats, List.append_nil]
                rw [k1.length, k2, Nat.succ_mul]
            exact this i (Nat.le_of_lt (List.getElem?_eq_some_iff.1 hx).1)
          simp only [flatB, flats_split hx, h2]
          rw [List.getElem?_append_right (by omega), List.getElem?_append_left (by simp; omega), List.getElem?_append_right (by omega), List.getElem?_append_left (by omega)]
          rw [show q + j - (flats (List.take i l)).length - pre.length = j from by omega]
          exact hy
theorem shapeEq_offB_var {v v' : AV} (h : shapeEq v v' = true) : (∀ p q, offB (.var v) p = some q → offB (.var v') p = some q) ∧ (∀ p r, rowB (.var v) p = some r → rowB (.var v') p = some r) := by
  refine ⟨fun p q hq => by simp only [offB] at hq ⊢; rw [← shapeEq_off h]; exact hq, fun p r hr => ?_⟩
  simp only [rowB] at hr ⊢
  rw [← shapeEq_off h]
  split at hr
  · rename_i k n l q hg ho
    obtain ⟨l', hl'⟩ := shapeEq_getInts h hg
    rw [hl', ho]
    exact hr
  · cases hr
theorem setB_spec {blk blk' : Blk} {p : List Nat} {x : AV} {q : Nat} (hf : FitB blk) (hx : Fit x) (hs : setB blk p x = some blk') (ho : offB blk p = some q) :
    FitB blk' ∧ (∃ pre mid post, flatB blk = pre ++ (mid ++ post) ∧ flatB blk' = pre ++ (flat x ++ post) ∧ pre.length = q ∧ mid.length = (flat x).length) ∧
      (∀ p q, offB blk p = some q → offB blk' p = some q) ∧ (∀ p r, rowB blk p = some r → rowB blk' p = some r) := by
  cases blk with
  | var v =>
    simp only [setB] at hs
    split at hs
    · rename_i v' hv'
      cases hs
      obtain ⟨h1, h2⟩ := setPath_spec hf hx hv' ho
      have h3 := shapeEq_offB_var (setPath_shape hv')
      exact ⟨h1, h2, h3.1, h3.2⟩
    · cases hs
  | ints k l =>
    cases p with
    | nil => cases x <;> simp [setB] at hs
    | cons i p =>
      cases p with
      | cons => cases x <;> simp [setB] at hs
      | nil =>
        cases x <;> first | (simp [setB] at hs; done) | skip
        rename_i k' y
        simp only [setB] at hs
        split at hs
        · rename_i hk
          subst hk
          cases hs
          simp [offB] at ho
          obtain ⟨hi, rfl⟩ := ho
          refine ⟨trivial, ⟨(l.take i).map (.int k), [.int k l[i]], (l.drop (i + 1)).map (.int k), map_split _ l i hi, ?_, by simp; omega, by simp [flat]⟩, ?_, ?_⟩
          · simp only [flatB, List.set_eq_take_append_cons_drop, if_pos hi]
            simp [flat]
          · intro p q hq
            cases p with
            | nil => simp [offB] at hq
            | cons a p => cases p with
              | nil => simpa [offB] using hq
              | cons => simp [offB] at hq
          · intro p r hr
            cases p with
            | nil => simpa [rowB] using hr
            | cons => simp [rowB] at hr
        · cases hs
  | objs e w l => simp [setB] at hs
  | free => simp [setB] at hs
end Go.Abs
end
section
set_option linter.unusedVariables false
set_option linter.unusedSimpArgs false
namespace Go.Abs
open Go
section
variable {R : Type}
abbrev Kont (R : Type) := Cat → AV → Blks → Option R
structure KS (F : Blks → Kont R → Option R) (bl : Blks) (cat : Cat) (v : AV) (bl' : Blks) : Prop where
  det : ∀ K, F bl K = K cat v bl'
  pure : cat = .pure → bl' = bl ∧ ∀ bl2 K, F bl2 K = K .pure v bl2
  read : cat = .read → bl' = bl
theorem KS.ofPure {F : Blks → Kont R → Option R} {bl : Blks} {v : AV} (h : ∀ bl K, F bl K = K .pure v bl) : KS F bl .pure v bl := ⟨h bl, fun _ => ⟨rfl, h⟩, fun h => by cases h⟩
theorem KS.ofRead {F : Blks → Kont R → Option R} {bl : Blks} {v : AV} (h : ∀ K, F bl K = K .read v bl) : KS F bl .read v bl := ⟨h, fun h => (by cases h), fun _ => rfl⟩
theorem KS.ofWrite {F : Blks → Kont R → Option R} {bl bl' : Blks} {v : AV} (h : ∀ K, F bl K = K .write v bl') : KS F bl .write v bl' := ⟨h, fun h => (by cases h), fun h => (by cases h)⟩
variable {C : Ctx}
theorem VR.loc_ptr {E : Env} {id : Nat} {p : List Nat} {v : Value} (h : VR E true (.ptr id p) v) {blk : Blk} (hb : bget E.bl id = some blk) :
    ∃ q, offB blk p = some q ∧ v = .pointer (some ⟨(E.loc id).1, (E.loc id).2.1 + q, none⟩) := by
  cases h with
  | ptr _ _ a hid h =>
    obtain ⟨h1, q, h2, h3, h4⟩ := h blk hb
    obtain ⟨b, o, s⟩ := a
    simp at h1 h3 h4
    subst h1; subst h3; subst h4
    exact ⟨q, h2, rfl⟩
theorem rowB_var {v : AV} {p : List Nat} {k n l q w c} (hg : getPath v p = some (.ints k n l)) (hr : rowB (.var v) p = some (q, w, c)) : offPath v p = some q ∧ w = 1 ∧ c = n := by
  simp only [rowB, hg] at hr
  split at hr
  · rename_i q' h1 h2
    simp at h1 hr
    exact ⟨by rw [h2, hr.1], hr.2.1.symm, by rw [← hr.2.2]; exact h1.2.1.symm⟩
  · cases hr
structure Same (x y : AV) : Prop where
  fit : Fit x → Fit y
  width : width y = width x
  len : (flat y).length = (flat x).length
  vr : ∀ (j : Nat) z z', (flat x)[j]? = some z → (flat y)[j]? = some z' → ∀ E o v, VR E o z v → VR E o z' v
theorem Same.refl (x : AV) : Same x x := ⟨id, rfl, rfl, fun j z z' h h' E o v hv => by rw [h] at h'; cases h'; exact hv⟩
theorem vr_snil_rints {E : Env} {o : Bool} {k : IntKind} {v : Value} (h : VR E o .snil v) : VR E o (.rints k []) v := by
  cases h
  exact .rints o k [] none 0 (Nat.le_refl _) fun i hi => by simp at hi
theorem vr_snil_robjs {E : Env} {o : Bool} {e w : Nat} {v : Value} (h : VR E o .snil v) : VR E o (.robjs e w []) v := by
  cases h
  exact .robjs o e w [] none 0 (Nat.le_refl _) (fun x hx => by simp at hx) (fun _ _ => undef) (fun h => absurd rfl h) (fun ad i x j y _ hx => by simp at hx) (fun i x j y hx => by simp at hx)
theorem Same.leaf {x y : AV} (hx : Leaf x) (hy : Leaf y) (h : ∀ E o v, VR E o x v → VR E o y v) : Same x y :=
  ⟨fun _ => .leaf _ hy, by rw [hx.one.2, hy.one.2], by rw [hx.one.1, hy.one.1]; rfl, fun j z z' h1 h2 E o v hv => by
    rw [hx.one.1] at h1; rw [hy.one.1] at h2
    cases j with
    | zero => simp at h1 h2; subst h1; subst h2; exact h E o v hv
    | succ j => simp at h1⟩
theorem same_agg : ∀ {xs ys : List AV}, ys.length = xs.length → (∀ (i : Nat) x y, xs[i]? = some x → ys[i]? = some y → Same x y) → Same (.agg xs) (.agg ys)
  | [], [], _, _ => .refl _
  | [], _ :: _, hl, _ => by simp at hl
  | _ :: _, [], hl, _ => by simp at hl
  | x :: kids, y :: ys, hl, h => by
    have h2 := h 0 x y rfl rfl
    have h4 := same_agg (xs := kids) (ys := ys) (by simpa using hl) fun i a b h1 h2 => h (i + 1) a b (by simpa using h1) (by simpa using h2)
    refine ⟨fun hf => .agg _ fun z hz => ?_, ?_, ?_, fun j z z' hz hz' E o v hv => ?_⟩
    · rcases List.mem_cons.1 hz with rfl | hz
      · exact h2.fit (hf.kid (by simp))
      · exact (h4.fit (.agg _ fun u hu => hf.kid (by simp [hu]))).kid hz
    · have := h4.width
      simp only [Go.Abs.width, widths] at this ⊢
      rw [h2.width, this]
    · have := h4.len
      simp only [flat, flats, List.length_append] at this ⊢
      rw [h2.len, this]
    · simp only [flat, flats] at hz hz'
      rcases Nat.lt_or_ge j (flat x).length with hj | hj
      · rw [List.getElem?_append_left hj] at hz
        rw [List.getElem?_append_left (by rw [h2.len]; exact hj)] at hz'
        exact h2.vr j z z' hz hz' E o v hv
      · rw [List.getElem?_append_right hj] at hz
        rw [List.getElem?_append_right (by rw [h2.len]; exact hj), h2.len] at hz'
        exact h4.vr _ z z' hz hz' E o v hv
inductive Sim : AV → AV → Prop where
  | refl (x) : Sim x x
  | nilr (k) : Sim .snil (.rints k [])
  | nilo (e w) : Sim .snil (.robjs e w [])
  | agg (xs ys : List AV) (hl : ys.length = xs.length) (h : ∀ (i : Nat) x y, xs[i]? = some x → ys[i]? = some y → Sim x y) : Sim (.agg xs) (.agg ys)
theorem Sim.same {x y : AV} (h : Sim x y) : Same x y := by
  induction h with
  | refl x => exact .refl x
  | nilr k => exact .leaf ⟨by simp, by simp⟩ ⟨by simp, by simp⟩ fun E o v hv => vr_snil_rints hv
  | nilo e w => exact .leaf ⟨by simp, by simp⟩ ⟨by simp, by simp⟩ fun E o v hv => vr_snil_robjs hv
  | agg xs ys hl h ih => exact same_agg hl ih
theorem widths_alike : ∀ {xs ys : List AV}, ys.length = xs.length → (∀ (i : Nat) x y, xs[i]? = some x → ys[i]? = some y → width y = width x) → ∀ k, widths (ys.take k) = widths (xs.take k)
  | [], [], _, _, k => rfl
  | [], _ :: _, hl, _, _ => by simp at hl
  | _ :: _, [], hl, _, _ => by simp at hl
  | x :: kids, y :: ys, hl, h, 0 => rfl
  | x :: kids, y :: ys, hl, h, k + 1 => by
    simp only [List.take_succ_cons, widths]
    rw [h 0 x y rfl rfl, widths_alike (by simpa using hl) (fun i a b h1 h2 => h (i + 1) a b (by simpa using h1) (by simpa using h2)) k]
theorem Sim.off {x y : AV} (h : Sim x y) : ∀ p, offPath y p = offPath x p := by
  induction h with
  | refl x => exact fun p => rfl
  | nilr k => intro p; cases p <;> simp [offPath]
  | nilo e w => intro p; cases p <;> simp [offPath]
  | agg xs ys hl h ih =>
    intro p
    cases p with
    | nil => simp [offPath]
    | cons i p =>
      simp only [offPath]
      rcases Nat.lt_or_ge i xs.length with hi | hi
      · have h1 : xs[i]? = some xs[i] := List.getElem?_eq_getElem hi
        have h2 : ys[i]? = some ys[i] := List.getElem?_eq_getElem (by omega)
        rw [h1, h2]
        simp only
        rw [ih i _ _ h1 h2 p, widths_alike hl (fun i a b h1 h2 => (h i a b h1 h2).same.width) i]
      · rw [List.getElem?_eq_none hi, List.getElem?_eq_none (by omega)]
theorem Sim.get {x y : AV} (h : Sim x y) : ∀ {p : List Nat} {z' : AV}, getPath y p = some z' → ∃ z, getPath x p = some z ∧ Sim z z' := by
  induction h with
  | refl x => exact fun {p z'} h => ⟨z', h, .refl _⟩
  | nilr k =>
    intro p z' h
    cases p with
    | nil => simp [getPath] at h; subst h; exact ⟨.snil, rfl, .nilr k⟩
    | cons i p => simp [getPath] at h
  | nilo e w =>
    intro p z' h
    cases p with
    | nil => simp [getPath] at h; subst h; exact ⟨.snil, rfl, .nilo e w⟩
    | cons i p => simp [getPath] at h
  | agg xs ys hl h ih =>
    intro p z' hg
    cases p with
    | nil => simp [getPath] at hg; subst hg; exact ⟨.agg xs, rfl, .agg xs ys hl h⟩
    | cons i p =>
      simp only [getPath] at hg ⊢
      rcases Nat.lt_or_ge i xs.length with hi | hi
      · have h1 : xs[i]? = some xs[i] := List.getElem?_eq_getElem hi
        have h2 : ys[i]? = some ys[i] := List.getElem?_eq_getElem (by omega)
        rw [h2] at hg
        rw [h1]
        exact ih i _ _ h1 h2 hg
      · rw [List.getElem?_eq_none (by omega)] at hg
        cases hg
theorem decTs_sound {dec : TypeId → AV → (AV → Option R) → Option R}
    (hd : ∀ t x (K : AV → Option R) r, dec t x K = some r → ∃ y, (∀ K2 : AV → Option R, dec t x K2 = K2 y) ∧ Sim x y) :
    ∀ {ts : List TypeId} {i : Nat} {kids : List AV} {K : List AV → Option R} {r : R}, kids.length = i + ts.length → decTs dec ts i kids K = some r →
      ∃ ys, (∀ K2 : List AV → Option R, decTs dec ts i kids K2 = K2 ys) ∧ ys.length = ts.length ∧ ∀ (j : Nat) x y, kids[i + j]? = some x → ys[j]? = some y → Sim x y
  | [], i, kids, K, r, hl, h => ⟨[], fun _ => rfl, rfl, fun j x y h1 h2 => by simp at h2⟩
  | a :: ts, i, kids, K, r, hl, h => by
    simp only [List.length_cons] at hl
    simp only [decTs] at h
    obtain ⟨y, h1, h2⟩ := hd _ _ _ _ h
    rw [h1] at h
    obtain ⟨ys, h3, h4, h5⟩ := decTs_sound hd (by omega) h
    refine ⟨y :: ys, fun K2 => by simp only [decTs]; rw [h1, h3], by simp [h4], fun j u v hu hv => ?_⟩
    cases j with
    | zero =>
      simp at hv hu
      subst hv
      have : kids.getD i .any = u := by simp [List.getD_eq_getElem?_getD, hu]
      rwa [this] at h2
    | succ j =>
      simp at hv
      exact h5 j u v (by rw [← hu]; congr 1; omega) hv
theorem tkAgg_inv {n : Nat} {x : AV} {l : List AV} (h : tkAgg n x = some l) : x = .agg l ∧ l.length = n := by
  unfold tkAgg at h
  split at h <;> (try (cases h; done))
  split at h <;> (try (cases h; done))
  cases h
  rename_i h
  exact ⟨rfl, h⟩
theorem bindO_inv {T R : Type} {x : Option T} {f : T → Option R} {r : R} (h : bindO x f = some r) : ∃ t, x = some t ∧ f t = some r := by
  cases x with
  | none => cases h
  | some t => exact ⟨t, rfl, h⟩
theorem decK_sound {P : Program} : ∀ {n : Nat} {t : TypeId} {x : AV} {K : AV → Option R} {r : R}, decK P n t x K = some r → ∃ y, (∀ K2 : AV → Option R, decK P n t x K2 = K2 y) ∧ Sim x y
  | 0, t, x, K, r, h => by simp [decK] at h
  | n + 1, t, x, K, r, h => by
    unfold decK at h
    split at h <;> (try (cases h; done))
    · rename_i hu
      obtain ⟨b, hb, h⟩ := bindO_inv h
      refine ⟨.bool b, fun K2 => by simp only [decK, hu, hb]; rfl, ?_⟩
      unfold tkBool at hb
      split at hb <;> (try (cases hb; done))
      cases hb
      exact .refl _
    · rename_i k hu
      obtain ⟨b, hb, h⟩ := bindO_inv h
      refine ⟨.int k b, fun K2 => by simp only [decK, hu, hb]; rfl, ?_⟩
      unfold tkInt at hb
      split at hb <;> (try (cases hb; done))
      split at hb <;> (try (cases hb; done))
      rename_i hk
      cases hb
      subst hk
      exact .refl _
    · rename_i hu
      obtain ⟨b, hb, h⟩ := bindO_inv h
      refine ⟨.str b, fun K2 => by simp only [decK, hu, hb]; rfl, ?_⟩
      unfold tkStr at hb
      split at hb <;> (try (cases hb; done))
      cases hb
      exact .refl _
    · rename_i e hu
      split at h
      · rename_i k hk
        obtain ⟨b, hb, h⟩ := bindO_inv h
        refine ⟨.rints k b, fun K2 => by simp only [decK, hu, hk, hb]; rfl, ?_⟩
        unfold tkRints at hb
        split at hb <;> (try (cases hb; done))
        · split at hb <;> (try (cases hb; done))
          rename_i hk
          cases hb
          subst hk
          exact .refl _
        · cases hb
          exact .nilr _
      · rename_i hk
        obtain ⟨b, hb, h⟩ := bindO_inv h
        refine ⟨.robjs e (sizeQ P e) b, fun K2 => by simp only [decK, hu, hk, hb]; rfl, ?_⟩
        unfold tkRobjs at hb
        split at hb <;> (try (cases hb; done))
        · split at hb <;> (try (cases hb; done))
          rename_i he
          split at hb <;> (try (cases hb; done))
          rename_i hw
          cases hb
          subst he
          rw [hw]
          exact .refl _
        · cases hb
          exact .nilo _ _
    · rename_i m e hu
      split at h
      · rename_i k hk
        obtain ⟨b, hb, h⟩ := bindO_inv h
        refine ⟨.ints k m b, fun K2 => by simp only [decK, hu, hk, hb]; rfl, ?_⟩
        unfold tkInts at hb
        split at hb <;> (try (cases hb; done))
        split at hb <;> (try (cases hb; done))
        rename_i h1
        split at hb <;> (try (cases hb; done))
        rename_i h2
        cases hb
        subst h1; subst h2
        exact .refl _
      · rename_i hk
        obtain ⟨kids, hb, h'⟩ := bindO_inv h
        clear h
        obtain ⟨rfl, hl⟩ := tkAgg_inv hb
        obtain ⟨ys, g1, g2, g3⟩ := decTs_sound (dec := decK P n) (i := 0) (fun t x K r h => decK_sound h) (by rw [hl, List.length_replicate, Nat.zero_add]) h'
        refine ⟨.agg ys, fun K2 => by simp only [decK, hu, hk, hb]; show decTs _ _ _ _ _ = _; rw [g1], .agg _ _ (by simp [g2, hl]) fun i x y h1 h2 => g3 i x y (by simpa using h1) h2⟩
    · rename_i fs hu
      obtain ⟨kids, hb, h'⟩ := bindO_inv h
      clear h
      obtain ⟨rfl, hl⟩ := tkAgg_inv hb
      obtain ⟨ys, g1, g2, g3⟩ := decTs_sound (dec := decK P n) (i := 0) (fun t x K r h => decK_sound h) (by rw [hl, List.length_map, Array.length_toList, Nat.zero_add]) h'
      refine ⟨.agg ys, fun K2 => by simp only [decK, hu, hb]; show decTs _ _ _ _ _ = _; rw [g1], .agg _ _ (by simp [g2, hl]) fun i x y h1 h2 => g3 i x y (by simpa using h1) h2⟩
theorem decB_sound {b : Blk} {p : List Nat} {K : AV → Option R} {r : R} (h : decB C b p K = some r) : ∃ y, (∀ K2 : AV → Option R, decB C b p K2 = K2 y) ∧ ∃ x, getB b p = some x ∧ Sim x y := by
  unfold decB at h
  split at h
  · rename_i e w l i p
    obtain ⟨y, hk, hs⟩ := decK_sound h
    rw [hk] at h
    split at h <;> (try (cases h; done))
    rename_i z hz
    obtain ⟨x, g1, g2⟩ := hs.get hz
    exact ⟨z, fun K2 => by simp only [decB]; rw [hk]; simp only [hz], x, by simpa [getB] using g1, g2⟩
  · rename_i hno
    split at h <;> (try (cases h; done))
    rename_i x hx
    refine ⟨x, fun K2 => ?_, x, hx, .refl _⟩
    unfold decB
    split
    · exact absurd rfl (hno _ _ _ _ _ rfl)
    · simp only [hx]
theorem loadK_sound {t : TypeId} {x : AV} {bl : Blks} {K : Kont R} {r : R} (h : loadK C t x bl K = some r) :
    ∃ cat v, KS (R := R) (loadK C t x) bl cat v bl ∧ cat ≠ .write ∧ ∀ E, (E.bl = bl ∨ cat = .pure) → Mem E → ∀ a, VR E true x a → ∃ v', (Instr.loadAt t a).run C.P E.w = .ok v' E.w ∧ VR E true v v' := by
  unfold loadK at h
  split at h
  · rename_i id path
    split at h <;> (try (cases h; done))
    rename_i b hb
    obtain ⟨y, hk, x, hx, sim⟩ := decB_sound h
    rw [hk] at h
    split at h <;> (try (cases h; done))
    rename_i hc
    refine ⟨.read, y, .ofRead fun K => by simp only [loadK, hb]; rw [hk]; simp [hc], by simp, fun E hE m a ha => ?_⟩
    rcases hE with rfl | hE
    · obtain ⟨q, hq, rfl⟩ := ha.loc_ptr hb
      have k := m.ok id b hb
      obtain ⟨h1, h2⟩ := getB_spec k.fit hx hq
      obtain ⟨v', h3, h4⟩ := load_sound (P := C.P) (E := E) (o := true) (b := (E.loc id).1) (q := (E.loc id).2.1 + q) hc (sim.same.fit h1) fun j y hy => by
        have hj := (List.getElem?_eq_some_iff.1 hy).1
        rw [sim.same.len] at hj
        have hz := List.getElem?_eq_getElem hj
        obtain ⟨v, g1, g2⟩ := k.cells (q + j) _ (h2 j _ hz)
        exact ⟨v, by rw [Nat.add_assoc]; exact g1, sim.same.vr j _ y hz hy E true v g2⟩
      exact ⟨v', by simpa [Instr.loadAt, Instr.sureAddr] using h3, h4⟩
    · cases hE
  · rename_i id path s n
    split at h <;> (try (cases h; done))
    · rename_i _ _ k l hb
      split at h <;> (try (cases h; done))
      rename_i hc
      refine ⟨.read, .ints k n ((l.drop s).take n), .ofRead fun K => by simp [loadK, hb, hc], by simp, fun E hE m a ha => ?_⟩
      rcases hE with rfl | hE
      · cases ha with
        | aptr _ _ _ _ a hid hh =>
          obtain ⟨h1, q, w, c, h2, rfl, h3, h4, h5⟩ := hh _ hb
          obtain ⟨ab, ao, as⟩ := a
          simp at h1 h4 h5
          subst h1; subst h4; subst h5
          simp [rowB] at h2
          obtain ⟨rfl, h2⟩ := h2
          have ok := m.ok id _ hb
          obtain ⟨v', g1, g2⟩ := load_sound (P := C.P) (E := E) (o := true) (b := (E.loc id).1) (q := (E.loc id).2.1 + 0 + s) hc (.ints _ _ _ (by simp; omega)) fun j y hy => by
            have hj := (List.getElem?_eq_some_iff.1 hy).1
            simp [flat] at hj
            obtain ⟨v, g1, g2⟩ := ok.cells (s + j) y (by
              simp only [flat, List.getElem?_map, List.getElem?_take, List.getElem?_drop] at hy
              rw [if_pos (by omega)] at hy
              simpa [flatB] using hy)
            exact ⟨v, by rw [Nat.add_zero, Nat.add_assoc]; exact g1, g2⟩
          exact ⟨v', by simpa [Instr.loadAt, Instr.sureAddr] using g1, g2⟩
      · cases hE
    · rename_i path _ _ v hb
      split at h <;> (try (cases h; done))
      rename_i k n' l hg
      split at h <;> (try (cases h; done))
      rename_i hc
      refine ⟨.read, .ints k n ((l.drop s).take n), .ofRead fun K => by simp [loadK, hb, hg, hc], by simp, fun E hE m a ha => ?_⟩
      rcases hE with rfl | hE
      · cases ha with
        | aptr _ _ _ _ a hid hh =>
          obtain ⟨h1, q, w, c, h2, rfl, h3, h4, h5⟩ := hh _ hb
          obtain ⟨ab, ao, as⟩ := a
          simp at h1 h4 h5
          subst h1; subst h4; subst h5
          obtain ⟨hq, _, rfl⟩ := rowB_var hg h2
          have ok := m.ok id _ hb
          obtain ⟨e1, e2⟩ := getB_spec (blk := .var v) ok.fit hg hq
          have e3 := e1.len
          obtain ⟨v', g1, g2⟩ := load_sound (P := C.P) (E := E) (o := true) (b := (E.loc id).1) (q := (E.loc id).2.1 + q + s) hc (.ints _ _ _ (by simp; omega)) fun j y hy => by
            have hj := (List.getElem?_eq_some_iff.1 hy).1
            simp [flat] at hj
            obtain ⟨v, g1, g2⟩ := ok.cells (q + (s + j)) y (e2 (s + j) y (by
              simp only [flat, List.getElem?_map, List.getElem?_take, List.getElem?_drop] at hy
              rw [if_pos (by omega)] at hy
              simpa [flat] using hy))
            exact ⟨v, by rw [Nat.add_assoc, Nat.add_assoc]; exact g1, g2⟩
          exact ⟨v', by simpa [Instr.loadAt, Instr.sureAddr] using g1, g2⟩
      · cases hE
  · rename_i x
    split at h <;> (try (cases h; done))
    rename_i hc
    refine ⟨.pure, x, .ofPure fun bl K => by simp [loadK, hc], by simp, fun E hE m a ha => ?_⟩
    cases ha with
    | rptr _ _ a hf hs vv hh hv =>
      obtain ⟨ab, ao, as⟩ := a
      simp at hs
      subst hs
      obtain ⟨v', g1, g2⟩ := load_sound (P := C.P) (E := E) (o := true) (b := ab) (q := ao) hc hf fun j y hy => ⟨vv j, (hh j y hy).2, (hv j y hy).lift⟩
      exact ⟨v', by simpa [Instr.loadAt, Instr.sureAddr] using g1, g2⟩
  · cases h
theorem storeK_sound {t : TypeId} {p x : AV} {bl : Blks} {K : Kont R} {r : R} (h : storeK C t p x bl K = some r) :
    ∃ bl', KS (R := R) (storeK C t p x) bl .write .any bl' ∧ ∀ E, E.bl = bl → Mem E → ∀ a v, VR E true p a → VR E true x v → ∃ E', (Instr.storeAt t a v).run C.P E.w = .ok () E'.w ∧ E'.bl = bl' ∧ Go E E' := by
  unfold storeK at h
  split at h <;> (try (cases h; done))
  rename_i id path
  split at h <;> (try (cases h; done))
  rename_i b hb
  split at h <;> (try (cases h; done))
  rename_i b' hb'
  split at h <;> (try (cases h; done))
  rename_i hc
  refine ⟨bl.set id (some b'), .ofWrite fun K => by simp only [storeK, hb, hb', if_pos hc], fun E hE m a v ha hv => ?_⟩
  subst hE
  simp only [Bool.and_eq_true] at hc
  obtain ⟨q, hq, rfl⟩ := ha.loc_ptr hb
  have ok := m.ok id b hb
  obtain ⟨hf, hs, hcells⟩ := hv.cells ⟨fun e => by subst e; simp [solid] at hc, fun vs e => by subst e; simp [solid] at hc⟩
  obtain ⟨hf', ⟨pre, mid, post, e1, e2, e3, e4⟩, s1, s2⟩ := setB_spec ok.fit hf hb' hq
  have hw := hf.length
  have hlen : (flatB b).length = pre.length + ((flat x).length + post.length) := by rw [e1]; simp; omega
  have hlen' : (flatB b').length = pre.length + ((flat x).length + post.length) := by rw [e2]; simp
  have hroom := ok.len
  refine ⟨E.put id q v.cells.toList b', ?_, rfl, Go.put m id q _ b b' hb (by simp; omega) hf' (by omega) (fun j y hy hj1 hj2 => ?_) (fun j y hy hj => ?_) s1 s2⟩
  · have := store_sound (P := C.P) (E := E) (o := true) (b := (E.loc id).1) (q := (E.loc id).2.1 + q) hc.2 hc.1 hv fun j hj => by
      rw [Nat.add_assoc]; exact ok.room (q + j) (by omega)
    simpa [Instr.storeAt, Instr.sureAddr, Env.put] using this
  · rw [e2, List.getElem?_append_right (by omega), e3] at hy
    have hjl : j - q < (flat x).length := by simp at hj2; omega
    rw [List.getElem?_append_left hjl] at hy
    have hv' : v.cells[j - q]? = some (v.cells[j - q]'(by omega)) := Array.getElem?_eq_getElem (by omega)
    exact ⟨_, by simp, hcells _ y _ hy hv'⟩
  · have hvl : v.cells.toList.length = (flat x).length := by simpa using hs
    rw [hvl] at hj
    rw [e2] at hy
    rw [e1]
    rcases hj with hj | hj
    · rw [List.getElem?_append_left (by omega)] at hy ⊢
      exact hy
    · rw [List.getElem?_append_right (by omega), List.getElem?_append_right (by omega)] at hy ⊢
      rw [show j - pre.length - (flat x).length = j - pre.length - mid.length from by omega] at hy
      exact hy
end
end Go.Abs
end
section
set_option linter.unusedVariables false
set_option linter.unusedSimpArgs false
namespace Go.Abs
open Go
section
variable {R : Type} {C : Ctx}
theorem confGo_get {P : Program} {cf : TypeId → AV → Bool} : ∀ {fs : List Field} {kids : List AV} {off f : Nat} {a : Field}, confGo P cf fs kids off = true → fs[f]? = some a →
    ∃ y, kids[f]? = some y ∧ a.offset = off + widths (kids.take f) ∧ sizeQ P a.type = width y ∧ cf a.type y = true
  | [], kids, off, f, a, h, hf => by simp at hf
  | b :: fs, [], off, f, a, h, hf => by simp [confGo] at h
  | b :: fs, y :: kids, off, 0, a, h, hf => by
    simp at hf; subst hf
    simp [confGo] at h
    exact ⟨y, rfl, by simp [widths]; exact h.1.1.1, h.1.1.2, h.1.2⟩
  | b :: fs, y :: kids, off, f + 1, a, h, hf => by
    simp at hf
    simp [confGo] at h
    obtain ⟨z, h1, h2, h3, h4⟩ := confGo_get h.2 hf
    exact ⟨z, by simpa using h1, by simp [widths]; omega, h3, h4⟩
theorem conf_struct {P : Program} {n : Nat} {t : TypeId} {x : AV} {fs : Array Field} (h : conf P n t x = true) (hu : P.underlying t = some (.struct fs)) :
    ∃ m kids, n = m + 1 ∧ x = .agg kids ∧ ∀ (f : Nat) a, fs[f]? = some a → ∃ y, kids[f]? = some y ∧ a.offset = widths (kids.take f) ∧ sizeQ P a.type = width y ∧ conf P m a.type y = true := by
  cases n with
  | zero => simp [conf] at h
  | succ m =>
    unfold conf at h
    rw [hu] at h
    cases x <;> simp at h
    rename_i kids
    refine ⟨m, kids, rfl, rfl, fun f a hf => ?_⟩
    obtain ⟨y, h1, h2, h3, h4⟩ := confGo_get h.1 (f := f) (a := a) (by simpa using hf)
    exact ⟨y, h1, by omega, h3, h4⟩
theorem conf_array {P : Program} {n : Nat} {t e m : Nat} {x : AV} (h : conf P n t x = true) (hu : P.underlying t = some (.array m e)) :
    (∃ k l, x = .ints k m l ∧ kindOf P e = some k ∧ sizeQ P e = 1) ∨
    (∃ kids n', n = n' + 1 ∧ x = .agg kids ∧ kids.length = m ∧ ∀ y ∈ kids, conf P n' e y = true ∧ width y = sizeQ P e) := by
  cases n with
  | zero => simp [conf] at h
  | succ n' =>
    unfold conf at h
    rw [hu] at h
    cases x <;> simp at h
    · rename_i kids
      exact .inr ⟨kids, n', rfl, rfl, h.1.1, fun y hy => h.1.2 y hy⟩
    · rename_i k n2 l
      obtain ⟨⟨⟨rfl, h2⟩, h3⟩, h4⟩ := h
      exact .inl ⟨k, l, rfl, h2, h3⟩
theorem widths_take_eq {kids : List AV} {w : Nat} (h : ∀ y ∈ kids, width y = w) : ∀ i, i ≤ kids.length → widths (kids.take i) = i * w := by
  intro i
  induction i with
  | zero => intro _; simp [widths]
  | succ i ih =>
    intro hi
    rw [List.take_succ_eq_append_getElem (by omega), widths_append, ih (by omega)]
    simp only [widths, Nat.add_zero]
    rw [h _ (List.getElem_mem _), Nat.succ_mul]
theorem kindOf_inv {P : Program} {e : TypeId} {k : IntKind} (h : kindOf P e = some k) : P.underlying e = some (.int k) := by
  unfold kindOf at h
  split at h
  · cases h; assumption
  · cases h
theorem part_sound {P : Program} {E : Env} {o : Bool} {f t off : Nat} {y : AV} {cs : Array Value} (hc : conf P f t y = true) (hf : Fit y)
    (h : ∀ (j : Nat) z, (flat y)[j]? = some z → ∃ c, cs[off + j]? = some c ∧ VR E o z c) : ∃ v, ∀ w, (part t cs off).run P w = .ok v w ∧ VR E o y v := by
  obtain ⟨d, hu, hs, hr⟩ := conf_gives hc
  have hl := hf.length
  rcases hr with ⟨hl, hd⟩ | ⟨hd, hr⟩
  · obtain ⟨h1, h2⟩ := hl.one
    obtain ⟨c, g1, g2⟩ := h 0 y (by rw [h1]; rfl)
    rw [Nat.add_zero] at g1
    exact ⟨c, fun w => ⟨by simp [part, run_isAgg hu, hd, g1], g2⟩⟩
  · have hsz : width y ≤ cs.size - off := by
      rcases Nat.eq_zero_or_pos (width y) with h0 | h0
      · omega
      · obtain ⟨c, g1, _⟩ := h (width y - 1) _ (List.getElem?_eq_getElem (by omega))
        have := (Array.getElem?_eq_some_iff.1 g1).1
        omega
    have hget : ∀ (j : Nat) c, (cs.extract off (off + width y))[j]? = some c → ∃ z, (flat y)[j]? = some z ∧ VR E o z c := fun j c hj => by
      have hjl := (Array.getElem?_eq_some_iff.1 hj).1
      simp at hjl
      have hz := List.getElem?_eq_getElem (l := flat y) (i := j) (by omega)
      obtain ⟨c', g1, g2⟩ := h j _ hz
      rw [Array.getElem?_extract] at hj
      rw [if_pos (by omega)] at hj
      rw [g1] at hj
      cases hj
      exact ⟨_, hz, g2⟩
    refine ⟨.agg (cs.extract off (off + width y)), fun w => ⟨by simp [part, run_isAgg hu, hd, run_sizeOf hu, hs], ?_⟩⟩
    rcases hr with ⟨kids, rfl⟩ | ⟨k, n, l, rfl⟩
    · refine .agg _ _ _ hf (by simp [width]; simp only [flat, width] at hl hsz; omega) fun j z c hz hj => ?_
      obtain ⟨z', h1, h2⟩ := hget j c hj
      simp only [flat] at h1
      rw [hz] at h1
      cases h1
      exact h2
    · have hn := hf.len
      have : (cs.extract off (off + width (.ints k n l))) = (l.map (Value.int k)).toArray := by
        apply Array.ext_getElem?
        intro j
        cases hj : (cs.extract off (off + width (.ints k n l)))[j]? with
        | none =>
          have : l.length ≤ j := by
            have := Array.getElem?_eq_none_iff.1 hj
            simp only [Array.size_extract, width] at this hsz
            omega
          simp [List.getElem?_eq_none this]
        | some c =>
          obtain ⟨z, hz, hv⟩ := hget j c hj
          simp only [flat, List.getElem?_map] at hz
          cases hlj : l[j]? with
          | none => simp [hlj] at hz
          | some m =>
            simp [hlj] at hz
            subst hz
            rw [hv.int_inv]
            simp [hlj]
      rw [this]
      exact .ints _ _ _ _ hn
theorem VR.agg_inv {E : Env} {o : Bool} {kids : List AV} {v : Value} (h : VR E o (.agg kids) v) : ∃ cs, v = .agg cs ∧ Fit (.agg kids) ∧ cs.size = (flats kids).length ∧
    ∀ (j : Nat) x c, (flats kids)[j]? = some x → cs[j]? = some c → VR E o x c := by
  cases h with
  | agg _ _ cs hf hs h => exact ⟨cs, rfl, hf, hs, h⟩
theorem kid_cells {E : Env} {o : Bool} {kids : List AV} {cs : Array Value} (hf : Fit (.agg kids)) (hs : cs.size = (flats kids).length)
    (h : ∀ (j : Nat) x c, (flats kids)[j]? = some x → cs[j]? = some c → VR E o x c) {f : Nat} {y : AV} (hy : kids[f]? = some y) :
    ∀ (j : Nat) z, (flat y)[j]? = some z → ∃ c, cs[widths (kids.take f) + j]? = some c ∧ VR E o z c := fun j z hz => by
  have hfl : (flats kids)[widths (kids.take f) + j]? = some z := by
    rw [flats_split hy, List.getElem?_append_right (by rw [fits_length fun x hx => hf.kid (List.mem_of_mem_take hx)]; omega),
      fits_length fun x hx => hf.kid (List.mem_of_mem_take hx), Nat.add_sub_cancel_left, List.getElem?_append_left (List.getElem?_eq_some_iff.1 hz).1]
    exact hz
  have hlt := (List.getElem?_eq_some_iff.1 hfl).1
  have hc : cs[widths (kids.take f) + j]? = some (cs[widths (kids.take f) + j]'(by omega)) := Array.getElem?_eq_getElem (by omega)
  exact ⟨_, hc, h _ _ _ hfl hc⟩
theorem fieldK_sound {t : TypeId} {x : AV} {f : Nat} {K : AV → Option R} {r : R} (h : fieldK C t x f K = some r) :
    ∃ v, (∀ K2 : AV → Option R, fieldK C t x f K2 = K2 v) ∧ ∀ E o x', VR E o x x' → ∃ v', ∀ w, (Instr.field t x' f).run C.P w = .ok v' w ∧ VR E o v v' := by
  unfold fieldK at h
  split at h <;> (try (cases h; done))
  rename_i kids
  split at h <;> (try (cases h; done))
  rename_i y fs hy hu
  split at h <;> (try (cases h; done))
  rename_i a ha
  split at h <;> (try (cases h; done))
  rename_i hc
  refine ⟨y, fun K2 => by simp [fieldK, hy, hu, ha, hc], fun E o x' hx => ?_⟩
  obtain ⟨cs, rfl, hf, hs, hcells⟩ := hx.agg_inv
  obtain ⟨m, kids', _, hk, hget⟩ := conf_struct hc hu
  cases hk
  obtain ⟨y', g1, g2, g3, g4⟩ := hget f a ha
  rw [hy] at g1
  cases g1
  obtain ⟨v, hv⟩ := part_sound (P := C.P) (E := E) (o := o) (cs := cs) (off := a.offset) g4 (hf.kid (List.mem_of_getElem? hy)) (by rw [g2]; exact kid_cells hf hs hcells hy)
  exact ⟨v, fun w => ⟨by simp [Instr.field, run_underlying hu, ha, asAgg, (hv w).1], (hv w).2⟩⟩
theorem bytesOf_get (s : ByteArray) (i : Nat) (h : i < s.size) : s[i]? = some s[i] ∧ (bytesOf s).getD i 0 = (s[i].toNat : Int) := by
  refine ⟨by simp [h], ?_⟩
  have : i < s.data.toList.length := by simpa using h
  simp [bytesOf, List.getElem?_eq_getElem this, h]
  rfl
theorem indexK_sound {t : TypeId} {x ix : AV} {K : AV → Option R} {r : R} (h : indexK C t x ix K = some r) :
    ∃ v, (∀ K2 : AV → Option R, indexK C t x ix K2 = K2 v) ∧ ∀ E o x' i', VR E o x x' → VR E o ix i' → ∃ v', ∀ w, (Instr.index t x' i').run C.P w = .ok v' w ∧ VR E o v v' := by
  unfold indexK at h
  split at h <;> (try (cases h; done))
  rename_i ik i
  split at h <;> (try (cases h; done))
  · rename_i n e k m l hu
    split at h <;> (try (cases h; done))
    rename_i hc
    split at h <;> (try (cases h; done))
    rename_i h0
    split at h <;> (try (cases h; done))
    rename_i h1
    refine ⟨.int k (l.getD i.toNat 0), fun K2 => by simp only [indexK, hu, hc, h0, h1, if_true], fun E o x' i' hx hi => ?_⟩
    cases hi
    have hfx : VR E o (.ints k m l) x' := hx
    cases hx with
    | ints _ _ _ _ hl =>
      rcases conf_array hc hu with ⟨k', l', e1, e2, e3⟩ | ⟨_, _, _, e1, _⟩
      · cases e1
        have hin : i.toNat < l.length := by omega
        refine ⟨.int k (l.getD i.toNat 0), fun w => ⟨?_, .int _ _ _⟩⟩
        have hue := kindOf_inv e2
        have hp : (part e (l.map (Value.int k)).toArray i.toNat).run C.P w = .ok (.int k (l.getD i.toNat 0)) w := by
          simp [part, run_isAgg hue, TypeDesc.isRow, List.getElem?_eq_getElem hin]
        simp [Instr.index, asIntOf, run_underlying hu, h0, h1, run_sizeOf hue, e3, hp]
      · cases e1
  · rename_i n e kids hu
    split at h <;> (try (cases h; done))
    rename_i hc
    split at h <;> (try (cases h; done))
    rename_i h0
    split at h <;> (try (cases h; done))
    rename_i h1
    refine ⟨kids.getD i.toNat .any, fun K2 => by simp only [indexK, hu, hc, h0, h1, if_true], fun E o x' i' hx hi => ?_⟩
    cases hi
    obtain ⟨cs, rfl, hf, hs, hcells⟩ := hx.agg_inv
    rcases conf_array hc hu with ⟨_, _, e1, _⟩ | ⟨kids', n', _, e1, e2, e3⟩
    · cases e1
    · cases e1
      have hin : i.toNat < kids.length := by omega
      have hy := List.getElem?_eq_getElem hin
      have hd : kids.getD i.toNat .any = kids[i.toNat] := by simp [hy]
      obtain ⟨c1, c2⟩ := e3 _ (List.getElem_mem hin)
      obtain ⟨d, hue, _⟩ := conf_gives c1
      obtain ⟨v, hv⟩ := part_sound (P := C.P) (E := E) (o := o) (cs := cs) (off := i.toNat * sizeQ C.P e) c1 (hf.kid (List.getElem_mem hin)) (by
        have := kid_cells hf hs hcells hy
        rwa [widths_take_eq (fun y hy => (e3 y hy).2) _ (Nat.le_of_lt hin)] at this)
      refine ⟨v, fun w => ⟨?_, by rw [hd]; exact (hv w).2⟩⟩
      simp [Instr.index, asIntOf, run_underlying hu, h0, h1, run_sizeOf hue, (hv w).1]
  · rename_i s hu
    split at h <;> (try (cases h; done))
    rename_i h0
    split at h <;> (try (cases h; done))
    rename_i h1
    refine ⟨.int .u8 ((bytesOf s).getD i.toNat 0), fun K2 => by simp only [indexK, hu, h0, h1, if_true], fun E o x' i' hx hi => ?_⟩
    cases hi
    cases hx
    have hin : i.toNat < s.size := by omega
    obtain ⟨g1, g2⟩ := bytesOf_get s i.toNat hin
    refine ⟨.int .u8 (s[i.toNat].toNat : Int), fun w => ⟨?_, by rw [g2]; exact .int _ _ _⟩⟩
    simp [Instr.index, asIntOf, run_underlying hu, h0, g1]
end
end Go.Abs
end
section
set_option linter.unusedVariables false
set_option linter.unusedSimpArgs false
namespace Go.Abs
open Go
section
variable {R : Type} {C : Ctx}
theorem offPath_snoc : ∀ {p : List Nat} {v x : AV} {q : Nat} (i : Nat), getPath v p = some x → offPath v p = some q → offPath v (p ++ [i]) = (offPath x [i]).map (q + ·)
  | [], v, x, q, i, hg, ho => by simp [getPath] at hg; simp [offPath] at ho; subst hg; subst ho; simp
  | a :: p, .agg kids, x, q, i, hg, ho => by
    simp only [getPath] at hg
    simp only [offPath, List.cons_append] at ho ⊢
    split at hg
    · rename_i y hy
      simp only [hy] at ho ⊢
      cases hq : offPath y p with
      | none => simp [hq] at ho
      | some q' =>
        simp [hq] at ho
        rw [offPath_snoc i hg hq]
        cases offPath x [i] <;> simp; omega
    · cases hg
  | [a], .ints k n l, x, q, i, hg, ho => by
    simp [getPath] at hg; subst hg
    simp [offPath]
  | a :: b :: p, .ints k n l, x, q, i, hg, ho => by simp [getPath] at hg
  | a :: p, .any, x, _, _, h, _ | a :: p, .bool _, x, _, _, h, _ | a :: p, .int _ _, x, _, _, h, _ | a :: p, .str _, x, _, _, h, _ | a :: p, .nilp, x, _, _, h, _ | a :: p, .ptr _ _, x, _, _, h, _ | a :: p, .aptr _ _ _ _, x, _, _, h, _
  | a :: p, .rptr _, x, _, _, h, _ | a :: p, .snil, x, _, _, h, _ | a :: p, .slice _ _ _ _ _, x, _, _, h, _ | a :: p, .own _ _, x, _, _, h, _ | a :: p, .rints _ _, x, _, _, h, _ | a :: p, .robjs _ _ _, x, _, _, h, _ | a :: p, .tup _, x, _, _, h, _
  | a :: p, .fn _ _ _, x, _, _, h, _ | a :: p, .nilf, x, _, _, h, _ | a :: p, .iface _ _, x, _, _, h, _ | a :: p, .nili, x, _, _, h, _ | a :: p, .raw _, x, _, _, h, _ | a :: p, .errv _ _ _, x, _, _, h, _ | a :: p, .emap, x, _, _, h, _ => by simp [getPath] at h
theorem offB_snoc {blk : Blk} {p : List Nat} {x : AV} {q i q' : Nat} (hg : getB blk p = some x) (ho : offB blk p = some q) (hx : offPath x [i] = some q') : offB blk (p ++ [i]) = some (q + q') := by
  cases blk with
  | free => simp [offB] at ho
  | var v => simp only [offB, getB] at hg ho ⊢; rw [offPath_snoc i hg ho, hx]; rfl
  | ints k l =>
    cases p with
    | nil => simp [getB] at hg
    | cons a p => cases p with
      | nil => simp [getB] at hg; subst hg; simp [offPath] at hx
      | cons => simp [getB] at hg
  | objs e w l =>
    cases p with
    | nil => simp [getB] at hg
    | cons a p =>
      simp only [getB] at hg
      simp only [offB, List.cons_append] at ho ⊢
      cases hz : l[a]? with
      | none => simp [hz] at ho
      | some z =>
        simp only [hz] at ho ⊢
        have : l.getD a .any = z := by simp [hz]
        rw [this] at hg
        cases hq : offPath z p with
        | none => simp [hq] at ho
        | some q0 =>
          simp [hq] at ho
          rw [offPath_snoc i hg hq, hx]
          simp; omega
theorem run_fieldPlace {P : Program} {a : Addr} {f : Field} {d : TypeDesc} (hu : P.underlying f.type = some d) (h : sizeQ P f.type ≠ 0) (w : World) : (fieldPlace a f).run P w = .ok (a.add f.offset) w := by
  simp [fieldPlace, run_sizeOf hu, h]
theorem fieldAddrK_sound {t : TypeId} {x : AV} {f : Nat} {bl : Blks} {K : Kont R} {r : R} (h : fieldAddrK C t x f bl K = some r) :
    ∃ cat v, KS (R := R) (fieldAddrK C t x f) bl cat v bl ∧ cat ≠ .write ∧ ∀ E, (E.bl = bl ∨ cat = .pure) → Mem E → ∀ a, VR E true x a → ∃ v', (Instr.fieldAt t a f).run C.P E.w = .ok v' E.w ∧ VR E true v v' := by
  unfold fieldAddrK at h
  split at h
  · rename_i kids
    split at h <;> (try (cases h; done))
    rename_i y fs hy hu
    split at h <;> (try (cases h; done))
    rename_i a ha
    split at h <;> (try (cases h; done))
    rename_i hc
    refine ⟨.pure, .rptr y, .ofPure fun bl K => by simp only [fieldAddrK, hy, hu, ha, if_pos hc], by simp, fun E hE m p hp => ?_⟩
    simp only [Bool.and_eq_true, decide_eq_true_eq] at hc
    obtain ⟨m', kids', _, hk, hget⟩ := conf_struct hc.1 hu
    cases hk
    obtain ⟨y', g1, g2, g3, g4⟩ := hget f a ha
    rw [hy] at g1; cases g1
    obtain ⟨d, hud, _⟩ := conf_gives g4
    cases hp with
    | rptr _ _ p hf hs vv hh hv =>
      obtain ⟨pb, po, ps⟩ := p
      simp at hs; subst hs
      have hin : ∀ (j : Nat) z, (flat y)[j]? = some z → (flat (.agg kids))[a.offset + j]? = some z := fun j z hz => by
        simp only [flat]
        rw [flats_split hy, g2, List.getElem?_append_right (by rw [fits_length fun x hx => hf.kid (List.mem_of_mem_take hx)]; omega),
          fits_length fun x hx => hf.kid (List.mem_of_mem_take hx), Nat.add_sub_cancel_left, List.getElem?_append_left (List.getElem?_eq_some_iff.1 hz).1]
        exact hz
      refine ⟨.pointer (some ⟨pb, po + a.offset, none⟩), by simp [Instr.fieldAt, run_underlying hu, ha, Instr.sureAddr, run_fieldPlace hud hc.2, Addr.add_mid], ?_⟩
      exact .rptr _ _ _ (hf.kid (List.mem_of_getElem? hy)) rfl (fun j => vv (a.offset + j)) (fun j z hz => by simp only [Nat.add_assoc]; exact hh _ z (hin j z hz)) fun j z hz => hv _ z (hin j z hz)
  · rename_i id path
    split at h <;> (try (cases h; done))
    rename_i b hb
    split at h <;> (try (cases h; done))
    rename_i fs hu
    split at h <;> (try (cases h; done))
    rename_i a ha
    obtain ⟨y, hk, x, hy, sim⟩ := decB_sound h
    rw [hk] at h
    split at h <;> (try (cases h; done))
    rename_i hc
    refine ⟨.read, .ptr id (path ++ [f]), .ofRead fun K => by simp only [fieldAddrK, hb, hu, ha]; rw [hk, if_pos hc], by simp, fun E hE m p hp => ?_⟩
    rcases hE with rfl | hE
    · simp only [Bool.and_eq_true, decide_eq_true_eq] at hc
      obtain ⟨m', kids, _, hk, hget⟩ := conf_struct hc.1 hu
      subst hk
      obtain ⟨z, g1, g2, g3, g4⟩ := hget f a ha
      obtain ⟨d, hud, _⟩ := conf_gives g4
      obtain ⟨q, hq, rfl⟩ := hp.loc_ptr hb
      refine ⟨.pointer (some ⟨(E.loc id).1, (E.loc id).2.1 + q + a.offset, none⟩), by simp [Instr.fieldAt, run_underlying hu, ha, Instr.sureAddr, run_fieldPlace hud hc.2, Addr.add_mid], ?_⟩
      refine .ptr _ _ _ (bget_lt hb) fun blk hb' => ?_
      rw [hb] at hb'; cases hb'
      have ho : offPath x [f] = some (widths (kids.take f)) := by rw [← sim.off]; simp [offPath, g1]
      exact ⟨rfl, q + widths (kids.take f), offB_snoc hy hq ho, rfl, by simp [g2]; omega⟩
    · cases hE
  · cases h
end
end Go.Abs
end
section
set_option linter.unusedVariables false
set_option linter.unusedSimpArgs false
namespace Go.Abs
open Go
section
variable {R : Type} {C : Ctx}
theorem szOK_inv {P : Program} {e : TypeId} {w : Nat} (h : szOK P e w = true) : sizeQ P e = w ∧ w ≠ 0 := by
  simp only [szOK, Bool.and_eq_true, beq_iff_eq, bne_iff_ne] at h; exact h.1
theorem szOK_zero {P : Program} {e : TypeId} {w : Nat} (h : szOK P e w = true) : ∃ i z, P.info? e = some i ∧ i.zero = some z ∧ i.size = w ∧ bytesQ P e = i.bytes ∧ z.cells.size = i.size := by
  have h1 := (szOK_inv h).1
  simp only [szOK, Bool.and_eq_true] at h
  have h2 := h.2
  split at h2
  · rename_i i hi
    split at h2
    · rename_i z hz
      exact ⟨i, z, hi, hz, by simpa [sizeQ, hi] using h1, by simp [bytesQ, hi], by simpa using h2⟩
    · cases h2
  · cases h2
theorem run_sizeOf' {P : Program} {e : TypeId} {wd : Nat} (h : szOK P e wd = true) (w : World) : (sizeOf e).run P w = .ok wd w := by
  obtain ⟨h1, h2⟩ := szOK_inv h
  unfold sizeQ at h1
  split at h1
  · rename_i i hi
    simp [sizeOf, typeInfo, hi, h1]
  · omega
theorem rowB_off {blk : Blk} {p : List Nat} {q w c i : Nat} (h : rowB blk p = some (q, w, c)) (hi : i < c) : offB blk (p ++ [i]) = some (q + i * w) := by
  cases blk with
  | free => simp [rowB] at h
  | var v =>
    have h' := h
    simp only [rowB] at h
    split at h
    · rename_i k n l q' hg ho
      obtain ⟨h1, rfl, rfl⟩ := rowB_var hg h'
      rw [h1] at ho; cases ho
      simp only [offB]
      rw [offPath_snoc i hg h1]
      simp [offPath, hi]
    · cases h
  | ints k l =>
    cases p with
    | nil => simp [rowB] at h; obtain ⟨rfl, rfl, rfl⟩ := h; simp [offB, hi]
    | cons => simp [rowB] at h
  | objs e w' l =>
    cases p with
    | nil => simp [rowB] at h; obtain ⟨rfl, rfl, rfl⟩ := h; simp [offB, List.getElem?_eq_getElem hi, offPath]
    | cons => simp [rowB] at h
theorem run_indexAt_slice {P : Program} {t e : TypeId} {ad : Addr} {len cap : Nat} {k : IntKind} {i : Int} {wd : Nat} (hu : P.underlying t = some (.slice e)) (hs : szOK P e wd = true) (h0 : 0 ≤ i) (h1 : i < len) (w : World) :
    (Instr.indexAt t (.slice (some ad) len cap) (.int k i)).run P w = .ok (.pointer (some (ad.add (i.toNat * wd)))) w := by
  simp [Instr.indexAt, asIntOf, run_underlying hu, h0, h1, run_sizeOf' hs]
theorem run_indexAt_array {P : Program} {t e : TypeId} {ad : Addr} {n : Nat} {k : IntKind} {i : Int} {wd : Nat} (hu : P.underlying t = some (.array n e)) (hs : ∀ w, (sizeOf e).run P w = .ok wd w) (h0 : 0 ≤ i) (h1 : i < n) (w : World) :
    (Instr.indexAt t (.pointer (some ad)) (.int k i)).run P w = .ok (.pointer (some (ad.add (i.toNat * wd)))) w := by
  simp [Instr.indexAt, asIntOf, run_underlying hu, Instr.sureAddr, h0, h1, hs]
theorem indexAddrK_sound {t : TypeId} {x ix : AV} {bl : Blks} {K : Kont R} {r : R} (h : indexAddrK C t x ix bl K = some r) :
    ∃ cat v, KS (R := R) (indexAddrK C t x ix) bl cat v bl ∧ cat ≠ .write ∧ ∀ E, (E.bl = bl ∨ cat = .pure) → Mem E → ∀ a i', VR E true x a → VR E true ix i' → ∃ v', (Instr.indexAt t a i').run C.P E.w = .ok v' E.w ∧ VR E true v v' := by
  unfold indexAddrK at h
  split at h <;> (try (cases h; done))
  rename_i ik i
  split at h <;> (try (cases h; done))
  · rename_i e k l hu
    split at h <;> (try (cases h; done))
    rename_i hs
    split at h <;> (try (cases h; done))
    rename_i h0
    split at h <;> (try (cases h; done))
    rename_i h1
    refine ⟨.pure, .rptr (.int k (l.getD i.toNat 0)), .ofPure fun bl K => by simp only [indexAddrK, hu, hs, h0, h1, if_true], by simp, fun E hE m a i' ha hi => ?_⟩
    cases hi
    cases ha with
    | rints _ _ _ a cap hc hh =>
      have hin : i.toNat < l.length := by omega
      obtain ⟨ad, rfl, g1, g2, g3⟩ := hh i.toNat hin
      obtain ⟨ab, ao, as⟩ := ad
      simp at g1 g2 g3; subst g1
      refine ⟨_, run_indexAt_slice hu hs h0 (by simpa using h1) E.w, ?_⟩
      rw [Addr.add_mid, Nat.mul_one]
      exact .rptr _ _ _ (.leaf _ ⟨by simp, by simp⟩) rfl (fun _ => .int k (l.getD i.toNat 0)) (fun j y hy => by
        cases j with
        | zero => exact ⟨g2, by simpa using g3⟩
        | succ j => simp [flat] at hy) fun j y hy => by
        cases j with
        | zero => simp [flat] at hy; subst hy; simp; exact .int _ _ _
        | succ j => simp [flat] at hy
  · rename_i e e' wd l hu
    split at h <;> (try (cases h; done))
    rename_i hs
    split at h <;> (try (cases h; done))
    rename_i h0
    split at h <;> (try (cases h; done))
    rename_i h1
    obtain ⟨y, hd, hsim⟩ := decK_sound h
    have hsame := hsim.same
    refine ⟨.pure, .rptr y, .ofPure fun bl K => by simp only [indexAddrK, hu, hs, h0, h1, if_true]; rw [hd], by simp, fun E hE m a i' ha hi => ?_⟩
    cases hi
    cases ha with
    | robjs _ _ _ _ a cap hc hw vv hne hh hv =>
      have hin : i.toNat < l.length := by omega
      have hx := List.getElem?_eq_getElem hin
      have hgd : l.getD i.toNat .any = l[i.toNat] := by simp [hx]
      rw [hgd] at hsame
      obtain ⟨ad, rfl, g1⟩ := hne (fun e => by subst e; simp at hin)
      obtain ⟨ab, ao, as⟩ := ad
      simp at g1; subst g1
      refine ⟨_, run_indexAt_slice hu hs h0 (by simpa using h1) E.w, ?_⟩
      rw [Addr.add_mid]
      have hzz : ∀ (j : Nat) z', (flat y)[j]? = some z' → ∃ z, (flat l[i.toNat])[j]? = some z := fun j z' hz' => by
        have hj := (List.getElem?_eq_some_iff.1 hz').1
        exact ⟨_, List.getElem?_eq_getElem (by rw [← hsame.len]; exact hj)⟩
      refine .rptr _ _ _ (hsame.fit (hw _ (List.getElem_mem hin)).1.1) rfl (fun j => vv i.toNat j) (fun j z' hz' => ?_) fun j z' hz' => ?_
      · obtain ⟨z, hz⟩ := hzz j z' hz'
        exact hh _ i.toNat _ j z rfl hx hz
      · obtain ⟨z, hz⟩ := hzz j z' hz'
        exact hsame.vr j z z' hz hz' E false _ (hv i.toNat _ j z hx hz)
  · rename_i e id wd hu
    split at h <;> (try (cases h; done))
    rename_i hs
    split at h <;> (try (cases h; done))
    all_goals
      rename_i hb
      split at h <;> (try (cases h; done))
      rename_i h0
      split at h <;> (try (cases h; done))
      rename_i h1
      refine ⟨.read, .ptr id [i.toNat], .ofRead fun K => by simp only [indexAddrK, hu, hs, hb, h0, h1, if_true], by simp, fun E hE m a i' ha hi => ?_⟩
      rcases hE with rfl | hE
      · cases hi
        cases ha with
        | own _ _ len a cap hid hc hh =>
          obtain ⟨g1, g2, g3⟩ := hh _ hb
          have g1' := g1
          simp [rowB] at g1
          have hlen : i < (len : Int) := by rw [← g1.2]; exact h1
          have hw := g1.1
          rcases g3 with rfl | rfl
          · omega
          · refine ⟨_, run_indexAt_slice hu hs h0 hlen E.w, ?_⟩
            rw [Addr.add_mid]
            refine .ptr _ _ _ hid fun blk hb' => ?_
            rw [hb] at hb'; cases hb'
            exact ⟨rfl, i.toNat * wd, by have := rowB_off g1' (i := i.toNat) (by omega); simpa using this, rfl, rfl⟩
      · cases hE
  · rename_i e id p st len wd hu
    split at h <;> (try (cases h; done))
    rename_i hs
    split at h <;> (try (cases h; done))
    rename_i h0
    split at h <;> (try (cases h; done))
    rename_i h1
    refine ⟨.pure, .ptr id (p ++ [st + i.toNat]), .ofPure fun bl K => by simp only [indexAddrK, hu, hs, h0, h1, if_true], by simp, fun E hE m a i' ha hi => ?_⟩
    cases hi
    cases ha with
    | slice _ _ _ _ _ a cap hid hc hsm hh =>
      rcases hsm with rfl | ⟨ad, rfl⟩
      · omega
      · refine ⟨_, run_indexAt_slice hu hs h0 h1 E.w, ?_⟩
        refine .ptr _ _ _ hid fun blk hb => ?_
        obtain ⟨q, c, g1, g2, g3, g4⟩ := hh blk hb
        rcases g4 with rfl | g4
        · omega
        · cases g4
          rw [Addr.add_mid]
          exact ⟨rfl, q + (st + i.toNat) * wd, rowB_off g1 (by omega), rfl, by simp [Nat.add_mul]; omega⟩
  · rename_i n e k m' l hu
    split at h <;> (try (cases h; done))
    rename_i hs
    split at h <;> (try (cases h; done))
    rename_i h0
    split at h <;> (try (cases h; done))
    rename_i h1
    refine ⟨.pure, .rptr (.int k (l.getD i.toNat 0)), .ofPure fun bl K => by simp only [indexAddrK, hu, hs, h0, h1, if_true], by simp, fun E hE m a i' ha hi => ?_⟩
    simp only [Bool.and_eq_true, beq_iff_eq] at hs
    obtain ⟨rfl, hs⟩ := hs
    cases hi
    cases ha with
    | rptr _ _ a hf hsp vv hh hv =>
      have hl := hf.len
      have hin : i.toNat < l.length := by omega
      obtain ⟨ab, ao, as⟩ := a
      simp at hsp; subst hsp
      have hz : (flat (.ints k m' l))[i.toNat]? = some (.int k l[i.toNat]) := by simp [flat, List.getElem?_eq_getElem hin]
      refine ⟨_, run_indexAt_array hu (run_sizeOf' hs) h0 h1 E.w, ?_⟩
      rw [Addr.add_mid, Nat.mul_one]
      have e : l.getD i.toNat 0 = l[i.toNat] := by simp [List.getElem?_eq_getElem hin]
      rw [e]
      exact .rptr _ _ _ (.leaf _ ⟨by simp, by simp⟩) rfl (fun j => vv (i.toNat + j)) (fun j y hy => by
        cases j with
        | zero => exact hh _ _ hz
        | succ j => simp [flat] at hy) fun j y hy => by
        cases j with
        | zero => simp [flat] at hy; subst hy; exact hv _ _ hz
        | succ j => simp [flat] at hy
  · rename_i n e kids hu
    split at h <;> (try (cases h; done))
    rename_i hs
    split at h <;> (try (cases h; done))
    rename_i h0
    split at h <;> (try (cases h; done))
    rename_i h1
    refine ⟨.pure, .rptr (kids.getD i.toNat .any), .ofPure fun bl K => by simp only [indexAddrK, hu, hs, h0, h1, if_true], by simp, fun E hE m a i' ha hi => ?_⟩
    simp only [Bool.and_eq_true, beq_iff_eq] at hs
    cases hi
    rcases conf_array hs.2 hu with ⟨_, _, e1, _⟩ | ⟨kids', n', _, e1, e2, e3⟩
    · cases e1
    cases e1
    have hin : i.toNat < kids.length := by omega
    have hy := List.getElem?_eq_getElem hin
    have hd : kids.getD i.toNat .any = kids[i.toNat] := by simp [hy]
    rw [hd]
    obtain ⟨c1, c2⟩ := e3 _ (List.getElem_mem hin)
    obtain ⟨d, hue, _⟩ := conf_gives c1
    cases ha with
    | rptr _ _ a hf hsp vv hh hv =>
      obtain ⟨ab, ao, as⟩ := a
      simp at hsp; subst hsp
      have hin' : ∀ (j : Nat) z, (flat kids[i.toNat])[j]? = some z → (flat (.agg kids))[i.toNat * sizeQ C.P e + j]? = some z := fun j z hz => by
        simp only [flat]
        rw [flats_split hy, ← widths_take_eq (fun y hy => (e3 y hy).2) _ (Nat.le_of_lt hin), List.getElem?_append_right (by rw [fits_length fun x hx => hf.kid (List.mem_of_mem_take hx)]; omega),
          fits_length fun x hx => hf.kid (List.mem_of_mem_take hx), Nat.add_sub_cancel_left, List.getElem?_append_left (List.getElem?_eq_some_iff.1 hz).1]
        exact hz
      refine ⟨_, run_indexAt_array hu (fun w => run_sizeOf hue w) h0 h1 E.w, ?_⟩
      rw [Addr.add_mid]
      exact .rptr _ _ _ (hf.kid (List.getElem_mem hin)) rfl (fun j => vv (i.toNat * sizeQ C.P e + j)) (fun j z hz => by simp only [Nat.add_assoc]; exact hh _ z (hin' j z hz)) fun j z hz => hv _ z (hin' j z hz)
  · rename_i n e id p hu
    split at h <;> (try (cases h; done))
    rename_i b hb
    obtain ⟨y, hk, x, hy, sim⟩ := decB_sound h
    rw [hk] at h
    split at h <;> (try (cases h; done))
    rename_i hc
    split at h <;> (try (cases h; done))
    rename_i h0
    split at h <;> (try (cases h; done))
    rename_i h1
    refine ⟨.read, .ptr id (p ++ [i.toNat]), .ofRead fun K => by simp only [indexAddrK, hu, hb]; rw [hk]; simp only [hc, h0, h1, if_true], by simp, fun E hE m a i' ha hi => ?_⟩
    rcases hE with rfl | hE
    · cases hi
      obtain ⟨q, hq, rfl⟩ := ha.loc_ptr hb
      rcases conf_array hc hu with ⟨k, l, e1, e2, e3⟩ | ⟨kids, n', _, e1, e2, e3⟩
      · subst e1
        have hue := kindOf_inv e2
        refine ⟨_, run_indexAt_array hu (fun w => run_sizeOf hue w) h0 h1 E.w, ?_⟩
        rw [Addr.add_mid, e3, Nat.mul_one]
        refine .ptr _ _ _ (bget_lt hb) fun blk hb' => ?_
        rw [hb] at hb'; cases hb'
        exact ⟨rfl, q + i.toNat, offB_snoc hy hq (by rw [← sim.off]; simp [offPath]; omega), rfl, by simp; omega⟩
      · subst e1
        have hin : i.toNat < kids.length := by omega
        obtain ⟨c1, c2⟩ := e3 _ (List.getElem_mem hin)
        obtain ⟨d, hue, _⟩ := conf_gives c1
        refine ⟨_, run_indexAt_array hu (fun w => run_sizeOf hue w) h0 h1 E.w, ?_⟩
        rw [Addr.add_mid]
        refine .ptr _ _ _ (bget_lt hb) fun blk hb' => ?_
        rw [hb] at hb'; cases hb'
        exact ⟨rfl, q + i.toNat * sizeQ C.P e, offB_snoc hy hq (by rw [← sim.off]; simp [offPath, List.getElem?_eq_getElem hin, widths_take_eq (fun y hy => (e3 y hy).2) _ (Nat.le_of_lt hin)]), rfl, by simp; omega⟩
    · cases hE
end
end Go.Abs
end
section
set_option linter.unusedVariables false
set_option linter.unusedSimpArgs false
namespace Go.Abs
open Go
section
variable {R : Type} {C : Ctx}
theorem cut_length {α : Type} (r : List α) (l : Nat) (h : Option Nat) (h1 : l ≤ h.getD r.length) (h2 : h.getD r.length ≤ r.length) : (cut r l h).length = h.getD r.length - l := by
  cases h with
  | none => simp [cut]
  | some h => simp [cut] at h2 ⊢; omega
theorem span_eq (n l : Nat) (h : Option Nat) : span n l h = h.getD n - l := by cases h <;> rfl
theorem cut_get {α : Type} (r : List α) (l : Nat) (h : Option Nat) (i : Nat) (x : α) (hx : (cut r l h)[i]? = some x) : r[l + i]? = some x := by
  cases h with
  | none => simpa [cut] using hx
  | some h =>
    simp only [cut, List.getElem?_take, List.getElem?_drop] at hx
    split at hx
    · exact hx
    · cases hx
theorem cut_getD {α : Type} (r : List α) (l : Nat) (h : Option Nat) (d : α) (i : Nat) (hi : i < (cut r l h).length) : (cut r l h).getD i d = r.getD (l + i) d := by
  have h1 := List.getElem?_eq_getElem hi
  have h2 := cut_get r l h i _ h1
  simp [List.getD_eq_getElem?_getD, h1, h2]
theorem optmap_some {x : Option AV} {x' : Option Value} {E : Env} (h : (x = none ∧ x' = none) ∨ ∃ y v, x = some y ∧ x' = some v ∧ VR E true y v) :
    (∀ z, x = some z → ∃ v, x' = some v ∧ VR E true z v) ∧ (x = none → x' = none) := by
  rcases h with ⟨rfl, rfl⟩ | ⟨y, v, rfl, rfl, h⟩
  · exact ⟨fun z hz => by simp at hz, fun _ => rfl⟩
  · exact ⟨fun z hz => by cases hz; exact ⟨v, rfl, h⟩, fun h => by simp at h⟩
def OptR (E : Env) (x : Option AV) (x' : Option Value) : Prop := (x = none ∧ x' = none) ∨ ∃ y v, x = some y ∧ x' = some v ∧ VR E true y v
theorem run_slice_slice {P : Program} {t e : TypeId} {a : Option Addr} {len cap l h wd : Nat} {lo hi : Option Value} (hu : P.underlying t = some (.slice e)) (hs : szOK P e wd = true) {w : World}
    (hb : (Instr.sliceBounds true len cap lo hi none).run P w = .ok (l, h, cap) w) :
    (Instr.sliceAt t (.slice a len cap) lo hi none).run P w = .ok (.slice (if cap = l then a else a.map (·.add (l * wd))) (h - l) (cap - l)) w := by
  simp [Instr.sliceAt, Instr.slice, run_underlying hu, hb, run_sizeOf' hs]
theorem run_slice_array {P : Program} {t e n : Nat} {a : Addr} {l h wd : Nat} {lo hi : Option Value} (hu : P.underlying t = some (.array n e)) (hs : szOK P e wd = true) {w : World}
    (hb : (Instr.sliceBounds false n n lo hi none).run P w = .ok (l, h, n) w) :
    (Instr.sliceAt t (.pointer (some a)) lo hi none).run P w = .ok (.slice (some (if n = l then a else a.add (l * wd))) (h - l) (n - l)) w := by
  simp [Instr.sliceAt, run_underlying hu, Instr.sureAddr, hb, run_sizeOf' hs]
theorem vr_rints_of {E : Env} {o : Bool} {k : IntKind} {r' r : List Int} {b off l : Nat} {a : Option Addr} {cap : Nat} (hc : r'.length ≤ cap)
    (hget : ∀ i, i < r'.length → r'.getD i 0 = r.getD (l + i) 0 ∧ l + i < r.length)
    (ha : r' ≠ [] → a = some ⟨b, off + l, none⟩) (h : ∀ i, i < r.length → E.ro b (off + i) ∧ E.cell b (off + i) = some (.int k (r.getD i 0))) :
    VR E o (.rints k r') (.slice a r'.length cap) := by
  refine .rints o k r' a cap hc fun i hi => ?_
  obtain ⟨h1, h2⟩ := hget i hi
  obtain ⟨g1, g2⟩ := h (l + i) h2
  refine ⟨_, ha (fun e => by subst e; simp at hi), rfl, ?_, ?_⟩
  · simp only; rw [Nat.add_assoc]; exact g1
  · simp only; rw [Nat.add_assoc, h1]; exact g2
theorem sliceK_sound {t : TypeId} {x : AV} {lo hi : Option AV} {bl : Blks} {K : Kont R} {r : R} (h : sliceK C t x lo hi bl K = some r) :
    ∃ cat v, KS (R := R) (sliceK C t x lo hi) bl cat v bl ∧ cat ≠ .write ∧ ∀ E, (E.bl = bl ∨ cat = .pure) → Mem E → ∀ a lo' hi', VR E true x a → OptR E lo lo' → OptR E hi hi' →
      ∃ v', (Instr.sliceAt t a lo' hi' none).run C.P E.w = .ok v' E.w ∧ VR E true v v' := by
  unfold sliceK at h
  split at h <;> (try (cases h; done))
  · rename_i s hu
    obtain ⟨l, h', hd, b1, b2, hb⟩ := boundsK_sound h
    refine ⟨.pure, .str (s.extract l (h'.getD s.size)), .ofPure fun bl K => by simp only [sliceK, hu]; rw [hd], by simp, fun E hE m a lo' hi' ha hl hh => ?_⟩
    cases ha
    obtain ⟨l1, l2⟩ := optmap_some hl
    obtain ⟨h1, h2⟩ := optmap_some hh
    have := hb C.P E lo' hi' l1 h1 l2 h2 E.w false s.size (Nat.le_refl _)
    exact ⟨_, by simp [Instr.sliceAt, Instr.slice, run_underlying hu, this], .str _ _⟩
  · rename_i e hu
    split at h <;> (try (cases h; done))
    rename_i hs
    obtain ⟨l, h', hd, b1, b2, hb⟩ := boundsK_sound h
    refine ⟨.pure, .snil, .ofPure fun bl K => by simp only [sliceK, hu, hs, if_true]; rw [hd], by simp, fun E hE m a lo' hi' ha hl hh => ?_⟩
    cases ha
    obtain ⟨l1, l2⟩ := optmap_some hl
    obtain ⟨h1, h2⟩ := optmap_some hh
    have := hb C.P E lo' hi' l1 h1 l2 h2 E.w true 0 (Nat.le_refl _)
    have hl0 : l = 0 := by omega
    have hh0 : h'.getD 0 = 0 := by omega
    refine ⟨_, run_slice_slice hu hs this, ?_⟩
    rw [hl0, hh0]
    exact .snil _
  · rename_i e k r0 hu
    split at h <;> (try (cases h; done))
    rename_i hs
    obtain ⟨l, h', hd, b1, b2, hb⟩ := boundsK_sound h
    refine ⟨.pure, .rints k (cut r0 l h'), .ofPure fun bl K => by simp only [sliceK, hu, hs, if_true]; rw [hd], by simp, fun E hE m a lo' hi' ha hl hh => ?_⟩
    cases ha with
    | rints _ _ _ a cap hc hr =>
      obtain ⟨l1, l2⟩ := optmap_some hl
      obtain ⟨h1, h2⟩ := optmap_some hh
      have := hb C.P E lo' hi' l1 h1 l2 h2 E.w true cap hc
      have hlen := cut_length r0 l h' b1 b2
      refine ⟨_, run_slice_slice hu hs this, ?_⟩
      rw [← hlen]
      refine .rints _ _ _ _ _ (by omega) fun i hi => ?_
      obtain ⟨ad, rfl, g1, g2, g3⟩ := hr (l + i) (by omega)
      obtain ⟨ab, ao, as⟩ := ad
      simp at g1 g2 g3; subst g1
      refine ⟨⟨ab, ao + l, none⟩, ?_, rfl, by simp only [Nat.add_assoc]; exact g2, by simp only [Nat.add_assoc]; rw [cut_getD _ _ _ _ _ hi]; simpa using g3⟩
      rw [if_neg (by omega)]
      simp [Addr.add_mid]
  · rename_i e e' wd r0 hu
    split at h <;> (try (cases h; done))
    rename_i hs
    obtain ⟨l, h', hd, b1, b2, hb⟩ := boundsK_sound h
    refine ⟨.pure, .robjs e' wd (cut r0 l h'), .ofPure fun bl K => by simp only [sliceK, hu, hs, if_true]; rw [hd], by simp, fun E hE m a lo' hi' ha hl hh => ?_⟩
    cases ha with
    | robjs _ _ _ _ a cap hc hw vv hne hr hv =>
      obtain ⟨l1, l2⟩ := optmap_some hl
      obtain ⟨h1, h2⟩ := optmap_some hh
      have := hb C.P E lo' hi' l1 h1 l2 h2 E.w true cap hc
      have hlen := cut_length r0 l h' b1 b2
      refine ⟨_, run_slice_slice hu hs this, ?_⟩
      rw [← hlen]
      have hnel : cut r0 l h' ≠ [] → r0 ≠ [] ∧ cap ≠ l := fun hne' => by
        have := List.length_pos_iff.2 hne'
        have hr0 : 0 < r0.length := by omega
        exact ⟨fun e => by rw [e] at hr0; simp at hr0, by omega⟩
      refine .robjs _ _ _ _ _ _ (by omega) (fun x hx => ?_) (fun i j => vv (l + i) j) (fun hne' => ?_) (fun ad i x j y had hx hy => ?_) fun i x j y hx hy => hv (l + i) x j y (cut_get _ _ _ _ _ hx) hy
      · obtain ⟨i, hi⟩ := List.mem_iff_getElem?.1 hx
        exact hw x (List.mem_of_getElem? (cut_get _ _ _ _ _ hi))
      · obtain ⟨n1, n2⟩ := hnel hne'
        obtain ⟨ad, rfl, g1⟩ := hne n1
        obtain ⟨ab, ao, as⟩ := ad
        simp at g1; subst g1
        exact ⟨⟨ab, ao + l * wd, none⟩, by rw [if_neg n2]; simp [Addr.add_mid], rfl⟩
      · obtain ⟨n1, n2⟩ := hnel (fun e => by rw [e] at hx; simp at hx)
        obtain ⟨ad0, rfl, g1⟩ := hne n1
        obtain ⟨ab, ao, as⟩ := ad0
        simp at g1; subst g1
        rw [if_neg n2] at had
        simp [Addr.add_mid] at had
        subst had
        have := hr _ (l + i) x j y rfl (cut_get _ _ _ _ _ hx) hy
        simp only at this ⊢
        rw [show ao + l * wd + i * wd + j = ao + (l + i) * wd + j from by rw [Nat.add_mul]; omega]
        exact this
  · rename_i e id p st len wd hu
    split at h <;> (try (cases h; done))
    rename_i hs
    obtain ⟨l, h', hd, b1, b2, hb⟩ := boundsK_sound h
    refine ⟨.pure, .slice id p (st + l) (span len l h') wd, .ofPure fun bl K => by simp only [sliceK, hu, hs, if_true]; rw [hd], by simp, fun E hE m a lo' hi' ha hl hh => ?_⟩
    cases ha with
    | slice _ _ _ _ _ a cap hid hc hsm hr =>
      obtain ⟨l1, l2⟩ := optmap_some hl
      obtain ⟨h1, h2⟩ := optmap_some hh
      have := hb C.P E lo' hi' l1 h1 l2 h2 E.w true cap hc
      refine ⟨_, run_slice_slice hu hs this, ?_⟩
      rw [span_eq]
      refine .slice _ _ _ _ _ _ _ hid (by omega) ?_ fun blk hb => ?_
      · rcases hsm with rfl | ⟨ad, rfl⟩
        · exact .inl (by omega)
        · refine .inr ?_
          split
          · exact ⟨_, rfl⟩
          · exact ⟨_, rfl⟩
      · obtain ⟨q, c, g1, g2, g3, g4⟩ := hr blk hb
        refine ⟨q, c, g1, by omega, ?_, ?_⟩
        · have : (st + l + (cap - l)) * wd ≤ (st + cap) * wd := Nat.mul_le_mul_right _ (by omega)
          omega
        · by_cases hcl : cap = l
          · exact .inl (by omega)
          · rw [if_neg hcl]
            rcases g4 with rfl | rfl
            · omega
            · refine .inr ?_
              simp [Addr.add_mid, Nat.add_mul]
              omega
  · rename_i e id wd hu
    split at h <;> (try (cases h; done))
    rename_i hs
    split at h <;> (try (cases h; done))
    all_goals
      rename_i rl hb0
      obtain ⟨l, h', hd, b1, b2, hb⟩ := boundsK_sound h
      refine ⟨.read, pieceOf id wd rl.length l h', .ofRead fun K => by simp only [sliceK, hu, hs, hb0, if_true]; rw [hd], by simp, fun E hE m a lo' hi' ha hl hh => ?_⟩
      rcases hE with rfl | hE
      · cases ha with
        | own _ _ len a cap hid hc hr =>
          obtain ⟨g1, g2, g3⟩ := hr _ hb0
          have g1' := g1
          simp [rowB] at g1
          obtain ⟨g0, rfl⟩ := g1
          obtain ⟨l1, l2⟩ := optmap_some hl
          obtain ⟨h1, h2⟩ := optmap_some hh
          have := hb C.P E lo' hi' l1 h1 l2 h2 E.w true cap hc
          refine ⟨_, run_slice_slice hu hs this, ?_⟩
          have hgen : VR E true (.slice id [] l (span rl.length l h') wd) (.slice (if cap = l then a else a.map (·.add (l * wd))) (h'.getD rl.length - l) (cap - l)) := by
            rw [span_eq]
            refine .slice _ _ _ _ _ _ _ hid (by omega) ?_ fun blk hb => ?_
            · rcases g3 with rfl | rfl
              · exact .inl (by omega)
              · refine .inr ?_
                split <;> exact ⟨_, rfl⟩
            · rw [hb0] at hb; cases hb
              refine ⟨0, _, g1', by omega, ?_, ?_⟩
              · have : (l + (cap - l)) * wd ≤ cap * wd := Nat.mul_le_mul_right _ (by omega)
                omega
              · by_cases hcl : cap = l
                · exact .inl (by omega)
                · rw [if_neg hcl]
                  rcases g3 with rfl | rfl
                  · omega
                  · refine .inr ?_
                    simp [Addr.add_mid]
          unfold pieceOf
          split
          · exact hgen
          · split
            · simp only [Option.getD_none, Nat.sub_zero, Nat.zero_mul]
              refine .own _ _ _ _ _ hid (by omega) fun blk hb => ?_
              rw [hb0] at hb; cases hb
              refine ⟨g1', by omega, ?_⟩
              rcases g3 with rfl | rfl
              · exact .inl rfl
              · refine .inr ?_
                split
                · rfl
                · simp [Addr.add_mid]
            · exact hgen
      · cases hE
  · rename_i n e k m' r0 hu
    split at h <;> (try (cases h; done))
    rename_i hs
    obtain ⟨l, h', hd, b1, b2, hb⟩ := boundsK_sound h
    refine ⟨.pure, .rints k (cut r0 l h'), .ofPure fun bl K => by simp only [sliceK, hu, hs, if_true]; rw [hd], by simp, fun E hE m a lo' hi' ha hl hh => ?_⟩
    simp only [Bool.and_eq_true, beq_iff_eq] at hs
    obtain ⟨rfl, hs⟩ := hs
    cases ha with
    | rptr _ _ a hf hsp vv hr hv =>
      have hln := hf.len
      subst hln
      obtain ⟨ab, ao, as⟩ := a
      simp at hsp; subst hsp
      obtain ⟨l1, l2⟩ := optmap_some hl
      obtain ⟨h1, h2⟩ := optmap_some hh
      have := hb C.P E lo' hi' l1 h1 l2 h2 E.w false r0.length (Nat.le_refl _)
      have hlen := cut_length r0 l h' b1 b2
      refine ⟨_, run_slice_array hu hs this, ?_⟩
      rw [← hlen]
      refine vr_rints_of (r := r0) (l := l) (b := ab) (off := ao) (by omega) (fun i hi => ⟨cut_getD _ _ _ _ _ hi, by omega⟩) (fun hne => ?_) fun i hi => ?_
      · have := List.length_pos_iff.2 hne
        rw [if_neg (by omega), Addr.add_mid, Nat.mul_one]
      · have hz : (flat (.ints k r0.length r0))[i]? = some (.int k r0[i]) := by simp [flat, List.getElem?_eq_getElem hi]
        obtain ⟨g1, g2⟩ := hr i _ hz
        refine ⟨g1, ?_⟩
        simp only at g2
        rw [g2, (hv i _ hz).int_inv]
        simp [List.getElem?_eq_getElem hi]
  · rename_i n e id p hu
    split at h <;> (try (cases h; done))
    rename_i v hb0
    split at h <;> (try (cases h; done))
    rename_i k m' r0 hg
    split at h <;> (try (cases h; done))
    rename_i hs
    obtain ⟨l, h', hd, b1, b2, hb⟩ := boundsK_sound h
    refine ⟨.read, .slice id p l (span n l h') 1, .ofRead fun K => by simp only [sliceK, hu, hb0, hg, hs, if_true]; rw [hd], by simp, fun E hE m a lo' hi' ha hl hh => ?_⟩
    rcases hE with rfl | hE
    · simp only [Bool.and_eq_true, beq_iff_eq] at hs
      obtain ⟨rfl, hs⟩ := hs
      obtain ⟨q, hq, rfl⟩ := ha.loc_ptr hb0
      obtain ⟨l1, l2⟩ := optmap_some hl
      obtain ⟨h1, h2⟩ := optmap_some hh
      have := hb C.P E lo' hi' l1 h1 l2 h2 E.w false m' (Nat.le_refl _)
      refine ⟨_, run_slice_array hu hs this, ?_⟩
      rw [span_eq]
      have ok := m.ok id _ hb0
      have hoff : offPath v p = some q := hq
      obtain ⟨hfx, pre, post, hfl, hpre⟩ := getPath_spec ok.fit hg hoff
      have hlen0 := hfx.len
      have hext := ok.len
      simp only [flatB, hfl, flat, List.length_append, List.length_map] at hext
      refine .slice _ _ _ _ _ _ _ (bget_lt hb0) (by omega) (.inr ⟨_, rfl⟩) fun blk hb => ?_
      rw [hb0] at hb; cases hb
      refine ⟨q, m', by simp [rowB, hg, hoff], by omega, by omega, ?_⟩
      by_cases hcl : m' = l
      · exact .inl (by omega)
      · rw [if_neg hcl]
        exact .inr (by simp [Addr.add_mid])
    · cases hE
end
end Go.Abs
end
section
set_option linter.unusedVariables false
set_option linter.unusedSimpArgs false
namespace Go.Abs
open Go
section
variable {R : Type} {C : Ctx}
theorem noOwns_mem : ∀ {l : List AV}, noOwns l = true → ∀ y ∈ l, noOwn y = true
  | [], _, y, hy => by simp at hy
  | a :: l, hl, y, hy => by
    simp [noOwns] at hl
    rcases List.mem_cons.1 hy with rfl | hy
    · exact hl.1
    · exact noOwns_mem hl.2 y hy
mutual
theorem flat_noOwn : ∀ {x : AV}, noOwn x = true → ∀ y ∈ flat x, noOwn y = true
  | .agg kids, h, y, hy => by simp only [noOwn] at h; simp only [flat] at hy; exact flats_noOwn h y hy
  | .ints k n l, h, y, hy => by
    simp only [flat, List.mem_map] at hy
    obtain ⟨m, _, rfl⟩ := hy
    rfl
  | .any, h, y, hy | .tup _, h, y, hy | .bool _, h, y, hy | .int _ _, h, y, hy | .str _, h, y, hy | .nilp, h, y, hy | .ptr _ _, h, y, hy | .aptr _ _ _ _, h, y, hy | .rptr _, h, y, hy | .snil, h, y, hy | .slice _ _ _ _ _, h, y, hy | .own _ _, h, y, hy
  | .rints _ _, h, y, hy | .robjs _ _ _, h, y, hy | .fn _ _ _, h, y, hy | .nilf, h, y, hy | .iface _ _, h, y, hy | .nili, h, y, hy | .raw _, h, y, hy | .errv _ _ _, h, y, hy | .emap, h, y, hy => by simp [flat] at hy; subst hy; exact h
theorem flats_noOwn : ∀ {l : List AV}, noOwns l = true → ∀ y ∈ flats l, noOwn y = true
  | [], h, y, hy => by simp [flats] at hy
  | x :: r, h, y, hy => by
    simp [noOwns] at h
    simp only [flats, List.mem_append] at hy
    rcases hy with hy | hy
    · exact flat_noOwn h.1 y hy
    · exact flats_noOwn h.2 y hy
end
theorem VR.low {E : Env} {b : Bool} {x : AV} {v : Value} (h : VR E b x v) : noOwn x = true → VR E false x v := by
  induction h with
  | any => exact fun _ => .any _ _
  | bool => exact fun _ => .bool _ _
  | int => exact fun _ => .int _ _ _
  | str => exact fun _ => .str _ _
  | nilp => exact fun _ => .nilp _
  | ptr => intro h; simp [noOwn] at h
  | aptr => intro h; simp [noOwn] at h
  | rptr o x a hf hs vv h hv ih => exact fun _ => .rptr _ x a hf hs vv h hv
  | snil => exact fun _ => .snil _
  | slice => intro h; simp [noOwn] at h
  | own => intro h; simp [noOwn] at h
  | rints o k l a cap hc h => exact fun _ => .rints _ k l a cap hc h
  | robjs o e w l a cap hc hw vv ha h hv ih => exact fun _ => .robjs _ e w l a cap hc hw vv ha h hv
  | agg o kids cs hf hs h ih =>
    intro hn
    simp only [noOwn] at hn
    refine .agg _ kids cs hf hs fun j x c h1 h2 => ih j x c h1 h2 ?_
    obtain ⟨y, hy, hm⟩ := flats_mem (List.mem_of_getElem? h1)
    exact flat_noOwn (noOwns_mem hn y hy) x hm
  | ints o k n l h => exact fun _ => .ints _ k n l h
  | tup o vs cs hs h ih =>
    intro hn
    simp only [noOwn] at hn
    refine .tup _ vs cs hs fun j x c h1 h2 => ih j x c h1 h2 (noOwns_mem hn x (List.mem_of_getElem? h1))
  | fn o f xs ys as bs h1 h2 g1 g2 i1 i2 =>
    intro hn
    simp only [noOwn, Bool.and_eq_true] at hn
    exact .fn _ f xs ys as bs h1 h2 (fun j x c h1 h2 => i1 j x c h1 h2 (noOwns_mem hn.1 x (List.mem_of_getElem? h1))) (fun j x c h1 h2 => i2 j x c h1 h2 (noOwns_mem hn.2 x (List.mem_of_getElem? h1)))
  | nilf => exact fun _ => .nilf _
  | iface o t x v h ih => intro hn; simp only [noOwn] at hn; exact .iface _ t x v (ih hn)
  | nili => exact fun _ => .nili _
  | raw o v h1 h2 => exact fun _ => .raw _ _ h1 h2
  | errv o tF ts k v h => exact fun _ => .errv _ _ _ _ _ h
  | emap o r c h => exact fun _ => .emap _ _ _ h
theorem run_loadCells_of {P : Program} (w : World) (b o n : Nat) (cs : List Value) (hn : cs.length = n) (h : ∀ (j : Nat) v, cs[j]? = some v → w.cell? ⟨b, o + j, none⟩ = some v) :
    (loadCells ⟨b, o, none⟩ n).run P w = .ok cs.toArray w := by
  subst hn
  exact run_loadCells_list (P := P) w ⟨b, o, none⟩ cs fun j v hv => by rw [Addr.add_mid]; exact h j v hv
structure IntsAt (E : Env) (k : IntKind) (l : List Int) (v : Value) : Prop where
  len : ∀ (P : Program) w, (Builtin.lenOf v).run P w = .ok l.length w
  cells : ∀ (P : Program) (W : World), (∀ a, W.cell? a = E.w.cell? a) → ∀ m, m ≤ l.length → (Builtin.firstCells 1 m v).run P W = .ok ((l.take m).map (Value.int k)).toArray W
theorem intsAt_slice {E : Env} {k : IntKind} {l : List Int} {a : Option Addr} {n cap b o : Nat} (hn : n = l.length) (ha : l ≠ [] → a = some ⟨b, o, none⟩)
    (h : ∀ i, i < l.length → E.cell b (o + i) = some (.int k (l.getD i 0))) : IntsAt E k l (.slice a n cap) := by
  subst hn
  refine ⟨fun P w => rfl, fun P W hW m hm => ?_⟩
  cases a with
  | none =>
    have : l = [] := by
      by_cases e : l = []
      · exact e
      · exact absurd (ha e) (by simp)
    subst this
    simp [Builtin.firstCells]
  | some ad =>
    simp only [Builtin.firstCells, Nat.mul_one]
    rcases Nat.eq_zero_or_pos m with rfl | hp
    · simp [loadCells, loadCellsFrom]
    · have hne : l ≠ [] := fun e => by subst e; simp at hm; omega
      cases ha hne
      refine run_loadCells_of W b o m _ (by simp; omega) fun j v hv => ?_
      rw [hW]
      simp only [List.getElem?_map, List.getElem?_take] at hv
      split at hv
      · rename_i hj
        have hjl : j < l.length := by omega
        simp [List.getElem?_eq_getElem hjl] at hv
        subst hv
        have := h j hjl
        simp [List.getElem?_eq_getElem hjl] at this
        exact this
      · simp at hv
theorem ints_take_get (l : List Int) (s n i : Nat) (hi : i < ((l.drop s).take n).length) : ((l.drop s).take n).getD i 0 = l.getD (s + i) 0 ∧ s + i < l.length := by
  simp at hi
  have h1 : s + i < l.length := by omega
  have hin : i < n := by omega
  refine ⟨?_, h1⟩
  simp [List.getD_eq_getElem?_getD, List.getElem?_take, List.getElem?_drop, if_pos hin]
theorem elsOf_ints {bl : Blks} {x : AV} {k : IntKind} {l : List Int} (h : elsOf bl x = some (.ints k l)) {E : Env} (hE : E.bl = bl ∨ noOwn x = true) (m : Mem E) {v : Value} (hv : VR E true x v) : IntsAt E k l v := by
  unfold elsOf at h
  split at h
  · rename_i s
    cases h
    cases hv
    refine ⟨fun P w => by simp [Builtin.lenOf, bytesOf], fun P W hW n hn => ?_⟩
    have hm : n ≤ s.size := by simpa [bytesOf] using hn
    have he : (s.extract 0 n).data = s.data.extract 0 n := by simp
    simp only [Builtin.firstCells, he, Sem.run_pure]
    congr 1
    apply Array.ext'
    simp [bytesOf]
    rfl
  · cases h
    cases hv with
    | rints _ _ _ a cap hc hh =>
      by_cases hl : l = []
      · subst hl
        exact intsAt_slice (b := 0) (o := 0) rfl (fun h => absurd rfl h) fun i hi => by simp at hi
      · obtain ⟨ad, rfl, g1, _⟩ := hh 0 (List.length_pos_iff.2 hl)
        obtain ⟨ab, ao, as⟩ := ad
        simp at g1; subst g1
        refine intsAt_slice (b := ab) (o := ao) rfl (fun _ => rfl) fun i hi => ?_
        obtain ⟨ad, e, _, _, g⟩ := hh i hi
        cases e
        exact g
  · cases h
  · rename_i id w
    rcases hE with rfl | hE
    · split at h
      · rename_i k' l' hb
        cases h
        cases hv with
        | own _ _ len a cap hid hc hh =>
          obtain ⟨g1, g2, g3⟩ := hh _ hb
          simp [rowB] at g1
          obtain ⟨_, rfl⟩ := g1
          have ok := m.ok id _ hb
          refine intsAt_slice (b := (E.loc id).1) (o := (E.loc id).2.1) rfl (fun hne => ?_) fun i hi => ?_
          · rcases g3 with rfl | rfl
            · have := List.length_pos_iff.2 hne; omega
            · rfl
          · obtain ⟨v, h1, h2⟩ := ok.cells i (.int k (l.getD i 0)) (by simp [flatB, List.getElem?_eq_getElem hi])
            rw [h1, h2.int_inv]
      · cases h
      · cases h
    · simp [noOwn] at hE
  · rename_i id path s n w
    rcases hE with rfl | hE
    · split at h
      · rename_i _ _ k' l' hb
        cases h
        cases hv with
        | slice _ _ _ _ _ a cap hid hc hsm hh =>
          obtain ⟨q, c, g1, g2, g3, g4⟩ := hh _ hb
          simp [rowB] at g1
          obtain ⟨rfl, rfl, rfl⟩ := g1
          have ok := m.ok id _ hb
          refine intsAt_slice (b := (E.loc id).1) (o := (E.loc id).2.1 + s) (by simp; omega) (fun hne => ?_) fun i hi => ?_
          · rcases g4 with rfl | rfl
            · have := List.length_pos_iff.2 hne; simp at this; omega
            · simp
          · obtain ⟨e1, e2⟩ := ints_take_get l' s n i hi
            obtain ⟨v, h1, h2⟩ := ok.cells (s + i) (.int k (l'.getD (s + i) 0)) (by simp [flatB, List.getElem?_eq_getElem e2])
            rw [Nat.add_assoc, h1, h2.int_inv, e1]
      · cases h
      · rename_i path _ _ v0 hb
        split at h
        · rename_i k' n' l' hg
          cases h
          cases hv with
          | slice _ _ _ _ _ a cap hid hc hsm hh =>
            obtain ⟨q, c, g1, g2, g3, g4⟩ := hh _ hb
            obtain ⟨ho, rfl, rfl⟩ := rowB_var hg g1
            have ok := m.ok id _ hb
            obtain ⟨f1, f2⟩ := getB_spec (blk := .var v0) ok.fit hg ho
            have hln := f1.len
            refine intsAt_slice (b := (E.loc id).1) (o := (E.loc id).2.1 + q + s) (by simp; omega) (fun hne => ?_) fun i hi => ?_
            · rcases g4 with rfl | rfl
              · have := List.length_pos_iff.2 hne; simp at this; omega
              · simp
            · obtain ⟨e1, e2⟩ := ints_take_get l' s n i hi
              obtain ⟨v, h1, h2⟩ := ok.cells (q + (s + i)) (.int k (l'.getD (s + i) 0)) (f2 (s + i) _ (by simp [flat, List.getElem?_eq_getElem e2]))
              rw [Nat.add_assoc, Nat.add_assoc, h1, h2.int_inv, e1]
        · cases h
      · cases h
    · simp [noOwn] at hE
  · cases h
end
end Go.Abs
end
