/- An executor of the model's code over abstract values, and that it is right: what it tells of a run is what the run does. No condition. -/
import Derived.Test.YtkknbhapkdgcjaaGreatDoorAbsC4
import Derived.Laws.Entries
section
set_option linter.unusedVariables false
set_option linter.unusedSimpArgs false
namespace Go.Abs
open Go
section
variable {R : Type} {C : Ctx}
theorem Sim.vr {x y : AV} (h : Sim x y) {E : Env} {o : Bool} {v : Value} (hv : VR E o x v) : VR E o y v := by
 have hs := h.same
 cases h with
 | refl => exact hv
 | nilr k => exact zDf hv
 | nilo e w => exact zDe hv
 | agg xs ys hl h =>
  obtain ⟨cs, rfl, hf, hsz, hc⟩ := hv.agg_inv
  have hlen : (zG ys).length = (zG xs).length := by have := hs.len; simpa only [zH] using this
  refine .agg _ ys cs (hs.fit hf) (by rw [hsz, hlen]) fun j z' c hz' hcj => ?_
  have hj := (List.getElem?_eq_some_iff.1 hz').1
  have hz : (zG xs)[j]? = some ((zG xs)[j]'(by omega)) := List.getElem?_eq_getElem (by omega)
  exact hs.vr j _ z' (by simpa only [zH] using hz) (by simpa only [zH] using hz') E o c (hc j _ c hz hcj)
mutual
theorem zDA : ∀ (x y : AV) (b : Bool), qT x y = some b → width x = width y
 | .agg a, y, b, h => by
  cases y <;> simp only [qT] at h <;> (try (cases h; done))
  simp only [width]; exact zAY _ _ _ h
 | .ints k n l, y, b, h => by
  cases y <;> simp only [qT] at h <;> (try (cases h; done))
  split at h <;> (try (cases h; done))
  split at h <;> (try (cases h; done))
  rename_i e; simp only [width, e]
 | .bool _, y, b, h => by cases y <;> simp [qT] at h <;> rfl
 | .int _ _, y, b, h => by cases y <;> simp [qT] at h <;> rfl
 | .str _, y, b, h => by cases y <;> simp [qT] at h <;> rfl
 | .any, y, b, h | .tup _, y, b, h | .nilp, y, b, h | .ptr _ _, y, b, h | .aptr _ _ _ _, y, b, h | .rptr _, y, b, h | .snil, y, b, h | .slice _ _ _ _ _, y, b, h | .own _ _, y, b, h
 | .rints _ _, y, b, h | .robjs _ _ _, y, b, h | .fn _ _ _, y, b, h | .nilf, y, b, h | .iface _ _, y, b, h | .nili, y, b, h | .raw _, y, b, h | .errv _ _ _, y, b, h | .rmap _, y, b, h => by simp [qT] at h
theorem zAY : ∀ (x y : List AV) (b : Bool), k9 x y = some b → zX x = zX y
 | [], y, b, h => by cases y <;> simp [k9] at h; rfl
 | x :: a, y, b, h => by
  cases y with
  | nil => simp [k9] at h
  | cons y r =>
   obtain ⟨p, q, h1, h2, _⟩ := jZ h
   simp only [zX]; rw [zDA x y p h1, zAY a r q h2]
end
theorem zEm : ∀ {x y : List AV} {b : Bool}, k9 x y = some b → x.length = y.length
 | [], y, b, h => by cases y <;> simp [k9] at h; rfl
 | x :: a, y, b, h => by
  cases y with
  | nil => simp [k9] at h
  | cons y r =>
   obtain ⟨p, q, h1, h2, _⟩ := jZ h
   simp only [List.length_cons]; rw [zEm h2]
theorem zHw {P : Program} {f : Nat} (ih : ∀ t x y b, qT x y = some b → yJ P f t x = true → yJ P f t y = true) : ∀ (fs : List Field) (x y : List AV) (off : Nat) (b : Bool),
  k9 x y = some b → kN P (yJ P f) fs x off = true → kN P (yJ P f) fs y off = true
 | [], [], y, off, b, h, hx => by cases y <;> simp [k9] at h; exact hx
 | [], x :: a, y, off, b, h, hx => by simp [kN] at hx
 | g :: fs, [], y, off, b, h, hx => by simp [kN] at hx
 | g :: fs, x :: a, y, off, b, h, hx => by
  cases y with
  | nil => simp [k9] at h
  | cons y r =>
   obtain ⟨p, q, h1, h2, _⟩ := jZ h
   simp only [kN, Bool.and_eq_true] at hx ⊢
   obtain ⟨⟨⟨a1, a2⟩, a3⟩, a4⟩ := hx
   rw [← zDA x y p h1]
   exact ⟨⟨⟨a1, a2⟩, ih _ _ _ _ h1 a3⟩, zHw ih fs a r _ q h2 a4⟩
theorem zNb {P : Program} {f e n : Nat} (ih : ∀ t x y b, qT x y = some b → yJ P f t x = true → yJ P f t y = true) : ∀ (x y : List AV) (b : Bool),
  k9 x y = some b → x.all (fun y => yJ P f e y && width y == n) = true → y.all (fun y => yJ P f e y && width y == n) = true
 | [], y, b, h, hx => by cases y <;> simp [k9] at h; rfl
 | x :: a, y, b, h, hx => by
  cases y with
  | nil => simp [k9] at h
  | cons y r =>
   obtain ⟨p, q, h1, h2, _⟩ := jZ h
   simp only [List.all_cons, Bool.and_eq_true] at hx ⊢
   rw [← zDA x y p h1]
   exact ⟨⟨ih _ _ _ _ h1 hx.1.1, hx.1.2⟩, zNb ih a r q h2 hx.2⟩
theorem zIl {P : Program} : ∀ (f : Nat) (t : TypeId) (x y : AV) (b : Bool), qT x y = some b → yJ P f t x = true → yJ P f t y = true
 | 0, t, x, y, b, h, hx => by simp [yJ] at hx
 | f + 1, t, x, y, b, h, hx => by
  cases x <;> cases y <;> simp only [qT] at h <;> (try (cases h; done))
  ·unfold yJ at hx ⊢
   cases hu : P.underlying t with
   | none => rw [hu] at hx; cases hx
   | some d => rw [hu] at hx; cases d <;> first | exact hx | cases hx
  ·split at h <;> (try (cases h; done))
   rename_i hk; subst hk
   unfold yJ at hx ⊢
   cases hu : P.underlying t with
   | none => rw [hu] at hx; cases hx
   | some d => rw [hu] at hx; cases d <;> first | exact hx | cases hx
  ·unfold yJ at hx ⊢
   cases hu : P.underlying t with
   | none => rw [hu] at hx; cases hx
   | some d => rw [hu] at hx; cases d <;> first | exact hx | cases hx
  ·rename_i a c
   unfold yJ at hx ⊢
   cases hu : P.underlying t with
   | none => rw [hu] at hx; cases hx
   | some d =>
    rw [hu] at hx
    cases d <;> try (cases hx; done)
    ·simp only [Bool.and_eq_true] at hx ⊢
     rw [← zEm h, ← zAY _ _ _ h]
     exact ⟨⟨hx.1.1, zNb (zIl f) _ _ _ h hx.1.2⟩, hx.2⟩
    ·simp only [Bool.and_eq_true] at hx ⊢
     rw [← zAY _ _ _ h]
     exact ⟨zHw (zIl f) _ _ _ _ _ h hx.1, hx.2⟩
  ·split at h <;> (try (cases h; done))
   rename_i hk; subst hk
   split at h <;> (try (cases h; done))
   rename_i hn; subst hn
   unfold yJ at hx ⊢
   cases hu : P.underlying t with
   | none => rw [hu] at hx; cases hx
   | some d => rw [hu] at hx; cases d <;> first | exact hx | cases hx
mutual
theorem zHq : ∀ (x y : AV), j4 x = true → qT x y = some true → x = y
 | .agg a, y, hk, h => by
  cases y <;> simp only [qT] at h <;> (try (cases h; done))
  rw [zGt _ _ (by simpa [j4] using hk) h]
 | .ints k n l, y, hk, h => by
  cases y <;> simp only [qT] at h <;> (try (cases h; done))
  split at h <;> (try (cases h; done))
  split at h <;> (try (cases h; done))
  rename_i e1 e2; subst e1; subst e2
  simp at h; subst h; rfl
 | .int k n, y, hk, h => by
  cases y <;> simp only [qT] at h <;> (try (cases h; done))
  split at h <;> (try (cases h; done))
  rename_i e1; subst e1
  simp at h; subst h; rfl
 | .bool _, y, hk, h | .str _, y, hk, h | .any, y, hk, h | .tup _, y, hk, h | .nilp, y, hk, h | .ptr _ _, y, hk, h | .aptr _ _ _ _, y, hk, h | .rptr _, y, hk, h | .snil, y, hk, h | .slice _ _ _ _ _, y, hk, h | .own _ _, y, hk, h
 | .rints _ _, y, hk, h | .robjs _ _ _, y, hk, h | .fn _ _ _, y, hk, h | .nilf, y, hk, h | .iface _ _, y, hk, h | .nili, y, hk, h | .raw _, y, hk, h | .errv _ _ _, y, hk, h | .rmap _, y, hk, h => by simp [j4] at hk
theorem zGt : ∀ (x y : List AV), zCy x = true → k9 x y = some true → x = y
 | [], y, hk, h => by cases y <;> simp [k9] at h; rfl
 | x :: a, y, hk, h => by
  cases y with
  | nil => simp [k9] at h
  | cons y r =>
   obtain ⟨p, q, h1, h2, h3⟩ := jZ h
   simp only [zCy, Bool.and_eq_true] at hk
   have hp : p = true := by cases p with | true => rfl | false => cases h3
   subst hp
   have hq : q = true := by cases q with | true => rfl | false => cases h3
   subst hq
   rw [zHq x y hk.1 h1, zGt a r hk.2 h2]
end
mutual
theorem zEg : ∀ (x : AV), j4 x = true → zR x = true ∧ solid x = true ∧ ∀ z ∈ zH x, ∃ k n, z = .int k n
 | .agg a, hk => by
  have := zHg a (by simpa [j4] using hk)
  exact ⟨by simpa [zR] using this.1, by simpa [solid] using this.2.1, by simpa [zH] using this.2.2⟩
 | .ints k n l, hk => ⟨rfl, rfl, fun z hz => by simp only [zH, List.mem_map] at hz; obtain ⟨m, _, rfl⟩ := hz; exact ⟨_, _, rfl⟩⟩
 | .int k n, hk => ⟨rfl, rfl, fun z hz => by simp only [zH, List.mem_singleton] at hz; exact ⟨_, _, hz⟩⟩
 | .bool _, hk | .str _, hk | .any, hk | .tup _, hk | .nilp, hk | .ptr _ _, hk | .aptr _ _ _ _, hk | .rptr _, hk | .snil, hk | .slice _ _ _ _ _, hk | .own _ _, hk
 | .rints _ _, hk | .robjs _ _ _, hk | .fn _ _ _, hk | .nilf, hk | .iface _ _, hk | .nili, hk | .raw _, hk | .errv _ _ _, hk | .rmap _, hk => by simp [j4] at hk
theorem zHg : ∀ (x : List AV), zCy x = true → kA x = true ∧ zBI x = true ∧ ∀ z ∈ zG x, ∃ k n, z = .int k n
 | [], hk => ⟨rfl, rfl, fun z hz => by simp [zG] at hz⟩
 | x :: a, hk => by
  simp only [zCy, Bool.and_eq_true] at hk
  obtain ⟨a1, a2, a3⟩ := zEg x hk.1
  obtain ⟨b1, b2, b3⟩ := zHg a hk.2
  refine ⟨by simp [kA, a1, b1], by simp [zBI, a2, b2], fun z hz => ?_⟩
  simp only [zG, List.mem_append] at hz
  rcases hz with hz | hz
  ·exact a3 z hz
  ·exact b3 z hz
end
theorem VR.int_val {E : Env} {o : Bool} {k : IntKind} {n : Int} {v : Value} (h : VR E o (.int k n) v) : v = .int k n := by cases h; rfl
theorem zNv {x : AV} (hk : j4 x = true) {E : Env} {o o' : Bool} {v w : Value} (hv : VR E o x v) (hw : VR E o' x w) : v = w := by
 cases x <;> try (simp [j4] at hk; done)
 ·rw [hv.int_val, hw.int_val]
 ·rename_i kids
  obtain ⟨cs, rfl, _, s1, h1⟩ := hv.agg_inv
  obtain ⟨ds, rfl, _, s2, h2⟩ := hw.agg_inv
  congr 1
  apply Array.ext (by rw [s1, s2])
  intro j hj1 hj2
  have hz : (zG kids)[j]? = some ((zG kids)[j]'(by omega)) := List.getElem?_eq_getElem (by omega)
  obtain ⟨k, n, e⟩ := (zEg _ hk).2.2 _ (List.mem_of_getElem? (by simpa only [zH] using hz))
  have g1 := h1 j _ _ hz (Array.getElem?_eq_getElem hj1)
  have g2 := h2 j _ _ hz (Array.getElem?_eq_getElem hj2)
  rw [e] at g1 g2
  rw [g1.int_val, g2.int_val]
 ·cases hv; cases hw; rfl
theorem zDO (n : Nat) (k : IntKind) (m : Int) : Instr.sameBits n (.int k m) (.int k m) = true := by cases n <;> simp [Instr.sameBits]
theorem zHO {x : AV} (hk : j4 x = true) {E : Env} {o : Bool} {v : Value} (hv : VR E o x v) : Instr.sameBits 10000 v v = true := by
 have agg : ∀ cs : Array Value, (∀ c ∈ cs.toList, ∃ k n, c = .int k n) → Instr.sameBits 10000 (.agg cs) (.agg cs) = true := fun cs h => by
  simp only [Instr.sameBits, beq_self_eq_true, Bool.true_and, List.all_eq_true]
  rintro ⟨a, b⟩ hab
  have e : a = b := by
   obtain ⟨i, hi⟩ := List.getElem?_of_mem hab
   rw [List.getElem?_zip_eq_some] at hi
   exact Option.some.inj (hi.1.symm.trans hi.2)
  subst e
  obtain ⟨k, n, rfl⟩ := h a (List.of_mem_zip hab).1
  exact zDO _ _ _
 cases x <;> try (simp [j4] at hk; done)
 ·rw [hv.int_val]; exact zDO _ _ _
 ·rename_i kids
  obtain ⟨cs, rfl, _, s1, h1⟩ := hv.agg_inv
  refine agg cs fun c hc => ?_
  obtain ⟨j, hj⟩ := List.getElem?_of_mem hc
  have hjl := (List.getElem?_eq_some_iff.1 hj).1
  have hz : (zG kids)[j]? = some ((zG kids)[j]'(by simp at hjl; omega)) := List.getElem?_eq_getElem (by simp at hjl; omega)
  obtain ⟨k, n, e⟩ := (zEg _ hk).2.2 _ (List.mem_of_getElem? (by simpa only [zH] using hz))
  have g1 := h1 j _ _ hz (by simpa using hj)
  rw [e] at g1
  exact ⟨k, n, g1.int_val⟩
 ·cases hv
  refine agg _ fun c hc => ?_
  simp at hc
  obtain ⟨m, _, rfl⟩ := hc
  exact ⟨_, _, rfl⟩
theorem zLa {P : Program} {w : World} {v : Value} (h : Instr.sameBits 10000 v v = true) : (Instr.keyThatStays v v).run P w = .ok v w := by
 simp [Instr.keyThatStays, h]
theorem zDu : ∀ {l : List AV}, zCy l = true → ∀ x ∈ l, j4 x = true
 | y :: r, h, x, hx => by
  simp only [zCy, Bool.and_eq_true] at h
  rcases List.mem_cons.1 hx with rfl | hx
  ·exact h.1
  ·exact zDu h.2 x hx
theorem zGy {E : Env} {o : Bool} {l : List AV} {cs : Array Value} (h1 : cs.size = (zG l).length) (h2 : ∀ (j : Nat) x c, (zG l)[j]? = some x → cs[j]? = some c → VR E o x c) (n : Nat) (hn : n = 0) : qY E o (zG l) cs n := fun j z hz => by
 subst hn
 have hj := (List.getElem?_eq_some_iff.1 hz).1
 have hc : cs[j]? = some (cs[j]'(by omega)) := Array.getElem?_eq_getElem (by omega)
 exact ⟨_, by rw [Nat.zero_add]; exact hc, h2 j z _ hz hc⟩
theorem zAa {P : Program} {E : Env} {o em : Bool} : ∀ (f : Nat) (d : Nat) (t : TypeId) (x : AV) (x' : Value) (w : World), zBX P f t = true → j4 x = true → yJ P f t x = true → VR E o x x' → (Instr.checkKey em (d + f) t x').run P w = .ok () w
 | 0, d, t, x, x', w, ht, _, _, _ => by simp [zBX] at ht
 | f + 1, d, t, x, x', w, ht, hk, hc, hv => by
  have ht0 := ht
  unfold zBX at ht
  rw [show d + (f + 1) = (d + f) + 1 from rfl]
  split at ht <;> (try (cases ht; done))
  ·rename_i hu
   unfold yJ at hc
   rw [hu] at hc
   cases x <;> simp at hc
   simp [j4] at hk
  ·rename_i k hu
   unfold yJ at hc
   rw [hu] at hc
   cases x <;> simp at hc
   obtain ⟨rfl, _⟩ := hc
   rw [hv.int_val]
   exact MapKept.run_checkKey hu (by simp [MapKept.IsKey]) em (d + f)
  ·rename_i hu
   unfold yJ at hc
   rw [hu] at hc
   cases x <;> simp at hc
   simp [j4] at hk
  ·rename_i n e hu
   obtain ⟨de, hue⟩ := zGs ht
   obtain ⟨ie, hie⟩ := Go.Abs.info_of_underlying hue
   have hso : (sizeOf e).run P w = .ok (zP P e) w := by simp [sizeOf, typeInfo, hie, zP]
   rcases kZ hc hu with ⟨k, l, rfl, hke, hsz⟩ | ⟨ka, f', hf', rfl, hla, hka⟩
   ·cases hv with
    | ints _ _ _ _ hl =>
     have huk := qI hke
     cases f with
     | zero => simp [zBX] at ht
     | succ f =>
     rw [Instr.checkKey]
     simp only [Sem.run_bind, run_underlying hu, Result.andThen_ok]
     simp only [Std.Legacy.Range.forIn_eq_forIn_range', Std.Legacy.Range.size, Nat.sub_zero, Nat.add_one_sub_one, Nat.div_one]
     have hall : ∀ j ∈ List.range' 0 n, j < l.length := fun j hj => by
      have := List.mem_range'_1.1 hj
      omega
     generalize List.range' 0 n = is at hall
     induction is with
     | nil => simp
     | cons j is ih =>
      have hj := hall j (by simp)
      have hp : (part e (l.map (Value.int k)).toArray (j * 1)).run P w = .ok (.int k (l.getD j 0)) w := by
       simp [part, zAy huk, TypeDesc.isRow, List.getElem?_eq_getElem hj, Nat.mul_one]
      have hq : (Instr.checkKey em (d + (f + 1)) e (.int k (l.getD j 0))).run P w = .ok () w := MapKept.run_checkKey huk (by simp [MapKept.IsKey]) em (d + f)
      simp only [List.forIn_cons, Sem.run_bind, hso, hsz, Result.andThen_ok, hp, hq, Sem.run_pure]
      exact ih fun y hy => hall y (by simp [hy])
   ·cases hf'
    obtain ⟨xs, rfl, fa, sa, ca⟩ := hv.agg_inv
    have hks := zDu (by simpa [j4] using hk)
    have key : ∀ (a : List AV) (i : Nat), (∀ x ∈ a, j4 x = true ∧ (yJ P f e x = true ∧ width x = zP P e) ∧ Fit x) → qY E o (zG a) xs (i * zP P e) →
      (forIn (List.range' i a.length) PUnit.unit fun i _ => do
       Instr.checkKey em (d + f) e (← part e xs (i * (← sizeOf e)))
       pure (ForInStep.yield PUnit.unit)).run P w = .ok PUnit.unit w := by
     intro a
     induction a with
     | nil => intro i _ _; simp
     | cons x a ih =>
      intro i ha ca
      obtain ⟨a0, ⟨a1, a2⟩, a3⟩ := ha x (by simp)
      simp only [zG] at ca
      obtain ⟨vx, hx⟩ := jF (P := P) (E := E) (o := o) (cs := xs) (off := i * zP P e) a1 a3 ca.left
      have cra := ca.right
      rw [a3.length, a2, ← Nat.succ_mul] at cra
      have h1 := zAa (em := em) f d e x vx w ht a0 a1 (hx w).2
      simp only [List.length_cons, List.range'_succ, List.forIn_cons, Sem.run_bind, hso, Result.andThen_ok, (hx w).1, h1, Sem.run_pure]
      exact ih (i + 1) (fun z hz => ha z (by simp [hz])) cra
    rw [Instr.checkKey]
    simp only [Sem.run_bind, run_underlying hu, Result.andThen_ok]
    simp only [Std.Legacy.Range.forIn_eq_forIn_range', Std.Legacy.Range.size, Nat.sub_zero, Nat.add_one_sub_one, Nat.div_one]
    rw [← hla]
    rw [key ka 0 (fun z hz => ⟨hks z hz, hka z hz, fa.kid hz⟩) (zGy sa ca _ (Nat.zero_mul _))]
    rfl
  ·rename_i fs hu
   obtain ⟨f1, ka, hf1, rfl, hcs⟩ := qE hc hu
   clear hcs
   cases hf1
   unfold yJ at hc
   rw [hu] at hc
   simp only [Bool.and_eq_true, Bool.not_eq_true', List.all_eq_true, bne_iff_ne, ne_eq] at hc ht
   obtain ⟨xs, rfl, fa, sa, ca⟩ := hv.agg_inv
   have hks := zDu (by simpa [j4] using hk)
   rw [Instr.checkKey]
   simp only [Sem.run_bind, run_underlying hu, Result.andThen_ok]
   rw [← Array.forIn_toList]
   have hca := zGy sa ca 0 rfl
   have hconf := hc.1
   have hfa : ∀ x ∈ ka, Fit x := fun z hz => fa.kid hz
   have hg : ∀ g ∈ fs.toList, g.name ≠ "_" ∧ zBX P f g.type = true := fun g hg => ht.2 g hg
   clear hc ht ht0 hu hv fa sa ca hk
   generalize fs.toList = L at hg hconf
   generalize 0 = off at hca hconf
   induction L generalizing ka off with
   | nil => simp
   | cons g L ih =>
    cases ka with
    | nil => simp [kN] at hconf
    | cons y ka =>
     simp [kN] at hconf
     obtain ⟨⟨⟨a1, a2⟩, a3⟩, a4⟩ := hconf
     simp only [zG] at hca
     obtain ⟨vx, hx⟩ := jF (P := P) (E := E) (o := o) (cs := xs) (off := off) a3 (hfa y (by simp)) hca.left
     have cra := hca.right
     rw [(hfa y (by simp)).length] at cra
     obtain ⟨hn, hty⟩ := hg g (by simp)
     have h1 := zAa (em := em) f d g.type y vx w hty (hks y (by simp)) a3 (hx w).2
     simp only [List.forIn_cons, Sem.run_bind, hn, ne_eq, not_false_eq_true, if_true, Result.andThen_ok, a1, (hx w).1, h1, Sem.run_pure]
     exact ih ka (fun z hz => hks z (by simp [hz])) (fun z hz => hfa z (by simp [hz])) (fun z hz => hg z (by simp [hz])) (off + width y) cra a4
theorem zFn {k x : AV} {r : List AV} {q : Option Nat} (h : qH k (x :: r) = some q) : ∃ k' v b, x = .agg [k', v] ∧ qT k k' = some b ∧ ((b = true ∧ q = some 0) ∨ (b = false ∧ ∃ q', qH k r = some q' ∧ q = q'.map (· + 1))) := by
 unfold qH at h
 split at h <;> (try (cases h; done))
 rename_i k' v
 split at h <;> (try (cases h; done))
 ·rename_i he
  cases h
  exact ⟨k', v, true, rfl, he, .inl ⟨rfl, rfl⟩⟩
 ·rename_i he
  refine ⟨k', v, false, rfl, he, .inr ⟨rfl, ?_⟩⟩
  split at h <;> (try (cases h; done))
  ·rename_i i hi; cases h; exact ⟨some i, hi, rfl⟩
  ·rename_i hi; cases h; exact ⟨none, hi, rfl⟩
theorem zDa {k : AV} : ∀ {l : List AV} {i : Nat}, qH k l = some (some i) → ∃ k' v, l[i]? = some (.agg [k', v]) ∧ qT k k' = some true
 | [], i, h => by simp [qH] at h
 | x :: r, i, h => by
  obtain ⟨k', v, b, rfl, he, h2⟩ := zFn h
  rcases h2 with ⟨rfl, hq⟩ | ⟨rfl, q', hq', hq⟩
  ·cases hq; exact ⟨k', v, rfl, he⟩
  ·cases q' with
   | none => cases hq
   | some i' =>
    simp at hq; subst hq
    obtain ⟨k2, v2, h3, h4⟩ := zDa hq'
    exact ⟨k2, v2, by simpa using h3, h4⟩
theorem zDn {P : Program} {E : Env} {kt : TypeId} {k : AV} {k' : Value} (ht : zBX P 8 kt = true) (hc : yJ P 8 kt k = true) (hk : VR E true k k') (w : World) :
  ∀ (l : List AV) (es : List MapEntry) (i0 : Nat) (q : Option Nat), es.length = l.length → (∀ (j : Nat) e kk v, es[j]? = some e → l[j]? = some (.agg [kk, v]) → VR E true kk e.key) → qH k l = some q →
   (Instr.findAsking kt k' es i0).run P w = .ok (q.map fun i => (i0 + i, (es.getD i default).val)) w
 | [], es, i0, q, hl, _, hq => by
  cases es with
  | nil => simp [qH] at hq; subst hq; simp [Instr.findAsking]
  | cons => simp at hl
 | x :: r, [], i0, q, hl, _, _ => by simp at hl
 | x :: r, e :: es, i0, q, hl, hv, hq => by
  obtain ⟨kk, v, b, rfl, he, h2⟩ := zFn hq
  have hkk := hv 0 e kk v rfl rfl
  have heq : (Op.equal kt k' e.key).run P w = .ok b w := zEk (P := P) (E := E) (o := true) 8 kt ht k kk b k' e.key hc (zIl 8 kt k kk b he hc) he hk hkk 9992 w
  rcases h2 with ⟨rfl, rfl⟩ | ⟨rfl, q', hq', rfl⟩
  ·simp [Instr.findAsking, heq]
  ·have ih := zDn ht hc hk w r es (i0 + 1) q' (by simpa using hl) (fun j e kk v h1 h2 => hv (j + 1) e kk v (by simpa using h1) (by simpa using h2)) hq'
   simp only [Instr.findAsking, Sem.run_bind, heq, Result.andThen_ok, Bool.false_eq_true, if_false, ih]
   cases q' with
   | none => rfl
   | some i => simp [Nat.add_assoc, Nat.add_comm 1 i]
theorem zLb {P : Program} {kt : TypeId} (h : zIN P kt = true) : ∃ d, P.underlying kt = some d ∧ ∀ a b, Instr.sameNow d a b = none := by
 unfold zIN at h
 split at h
 ·exact ⟨_, ‹_›, fun a b => by simp [Instr.sameNow]⟩
 ·exact ⟨_, ‹_›, fun a b => by simp [Instr.sameNow]⟩
 ·cases h
theorem zAN {P : Program} {E : Env} {kt : TypeId} {k : AV} {k' : Value} (hr : zIN P kt = true) (ht : zBX P 8 kt = true) (hc : yJ P 8 kt k = true) (hk : VR E true k k') (w : World)
  {l : List AV} {es : Array MapEntry} {q : Option Nat} (hl : es.size = l.length) (hv : ∀ (j : Nat) e kk v, es[j]? = some e → l[j]? = some (.agg [kk, v]) → VR E false kk e.key) (hq : qH k l = some q) :
  (Instr.findKey kt k' es.toList).run P w = .ok (q.map fun i => (i, (es.toList.getD i default).val)) w := by
 obtain ⟨d, hu, hs⟩ := zLb hr
 have ask := zDn ht hc hk w l es.toList 0 q (by simpa using hl) (fun j e kk v h1 h2 => (hv j e kk v (by simpa using h1) h2).lift) hq
 simp only [Nat.zero_add] at ask
 have hnow : Instr.findNow d k' es.toList 0 = match es.toList with | [] => some none | _ => none := by
  cases es.toList with
  | nil => rfl
  | cons e r => simp [Instr.findNow, hs]
 simp only [Instr.findKey, Sem.run_bind, run_underlying hu, Result.andThen_ok]
 rw [hnow]
 cases hes : es.toList with
 | nil =>
  have : l = [] := by
   have : es.size = 0 := by have := congrArg List.length hes; simpa using this
   exact List.length_eq_zero_iff.1 (by omega)
  subst this
  simp [qH] at hq
  subst hq
  simp
 | cons e r => rw [hes] at ask; exact ask
theorem zOn {k v : AV} (h1 : Fit k) (h2 : zR k = true) (h3 : solid k = true) (h4 : Fit v) (h5 : zR v = true) (h6 : solid v = true) : Ent (.agg [k, v]) :=
 ⟨k, v, rfl, .agg _ fun x hx => by simp at hx; rcases hx with rfl | rfl; exact h1; exact h4, by simp [zR, kA, h2, h5], by simp [solid, zBI, h3, h6]⟩
theorem zLv {bl : zC} {m : AV} {c : Cat} {l : List AV} (h : zBh bl m = some (c, l)) {E : Env} (hE : E.bl = bl ∨ c = .pure) (mm : Mem E) {m' : Value} (hv : VR E true m m') :
  ∃ rr es cl, m' = .map (some rr) ∧ E.w.heap[rr]? = some (.map es cl) ∧ es.size = l.length ∧ (∀ x ∈ l, Ent x) ∧
   ∀ (j : Nat) e k v, es[j]? = some e → l[j]? = some (.agg [k, v]) → VR E false k e.key ∧ VR E false v e.val := by
 unfold zBh at h
 split at h <;> (try (cases h; done))
 ·cases h
  cases hv with
  | rmap _ _ r es cl hr hh hs hst hl hk hvv => exact ⟨r, es, cl, rfl, hh, hs, hl, fun j e k v h1 h2 => ⟨hk j e k v h1 h2, hvv j e k v h1 h2⟩⟩
 ·split at h <;> (try (cases h; done))
  rename_i l' hb
  cases h
  rcases hE with rfl | hE
  ·cases hv with
   | own _ _ len a cap hid hc hh => have g := (hh _ hb).1; simp [zZ] at g
   | mown _ r hid hh =>
    obtain ⟨_, rfl⟩ := hh _ hb
    obtain ⟨_, es, cl, h1, h2, h3, h4⟩ := (mm.ok _ _ hb).mp _ rfl
    exact ⟨_, es, cl, rfl, h1, h2, (mm.ok _ _ hb).fit, h4⟩
  ·cases hE
theorem zGu {bl : zC} {m : AV} {c : Cat} {l : List AV} (h : zBh bl m = some (c, l)) : (c = .pure ∧ ∀ bl2, zBh bl2 m = some (.pure, l)) ∨ c = .read := by
 unfold zBh at h
 split at h <;> (try (cases h; done))
 ·cases h; exact .inl ⟨rfl, fun _ => rfl⟩
 ·split at h <;> (try (cases h; done))
  cases h; exact .inr rfl
theorem zEQ {kt : TypeId} {k : AV} (h : zJe C kt k = true) : zIN C.P kt = true ∧ zBX C.P 8 kt = true ∧ yJ C.P 8 kt k = true ∧ j4 k = true := by
 simp only [zJe, Bool.and_eq_true] at h
 exact ⟨h.1.1.1, h.1.1.2, h.1.2, h.2⟩
theorem zJb {t : TypeId} {m k : AV} {ok : Bool} {bl : zC} {K : z9 R} {r : R} (h : zEe C t m k ok bl K = some r) :
  ∃ cat v, KS (R := R) (zEe C t m k ok) bl cat v bl ∧ cat ≠ .write ∧ ∀ E, (E.bl = bl ∨ cat = .pure) → Mem E → ∀ m' k', VR E true m m' → VR E true k k' → ∃ v', (Instr.lookup t m' k' ok).run C.P E.w = .ok v' E.w ∧ VR E true v v' := by
 unfold zEe at h
 split at h <;> (try (cases h; done))
 rename_i kt et c l hu hl
 split at h <;> (try (cases h; done))
 rename_i hk
 split at h <;> (try (cases h; done))
 rename_i z hz
 obtain ⟨p, hp, h⟩ := qA h
 obtain ⟨y, hd, hsim⟩ := zAP h
 have hF : ∀ bl2, zBh bl2 m = some (c, l) → ∀ K2 : z9 R, zEe C t m k ok bl2 K2 = K2 c (if ok = true then .tup [y, .bool p.2] else y) bl2 := fun bl2 h2 K2 => by
  simp only [zEe, hu, h2, hk, if_true, hz, hp]
  exact (hd fun y => if ok = true then K2 c (.tup [y, .bool p.2]) bl2 else K2 c y bl2).trans (by cases ok <;> rfl)
 refine ⟨c, if ok = true then .tup [y, .bool p.2] else y, ?_, ?_, fun E hE mm m' k' hm hkv => ?_⟩
 ·rcases zGu hl with ⟨rfl, h2⟩ | rfl
  ·exact .ofPure fun bl2 K2 => hF bl2 (h2 bl2) K2
  ·exact .ofRead fun K2 => hF bl hl K2
 ·rcases zGu hl with ⟨rfl, _⟩ | rfl <;> simp
 ·obtain ⟨rr, es, cl, rfl, hh, hs, hen, hvv⟩ := zLv hl hE mm hm
  obtain ⟨k1, k2, k3, k4⟩ := zEQ hk
  obtain ⟨i, v, h1, h2, h3, h4, h5, h6, h7⟩ := yZ hz
  have hck : ∀ em, (Instr.checkKey em 10000 kt k').run C.P E.w = .ok () E.w := fun em => zAa (em := em) 8 9992 kt k k' E.w k2 k4 k3 hkv
  have hg : (getObj rr).run C.P E.w = .ok (.map es cl) E.w := MapKept.run_getObj_map hh
  have done : ∀ (q : Option Nat) (v0 : Value) (b0 : Bool), qH k l = some q → (match q with | some i => v0 = (es.toList.getD i default).val ∧ b0 = true | none => v0 = v ∧ b0 = false) →
    (Instr.lookup t (.map (some rr)) k' ok).run C.P E.w = .ok (if ok = true then .tuple #[v0, .bool b0] else v0) E.w := fun q v0 b0 hq hv0 => by
   have hf := zAN k1 k2 k3 hkv E.w hs (fun j e kk v h1 h2 => (hvv j e kk v h1 h2).1) hq
   cases q with
   | none =>
    obtain ⟨rfl, rfl⟩ := hv0
    simp only [Option.map_none] at hf
    simp [Instr.lookup, run_underlying hu, hg, hck, hf, h3, Result.andThen]
   | some i =>
    obtain ⟨rfl, rfl⟩ := hv0
    simp only [Option.map_some] at hf
    simp [Instr.lookup, run_underlying hu, hg, hck, hf, h3, Result.andThen]
  have fin : ∀ (v0 : Value), VR E true p.1 v0 → VR E true (if ok = true then .tup [y, .bool p.2] else y) (if ok = true then .tuple #[v0, .bool p.2] else v0) := fun v0 hv0 => by
   have hy := hsim.vr hv0
   cases ok
   ·exact hy
   ·refine .tup _ _ _ rfl fun j x c hx hc => ?_
    match j with
    | 0 => simp at hx hc; subst hx; subst hc; exact hy
    | 1 => simp at hx hc; subst hx; subst hc; exact .bool _ _
    | j + 2 => simp at hx
  unfold mgetL at hp
  split at hp <;> (try (cases hp; done))
  ·rename_i i hq
   cases hp
   obtain ⟨k0, v0, hli, _⟩ := zDa hq
   have hil := (List.getElem?_eq_some_iff.1 hli).1
   have hei : es[i]? = some (es[i]'(by omega)) := Array.getElem?_eq_getElem (by omega)
   have hgd : es.toList.getD i default = es[i]'(by omega) := by simp [show i < es.size by omega]
   have hv0 : zIF (l.getD i .any) = v0 := by simp [hli, zIF]
   refine ⟨_, done (some i) _ true hq ⟨rfl, rfl⟩, fin _ ?_⟩
   simp only [hv0, hgd]
   exact (hvv i _ k0 v0 hei hli).2.lift
  ·rename_i hq
   cases hp
   exact ⟨_, done none v false hq ⟨rfl, rfl⟩, fin _ (h4 E true)⟩
theorem wP.push {es : Array MapEntry} {c : Nat} (h : wP es c) (k v : Value) : wP (es.push { key := k, val := v, born := c }) (c + 1) := by
 obtain ⟨h1, h2⟩ := h
 refine ⟨fun e he => ?_, ?_⟩
 ·simp at he
  rcases he with he | rfl
  ·have := h1 e (by simpa using he); omega
  ·simp
 ·simp only [Array.toList_push]
  refine List.pairwise_append.2 ⟨h2, by simp, fun a ha b hb => ?_⟩
  simp at hb; subst hb
  have := h1 a ha
  simp; omega
theorem wP.modify {es : Array MapEntry} {c : Nat} (h : wP es c) (i : Nat) (f : MapEntry → MapEntry) (hf : ∀ e, (f e).born = e.born) : wP (es.modify i f) c := by
 have e : (es.modify i f).toList.map (·.born) = es.toList.map (·.born) := by
  apply List.ext_getElem?
  intro j
  simp only [List.getElem?_map, Array.getElem?_toList, Array.getElem?_modify]
  split
  ·cases es[j]? <;> simp [hf]
  ·rfl
 obtain ⟨h1, h2⟩ := h
 refine ⟨fun x hx => ?_, ?_⟩
 ·have : x.born ∈ (es.modify i f).toList.map (·.born) := List.mem_map_of_mem hx
  rw [e] at this
  obtain ⟨y, hy, hyx⟩ := List.mem_map.1 this
  rw [← hyx]; exact h1 y hy
 ·have h3 : (es.toList.map (·.born)).Pairwise (· ≠ ·) := List.pairwise_map.2 h2
  rw [← e] at h3
  exact List.pairwise_map.1 h3
theorem wP.erase {es : Array MapEntry} {c : Nat} (h : wP es c) (i : Nat) : wP (es.eraseIdxIfInBounds i) c := by
 have hs : (es.eraseIdxIfInBounds i).toList.Sublist es.toList := by
  unfold Array.eraseIdxIfInBounds
  split
  ·rw [Array.toList_eraseIdx]; exact List.eraseIdx_sublist _ _
  ·exact List.Sublist.refl _
 exact ⟨fun e he => h.1 e (hs.subset he), h.2.sublist hs⟩
theorem zHW {E : Env} (mm : Mem E) {id w : Nat} {l : List AV} (hb : zF E.bl id = some (.mp l)) {m' : Value} (hv : VR E true (.own id w) m') :
  ∃ es cl, m' = .map (some (E.loc id).1) ∧ E.w.heap[(E.loc id).1]? = some (.map es cl) ∧ es.size = l.length ∧ wP es cl ∧ (∀ x ∈ l, Ent x) ∧
   ∀ (j : Nat) e k v, es[j]? = some e → l[j]? = some (.agg [k, v]) → VR E false k e.key ∧ VR E false v e.val := by
 cases hv with
 | own _ _ len a cap hid hc hh => have g := (hh _ hb).1; simp [zZ] at g
 | mown _ r hid hh =>
  obtain ⟨_, rfl⟩ := hh _ hb
  obtain ⟨_, es, cl, h1, h2, h3, h4⟩ := (mm.ok _ _ hb).mp _ rfl
  exact ⟨es, cl, rfl, h1, h2, h3, (mm.ok _ _ hb).fit, h4⟩
theorem zBL {P : Program} {E : Env} {id : Nat} {es es' : Array MapEntry} {cl cl' : Nat} {l : List AV} (h : E.w.heap[(E.loc id).1]? = some (.map es cl)) : (setObj (E.loc id).1 (.map es' cl')).run P E.w = .ok () (E.mset id es' cl' l).w :=
 MapKept.run_setObj_map _ h
theorem zGL {t : TypeId} {m k v : AV} {bl : zC} {K : z9 R} {r : R} (h : zEd C t m k v bl K = some r) :
  ∃ bl', KS (R := R) (zEd C t m k v) bl .write .any bl' ∧ ∀ E, E.bl = bl → Mem E → ∀ m' k' v', VR E true m m' → VR E true k k' → VR E true v v' → ∃ E', (Instr.mapUpdate t m' k' v').run C.P E.w = .ok () E'.w ∧ E'.bl = bl' ∧ Go E E' := by
 unfold zEd at h
 split at h <;> (try (cases h; done))
 rename_i kt et id w hu
 split at h <;> (try (cases h; done))
 rename_i l hb
 split at h <;> (try (cases h; done))
 rename_i hk
 obtain ⟨l', hp, h⟩ := qA h
 refine ⟨bl.set id (some (.mp l')), .ofWrite fun K2 => by simp only [zEd, hu, hb, if_pos hk, hp]; rfl, fun E hE mm m' k' v' hm hkv hvv => ?_⟩
 subst hE
 simp only [Bool.and_eq_true] at hk
 obtain ⟨⟨⟨hk, hcv⟩, hnv⟩, hsv⟩ := hk
 obtain ⟨k1, k2, k3, k4⟩ := zEQ hk
 obtain ⟨es, cl, rfl, hh, hs, hst, hen, hat⟩ := zHW mm hb hm
 have hck : ∀ em, (Instr.checkKey em 10000 kt k').run C.P E.w = .ok () E.w := fun em => zAa (em := em) 8 9992 kt k k' E.w k2 k4 k3 hkv
 have hg : (getObj (E.loc id).1).run C.P E.w = .ok (.map es cl) E.w := MapKept.run_getObj_map hh
 obtain ⟨n1, n2, _⟩ := zEg k k4
 have kfit : Fit k := (hkv.cells ⟨fun e => by subst e; simp [solid] at n2, fun vs e => by subst e; simp [solid] at n2⟩).1
 have vfit : Fit v := (hvv.cells ⟨fun e => by subst e; simp [solid] at hsv, fun vs e => by subst e; simp [solid] at hsv⟩).1
 have hent : Ent (.agg [k, v]) := zOn kfit n1 n2 vfit hnv hsv
 have hkl := hkv.low n1
 have hvl := hvv.low hnv
 unfold mputL at hp
 split at hp <;> (try (cases hp; done))
 ·rename_i i hq
  cases hp
  obtain ⟨k0, v0, hli, heq⟩ := zDa hq
  have hil := (List.getElem?_eq_some_iff.1 hli).1
  have hei : es[i]? = some (es[i]'(by omega)) := Array.getElem?_eq_getElem (by omega)
  have hf := zAN k1 k2 k3 hkv E.w hs (fun j e kk v h1 h2 => (hat j e kk v h1 h2).1) hq
  simp only [Option.map_some] at hf
  have hkk : (es[i]'(by omega)).key = k' := by
   have h1 := (hat i _ k0 v0 hei hli).1
   have h2 := zHq k k0 k4 heq
   rw [← h2] at h1
   exact zNv k4 h1 hkl
  have hstay := zLa (P := C.P) (w := E.w) (zHO k4 hkv)
  refine ⟨E.mset id (es.modify i fun e => { e with key := k', val := v' }) cl (l.set i (.agg [k, v])), ?_, rfl, Go.mset mm id l _ hb _ _ (by simp [hs]) (hst.modify i _ fun _ => rfl) (fun x hx => ?_) (fun j e kk vv he hl => ?_)⟩
  ·have hset := zBL (P := C.P) (es' := es.modify i fun e => { e with key := k', val := v' }) (cl' := cl) (l := l.set i (.agg [k, v])) hh
   simp [Instr.mapUpdate, run_underlying hu, hg, hck, hf, Result.andThen, hei, hkk, hstay, hset]
  ·rcases List.mem_or_eq_of_mem_set hx with hx | rfl
   ·exact hen x hx
   ·exact hent
  ·rw [Array.getElem?_modify] at he
   rw [List.getElem?_set] at hl
   by_cases hj : i = j
   ·subst hj
    rw [if_pos rfl, hei] at he
    simp at he
    rw [if_pos rfl, if_pos hil] at hl
    cases hl
    subst he
    exact ⟨hkl, hvl⟩
   ·rw [if_neg hj] at he hl
    exact hat j e kk vv he hl
 ·rename_i hq
  cases hp
  have hf := zAN k1 k2 k3 hkv E.w hs (fun j e kk v h1 h2 => (hat j e kk v h1 h2).1) hq
  simp only [Option.map_none] at hf
  refine ⟨E.mset id (es.push { key := k', val := v', born := cl }) (cl + 1) (l ++ [.agg [k, v]]), ?_, rfl, Go.mset mm id l _ hb _ _ (by simp [hs]) (hst.push k' v') (fun x hx => ?_) (fun j e kk vv he hl => ?_)⟩
  ·have hset := zBL (P := C.P) (es' := es.push { key := k', val := v', born := cl }) (cl' := cl + 1) (l := l ++ [.agg [k, v]]) hh
   simp [Instr.mapUpdate, run_underlying hu, hg, hck, hf, Result.andThen, hset]
  ·rcases List.mem_append.1 hx with hx | hx
   ·exact hen x hx
   ·simp at hx; subst hx; exact hent
  ·rw [Array.getElem?_push] at he
   by_cases hj : j = es.size
   ·rw [if_pos hj] at he
    cases he
    rw [List.getElem?_append_right (by omega), show j - l.length = 0 by omega] at hl
    cases hl
    exact ⟨hkl, hvl⟩
   ·rw [if_neg hj] at he
    have hjl := (Array.getElem?_eq_some_iff.1 he).1
    rw [List.getElem?_append_left (by omega)] at hl
    exact hat j e kk vv he hl
theorem zGN {t : TypeId} {m k : AV} {bl : zC} {K : z9 R} {r : R} (h : zDc C t m k bl K = some r) :
  ∃ bl', KS (R := R) (zDc C t m k) bl .write .any bl' ∧ ∀ E, E.bl = bl → Mem E → ∀ m' k' (ts : Array TypeId) ty, ts[0]? = some t → VR E true m m' → VR E true k k' → Out E C.P .write .any bl' (Builtin.delete_ ts ty #[m', k']) := by
 unfold zDc at h
 split at h <;> (try (cases h; done))
 rename_i kt et id w hu
 split at h <;> (try (cases h; done))
 rename_i l hb
 split at h <;> (try (cases h; done))
 rename_i hk
 obtain ⟨l', hp, h⟩ := qA h
 refine ⟨bl.set id (some (.mp l')), .ofWrite fun K2 => by simp only [zDc, hu, hb, if_pos hk, hp]; rfl, fun E hE mm m' k' ts ty hts hm hkv => ?_⟩
 subst hE
 obtain ⟨k1, k2, k3, k4⟩ := zEQ hk
 obtain ⟨es, cl, rfl, hh, hs, hst, hen, hat⟩ := zHW mm hb hm
 have hck : ∀ em, (Instr.checkKey em 10000 kt k').run C.P E.w = .ok () E.w := fun em => zAa (em := em) 8 9992 kt k k' E.w k2 k4 k3 hkv
 have hg : (getObj (E.loc id).1).run C.P E.w = .ok (.map es cl) E.w := MapKept.run_getObj_map hh
 unfold mdelL at hp
 split at hp <;> (try (cases hp; done))
 ·rename_i i hq
  cases hp
  obtain ⟨k0, v0, hli, heq⟩ := zDa hq
  have hil := (List.getElem?_eq_some_iff.1 hli).1
  have hf := zAN k1 k2 k3 hkv E.w hs (fun j e kk v h1 h2 => (hat j e kk v h1 h2).1) hq
  simp only [Option.map_some] at hf
  have hel : (es.eraseIdxIfInBounds i).toList = es.toList.eraseIdx i := by
   unfold Array.eraseIdxIfInBounds
   rw [dif_pos (show i < es.size by omega), Array.toList_eraseIdx]
  have hesz : (es.eraseIdxIfInBounds i).size = (l.eraseIdx i).length := by
   have := congrArg List.length hel
   simp only [Array.length_toList, List.length_eraseIdx] at this
   rw [this, List.length_eraseIdx, hs]
  refine ⟨.tuple #[], E.mset id (es.eraseIdxIfInBounds i) cl (l.eraseIdx i), ?_, by simp [Env.mset], Go.mset mm id l _ hb _ _ hesz (hst.erase i) (fun x hx => hen x ((List.eraseIdx_sublist _ _).subset hx)) (fun j e kk vv he hl => ?_), .any _ _⟩
  ·have hset := zBL (P := C.P) (es' := es.eraseIdxIfInBounds i) (cl' := cl) (l := l.eraseIdx i) hh
   simp [Builtin.delete_, hts, run_underlying hu, hg, hck, hf, Result.andThen, hset]
  ·rw [← Array.getElem?_toList, hel, List.getElem?_eraseIdx] at he
   rw [List.getElem?_eraseIdx] at hl
   split at he
   ·rename_i hj
    rw [if_pos hj] at hl
    exact hat j e kk vv (by simpa using he) hl
   ·rename_i hj
    rw [if_neg hj] at hl
    exact hat (j + 1) e kk vv (by simpa using he) hl
 ·rename_i hq
  cases hp
  have hf := zAN k1 k2 k3 hkv E.w hs (fun j e kk v h1 h2 => (hat j e kk v h1 h2).1) hq
  simp only [Option.map_none] at hf
  refine ⟨.tuple #[], E.mset id es cl l, ?_, by simp [Env.mset], Go.mset mm id l _ hb _ _ hs hst hen hat, .any _ _⟩
  have hset := zBL (P := C.P) (es' := es) (cl' := cl) (l := l) hh
  simp [Builtin.delete_, hts, run_underlying hu, hg, hck, hf, Result.andThen, hset]
theorem zGd {t : TypeId} {bl : zC} {K : z9 R} {r : R} (h : jQ C t bl K = some r) :
  ∃ cat v bl', KS (R := R) (jQ C t) bl cat v bl' ∧ ∀ E, (E.bl = bl ∨ cat = .pure) → Mem E → Out E C.P cat v bl' (Instr.makeMap t none) := by
 unfold jQ at h
 split at h
 ·rename_i hr
  refine ⟨.write, .own bl.length 0, bl ++ [some (.mp [])], .ofWrite fun K2 => by simp only [jQ, hr], fun E hE m => ?_⟩
  rcases hE with rfl | hE
  ·obtain ⟨g, v⟩ := Go.newMo m
   exact ⟨_, E.newMo, by simp [Instr.makeMap, Env.newMo], by simp [Env.newMo], g, v⟩
  ·cases hE
 ·rename_i hr
  refine ⟨.pure, .rmap [], bl, .ofPure fun bl K2 => by simp only [jQ, hr], fun E hE m => ?_⟩
  obtain ⟨g, v⟩ := Go.newMp m
  exact ⟨_, E.newMp, by simp [Instr.makeMap, Env.newMp], by simp [Env.newMp], g, v⟩
end
end Go.Abs
end
section
set_option linter.unusedVariables false
set_option linter.unusedSimpArgs false
namespace Go.Abs
open Go
section
variable {R : Type} {C : Ctx}
def Done (E : Env) (cat : Cat) (v : AV) (bl' : zC) (v' : Value) (w' : World) : Prop :=
 ∃ E', E'.w = w' ∧ (E'.bl = if cat = .pure then E.bl else bl') ∧ Go E E' ∧ VR E' true v v'
def OpS (R : Type) (C : Ctx) (o : Oper) (ev : Operand → AV) (bl : zC) (cat : Cat) (v : AV) (bl' : zC) : Prop :=
 KS (R := R) (opK C o ev) bl cat v bl' ∧ ∀ E (a : Act), (E.bl = bl ∨ cat = .pure) → Mem E → Glob C.G E → (∀ x, VR E true (ev x) (a.eval x)) → zAS C.P o a E.w (Done E cat v bl')
theorem zAz {E : Env} {cat : Cat} {v : AV} {bl : zC} {v' : Value} (hE : E.bl = bl ∨ cat = .pure) (m : Mem E) (h : VR E true v v') : Done E cat v bl v' E.w :=
 ⟨E, rfl, by
  split
  ·rfl
  ·rcases hE with h | h
   ·exact h
   ·contradiction, .refl m, h⟩
theorem zEo {E : Env} {P : Program} {o : Oper} {a : Act} {cat : Cat} {v : AV} {bl' : zC} {s : Sem Value} (hx : execOp a.eval o = (do let x ← s; pure (.value x))) (h : Out E P cat v bl' s) : zAS P o a E.w (Done E cat v bl') := by
 obtain ⟨v', E', h1, h2, h3, h4⟩ := h
 refine .value (v' := v') (w' := E'.w) ?_ ⟨E', rfl, h2, h3, h4⟩
 rw [hx]
 simp [h1]
theorem zEp {E : Env} {P : Program} {o : Oper} {a : Act} {Rr : Value → World → Prop} {s : Sem Value} {v' : Value} (hx : execOp a.eval o = (do let x ← s; pure (.value x))) (h : s.run P E.w = .ok v' E.w) (hr : Rr v' E.w) : zAS P o a E.w Rr := by
 refine .value (v' := v') (w' := E.w) ?_ hr
 rw [hx]
 simp [h]
theorem zCO {E : Env} {ev : Operand → AV} {a : Act} (h : ∀ x, VR E true (ev x) (a.eval x)) (l : Array Operand) : Args E (l.toList.map ev) (l.map a.eval) := by
 refine ⟨by simp, fun j x c hx hc => ?_⟩
 rw [List.getElem?_map] at hx
 rw [Array.getElem?_map] at hc
 cases hl : l[j]? with
 | none => simp [hl] at hc
 | some y =>
  have : l.toList[j]? = some y := by simpa using hl
  rw [this] at hx
  rw [hl] at hc
  cases hx; cases hc
  exact h y
theorem zFy {E : Env} {xs ys : List AV} {vs us : Array Value} (h : Args E xs vs) (k : Args E ys us) : Args E (xs ++ ys) (vs ++ us) := by
 refine ⟨by simp [h.size, k.size], fun j x c hx hc => ?_⟩
 rcases Nat.lt_or_ge j xs.length with hj | hj
 ·rw [List.getElem?_append_left hj] at hx
  rw [Array.getElem?_append_left (by rw [h.size]; exact hj)] at hc
  exact h.vr j x c hx hc
 ·rw [List.getElem?_append_right hj] at hx
  rw [Array.getElem?_append_right (by rw [h.size]; exact hj), h.size] at hc
  exact k.vr _ x c hx hc
theorem zKb {l : List AV} {K : AV → Option R} {r : R} (h : zMp l K = some r) :
  ∃ v, (∀ K2 : AV → Option R, zMp l K2 = K2 v) ∧ ∀ (P : Program) (E : Env) (vs : Array Value), Args E l vs → ∀ ts ty w, ∃ v', (Builtin.max_ ts ty vs).run P w = .ok v' w ∧ VR E true v v' := by
 unfold zMp at h
 split at h
 ·rename_i k a r'
  obtain ⟨n, h1, h2⟩ := zDm h
  refine ⟨.int k n, fun K2 => h1 K2, fun P E vs ha ts ty w => ⟨.int k n, ?_, .int _ _ _⟩⟩
  obtain ⟨vl⟩ := vs
  cases vl with
  | nil => have := ha.size; simp at this
  | cons u us =>
   have hu := ha.vr 0 (.int k a) u rfl rfl
   cases hu
   simp only [Builtin.max_]
   exact h2 P E us (by have := ha.size; simpa using this) (fun j x c hx hc => ha.vr (j + 1) x c (by simpa using hx) (by simpa using hc)) w
 ·cases h
theorem zKa {l : List AV} {K : AV → Option R} {r : R} (h : zMo l K = some r) :
  ∃ v, (∀ K2 : AV → Option R, zMo l K2 = K2 v) ∧ ∀ (P : Program) (E : Env) (vs : Array Value), Args E l vs → ∀ ts ty w, ∃ v', (Builtin.min_ ts ty vs).run P w = .ok v' w ∧ VR E true v v' := by
 unfold zMo at h
 split at h
 ·rename_i k a r'
  obtain ⟨n, h1, h2⟩ := zDl h
  refine ⟨.int k n, fun K2 => h1 K2, fun P E vs ha ts ty w => ⟨.int k n, ?_, .int _ _ _⟩⟩
  obtain ⟨vl⟩ := vs
  cases vl with
  | nil => have := ha.size; simp at this
  | cons u us =>
   have hu := ha.vr 0 (.int k a) u rfl rfl
   cases hu
   simp only [Builtin.min_]
   exact h2 P E us (by have := ha.size; simpa using this) (fun j x c hx hc => ha.vr (j + 1) x c (by simpa using hx) (by simpa using hc)) w
 ·cases h
theorem OpS.ofVal {o : Oper} {ev : Operand → AV} {bl : zC} {v : AV} {F : (AV → Option R) → Option R} (hF : ∀ bl K, opK C o ev bl K = F fun v => K .pure v bl) (hd : ∀ K2, F K2 = K2 v)
  (h : ∀ E (a : Act), Mem E → Glob C.G E → (∀ x, VR E true (ev x) (a.eval x)) → ∃ v', (execOp a.eval o).run C.P E.w = .ok (.value v') E.w ∧ VR E true v v') : OpS R C o ev bl .pure v bl := by
 refine ⟨.ofPure fun bl K => by rw [hF, hd], fun E a hE m hg hv => ?_⟩
 obtain ⟨v', h1, h2⟩ := h E a m hg hv
 exact .value h1 (zAz hE m h2)
theorem OpS.ofMem {o : Oper} {ev : Operand → AV} {bl : zC} {cat : Cat} {v : AV} {F : zC → z9 R → Option R} (hF : ∀ bl K, opK C o ev bl K = F bl K) (hs : KS F bl cat v bl)
  (h : ∀ E (a : Act), (E.bl = bl ∨ cat = .pure) → Mem E → (∀ x, VR E true (ev x) (a.eval x)) → ∃ v', (execOp a.eval o).run C.P E.w = .ok (.value v') E.w ∧ VR E true v v') : OpS R C o ev bl cat v bl := by
 refine ⟨⟨fun K => by rw [hF]; exact hs.det K, fun hc => ⟨rfl, fun bl2 K => by rw [hF]; exact (hs.pure hc).2 bl2 K⟩, fun _ => rfl⟩, fun E a hE m hg hv => ?_⟩
 obtain ⟨v', h1, h2⟩ := h E a hE m hv
 exact .value h1 (zAz hE m h2)
theorem OpS.ofOut {o : Oper} {ev : Operand → AV} {bl bl' : zC} {cat : Cat} {v : AV} {F : zC → z9 R → Option R} (hF : ∀ bl K, opK C o ev bl K = F bl K) (hs : KS F bl cat v bl')
  (h : ∀ E (a : Act), (E.bl = bl ∨ cat = .pure) → Mem E → (∀ x, VR E true (ev x) (a.eval x)) → ∃ s, execOp a.eval o = (do let x ← s; pure (.value x)) ∧ Out E C.P cat v bl' s) : OpS R C o ev bl cat v bl' := by
 refine ⟨⟨fun K => by rw [hF]; exact hs.det K, fun hc => ⟨(hs.pure hc).1, fun bl2 K => by rw [hF]; exact (hs.pure hc).2 bl2 K⟩, fun hc => hs.read hc⟩, fun E a hE m hg hv => ?_⟩
 obtain ⟨s, h1, h2⟩ := h E a hE m hv
 exact zEo h1 h2
theorem zIS {E : Env} {ev : Operand → AV} {a : Act} (h : ∀ x, VR E true (ev x) (a.eval x)) (x : Option Operand) : OptR E (x.map ev) (x.map a.eval) := by
 cases x with
 | none => exact .inl ⟨rfl, rfl⟩
 | some x => exact .inr ⟨_, _, rfl, rfl, h x⟩
theorem zJr {P : Program} {t : TypeId} {b : Bool} {x' y' : Value} (x y : Operand) (op : BinOp) (hg : P.eqGuardType P.depth t = false) (hx : (∃ cs, x' = .agg cs) ∨ ∃ b, x' = .bool b)
  (hy : (∃ cs, y' = .agg cs) ∨ ∃ b, y' = .bool b) (h : ∀ w, (Op.equal t x' y').run P w = .ok b w) (hop : op = .eql ∨ op = .neq) (w : World) :
  (do eqGuard op t x y x' y'; binOp op t x' y').run P w = .ok (.bool (if op = .eql then b else !b)) w := by
 rcases hop with rfl | rfl <;> rcases hx with ⟨cs, rfl⟩ | ⟨b1, rfl⟩ <;> rcases hy with ⟨ds, rfl⟩ | ⟨b2, rfl⟩ <;> simp [eqGuard, binOp, hg, h]
theorem zIa {P : Program} {t : TypeId} {ms} (x : Operand) (op : BinOp) (hu : P.underlying t = some (.interface ms)) (hop : op = .eql ∨ op = .neq) (w : World) :
  (do eqGuard op t x (.const .nilIface) .nilIface .nilIface; binOp op t .nilIface .nilIface).run P w = .ok (.bool (if op = .eql then true else false)) w := by
 have h : ∀ d : Nat, (Op.equalIn (d + 1) t .nilIface .nilIface).run P w = .ok true w := fun d => by
  simp [Op.equalIn, run_underlying hu]
 have e : (Op.equal t .nilIface .nilIface).run P w = .ok true w := h 9999
 rcases hop with rfl | rfl <;> simp [eqGuard, binOp, e]
theorem zHc {o : Oper} {ev : Operand → AV} {bl : zC} {op : BinOp} {t : TypeId} {x : Operand} {b5 : TypeId} {ms} {b : Bool} (ho : o.op = .binOp op t x (.const .nilIface) b5) (hu : C.P.underlying t = some (.interface ms))
  (hop : (op = .eql ∧ b = true) ∨ (op = .neq ∧ b = false)) (hX : ev x = .nili) (hF : ∀ bl (K : z9 R), opK C o ev bl K = K .pure (.bool b) bl) : ∃ cat v bl', OpS R C o ev bl cat v bl' := by
 refine ⟨.pure, .bool b, bl, ⟨.ofPure hF, fun E a hE m hg hv => ?_⟩⟩
 have hx : a.eval x = .nilIface := by
  have := hv x
  rw [hX] at this
  generalize a.eval x = u at this
  cases this; rfl
 have hr := zIa (P := C.P) x op hu (hop.imp And.left And.left) E.w
 have hb : (if op = BinOp.eql then true else false) = b := by rcases hop with ⟨rfl, rfl⟩ | ⟨rfl, rfl⟩ <;> rfl
 rw [hb] at hr
 refine zEp (s := do eqGuard op t x (.const .nilIface) (a.eval x) (a.eval (.const .nilIface)); binOp op t (a.eval x) (a.eval (.const .nilIface))) (by simp only [execOp, ho]) (by rw [hx]; exact hr) (zAz hE m (.bool _ _))
theorem zDg {P : Program} {t : TypeId} {ms} (x : Operand) (op : BinOp) (u : TypeId) (v : Value) (hu : P.underlying t = some (.interface ms)) (hop : op = .eql ∨ op = .neq) (w : World) :
  (do eqGuard op t x (.const .nilIface) (.iface u v) .nilIface; binOp op t (.iface u v) .nilIface).run P w = .ok (.bool (if op = .eql then false else true)) w := by
 have h : ∀ d : Nat, (Op.equalIn (d + 1) t (.iface u v) .nilIface).run P w = .ok false w := fun d => by
  simp [Op.equalIn, run_underlying hu]
 have e : (Op.equal t (.iface u v) .nilIface).run P w = .ok false w := h 9999
 rcases hop with rfl | rfl <;> simp [eqGuard, binOp, e]
theorem zFS {o : Oper} {ev : Operand → AV} {bl : zC} {op : BinOp} {t : TypeId} {x : Operand} {b5 : TypeId} {ms} {b : Bool} {u : TypeId} {z : AV} (ho : o.op = .binOp op t x (.const .nilIface) b5) (hu : C.P.underlying t = some (.interface ms))
  (hop : (op = .eql ∧ b = false) ∨ (op = .neq ∧ b = true)) (hX : ev x = .iface u z) (hF : ∀ bl (K : z9 R), opK C o ev bl K = K .pure (.bool b) bl) : ∃ cat v bl', OpS R C o ev bl cat v bl' := by
 refine ⟨.pure, .bool b, bl, ⟨.ofPure hF, fun E a hE m hg hv => ?_⟩⟩
 obtain ⟨q, hx⟩ : ∃ q, a.eval x = .iface u q := by
  have := hv x
  rw [hX] at this
  generalize a.eval x = u at this
  cases this; exact ⟨_, rfl⟩
 have hr := zDg (P := C.P) x op u q hu (hop.imp And.left And.left) E.w
 have hb : (if op = BinOp.eql then false else true) = b := by rcases hop with ⟨rfl, rfl⟩ | ⟨rfl, rfl⟩ <;> rfl
 rw [hb] at hr
 refine zEp (s := do eqGuard op t x (.const .nilIface) (a.eval x) (a.eval (.const .nilIface)); binOp op t (a.eval x) (a.eval (.const .nilIface))) (by simp only [execOp, ho]) (by rw [hx]; exact hr) (zAz hE m (.bool _ _))
theorem zGr {o : Oper} {ev : Operand → AV} {bl : zC} {op : BinOp} {t : TypeId} {x : Operand} {b5 : TypeId} {ms} {b : Bool} {tF ts k : Nat} (ho : o.op = .binOp op t x (.const .nilIface) b5) (hu : C.P.underlying t = some (.interface ms))
  (hop : (op = .eql ∧ b = false) ∨ (op = .neq ∧ b = true)) (hX : ev x = .errv tF ts k) (hF : ∀ bl (K : z9 R), opK C o ev bl K = K .pure (.bool b) bl) : ∃ cat v bl', OpS R C o ev bl cat v bl' := by
 refine ⟨.pure, .bool b, bl, ⟨.ofPure hF, fun E a hE m hg hv => ?_⟩⟩
 obtain ⟨u, q, hx⟩ : ∃ u q, a.eval x = .iface u q := by
  have := hv x
  rw [hX] at this
  generalize a.eval x = u at this
  cases this with
  | errv _ _ _ _ _ h => cases h.ch <;> exact ⟨_, _, rfl⟩
 have hr := zDg (P := C.P) x op u q hu (hop.imp And.left And.left) E.w
 have hb : (if op = BinOp.eql then false else true) = b := by rcases hop with ⟨rfl, rfl⟩ | ⟨rfl, rfl⟩ <;> rfl
 rw [hb] at hr
 refine zEp (s := do eqGuard op t x (.const .nilIface) (a.eval x) (a.eval (.const .nilIface)); binOp op t (a.eval x) (a.eval (.const .nilIface))) (by simp only [execOp, ho]) (by rw [hx]; exact hr) (zAz hE m (.bool _ _))
theorem zBx {o : Oper} {ev : Operand → AV} {bl : zC} {op : BinOp} {t : TypeId} {x y : Operand} {b5 : TypeId} {r : R} {X Y : AV} (ho : o.op = .binOp op t x y b5) (f : Bool → Bool)
  (hop : (op = .eql ∧ f = fun b => b) ∨ (op = .neq ∧ f = fun b => !b)) (hX : ev x = X) (hY : ev y = Y)
  (hXa : ∀ E v, VR E true X v → (∃ cs, v = .agg cs) ∨ ∃ b, v = .bool b) (hYa : ∀ E v, VR E true Y v → (∃ cs, v = .agg cs) ∨ ∃ b, v = .bool b)
  (hF : ∀ bl (K : z9 R), opK C o ev bl K = eqK C t X Y fun b => K .pure (.bool (f b)) bl) {K : z9 R} (h : opK C o ev bl K = some r) : ∃ cat v bl', OpS R C o ev bl cat v bl' := by
 rw [hF] at h
 obtain ⟨b, h1, hgt, h2⟩ := zLu h
 refine ⟨.pure, .bool (f b), bl, ⟨.ofPure fun bl K => by rw [hF, h1], fun E a hE m hg hv => ?_⟩⟩
 subst hX; subst hY
 have hr := zJr (P := C.P) x y op hgt (hXa E _ (hv x)) (hYa E _ (hv y)) (h2 E _ _ (hv x) (hv y)) (hop.imp And.left And.left) E.w
 refine zEp (s := do eqGuard op t x y (a.eval x) (a.eval y); binOp op t (a.eval x) (a.eval y)) (by simp only [execOp, ho]) hr (zAz hE m ?_)
 rcases hop with ⟨rfl, rfl⟩ | ⟨rfl, rfl⟩ <;> exact .bool _ _
theorem jJ (t len : Nat) (ps : List (Nat × AV)) (bl : zC) (K : z9 R) : yG C t len ps bl K = match yN C t len ps with | some p => K .write (.own bl.length p.1) (bl ++ [some p.2]) | none => none := by
 unfold yG yN
 split
 ·split
  ·split
   ·split
    ·split <;> rfl
    ·rfl
   ·split
    ·split <;> rfl
    ·rfl
   ·rfl
  ·rfl
 ·rfl
def Env.newRo (E : Env) (c : Array Value) (t : TypeId) : Env :=
 {w := E.w.alloc (.cells c t (0, 0)), ro := fun b o => E.ro b o ∨ (b = E.w.heap.size ∧ o < c.size), loc := E.loc, bl := E.bl }
theorem Go.newRo {E : Env} (m : Mem E) (c : Array Value) (t : TypeId) : Go E (E.newRo c t) := by
 have hcell : ∀ b o, b < E.w.heap.size → (E.newRo c t).cell b o = E.cell b o := fun b o hb => World.cell?_alloc_lt _ _ _ hb
 have hcelln : ∀ o, (E.newRo c t).cell E.w.heap.size o = c[o]? := fun o => World.cell?_alloc_mark E.w c t (0, 0) o
 have hfrz : ∀ b o, b < E.w.heap.size → (E.w.alloc (.cells c t (0, 0))).frozen? ⟨b, o, none⟩ = E.w.frozen? ⟨b, o, none⟩ := fun b o hb => World.frozen?_alloc_old _ _ _ (by show b ≠ _; omega)
 have frm : Fr E (E.newRo c t) := ⟨rfl, rfl, rfl, by show _ ≤ (E.w.heap.push _).size; simp, fun b o hb _ => hcell b o hb,
  fun b hb _ => by show (E.w.heap.push _)[b]? = _; rw [Array.getElem?_push, if_neg (by omega)], fun b o hb _ => hfrz b o hb, fun _ _ h => .inl h, fun b o h => by
   rcases h with h | ⟨h, _⟩
   ·exact .inl h
   ·exact .inr (.inr (by omega)), fun _ _ h => .inl h⟩
 have st : Step E (E.newRo c t) := .of_fr m frm (Nat.le_refl _) fun id hid blk' hb => ⟨blk', hb, rfl, fun _ _ h => h, fun _ _ h => h⟩
 refine ⟨st, frm, ⟨fun id bk hb => ?_, m.dis, fun b o h => ?_, fun b o ho h => ?_⟩⟩
 ·have k := m.ok id bk hb
  refine ⟨k.fit, k.len, fun j x hx => ?_, fun hm j hj => ?_, fun l hl => ⟨(k.mp l hl).1, (k.mp l hl).2.mono st (by show (E.w.heap.push _)[_]? = _; have := (k.mp l hl).2.lt; rw [Array.getElem?_push, if_neg (by show ¬ (E.loc id).1 = _; omega)])⟩⟩
  ·obtain ⟨v, hv, hr⟩ := k.cells j x hx
   exact ⟨v, by rw [show (E.newRo c t).loc = E.loc from rfl, hcell _ _ (k7 (by show (E.cell _ _).isSome = true; rw [hv]; rfl))]; exact hv, hr.mono st⟩
  ·obtain ⟨g1, g2⟩ := k.room hm j hj
   have hlt := k7 g1
   exact ⟨by rw [show (E.newRo c t).loc = E.loc from rfl, hcell _ _ hlt]; exact g1, by rw [show (E.newRo c t).w = E.w.alloc (.cells c t (0, 0)) from rfl, show (E.newRo c t).loc = E.loc from rfl, hfrz _ _ hlt]; exact g2⟩
 ·show b < (E.w.heap.push _).size
  rcases h with h | ⟨rfl, h⟩
  ·have g := m.roe b o h; simp; omega
  ·simp
 ·rcases h with h | ⟨rfl, h⟩
  ·exact m.rod b o ho h
  ·have := m.own_lt (show Own E _ o from ho); omega
theorem zFD {t n : Nat} {ps : List (Nat × AV)} {bl : zC} {u e w : Nat} {l : List AV} (hb : yN C t n ps = some (u, .objs e w l)) :
  ∀ E, Mem E → ∀ vs : Array (Nat × Value), PartsR E ps vs.toList → Out E C.P .pure (.robjs e w l) bl (Instr.buildSlice t n vs) := by
 intro E m vs hp
 unfold yN at hb
 split at hb <;> (try (cases hb; done))
 rename_i e0 hu
 split at hb <;> (try (cases hb; done))
 rename_i hc
 have hc' := hc
 simp only [Bool.and_eq_true, decide_eq_true_eq] at hc'
 split at hb <;> (try (cases hb; done))
 ·split at hb <;> (try (cases hb; done))
  split at hb <;> (try (cases hb; done))
 ·rename_i z hnz hz
  split at hb <;> (try (cases hb; done))
  rename_i hs
  split at hb <;> (try (cases hb; done))
  rename_i l0 hl
  cases hb
  simp only [Bool.and_eq_true, decide_eq_true_eq] at hs
  obtain ⟨⟨⟨hs1, hs2⟩, hs3⟩, hs4⟩ := hs
  obtain ⟨i, v, hi, hv, hrun, hvr, hfz, hx1, hx2⟩ := yZ hz
  obtain ⟨d, hue, hw, _⟩ := yU hs3
  obtain ⟨_, hcz, hcr⟩ := (hvr E true).cells ⟨hx1, hx2⟩
  have hfl := hfz.length
  obtain ⟨f1, f2, f3⟩ := zBW hl
  simp at f2
  have hrep : ∀ x ∈ List.replicate n z, x = z := fun x hx => List.eq_of_mem_replicate hx
  have hmade : zEC E (zG (List.replicate n z)) (madeCells v.cells (n * zP C.P e)) := by
   refine ⟨by rw [size_madeCells, yL, hfl, hw], fun j x c hx hc => ?_⟩
   have hj := (List.getElem?_eq_some_iff.1 hx).1
   rw [yL, hfl, ← hw] at hj
   rw [jR _ _ _ hj (by omega), hcz] at hc
   exact hcr _ x c (zAk n z j x hx (by omega)) hc
  obtain ⟨cs', h1, h2⟩ := zCF (E := E) (fun i => some (i * zP C.P e, zP C.P e)) hp f1 hc'.2 (fun x hx => by rw [hrep x hx]; exact hfz) hmade fun i y hy => by
   have hil := (List.getElem?_eq_some_iff.1 hy).1
   rw [k8 (w := zP C.P e) (fun y hy => by rw [hrep y hy]; exact hw.symm) _ (Nat.le_of_lt hil), hrep y (List.mem_of_getElem? hy), hw]
  obtain ⟨cs'', e1, hfit, hcs, hcv⟩ := h2.agg_inv
  cases e1
  have hall := f3 (zP C.P e) fun x hx => by rw [hrep x hx]; exact ⟨hw.symm, hs1, hs2⟩
  have hfb : ∀ x ∈ l, (Fit x ∧ width x = zP C.P e) ∧ zR x = true ∧ solid x = true := fun x hx => ⟨⟨hfit.kid hx, (hall x hx).1⟩, (hall x hx).2⟩
  have run := j9 (n := n) (w := zP C.P e) (vs := vs) (cs := cs') hu (yW hue) hc'.1 hrun h1 E.w
  have hlf := yD hfb
  have go := Go.newRo m cs' e
  refine ⟨_, E.newRo cs' e, run, by simp [Env.newRo], go, (zFV (b := E.w.heap.size) (o := 0) (by rw [f2]) (Nat.le_refl _) hfb (fun _ => rfl) fun j x hx => ?_).lift⟩
  have hj : j < cs'.size := by
   have := (List.getElem?_eq_some_iff.1 hx).1
   rw [hcs]; exact this
  obtain ⟨y, k1, k2⟩ := kW hfb hx
  have hno := kY (hfb y (List.mem_of_getElem? k1)).2.1 _ (List.mem_of_getElem? k2)
  have hget : cs'[j]? = some cs'[j] := Array.getElem?_eq_getElem hj
  refine ⟨.inr ⟨rfl, by omega⟩, cs'[j], ?_, VR.mono go.step ((hcv j x _ hx hget).low hno)⟩
  rw [Nat.zero_add]
  show (E.newRo cs' e).w.cell? _ = _
  rw [← hget]
  exact World.cell?_alloc_mark E.w cs' e (0, 0) j
theorem zFw {E : Env} {t : TypeId} {x : AV} {v : Value} {bl : zC} (h : zJh C t x = true) (m : Mem E) (hv : VR E true x v) : Out E C.P .pure (.rptr x) bl (Instr.box t v) := by
 simp only [zJh, Bool.and_eq_true] at h
 obtain ⟨⟨_, hn⟩, hs⟩ := h
 have hx : x ≠ .any ∧ ∀ vs, x ≠ .tup vs := ⟨fun e => (by subst e; cases hs), fun vs e => (by subst e; cases hs)⟩
 obtain ⟨hf, hsz, hc⟩ := hv.cells hx
 have go := Go.newRo m v.cells t
 refine ⟨.pointer (some ⟨E.w.heap.size, 0, none⟩), E.newRo v.cells t, by simp [Instr.box, zAC, Env.newRo], by simp [Env.newRo], go, .rptr _ x _ hf rfl (fun j => (v.cells[j]?).getD undef) (fun j y hy => ?_) fun j y hy => ?_⟩
 ·have hj : j < v.cells.size := by
   rw [hsz]; exact (List.getElem?_eq_some_iff.1 hy).1
  refine ⟨.inr ⟨rfl, by simpa using hj⟩, ?_⟩
  show (E.newRo v.cells t).w.cell? _ = _
  rw [Nat.zero_add, Array.getElem?_eq_getElem hj]
  exact (World.cell?_alloc_mark E.w v.cells t (0, 0) j).trans (Array.getElem?_eq_getElem hj)
 ·have hj : j < v.cells.size := by
   rw [hsz]; exact (List.getElem?_eq_some_iff.1 hy).1
  rw [Array.getElem?_eq_getElem hj]
  exact VR.mono go.step ((hc j y _ hy (Array.getElem?_eq_getElem hj)).low (kY hn _ (List.mem_of_getElem? hy)))
theorem zJE {E E' : Env} {e w : Nat} {l : List AV} {bl : zC} {v' : Value} (hbl : E'.bl = bl ++ [some (.objs e w l)]) (go : Go E E') (hv : VR E' true (.own bl.length w) v') :
  ∃ E3 : Env, E3.w = E'.w ∧ E3.bl = bl ++ [none] ∧ Go E E3 ∧ VR E3 true (.robjs e w l) v' := by
 have m' := go.mem
 have hview : yQ E'.bl (.own bl.length w) = some (.robjs e w l) := by
  unfold yQ
  rw [hbl, kO]
 refine ⟨E'.frz [bl.length], rfl, ?_, go.trans (zCC m' [bl.length]), (jB (wM E' [bl.length]) m' hv hview (fun i hi => by simpa [ids] using hi)).lift⟩
 show yO [bl.length] E'.bl = _
 rw [hbl]
 simp [yO]
theorem zEw {t n : Nat} {ps : List (Nat × AV)} {bl : zC} {u e w : Nat} {l : List AV} (hb : yN C t n ps = some (u, .objs e w l)) (r : R) :
  ∀ E, E.bl = bl → Mem E → ∀ vs : Array (Nat × Value), PartsR E ps vs.toList → Out E C.P .write (.robjs e w l) (bl ++ [none]) (Instr.buildSlice t n vs) := by
 have huw : u = w := by
  unfold yN at hb
  repeat' (split at hb <;> (try (cases hb; done)))
  all_goals (cases hb; rfl)
 subst huw
 have hk : yG C t n ps bl (fun _ _ _ => some r) = some r := by rw [jJ, hb]
 obtain ⟨v, bl', h1, h2⟩ := qX hk
 have hd : v = .own bl.length u ∧ bl' = bl ++ [some (.objs e u l)] := by
  have f : ∀ K : z9 R, K .write v bl' = K .write (.own bl.length u) (bl ++ [some (.objs e u l)]) := fun K => (h1.det K).symm.trans (by rw [jJ, hb])
  classical
  have := f fun _ y z => if y = v ∧ z = bl' then some r else none
  rw [if_pos ⟨rfl, rfl⟩] at this
  by_cases h : AV.own bl.length u = v ∧ bl ++ [some (Blk.objs e u l)] = bl'
  ·exact ⟨h.1.symm, h.2.symm⟩
  ·rw [if_neg h] at this; cases this
 obtain ⟨rfl, rfl⟩ := hd
 intro E hE m vs hp
 obtain ⟨v', E', e1, e2, e3, e4⟩ := h2 E hE m vs hp
 have e2' : E'.bl = bl ++ [some (.objs e u l)] := by rw [e2]; rfl
 obtain ⟨E3, f1, f2, f3, f4⟩ := zJE e2' e3 e4
 exact ⟨v', E3, by rw [f1]; exact e1, f2, f3, f4⟩
theorem zFd {t n : Nat} {ps : List (Nat × AV)} {bl : zC} {u : Nat} {k : IntKind} {l : List Int} (hb : yN C t n ps = some (u, .ints k l)) (r : R) :
  ∀ E, E.bl = bl → Mem E → ∀ vs : Array (Nat × Value), PartsR E ps vs.toList → Out E C.P .write (.rints k l) (bl ++ [none]) (Instr.buildSlice t n vs) := by
 have hk : yG C t n ps bl (fun _ _ _ => some r) = some r := by rw [jJ, hb]
 obtain ⟨v, bl', h1, h2⟩ := qX hk
 have hd : v = .own bl.length u ∧ bl' = bl ++ [some (.ints k l)] := by
  have f : ∀ K : z9 R, K .write v bl' = K .write (.own bl.length u) (bl ++ [some (.ints k l)]) := fun K => (h1.det K).symm.trans (by rw [jJ, hb])
  classical
  have := f fun _ y z => if y = v ∧ z = bl' then some r else none
  rw [if_pos ⟨rfl, rfl⟩] at this
  by_cases h : AV.own bl.length u = v ∧ bl ++ [some (Blk.ints k l)] = bl'
  ·exact ⟨h.1.symm, h.2.symm⟩
  ·rw [if_neg h] at this; cases this
 obtain ⟨rfl, rfl⟩ := hd
 intro E hE m vs hp
 obtain ⟨v', E', e1, e2, e3, e4⟩ := h2 E hE m vs hp
 have e2' : E'.bl = bl ++ [some (.ints k l)] := by rw [e2]; rfl
 have m' := e3.mem
 have hview : yQ E'.bl (.own bl.length u) = some (.rints k l) := by
  unfold yQ
  rw [e2', kO]
 refine ⟨v', E'.frz [bl.length], e1, ?_, e3.trans (zCC m' [bl.length]), (jB (wM E' [bl.length]) m' e4 hview (fun i hi => by simpa [ids] using hi)).lift⟩
 show yO [bl.length] E'.bl = _
 rw [e2']
 simp [yO]
theorem zEv {t n : Nat} {ps : List (Nat × AV)} {bl : zC} {K : z9 R} {r : R} (h : yM C t n ps bl K = some r) :
  ∃ cat v bl', KS (R := R) (yM C t n ps) bl cat v bl' ∧ ∀ E, (E.bl = bl ∨ cat = .pure) → Mem E → ∀ vs : Array (Nat × Value), PartsR E ps vs.toList → Out E C.P cat v bl' (Instr.buildSlice t n vs) := by
 unfold yM at h
 split at h
 ·rename_i hi
  split at h
  ·rename_i u e w l hb
   exact ⟨.pure, .robjs e w l, bl, .ofPure fun bl K => by simp only [yM, hi, hb], fun E _ m vs hp => zFD hb E m vs hp⟩
  ·rename_i u k l hb
   split at h
   ·rename_i hro
    refine ⟨.write, .rints k l, bl ++ [none], .ofWrite fun K => by simp only [yM, hi, hb, if_pos hro], fun E hE m vs hp => ?_⟩
    rcases hE with hE | hE
    ·exact zFd hb r E hE m vs hp
    ·cases hE
   ·rename_i hro
    obtain ⟨v, bl', h1, h2⟩ := qX h
    refine ⟨.write, v, bl', .ofWrite fun K => by simp only [yM, hi, hb, if_neg hro]; exact h1.det K, fun E hE m vs hp => ?_⟩
    rcases hE with hE | hE
    ·exact h2 E hE m vs hp
    ·cases hE
  ·rename_i hno hno2
   obtain ⟨v, bl', h1, h2⟩ := qX h
   refine ⟨.write, v, bl', .ofWrite fun K => ?_, fun E hE m vs hp => ?_⟩
   ·simp only [yM, hi]
    first
     | exact h1.det K
     | (split; next u e w l hb => exact absurd hb (hno _ _ _ _); next u k l hb => exact absurd hb (hno2 _ _ _); next => exact h1.det K)
   ·rcases hE with hE | hE
    ·exact h2 E hE m vs hp
    ·cases hE
 ·rename_i i q hi
  split at h <;> (try (cases h; done))
  rename_i ps' hv
  split at h <;> (try (cases h; done))
  rename_i u e w l hb
  refine ⟨.write, .robjs e w l, yO (i :: q) bl ++ [none], .ofWrite fun K => by simp only [yM, hi, hv, hb], fun E hE m vs hp => ?_⟩
  rcases hE with hE | hE
  ·subst hE
   have g := zCC m (i :: q)
   obtain ⟨v', E', e1, e2, e3, e4⟩ := zEw hb r (E.frz (i :: q)) rfl g.mem vs (zDI m hp hv fun j hj => by rw [hi] at hj; exact hj)
   exact ⟨v', E', e1, e2, g.trans e3, e4⟩
  ·cases hE
theorem zIx {t : TypeId} {x : AV} {bl : zC} {K : z9 R} {r : R} (h : zFO C t x bl K = some r) :
  ∃ cat v bl', KS (R := R) (zFO C t x) bl cat v bl' ∧ ∀ E, (E.bl = bl ∨ cat = .pure) → Mem E → ∀ v0, VR E true x v0 → ∃ E', (E'.bl = if cat = .pure then E.bl else bl') ∧ E'.w = E.w ∧ Go E E' ∧ VR E' true v (.iface t v0) := by
 unfold zFO at h
 split at h
 ·rename_i hr
  refine ⟨.pure, .iface t x, bl, .ofPure fun bl K => by simp only [zFO, hr], fun E _ m v0 hv => ⟨E, by simp, rfl, .refl m, .iface _ _ _ _ hv⟩⟩
 ·rename_i hr
  split at h <;> (try (cases h; done))
  rename_i id
  split at h <;> (try (cases h; done))
  rename_i kk nn tF ts k hb
  split at h <;> (try (cases h; done))
  rename_i ht
  subst ht
  refine ⟨.write, .errv tF ts (k % 100 + 100), yO [id] bl, .ofWrite fun K => by simp only [zFO, hr, hb, if_true], fun E hE m v0 hv => ?_⟩
  rcases hE with hE | hE
  ·subst hE
   have g := zCC m [id]
   have bk := m.ok id _ hb
   obtain ⟨v1, c1, hv1⟩ := bk.cells 1 (.errv tF ts k) rfl
   have hv2 := hv1.mono g.step
   have hlen : 2 ≤ (E.loc id).2.2 := by have := bk.len; simpa [zJ, zH, zG] using this
   refine ⟨E.frz [id], by rw [if_neg (by simp)]; rfl, rfl, g, .errv _ _ _ _ _ ⟨?_, fun h => absurd h (by omega)⟩⟩
   rw [show (k % 100 + 100) % 100 = k % 100 by omega]
   cases hv with
   | ptr _ _ a hid hp =>
    obtain ⟨p1, q, p2, p3, p4⟩ := hp _ hb
    have : q = 0 := by simp [yS, zL] at p2; exact p2.symm
    subst this
    cases hv2 with
    | errv _ _ _ _ _ hc0 =>
     have hc := hc0.ch
     refine .wrap a v1 p1 (.inr ⟨id, _, by simp, hb, ?_⟩) (.inr ⟨id, _, by simp, hb, ?_⟩) ?_ hc
     ·exact ⟨p3.symm, by omega, by omega⟩
     ·exact ⟨p3.symm, by omega, by omega⟩
     ·show E.cell a.block (a.off + 1) = some v1
      rw [p3, p4]
      exact c1
  ·cases hE
theorem zID {bl : zC} : ∀ {l m : List AV}, wD bl l = some m → m.length = l.length ∧ ∀ (j : Nat) y, m[j]? = some y → ∃ x, l[j]? = some x ∧ yQ bl x = some y
 | [], m, h => by
  unfold wD at h
  cases h
  exact ⟨rfl, fun j y h => by simp at h⟩
 | x :: l, m, h => by
  unfold wD at h
  split at h <;> (try (cases h; done))
  rename_i y m' hy hm
  cases h
  obtain ⟨h1, h2⟩ := zID hm
  refine ⟨by simp [h1], fun j z hz => ?_⟩
  cases j with
  | zero => simp at hz; subst hz; exact ⟨x, rfl, hy⟩
  | succ j => exact h2 j z (by simpa using hz)
theorem zJk {x : AV} : ∀ {l : List AV} {j : Nat}, l[j]? = some x → ∀ i ∈ ids x, i ∈ qZ l
 | [], j, h, i, hi => by simp at h
 | y :: l, 0, h, i, hi => by
  simp at h; subst h
  unfold qZ
  exact List.mem_append_left _ hi
 | y :: l, j + 1, h, i, hi => by
  unfold qZ
  exact List.mem_append_right _ (zJk (by simpa using h) i hi)
theorem zJz {f : FuncId} {args : List AV} {bl : zC} {K : z9 R} {r : R} (hΓ : ∀ f m, C.Γ f = some m → zE C.P C.G f m) (h : jI C f args bl K = some r) :
  ∃ cat v bl', KS (R := R) (jI C f args) bl cat v bl' ∧ ∀ E, (E.bl = bl ∨ cat = .pure) → Mem E → Glob C.G E → ∀ vs, Args E args vs →
   zAd C.P f vs E.w fun v' w' => ∃ E', E'.w = w' ∧ (E'.bl = if cat = .pure then E.bl else bl') ∧ Go E E' ∧ VR E' true v v' := by
 unfold jI at h
 cases h1 : C.ro (1000000 + f) with
 | true =>
  simp only [h1] at h
  split at h <;> (try (cases h; done))
  rename_i xs hx
  obtain ⟨cat, v, bl', k1, k2⟩ := zAb hΓ h
  refine ⟨.write, v, bl', .ofWrite fun K => by simp only [jI, h1, hx]; exact k1.det _, fun E hE m g vs ha => ?_⟩
  rcases hE with rfl | hE
  ·have go := zCC m (qZ args)
   obtain ⟨v1, v2⟩ := zID hx
   have ha' : Args (E.frz (qZ args)) xs vs := ⟨by rw [ha.size, v1], fun j y c hy hc => by
    obtain ⟨x, hx1, hx2⟩ := v2 j y hy
    exact (jB (wM E (qZ args)) m (ha.vr j x c hx1 hc) hx2 (zJk hx1)).lift⟩
   refine (k2 (E.frz (qZ args)) (.inl rfl) go.mem (g.mono go.step.ro go.step.mp go.fr.keeps) vs ha').mono fun v' w' ⟨E', e1, e2, e3, e4⟩ => ⟨E', e1, ?_, go.trans e3, e4⟩
   rw [e2]
   split
   ·rename_i hc
    rw [if_neg (by simp), (k1.pure hc).1]
    rfl
   ·rw [if_neg (by simp)]
  ·cases hE
 | false =>
  simp only [h1] at h
  cases h2 : C.ro (2000000 + f) with
  | true =>
   simp only [h2] at h
   obtain ⟨cat, v, bl', k1, k2⟩ := zAb hΓ h
   rw [k1.det] at h
   split at h <;> (try (cases h; done))
   rename_i y hy
   split at h <;> (try (cases h; done))
   rename_i hid
   refine ⟨.write, y, yO (ids v) bl', .ofWrite fun K => by simp only [jI, h1, h2]; rw [k1.det]; simp only [hy]; rw [if_pos hid], fun E hE m g vs ha => ?_⟩
   rcases hE with rfl | hE
   ·refine (k2 E (.inl rfl) m g vs ha).mono fun v' w' ⟨E', e1, e2, e3, e4⟩ => ?_
    have e2' : E'.bl = bl' := by
     rw [e2]
     split
     ·rename_i hc; exact (k1.pure hc).1.symm
     ·rfl
    have go := zCC e3.mem (ids v)
    refine ⟨E'.frz (ids v), e1, ?_, e3.trans go, (jB (wM E' (ids v)) e3.mem e4 (by rw [e2']; exact hy) fun i hi => hi).lift⟩
    rw [if_neg (by simp), ← e2']
    rfl
   ·cases hE
  | false =>
   simp only [h2] at h
   obtain ⟨cat, v, bl', k1, k2⟩ := zAb hΓ h
   refine ⟨cat, v, bl', ⟨fun K => by simp only [jI, h1, h2]; exact k1.det K, fun hc => ⟨(k1.pure hc).1, fun bl2 K => by simp only [jI, h1, h2]; exact (k1.pure hc).2 bl2 K⟩, k1.read⟩, k2⟩
theorem zEH (hΓ : ∀ f m, C.Γ f = some m → zE C.P C.G f m) {o : Oper} {ev : Operand → AV} {bl : zC} {K : z9 R} {r : R} (h : opK C o ev bl K = some r) :
  ∃ cat v bl', OpS R C o ev bl cat v bl' := by
 obtain ⟨dst, op, ty, ps, af, gd⟩ := o
 cases op with
 | move x => exact ⟨.pure, ev x, bl, .ofVal (F := fun K => K (ev x)) (fun _ _ => rfl) (fun _ => rfl) fun E a m hg hv => ⟨_, rfl, hv x⟩⟩
 | assign x => exact ⟨.pure, ev x, bl, .ofVal (F := fun K => K (ev x)) (fun _ _ => rfl) (fun _ => rfl) fun E a m hg hv => ⟨_, rfl, hv x⟩⟩
 | pick c a b =>
  simp only [opK] at h
  split at h
  ·rename_i t ht
   cases t with
   | true => exact ⟨.pure, ev a, bl, .ofVal (F := fun K => K (ev a)) (fun bl K => by simp [opK, ht]) (fun _ => rfl) fun E ac m hg hv => ⟨ac.eval a, by have := hv c; rw [ht] at this; simp [execOp, this.bool_inv, asBool], hv a⟩⟩
   | false => exact ⟨.pure, ev b, bl, .ofVal (F := fun K => K (ev b)) (fun bl K => by simp [opK, ht]) (fun _ => rfl) fun E ac m hg hv => ⟨ac.eval b, by have := hv c; rw [ht] at this; simp [execOp, this.bool_inv, asBool], hv b⟩⟩
  ·cases h
 | alloc t =>
  simp only [opK] at h
  split at h
  ·rename_i z hz
   obtain ⟨i, v, h1, h2, h3, h4, h5, h6, h7⟩ := yZ hz
   refine ⟨.write, .ptr bl.length [], bl ++ [some (.var z)], .ofOut (F := opK C _ ev) (fun _ _ => rfl) (.ofWrite fun K => by simp only [opK, hz]) fun E a hE m hv => ⟨Instr.alloc t true (.tuple #[]), rfl, ?_⟩⟩
   rcases hE with rfl | hE
   ·obtain ⟨E', g1, g2, g3, g4⟩ := zDX t m (h4 E true) ⟨h6, h7⟩
    exact ⟨_, E', by simp [Instr.alloc, h3, zAC, g1], by simp [g2], g3, g4⟩
   ·cases hE
  ·cases h
 | box t x =>
  cases hro : zJh C t (ev x) with
  | true =>
   exact ⟨.pure, .rptr (ev x), bl, .ofOut (F := opK C _ ev) (fun _ _ => rfl) (.ofPure fun bl K => by simp only [opK, hro]) fun E a hE m hv => ⟨Instr.box t (a.eval x), rfl, zFw hro m (hv x)⟩⟩
  | false =>
  simp only [opK, hro] at h
  have key : (ev x ≠ .any ∧ ∀ vs, ev x ≠ .tup vs) → ∃ cat v bl', OpS R C ⟨dst, .box t x, ty, ps, af, gd⟩ ev bl cat v bl' := fun hx => by
   refine ⟨.write, .ptr bl.length [], bl ++ [some (.var (ev x))], .ofOut (F := opK C _ ev) (fun _ _ => rfl) (.ofWrite fun K => ?_) fun E a hE m hv => ⟨Instr.box t (a.eval x), rfl, ?_⟩⟩
   ·simp only [opK, hro]
    split
    ·rename_i e; exact absurd e hx.1
    ·rename_i vs e; exact absurd e (hx.2 vs)
    ·rfl
   ·rcases hE with rfl | hE
    ·obtain ⟨E', g1, g2, g3, g4⟩ := zDX t m (hv x) hx
     exact ⟨_, E', by simp [Instr.box, zAC, g1], by simp [g2], g3, g4⟩
    ·cases hE
  split at h
  ·cases h
  ·cases h
  ·rename_i h1 h2
   exact key ⟨h1, h2⟩
 | build t parts =>
  simp only [opK] at h
  obtain ⟨v, h1, h2⟩ := zIo h
  refine ⟨.pure, v, bl, .ofVal (F := zFe C t _) (fun _ _ => rfl) h1 fun E a m hg hv => ?_⟩
  obtain ⟨v', h3⟩ := h2 E (parts.map fun p => (p.1, a.eval p.2)) (by simpa using zEG hv parts.toList)
  exact ⟨v', by simp [execOp, (h3 E.w).1], (h3 E.w).2⟩
 | buildSlice t n parts =>
  simp only [opK] at h
  obtain ⟨cat, v, bl', h1, h2⟩ := zEv h
  exact ⟨cat, v, bl', .ofOut (F := yM C t n _) (fun _ _ => rfl) h1 fun E a hE m hv => ⟨_, rfl, h2 E hE m _ (by simpa using zEG hv parts.toList)⟩⟩
 | load t x =>
  simp only [opK] at h
  obtain ⟨cat, v, h1, h2, h3⟩ := zFo h
  refine ⟨cat, v, bl, .ofMem (F := zBq C t (ev x)) (fun _ _ => rfl) h1 fun E a hE m hv => ?_⟩
  obtain ⟨v', h4, h5⟩ := h3 E hE m _ (hv x)
  exact ⟨v', by simp [execOp, h4], h5⟩
 | store t p x =>
  simp only [opK] at h
  obtain ⟨bl', h1, h2⟩ := zHJ h
  refine ⟨.write, .any, bl', ⟨h1, fun E a hE m hg hv => ?_⟩⟩
  rcases hE with hE | hE
  ·obtain ⟨E', g1, g2, g3⟩ := h2 E hE m _ _ (hv p) (hv x)
   exact .skip (w' := E'.w) (by simp [execOp, g1]) ⟨E', rfl, by simp [g2], g3, .any _ _⟩
  ·cases hE
 | nilCheck x =>
  simp only [opK] at h
  split at h
  ·rename_i id p hx
   refine ⟨.pure, .ptr id p, bl, .ofVal (F := fun K => K (.ptr id p)) (fun bl K => by simp only [opK, hx]) (fun _ => rfl) fun E a m hg hv => ?_⟩
   have hh := hv x
   rw [hx] at hh
   cases hu : a.eval x <;> rw [hu] at hh <;> (try (cases hh; done))
   rename_i ad
   cases ad with
   | none => cases hh
   | some ad => exact ⟨_, by simp only [execOp, hu]; rfl, hh⟩
  ·rename_i y hx
   refine ⟨.pure, .rptr y, bl, .ofVal (F := fun K => K (.rptr y)) (fun bl K => by simp only [opK, hx]) (fun _ => rfl) fun E a m hg hv => ?_⟩
   have hh := hv x
   rw [hx] at hh
   cases hu : a.eval x <;> rw [hu] at hh <;> (try (cases hh; done))
   rename_i ad
   cases ad with
   | none => cases hh
   | some ad => exact ⟨_, by simp only [execOp, hu]; rfl, hh⟩
  ·rename_i f l l' hx
   refine ⟨.pure, .fn (.func f) l l', bl, .ofVal (F := fun K => K (.fn (.func f) l l')) (fun bl K => by simp only [opK, hx]) (fun _ => rfl) fun E a m hg hv => ?_⟩
   have hh := hv x
   rw [hx] at hh
   cases hu : a.eval x <;> rw [hu] at hh <;> (try (cases hh; done))
   rename_i f' as bs
   have : f' = .func f := by cases hh; rfl
   subst this
   exact ⟨_, by simp only [execOp, hu]; rfl, hh⟩
  ·cases h
 | binOp op t x y b5 =>
  have aggI : ∀ {k n l} (E : Env) v, VR E true (.ints k n l) v → (∃ cs, v = .agg cs) ∨ ∃ b, v = .bool b := fun E v h => by cases h; exact .inl ⟨_, rfl⟩
  have aggA : ∀ {l} (E : Env) v, VR E true (.agg l) v → (∃ cs, v = .agg cs) ∨ ∃ b, v = .bool b := fun E v h => by cases h; exact .inl ⟨_, rfl⟩
  have aggB : ∀ {b} (E : Env) v, VR E true (.bool b) v → (∃ cs, v = .agg cs) ∨ ∃ b, v = .bool b := fun E v h => by cases h; exact .inr ⟨_, rfl⟩
  have h0 := h
  simp only [opK] at h
  split at h
  ·rename_i hx hy
   exact zBx rfl (fun b => b) (.inl ⟨rfl, rfl⟩) hx hy aggI aggI (fun bl K => by simp only [opK, hx, hy]) h0
  ·rename_i hx hy
   exact zBx rfl (fun b => !b) (.inr ⟨rfl, rfl⟩) hx hy aggI aggI (fun bl K => by simp only [opK, hx, hy]) h0
  ·rename_i hx hy
   exact zBx rfl (fun b => b) (.inl ⟨rfl, rfl⟩) hx hy aggA aggA (fun bl K => by simp only [opK, hx, hy]) h0
  ·rename_i hx hy
   exact zBx rfl (fun b => !b) (.inr ⟨rfl, rfl⟩) hx hy aggA aggA (fun bl K => by simp only [opK, hx, hy]) h0
  ·rename_i hx hy
   exact zBx rfl (fun b => b) (.inl ⟨rfl, rfl⟩) hx hy aggB aggB (fun bl K => by simp only [opK, hx, hy]) h0
  ·rename_i hx hy
   exact zBx rfl (fun b => !b) (.inr ⟨rfl, rfl⟩) hx hy aggB aggB (fun bl K => by simp only [opK, hx, hy]) h0
  ·rename_i hx hy
   split at h <;> (try (cases h; done))
   rename_i ms hu
   exact zHc rfl hu (.inl ⟨rfl, rfl⟩) hx fun bl K => by simp only [opK, hx, hy, hu]
  ·rename_i hx hy
   split at h <;> (try (cases h; done))
   rename_i ms hu
   exact zHc rfl hu (.inr ⟨rfl, rfl⟩) hx fun bl K => by simp only [opK, hx, hy, hu]
  ·rename_i hx hy
   split at h <;> (try (cases h; done))
   rename_i ms hu
   exact zFS rfl hu (.inl ⟨rfl, rfl⟩) hx fun bl K => by simp only [opK, hx, hy, hu]
  ·rename_i hx hy
   split at h <;> (try (cases h; done))
   rename_i ms hu
   exact zFS rfl hu (.inr ⟨rfl, rfl⟩) hx fun bl K => by simp only [opK, hx, hy, hu]
  ·rename_i hx hy
   split at h <;> (try (cases h; done))
   rename_i ms hu
   exact zGr rfl hu (.inl ⟨rfl, rfl⟩) hx fun bl K => by simp only [opK, hx, hy, hu]
  ·rename_i hx hy
   split at h <;> (try (cases h; done))
   rename_i ms hu
   exact zGr rfl hu (.inr ⟨rfl, rfl⟩) hx fun bl K => by simp only [opK, hx, hy, hu]
  ·obtain ⟨v, v', h1, h2, h3⟩ := zKq h
   refine ⟨.pure, v, bl, .ofVal (F := zMW _ (ev x) (ev y)) (fun bl K => ?_) h1 fun E a m hg hv => ⟨v', ?_, h2.vr E true⟩⟩
   ·simp only [opK]
   ·have := h3 C.P E _ _ (hv x) (hv y) E.w t x y
    simp only [execOp]
    simp only [Sem.run_bind] at this ⊢
    rw [this]
    rfl
 | unOp op t x =>
  simp only [opK] at h
  obtain ⟨v, v', h1, h2, h3⟩ := zKY h
  refine ⟨.pure, v, bl, .ofVal (F := unK op (ev x)) (fun _ _ => rfl) h1 fun E a m hg hv => ⟨v', by simp [execOp, h3 C.P E _ (hv x) E.w], h2.vr E true⟩⟩
 | convert s d x =>
  simp only [opK] at h
  obtain ⟨cat, v, bl', h1, h2⟩ := zJw h
  exact ⟨cat, v, bl', .ofOut (F := zAZ C s d (ev x)) (fun _ _ => rfl) h1 fun E a hE m hv => ⟨_, rfl, h2 E hE m _ (hv x)⟩⟩
 | sliceToArrayPointer t x =>
  simp only [opK] at h
  obtain ⟨cat, v, h1, h2, h3⟩ := zFF h
  refine ⟨cat, v, bl, .ofMem (F := qS C t (ev x)) (fun _ _ => rfl) h1 fun E a hE m hv => ?_⟩
  obtain ⟨v', h4, h5⟩ := h3 E hE m _ (hv x)
  exact ⟨v', by simp [execOp, h4], h5⟩
 | makeInterface t x =>
  simp only [opK] at h
  split at h
  ·cases h
  ·rename_i d hnd hd
   obtain ⟨cat, v, bl', h1, h2⟩ := zIx h
   refine ⟨cat, v, bl', .ofOut (F := zFO C t (ev x)) (fun bl K => ?_) h1 fun E a hE m hv => ⟨Instr.makeInterface t (a.eval x), by simp only [execOp], ?_⟩⟩
   ·simp only [opK]
    split
    ·rename_i hi; rw [hd] at hi; cases hi; exact absurd rfl (hnd _)
    ·rfl
    ·rename_i hi; rw [hd] at hi; cases hi
   ·obtain ⟨E', e1, e2, e3, e4⟩ := h2 E hE m _ (hv x)
    refine ⟨.iface t (a.eval x), E', ?_, e1, e3, e4⟩
    rw [e2]
    simp only [Instr.makeInterface]
    cases d <;> first
     | exact absurd rfl (hnd _)
     | simp [run_underlying hd]
  ·cases h
 | makeFunc f xs ys =>
  simp only [opK] at h
  refine ⟨.pure, _, bl, .ofVal (F := fun K => K (.fn f (xs.toList.map ev) (ys.toList.map ev))) (fun _ _ => rfl) (fun _ => rfl) fun E a m hg hv => ⟨.func f (xs.map a.eval) (ys.map a.eval), rfl, ?_⟩⟩
  have g1 := zCO hv xs
  have g2 := zCO hv ys
  exact .fn _ _ _ _ _ _ g1.size g2.size g1.vr g2.vr
 | makeSlice t l c =>
  simp only [opK] at h
  obtain ⟨v, bl', h1, h2⟩ := zEL h
  refine ⟨.write, v, bl', .ofOut (F := jX C t (ev l) (ev c)) (fun _ _ => rfl) h1 fun E a hE m hv => ⟨_, rfl, ?_⟩⟩
  rcases hE with hE | hE
  ·exact h2 E hE m _ _ (hv l) (hv c)
  ·cases hE
 | slice t x lo hi mx =>
  cases mx with
  | some y => simp [opK] at h
  | none =>
   simp only [opK] at h
   obtain ⟨cat, v, h1, h2, h3⟩ := zHN h
   refine ⟨cat, v, bl, .ofMem (F := jW C t (ev x) (lo.map ev) (hi.map ev)) (fun _ _ => rfl) h1 fun E a hE m hv => ?_⟩
   obtain ⟨v', h4, h5⟩ := h3 E hE m _ _ _ (hv x) (zIS hv lo) (zIS hv hi)
   exact ⟨v', by simp [execOp, h4], h5⟩
 | fieldAddr t x f =>
  simp only [opK] at h
  obtain ⟨cat, v, h1, h2, h3⟩ := zEZ h
  refine ⟨cat, v, bl, .ofMem (F := qK C t (ev x) f) (fun _ _ => rfl) h1 fun E a hE m hv => ?_⟩
  obtain ⟨v', h4, h5⟩ := h3 E hE m _ (hv x)
  exact ⟨v', by simp [execOp, h4], h5⟩
 | field t x f =>
  simp only [opK] at h
  obtain ⟨v, h1, h2⟩ := zIk h
  refine ⟨.pure, v, bl, .ofVal (F := zEY C t (ev x) f) (fun _ _ => rfl) h1 fun E a m hg hv => ?_⟩
  obtain ⟨v', h3⟩ := h2 E true _ (hv x)
  exact ⟨v', by simp [execOp, (h3 E.w).1], (h3 E.w).2⟩
 | indexAddr t x ix =>
  simp only [opK] at h
  obtain ⟨cat, v, h1, h2, h3⟩ := zER h
  refine ⟨cat, v, bl, .ofMem (F := yT C t (ev x) (ev ix)) (fun _ _ => rfl) h1 fun E a hE m hv => ?_⟩
  obtain ⟨v', h4, h5⟩ := h3 E hE m _ _ (hv x) (hv ix)
  exact ⟨v', by simp [execOp, h4], h5⟩
 | index t x ix =>
  simp only [opK] at h
  obtain ⟨v, h1, h2⟩ := zIf h
  refine ⟨.pure, v, bl, .ofVal (F := zCz C t (ev x) (ev ix)) (fun _ _ => rfl) h1 fun E a m hg hv => ?_⟩
  obtain ⟨v', h3⟩ := h2 E true _ _ (hv x) (hv ix)
  exact ⟨v', by simp [execOp, (h3 E.w).1], (h3 E.w).2⟩
 | makeMap t res =>
  cases res with
  | some _ => simp [opK] at h
  | none =>
   simp only [opK] at h
   obtain ⟨cat, v, bl', h1, h2⟩ := zGd h
   exact ⟨cat, v, bl', .ofOut (F := jQ C t) (fun _ _ => rfl) h1 fun E a hE m hv => ⟨_, rfl, h2 E hE m⟩⟩
 | lookup t x k ok =>
  simp only [opK] at h
  obtain ⟨cat, v, h1, h2, h3⟩ := zJb h
  refine ⟨cat, v, bl, .ofMem (F := zEe C t (ev x) (ev k) ok) (fun _ _ => rfl) h1 fun E a hE m hv => ?_⟩
  obtain ⟨v', h4, h5⟩ := h3 E hE m _ _ (hv x) (hv k)
  exact ⟨v', by simp [execOp, h4], h5⟩
 | mapUpdate t x k y =>
  simp only [opK] at h
  obtain ⟨bl', h1, h2⟩ := zGL h
  refine ⟨.write, .any, bl', ⟨h1, fun E a hE m hg hv => ?_⟩⟩
  rcases hE with hE | hE
  ·obtain ⟨E', g1, g2, g3⟩ := h2 E hE m _ _ _ (hv x) (hv k) (hv y)
   exact .skip (w' := E'.w) (by simp [execOp, g1]) ⟨E', rfl, by simp [g2], g3, .any _ _⟩
  ·cases hE
 | extract t i =>
  simp only [opK] at h
  split at h
  ·rename_i vs ht
   split at h
   ·rename_i v hi
    refine ⟨.pure, v, bl, .ofVal (F := fun K => K v) (fun bl K => by simp only [opK, ht, hi]) (fun _ => rfl) fun E a m hg hv => ?_⟩
    have := hv t
    rw [ht] at this
    cases hh : a.eval t with
    | tuple cs =>
     rw [hh] at this
     cases this with
     | tup _ _ _ hs hr =>
      have hlt : i < cs.size := by rw [hs]; exact (List.getElem?_eq_some_iff.1 hi).1
      exact ⟨cs[i], by simp [execOp, hh, Instr.extract, Array.getElem?_eq_getElem hlt], hr i v _ hi (Array.getElem?_eq_getElem hlt)⟩
    | _ => rw [hh] at this; cases this
   ·cases h
  ·cases h
 | call c =>
  simp only [opK] at h
  split at h
  ·rename_i f hc
   split at h
   ·rename_i g l l' hf
    obtain ⟨cat, v, bl', h1, h2⟩ := zJz hΓ h
    refine ⟨cat, v, bl', ⟨?_, fun E a hE m hg hv => ?_⟩⟩
    ·have hF : ∀ bl (K : z9 R), opK C ⟨dst, .call c, ty, ps, af, gd⟩ ev bl K = jI C g (l ++ c.args.toList.map ev ++ l') bl K := fun bl K => by simp only [opK, hc, hf]
     exact ⟨fun K => by rw [hF]; exact h1.det K, fun hcat => ⟨(h1.pure hcat).1, fun b2 K => by rw [hF]; exact (h1.pure hcat).2 b2 K⟩, h1.read⟩
    ·have hh := hv f
     rw [hf] at hh
     cases hu : a.eval f <;> rw [hu] at hh <;> (try (cases hh; done))
     rename_i f' as bs
     have : f' = .func g := by cases hh; rfl
     subst this
     have ga : Args E l as ∧ Args E l' bs := by
      cases hh with
      | fn _ _ _ _ _ _ h1 h2 g1 g2 => exact ⟨⟨h1, g1⟩, ⟨h2, g2⟩⟩
     have := h2 E hE m hg (as ++ c.args.map a.eval ++ bs) (zFy (zFy ga.1 (zCO hv c.args)) ga.2)
     have hx : execOp a.eval ⟨dst, .call c, ty, ps, af, gd⟩ = callFunc g (as ++ c.args.map a.eval ++ bs) := by
      simp only [execOp, resolve, hc, hu, Deferred.ofValue, pure_bind]
      simp only [invoke]
     intro next Q hn
     unfold Oper.wp
     rw [hx]
     rcases this with ⟨fn, k1, k2, k3, k4⟩ | ⟨v', w', k1, k2⟩
     ·have hr : (callFunc g (as ++ c.args.map a.eval ++ bs)).run C.P E.w = .ok (.enter g (as ++ c.args.map a.eval ++ bs)) E.w := by
       have k3' : fn.body ≠ none := fun e => by rw [e] at k3; cases k3
       simp [callFunc, k1, k2, k3']
      rw [hr]
      simp only [Oper.upon]
      refine k4.mono fun e w' ⟨v', he, hq⟩ => ?_
      subst he
      exact hn v' w' hq
     ·rw [k1]
      exact hn v' w' k2
   ·cases h
  ·rename_i b hc
   have hx : ∀ (a : Act), execOp a.eval ⟨dst, .call c, ty, ps, af, gd⟩ = builtin b c.argTypes ty (c.args.map fun | .const _ => true | _ => false) (c.args.map a.eval) := fun a => by
    simp only [execOp, resolve, hc]
    rfl
   have two : ∀ {x y : AV}, c.args.toList.map ev = [x, y] → ∀ (E : Env) (a : Act), (∀ x, VR E true (ev x) (a.eval x)) → ∃ x' y', c.args.map a.eval = #[x', y'] ∧ VR E true x x' ∧ VR E true y y' := by
    intro x y he E a hv
    cases hargs : c.args with
    | mk al =>
    rw [hargs] at he
    match al, he with
    | [p, q], he =>
     simp at he
     obtain ⟨rfl, rfl⟩ := he
     exact ⟨a.eval p, a.eval q, by simp, hv p, hv q⟩
   have one : ∀ {x : AV}, c.args.toList.map ev = [x] → ∀ (E : Env) (a : Act), (∀ x, VR E true (ev x) (a.eval x)) → ∃ x', c.args.map a.eval = #[x'] ∧ VR E true x x' := by
    intro x he E a hv
    cases hargs : c.args with
    | mk al =>
    rw [hargs] at he
    match al, he with
    | [p], he =>
     simp at he
     subst he
     exact ⟨a.eval p, by simp, hv p⟩
   split at h
   ·rename_i t ts x ht hxs
    obtain ⟨cat, v, h1, h2, h3⟩ := zKe h
    refine ⟨cat, v, bl, .ofMem (F := zEf C t x) (fun _ _ => by simp only [opK, hc, ht, hxs]) h1 fun E a hE m hv => ?_⟩
    obtain ⟨x', g1, g2⟩ := one hxs E a hv
    obtain ⟨v', h4, h5⟩ := h3 E hE m x' c.argTypes ty (by rw [← Array.getElem?_toList, ht]; rfl) g2
    exact ⟨v', by rw [hx, g1]; simp [builtin, h4], h5⟩
   ·rename_i t tx s x ht hxs
    obtain ⟨cat, v, bl', h1, h2⟩ := zGO h
    refine ⟨cat, v, bl', .ofOut (F := wW C t tx s x) (fun _ _ => by simp only [opK, hc, ht, hxs]) h1 fun E a hE m hv => ?_⟩
    obtain ⟨x', y', g1, g2, g3⟩ := two hxs E a hv
    have ht' : c.argTypes = #[t, tx] := Array.ext' (by simpa using ht)
    exact ⟨_, by rw [hx, g1]; rfl, by rw [ht']; exact h2 E hE m x' y' ty g2 g3⟩
   ·rename_i t ts x ht hxs
    obtain ⟨v, h1, h3⟩ := zKn h
    refine ⟨.pure, v, bl, .ofMem (F := zLA C t x) (fun _ _ => by simp only [opK, hc, ht, hxs]) h1 fun E a hE m hv => ?_⟩
    obtain ⟨x', g1, g2⟩ := one hxs E a hv
    obtain ⟨v', h4, h5⟩ := h3 E x' c.argTypes ty (by rw [← Array.getElem?_toList, ht]; rfl) g2
    exact ⟨v', by rw [hx, g1]; simp [builtin, h4], h5⟩
   ·rename_i t ts d x ht hxs
    obtain ⟨v, bl', h1, h2⟩ := zJv h
    refine ⟨.write, v, bl', .ofOut (F := zGv C t d x) (fun _ _ => by simp only [opK, hc, ht, hxs]) h1 fun E a hE m hv => ?_⟩
    obtain ⟨x', y', g1, g2, g3⟩ := two hxs E a hv
    rcases hE with hE | hE
    ·exact ⟨_, by rw [hx, g1]; rfl, h2 E hE m x' y' c.argTypes ty (by rw [← Array.getElem?_toList, ht]; rfl) g2 g3⟩
    ·cases hE
   ·rename_i t ts x k ht hxs
    obtain ⟨bl', h1, h2⟩ := zGN h
    refine ⟨.write, .any, bl', .ofOut (F := zDc C t x k) (fun _ _ => by simp only [opK, hc, ht, hxs]) h1 fun E a hE m hv => ?_⟩
    obtain ⟨x', y', g1, g2, g3⟩ := two hxs E a hv
    rcases hE with hE | hE
    ·exact ⟨_, by rw [hx, g1]; rfl, h2 E hE m x' y' c.argTypes ty (by rw [← Array.getElem?_toList, ht]; rfl) g2 g3⟩
    ·cases hE
   ·obtain ⟨v, h1, h2⟩ := zKb h
    refine ⟨.pure, v, bl, .ofVal (F := zMp (c.args.toList.map ev)) (fun bl K => by simp only [opK, hc]) h1 fun E a m hg hv => ?_⟩
    obtain ⟨v', h3, h4⟩ := h2 C.P E _ (zCO hv c.args) c.argTypes ty E.w
    exact ⟨v', by rw [hx]; simp [builtin, h3], h4⟩
   ·obtain ⟨v, h1, h2⟩ := zKa h
    refine ⟨.pure, v, bl, .ofVal (F := zMo (c.args.toList.map ev)) (fun bl K => by simp only [opK, hc]) h1 fun E a m hg hv => ?_⟩
    obtain ⟨v', h3, h4⟩ := h2 C.P E _ (zCO hv c.args) c.argTypes ty E.w
    exact ⟨v', by rw [hx]; simp [builtin, h3], h4⟩
   ·cases h
  ·cases h
 | _ => simp [opK] at h
def OpA (R : Type) (C : Ctx) (rs : Option Nat) (o : Oper) (ev : Operand → AV) (bl : zC) (cat : Cat) (v : AV) (bl' : zC) : Prop :=
 KS (R := R) (opA C rs o ev) bl cat v bl' ∧ ∀ E (a : Act), (E.bl = bl ∨ cat = .pure) → Mem E → Glob C.G E → (∀ x, VR E true (ev x) (a.eval x)) → zAS C.P o a E.w (Done E cat v bl')
theorem zAt {id : Nat} {o : Oper} {ev : Operand → AV} (h : zLl o.op = false) : opA (R := R) C (some id) o ev = opK C o ev := by
 obtain ⟨dst, op, ty, ps, af, gd⟩ := o
 cases op <;> first
  | rfl
  | cases h
theorem zBr {id : Nat} {v : AV} {bl : zC} {K : z9 R} {r : R} (h : zAl id v bl K = some r) : zF bl id = some .free ∧ ∀ K2 : z9 R, zAl id v bl K2 = K2 .write (.ptr id []) (bl.set id (some (.var v))) := by
 unfold zAl at h
 split at h
 ·rename_i hb
  exact ⟨hb, fun K2 => by simp only [zAl, hb]⟩
 ·cases h
theorem zHa (hΓ : ∀ f m, C.Γ f = some m → zE C.P C.G f m) {rs : Option Nat} {o : Oper} {ev : Operand → AV} {bl : zC} {K : z9 R} {r : R} (h : opA C rs o ev bl K = some r) :
  ∃ cat v bl', OpA R C rs o ev bl cat v bl' := by
 cases rs with
 | none => exact zEH hΓ h
 | some id =>
 by_cases hal : zLl o.op = false
 ·rw [zAt hal] at h
  obtain ⟨cat, v, bl', h1, h2⟩ := zEH hΓ h
  exact ⟨cat, v, bl', by rw [zAt hal]; exact h1, h2⟩
 obtain ⟨dst, op, ty, ps, af, gd⟩ := o
 cases op <;> first
  | exact absurd rfl hal
  | skip
 case alloc t =>
  simp only [opA] at h
  split at h
  ·rename_i z hz
   obtain ⟨hb, hd⟩ := zBr h
   obtain ⟨i, v, h1, h2, h3, h4, h5, h6, h7⟩ := yZ hz
   refine ⟨.write, .ptr id [], bl.set id (some (.var z)), .ofWrite fun K => by simp only [opA, hz, hd], fun E a hE m hg hv => ?_⟩
   rcases hE with rfl | hE
   ·obtain ⟨E', g1, g2, g3, g4⟩ := zDo t m hb (h4 E true) ⟨h6, h7⟩
    refine zEo (s := Instr.alloc t true (.tuple #[])) rfl ⟨_, E', by simp [Instr.alloc, h3, zAC, g1], by simp [g2], g3, g4⟩
   ·cases hE
  ·cases h
 case box t x =>
  cases hro : zJh C t (ev x) with
  | true =>
   refine ⟨.pure, .rptr (ev x), bl, .ofPure fun bl K => by simp only [opA, hro], fun E a hE m hg hv => ?_⟩
   exact zEo (s := Instr.box t (a.eval x)) rfl (zFw hro m (hv x))
  | false =>
  simp only [opA, hro] at h
  have key : ∀ bl (K : z9 R), ev x ≠ .any → (∀ vs, ev x ≠ .tup vs) → opA C (some id) ⟨dst, .box t x, ty, ps, af, gd⟩ ev bl K = zAl id (ev x) bl K := fun bl K g1 g2 => by
   simp only [opA, hro]
  split at h
  ·cases h
  ·cases h
  ·rename_i h1 h2
   obtain ⟨hb, hd⟩ := zBr h
   refine ⟨.write, .ptr id [], bl.set id (some (.var (ev x))), .ofWrite fun K => by rw [key bl K h1 h2, hd], fun E a hE m hg hv => ?_⟩
   rcases hE with rfl | hE
   ·obtain ⟨E', g1, g2, g3, g4⟩ := zDo t m hb (hv x) ⟨h1, h2⟩
    refine zEo (s := Instr.box t (a.eval x)) rfl ⟨_, E', by simp [Instr.box, zAC, g1], by simp [g2], g3, g4⟩
   ·cases hE
end
end Go.Abs
end
