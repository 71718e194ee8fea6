/- An executor of the model's code over abstract values, and that it is right: what it tells of a run is what the run does. No condition. -/
import Derived.Test.YtkknbhapkdgcjaaDoorAbsM2
import Derived.Laws.StructEq
import Derived.DeepKeys
import Derived.Deep.Upon
import Derived.Lib.AppendZerosOnto
section
set_option linter.unusedVariables false
set_option linter.unusedSimpArgs false
namespace Go.Abs
open Go
section
variable {R : Type} {C : Ctx}
theorem capK_sound {t : TypeId} {x : AV} {bl : Blks} {K : Kont R} {r : R} (h : capK C t x bl K = some r) :
    ∃ v, KS (R := R) (capK C t x) bl .pure v bl ∧ ∀ E : Env, ∀ a (ts : Array TypeId) ty, ts[0]? = some t → VR E true x a → ∃ v', (Builtin.cap_ ts ty #[a]).run C.P E.w = .ok v' E.w ∧ VR E true v v' := by
  unfold capK at h
  split at h <;> (try (cases h; done))
  rename_i e hu
  exact ⟨.int .i64 0, .ofPure fun bl K => by simp only [capK, hu], fun E a ts ty hts ha => ⟨_, by cases ha; simp [Builtin.cap_, hts, run_underlying hu, goInt], .int _ _ _⟩⟩
theorem lenK_sound {t : TypeId} {x : AV} {bl : Blks} {K : Kont R} {r : R} (h : lenK C t x bl K = some r) :
    ∃ cat v, KS (R := R) (lenK C t x) bl cat v bl ∧ cat ≠ .write ∧ ∀ E, (E.bl = bl ∨ cat = .pure) → Mem E → ∀ a (ts : Array TypeId) ty, ts[0]? = some t → VR E true x a → ∃ v', (Builtin.len_ ts ty #[a]).run C.P E.w = .ok v' E.w ∧ VR E true v v' := by
  unfold lenK at h
  split at h <;> (try (cases h; done))
  · rename_i s hu
    exact ⟨.pure, .int .i64 s.size, .ofPure fun bl K => by simp only [lenK, hu], by simp, fun E hE m a ts ty hts ha => ⟨_, by cases ha; simp [Builtin.len_, hts, run_underlying hu, goInt], .int _ _ _⟩⟩
  · rename_i e hu
    exact ⟨.pure, .int .i64 0, .ofPure fun bl K => by simp only [lenK, hu], by simp, fun E hE m a ts ty hts ha => ⟨_, by cases ha; simp [Builtin.len_, hts, run_underlying hu, goInt], .int _ _ _⟩⟩
  · rename_i e k l hu
    exact ⟨.pure, .int .i64 l.length, .ofPure fun bl K => by simp only [lenK, hu], by simp, fun E hE m a ts ty hts ha => ⟨_, by cases ha; simp [Builtin.len_, hts, run_underlying hu, goInt], .int _ _ _⟩⟩
  · rename_i e e' w l hu
    exact ⟨.pure, .int .i64 l.length, .ofPure fun bl K => by simp only [lenK, hu], by simp, fun E hE m a ts ty hts ha => ⟨_, by cases ha; simp [Builtin.len_, hts, run_underlying hu, goInt], .int _ _ _⟩⟩
  · rename_i e i1 i2 i3 n i4 hu
    exact ⟨.pure, .int .i64 n, .ofPure fun bl K => by simp only [lenK, hu], by simp, fun E hE m a ts ty hts ha => ⟨_, by cases ha; simp [Builtin.len_, hts, run_underlying hu, goInt], .int _ _ _⟩⟩
  · rename_i e id w hu
    split at h <;> (try (cases h; done))
    all_goals
      rename_i l hb
      refine ⟨.read, .int .i64 l.length, .ofRead fun K => by simp only [lenK, hu, hb], by simp, fun E hE m a ts ty hts ha => ?_⟩
      rcases hE with rfl | hE
      · cases ha with
        | own _ _ len a cap hid hc hh =>
          obtain ⟨g1, _⟩ := hh _ hb
          simp [rowB] at g1
          exact ⟨_, by simp [Builtin.len_, hts, run_underlying hu, goInt]; rfl, by rw [g1.2]; exact .int _ _ _⟩
      · cases hE
  · rename_i x n e hu
    refine ⟨.pure, .int .i64 n, .ofPure fun bl K => by simp only [lenK, hu], by simp, fun E hE m a ts ty hts ha => ⟨.int .i64 n, ?_, .int _ _ _⟩⟩
    simp [Builtin.len_, hts, run_underlying hu, goInt]
theorem arrayPtrK_sound {t : TypeId} {x : AV} {bl : Blks} {K : Kont R} {r : R} (h : arrayPtrK C t x bl K = some r) :
    ∃ cat v, KS (R := R) (arrayPtrK C t x) bl cat v bl ∧ cat ≠ .write ∧ ∀ E, (E.bl = bl ∨ cat = .pure) → Mem E → ∀ a, VR E true x a → ∃ v', (Instr.arrayAt t a).run C.P E.w = .ok v' E.w ∧ VR E true v v' := by
  unfold arrayPtrK at h
  split at h <;> (try (cases h; done))
  · rename_i n e k l hu
    split at h <;> (try (cases h; done))
    rename_i hn
    split at h <;> (try (cases h; done))
    rename_i hn0
    refine ⟨.pure, .rptr (.ints k n (l.take n)), .ofPure fun bl K => by simp only [arrayPtrK, hu, hn, if_true]; exact if_pos hn0, by simp, fun E hE m a ha => ?_⟩
    cases ha with
    | rints _ _ _ a cap hc hh =>
      obtain ⟨ad, rfl, g1, _⟩ := hh 0 (by omega)
      obtain ⟨ab, ao, as⟩ := ad
      simp at g1; subst g1
      have hh' : ∀ i, i < l.length → E.ro ab (ao + i) ∧ E.cell ab (ao + i) = some (.int k (l.getD i 0)) := fun i hi => by
        obtain ⟨ad, e, _, g2, g3⟩ := hh i hi
        cases e
        exact ⟨g2, g3⟩
      refine ⟨.pointer (some ⟨ab, ao, none⟩), by simp [Instr.arrayAt, run_underlying hu, Nat.not_lt.2 hn], ?_⟩
      have hz : ∀ (j : Nat) y, (flat (.ints k n (l.take n)))[j]? = some y → j < l.length ∧ y = .int k (l.getD j 0) := fun j y hy => by
        simp only [flat, List.getElem?_map, List.getElem?_take] at hy
        split at hy
        · rename_i hj
          have hjl : j < l.length := by omega
          simp [List.getElem?_eq_getElem hjl] at hy
          exact ⟨hjl, by simp [List.getElem?_eq_getElem hjl, hy]⟩
        · simp at hy
      exact .rptr _ _ _ (.ints _ _ _ (by simp; omega)) rfl (fun j => .int k (l.getD j 0)) (fun j y hy => by
        obtain ⟨h1, rfl⟩ := hz j y hy
        exact hh' j h1) fun j y hy => by
        obtain ⟨h1, rfl⟩ := hz j y hy
        exact .int _ _ _
  · rename_i n e id p s len w hu
    split at h <;> (try (cases h; done))
    rename_i hw
    split at h <;> (try (cases h; done))
    rename_i hn
    split at h <;> (try (cases h; done))
    rename_i hn0
    subst hw
    refine ⟨.pure, .aptr id p s n, .ofPure fun bl K => by simp only [arrayPtrK, hu, hn, if_true]; exact if_pos hn0, by simp, fun E hE m a ha => ?_⟩
    cases ha with
    | slice _ _ _ _ _ a cap hid hc hsm hh =>
      rcases hsm with rfl | ⟨ad, rfl⟩
      · omega
      · refine ⟨.pointer (some ad), by simp [Instr.arrayAt, run_underlying hu, Nat.not_lt.2 hn], ?_⟩
        refine .aptr _ _ _ _ _ hid fun blk hb => ?_
        obtain ⟨q, c, g1, g2, g3, g4⟩ := hh blk hb
        rcases g4 with rfl | g4
        · omega
        · cases g4
          exact ⟨rfl, q, 1, c, g1, rfl, by omega, rfl, by simp⟩
  · rename_i n e id w hu
    split at h <;> (try (cases h; done))
    rename_i hw
    subst hw
    split at h <;> (try (cases h; done))
    rename_i k l hb
    split at h <;> (try (cases h; done))
    rename_i hn
    split at h <;> (try (cases h; done))
    rename_i hn0
    refine ⟨.read, .aptr id [] 0 n, .ofRead fun K => by simp only [arrayPtrK, hu, hb, hn, if_true]; exact if_pos hn0, by simp, fun E hE m a ha => ?_⟩
    rcases hE with rfl | hE
    · cases ha with
      | own _ _ len a cap hid hc hh =>
        obtain ⟨g1, g2, g3⟩ := hh _ hb
        simp [rowB] at g1
        subst g1
        rcases g3 with rfl | rfl
        · omega
        · refine ⟨.pointer (some ⟨(E.loc id).1, (E.loc id).2.1, none⟩), by simp [Instr.arrayAt, run_underlying hu, Nat.not_lt.2 hn], ?_⟩
          refine .aptr _ _ _ _ _ hid fun blk hb' => ?_
          rw [hb] at hb'; cases hb'
          exact ⟨rfl, 0, 1, l.length, rfl, rfl, by omega, rfl, by simp⟩
    · cases hE
theorem strOf_fold (k : List Int) (b : ByteArray) : k.foldl (fun s n => s.push (UInt8.ofNat n.toNat)) b = ⟨b.data ++ (k.map fun n => UInt8.ofNat n.toNat).toArray⟩ := by
  induction k generalizing b with
  | nil => simp
  | cons n r ih =>
    rw [List.foldl_cons, ih]
    congr 1
    apply Array.ext'
    simp [ByteArray.push]
end
end Go.Abs
end
section
set_option linter.unusedVariables false
set_option linter.unusedSimpArgs false
namespace Go.Abs
open Go
section
variable {R : Type} {C : Ctx}
def Out (E : Env) (P : Program) (cat : Cat) (v : AV) (bl' : Blks) (m : Sem Value) : Prop :=
  ∃ v' E', m.run P E.w = .ok v' E'.w ∧ (E'.bl = if cat = .pure then E.bl else bl') ∧ Go E E' ∧ VR E' true v v'
theorem Out.same {E : Env} {P : Program} {cat : Cat} {v : AV} {bl' : Blks} {m : Sem Value} (hm : Mem E) (hb : E.bl = bl' ∨ cat = .pure)
    (h : ∃ v', m.run P E.w = .ok v' E.w ∧ VR E true v v') : Out E P cat v bl' m := by
  obtain ⟨v', h1, h2⟩ := h
  refine ⟨v', E, h1, ?_, .refl hm, h2⟩
  split
  · rfl
  · rcases hb with hb | hb
    · exact hb
    · contradiction
theorem run_bytesToString_ints {P : Program} {E : Env} {l : List Int} {a : Option Addr} {n c : Nat} (h : IntsAt E .u8 l (.slice a n c)) :
    (Conv.bytesToString (.slice a n c)).run P E.w = .ok (.string (strOf l)) E.w := by
  have hn : n = l.length := by
    have := h.len P E.w
    simpa [Builtin.lenOf] using this
  subst hn
  have hc := h.cells P E.w (fun _ => rfl) l.length (Nat.le_refl _)
  cases a with
  | none =>
    simp [Builtin.firstCells] at hc
    subst hc
    rfl
  | some ad =>
    simp only [Builtin.firstCells, Nat.mul_one, List.take_length] at hc
    rw [run_bytesToString E.w ad l.length c l hc, strOf_fold]
    congr 2
    unfold strOf
    congr 1
    apply Array.ext'
    simp
theorem vr_is_slice {E : Env} {bl : Blks} {x : AV} {k : IntKind} {l : List Int} (h : elsOf bl x = some (.ints k l)) (hs : ∀ s, x ≠ .str s) {v : Value} (hv : VR E true x v) : ∃ a n c, v = .slice a n c := by
  unfold elsOf at h
  split at h
  · exact absurd rfl (hs _)
  · cases hv; exact ⟨_, _, _, rfl⟩
  · cases hv; exact ⟨_, _, _, rfl⟩
  · cases hv; exact ⟨_, _, _, rfl⟩
  · cases hv; exact ⟨_, _, _, rfl⟩
  · cases h
theorem convOwnK_sound {s d : TypeId} {x : AV} {bl : Blks} {K : Kont R} {r : R} (hx : ∀ t, x ≠ .str t) (h : convOwnK C s d x bl K = some r) :
    ∃ v, KS (R := R) (convOwnK C s d x) bl .read v bl ∧ ∀ E, E.bl = bl → Mem E → ∀ a, VR E true x a → Out E C.P .read v bl (convert s d a) := by
  unfold convOwnK at h
  split at h <;> (try (cases h; done))
  rename_i e hs hd
  split at h <;> (try (cases h; done))
  rename_i hk
  have he := kindOf_inv hk
  split at h <;> (try (cases h; done))
  rename_i k l hl
  split at h <;> (try (cases h; done))
  rename_i hk8
  subst hk8
  refine ⟨.str (strOf l), .ofRead fun K => by simp only [convOwnK, hs, hd, hl, if_pos hk, if_true], fun E hE m a ha => .same m (.inl hE) ⟨.string (strOf l), ?_, .str _ _⟩⟩
  obtain ⟨a', n, c, rfl⟩ := vr_is_slice hl hx ha
  rw [run_convert_bytes_string E.w s d e a' n c hs he hd]
  exact run_bytesToString_ints (elsOf_ints hl (.inl hE) m ha)
theorem convK_sound {s d : TypeId} {x : AV} {bl : Blks} {K : Kont R} {r : R} (h : convK C s d x bl K = some r) :
    ∃ cat v bl', KS (R := R) (convK C s d x) bl cat v bl' ∧ ∀ E, (E.bl = bl ∨ cat = .pure) → Mem E → ∀ a, VR E true x a → Out E C.P cat v bl' (convert s d a) := by
  unfold convK at h
  split at h <;> (try (cases h; done))
  · rename_i ik n
    split at h <;> (try (cases h; done))
    rename_i d1 k hs hd
    refine ⟨.pure, .int k (k.wrap n), bl, .ofPure fun bl K => by simp only [convK, hs, hd], fun E hE m a ha => .same m hE ⟨.int k (k.wrap n), ?_, .int _ _ _⟩⟩
    cases ha
    simp [convert, run_underlying hs, run_underlying hd, Conv.intToInt]
  · rename_i st
    split at h <;> (try (cases h; done))
    · rename_i hs hd
      refine ⟨.pure, .str st, bl, .ofPure fun bl K => by simp only [convK, hs, hd], fun E hE m a ha => .same m hE ⟨.string st, ?_, .str _ _⟩⟩
      cases ha
      simp [convert, run_underlying hs, run_underlying hd]
    · rename_i e hs hd
      split at h <;> (try (cases h; done))
      rename_i hk
      refine ⟨.write, .own bl.length 1, bl ++ [some (.ints .u8 (bytesOf st))], .ofWrite fun K => by simp only [convK, hs, hd, if_pos hk], fun E hE m a ha => ?_⟩
      rcases hE with rfl | hE
      · simp only [Bool.and_eq_true, decide_eq_true_eq] at hk
        have he := kindOf_inv hk.1
        cases ha
        have hrun := run_bytes_of_string (P := C.P) E.w s d e st hs hd he
        generalize hg : grownCap E.w st.size 0 e = g at hrun
        have hgle : st.size ≤ g := by rw [← hg]; exact grownCap_ge _ _ _ _
        have hsz : (bytesRow st g).size = g := by
          simp only [bytesRow, Array.size_append, Array.size_map, Array.size_replicate]
          have : st.data.size = st.size := rfl
          omega
        rw [hsz] at hrun
        have go1 := Go.drew m
        have go2 := Go.new go1.mem (bytesRow st g) e g (.ints .u8 (bytesOf st)) (g, g + 1) (fun j hj => by simp; omega) trivial (by simp [flatB, bytesOf]; exact hgle) (by rw [hsz]; exact Nat.le_refl _) (fun j x v hx hv => by
          simp only [flatB, bytesOf, List.getElem?_map] at hx
          cases hb : st.data.toList[j]? with
          | none => simp [hb] at hx
          | some b =>
            simp [hb] at hx
            subst hx
            have hj : j < st.data.size := by have := (List.getElem?_eq_some_iff.1 hb).1; simpa using this
            rw [bytesRow_at st g j hj] at hv
            have : st.data[j] = b := by
              have := List.getElem?_eq_some_iff.1 hb
              simpa using this.2
            rw [this] at hv
            cases hv
            exact .int _ _ _)
        refine ⟨_, _, hrun, rfl, go1.trans go2, ?_⟩
        have hbn : bget (E.drew.new (bytesRow st g) e g (.ints .u8 (bytesOf st)) (g, g + 1)).bl E.bl.length = some (.ints .u8 (bytesOf st)) := bget_new
        have hln : (E.drew.new (bytesRow st g) e g (.ints .u8 (bytesOf st)) (g, g + 1)).loc E.bl.length = (E.w.heap.size, 0, g) := by simp [Env.new, Env.drew]
        refine .own _ _ _ _ _ (bget_lt hbn) hgle fun blk hb => ?_
        rw [hbn] at hb; cases hb
        rw [hln]
        exact ⟨by simp [rowB, bytesOf], by simp, .inr rfl⟩
      · cases hE
  · split at h <;> (try (cases h; done))
    rename_i e hs hd
    split at h <;> (try (cases h; done))
    rename_i hk
    have he := kindOf_inv hk
    refine ⟨.pure, .str ByteArray.empty, bl, .ofPure fun bl K => by simp only [convK, hs, hd, if_pos hk], fun E hE m a ha => .same m hE ⟨.string ByteArray.empty, ?_, .str _ _⟩⟩
    cases ha
    rw [run_convert_bytes_string E.w s d e none 0 0 hs he hd]
    rfl
  · rename_i k l
    split at h <;> (try (cases h; done))
    rename_i e hs hd
    split at h <;> (try (cases h; done))
    rename_i hk
    have he := kindOf_inv hk
    split at h <;> (try (cases h; done))
    rename_i hk8
    subst hk8
    refine ⟨.pure, .str (strOf l), bl, .ofPure fun bl K => by simp only [convK, hs, hd, if_pos hk, if_true], fun E hE m a ha => .same m hE ⟨.string (strOf l), ?_, .str _ _⟩⟩
    obtain ⟨a', n, c, rfl⟩ := vr_is_slice (bl := bl) (x := .rints .u8 l) (k := .u8) (l := l) rfl (by simp) ha
    rw [run_convert_bytes_string E.w s d e a' n c hs he hd]
    exact run_bytesToString_ints (elsOf_ints (bl := bl) (x := .rints .u8 l) rfl (.inr rfl) m ha)
  · rename_i id w
    obtain ⟨v, h1, h2⟩ := convOwnK_sound (by simp) h
    exact ⟨.read, v, bl, ⟨fun K => by simp only [convK]; exact h1.det K, fun h => (by cases h), fun _ => rfl⟩, fun E hE m a ha => by
      rcases hE with hE | hE
      · exact h2 E hE m a ha
      · cases hE⟩
  · rename_i id p a n w
    obtain ⟨v, h1, h2⟩ := convOwnK_sound (by simp) h
    exact ⟨.read, v, bl, ⟨fun K => by simp only [convK]; exact h1.det K, fun h => (by cases h), fun _ => rfl⟩, fun E hE m a ha => by
      rcases hE with hE | hE
      · exact h2 E hE m a ha
      · cases hE⟩
end
end Go.Abs
end
section
set_option linter.unusedVariables false
set_option linter.unusedSimpArgs false
namespace Go.Abs
open Go
section
variable {R : Type} {C : Ctx}
def CellsAt (E : Env) (o : Bool) (l : List AV) (cs : Array Value) (off : Nat) : Prop := ∀ (j : Nat) z, l[j]? = some z → ∃ c, cs[off + j]? = some c ∧ VR E o z c
theorem CellsAt.left {E : Env} {o : Bool} {a b : List AV} {cs : Array Value} {off : Nat} (h : CellsAt E o (a ++ b) cs off) : CellsAt E o a cs off := fun j z hz =>
  h j z (by rw [List.getElem?_append_left (List.getElem?_eq_some_iff.1 hz).1]; exact hz)
theorem CellsAt.right {E : Env} {o : Bool} {a b : List AV} {cs : Array Value} {off : Nat} (h : CellsAt E o (a ++ b) cs off) : CellsAt E o b cs (off + a.length) := fun j z hz => by
  have := h (a.length + j) z (by rw [List.getElem?_append_right (by omega)]; simpa using hz)
  rwa [← Nat.add_assoc] at this
def EqSound (P : Program) (E : Env) (o : Bool) (f : Nat) (t : TypeId) : Prop :=
  ∀ x y b x' y', conf P f t x = true → conf P f t y = true → eqAV x y = some b → VR E o x x' → VR E o y y' → ∀ d w, (Op.equalIn (d + f) t x' y').run P w = .ok b w
theorem eqAVs_cons {x y : AV} {a b : List AV} {r : Bool} (h : eqAVs (x :: a) (y :: b) = some r) : ∃ p q, eqAV x y = some p ∧ eqAVs a b = some q ∧ r = (p && q) := by
  simp only [eqAVs] at h
  split at h
  · cases h; exact ⟨_, _, ‹_›, ‹_›, rfl⟩
  · cases h
theorem eqFields_sound {P : Program} {E : Env} {o : Bool} {f : Nat} (xs ys : Array Value) : ∀ (fs : List Field) (a b : List AV) (off : Nat) (r : Bool),
    (∀ g ∈ fs, g.name ≠ "_" ∧ EqSound P E o f g.type) → confGo P (conf P f) fs a off = true → confGo P (conf P f) fs b off = true → (∀ x ∈ a, Fit x) → (∀ x ∈ b, Fit x) →
    CellsAt E o (flats a) xs off → CellsAt E o (flats b) ys off → eqAVs a b = some r → ∀ d w, (Op.eqFields (d + f) xs ys fs).run P w = .ok r w
  | [], a, b, off, r, _, ha, hb, _, _, _, _, he, d, w => by
    cases a <;> cases b <;> first | (simp [eqAVs] at he; subst he; simp [Op.eqFields]) | (simp [confGo] at ha; done) | (simp [confGo] at hb; done)
  | g :: fs, [], b, off, r, _, ha, _, _, _, _, _, he, d, w => by simp [confGo] at ha
  | g :: fs, x :: a, [], off, r, _, _, hb, _, _, _, _, he, d, w => by simp [confGo] at hb
  | g :: fs, x :: a, y :: b, off, r, hg, ha, hb, fa, fb, ca, cb, he, d, w => by
    simp [confGo] at ha hb
    obtain ⟨⟨⟨a1, a2⟩, a3⟩, a4⟩ := ha
    obtain ⟨⟨⟨b1, b2⟩, b3⟩, b4⟩ := hb
    obtain ⟨p, q, e1, e2, rfl⟩ := eqAVs_cons he
    obtain ⟨hn, hs⟩ := hg g (by simp)
    simp only [flats] at ca cb
    obtain ⟨vx, hx⟩ := part_sound (P := P) (E := E) (o := o) (cs := xs) (off := off) a3 (fa x (by simp)) ca.left
    obtain ⟨vy, hy⟩ := part_sound (P := P) (E := E) (o := o) (cs := ys) (off := off) b3 (fb y (by simp)) cb.left
    have heq := hs x y p vx vy a3 b3 e1 (hx w).2 (hy w).2 d w
    have cra := ca.right
    have crb := cb.right
    rw [(fa x (by simp)).length] at cra
    rw [(fb y (by simp)).length, ← b2, a2] at crb
    have ih := eqFields_sound xs ys fs a b (off + width x) q (fun g hg' => hg g (by simp [hg'])) a4 (by rw [← a2, b2]; exact b4) (fun z hz => fa z (by simp [hz])) (fun z hz => fb z (by simp [hz])) cra crb e2 d w
    rw [← a1] at hx hy
    simp only [Op.eqFields, hn, ne_eq, not_false_eq_true, if_true, Sem.run_bind, a1, (hx w).1, Result.andThen_ok]
    rw [← a1, (hx w).1, Result.andThen_ok, (hy w).1, Result.andThen_ok, heq, Result.andThen_ok]
    cases p
    · simp
    · simpa using ih
theorem eqItems_ints {P : Program} {e : TypeId} {k k' : IntKind} {l m : List Int} {d : Nat} (hu : P.underlying e = some (.int k')) (n : Nat) (hl : l.length = n) (hm : m.length = n) (w : World) :
    ∀ (is : List Nat), (∀ i ∈ is, i < n) → (Op.eqItems (d + 1) e 1 (l.map (Value.int k)).toArray (m.map (Value.int k)).toArray is).run P w = .ok (is.all fun i => l.getD i 0 == m.getD i 0) w
  | [], _ => by simp [Op.eqItems]
  | i :: is, h => by
    have hi := h i (by simp)
    have ih := eqItems_ints (P := P) (e := e) (k := k) (k' := k') (l := l) (m := m) (d := d) hu n hl hm w is fun j hj => h j (by simp [hj])
    have hp : ∀ (r : List Int), r.length = n → (part e (r.map (Value.int k)).toArray i).run P w = .ok (.int k (r.getD i 0)) w := fun r hr => by
      have : i < r.length := by omega
      simp [part, run_isAgg hu, TypeDesc.isRow, List.getElem?_eq_getElem this]
    simp only [Op.eqItems, Nat.mul_one, Sem.run_bind, hp l hl, hp m hm, Result.andThen_ok, run_equalIn_int w d e k k' _ _ hu]
    cases hb : (l.getD i 0 == m.getD i 0)
    · simp only [Bool.not_false, if_true, Sem.run_pure, List.all_cons, hb, Bool.false_and]
    · simp only [Bool.not_true, Bool.false_eq_true, if_false, List.all_cons, hb, Bool.true_and]
      exact ih
theorem range_all_eq (l m : List Int) (n : Nat) (hl : l.length = n) (hm : m.length = n) : ((List.range n).all fun i => l.getD i 0 == m.getD i 0) = (l == m) := by
  rw [Bool.eq_iff_iff]
  simp only [List.all_eq_true, List.mem_range, beq_iff_eq]
  constructor
  · intro h
    apply List.ext_getElem (by omega)
    intro i h1 h2
    have := h i (by omega)
    simpa [List.getElem?_eq_getElem h1, List.getElem?_eq_getElem h2] using this
  · rintro rfl i _; rfl
theorem eqItems_sound {P : Program} {E : Env} {o : Bool} {f : Nat} {e : TypeId} (hs : EqSound P E o f e) (xs ys : Array Value) (sz : Nat) : ∀ (a b : List AV) (i : Nat) (r : Bool),
    (∀ x ∈ a, (conf P f e x = true ∧ width x = sz) ∧ Fit x) → (∀ x ∈ b, (conf P f e x = true ∧ width x = sz) ∧ Fit x) → CellsAt E o (flats a) xs (i * sz) → CellsAt E o (flats b) ys (i * sz) → eqAVs a b = some r →
    ∀ d w, (Op.eqItems (d + f) e sz xs ys (List.range' i a.length)).run P w = .ok r w
  | [], [], i, r, _, _, _, _, he, d, w => by simp [eqAVs] at he; subst he; simp [Op.eqItems]
  | [], _ :: _, i, r, _, _, _, _, he, d, w => by simp [eqAVs] at he
  | _ :: _, [], i, r, _, _, _, _, he, d, w => by simp [eqAVs] at he
  | x :: a, y :: b, i, r, ha, hb, ca, cb, he, d, w => by
    obtain ⟨p, q, e1, e2, rfl⟩ := eqAVs_cons he
    obtain ⟨⟨a1, a2⟩, a3⟩ := ha x (by simp)
    obtain ⟨⟨b1, b2⟩, b3⟩ := hb y (by simp)
    simp only [flats] at ca cb
    obtain ⟨vx, hx⟩ := part_sound (P := P) (E := E) (o := o) (cs := xs) (off := i * sz) a1 a3 ca.left
    obtain ⟨vy, hy⟩ := part_sound (P := P) (E := E) (o := o) (cs := ys) (off := i * sz) b1 b3 cb.left
    have heq := hs x y p vx vy a1 b1 e1 (hx w).2 (hy w).2 d w
    have cra := ca.right
    have crb := cb.right
    rw [a3.length, a2, ← Nat.succ_mul] at cra
    rw [b3.length, b2, ← Nat.succ_mul] at crb
    have ih := eqItems_sound hs xs ys sz a b (i + 1) q (fun z hz => ha z (by simp [hz])) (fun z hz => hb z (by simp [hz])) cra crb e2 d w
    simp only [List.length_cons, List.range'_succ, Op.eqItems, Sem.run_bind, (hx w).1, (hy w).1, Result.andThen_ok, heq]
    cases p
    · simp
    · simpa using ih
theorem eqTy_under {P : Program} {f : Nat} {t : TypeId} (h : eqTy P f t = true) : ∃ d, P.underlying t = some d := by
  cases f with
  | zero => simp [eqTy] at h
  | succ f =>
    unfold eqTy at h
    split at h <;> first | exact ⟨_, ‹_›⟩ | cases h
theorem eq_sound {P : Program} {E : Env} {o : Bool} : ∀ (f : Nat) (t : TypeId), eqTy P f t = true → EqSound P E o f t
  | 0, t, h => by simp [eqTy] at h
  | f + 1, t, h => by
    intro x y b x' y' hx hy he hvx hvy d w
    unfold eqTy at h
    rw [show d + (f + 1) = (d + f) + 1 from rfl]
    split at h <;> (try (cases h; done))
    · rename_i hu
      unfold conf at hx hy
      rw [hu] at hx hy
      cases x <;> simp at hx
      cases y <;> simp at hy
      simp [eqAV] at he; subst he
      cases hvx; cases hvy
      exact run_equalIn_bool' w (d + f) t _ _ hu
    · rename_i k hu
      unfold conf at hx hy
      rw [hu] at hx hy
      cases x <;> simp at hx
      cases y <;> simp at hy
      obtain ⟨rfl, _⟩ := hx
      obtain ⟨rfl, _⟩ := hy
      simp [eqAV] at he; subst he
      cases hvx; cases hvy
      exact run_equalIn_int w (d + f) t _ _ _ _ hu
    · rename_i hu
      unfold conf at hx hy
      rw [hu] at hx hy
      cases x <;> simp at hx
      cases y <;> simp at hy
      simp [eqAV] at he; subst he
      cases hvx; cases hvy
      rw [beq_toListBytes]
      exact run_equalIn_string w (d + f) t _ _ hu
    · rename_i n e hu
      rcases conf_array hx hu with ⟨k, l, rfl, hk, hsz⟩ | ⟨ka, f', hf', rfl, hla, hka⟩
      · rcases conf_array hy hu with ⟨k', m, rfl, hk', _⟩ | ⟨_, _, _, rfl, _⟩
        · rw [hk] at hk'; cases hk'
          simp [eqAV] at he; subst he
          cases hvx with
          | ints _ _ _ _ h1 =>
            cases hvy with
            | ints _ _ _ _ h2 =>
              have hue := kindOf_inv hk
              obtain ⟨i, hi⟩ := Go.Abs.info_of_underlying hue
              have hci : P.cellsOf e = 1 := by simp only [sizeQ, hi] at hsz; simp [Program.cellsOf, hi, hsz]
              rw [run_equalIn_array w (d + f) _ _ hu hi, hci]
              cases f with
              | zero => simp [eqTy] at h
              | succ f =>
                rw [show d + (f + 1) = (d + f) + 1 from rfl, eqItems_ints hue n h1 h2 w _ (fun i hi => List.mem_range.1 hi), range_all_eq l m n h1 h2]
        · simp [eqAV] at he
      · rcases conf_array hy hu with ⟨_, _, rfl, _⟩ | ⟨kb, f'', hf'', rfl, hlb, hkb⟩
        · simp [eqAV] at he
        · cases hf'; cases hf''
          simp only [eqAV] at he
          obtain ⟨xs, rfl, fa, sa, ca⟩ := hvx.agg_inv
          obtain ⟨ys, rfl, fb, sb, cb⟩ := hvy.agg_inv
          have cellsOf : ∀ {l : List AV} {cs : Array Value}, cs.size = (flats l).length → (∀ (j : Nat) x c, (flats l)[j]? = some x → cs[j]? = some c → VR E o x c) → CellsAt E o (flats l) cs (0 * sizeQ P e) := fun {l cs} h1 h2 j z hz => by
            have hj := (List.getElem?_eq_some_iff.1 hz).1
            have hc : cs[j]? = some (cs[j]'(by omega)) := Array.getElem?_eq_getElem (by omega)
            exact ⟨_, by rw [Nat.zero_mul, Nat.zero_add]; exact hc, h2 j z _ hz hc⟩
          have := eqItems_sound (eq_sound f e h) xs ys (sizeQ P e) ka kb 0 b (fun z hz => ⟨hka z hz, fa.kid hz⟩) (fun z hz => ⟨hkb z hz, fb.kid hz⟩) (cellsOf sa ca) (cellsOf sb cb) he d w
          obtain ⟨dd, hue⟩ := eqTy_under h
          obtain ⟨i, hi⟩ := Go.Abs.info_of_underlying hue
          have hci : P.cellsOf e = sizeQ P e := by simp [Program.cellsOf, sizeQ, hi]
          rw [run_equalIn_array w (d + f) _ _ hu hi, hci, List.range_eq_range', ← hla]
          exact this
    · rename_i fs hu
      obtain ⟨f1, ka, hf1, rfl, _⟩ := conf_struct hx hu
      obtain ⟨f2, kb, hf2, rfl, _⟩ := conf_struct hy hu
      cases hf1; cases hf2
      simp only [eqAV] at he
      unfold conf at hx hy
      rw [hu] at hx hy
      simp only [Bool.and_eq_true, Bool.not_eq_true', List.all_eq_true, bne_iff_ne, ne_eq] at hx hy h
      obtain ⟨xs, rfl, fa, sa, ca⟩ := hvx.agg_inv
      obtain ⟨ys, rfl, fb, sb, cb⟩ := hvy.agg_inv
      have hfs : P.fieldsOf t = fs := by simp [Program.fieldsOf, hu]
      have cellsOf : ∀ {l : List AV} {cs : Array Value}, cs.size = (flats l).length → (∀ (j : Nat) x c, (flats l)[j]? = some x → cs[j]? = some c → VR E o x c) → CellsAt E o (flats l) cs 0 := fun {l cs} h1 h2 j z hz => by
        have hj := (List.getElem?_eq_some_iff.1 hz).1
        have hc : cs[j]? = some (cs[j]'(by omega)) := Array.getElem?_eq_getElem (by omega)
        exact ⟨_, by rw [Nat.zero_add]; exact hc, h2 j z _ hz hc⟩
      rw [run_equalIn_struct w (d + f) t xs ys (by rw [hfs]; exact hu) h.1, hfs]
      exact eqFields_sound xs ys fs.toList ka kb 0 b (fun g hg => ⟨(h.2 g hg).1, eq_sound f g.type (h.2 g hg).2⟩) hx.1 hy.1 (fun z hz => fa.kid hz) (fun z hz => fb.kid hz) (cellsOf sa ca) (cellsOf sb cb) he d w
theorem eqK_sound {t : TypeId} {x y : AV} {K : Bool → Option R} {r : R} (h : eqK C t x y K = some r) :
    ∃ b, (∀ K2 : Bool → Option R, eqK C t x y K2 = K2 b) ∧ C.P.eqGuardType C.P.depth t = false ∧ ∀ E x' y', VR E true x x' → VR E true y y' → ∀ w, (Op.equal t x' y').run C.P w = .ok b w := by
  unfold eqK at h
  split at h <;> (try (cases h; done))
  rename_i hc
  split at h <;> (try (cases h; done))
  rename_i b hb
  refine ⟨b, fun K2 => by simp only [eqK, if_pos hc, hb], ?_, fun E x' y' hx hy w => ?_⟩
  · simp only [Bool.and_eq_true, Bool.not_eq_true'] at hc; exact hc.2
  · simp only [Bool.and_eq_true, Bool.not_eq_true'] at hc
    have := eq_sound (P := C.P) (E := E) (o := true) 8 t hc.1.1.1 x y b x' y' hc.1.1.2 hc.1.2 hb hx hy 9992 w
    exact this
end
end Go.Abs
end
section
set_option linter.unusedVariables false
set_option linter.unusedSimpArgs false
namespace Go.Abs
open Go
section
variable {R : Type} {C : Ctx}
theorem leafEq_vr {E : Env} {o : Bool} {x : AV} {v : Value} (h : leafEq x v = true) : VR E o x v ∧ Leaf x := by
  unfold leafEq at h
  split at h <;> (try (cases h; done))
  · simp at h; obtain ⟨rfl, rfl⟩ := h; exact ⟨.int _ _ _, by simp, by simp⟩
  · simp at h; subst h; exact ⟨.bool _ _, by simp, by simp⟩
  · simp at h; obtain ⟨rfl, rfl⟩ := h; exact ⟨.str _ _, by simp, by simp⟩
  · exact ⟨.snil _, by simp, by simp⟩
  · exact ⟨.nilp _, by simp, by simp⟩
  · exact ⟨.nilf _, by simp, by simp⟩
  · exact ⟨.nili _, by simp, by simp⟩
  · exact ⟨.raw _ _ rfl rfl, by simp, by simp⟩
theorem cellsChk_vr {E : Env} {o : Bool} : ∀ {l : List AV} {cs : List Value}, cellsChk l cs = true → l.length = cs.length ∧ ∀ (j : Nat) x c, l[j]? = some x → cs[j]? = some c → VR E o x c
  | [], [], _ => ⟨rfl, fun j x c h => by simp at h⟩
  | [], _ :: _, h => by simp [cellsChk] at h
  | _ :: _, [], h => by simp [cellsChk] at h
  | x :: l, c :: cs, h => by
    simp [cellsChk] at h
    obtain ⟨h1, h2⟩ := cellsChk_vr (E := E) (o := o) h.2
    refine ⟨by simp [h1], fun j y d hy hd => ?_⟩
    cases j with
    | zero => simp at hy hd; subst hy; subst hd; exact (leafEq_vr h.1).1
    | succ j => exact h2 j y d (by simpa using hy) (by simpa using hd)
mutual
theorem fits_fit : ∀ {x : AV}, fits x = true → Fit x
  | .agg kids, h => by simp only [fits] at h; exact .agg _ (fitss_fit h)
  | .ints k n l, h => by simp [fits] at h; exact .ints _ _ _ h
  | .any, h | .tup _, h | .bool _, h | .int _ _, h | .str _, h | .nilp, h | .ptr _ _, h | .aptr _ _ _ _, h | .rptr _, h | .snil, h | .slice _ _ _ _ _, h | .own _ _, h
  | .rints _ _, h | .robjs _ _ _, h | .fn _ _ _, h | .nilf, h | .iface _ _, h | .nili, h | .raw _, h | .errv _ _ _, h | .emap, h => .leaf _ ⟨by simp, by simp⟩
theorem fitss_fit : ∀ {l : List AV}, fitss l = true → ∀ x ∈ l, Fit x
  | [], _, x, hx => by simp at hx
  | y :: l, h, x, hx => by
    simp [fitss] at h
    rcases List.mem_cons.1 hx with e | hx
    · rw [e]; exact fits_fit h.1
    · exact fitss_fit h.2 x hx
end
theorem zeroOf_sound {P : Program} {t : TypeId} {z : AV} (h : zeroOf P t = some z) : ∃ i v, P.info? t = some i ∧ i.zero = some v ∧ (∀ w, (zeroValue t).run P w = .ok v w) ∧ (∀ E o, VR E o z v) ∧ Fit z ∧ z ≠ .any ∧ ∀ vs, z ≠ .tup vs := by
  unfold zeroOf at h
  split at h <;> (try (cases h; done))
  rename_i x i hx hi
  have run : ∀ v, i.zero = some v → ∀ w, (zeroValue t).run P w = .ok v w := fun v hv w => by simp [zeroValue, typeInfo, hi, hv]
  split at h <;> (try (cases h; done))
  · rename_i cs hz
    split at h <;> (try (cases h; done))
    · rename_i kids
      split at h <;> (try (cases h; done))
      rename_i hc
      cases h
      simp only [Bool.and_eq_true] at hc
      have hf := fits_fit hc.2
      refine ⟨i, .agg cs, hi, hz, run _ hz, fun E o => ?_, hf, by simp, by simp⟩
      obtain ⟨h1, h2⟩ := cellsChk_vr (E := E) (o := o) hc.1
      exact .agg _ _ _ hf (by simpa [flat] using h1.symm) fun j x c hx hc => h2 j x c hx (by rw [Array.getElem?_toList]; exact hc)
    · rename_i k n l
      split at h <;> (try (cases h; done))
      rename_i hc
      cases h
      simp only [Bool.and_eq_true] at hc
      have hf := fits_fit hc.2
      refine ⟨i, .agg cs, hi, hz, run _ hz, fun E o => ?_, hf, by simp, by simp⟩
      obtain ⟨h1, h2⟩ := cellsChk_vr (E := E) (o := o) hc.1
      have : cs = (l.map (Value.int k)).toArray := by
        apply Array.ext_getElem?
        intro j
        simp only [flat, List.length_map, Array.length_toList] at h1
        cases hl : l[j]? with
        | none =>
          have : l.length ≤ j := List.getElem?_eq_none_iff.1 hl
          rw [Array.getElem?_eq_none (by omega)]
          simp [hl]
        | some n =>
          have hj := (List.getElem?_eq_some_iff.1 hl).1
          have hc : cs[j]? = some (cs[j]'(by omega)) := Array.getElem?_eq_getElem (by omega)
          have := h2 j (.int k n) _ (by simp [flat, hl]) (by rw [Array.getElem?_toList]; exact hc)
          rw [hc, this.int_inv]
          simp [hl]
      rw [this]
      exact .ints _ _ _ _ hf.len
  · rename_i v hna hz
    split at h <;> (try (cases h; done))
    rename_i hn1 hn2
    split at h <;> (try (cases h; done))
    rename_i hl
    cases h
    obtain ⟨_, h2⟩ := leafEq_vr (E := ⟨default, fun _ _ => False, fun _ => (0, 0, 0), []⟩) (o := false) hl
    refine ⟨i, v, hi, hz, run _ hz, fun E o => (leafEq_vr hl).1, .leaf _ h2, ?_, ?_⟩
    · intro e; subst e; simp [leafEq] at hl
    · intro vs e; subst e; simp [leafEq] at hl
theorem newVar_sound {E : Env} {x : AV} {v : Value} (t : TypeId) (m : Mem E) (hv : VR E true x v) (hx : x ≠ .any ∧ ∀ vs, x ≠ .tup vs) :
    ∃ E', (E'.w = E.w.alloc (.cells v.cells t)) ∧ E'.bl = E.bl ++ [some (.var x)] ∧ Go E E' ∧ VR E' true (.ptr E.bl.length []) (.pointer (some ⟨E.w.heap.size, 0, none⟩)) := by
  obtain ⟨hf, hs, hc⟩ := hv.cells hx
  have go := Go.new m v.cells t v.cells.size (.var x) (0, 0) (fun j _ => by simp) hf (by simp [flatB, hs]) (Nat.le_refl _) hc
  refine ⟨_, rfl, rfl, go, ?_⟩
  have hbn : bget (E.new v.cells t v.cells.size (.var x)).bl E.bl.length = some (.var x) := bget_new
  refine .ptr _ _ _ (bget_lt hbn) fun blk hb => ?_
  rw [hbn] at hb; cases hb
  exact ⟨rfl, 0, by simp [offB, offPath], by simp [Env.new], by simp [Env.new]⟩
theorem fillVar_sound {E : Env} {id : Nat} {x : AV} {v : Value} (t : TypeId) (m : Mem E) (h0 : bget E.bl id = some .free) (hv : VR E true x v) (hx : x ≠ .any ∧ ∀ vs, x ≠ .tup vs) :
    ∃ E', (E'.w = E.w.alloc (.cells v.cells t)) ∧ E'.bl = E.bl.set id (some (.var x)) ∧ Go E E' ∧ VR E' true (.ptr id []) (.pointer (some ⟨E.w.heap.size, 0, none⟩)) := by
  obtain ⟨hf, hs, hc⟩ := hv.cells hx
  have go := Go.fill m id h0 v.cells t v.cells.size (.var x) (0, 0) (fun j _ => by simp) hf (by simp [flatB, hs]) (Nat.le_refl _) hc
  refine ⟨_, rfl, rfl, go, ?_⟩
  have hbn : bget (E.fill id v.cells t v.cells.size (.var x)).bl id = some (.var x) := bget_set_self (bget_lt h0)
  refine .ptr _ _ _ (bget_lt hbn) fun blk hb => ?_
  rw [hbn] at hb; cases hb
  exact ⟨rfl, 0, by simp [offB, offPath], by simp [Env.fill], by simp [Env.fill]⟩
theorem run_newVar {P : Program} (t : TypeId) (v : Value) (w : World) : (newVar t v).run P w = .ok ⟨w.heap.size, 0, none⟩ (w.alloc (.cells v.cells t)) := by
  simp [newVar, newRow]
theorem vr_own_new {E : Env} {c : Array Value} {e t wd len cap : Nat} {blk : Blk} {fr : Nat × Nat} (hr : rowB blk [] = some (0, wd, len)) (hc : len ≤ cap) (he : cap * wd ≤ e) :
    VR (E.new c t e blk fr) true (.own E.bl.length wd) (.slice (some ⟨E.w.heap.size, 0, none⟩) len cap) := by
  have hbn : bget (E.new c t e blk fr).bl E.bl.length = some blk := bget_new
  refine .own _ _ _ _ _ (bget_lt hbn) hc fun b hb => ?_
  rw [hbn] at hb; cases hb
  have hl : (E.new c t e blk fr).loc E.bl.length = (E.w.heap.size, 0, e) := by simp [Env.new]
  rw [hl]
  exact ⟨hr, he, .inr rfl⟩
theorem flats_replicate (n : Nat) (z : AV) : ∀ (j : Nat) x, (flats (List.replicate n z))[j]? = some x → (flat z).length ≠ 0 → (flat z)[j % (flat z).length]? = some x := by
  induction n with
  | zero => intro j x h; simp [flats] at h
  | succ n ih =>
    intro j x h hne
    rw [List.replicate_succ, flats] at h
    rcases Nat.lt_or_ge j (flat z).length with hj | hj
    · rw [List.getElem?_append_left hj] at h
      rwa [Nat.mod_eq_of_lt hj]
    · rw [List.getElem?_append_right hj] at h
      rw [Nat.mod_eq_sub_mod hj]
      exact ih _ _ h hne
theorem flats_replicate_length (n : Nat) (z : AV) : (flats (List.replicate n z)).length = n * (flat z).length := by
  induction n with
  | zero => simp [flats]
  | succ n ih => rw [List.replicate_succ, flats, List.length_append, ih, Nat.succ_mul]; omega
theorem bytesQ_info {P : Program} {t : TypeId} {i : TypeInfo} (h : P.info? t = some i) : bytesQ P t = i.bytes ∧ sizeQ P t = i.size := by simp [bytesQ, sizeQ, h]
theorem madeCells_get (z : Array Value) (n j : Nat) (hj : j < n) (hz : z.size ≠ 0) : (madeCells z n)[j]? = z[j % z.size]? := by
  have hm : j % z.size < z.size := Nat.mod_lt _ (Nat.pos_of_ne_zero hz)
  simp [madeCells, hj, hm]
theorem makeSliceK_sound {t : TypeId} {l c : AV} {bl : Blks} {K : Kont R} {r : R} (h : makeSliceK C t l c bl K = some r) :
    ∃ v bl', KS (R := R) (makeSliceK C t l c) bl .write v bl' ∧ ∀ E, E.bl = bl → Mem E → ∀ l' c', VR E true l l' → VR E true c c' → Out E C.P .write v bl' (Instr.makeSlice t l' c') := by
  unfold makeSliceK at h
  split at h <;> (try (cases h; done))
  rename_i e k1 n k2 m' hu
  split at h <;> (try (cases h; done))
  rename_i h0
  split at h <;> (try (cases h; done))
  rename_i h1
  split at h <;> (try (cases h; done))
  rename_i h2
  split at h <;> (try (cases h; done))
  rename_i h3
  split at h <;> (try (cases h; done))
  · rename_i k z hz
    split at h <;> (try (cases h; done))
    rename_i hs
    obtain ⟨i, v, hi, hv, hrun, hvr, hf, _⟩ := zeroOf_sound hz
    obtain ⟨hb, hsz⟩ := bytesQ_info hi
    have hs1 := (szOK_inv hs).1
    refine ⟨.own bl.length 1, bl ++ [some (.ints k (List.replicate n.toNat z))], .ofWrite fun K => by simp only [makeSliceK, hu, h0, h1, h2, h3, hz, hs, if_true], fun E hE m l' c' hl hc => ?_⟩
    subst hE
    cases hl; cases hc
    have hve := (hvr E true).int_inv
    subst hve
    have run := run_make (P := C.P) E.w t e i _ hu hi hv k1 k2 n m' h0 h1 (by rw [Int.mul_comm, ← hb]; omega) (by omega)
    rw [show m'.toNat * i.size = m'.toNat from by rw [← hsz, hs1, Nat.mul_one]] at run
    have hcs : (madeCells (Value.int k z).cells m'.toNat).size = m'.toNat := size_madeCells _ _
    have go := Go.new m (madeCells (Value.int k z).cells m'.toNat) e m'.toNat (.ints k (List.replicate n.toNat z)) (0, 0) (fun j _ => by simp) trivial (by simp [flatB]; omega) (by rw [hcs]; exact Nat.le_refl _) (fun j x v hx hv => by
      have hj : j < n.toNat := by have := (List.getElem?_eq_some_iff.1 hx).1; simpa [flatB] using this
      rw [madeCells_get _ _ _ (by omega) (by simp [Value.cells])] at hv
      simp [Value.cells, Nat.mod_one] at hv
      simp [flatB, List.getElem?_replicate, hj] at hx
      subst hx; subst hv
      exact .int _ _ _)
    refine ⟨_, _, run, rfl, go, ?_⟩
    exact vr_own_new (by simp [rowB]) (by omega) (by omega)
  · rename_i z hnz hz
    split at h <;> (try (cases h; done))
    rename_i hs
    obtain ⟨i, v, hi, hv, hrun, hvr, hf, hx1, hx2⟩ := zeroOf_sound hz
    obtain ⟨hb, hsz⟩ := bytesQ_info hi
    refine ⟨.own bl.length (sizeQ C.P e), bl ++ [some (.objs e (sizeQ C.P e) (List.replicate n.toNat z))], .ofWrite fun K => ?_, fun E hE m l' c' hl hc => ?_⟩
    · simp only [makeSliceK, hu, h0, h1, h2, h3, if_true]
      split
      · rename_i k' z' hz'
        rw [hz] at hz'; cases hz'
        exact absurd rfl (hnz _ _)
      · rename_i z' _ hz'
        rw [hz] at hz'; cases hz'
        rw [if_pos hs]
      · rename_i hz'
        rw [hz] at hz'; cases hz'
    · subst hE
      simp only [Bool.and_eq_true, decide_eq_true_eq] at hs
      obtain ⟨⟨⟨hs1, hs4⟩, hs2⟩, hs3⟩ := hs
      obtain ⟨_, _, hw, _⟩ := conf_gives hs2
      cases hl; cases hc
      have run := run_make (P := C.P) E.w t e i _ hu hi hv k1 k2 n m' h0 h1 (by rw [Int.mul_comm, ← hb]; omega) (by omega)
      rw [← hsz] at run
      obtain ⟨_, hcz, hcr⟩ := (hvr E true).cells ⟨hx1, hx2⟩
      have hfl := hf.length
      have hcs : (madeCells v.cells (m'.toNat * sizeQ C.P e)).size = m'.toNat * sizeQ C.P e := size_madeCells _ _
      have hle : n.toNat * sizeQ C.P e ≤ m'.toNat * sizeQ C.P e := Nat.mul_le_mul_right _ (by omega)
      have go := Go.new m (madeCells v.cells (m'.toNat * sizeQ C.P e)) e (m'.toNat * sizeQ C.P e) (.objs e (sizeQ C.P e) (List.replicate n.toNat z)) (0, 0) (fun j _ => by simp)
        (fun x hx => by rw [List.eq_of_mem_replicate hx]; exact ⟨⟨hf, hw.symm⟩, hs1, hs4⟩) (by simp only [flatB, flats_replicate_length]; rw [hfl, ← hw]; exact hle) (by rw [hcs]; exact Nat.le_refl _) (fun j x c hx hc => by
        have hj := (List.getElem?_eq_some_iff.1 hx).1
        simp only [flatB, flats_replicate_length] at hj
        rw [hfl, ← hw] at hj
        rw [madeCells_get _ _ _ (by omega) (by omega)] at hc
        have hx' := flats_replicate n.toNat z j x hx (by omega)
        rw [hcz] at hc
        exact hcr _ x c hx' hc)
      refine ⟨_, _, run, rfl, go, ?_⟩
      exact vr_own_new (by simp [rowB]) (by omega) (Nat.le_refl _)
end
end Go.Abs
end
section
set_option linter.unusedVariables false
set_option linter.unusedSimpArgs false
namespace Go.Abs
open Go
section
variable {R : Type} {C : Ctx}
theorem nextslicecap_le (need old : Nat) (h : old < need) : Builtin.nextslicecap need old ≤ 2 * need := by
  have grow : ∀ (rounds c : Nat), c ≤ 2 * need → 256 ≤ need → Builtin.growBy need rounds c ≤ 2 * need := by
    intro rounds
    induction rounds with
    | zero => intro c hc _; exact hc
    | succ r ih =>
      intro c hc hn
      unfold Builtin.growBy
      split
      · exact hc
      · exact ih _ (by omega) hn
  unfold Builtin.nextslicecap
  split
  · omega
  · split
    · omega
    · exact grow 4 old (by omega) (by omega)
structure ObjsAt (E : Env) (w : Nat) (l : List AV) (v : Value) (cs : List Value) : Prop where
  len : ∀ (P : Program) W, (Builtin.lenOf v).run P W = .ok l.length W
  size : cs.length = l.length * w
  cells : ∀ (P : Program) (W : World), (∀ a, W.cell? a = E.w.cell? a) → (Builtin.firstCells w l.length v).run P W = .ok cs.toArray W
  vr : ∀ (j : Nat) x c, (flats l)[j]? = some x → cs[j]? = some c → VR E false x c
  fit : ∀ x ∈ l, (Fit x ∧ width x = w) ∧ noOwn x = true ∧ solid x = true
theorem objs_flat_length {l : List AV} {w : Nat} (h : ∀ x ∈ l, (Fit x ∧ width x = w) ∧ noOwn x = true ∧ solid x = true) : (flats l).length = l.length * w := by
  induction l with
  | nil => simp [flats]
  | cons x r ih =>
    simp only [flats, List.length_append, List.length_cons, Nat.succ_mul]
    rw [(h x (by simp)).1.1.length, (h x (by simp)).1.2, ih fun y hy => h y (by simp [hy])]
    omega
theorem objs_flat_get {l : List AV} {w : Nat} (h : ∀ x ∈ l, (Fit x ∧ width x = w) ∧ noOwn x = true ∧ solid x = true) {j : Nat} {y : AV} (hy : (flats l)[j]? = some y) :
    ∃ x, l[j / w]? = some x ∧ (flat x)[j % w]? = some y := by
  induction l generalizing j with
  | nil => simp [flats] at hy
  | cons x r ih =>
    have hx := (h x (by simp)).1
    have hlx := hx.1.length
    simp only [flats] at hy
    rcases Nat.lt_or_ge j (flat x).length with hj | hj
    · rw [List.getElem?_append_left hj] at hy
      exact ⟨x, by rw [Nat.div_eq_of_lt (by omega)]; rfl, by rw [Nat.mod_eq_of_lt (by omega)]; exact hy⟩
    · rw [List.getElem?_append_right hj] at hy
      obtain ⟨z, h1, h2⟩ := ih (fun y hy => h y (by simp [hy])) hy
      rw [hlx, hx.2] at h1 h2 hj
      have hw : 0 < w := by
        rcases Nat.eq_zero_or_pos w with h0 | h0
        · subst h0
          have := (List.getElem?_eq_some_iff.1 hy).1
          rw [objs_flat_length fun y hy => h y (by simp [hy])] at this
          omega
        · exact h0
      refine ⟨z, ?_, ?_⟩
      · rw [show j = (j - w) + w from by omega, Nat.add_div_right _ hw]
        simpa using h1
      · rw [show j = (j - w) + w from by omega, Nat.add_mod_right]
        simpa using h2
theorem objsAt_slice {E : Env} {w : Nat} {l : List AV} {a : Option Addr} {n cap b o : Nat} (hn : n = l.length) (hf : ∀ x ∈ l, (Fit x ∧ width x = w) ∧ noOwn x = true ∧ solid x = true)
    (ha : l ≠ [] → a = some ⟨b, o, none⟩) (h : ∀ (j : Nat) x, (flats l)[j]? = some x → ∃ c, E.cell b (o + j) = some c ∧ VR E false x c) : ∃ cs, ObjsAt E w l (.slice a n cap) cs := by
  subst hn
  have hlen := objs_flat_length hf
  have hall : ∀ j, ∃ v, ∀ y, (flats l)[j]? = some y → E.cell b (o + j) = some v ∧ VR E false y v := fun j => by
    cases hy : (flats l)[j]? with
    | none => exact ⟨undef, fun y h => by simp at h⟩
    | some y => obtain ⟨v, h1, h2⟩ := h j y hy; exact ⟨v, fun z hz => by simp at hz; subst hz; exact ⟨h1, h2⟩⟩
  obtain ⟨vv, hvv⟩ := Classical.axiomOfChoice hall
  refine ⟨(List.range (l.length * w)).map vv, fun P W => rfl, by simp, fun P W hW => ?_, fun j x c hx hc => ?_, hf⟩
  · cases a with
    | none =>
      have : l = [] := by
        by_cases e : l = []
        · exact e
        · exact absurd (ha e) (by simp)
      subst this
      simp [Builtin.firstCells]
    | some ad =>
      simp only [Builtin.firstCells]
      rcases Nat.eq_zero_or_pos (l.length * w) with h0 | hp
      · rw [h0]; simp [loadCells, loadCellsFrom]
      · have hne : l ≠ [] := fun e => by subst e; simp at hp
        cases ha hne
        refine run_loadCells_of W b o _ _ (by simp) fun j v hv => ?_
        rw [hW]
        have hj := (List.getElem?_eq_some_iff.1 hv).1
        simp at hj
        rw [List.getElem?_map, List.getElem?_range hj] at hv
        simp at hv
        subst hv
        exact (hvv j _ (List.getElem?_eq_getElem (by omega))).1
  · have hj := (List.getElem?_eq_some_iff.1 hx).1
    rw [List.getElem?_map, List.getElem?_range (by omega)] at hc
    simp at hc
    subst hc
    exact (hvv j x hx).2
theorem objs_sub_get {l : List AV} {w s n : Nat} (h : ∀ x ∈ l, (Fit x ∧ width x = w) ∧ noOwn x = true ∧ solid x = true) {j : Nat} {y : AV} (hy : (flats ((l.drop s).take n))[j]? = some y) : (flats l)[s * w + j]? = some y := by
  have hs : s ≤ l.length ∨ l.length < s := by omega
  rcases hs with hs | hs
  · have e1 : flats l = flats (l.take s) ++ flats (l.drop s) := by rw [← flats_append, List.take_append_drop]
    have e2 : flats (l.drop s) = flats ((l.drop s).take n) ++ flats ((l.drop s).drop n) := by rw [← flats_append, List.take_append_drop]
    have e3 : (flats (l.take s)).length = s * w := by rw [objs_flat_length fun x hx => h x (List.mem_of_mem_take hx)]; simp [Nat.min_eq_left hs]
    rw [e1, List.getElem?_append_right (by omega), e3, Nat.add_sub_cancel_left, e2, List.getElem?_append_left (List.getElem?_eq_some_iff.1 hy).1]
    exact hy
  · rw [List.drop_eq_nil_of_le (by omega)] at hy
    simp [flats] at hy
theorem elsOf_objs {bl : Blks} {x : AV} {e w : Nat} {l : List AV} (h : elsOf bl x = some (.objs e w l)) {E : Env} (hE : E.bl = bl ∨ noOwn x = true) (m : Mem E) {v : Value} (hv : VR E true x v) : ∃ cs, ObjsAt E w l v cs := by
  unfold elsOf at h
  split at h
  · cases h
  · cases h
  · cases h
    cases hv with
    | robjs _ _ _ _ a cap hc hw vv hne hh hv =>
      by_cases hl : l = []
      · subst hl
        exact objsAt_slice (b := 0) (o := 0) rfl hw (fun h => absurd rfl h) fun j x hx => by simp [flats] at hx
      · obtain ⟨ad, rfl, g1⟩ := hne hl
        obtain ⟨ab, ao, as⟩ := ad
        simp at g1; subst g1
        refine objsAt_slice (b := ab) (o := ao) rfl hw (fun _ => rfl) fun j y hy => ?_
        obtain ⟨x, h1, h2⟩ := objs_flat_get hw hy
        obtain ⟨g1, g2⟩ := hh _ (j / w) x (j % w) y rfl h1 h2
        refine ⟨_, ?_, hv (j / w) x (j % w) y h1 h2⟩
        simp only at g2
        rw [show ao + j / w * w + j % w = ao + j from by have := Nat.div_add_mod j w; rw [Nat.mul_comm] at this; omega] at g2
        exact g2
  · rename_i id w'
    rcases hE with rfl | hE
    · split at h
      · cases h
      · rename_i e' w2 l' hb
        cases h
        cases hv with
        | own _ _ len a cap hid hc hh =>
          obtain ⟨g1, g2, g3⟩ := hh _ hb
          simp [rowB] at g1
          obtain ⟨_, rfl⟩ := g1
          have ok := m.ok id _ hb
          refine objsAt_slice (b := (E.loc id).1) (o := (E.loc id).2.1) rfl ok.fit (fun hne => ?_) fun j y hy => ?_
          · rcases g3 with rfl | rfl
            · have := List.length_pos_iff.2 hne; omega
            · rfl
          · obtain ⟨v, h1, h2⟩ := ok.cells j y hy
            obtain ⟨x, k1, k2⟩ := objs_flat_get ok.fit hy
            exact ⟨v, h1, h2.low (flat_noOwn (ok.fit x (List.mem_of_getElem? k1)).2.1 y (List.mem_of_getElem? k2))⟩
      · cases h
    · simp [noOwn] at hE
  · rename_i id path s n w'
    rcases hE with rfl | hE
    · split at h
      · cases h
      · rename_i _ _ e' w2 l' hb
        cases h
        cases hv with
        | slice _ _ _ _ _ a cap hid hc hsm hh =>
          obtain ⟨q, c, g1, g2, g3, g4⟩ := hh _ hb
          simp [rowB] at g1
          obtain ⟨rfl, rfl, rfl⟩ := g1
          have ok := m.ok id _ hb
          have hfit : ∀ x ∈ (l'.drop s).take n, (Fit x ∧ width x = w) ∧ noOwn x = true ∧ solid x = true := fun x hx => ok.fit x (List.mem_of_mem_drop (List.mem_of_mem_take hx))
          refine objsAt_slice (b := (E.loc id).1) (o := (E.loc id).2.1 + s * w) (by simp; omega) hfit (fun hne => ?_) fun j y hy => ?_
          · rcases g4 with rfl | rfl
            · have := List.length_pos_iff.2 hne; simp at this; omega
            · simp
          · have hy' := objs_sub_get ok.fit hy
            obtain ⟨v, h1, h2⟩ := ok.cells _ y hy'
            obtain ⟨x, k1, k2⟩ := objs_flat_get hfit hy
            exact ⟨v, by rw [Nat.add_assoc]; exact h1, h2.low (flat_noOwn (hfit x (List.mem_of_getElem? k1)).2.1 y (List.mem_of_getElem? k2))⟩
      · split at h
        · cases h
        · cases h
      · cases h
    · simp [noOwn] at hE
  · cases h
end
end Go.Abs
end
section
set_option linter.unusedVariables false
set_option linter.unusedSimpArgs false
namespace Go.Abs
open Go
section
variable {R : Type} {C : Ctx}
def SrcTy (P : Program) (tx : TypeId) : Prop := (∃ e', P.underlying tx = some (.slice e')) ∨ P.underlying tx = some .string
theorem srcTy_of {P : Program} {tx : TypeId} (h : srcTyB P tx = true) : SrcTy P tx := by
  unfold SrcTy
  unfold srcTyB at h
  split at h
  · rename_i e hu; exact .inl ⟨e, hu⟩
  · rename_i hu; exact .inr hu
  · cases h
theorem src_ints {P : Program} {E : Env} {tx : TypeId} {k : IntKind} {l : List Int} {v : Value} (ht : SrcTy P tx) (h : IntsAt E k l v) : Src P 1 tx v l.length (l.map (Value.int k)) E.w := by
  refine ⟨ht, fun w' => h.len P w', ?_, ?_, by simp, fun u hu => ?_⟩
  · have := h.cells P E.w (fun _ => rfl) l.length (Nat.le_refl _); rwa [List.take_length] at this
  · have := h.cells P E.w.drew (fun _ => rfl) l.length (Nat.le_refl _); rwa [List.take_length] at this
  · obtain ⟨n, _, rfl⟩ := List.mem_map.1 hu; rfl
theorem ObjsAt.one {E : Env} {w : Nat} {l : List AV} {v : Value} {cs : List Value} (h : ObjsAt E w l v cs) : ∀ u ∈ cs, u.oneCell' = true := fun u hu => by
  obtain ⟨j, hj⟩ := List.mem_iff_getElem?.1 hu
  have hjl := (List.getElem?_eq_some_iff.1 hj).1
  have hfl := objs_flat_length h.fit
  have hx := List.getElem?_eq_getElem (l := flats l) (i := j) (by rw [hfl, ← h.size]; exact hjl)
  obtain ⟨y, h1, h2⟩ := objs_flat_get h.fit hx
  obtain ⟨g1, g2⟩ := solid_flat (h.fit y (List.mem_of_getElem? h1)).2.2 _ (List.mem_of_getElem? h2)
  exact (h.vr j _ u hx hj).oneCell g1 g2
theorem src_objs {P : Program} {E : Env} {tx : TypeId} {w : Nat} {l : List AV} {v : Value} {cs : List Value} (ht : SrcTy P tx) (h : ObjsAt E w l v cs) : Src P w tx v l.length cs E.w :=
  ⟨ht, fun w' => h.len P w', h.cells P E.w fun _ => rfl, h.cells P E.w.drew fun _ => rfl, h.size, h.one⟩
structure AppSrc (P : Program) (t tx ty e w : Nat) (v : Value) (n : Nat) (news : List Value) (W : World) : Prop where
  newsLen : news.length = n * w
  nothing : n = 0 → ∀ (i : TypeInfo), P.underlying t = some (.slice e) → P.info? e = some i → i.size = w → ∀ (a : Option Addr) (len cap : Nat), len ≤ cap →
    (Builtin.append_ #[t, tx] ty #[.slice a len cap, v]).run P W = .ok (.slice a len cap) W
  room : ∀ (i : TypeInfo), P.underlying t = some (.slice e) → P.info? e = some i → i.size = w → ∀ (b off sLen sCap : Nat), sLen + n ≤ sCap → n * i.bytes ≤ 281474976710656 →
    (∀ j, j < news.length → (W.cell? ⟨b, off + sLen * w + j, none⟩).isSome = true) → (∀ j, j < news.length → W.frozen? ⟨b, off + sLen * w + j, none⟩ = false) →
    (Builtin.append_ #[t, tx] ty #[.slice (some ⟨b, off, none⟩) sLen sCap, v]).run P W = .ok (.slice (some ⟨b, off, none⟩) (sLen + n) sCap) (W.setCells b (off + sLen * w) news)
  grow : ∀ (i : TypeInfo) (z : Value), P.underlying t = some (.slice e) → P.info? e = some i → i.zero = some z → i.size = w → ∀ (base : Option Addr) (sLen sCap : Nat) (olds : List Value),
    (Builtin.firstCells i.size sLen (.slice base sLen sCap)).run P W.drew = .ok olds.toArray W.drew → sCap < sLen + n → ((sLen + n : Nat) : Int) ≤ 9223372036854775807 → n * i.bytes ≤ 281474976710656 → Builtin.nextslicecap (sLen + n) sCap * i.bytes ≤ 281474976710656 →
    (Builtin.append_ #[t, tx] ty #[.slice base sLen sCap, v]).run P W =
      .ok (.slice (some ⟨W.heap.size, 0, none⟩) (sLen + n) (grownCap W (sLen + n) sCap e))
        (W.drew.alloc (.cells ((olds ++ news).toArray ++ Builtin.zeroCells z.cells (grownCap W (sLen + n) sCap e - (sLen + n))) e))
theorem AppSrc.ofSrc {P : Program} {t tx ty e w : Nat} {v : Value} {n : Nat} {news : List Value} {W : World} (h : Src P w tx v n news W) : AppSrc P t tx ty e w v n news W where
  newsLen := h.newsLen
  nothing := fun h0 i hu hi hw a len cap hle => by
    subst h0; subst hw
    have hnil : news = [] := List.length_eq_zero_iff.1 (by rw [h.newsLen]; simp)
    subst hnil
    exact run_append_nothing W t tx ty e i hu hi a len cap hle v h
  room := fun i hu hi hw b off sLen sCap hr hb hc hf => by
    subst hw
    exact run_append_room_src W t tx ty e i hu hi b off sLen sCap v n news h hr hc hf
  grow := fun i z hu hi hz hw base sLen sCap olds hold hg h63 hb hfit => by
    subst hw
    exact run_append_grow_src W t tx ty e i z hu hi hz base sLen sCap olds hold v n news h hg h63 hfit
theorem zeroCells_one (u : Value) (n : Nat) : Builtin.zeroCells #[u] n = (List.replicate n u).toArray := by
  apply Array.ext
  · simp [Builtin.zeroCells]
  · intro i h1 h2
    simp [Builtin.zeroCells, Nat.mod_one]
theorem AppSrc.ofZeros {P : Program} {t tx ty e : Nat} {k kn kq : IntKind} {z : Int} {n : Nat} {W : World} (hx : P.underlying tx = some (.int kn)) (hz : ∃ i, P.info? e = some i ∧ i.zero = some (.int k z) ∧ i.size = 1) (h63 : n ≤ 9223372036854775807) :
    AppSrc P t tx ty e 1 (.int kq n) n ((List.replicate n z).map (Value.int k)) W := by
  obtain ⟨i0, hi0, hz0, hs0⟩ := hz
  have hw : IntKind.i64.wrap (n : Int) = n := by rw [IntKind.wrap_i64]; omega
  have hneg : ¬ ((n : Int) < 0) := by omega
  have hcs : (Value.int k z).cells = #[.int k z] := rfl
  refine ⟨by simp, fun h0 i hu hi hw1 a len cap hle => ?_, fun i hu hi hw1 b off sLen sCap hr hb hc hf => ?_, fun i z' hu hi hz hw1 base sLen sCap olds hold hg h63' hb hfit => ?_⟩
  · subst h0
    have h00 : IntKind.i64.wrap 0 = 0 := by decide
    cases a <;> simp [Builtin.append_, run_underlying hu, run_underlying hx, sizeOf, typeInfo, hi, asInt, asIntOf, h00, hle, storeCells]
  · have hi' : i = i0 := Option.some.inj (hi.symm.trans hi0)
    subst hi'
    have hst := run_storeCells_cells (P := P) b (off + sLen * 1) ((List.replicate n z).map (Value.int k)) 0 W (by simpa using hc) (by simpa using hf) (fun u hu => by
      obtain ⟨m, _, rfl⟩ := List.mem_map.1 hu; rfl)
    simp only [Nat.add_zero] at hst
    have h48i : ¬ (281474976710656 < (n : Int) * (i.bytes : Int)) := by
      rw [← Int.natCast_mul]; omega
    have hmr : (List.replicate n z).map (Value.int k) = List.replicate n (Value.int k z) := by simp
    by_cases h0 : n = 0
    · subst h0
      have h00 : IntKind.i64.wrap 0 = 0 := by decide
      simp [Builtin.append_, run_underlying hu, run_underlying hx, sizeOf, typeInfo, hi, asInt, asIntOf, h00, hs0] at *
      simp [hr, storeCells, World.setCells]
    · have hns : ¬ (n * 1 = 0) := by omega
      simp [Builtin.append_, run_underlying hu, run_underlying hx, sizeOf, typeInfo, zeroValue, hi, hz0, hs0, asInt, asIntOf, hw, hneg, h48i, h0, hr, Addr.add_lit, hcs, zeroCells_one] at *
      rw [hst]
      rfl
  · have hi' : i = i0 := Option.some.inj (hi.symm.trans hi0)
    subst hi'
    have hzz : z' = .int k z := Option.some.inj (hz.symm.trans hz0)
    subst hzz
    rcases Nat.eq_zero_or_pos n with h0 | h0
    · subst h0
      have h00 : IntKind.i64.wrap 0 = 0 := by decide
      have hn : ¬ (sLen ≤ sCap) := by omega
      have h63'' : ¬ (9223372036854775807 < (sLen : Int)) := by omega
      have h48' : ¬ (281474976710656 < Builtin.nextslicecap sLen sCap * i.bytes) := by simp at hfit; omega
      rw [hs0] at hold
      simp [Builtin.append_, run_underlying hu, run_underlying hx, sizeOf, typeInfo, zeroValue, hi, hz0, hs0, asInt, asIntOf, h00, hn, h63'', h48', Question.forced, hold, newRow, grownCap, hcs, zeroCells_one]
    · rw [Go.Lib.run_append_grow_zeros W t tx ty e i _ kq kn hu hx hi hz0 base sLen sCap olds hold n h0 (by omega) hg h63' hb hfit]
      congr 2
      congr 1
      simp only [hcs, zeroCells_one]
      apply Array.ext'
      simp [List.append_assoc, List.replicate_append_replicate]
def Env.empty (E : Env) (blk : Blk) : Env := { E with loc := fun i => if i = E.bl.length then (0, 0, 0) else E.loc i, bl := E.bl ++ [some blk] }
theorem Go.empty {E : Env} (m : Mem E) (blk : Blk) (hf : FitB blk) (hl : flatB blk = []) : Go E (E.empty blk) := by
  have hloc : ∀ i, i < E.bl.length → (E.empty blk).loc i = E.loc i := fun i hi => by simp [Env.empty, Nat.ne_of_lt hi]
  have hlocn : (E.empty blk).loc E.bl.length = (0, 0, 0) := by simp [Env.empty]
  have hget : ∀ i bi, bget (E.empty blk).bl i = some bi → (i < E.bl.length ∧ bget E.bl i = some bi) ∨ (i = E.bl.length ∧ bi = blk) := fun i bi h => by
    rcases bget_append_lt h with h | ⟨h1, h2⟩
    · exact .inl h
    · cases h2; exact .inr ⟨h1, rfl⟩
  have hext : ∀ i bi, bget (E.empty blk).bl i = some bi → ∀ b o, InExt (E.empty blk) i b o → bget E.bl i = some bi ∧ InExt E i b o := fun i bi h b o hx => by
    rcases hget i bi h with ⟨h1, h2⟩ | ⟨h1, _⟩
    · unfold InExt at hx ⊢; rw [hloc i h1] at hx; exact ⟨h2, hx⟩
    · subst h1; unfold InExt at hx; rw [hlocn] at hx; simp at hx
  have hown : ∀ b o, Own (E.empty blk) b o → Own E b o := fun b o ⟨i, bi, h, hx⟩ => ⟨i, bi, hext i bi h b o hx⟩
  have fr : Fr E (E.empty blk) := ⟨rfl, rfl, rfl, Nat.le_refl _, fun _ _ _ _ => rfl, fun _ _ _ => rfl, fun _ _ _ _ => rfl, fun b o h => .inl (hown b o h), fun _ _ h => .inl h, fun _ _ h => h⟩
  have st : Step E (E.empty blk) := .of_fr m fr (by simp [Env.empty]) fun i hi bi h => by
    rcases hget i bi h with ⟨h1, h2⟩ | ⟨h1, _⟩
    · exact ⟨bi, h2, hloc i h1, fun _ _ h => h, fun _ _ h => h⟩
    · omega
  refine ⟨st, fr, ⟨fun i bi h => ?_, fun i j bi bj hij hi hj b o hx hy => ?_, m.roe, fun b o ho => m.rod b o (hown b o ho)⟩⟩
  · rcases hget i bi h with ⟨h1, h2⟩ | ⟨h1, h2⟩
    · have k := m.ok i bi h2
      refine ⟨k.fit, by rw [hloc i h1]; exact k.len, fun j x hx => ?_, fun j hj => ?_⟩
      · rw [hloc i h1]
        obtain ⟨v, g1, g2⟩ := k.cells j x hx
        exact ⟨v, g1, g2.mono st⟩
      · rw [hloc i h1] at hj ⊢; exact k.room j hj
    · subst h1; subst h2
      refine ⟨hf, by rw [hl, hlocn]; simp, fun j x hx => by rw [hl] at hx; simp at hx, fun j hj => by rw [hlocn] at hj; simp at hj⟩
  · obtain ⟨h1, h2⟩ := hext i bi hi b o hx
    obtain ⟨k1, k2⟩ := hext j bj hj b o hy
    exact m.dis i j bi bj hij h1 k1 b o h2 k2
theorem cap_bound {need old bytes : Nat} (h : old < need) (hb : need * bytes ≤ 70368744177664) : Builtin.nextslicecap need old * bytes ≤ 281474976710656 := by
  have h1 := Nat.mul_le_mul_right bytes (nextslicecap_le need old h)
  rw [Nat.mul_assoc] at h1
  omega
theorem app_nil {E : Env} {t tx ty e w n : Nat} {v : Value} {news : List Value} {blk : Blk} (m : Mem E) (hu : C.P.underlying t = some (.slice e)) (hs : szOK C.P e w = true)
    (src : AppSrc C.P t tx ty e w v n news E.w) (hb : n * bytesQ C.P e ≤ 70368744177664) (h63 : n ≤ 9223372036854775807) (hf : FitB blk) (hr : rowB blk [] = some (0, w, n)) (hl : (flatB blk).length = n * w)
    (h : ∀ (j : Nat) x c, (flatB blk)[j]? = some x → news[j]? = some c → VR E true x c) :
    Out E C.P .write (.own E.bl.length w) (E.bl ++ [some blk]) (Builtin.append_ #[t, tx] ty #[.slice none 0 0, v]) := by
  obtain ⟨i, z, hi, hz, hiz, hby, hzc⟩ := szOK_zero hs
  subst hiz
  rcases Nat.eq_zero_or_pos n with h0 | h0
  · subst h0
    have hnil : news = [] := List.length_eq_zero_iff.1 (by rw [src.newsLen]; simp)
    subst hnil
    have run := src.nothing rfl i hu hi rfl none 0 0 (Nat.le_refl _)
    have hfl : flatB blk = [] := List.length_eq_zero_iff.1 (by rw [hl]; simp)
    refine ⟨_, E.empty blk, run, rfl, Go.empty m blk hf hfl, ?_⟩
    have hbn : bget (E.empty blk).bl E.bl.length = some blk := bget_new
    refine .own _ _ _ _ _ (bget_lt hbn) (Nat.le_refl _) fun b hb => ?_
    rw [hbn] at hb; cases hb
    exact ⟨hr, by simp, .inl rfl⟩
  · have hold : (Builtin.firstCells i.size 0 (.slice none 0 0)).run C.P E.w.drew = .ok ([] : List Value).toArray E.w.drew := rfl
    have run := src.grow i z hu hi hz rfl none 0 0 [] hold (by omega) (by omega) (by rw [← hby]; omega) (by rw [← hby]; exact cap_bound (by omega) (by simpa using hb))
    simp only [Nat.zero_add, List.nil_append] at run
    generalize hg : grownCap E.w n 0 e = g at run
    have hgle : n ≤ g := by rw [← hg]; exact grownCap_ge _ _ _ _
    have go1 := Go.drew m
    have hle : n * i.size ≤ g * i.size := Nat.mul_le_mul_right _ hgle
    have hsz : (news.toArray ++ Builtin.zeroCells z.cells (g - n)).size = g * i.size := by
      simp only [Array.size_append, List.size_toArray, size_zeroCells, src.newsLen, hzc]
      rw [← Nat.add_mul]; congr 1; omega
    have go2 := Go.new go1.mem (news.toArray ++ Builtin.zeroCells z.cells (g - n)) e (g * i.size) blk (0, 0) (fun j _ => by simp) hf (by rw [hl]; exact hle) (by rw [hsz]; exact Nat.le_refl _) (fun j x c hx hc => by
      have hj := (List.getElem?_eq_some_iff.1 hx).1
      rw [hl] at hj
      rw [Array.getElem?_append_left (by simp [src.newsLen]; exact hj)] at hc
      exact (h j x c hx (by simpa using hc)).mono go1.step)
    exact ⟨_, _, run, rfl, go1.trans go2, vr_own_new hr hgle (Nat.le_refl _)⟩
theorem put_cell_in {E : Env} {id q : Nat} {vs : List Value} {blk : Blk} (h : ∀ j, j < vs.length → (E.cell (E.loc id).1 ((E.loc id).2.1 + q + j)).isSome = true) (j : Nat) (c : Value) (hc : vs[j]? = some c) :
    (E.put id q vs blk).cell (E.loc id).1 ((E.loc id).2.1 + q + j) = some c := by
  obtain ⟨hj, rfl⟩ := List.getElem?_eq_some_iff.1 hc
  exact World.cell?_setCells_in _ vs _ E.w h j hj
theorem app_own {E : Env} {t tx ty e w n id len cap : Nat} {a : Option Addr} {v : Value} {news olds : List Value} {blk blk' : Blk} (m : Mem E) (hu : C.P.underlying t = some (.slice e)) (hs : szOK C.P e w = true)
    (hown : VR E true (.own id w) (.slice a len cap)) (hbk : bget E.bl id = some blk) (hr0 : rowB blk [] = some (0, w, len)) (hl0 : (flatB blk).length = len * w)
    (hold : ∀ W : World, (∀ x, W.cell? x = E.w.cell? x) → (Builtin.firstCells w len (.slice a len cap)).run C.P W = .ok olds.toArray W) (holdl : olds.length = len * w)
    (holdr : ∀ (j : Nat) x c, (flatB blk)[j]? = some x → olds[j]? = some c → VR E true x c)
    (src : AppSrc C.P t tx ty e w v n news E.w) (hb : (len + n) * bytesQ C.P e ≤ 70368744177664) (h63 : len + n ≤ 9223372036854775807) (hf : FitB blk') (hr : rowB blk' [] = some (0, w, len + n)) (hl : (flatB blk').length = (len + n) * w)
    (h1 : ∀ (j : Nat) x, (flatB blk')[j]? = some x → j < len * w → (flatB blk)[j]? = some x)
    (h2 : ∀ (j : Nat) x c, (flatB blk')[j]? = some x → len * w ≤ j → news[j - len * w]? = some c → VR E true x c) :
    Out E C.P .write (.own E.bl.length w) (E.bl.set id none ++ [some blk']) (Builtin.append_ #[t, tx] ty #[.slice a len cap, v]) := by
  obtain ⟨i, z, hi, hz, hiz, hby, hzc⟩ := szOK_zero hs
  subst hiz
  have hid := bget_lt hbk
  cases hown with
  | own _ _ _ _ _ _ hc hh =>
    obtain ⟨_, hext, hadr⟩ := hh blk hbk
    have hnl := src.newsLen
    rcases Nat.lt_or_ge cap (len + n) with hg | hg
    · -- a new row
      have hbn : n * i.bytes ≤ 281474976710656 := by
        rw [← hby]; rw [Nat.add_mul] at hb; omega
      have run := src.grow i z hu hi hz rfl a len cap olds (hold _ fun _ => rfl) hg (by omega) hbn (by rw [← hby]; exact cap_bound hg hb)
      generalize hgc : grownCap E.w (len + n) cap e = g at run
      have hgle : len + n ≤ g := by rw [← hgc]; exact grownCap_ge _ _ _ _
      have go1 := Go.drew m
      have hle : (len + n) * i.size ≤ g * i.size := Nat.mul_le_mul_right _ hgle
      have hsz : ((olds ++ news).toArray ++ Builtin.zeroCells z.cells (g - (len + n))).size = g * i.size := by
        simp only [Array.size_append, List.size_toArray, size_zeroCells, List.length_append, hnl, hzc, holdl]
        rw [← Nat.add_mul, ← Nat.add_mul]; congr 1; omega
      have go2 := Go.new go1.mem ((olds ++ news).toArray ++ Builtin.zeroCells z.cells (g - (len + n))) e (g * i.size) blk' (0, 0) (fun j _ => by simp) hf (by rw [hl]; exact hle) (by rw [hsz]; exact Nat.le_refl _) (fun j x c hx hc => by
        have hj := (List.getElem?_eq_some_iff.1 hx).1
        rw [hl, Nat.add_mul] at hj
        rw [Array.getElem?_append_left (by simp [hnl, holdl]; exact hj)] at hc
        have hc' : (olds ++ news)[j]? = some c := by simpa using hc
        rcases Nat.lt_or_ge j (len * i.size) with hlt | hge
        · rw [List.getElem?_append_left (by omega)] at hc'
          exact (holdr j x c (h1 j x hx hlt) hc').mono go1.step
        · rw [List.getElem?_append_right (by omega), holdl] at hc'
          exact (h2 j x c hx hge hc').mono go1.step)
      have go3 := Go.kill go2.mem id
      refine ⟨_, _, run, ?_, (go1.trans go2).trans go3, (vr_own_new hr hgle (Nat.le_refl _)).mono go3.step⟩
      show (E.bl ++ [some blk']).set id none = _
      rw [List.set_append_left _ _ hid]
      rfl
    · rcases Nat.eq_zero_or_pos cap with h0 | h0
      · -- nothing at all
        have hn0 : n = 0 := by omega
        have hl00 : len = 0 := by omega
        subst hn0; subst hl00; subst h0
        have hnil : news = [] := List.length_eq_zero_iff.1 (by rw [hnl]; simp)
        subst hnil
        have run := src.nothing rfl i hu hi rfl a 0 0 (Nat.le_refl _)
        have hfl : flatB blk' = [] := List.length_eq_zero_iff.1 (by rw [hl]; simp)
        have go := Go.move m id blk blk' hbk hf (by rw [hfl]; simp) (fun j x hx => by rw [hfl] at hx; simp at hx)
        refine ⟨_, E.move id blk', run, rfl, go, ?_⟩
        have hbn : bget (E.move id blk').bl E.bl.length = some blk' := by
          show bget (E.bl.set id none ++ [some blk']) E.bl.length = _
          have : E.bl.length = (E.bl.set id none).length := by simp
          rw [this]; exact bget_new
        refine .own _ _ _ _ _ (bget_lt hbn) (Nat.le_refl _) fun b hb => ?_
        rw [hbn] at hb; cases hb
        exact ⟨hr, by simp, .inl rfl⟩
      · rcases hadr with h | rfl
        · omega
        have ok := m.ok id blk hbk
        have hle : (len + n) * i.size ≤ cap * i.size := Nat.mul_le_mul_right _ hg
        have hroomc : ∀ j, j < news.length → (E.cell (E.loc id).1 ((E.loc id).2.1 + len * i.size + j)).isSome = true ∧ E.w.frozen? ⟨(E.loc id).1, (E.loc id).2.1 + len * i.size + j, none⟩ = false := fun j hj => by
          have := ok.room (len * i.size + j) (by rw [Nat.add_mul] at hle; omega)
          rw [← Nat.add_assoc] at this
          exact this
        have hbn : n * i.bytes ≤ 281474976710656 := by
          rw [← hby]; rw [Nat.add_mul] at hb; omega
        have run := src.room i hu hi rfl (E.loc id).1 (E.loc id).2.1 len cap hg hbn (fun j hj => (hroomc j hj).1) (fun j hj => (hroomc j hj).2)
        have go1 := Go.put m id (len * i.size) news blk blk hbk (by rw [hnl]; rw [Nat.add_mul] at hle; omega) ok.fit ok.len (fun j x hx hj1 hj2 => by
          have := (List.getElem?_eq_some_iff.1 hx).1; omega) (fun j x hx _ => hx) (fun _ _ h => h) (fun _ _ h => h)
        have hbl1 : bget (E.put id (len * i.size) news blk).bl id = some blk := bget_set_self hid
        have ok1 := go1.mem.ok id blk hbl1
        have go2 := Go.move go1.mem id blk blk' hbl1 hf (by rw [hl]; show _ ≤ (E.loc id).2.2; omega) (fun j x hx => by
          have hj := (List.getElem?_eq_some_iff.1 hx).1
          rw [hl, Nat.add_mul] at hj
          rcases Nat.lt_or_ge j (len * i.size) with hlt | hge
          · exact ok1.cells j x (h1 j x hx hlt)
          · have hjn : j - len * i.size < news.length := by omega
            refine ⟨news[j - len * i.size], ?_, (h2 j x _ hx hge (List.getElem?_eq_getElem hjn)).mono go1.step⟩
            have := put_cell_in (blk := blk) (fun j hj => (hroomc j hj).1) (j - len * i.size) _ (List.getElem?_eq_getElem hjn)
            rw [show (E.loc id).2.1 + len * i.size + (j - len * i.size) = (E.loc id).2.1 + j from by omega] at this
            exact this)
        refine ⟨_, (E.put id (len * i.size) news blk).move id blk', run, ?_, go1.trans go2, ?_⟩
        · show (E.bl.set id (some blk)).set id none ++ _ = _
          rw [List.set_set]
          rfl
        · have hlen' : (E.put id (len * i.size) news blk).bl.length = E.bl.length := by simp [Env.put]
          have hbn : bget ((E.put id (len * i.size) news blk).move id blk').bl E.bl.length = some blk' := by
            show bget ((E.bl.set id (some blk)).set id none ++ [some blk']) E.bl.length = _
            have : E.bl.length = ((E.bl.set id (some blk)).set id none).length := by simp
            rw [this]; exact bget_new
          refine .own _ _ _ _ _ (bget_lt hbn) hg fun b hb => ?_
          rw [hbn] at hb; cases hb
          have hl2 : ((E.put id (len * i.size) news blk).move id blk').loc E.bl.length = E.loc id := by
            show (if E.bl.length = (E.put id (len * i.size) news blk).bl.length then _ else _) = _
            rw [hlen', if_pos rfl]
            rfl
          rw [hl2]
          exact ⟨hr, hext, .inr rfl⟩
end
end Go.Abs
end
section
set_option linter.unusedVariables false
set_option linter.unusedSimpArgs false
namespace Go.Abs
open Go
section
variable {R : Type} {C : Ctx}
theorem appendNilK_sound {e : TypeId} {x : AV} {bl : Blks} {K : Kont R} {r : R} (h : appendNilK C e x bl K = some r) :
    ∃ v bl', KS (R := R) (appendNilK C e x) bl .write v bl' ∧ ∀ t tx, C.P.underlying t = some (.slice e) → SrcTy C.P tx → ∀ E, E.bl = bl → Mem E → ∀ x' ty, VR E true x x' → Out E C.P .write v bl' (Builtin.append_ #[t, tx] ty #[.slice none 0 0, x']) := by
  unfold appendNilK at h
  split at h <;> (try (cases h; done))
  · rename_i k l hel
    split at h <;> (try (cases h; done))
    rename_i hc
    split at h <;> (try (cases h; done))
    rename_i hb
    refine ⟨.own bl.length 1, bl ++ [some (.ints k l)], .ofWrite fun K => by simp only [appendNilK, hel, if_pos hc, if_pos hb], fun t tx hu ht E hE m x' ty hx => ?_⟩
    subst hE
    simp only [Bool.and_eq_true, decide_eq_true_eq] at hc
    have src := AppSrc.ofSrc (t := t) (ty := ty) (e := e) (src_ints ht (elsOf_ints hel (.inl rfl) m hx))
    exact app_nil m hu hc.2 src hb.1 hb.2 trivial (by simp [rowB]) (by simp [flatB]) fun j x c hx hc => by
      simp only [flatB, List.getElem?_map] at hx hc
      cases hl : l[j]? with
      | none => simp [hl] at hx
      | some n => simp [hl] at hx hc; subst hx; subst hc; exact .int _ _ _
  · rename_i e' w l hel
    split at h <;> (try (cases h; done))
    rename_i hc
    split at h <;> (try (cases h; done))
    rename_i hb
    refine ⟨.own bl.length w, bl ++ [some (.objs e w l)], .ofWrite fun K => by simp only [appendNilK, hel, if_pos hc, if_pos hb], fun t tx hu ht E hE m x' ty hx => ?_⟩
    subst hE
    simp only [Bool.and_eq_true, beq_iff_eq] at hc
    obtain ⟨cs, oa⟩ := elsOf_objs hel (.inl rfl) m hx
    have src := AppSrc.ofSrc (t := t) (ty := ty) (e := e) (src_objs ht oa)
    exact app_nil m hu hc.2 src hb.1 hb.2 oa.fit (by simp [rowB]) (by simp only [flatB]; exact objs_flat_length oa.fit) fun j x c hx hc => (oa.vr j x c hx hc).lift
theorem appendOwnK_sound {e id w : Nat} {x : AV} {bl : Blks} {K : Kont R} {r : R} (h : appendOwnK C e id w x bl K = some r) :
    ∃ v bl', KS (R := R) (appendOwnK C e id w x) bl .write v bl' ∧ ∀ t tx, C.P.underlying t = some (.slice e) → SrcTy C.P tx → ∀ E, E.bl = bl → Mem E → ∀ s' x' ty, VR E true (.own id w) s' → VR E true x x' → Out E C.P .write v bl' (Builtin.append_ #[t, tx] ty #[s', x']) := by
  unfold appendOwnK at h
  split at h <;> (try (cases h; done))
  · rename_i k r0 k' l hel hbk
    split at h <;> (try (cases h; done))
    rename_i hc
    split at h <;> (try (cases h; done))
    rename_i hb
    refine ⟨.own bl.length 1, bl.set id none ++ [some (.ints k (l ++ r0))], .ofWrite fun K => by simp only [appendOwnK, hel, hbk, if_pos hc, if_pos hb], fun t tx hu ht E hE m s' x' ty hs hx => ?_⟩
    subst hE
    simp only [Bool.and_eq_true, decide_eq_true_eq, beq_iff_eq] at hc
    obtain ⟨⟨⟨hk, rfl⟩, hsz⟩, rfl⟩ := hc
    have src := AppSrc.ofSrc (t := t) (ty := ty) (e := e) (src_ints ht (elsOf_ints hel (.inl rfl) m hx))
    have hself : IntsAt E k l s' := elsOf_ints (bl := E.bl) (x := .own id 1) (by simp [elsOf, hbk]) (.inl rfl) m hs
    cases hs with
    | own _ _ len a cap hid hcap hh =>
      obtain ⟨g1, g2, g3⟩ := hh _ hbk
      have g1' := g1
      simp [rowB] at g1
      subst g1
      exact app_own (blk := .ints k l) (olds := l.map (Value.int k)) m hu hsz (.own _ _ _ _ _ hid hcap hh) hbk (by simp [rowB]) (by simp [flatB]) (fun W hW => by
          have := hself.cells C.P W hW l.length (Nat.le_refl _); rwa [List.take_length] at this) (by simp)
        (fun j x c hx hc => by
          simp only [flatB, List.getElem?_map] at hx hc
          cases hl : l[j]? with
          | none => simp [hl] at hx
          | some n => simp [hl] at hx hc; subst hx; subst hc; exact .int _ _ _)
        src hb.1 hb.2 trivial (by simp [rowB]) (by simp [flatB])
        (fun j x hx hj => by
          simp only [flatB, List.map_append] at hx ⊢
          rwa [List.getElem?_append_left (by simp; omega)] at hx)
        (fun j x c hx hj hc => by
          simp only [flatB, List.map_append] at hx
          rw [List.getElem?_append_right (by simp; omega), List.length_map, List.getElem?_map] at hx
          rw [Nat.mul_one, List.getElem?_map] at hc
          cases hl : r0[j - l.length]? with
          | none => simp [hl] at hx
          | some n => simp [hl] at hx hc; subst hx; subst hc; exact .int _ _ _)
  · rename_i e1 w1 r0 e2 w2 l hel hbk
    split at h <;> (try (cases h; done))
    rename_i hc
    split at h <;> (try (cases h; done))
    rename_i hb
    refine ⟨.own bl.length w, bl.set id none ++ [some (.objs e w (l ++ r0))], .ofWrite fun K => by simp only [appendOwnK, hel, hbk, if_pos hc, if_pos hb], fun t tx hu ht E hE m s' x' ty hs hx => ?_⟩
    subst hE
    simp only [Bool.and_eq_true, beq_iff_eq] at hc
    obtain ⟨⟨⟨⟨rfl, rfl⟩, rfl⟩, rfl⟩, hsz⟩ := hc
    obtain ⟨cs, oa⟩ := elsOf_objs hel (.inl rfl) m hx
    have src := AppSrc.ofSrc (t := t) (ty := ty) (e := e2) (src_objs ht oa)
    obtain ⟨os, ob⟩ := elsOf_objs (bl := E.bl) (x := .own id w2) (e := e2) (w := w2) (l := l) (by simp [elsOf, hbk]) (.inl rfl) m hs
    cases hs with
    | own _ _ len a cap hid hcap hh =>
      obtain ⟨g1, g2, g3⟩ := hh _ hbk
      simp [rowB] at g1
      subst g1
      have hfl := objs_flat_length ob.fit
      have hfr := objs_flat_length oa.fit
      have hall : ∀ x ∈ l ++ r0, (Fit x ∧ width x = w2) ∧ noOwn x = true ∧ solid x = true := fun x hx => by
        rcases List.mem_append.1 hx with hx | hx
        · exact ob.fit x hx
        · exact oa.fit x hx
      exact app_own (blk := .objs e2 w2 l) (olds := os) m hu hsz (.own _ _ _ _ _ hid hcap hh) hbk (by simp [rowB]) (by simp only [flatB]; exact hfl) (fun W hW => ob.cells C.P W hW) ob.size
        (fun j x c hx hc => (ob.vr j x c hx hc).lift)
        src hb.1 hb.2 hall (by simp [rowB]) (by simp only [flatB]; rw [objs_flat_length hall, List.length_append])
        (fun j x hx hj => by
          simp only [flatB, flats_append] at hx ⊢
          rwa [List.getElem?_append_left (by omega)] at hx)
        (fun j x c hx hj hc => by
          simp only [flatB, flats_append] at hx
          rw [List.getElem?_append_right (by omega), hfl] at hx
          exact (oa.vr _ x c hx hc).lift)
theorem appendNilK_src {e : TypeId} {k : IntKind} {l : List Int} {bl : Blks} {K : Kont R} {r : R} (h : appendNilK C e (.rints k l) bl K = some r) :
    ∃ v bl', KS (R := R) (appendNilK C e (.rints k l)) bl .write v bl' ∧ szOK C.P e 1 = true ∧ l.length ≤ 9223372036854775807 ∧ ∀ t tx ty, C.P.underlying t = some (.slice e) → ∀ E, E.bl = bl → Mem E → ∀ x',
      AppSrc C.P t tx ty e 1 x' l.length (l.map (Value.int k)) E.w → Out E C.P .write v bl' (Builtin.append_ #[t, tx] ty #[.slice none 0 0, x']) := by
  have hel : elsOf bl (.rints k l) = some (.ints k l) := rfl
  unfold appendNilK at h
  simp only [hel] at h
  split at h <;> (try (cases h; done))
  rename_i hc
  split at h <;> (try (cases h; done))
  rename_i hb
  have hc' := hc
  simp only [Bool.and_eq_true, decide_eq_true_eq] at hc
  refine ⟨.own bl.length 1, bl ++ [some (.ints k l)], .ofWrite fun K => by simp only [appendNilK, hel, if_pos hc', if_pos hb], hc.2, hb.2, fun t tx ty hu E hE m x' src => ?_⟩
  subst hE
  exact app_nil m hu hc.2 src hb.1 hb.2 trivial (by simp [rowB]) (by simp [flatB]) fun j x c hx hc => by
    simp only [flatB, List.getElem?_map] at hx hc
    cases hl : l[j]? with
    | none => simp [hl] at hx
    | some n => simp [hl] at hx hc; subst hx; subst hc; exact .int _ _ _
theorem appendOwnK_src {e id w : Nat} {k : IntKind} {r0 : List Int} {bl : Blks} {K : Kont R} {r : R} (h : appendOwnK C e id w (.rints k r0) bl K = some r) :
    ∃ v bl', KS (R := R) (appendOwnK C e id w (.rints k r0)) bl .write v bl' ∧ szOK C.P e 1 = true ∧ r0.length ≤ 9223372036854775807 ∧ ∀ t tx ty, C.P.underlying t = some (.slice e) → ∀ E, E.bl = bl → Mem E → ∀ s' x', VR E true (.own id w) s' →
      AppSrc C.P t tx ty e 1 x' r0.length (r0.map (Value.int k)) E.w → Out E C.P .write v bl' (Builtin.append_ #[t, tx] ty #[s', x']) := by
  have hel : elsOf bl (.rints k r0) = some (.ints k r0) := rfl
  unfold appendOwnK at h
  rw [hel] at h
  split at h <;> (try (cases h; done))
  · rename_i k0 r1 k' l hel2 hbk
    cases hel2
    split at h <;> (try (cases h; done))
    rename_i hc
    split at h <;> (try (cases h; done))
    rename_i hb
    have hc' := hc
    simp only [Bool.and_eq_true, decide_eq_true_eq, beq_iff_eq] at hc
    obtain ⟨⟨⟨hk, rfl⟩, hsz⟩, rfl⟩ := hc
    refine ⟨.own bl.length 1, bl.set id none ++ [some (.ints k (l ++ r0))], .ofWrite fun K => by simp only [appendOwnK, hel, hbk]; rw [if_pos (by simp [hk, hsz]), if_pos hb], hsz, by omega, fun t tx ty hu E hE m s' x' hs src => ?_⟩
    subst hE
    have hself : IntsAt E k l s' := elsOf_ints (bl := E.bl) (x := .own id 1) (by simp [elsOf, hbk]) (.inl rfl) m hs
    cases hs with
    | own _ _ len a cap hid hcap hh =>
      obtain ⟨g1, g2, g3⟩ := hh _ hbk
      have g1' := g1
      simp [rowB] at g1
      subst g1
      exact app_own (blk := .ints k l) (olds := l.map (Value.int k)) m hu hsz (.own _ _ _ _ _ hid hcap hh) hbk (by simp [rowB]) (by simp [flatB]) (fun W hW => by
          have := hself.cells C.P W hW l.length (Nat.le_refl _); rwa [List.take_length] at this) (by simp)
        (fun j x c hx hc => by
          simp only [flatB, List.getElem?_map] at hx hc
          cases hl : l[j]? with
          | none => simp [hl] at hx
          | some n => simp [hl] at hx hc; subst hx; subst hc; exact .int _ _ _)
        src hb.1 hb.2 trivial (by simp [rowB]) (by simp [flatB])
        (fun j x hx hj => by
          simp only [flatB, List.map_append] at hx ⊢
          rwa [List.getElem?_append_left (by simp; omega)] at hx)
        (fun j x c hx hj hc => by
          simp only [flatB, List.map_append] at hx
          rw [List.getElem?_append_right (by simp; omega), List.length_map, List.getElem?_map] at hx
          rw [Nat.mul_one, List.getElem?_map] at hc
          cases hl : r0[j - l.length]? with
          | none => simp [hl] at hx
          | some n => simp [hl] at hx hc; subst hx; subst hc; exact .int _ _ _)
  · rename_i hel2 _
    cases hel2
theorem appendZK_sound {e : TypeId} {s : AV} {n : Int} {bl : Blks} {K : Kont R} {r : R} (h : appendZK C e s n bl K = some r) :
    ∃ v bl', KS (R := R) (appendZK C e s n) bl .write v bl' ∧ ∀ t tx kn, C.P.underlying t = some (.slice e) → C.P.underlying tx = some (.int kn) → ∀ E, E.bl = bl → Mem E → ∀ s' ty, VR E true s s' →
      Out E C.P .write v bl' (Builtin.append_ #[t, tx] ty #[s', .int .i64 n]) := by
  unfold appendZK at h
  split at h <;> (try (cases h; done))
  rename_i h0
  split at h <;> (try (cases h; done))
  rename_i k z hz
  have zero : szOK C.P e 1 = true → ∃ i, C.P.info? e = some i ∧ i.zero = some (.int k z) ∧ i.size = 1 := fun hs => by
    obtain ⟨i, v, h1, h2, _, h4, _⟩ := zeroOf_sound hz
    obtain ⟨i2, z2, g1, g2, g3, _⟩ := szOK_zero hs
    obtain rfl : i = i2 := Option.some.inj (h1.symm.trans g1)
    have hv : v = .int k z := by
      have := h4 ⟨default, fun _ _ => True, fun _ => (0, 0, 0), []⟩ false
      cases this; rfl
    exact ⟨i, h1, by rw [h2, hv], g3⟩
  have hn : n = ((n.toNat : Nat) : Int) := by omega
  split at h <;> (try (cases h; done))
  · obtain ⟨v, bl', h1, hsz, h63, h2⟩ := appendNilK_src h
    rw [List.length_replicate] at h63
    refine ⟨v, bl', ⟨fun K => by have := h1.det K; simp only [appendZK, if_pos h0, hz]; exact this, fun h => (by cases h), fun h => (by cases h)⟩, fun t tx kn hu hx E hE m s' ty hs => ?_⟩
    cases hs
    rw [hn]
    exact h2 t tx ty hu E hE m _ (by rw [List.length_replicate]; exact AppSrc.ofZeros hx (zero hsz) h63)
  · rename_i id w
    obtain ⟨v, bl', h1, hsz, h63, h2⟩ := appendOwnK_src h
    rw [List.length_replicate] at h63
    refine ⟨v, bl', ⟨fun K => by have := h1.det K; simp only [appendZK, if_pos h0, hz]; exact this, fun h => (by cases h), fun h => (by cases h)⟩, fun t tx kn hu hx E hE m s' ty hs => ?_⟩
    rw [hn]
    exact h2 t tx ty hu E hE m _ _ hs (by rw [List.length_replicate]; exact AppSrc.ofZeros hx (zero hsz) h63)
theorem appendK_sound {t tx : TypeId} {s x : AV} {bl : Blks} {K : Kont R} {r : R} (h : appendK C t tx s x bl K = some r) :
    ∃ cat v bl', KS (R := R) (appendK C t tx s x) bl cat v bl' ∧ ∀ E, (E.bl = bl ∨ cat = .pure) → Mem E → ∀ s' x' ty, VR E true s s' → VR E true x x' → Out E C.P cat v bl' (Builtin.append_ #[t, tx] ty #[s', x']) := by
  unfold appendK at h
  split at h <;> (try (cases h; done))
  rename_i e hu
  split at h
  case isFalse htx =>
    split at h <;> (try (cases h; done))
    rename_i kn n hx
    obtain ⟨v, bl', h1, h2⟩ := appendZK_sound h
    refine ⟨.write, v, bl', ⟨fun K => ?_, fun h => (by cases h), fun h => (by cases h)⟩, fun E hE m s' x' ty hsv hxv => ?_⟩
    · have := h1.det K
      unfold appendK
      simp only [hu, if_neg htx, hx]
      exact this
    · rcases hE with rfl | hE
      · cases hxv
        exact h2 t tx kn hu hx E rfl m s' ty hsv
      · cases hE
  rename_i htx
  have ht := srcTy_of htx
  have nothing : ∀ {E : Env} {w : Nat}, szOK C.P e w = true → ∀ a len cap ty, len ≤ cap → (Builtin.append_ #[t, tx] ty #[.slice a len cap, .slice none 0 0]).run C.P E.w = .ok (.slice a len cap) E.w := fun {E w} hs a len cap ty hle => by
    obtain ⟨i, z, hi, _⟩ := szOK_zero hs
    exact run_append_nothing E.w t tx ty e i hu hi a len cap hle _ ⟨ht, fun _ => rfl, rfl, rfl, by simp, fun u hu => by cases hu⟩
  split at h <;> (try (cases h; done))
  · split at h
    · split at h <;> (try (cases h; done))
      rename_i hs
      refine ⟨.pure, .snil, bl, .ofPure fun bl K => by simp only [appendK, hu, if_pos htx, if_pos hs], fun E hE m s' x' ty hsv hxv => .same m hE ?_⟩
      cases hsv; cases hxv
      exact ⟨_, nothing hs none 0 0 ty (Nat.le_refl _), .snil _⟩
    · rename_i x hnx
      obtain ⟨v, bl', h1, h2⟩ := appendNilK_sound h
      refine ⟨.write, v, bl', ⟨fun K => ?_, fun h => (by cases h), fun h => (by cases h)⟩, fun E hE m s' x' ty hsv hxv => ?_⟩
      · have := h1.det K
        unfold appendK
        simp only [hu, if_pos htx]
        exact this
      · rcases hE with rfl | hE
        · cases hsv
          exact h2 t tx hu ht E rfl m x' ty hxv
        · cases hE
  · rename_i id w
    split at h
    · split at h <;> (try (cases h; done))
      rename_i hs
      refine ⟨.pure, .own id w, bl, .ofPure fun bl K => by simp only [appendK, hu, if_pos htx, if_pos hs], fun E hE m s' x' ty hsv hxv => .same m hE ?_⟩
      cases hxv
      cases hsv with
      | own _ _ len a cap hid hcap hh => exact ⟨_, nothing hs a len cap ty hcap, .own _ _ _ _ _ hid hcap hh⟩
    · rename_i x hnx
      obtain ⟨v, bl', h1, h2⟩ := appendOwnK_sound h
      refine ⟨.write, v, bl', ⟨fun K => ?_, fun h => (by cases h), fun h => (by cases h)⟩, fun E hE m s' x' ty hsv hxv => ?_⟩
      · have := h1.det K
        unfold appendK
        simp only [hu, if_pos htx]
        exact this
      · rcases hE with rfl | hE
        · exact h2 t tx hu ht E rfl m s' x' ty hsv hxv
        · cases hE
end
end Go.Abs
end
section
set_option linter.unusedVariables false
set_option linter.unusedSimpArgs false
namespace Go.Abs
open Go
section
variable {R : Type} {C : Ctx}
theorem fold_put (off : Nat) : ∀ (l : List Value) (k : Nat) (cells : Array Value), off + k + l.length ≤ cells.size →
    ((l.zipIdx k).foldl (fun cs (p : Value × Nat) => cs.setIfInBounds (off + p.2) p.1) cells).size = cells.size ∧
    ∀ m, ((l.zipIdx k).foldl (fun cs (p : Value × Nat) => cs.setIfInBounds (off + p.2) p.1) cells)[m]? = if off + k ≤ m ∧ m < off + k + l.length then l[m - (off + k)]? else cells[m]?
  | [], k, cells, h => ⟨rfl, fun m => by rw [if_neg (by simp)]; rfl⟩
  | c :: l, k, cells, h => by
    simp only [List.zipIdx_cons, List.foldl_cons]
    have hs : (cells.setIfInBounds (off + k) c).size = cells.size := by simp
    obtain ⟨h1, h2⟩ := fold_put off l (k + 1) (cells.setIfInBounds (off + k) c) (by rw [hs]; simp at h; omega)
    refine ⟨by rw [h1, hs], fun m => ?_⟩
    rw [h2 m]
    simp only [List.length_cons] at h ⊢
    by_cases hm : m = off + k
    · subst hm
      have hlt : off + k < cells.size := by omega
      rw [if_neg (by omega), if_pos (by omega)]
      simp [hlt]
    · by_cases hr : off + (k + 1) ≤ m ∧ m < off + (k + 1) + l.length
      · rw [if_pos hr, if_pos (by omega), show m - (off + k) = (m - (off + (k + 1))) + 1 from by omega]
        simp
      · rw [if_neg hr, if_neg (by omega)]
        rw [Array.getElem?_setIfInBounds_ne (by omega)]
theorem fill_one {cells : Array Value} {v : Value} {off size : Nat} (hs : v.cells.size = size) (h : off + size ≤ cells.size) :
    (v.cells.zipIdx.foldl (fun cs (p : Value × Nat) => cs.setIfInBounds (off + p.2) p.1) cells).size = cells.size ∧
    ∀ m, (v.cells.zipIdx.foldl (fun cs (p : Value × Nat) => cs.setIfInBounds (off + p.2) p.1) cells)[m]? = if off ≤ m ∧ m < off + size then v.cells[m - off]? else cells[m]? := by
  have := fold_put off v.cells.toList 0 cells (by simp; omega)
  rw [← Array.foldl_toList]
  simp only [Array.toList_zipIdx]
  refine ⟨this.1, fun m => ?_⟩
  rw [this.2 m]
  simp [hs]
def CellsOf (E : Env) (l : List AV) (cs : Array Value) : Prop := cs.size = l.length ∧ ∀ (j : Nat) x c, l[j]? = some x → cs[j]? = some c → VR E true x c
theorem cellsOf_set {E : Env} {kids : List AV} {cs : Array Value} {i : Nat} {z y : AV} {v : Value} (hc : CellsOf E (flats kids) cs) (hf : ∀ x ∈ kids, Fit x) (hz : kids[i]? = some z) (hsh : shapeEq z y = true)
    (hv : VR E true y v) (hy : y ≠ .any ∧ ∀ vs, y ≠ .tup vs) :
    v.cells.size = width z ∧ widths (kids.take i) + v.cells.size ≤ cs.size ∧
    CellsOf E (flats (kids.set i y)) (v.cells.zipIdx.foldl (fun cs (p : Value × Nat) => cs.setIfInBounds (widths (kids.take i) + p.2) p.1) cs) ∧ (∀ x ∈ kids.set i y, Fit x) := by
  obtain ⟨hfy, hs, hcv⟩ := hv.cells hy
  have hwz := shapeEq_width hsh
  have hfz := hf z (List.mem_of_getElem? hz)
  have hl1 := hfy.length
  have hl2 := hfz.length
  have hpre : (flats (kids.take i)).length = widths (kids.take i) := fits_length fun x hx => hf x (List.mem_of_mem_take hx)
  have hsplit := flats_split hz
  have hsplit' : flats (kids.set i y) = flats (kids.take i) ++ (flat y ++ flats (kids.drop (i + 1))) := flats_set hz
  have hsz : cs.size = widths (kids.take i) + ((flat z).length + (flats (kids.drop (i + 1))).length) := by rw [hc.1, hsplit]; simp [hpre]
  have hle : widths (kids.take i) + v.cells.size ≤ cs.size := by omega
  obtain ⟨f1, f2⟩ := fill_one (cells := cs) (v := v) (off := widths (kids.take i)) rfl hle
  refine ⟨by omega, hle, ⟨by rw [f1, hsz, hsplit']; simp [hpre]; omega, fun j x c hx hcj => ?_⟩, fits_set hf hfy⟩
  rw [f2 j] at hcj
  rw [hsplit'] at hx
  rcases Nat.lt_or_ge j (widths (kids.take i)) with h1 | h1
  · rw [List.getElem?_append_left (by omega)] at hx
    rw [if_neg (by omega)] at hcj
    exact hc.2 j x c (by rw [hsplit, List.getElem?_append_left (by omega)]; exact hx) hcj
  · rw [List.getElem?_append_right (by omega), hpre] at hx
    rcases Nat.lt_or_ge j (widths (kids.take i) + v.cells.size) with h2 | h2
    · rw [List.getElem?_append_left (by omega)] at hx
      rw [if_pos ⟨h1, h2⟩] at hcj
      exact hcv _ x c hx hcj
    · rw [List.getElem?_append_right (by omega)] at hx
      rw [if_neg (by omega)] at hcj
      refine hc.2 j x c ?_ hcj
      rw [hsplit, List.getElem?_append_right (by omega), hpre, List.getElem?_append_right (by omega)]
      rw [show j - widths (List.take i kids) - (flat z).length = j - widths (List.take i kids) - (flat y).length from by omega]
      exact hx
inductive PartsR (E : Env) : List (Nat × AV) → List (Nat × Value) → Prop where
  | nil : PartsR E [] []
  | cons (i x v r s) (h : VR E true x v) (t : PartsR E r s) : PartsR E ((i, x) :: r) ((i, v) :: s)
theorem solidParts_cons {p : Nat × AV} {r : List (Nat × AV)} (h : solidParts (p :: r) = true) : (p.2 ≠ .any ∧ ∀ vs, p.2 ≠ .tup vs) ∧ solidParts r = true := by
  simp only [solidParts, List.all_cons, Bool.and_eq_true] at h
  refine ⟨⟨fun e => ?_, fun vs e => ?_⟩, by simpa [solidParts] using h.2⟩
  · have := h.1; rw [e] at this; simp at this
  · have := h.1; rw [e] at this; simp at this
theorem fill_agg {E : Env} (place : Nat → Option (Nat × Nat)) : ∀ {ps : List (Nat × AV)} {vs : List (Nat × Value)} {kids : List AV} {cs : Array Value} {x : AV}, PartsR E ps vs → fillK (.agg kids) ps = some x → solidParts ps = true →
    (∀ x ∈ kids, Fit x) → CellsOf E (flats kids) cs → (∀ i z, kids[i]? = some z → place i = some (widths (kids.take i), width z)) →
    ∃ cs', Instr.fill place cs vs = some cs' ∧ VR E true x (.agg cs')
  | [], vs, kids, cs, x, hp, hf, _, hfit, hc, _ => by
    cases hp
    simp [fillK] at hf
    subst hf
    exact ⟨cs, rfl, .agg _ _ _ (.agg _ hfit) hc.1 hc.2⟩
  | (i, y) :: r, vs, kids, cs, x, hp, hf, hs, hfit, hc, hpl => by
    cases hp with
    | cons _ _ v _ s hv ht =>
      simp only [fillK] at hf
      split at hf
      · rename_i z hz
        split at hf
        · rename_i hsh
          obtain ⟨hs1, hs2⟩ := solidParts_cons hs
          obtain ⟨g1, g2, g3, g4⟩ := cellsOf_set hc hfit hz hsh hv hs1
          have hshape := shapesEq_set hz hsh
          obtain ⟨cs', h1, h2⟩ := fill_agg place ht hf hs2 g4 g3 fun i' z' hz' => by
            have hlt : i' < kids.length := by have := (List.getElem?_eq_some_iff.1 hz').1; simpa using this
            obtain ⟨u, hu, hu2⟩ := shapesEq_get hshape i' _ (List.getElem?_eq_getElem hlt)
            rw [hz'] at hu; cases hu
            rw [hpl i' _ (List.getElem?_eq_getElem hlt), shapesEq_widths (shapesEq_take hshape i'), shapeEq_width hu2]
          refine ⟨cs', ?_, h2⟩
          simp only [Instr.fill, hpl i z hz]
          rw [if_neg (by simp; omega)]
          exact h1
        · cases hf
      · cases hf
theorem fill_ints {E : Env} (place : Nat → Option (Nat × Nat)) (k : IntKind) (n : Nat) (hpl : ∀ i, place i = some (i, 1)) : ∀ {ps : List (Nat × AV)} {vs : List (Nat × Value)} {l : List Int} {x : AV}, PartsR E ps vs → fillK (.ints k n l) ps = some x → l.length = n →
    ∃ cs', Instr.fill place (l.map (Value.int k)).toArray vs = some cs' ∧ VR E true x (.agg cs')
  | [], vs, l, x, hp, hf, hl => by
    cases hp
    simp [fillK] at hf
    subst hf
    exact ⟨_, rfl, .ints _ _ _ _ hl⟩
  | (i, y) :: r, vs, l, x, hp, hf, hl => by
    cases hp with
    | cons _ _ v _ s hv ht =>
      cases y <;> simp only [fillK] at hf <;> first | (cases hf; done) | skip
      rename_i k' m
      split at hf
      · rename_i hk
        subst hk
        split at hf
        · rename_i hi
          cases hv
          have hil : i < l.length := by omega
          obtain ⟨cs', h1, h2⟩ := fill_ints place k n hpl ht hf (by simpa using hl)
          refine ⟨cs', ?_, h2⟩
          have hset : ((Value.int k m).cells.zipIdx.foldl (fun cs (p : Value × Nat) => cs.setIfInBounds (i + p.2) p.1) (l.map (Value.int k)).toArray) = ((l.set i m).map (Value.int k)).toArray := by
            simp [Value.cells, List.map_set]
          simp only [Instr.fill, hpl i]
          rw [if_neg (by simp [Value.cells]; omega), hset]
          exact h1
        · cases hf
      · cases hf
theorem partsR_of {E : Env} {ev : Operand → AV} {a : Act} (h : ∀ x, VR E true (ev x) (a.eval x)) : ∀ (l : List (Nat × Operand)), PartsR E (l.map fun p => (p.1, ev p.2)) (l.map fun p => (p.1, a.eval p.2))
  | [] => .nil
  | p :: l => .cons _ _ _ _ _ (h p.2) (partsR_of h l)
theorem buildK_sound {t : TypeId} {ps : List (Nat × AV)} {K : AV → Option R} {r : R} (h : buildK C t ps K = some r) :
    ∃ v, (∀ K2 : AV → Option R, buildK C t ps K2 = K2 v) ∧ ∀ E (vs : Array (Nat × Value)), PartsR E ps vs.toList → ∃ v', ∀ w, (Instr.build t vs).run C.P w = .ok v' w ∧ VR E true v v' := by
  unfold buildK at h
  split at h <;> (try (cases h; done))
  rename_i z hz
  split at h <;> (try (cases h; done))
  rename_i hc
  split at h <;> (try (cases h; done))
  rename_i x hx
  refine ⟨x, fun K2 => by simp only [buildK, hz, if_pos hc, hx], fun E vs hp => ?_⟩
  simp only [Bool.and_eq_true, decide_eq_true_eq] at hc
  obtain ⟨⟨⟨hc1, hc2⟩, hc3⟩, hc4⟩ := hc
  obtain ⟨i, v, hi, hv, hrun, hvr, hf, hz1, hz2⟩ := zeroOf_sound hz
  obtain ⟨d, hu, hs, hr⟩ := conf_gives hc2
  rcases hr with ⟨hl, hd⟩ | ⟨hd, hr⟩
  · exact absurd hc3 (by obtain ⟨l1, l2⟩ := hl; cases z <;> simp_all [isComp])
  · rcases hr with ⟨kids, rfl⟩ | ⟨k, n, l, rfl⟩
    · obtain ⟨cs, rfl, hfit, hcs, hcv⟩ := (hvr E true).agg_inv
      cases d <;> simp at hd
      · rename_i n e
        rcases conf_array hc2 hu with ⟨_, _, e1, _⟩ | ⟨kids', n', _, e1, e2, e3⟩
        · cases e1
        · cases e1
          obtain ⟨cs', h1, h2⟩ := fill_agg (E := E) (fun i => some (i * sizeQ C.P e, sizeQ C.P e)) hp hx hc1 (fun x hx => hfit.kid hx) ⟨hcs, hcv⟩ fun i z hz => by
            have hil := (List.getElem?_eq_some_iff.1 hz).1
            rw [widths_take_eq (fun y hy => (e3 y hy).2) _ (Nat.le_of_lt hil), (e3 z (List.mem_of_getElem? hz)).2]
          have hne : kids ≠ [] := fun e => by subst e; simp [width, widths] at hc4
          obtain ⟨y, hy⟩ := List.exists_mem_of_ne_nil _ hne
          obtain ⟨_, hue, _⟩ := conf_gives (e3 y hy).1
          refine ⟨.agg cs', fun w => ⟨?_, h2⟩⟩
          simp only [Instr.build, Sem.run_bind, hrun, Result.andThen_ok, run_underlying hu, Value.cells, run_sizeOf hue, h1, Sem.run_pure]
      · rename_i fs
        obtain ⟨m', kids', _, ek, hget⟩ := conf_struct hc2 hu
        cases ek
        have hlen : kids.length = fs.size := by
          unfold conf at hc2
          rw [hu] at hc2
          simp only [Bool.and_eq_true] at hc2
          have : ∀ (l : List Field) (k : List AV) (off : Nat), confGo C.P (conf C.P 7) l k off = true → k.length = l.length := by
            intro l
            induction l with
            | nil => intro k off h; cases k <;> simp [confGo] at h; rfl
            | cons a l ih => intro k off h; cases k <;> simp [confGo] at h; simp [ih _ _ h.2]
          simpa using this _ _ _ hc2.1
        obtain ⟨cs', h1, h2⟩ := fill_agg (E := E) (fun i => (fs.map fun f => (f.offset, sizeQ C.P f.type))[i]?) hp hx hc1 (fun x hx => hfit.kid hx) ⟨hcs, hcv⟩ fun i z hz => by
          have hil := (List.getElem?_eq_some_iff.1 hz).1
          have hfi : fs[i]? = some (fs[i]'(by omega)) := Array.getElem?_eq_getElem (by omega)
          obtain ⟨y, g1, g2, g3, g4⟩ := hget i _ hfi
          rw [hz] at g1; cases g1
          simp [hfi, g2, g3]
        refine ⟨.agg cs', fun w => ⟨?_, h2⟩⟩
        have hmap : (fs.mapM fun f => (do pure (f.offset, ← sizeOf f.type) : Sem (Nat × Nat))).run C.P w = .ok (fs.map fun f => (f.offset, sizeQ C.P f.type)) w := by
          have key : ∀ (l : List Field), (∀ f ∈ l, (sizeOf f.type).run C.P w = .ok (sizeQ C.P f.type) w) → (l.mapM fun f => (do pure (f.offset, ← sizeOf f.type) : Sem (Nat × Nat))).run C.P w = .ok (l.map fun f => (f.offset, sizeQ C.P f.type)) w := by
            intro l
            induction l with
            | nil => intro _; rfl
            | cons f l ih =>
              intro h
              have h1 := h f (by simp)
              have h2 := ih fun g hg => h g (by simp [hg])
              simp only [List.mapM_cons, Sem.run_bind, Sem.run_pure, h1, Result.andThen_ok, h2, List.map_cons]
          rw [Array.mapM_eq_mapM_toList]
          have := key fs.toList fun f hf => by
            obtain ⟨i, hi⟩ := List.mem_iff_getElem?.1 hf
            obtain ⟨y, _, _, _, g4⟩ := hget i f (by simpa using hi)
            obtain ⟨_, hue, _⟩ := conf_gives g4
            exact run_sizeOf hue w
          simp only [Sem.run_map, this, Result.andThen_ok]
          congr 1
          apply Array.ext'
          simp
        simp only [Instr.build, Sem.run_bind, hrun, Result.andThen_ok, run_underlying hu, Value.cells, hmap, h1, Sem.run_pure]
    · have hve := hvr E true
      cases hve with
      | ints _ _ _ _ hln =>
        cases d <;> simp at hd
        · rename_i n' e
          rcases conf_array hc2 hu with ⟨k', l', e1, e2, e3⟩ | ⟨_, _, _, e1, _⟩
          · cases e1
            have hue := kindOf_inv e2
            obtain ⟨cs', h1, h2⟩ := fill_ints (E := E) (fun i => some (i * 1, 1)) k n (fun i => by simp) hp hx hln
            refine ⟨.agg cs', fun w => ⟨?_, h2⟩⟩
            simp [Instr.build, hrun, Value.cells, run_underlying hu, run_sizeOf hue, e3]
            simp at h1
            rw [h1]
            rfl
          · cases e1
        · obtain ⟨_, _, _, e1, _⟩ := conf_struct hc2 hu
          cases e1
end
end Go.Abs
end
section
set_option linter.unusedVariables false
set_option linter.unusedSimpArgs false
namespace Go.Abs
open Go
section
variable {R : Type} {C : Ctx}
theorem fillInts_sound {E : Env} (k : IntKind) : ∀ {ps : List (Nat × AV)} {vs : List (Nat × Value)} {l l' : List Int}, PartsR E ps vs → fillInts k l ps = some l' →
    l'.length = l.length ∧ Instr.fill (fun i => some (i * 1, 1)) (l.map (Value.int k)).toArray vs = some (l'.map (Value.int k)).toArray
  | [], vs, l, l', hp, hf => by
    cases hp
    simp [fillInts] at hf
    subst hf
    exact ⟨rfl, rfl⟩
  | (i, y) :: r, vs, l, l', hp, hf => by
    cases hp with
    | cons _ _ v _ s hv ht =>
      cases y <;> simp only [fillInts] at hf <;> first | (cases hf; done) | skip
      rename_i k' m
      split at hf
      · rename_i hk
        subst hk
        split at hf
        · rename_i hi
          cases hv
          obtain ⟨h1, h2⟩ := fillInts_sound k ht hf
          refine ⟨by simpa using h1, ?_⟩
          have hset : ((Value.int k m).cells.zipIdx.foldl (fun cs (p : Value × Nat) => cs.setIfInBounds (i * 1 + p.2) p.1) (l.map (Value.int k)).toArray) = ((l.set i m).map (Value.int k)).toArray := by
            simp [Value.cells, List.map_set]
          simp only [Instr.fill]
          rw [if_neg (by simp [Value.cells]; omega), hset]
          exact h2
        · cases hf
      · cases hf
theorem fillObjs_agg : ∀ {ps : List (Nat × AV)} {l l' : List AV}, fillObjs l ps = some l' → fillK (.agg l) ps = some (.agg l') ∧ (l'.length = l.length) ∧
    ∀ w, (∀ x ∈ l, width x = w ∧ noOwn x = true ∧ solid x = true) → ∀ x ∈ l', width x = w ∧ noOwn x = true ∧ solid x = true
  | [], l, l', h => by simp [fillObjs] at h; subst h; exact ⟨rfl, rfl, fun w h => h⟩
  | (i, y) :: r, l, l', h => by
    simp only [fillObjs] at h
    split at h
    · rename_i z hz
      split at h
      · rename_i hc
        simp only [Bool.and_eq_true] at hc
        obtain ⟨h1, h2, h3⟩ := fillObjs_agg h
        refine ⟨by simp only [fillK, hz, if_pos hc.1.1]; exact h1, by simpa using h2, fun w hw => h3 w fun x hx => ?_⟩
        rcases List.mem_or_eq_of_mem_set hx with hx | hx
        · exact hw x hx
        · subst hx
          exact ⟨by rw [← shapeEq_width hc.1.1]; exact (hw z (List.mem_of_getElem? hz)).1, hc.1.2, hc.2⟩
      · cases h
    · cases h
theorem madeCells_ints (k : IntKind) (z : Int) (n : Nat) : madeCells (Value.int k z).cells n = ((List.replicate n z).map (Value.int k)).toArray := by
  apply Array.ext_getElem?
  intro j
  rcases Nat.lt_or_ge j n with hj | hj
  · rw [madeCells_get _ _ _ hj (by simp [Value.cells])]
    simp [Value.cells, Nat.mod_one, hj]
  · rw [Array.getElem?_eq_none (by rw [size_madeCells]; exact hj)]
    simp [hj]
theorem run_buildSlice_of {P : Program} {t e n w : Nat} {vs : Array (Nat × Value)} {z : Value} {cs : Array Value} (hu : P.underlying t = some (.slice e)) (hs : ∀ W, (sizeOf e).run P W = .ok w W) (hn : n * w ≤ 16777216) (hz : ∀ W, (zeroValue e).run P W = .ok z W)
    (hf : Instr.fill (fun i => some (i * w, w)) (madeCells z.cells (n * w)) vs.toList = some cs) (W : World) :
    (Instr.buildSlice t n vs).run P W = .ok (.slice (some ⟨W.heap.size, 0, none⟩) n n) (W.alloc (.cells cs e)) := by
  have h1 : ¬ (16777216 < n * w) := by omega
  by_cases h0 : n * w = 0
  · have hm : madeCells z.cells (n * w) = (Array.range 0).map (fun x => (#[] : Array Value)[x % (#[] : Array Value).size]!) := by rw [h0]; simp [madeCells]
    rw [hm] at hf
    simp only [Instr.buildSlice, Sem.run_bind, run_underlying hu, Result.andThen_ok, hs]
    rw [if_neg (by simpa using h1)]
    simp only [h0, if_true, Sem.run_bind, Sem.run_pure, Result.andThen_ok, hf]
    simp [newRow]
  · simp only [Instr.buildSlice, Sem.run_bind, run_underlying hu, Result.andThen_ok, hs]
    rw [if_neg (by simpa using h1)]
    have hf' : Instr.fill (fun i => some (i * w, w)) ((Array.range (n * w)).map (fun x => z.cells[x % z.cells.size]!)) vs.toList = some cs := hf
    simp only [h0, if_false, Sem.run_bind, Sem.run_pure, Result.andThen_ok, hz, hf']
    simp [newRow]
theorem buildSliceK_sound {t n : Nat} {ps : List (Nat × AV)} {bl : Blks} {K : Kont R} {r : R} (h : buildSliceK C t n ps bl K = some r) :
    ∃ v bl', KS (R := R) (buildSliceK C t n ps) bl .write v bl' ∧ ∀ E, E.bl = bl → Mem E → ∀ vs : Array (Nat × Value), PartsR E ps vs.toList → Out E C.P .write v bl' (Instr.buildSlice t n vs) := by
  unfold buildSliceK at h
  split at h <;> (try (cases h; done))
  rename_i e hu
  split at h <;> (try (cases h; done))
  rename_i hc
  have hc' := hc
  simp only [Bool.and_eq_true, decide_eq_true_eq] at hc'
  split at h <;> (try (cases h; done))
  · rename_i k z hz
    split at h <;> (try (cases h; done))
    rename_i hs
    split at h <;> (try (cases h; done))
    rename_i l hl
    refine ⟨.own bl.length 1, bl ++ [some (.ints k l)], .ofWrite fun K => by simp only [buildSliceK, hu, if_pos hc, hz, if_pos hs, hl], fun E hE m vs hp => ?_⟩
    subst hE
    obtain ⟨i, v, hi, hv, hrun, hvr, _⟩ := zeroOf_sound hz
    have hve := (hvr E true).int_inv
    subst hve
    obtain ⟨hlen, hfill⟩ := fillInts_sound k hp hl
    simp at hlen
    have hsz := (szOK_inv hs).1
    have run := run_buildSlice_of (n := n) (w := 1) (vs := vs) (cs := (l.map (Value.int k)).toArray) hu (run_sizeOf' hs) (by rw [hsz] at hc'; omega) hrun (by rw [Nat.mul_one, madeCells_ints]; exact hfill) E.w
    have go := Go.new m (l.map (Value.int k)).toArray e n (.ints k l) (0, 0) (fun j _ => by simp) trivial (by simp [flatB, hlen]) (by simp [hlen]) (fun j x c hx hc => by
      simp only [flatB, List.getElem?_map] at hx
      simp only [List.getElem?_toArray, List.getElem?_map] at hc
      cases hj : l[j]? with
      | none => simp [hj] at hx
      | some a => simp [hj] at hx hc; subst hx; subst hc; exact .int _ _ _)
    exact ⟨_, _, run, rfl, go, vr_own_new (by simp [rowB, hlen]) (Nat.le_refl _) (by omega)⟩
  · rename_i z hnz hz
    split at h <;> (try (cases h; done))
    rename_i hs
    split at h <;> (try (cases h; done))
    rename_i l hl
    refine ⟨.own bl.length (sizeQ C.P e), bl ++ [some (.objs e (sizeQ C.P e) l)], .ofWrite fun K => ?_, fun E hE m vs hp => ?_⟩
    · simp only [buildSliceK, hu, if_pos hc]
      split
      · rename_i k' z' hz'
        rw [hz] at hz'; cases hz'
        exact absurd rfl (hnz _ _)
      · rename_i z' _ hz'
        rw [hz] at hz'; cases hz'
        rw [if_pos hs, hl]
      · rename_i hz'
        rw [hz] at hz'; cases hz'
    · subst hE
      simp only [Bool.and_eq_true, decide_eq_true_eq] at hs
      obtain ⟨⟨⟨hs1, hs2⟩, hs3⟩, hs4⟩ := hs
      obtain ⟨i, v, hi, hv, hrun, hvr, hfz, hx1, hx2⟩ := zeroOf_sound hz
      obtain ⟨d, hue, hw, _⟩ := conf_gives hs3
      obtain ⟨_, hcz, hcr⟩ := (hvr E true).cells ⟨hx1, hx2⟩
      have hfl := hfz.length
      obtain ⟨f1, f2, f3⟩ := fillObjs_agg hl
      simp at f2
      have hrep : ∀ x ∈ List.replicate n z, x = z := fun x hx => List.eq_of_mem_replicate hx
      have hmade : CellsOf E (flats (List.replicate n z)) (madeCells v.cells (n * sizeQ C.P e)) := by
        refine ⟨by rw [size_madeCells, flats_replicate_length, hfl, hw], fun j x c hx hc => ?_⟩
        have hj := (List.getElem?_eq_some_iff.1 hx).1
        rw [flats_replicate_length, hfl, ← hw] at hj
        rw [madeCells_get _ _ _ hj (by omega), hcz] at hc
        exact hcr _ x c (flats_replicate n z j x hx (by omega)) hc
      obtain ⟨cs', h1, h2⟩ := fill_agg (E := E) (fun i => some (i * sizeQ C.P e, sizeQ C.P e)) hp f1 hc'.2 (fun x hx => by rw [hrep x hx]; exact hfz) hmade fun i y hy => by
        have hil := (List.getElem?_eq_some_iff.1 hy).1
        rw [widths_take_eq (w := sizeQ C.P e) (fun y hy => by rw [hrep y hy]; exact hw.symm) _ (Nat.le_of_lt hil), hrep y (List.mem_of_getElem? hy), hw]
      obtain ⟨cs'', e1, hfit, hcs, hcv⟩ := h2.agg_inv
      cases e1
      have hall := f3 (sizeQ C.P e) fun x hx => by rw [hrep x hx]; exact ⟨hw.symm, hs1, hs2⟩
      have hfb : ∀ x ∈ l, (Fit x ∧ width x = sizeQ C.P e) ∧ noOwn x = true ∧ solid x = true := fun x hx => ⟨⟨hfit.kid hx, (hall x hx).1⟩, (hall x hx).2⟩
      have run := run_buildSlice_of (n := n) (w := sizeQ C.P e) (vs := vs) (cs := cs') hu (run_sizeOf hue) hc'.1 hrun h1 E.w
      have hlf := objs_flat_length hfb
      have go := Go.new m cs' e (n * sizeQ C.P e) (.objs e (sizeQ C.P e) l) (0, 0) (fun j _ => by simp) hfb (by simp only [flatB]; rw [hlf, f2]; exact Nat.le_refl _) (by rw [hcs, hlf, f2]; exact Nat.le_refl _) (fun j x c hx hc => hcv j x c hx hc)
      exact ⟨_, _, run, rfl, go, vr_own_new (by simp [rowB, f2]) (Nat.le_refl _) (Nat.le_refl _)⟩
theorem min_nat (a b : Nat) : Nat.min a b = min a b := rfl
theorem run_copy_ints {P : Program} {E : Env} {t e : TypeId} {ts : Array TypeId} {ty : TypeId} {k : IntKind} {l : List Int} {v : Value} {a : Option Addr} {n cap b o : Nat} (hts : ts[0]? = some t) (hu : P.underlying t = some (.slice e)) (hs : szOK P e 1 = true)
    (h : IntsAt E k l v) (ha : min l.length n ≠ 0 → a = some ⟨b, o, none⟩) (hr : ∀ j, j < min l.length n → (E.cell b (o + j)).isSome = true ∧ E.w.frozen? ⟨b, o + j, none⟩ = false) :
    (Builtin.copy_ ts ty #[.slice a n cap, v]).run P E.w = .ok (.int .i64 (min l.length n : Nat)) (E.w.setCells b o ((l.take (min l.length n)).map (Value.int k))) := by
  have hc := h.cells P E.w (fun _ => rfl) (min l.length n) (Nat.min_le_left _ _)
  have hl := h.len P E.w
  have hst := run_storeCells_cells (P := P) b o ((l.take (min l.length n)).map (Value.int k)) 0 E.w (fun j hj => by
      have := (hr j (by simp at hj; omega)).1
      rw [Nat.add_zero]; exact this) (fun j hj => by
      have := (hr j (by simp at hj; omega)).2
      rw [Nat.add_zero]; exact this) (fun c hc => by obtain ⟨m, _, rfl⟩ := List.mem_map.1 hc; rfl)
  rw [Nat.add_zero] at hst
  cases a with
  | none =>
    have h0 : min l.length n = 0 := by
      by_cases h0 : min l.length n = 0
      · exact h0
      · exact absurd (ha h0) (by simp)
    rw [h0] at hc ⊢
    simp [Builtin.copy_, hts, run_underlying hu, hl, run_sizeOf' hs, h0, min_nat, hc, goInt]
    rfl
  | some ad =>
    by_cases h0 : min l.length n = 0
    · rw [h0] at hc ⊢
      simp [Builtin.copy_, hts, run_underlying hu, hl, run_sizeOf' hs, h0, min_nat, hc, goInt, storeCells]
      rfl
    · cases ha h0
      simp only [Builtin.copy_, hts, List.getElem?_toArray, List.getElem?_cons_zero, List.getElem?_cons_succ, Sem.run_bind, run_underlying hu, Result.andThen_ok, hl, run_sizeOf' hs, min_nat, hc, hst, Sem.run_pure, goInt]
theorem copyK_sound {t : TypeId} {d x : AV} {bl : Blks} {K : Kont R} {r : R} (h : copyK C t d x bl K = some r) :
    ∃ v bl', KS (R := R) (copyK C t d x) bl .write v bl' ∧ ∀ E, E.bl = bl → Mem E → ∀ d' x' (ts : Array TypeId) ty, ts[0]? = some t → VR E true d d' → VR E true x x' → Out E C.P .write v bl' (Builtin.copy_ ts ty #[d', x']) := by
  unfold copyK at h
  split at h <;> (try (cases h; done))
  rename_i e hu
  split at h <;> (try (cases h; done))
  rename_i hs
  split at h <;> (try (cases h; done))
  · rename_i k r0 id w hel
    split at h <;> (try (cases h; done))
    rename_i k' l hbk
    split at h <;> (try (cases h; done))
    rename_i hk
    subst hk
    refine ⟨.int .i64 (min r0.length l.length : Nat), bl.set id (some (.ints k (r0.take l.length ++ l.drop r0.length))), .ofWrite fun K => by simp only [copyK, hu, if_pos hs, hel, hbk, if_true], fun E hE m d' x' ts ty hts hd hx => ?_⟩
    subst hE
    have src := elsOf_ints hel (.inl rfl) m hx
    cases hd with
    | own _ _ len a cap hid hcap hh =>
      obtain ⟨g1, g2, g3⟩ := hh _ hbk
      simp [rowB] at g1
      obtain ⟨rfl, rfl⟩ := g1
      have ok := m.ok id _ hbk
      have run := run_copy_ints (P := C.P) (b := (E.loc id).1) (o := (E.loc id).2.1) (cap := cap) (ty := ty) hts hu hs src (a := a) (n := l.length) (fun h0 => by
        rcases g3 with h | h
        · omega
        · exact h) (fun j hj => ok.room j (by omega))
      have hlen : (r0.take l.length ++ l.drop r0.length).length = l.length := by simp; omega
      have hext := ok.len
      simp [flatB] at hext
      have go := Go.put m id 0 ((r0.take (min r0.length l.length)).map (Value.int k)) _ (.ints k (r0.take l.length ++ l.drop r0.length)) hbk (by simp; omega) trivial (by simp only [flatB, List.length_map, hlen]; exact hext) (fun j y hy _ hj => by
        simp at hj
        simp only [flatB, List.getElem?_map] at hy
        rw [List.getElem?_append_left (by simp; omega), List.getElem?_take, if_pos (by omega)] at hy
        have hjl : j < r0.length := by omega
        simp [List.getElem?_eq_getElem hjl] at hy
        subst hy
        exact ⟨.int k r0[j], by simp [List.getElem?_take, hj, List.getElem?_eq_getElem hjl], .int _ _ _⟩) (fun j y hy hj => by
        simp at hj
        simp only [flatB, List.getElem?_map] at hy ⊢
        have hjl : j < l.length := by have := (List.getElem?_eq_some_iff.1 (show ((r0.take l.length ++ l.drop r0.length).map (AV.int k))[j]? = some y by rw [List.getElem?_map]; exact hy)).1; simp at this; omega
        rw [List.getElem?_append_right (by simp; omega), List.getElem?_drop] at hy
        rw [show r0.length + (j - (List.take l.length r0).length) = j from by simp; omega] at hy
        exact hy) (fun p q hq => by
        cases p with
        | nil => simp [offB] at hq
        | cons i p => cases p with
          | nil => simpa [offB, hlen] using hq
          | cons => simp [offB] at hq) (fun p q hq => by
        cases p with
        | nil => simpa [rowB, hlen] using hq
        | cons => simp [rowB] at hq)
      exact ⟨_, _, run, rfl, go, .int _ _ _⟩
  · rename_i k r0 id path st n w hel
    split at h <;> (try (cases h; done))
    rename_i k' mm l hbk
    split at h <;> (try (cases h; done))
    rename_i hk
    subst hk
    refine ⟨.int .i64 (min r0.length n : Nat), bl.set id (some (.var (.ints k mm (l.take st ++ (r0.take n ++ l.drop (st + min r0.length n)))))), .ofWrite fun K => by simp only [copyK, hu, if_pos hs, hel, hbk, if_true], fun E hE m d' x' ts ty hts hd hx => ?_⟩
    subst hE
    have src := elsOf_ints hel (.inl rfl) m hx
    cases hd with
    | slice _ _ _ _ _ a cap hid hcap hsm hh =>
      obtain ⟨q, c, g1, g2, g3, g4⟩ := hh _ hbk
      simp [rowB, getPath, offPath] at g1
      obtain ⟨rfl, rfl, rfl⟩ := g1
      have ok := m.ok id _ hbk
      have hl : l.length = mm := Fit.len ok.fit
      have hext := ok.len
      simp [flatB, flat] at hext
      have run := run_copy_ints (P := C.P) (b := (E.loc id).1) (o := (E.loc id).2.1 + st) (cap := cap) (ty := ty) hts hu hs src (a := a) (n := n) (fun h0 => by
        rcases g4 with h | h
        · omega
        · simpa using h) (fun j hj => by rw [Nat.add_assoc]; exact ok.room (st + j) (by omega))
      have hlen : (l.take st ++ (r0.take n ++ l.drop (st + min r0.length n))).length = mm := by simp; omega
      have hget : ∀ (j : Nat), j < st ∨ st + min r0.length n ≤ j → (l.take st ++ (r0.take n ++ l.drop (st + min r0.length n)))[j]? = l[j]? := fun j hj => by
        rcases Nat.lt_or_ge j st with h1 | h1
        · rw [List.getElem?_append_left (by simp; omega), List.getElem?_take, if_pos h1]
        · rw [List.getElem?_append_right (by simp; omega), List.getElem?_append_right (by simp; omega), List.getElem?_drop]
          congr 1
          simp
          omega
      have go := Go.put m id st ((r0.take (min r0.length n)).map (Value.int k)) _ (.var (.ints k mm (l.take st ++ (r0.take n ++ l.drop (st + min r0.length n))))) hbk (by simp; omega) (.ints _ _ _ hlen) (by simp only [flatB, flat, List.length_map, hlen]; omega) (fun j y hy h1 hj => by
        simp at hj
        simp only [flatB, flat, List.getElem?_map] at hy
        have hjr : j - st < r0.length := by omega
        rw [List.getElem?_append_right (by simp; omega), List.getElem?_append_left (by simp; omega), List.getElem?_take, if_pos (by simp; omega)] at hy
        rw [show j - (List.take st l).length = j - st from by simp; omega] at hy
        simp [List.getElem?_eq_getElem hjr] at hy
        subst hy
        refine ⟨.int k r0[j - st], ?_, .int _ _ _⟩
        rw [List.getElem?_map, List.getElem?_take, if_pos (by omega), List.getElem?_eq_getElem hjr]
        rfl) (fun j y hy hj => by
        simp at hj
        simp only [flatB, flat, List.getElem?_map] at hy ⊢
        rwa [hget j (by omega)] at hy) (fun p q hq => by
        cases p with
        | nil => simpa [offB, offPath] using hq
        | cons i p => cases p with
          | nil => simpa [offB, offPath] using hq
          | cons => simp [offB, offPath] at hq) (fun p q hq => by
        cases p with
        | nil => simpa [rowB, getPath, offPath] using hq
        | cons i p => cases p with
          | nil => simp [rowB, getPath] at hq
          | cons => simp [rowB, getPath] at hq)
      exact ⟨_, _, run, rfl, go, .int _ _ _⟩
end
end Go.Abs
end
