/- An executor of the model's code over abstract values, and that it is right: what it tells of a run is what the run does. No condition. -/
import Derived.Calls
import Derived.Orders
import Derived.Eval
import Derived.KernelRfl
import Derived.Deep.MidRow
import Derived.Laws.IdiomStrings
import Derived.Laws.BytesString
import Derived.Laws.AppendOwn
import Derived.Laws.MakeOwn
import Derived.Deep.AppendSrc
import Derived.CheckFast
section
namespace Go.Abs
open Go
inductive AV where
  | any
  | bool (b : Bool)
  | int (k : IntKind) (n : Int)
  | str (s : ByteArray)
  | nilp
  | ptr (id : Nat) (path : List Nat)
  | aptr (id : Nat) (path : List Nat) (start n : Nat)
  | rptr (v : AV)
  | snil
  | slice (id : Nat) (path : List Nat) (start len w : Nat)
  | own (id w : Nat)
  | rints (k : IntKind) (l : List Int)
  | robjs (e w : Nat) (l : List AV)
  | agg (kids : List AV)
  | ints (k : IntKind) (n : Nat) (l : List Int)
  | tup (vs : List AV)
  | fn (f : Fn) (first captured : List AV)
  | nilf
  | iface (t : TypeId) (v : AV)
  | nili
  | raw (v : Value)
  | errv (tF ts k : Nat)
  | emap
  deriving Inhabited
inductive Blk where
  | var (v : AV)
  | ints (k : IntKind) (l : List Int)
  | objs (e w : Nat) (l : List AV)
  | free
  deriving Inhabited
abbrev Blks := List (Option Blk)
def bget (bl : Blks) (id : Nat) : Option Blk := bl.getD id none
mutual
def flat : AV → List AV
  | .agg kids => flats kids
  | .ints k _ l => l.map (.int k)
  | x => [x]
def flats : List AV → List AV
  | [] => []
  | x :: r => flat x ++ flats r
end
mutual
def width : AV → Nat
  | .agg kids => widths kids
  | .ints _ n _ => n
  | _ => 1
def widths : List AV → Nat
  | [] => 0
  | x :: r => width x + widths r
end
mutual
def noOwn : AV → Bool
  | .ptr _ _ | .aptr _ _ _ _ | .slice _ _ _ _ _ | .own _ _ => false
  | .agg kids => noOwns kids
  | .tup kids => noOwns kids
  | .fn _ a b => noOwns a && noOwns b
  | .iface _ v => noOwn v
  | _ => true
def noOwns : List AV → Bool
  | [] => true
  | x :: r => noOwn x && noOwns r
end
mutual
def solid : AV → Bool
  | .any | .tup _ => false
  | .agg kids => solids kids
  | _ => true
def solids : List AV → Bool
  | [] => true
  | x :: r => solid x && solids r
end
inductive Fit : AV → Prop where
  | ints (k n l) (h : l.length = n) : Fit (.ints k n l)
  | agg (kids) (h : ∀ x ∈ kids, Fit x) : Fit (.agg kids)
  | leaf (x) (h : (∀ kids, x ≠ .agg kids) ∧ (∀ k n l, x ≠ .ints k n l)) : Fit x
theorem flats_append (a b : List AV) : flats (a ++ b) = flats a ++ flats b := by
  induction a with
  | nil => simp [flats]
  | cons x r ih => simp [flats, ih]
theorem widths_append (a b : List AV) : widths (a ++ b) = widths a + widths b := by
  induction a with
  | nil => simp [widths]
  | cons x r ih => simp [widths, ih]; omega
theorem width_leaf {x : AV} (h : (∀ kids, x ≠ .agg kids) ∧ (∀ k n l, x ≠ .ints k n l)) : width x = 1 ∧ flat x = [x] := by
  cases x <;> simp_all [width, flat]
theorem Fit.length {x : AV} (h : Fit x) : (flat x).length = width x := by
  induction h with
  | ints k n l h => simp [flat, width, h]
  | agg kids h ih =>
    simp only [flat, width]
    clear h
    induction kids with
    | nil => rfl
    | cons x r ihr =>
      simp only [flats, widths, List.length_append]
      rw [ih x (by simp), ihr (fun y hy => ih y (by simp [hy]))]
  | leaf x h => rw [(width_leaf h).1, (width_leaf h).2]; rfl
theorem fits_length {l : List AV} (h : ∀ x ∈ l, Fit x) : (flats l).length = widths l := by
  have := (Fit.agg l h).length
  simpa [flat, width] using this
def offPath : AV → List Nat → Option Nat
  | _, [] => some 0
  | .agg kids, i :: p => match kids[i]? with | some x => (offPath x p).map (widths (kids.take i) + ·) | none => none
  | .ints _ n _, [i] => if i < n then some i else none
  | _, _ => none
def getPath : AV → List Nat → Option AV
  | v, [] => some v
  | .agg kids, i :: p => match kids[i]? with | some x => getPath x p | none => none
  | .ints k _ l, [i] => some (.int k (l.getD i 0))
  | _, _ => none
mutual
def shapeEq : AV → AV → Bool
  | .agg a, .agg b => shapesEq a b
  | .ints k n _, .ints k' m _ => k = k' && n = m
  | .agg _, _ => false
  | .ints _ _ _, _ => false
  | _, .agg _ => false
  | _, .ints _ _ _ => false
  | _, _ => true
def shapesEq : List AV → List AV → Bool
  | [], [] => true
  | x :: a, y :: b => shapeEq x y && shapesEq a b
  | _, _ => false
end
def setPath : AV → List Nat → AV → Option AV
  | v, [], x => if shapeEq v x = true then some x else none
  | .agg kids, i :: p, x => match kids[i]? with
    | some y => (setPath y p x).map fun z => .agg (kids.set i z)
    | none => none
  | .ints k n l, [i], .int k' y => if k = k' then some (.ints k n (l.set i y)) else none
  | _, _, _ => none
def offB : Blk → List Nat → Option Nat
  | .var v, p => offPath v p
  | .ints _ l, [i] => if i < l.length then some i else none
  | .ints _ _, _ => none
  | .objs _ w l, i :: p => match l[i]? with | some x => (offPath x p).map (i * w + ·) | none => none
  | .objs _ _ _, [] => none
  | .free, _ => none
def flatB : Blk → List AV
  | .var v => flat v
  | .ints k l => l.map (.int k)
  | .objs _ _ l => flats l
  | .free => []
def rowB : Blk → List Nat → Option (Nat × Nat × Nat)
  | .ints _ l, [] => some (0, 1, l.length)
  | .objs _ w l, [] => some (0, w, l.length)
  | .var v, p => match getPath v p, offPath v p with
    | some (.ints _ n _), some q => some (q, 1, n)
    | _, _ => none
  | _, _ => none
structure Env where
  w : World
  ro : Nat → Nat → Prop
  loc : Nat → Nat × Nat × Nat
  bl : Blks
def Env.cell (E : Env) (b o : Nat) : Option Value := E.w.cell? ⟨b, o, none⟩
inductive ErrCh (E : Env) (tF ts k : Nat) : Value → Prop where
  | base (p) (h : E.ro k 0) (h2 : E.cell k 0 = some (.iface ts p)) : ErrCh E tF ts k (.iface ts p)
  | wrap (a : Addr) (v : Value) (hs : a.spot = none) (h0 : E.ro a.block a.off) (h1 : E.ro a.block (a.off + 1)) (h2 : E.cell a.block (a.off + 1) = some v) (h : ErrCh E tF ts k v) : ErrCh E tF ts k (.iface tF (.pointer (some a)))
structure ErrV (E : Env) (tF ts k : Nat) (v : Value) : Prop where
  ch : ErrCh E tF ts (k % 100) v
  base : k < 100 → E.ro k 0 ∧ E.cell k 0 = some v
inductive VR (E : Env) : Bool → AV → Value → Prop where
  | any (o v) : VR E o .any v
  | bool (o b) : VR E o (.bool b) (.bool b)
  | int (o k n) : VR E o (.int k n) (.int k n)
  | str (o s) : VR E o (.str s) (.string s)
  | nilp (o) : VR E o .nilp (.pointer none)
  | ptr (id path a) (hid : id < E.bl.length)
      (h : ∀ blk, bget E.bl id = some blk → a.spot = none ∧ ∃ q, offB blk path = some q ∧ a.block = (E.loc id).1 ∧ a.off = (E.loc id).2.1 + q) :
      VR E true (.ptr id path) (.pointer (some a))
  | aptr (id path s n a) (hid : id < E.bl.length)
      (h : ∀ blk, bget E.bl id = some blk → a.spot = none ∧ ∃ q w c, rowB blk path = some (q, w, c) ∧ w = 1 ∧ s + n ≤ c ∧ a.block = (E.loc id).1 ∧ a.off = (E.loc id).2.1 + q + s) :
      VR E true (.aptr id path s n) (.pointer (some a))
  | rptr (o x a) (hf : Fit x) (hs : a.spot = none) (vv : Nat → Value)
      (h : ∀ j y, (flat x)[j]? = some y → E.ro a.block (a.off + j) ∧ E.cell a.block (a.off + j) = some (vv j))
      (hv : ∀ j y, (flat x)[j]? = some y → VR E false y (vv j)) : VR E o (.rptr x) (.pointer (some a))
  | snil (o) : VR E o .snil (.slice none 0 0)
  | slice (id path s len w a cap) (hid : id < E.bl.length) (hc : len ≤ cap) (hs : cap = 0 ∨ ∃ ad, a = some ad)
      (h : ∀ blk, bget E.bl id = some blk → ∃ q c, rowB blk path = some (q, w, c) ∧ s + len ≤ c ∧ q + (s + cap) * w ≤ (E.loc id).2.2 ∧
        (cap = 0 ∨ a = some ⟨(E.loc id).1, (E.loc id).2.1 + q + s * w, none⟩)) :
      VR E true (.slice id path s len w) (.slice a len cap)
  | own (id w len a cap) (hid : id < E.bl.length) (hc : len ≤ cap)
      (h : ∀ blk, bget E.bl id = some blk → rowB blk [] = some (0, w, len) ∧ cap * w ≤ (E.loc id).2.2 ∧ (cap = 0 ∨ a = some ⟨(E.loc id).1, (E.loc id).2.1, none⟩)) :
      VR E true (.own id w) (.slice a len cap)
  | rints (o k l a cap) (hc : l.length ≤ cap)
      (h : ∀ i (_ : i < l.length), ∃ ad, a = some ad ∧ ad.spot = none ∧ E.ro ad.block (ad.off + i) ∧ E.cell ad.block (ad.off + i) = some (.int k (l.getD i 0))) :
      VR E o (.rints k l) (.slice a l.length cap)
  | robjs (o e w l a cap) (hc : l.length ≤ cap) (hw : ∀ x ∈ l, (Fit x ∧ width x = w) ∧ noOwn x = true ∧ solid x = true) (vv : Nat → Nat → Value)
      (ha : l ≠ [] → ∃ ad, a = some ad ∧ ad.spot = none)
      (h : ∀ ad i x j y, a = some ad → l[i]? = some x → (flat x)[j]? = some y → E.ro ad.block (ad.off + i * w + j) ∧ E.cell ad.block (ad.off + i * w + j) = some (vv i j))
      (hv : ∀ i x j y, l[i]? = some x → (flat x)[j]? = some y → VR E false y (vv i j)) :
      VR E o (.robjs e w l) (.slice a l.length cap)
  | agg (o kids cs) (hf : Fit (.agg kids)) (hs : cs.size = (flats kids).length)
      (h : ∀ (j : Nat) x c, (flats kids)[j]? = some x → cs[j]? = some c → VR E o x c) : VR E o (.agg kids) (.agg cs)
  | ints (o k n l) (h : l.length = n) : VR E o (.ints k n l) (.agg (l.map (Value.int k)).toArray)
  | tup (o vs cs) (hs : cs.size = vs.length) (h : ∀ (j : Nat) x c, vs[j]? = some x → cs[j]? = some c → VR E o x c) : VR E o (.tup vs) (.tuple cs)
  | fn (o f xs ys as bs) (h1 : as.size = xs.length) (h2 : bs.size = ys.length)
      (g1 : ∀ (j : Nat) x c, xs[j]? = some x → as[j]? = some c → VR E o x c) (g2 : ∀ (j : Nat) x c, ys[j]? = some x → bs[j]? = some c → VR E o x c) :
      VR E o (.fn f xs ys) (.func f as bs)
  | nilf (o) : VR E o .nilf .nilFunc
  | iface (o t x v) (h : VR E o x v) : VR E o (.iface t x) (.iface t v)
  | nili (o) : VR E o .nili .nilIface
  | raw (o v) (h1 : v.cells = #[v]) (h2 : v.oneCell' = true) : VR E o (.raw v) v
  | errv (o tF ts k v) (h : ErrV E tF ts k v) : VR E o (.errv tF ts k) v
  | emap (o r c) (h : E.w.heap[r]? = some (.map #[] c)) : VR E o .emap (.map (some r))
end Go.Abs
end
section
namespace Go.Abs
open Go
def MapsStay (E E' : Env) : Prop := ∀ (r c : Nat), E.w.heap[r]? = some (Obj.map #[] c) → E'.w.heap[r]? = some (Obj.map #[] c)
structure Step (E E' : Env) : Prop where
  len : E.bl.length ≤ E'.bl.length
  ro : ∀ b o, E.ro b o → E'.ro b o ∧ E'.cell b o = E.cell b o
  blk : ∀ id, id < E.bl.length → ∀ blk', bget E'.bl id = some blk' → bget E.bl id = some .free ∨ ∃ blk, bget E.bl id = some blk ∧ E'.loc id = E.loc id ∧
    (∀ p q, offB blk p = some q → offB blk' p = some q) ∧ (∀ p r, rowB blk p = some r → rowB blk' p = some r)
  mp : MapsStay E E'
theorem free_back {blk : Blk} (h1 : ∀ p q, offB blk p = some q → offB .free p = some q) (h2 : ∀ p r, rowB blk p = some r → rowB .free p = some r) : blk = .free := by
  cases blk with
  | free => rfl
  | var v =>
    have hv : offPath v [] = some 0 := by cases v <;> rfl
    have := h1 [] 0 hv
    simp [offB] at this
  | ints k l => have := h2 [] _ rfl; simp [rowB] at this
  | objs e w l => have := h2 [] _ rfl; simp [rowB] at this
theorem Step.refl (E : Env) : Step E E := ⟨Nat.le_refl _, fun _ _ h => ⟨h, rfl⟩, fun _ _ blk h => .inr ⟨blk, h, rfl, fun _ _ h => h, fun _ _ h => h⟩, fun _ _ h => h⟩
theorem Step.trans {A B C : Env} (h : Step A B) (k : Step B C) : Step A C := by
  refine ⟨Nat.le_trans h.len k.len, fun b o hr => ?_, fun id hid blk'' hb => ?_, fun r c hm => k.mp r c (h.mp r c hm)⟩
  · obtain ⟨h1, h2⟩ := h.ro b o hr
    obtain ⟨k1, k2⟩ := k.ro b o h1
    exact ⟨k1, k2.trans h2⟩
  · rcases k.blk id (Nat.lt_of_lt_of_le hid h.len) blk'' hb with hf | ⟨blk', hb', k1, k2, k3⟩
    · rcases h.blk id hid _ hf with hf | ⟨blk, hb0, h1, h2, h3⟩
      · exact .inl hf
      · rw [free_back h2 h3] at hb0
        exact .inl hb0
    rcases h.blk id hid blk' hb' with hf | ⟨blk, hb0, h1, h2, h3⟩
    · exact .inl hf
    exact .inr ⟨blk, hb0, k1.trans h1, fun p q hq => k2 p q (h2 p q hq), fun p r hr => k3 p r (h3 p r hr)⟩
theorem ErrCh.ro {E E' : Env} (hro : ∀ b o, E.ro b o → E'.ro b o ∧ E'.cell b o = E.cell b o) {tF ts k : Nat} {v : Value} (h : ErrCh E tF ts k v) : ErrCh E' tF ts k v := by
  induction h with
  | base p h h2 => exact .base p (hro _ _ h).1 ((hro _ _ h).2.trans h2)
  | wrap a v hs h0 h1 h2 _ ih => exact .wrap a v hs (hro _ _ h0).1 (hro _ _ h1).1 ((hro _ _ h1).2.trans h2) ih
theorem ErrV.ro {E E' : Env} (hro : ∀ b o, E.ro b o → E'.ro b o ∧ E'.cell b o = E.cell b o) {tF ts k : Nat} {v : Value} (h : ErrV E tF ts k v) : ErrV E' tF ts k v :=
  ⟨h.ch.ro hro, fun hk => ⟨(hro _ _ (h.base hk).1).1, (hro _ _ (h.base hk).1).2.trans (h.base hk).2⟩⟩
theorem VR.mono {E E' : Env} (s : Step E E') {o : Bool} {x : AV} {v : Value} (h : VR E o x v) : VR E' o x v := by
  induction h with
  | any => exact .any _ _
  | bool => exact .bool _ _
  | int => exact .int _ _ _
  | str => exact .str _ _
  | nilp => exact .nilp _
  | ptr id path a hid h =>
    refine .ptr id path a (Nat.lt_of_lt_of_le hid s.len) fun blk' hb => ?_
    rcases s.blk id hid blk' hb with hf | ⟨blk, hb0, hl, ho, _⟩
    · obtain ⟨_, q, h2, _⟩ := h _ hf
      simp [offB] at h2
    obtain ⟨h1, q, h2, h3, h4⟩ := h blk hb0
    exact ⟨h1, q, ho _ _ h2, by rw [hl]; exact h3, by rw [hl]; exact h4⟩
  | aptr id path st n a hid h =>
    refine .aptr id path st n a (Nat.lt_of_lt_of_le hid s.len) fun blk' hb => ?_
    rcases s.blk id hid blk' hb with hf | ⟨blk, hb0, hl, _, hr⟩
    · obtain ⟨_, q, w, c, h2, _⟩ := h _ hf
      simp [rowB] at h2
    obtain ⟨h1, q, w, c, h2, h3⟩ := h blk hb0
    exact ⟨h1, q, w, c, hr _ _ h2, by rw [hl]; exact h3⟩
  | rptr o x a hf hs vv h hv ih =>
    exact .rptr o x a hf hs vv (fun j y hy => ⟨(s.ro _ _ (h j y hy).1).1, (s.ro _ _ (h j y hy).1).2.trans (h j y hy).2⟩) ih
  | snil => exact .snil _
  | slice id path st len w a cap hid hc hs h =>
    refine .slice id path st len w a cap (Nat.lt_of_lt_of_le hid s.len) hc hs fun blk' hb => ?_
    rcases s.blk id hid blk' hb with hf | ⟨blk, hb0, hl, _, hr⟩
    · obtain ⟨q, c, h2, _⟩ := h _ hf
      simp [rowB] at h2
    obtain ⟨q, c, h2, h3⟩ := h blk hb0
    exact ⟨q, c, hr _ _ h2, by rw [hl]; exact h3⟩
  | own id w len a cap hid hc h =>
    refine .own id w len a cap (Nat.lt_of_lt_of_le hid s.len) hc fun blk' hb => ?_
    rcases s.blk id hid blk' hb with hf | ⟨blk, hb0, hl, _, hr⟩
    · obtain ⟨h2, _⟩ := h _ hf
      simp [rowB] at h2
    obtain ⟨h2, h3⟩ := h blk hb0
    exact ⟨hr _ _ h2, by rw [hl]; exact h3⟩
  | rints o k l a cap hc h =>
    refine .rints o k l a cap hc fun i hi => ?_
    obtain ⟨ad, h1, h2, h3, h4⟩ := h i hi
    exact ⟨ad, h1, h2, (s.ro _ _ h3).1, (s.ro _ _ h3).2.trans h4⟩
  | robjs o e w l a cap hc hw vv ha h hv ih =>
    exact .robjs o e w l a cap hc hw vv ha (fun ad i x j y h1 h2 h3 => ⟨(s.ro _ _ (h ad i x j y h1 h2 h3).1).1, (s.ro _ _ (h ad i x j y h1 h2 h3).1).2.trans (h ad i x j y h1 h2 h3).2⟩) ih
  | agg o kids cs hf hs h ih => exact .agg o kids cs hf hs ih
  | ints o k n l h => exact .ints o k n l h
  | tup o vs cs hs h ih => exact .tup o vs cs hs ih
  | fn o f xs ys as bs h1 h2 g1 g2 i1 i2 => exact .fn o f xs ys as bs h1 h2 i1 i2
  | nilf => exact .nilf _
  | iface o t x v h ih => exact .iface o t x v ih
  | nili => exact .nili _
  | raw o v h1 h2 => exact .raw _ _ h1 h2
  | errv o tF ts k v h => exact .errv _ _ _ _ _ (h.ro s.ro)
  | emap o r c h => exact .emap _ _ _ (s.mp _ _ h)
theorem VR.lift {E : Env} {x : AV} {v : Value} (h : VR E false x v) : VR E true x v := by
  generalize hb : false = b at h
  induction h with
  | any => exact .any _ _
  | bool => exact .bool _ _
  | int => exact .int _ _ _
  | str => exact .str _ _
  | nilp => exact .nilp _
  | ptr => cases hb
  | aptr => cases hb
  | rptr o x a hf hs vv h hv ih => exact .rptr _ x a hf hs vv h hv
  | snil => exact .snil _
  | slice => cases hb
  | own => cases hb
  | rints o k l a cap hc h => exact .rints _ k l a cap hc h
  | robjs o e w l a cap hc hw vv ha h hv ih => exact .robjs _ e w l a cap hc hw vv ha h hv
  | agg o kids cs hf hs h ih => exact .agg _ kids cs hf hs fun j x c h1 h2 => ih j x c h1 h2 hb
  | ints o k n l h => exact .ints _ k n l h
  | tup o vs cs hs h ih => exact .tup _ vs cs hs fun j x c h1 h2 => ih j x c h1 h2 hb
  | fn o f xs ys as bs h1 h2 g1 g2 i1 i2 => exact .fn _ f xs ys as bs h1 h2 (fun j x c h1 h2 => i1 j x c h1 h2 hb) (fun j x c h1 h2 => i2 j x c h1 h2 hb)
  | nilf => exact .nilf _
  | iface o t x v h ih => exact .iface _ t x v (ih hb)
  | nili => exact .nili _
  | raw o v h1 h2 => exact .raw _ _ h1 h2
  | errv o tF ts k v h => exact .errv _ _ _ _ _ h
  | emap o r c h => exact .emap _ _ _ h
def InExt (E : Env) (id b o : Nat) : Prop := (E.loc id).1 = b ∧ (E.loc id).2.1 ≤ o ∧ o < (E.loc id).2.1 + (E.loc id).2.2
def Own (E : Env) (b o : Nat) : Prop := ∃ id blk, bget E.bl id = some blk ∧ InExt E id b o
def FitB : Blk → Prop
  | .var v => Fit v
  | .ints _ _ => True
  | .objs _ w l => ∀ x ∈ l, (Fit x ∧ width x = w) ∧ noOwn x = true ∧ solid x = true
  | .free => True
structure BlkOK (E : Env) (id : Nat) (blk : Blk) : Prop where
  fit : FitB blk
  len : (flatB blk).length ≤ (E.loc id).2.2
  cells : ∀ (j : Nat) x, (flatB blk)[j]? = some x → ∃ v, E.cell (E.loc id).1 ((E.loc id).2.1 + j) = some v ∧ VR E true x v
  room : ∀ j, j < (E.loc id).2.2 → (E.cell (E.loc id).1 ((E.loc id).2.1 + j)).isSome = true ∧ E.w.frozen? ⟨(E.loc id).1, (E.loc id).2.1 + j, none⟩ = false
structure Mem (E : Env) : Prop where
  ok : ∀ id blk, bget E.bl id = some blk → BlkOK E id blk
  dis : ∀ i j bi bj, i ≠ j → bget E.bl i = some bi → bget E.bl j = some bj → ∀ b o, InExt E i b o → ¬ InExt E j b o
  roe : ∀ b o, E.ro b o → (E.cell b o).isSome = true
  rod : ∀ b o, Own E b o → ¬ E.ro b o
theorem cell_lt {w : World} {b o : Nat} (h : (w.cell? ⟨b, o, none⟩).isSome = true) : b < w.heap.size := by
  unfold World.cell? at h
  simp only at h
  rcases Nat.lt_or_ge b w.heap.size with h' | h'
  · exact h'
  · simp [Array.getElem?_eq_none h'] at h
theorem Mem.own_lt {E : Env} (m : Mem E) {b o : Nat} (h : Own E b o) : b < E.w.heap.size := by
  obtain ⟨id, blk, hb, h1, h2, h3⟩ := h
  have := ((m.ok id blk hb).room (o - (E.loc id).2.1) (by omega)).1
  have e : (E.loc id).2.1 + (o - (E.loc id).2.1) = o := by omega
  rw [e, h1] at this
  exact cell_lt this
structure Fr (E E' : Env) : Prop where
  os : E'.w.os = E.w.os
  tape : E'.w.tape = E.w.tape
  output : E'.w.output = E.w.output
  size : E.w.heap.size ≤ E'.w.heap.size
  cell : ∀ b o, b < E.w.heap.size → ¬ Own E b o → E'.cell b o = E.cell b o
  blk : ∀ b, b < E.w.heap.size → (∀ o, ¬ Own E b o) → E'.w.heap[b]? = E.w.heap[b]?
  frz : ∀ b o, b < E.w.heap.size → ¬ Own E b o → E'.w.frozen? ⟨b, o, none⟩ = E.w.frozen? ⟨b, o, none⟩
  own : ∀ b o, Own E' b o → Own E b o ∨ E.w.heap.size ≤ b
  roi : ∀ b o, E'.ro b o → E.ro b o ∨ Own E b o ∨ E.w.heap.size ≤ b
  rom : ∀ b o, E.ro b o → E'.ro b o
theorem Fr.refl (E : Env) : Fr E E := ⟨rfl, rfl, rfl, Nat.le_refl _, fun _ _ _ _ => rfl, fun _ _ _ => rfl, fun _ _ _ _ => rfl, fun _ _ h => .inl h, fun _ _ h => .inl h, fun _ _ h => h⟩
theorem Fr.trans {A B C : Env} (h : Fr A B) (k : Fr B C) : Fr A C := by
  have no : ∀ b o, b < A.w.heap.size → ¬ Own A b o → ¬ Own B b o := fun b o hb hn ho => by
    rcases h.own b o ho with h' | h'
    · exact hn h'
    · omega
  refine ⟨k.os.trans h.os, k.tape.trans h.tape, k.output.trans h.output, Nat.le_trans h.size k.size, fun b o hb hn => ?_, fun b hb hn => ?_, fun b o hb hn => ?_, fun b o ho => ?_, fun b o hr => ?_, fun b o hr => k.rom b o (h.rom b o hr)⟩
  · exact (k.cell b o (Nat.lt_of_lt_of_le hb h.size) (no b o hb hn)).trans (h.cell b o hb hn)
  · exact (k.blk b (Nat.lt_of_lt_of_le hb h.size) fun o => no b o hb (hn o)).trans (h.blk b hb hn)
  · exact (k.frz b o (Nat.lt_of_lt_of_le hb h.size) (no b o hb hn)).trans (h.frz b o hb hn)
  · have := h.size
    rcases k.own b o ho with h' | h'
    · exact h.own b o h'
    · exact .inr (by omega)
  · have := h.size
    rcases k.roi b o hr with h' | h' | h'
    · exact h.roi b o h'
    · rcases h.own b o h' with h'' | h''
      · exact .inr (.inl h'')
      · exact .inr (.inr h'')
    · exact .inr (.inr (by omega))
theorem Fr.ro_cell {E E' : Env} (m : Mem E) (f : Fr E E') {b o : Nat} (h : E.ro b o) : E'.cell b o = E.cell b o :=
  f.cell b o (cell_lt (m.roe b o h)) fun ho => m.rod b o ho h
theorem Mem.no_map {E : Env} (m : Mem E) {r c : Nat} (h : E.w.heap[r]? = some (.map #[] c)) : ∀ o, ¬ Own E r o := fun o ho => by
  obtain ⟨id, blk, hb, h1, h2, h3⟩ := ho
  have := ((m.ok id blk hb).room (o - (E.loc id).2.1) (by omega)).1
  rw [h1] at this
  simp [Env.cell, World.cell?, h] at this
theorem Fr.maps {E E' : Env} (m : Mem E) (f : Fr E E') : MapsStay E E' := fun r _ h =>
  (f.blk r (Array.getElem?_eq_some_iff.1 h).1 (m.no_map h)).trans h
theorem Step.of_fr {E E' : Env} (m : Mem E) (f : Fr E E') (hl : E.bl.length ≤ E'.bl.length)
    (hb : ∀ id, id < E.bl.length → ∀ blk', bget E'.bl id = some blk' → ∃ blk, bget E.bl id = some blk ∧ E'.loc id = E.loc id ∧
      (∀ p q, offB blk p = some q → offB blk' p = some q) ∧ (∀ p r, rowB blk p = some r → rowB blk' p = some r)) : Step E E' :=
  ⟨hl, fun b o h => ⟨f.rom b o h, f.ro_cell m h⟩, fun id hid blk' h => .inr (hb id hid blk' h), f.maps m⟩
structure Go (E E' : Env) : Prop where
  step : Step E E'
  fr : Fr E E'
  mem : Mem E'
theorem Go.trans {A B C : Env} (h : Go A B) (k : Go B C) : Go A C := ⟨h.step.trans k.step, h.fr.trans k.fr, k.mem⟩
theorem Go.refl {A : Env} (m : Mem A) : Go A A := ⟨.refl A, .refl A, m⟩
def Env.drew (E : Env) : Env := { E with w := E.w.drew }
theorem Go.drew {E : Env} (m : Mem E) : Go E E.drew := by
  have s : Step E E.drew := ⟨Nat.le_refl _, fun _ _ h => ⟨h, rfl⟩, fun _ _ blk h => .inr ⟨blk, h, rfl, fun _ _ h => h, fun _ _ h => h⟩, fun _ _ h => h⟩
  refine ⟨s, ⟨rfl, rfl, rfl, Nat.le_refl _, fun _ _ _ _ => rfl, fun _ _ _ => rfl, fun _ _ _ _ => rfl, fun _ _ h => .inl h, fun _ _ h => .inl h, fun _ _ h => h⟩, ?_⟩
  refine ⟨fun id blk hb => ?_, m.dis, m.roe, m.rod⟩
  have k := m.ok id blk hb
  exact ⟨k.fit, k.len, fun j x hx => let ⟨v, h1, h2⟩ := k.cells j x hx; ⟨v, h1, h2.mono s⟩, k.room⟩
theorem bget_append {bl : Blks} {x : List (Option Blk)} {id : Nat} (h : id < bl.length) : bget (bl ++ x) id = bget bl id := by
  simp [bget, List.getElem?_append_left h]
theorem bget_new {bl : Blks} {x : Option Blk} : bget (bl ++ [x]) bl.length = x := by simp [bget]
theorem bget_lt {bl : Blks} {id : Nat} {blk : Blk} (h : bget bl id = some blk) : id < bl.length := by
  rcases Nat.lt_or_ge id bl.length with h' | h'
  · exact h'
  · simp [bget, List.getElem?_eq_none h'] at h
theorem bget_append_lt {bl : Blks} {x : Option Blk} {id : Nat} {blk : Blk} (h : bget (bl ++ [x]) id = some blk) :
    (id < bl.length ∧ bget bl id = some blk) ∨ (id = bl.length ∧ x = some blk) := by
  have hl := bget_lt h
  simp at hl
  rcases Nat.lt_or_ge id bl.length with h' | h'
  · exact .inl ⟨h', by rwa [bget_append h'] at h⟩
  · have : id = bl.length := by omega
    subst this
    rw [bget_new] at h
    exact .inr ⟨rfl, h⟩
theorem bget_set_self {bl : Blks} {id : Nat} {x : Option Blk} (h : id < bl.length) : bget (bl.set id x) id = x := by simp [bget, h]
theorem bget_set_ne {bl : Blks} {i j : Nat} {x : Option Blk} (h : i ≠ j) : bget (bl.set i x) j = bget bl j := by simp [bget, h]
def Env.new (E : Env) (c : Array Value) (t : TypeId) (e : Nat) (blk : Blk) (fr : Nat × Nat := (0, 0)) : Env :=
  { w := E.w.alloc (.cells c t fr), ro := E.ro, loc := fun i => if i = E.bl.length then (E.w.heap.size, 0, e) else E.loc i, bl := E.bl ++ [some blk] }
theorem Go.new {E : Env} (m : Mem E) (c : Array Value) (t : TypeId) (e : Nat) (blk : Blk) (fr : Nat × Nat) (hfr : ∀ j, j < e → ¬ (fr.1 ≤ j ∧ j < fr.2)) (hf : FitB blk) (hl : (flatB blk).length ≤ e) (he : e ≤ c.size)
    (h : ∀ (j : Nat) x v, (flatB blk)[j]? = some x → c[j]? = some v → VR E true x v) : Go E (E.new c t e blk fr) := by
  have hloc : ∀ i, i < E.bl.length → (E.new c t e blk fr).loc i = E.loc i := fun i hi => by simp [Env.new, Nat.ne_of_lt hi]
  have hlocn : (E.new c t e blk fr).loc E.bl.length = (E.w.heap.size, 0, e) := by simp [Env.new]
  have hcell : ∀ b o, b < E.w.heap.size → (E.new c t e blk fr).cell b o = E.cell b o := fun b o hb => World.cell?_alloc_lt _ _ _ hb
  have hcelln : ∀ o, (E.new c t e blk fr).cell E.w.heap.size o = c[o]? := fun o => World.cell?_alloc_mark E.w c t fr o
  have hfrz : ∀ b o, b < E.w.heap.size → (E.w.alloc (.cells c t fr)).frozen? ⟨b, o, none⟩ = E.w.frozen? ⟨b, o, none⟩ := fun b o hb => World.frozen?_alloc_old _ _ _ (by show b ≠ _; omega)
  have hown : ∀ b o, Own (E.new c t e blk fr) b o → Own E b o ∨ E.w.heap.size ≤ b := fun b o ⟨id, bk, hb, hx⟩ => by
    rcases bget_append_lt hb with ⟨h1, h2⟩ | ⟨h1, _⟩
    · refine .inl ⟨id, bk, h2, ?_⟩
      unfold InExt at hx ⊢
      rwa [hloc id h1] at hx
    · subst h1
      unfold InExt at hx
      rw [hlocn] at hx
      exact .inr (by have := hx.1; simp at this; omega)
  have frm : Fr E (E.new c t e blk fr) := ⟨rfl, rfl, rfl, by show _ ≤ (E.w.heap.push _).size; simp, fun b o hb _ => hcell b o hb,
    fun b hb _ => by show (E.w.heap.push _)[b]? = _; rw [Array.getElem?_push, if_neg (by omega)], fun b o hb _ => hfrz b o hb, hown, fun b o h => .inl h, fun _ _ h => h⟩
  have st : Step E (E.new c t e blk fr) := .of_fr m frm (by simp [Env.new]) fun id hid blk' hb => by
    have : bget E.bl id = some blk' := by rwa [show (E.new c t e blk fr).bl = E.bl ++ [some blk] from rfl, bget_append hid] at hb
    exact ⟨blk', this, hloc id hid, fun _ _ h => h, fun _ _ h => h⟩
  refine ⟨st, frm, ⟨fun id bk hb => ?_, fun i j bi bj hij hi hj b o hx hy => ?_, fun b o h => ?_, fun b o ho h => ?_⟩⟩
  · rcases bget_append_lt hb with ⟨h1, h2⟩ | ⟨h1, h2⟩
    · have k := m.ok id bk h2
      refine ⟨k.fit, by rw [hloc id h1]; exact k.len, fun j x hx => ?_, fun j hj => ?_⟩
      · obtain ⟨v, hv, hr⟩ := k.cells j x hx
        rw [hloc id h1]
        exact ⟨v, by rw [hcell _ _ (cell_lt (by show (E.cell _ _).isSome = true; rw [hv]; rfl))]; exact hv, hr.mono st⟩
      · rw [hloc id h1] at hj ⊢
        obtain ⟨g1, g2⟩ := k.room j hj
        have hlt := cell_lt g1
        exact ⟨by rw [hcell _ _ hlt]; exact g1, by rw [show (E.new c t e blk fr).w = E.w.alloc (.cells c t fr) from rfl, hfrz _ _ hlt]; exact g2⟩
    · subst h1
      cases h2
      refine ⟨hf, by rw [hlocn]; exact hl, fun j x hx => ?_, fun j hj => ?_⟩
      · rw [hlocn]
        have hj : j < (flatB blk).length := (List.getElem?_eq_some_iff.1 hx).1
        have hv : c[j]? = some c[j] := Array.getElem?_eq_getElem (by omega)
        exact ⟨c[j], by rw [show (E.w.heap.size, 0, e).2.1 + j = j from Nat.zero_add j]; rw [hcelln]; exact hv, (h j x _ hx hv).mono st⟩
      · rw [hlocn] at hj ⊢
        simp only [Nat.zero_add]
        refine ⟨?_, ?_⟩
        · rw [hcelln, Array.getElem?_eq_getElem (by simp at hj; omega)]; rfl
        · show (E.w.alloc (.cells c t fr)).frozen? ⟨E.w.heap.size, j, none⟩ = false
          rw [show fr = (fr.1, fr.2) from rfl, World.frozen?_alloc_mark]
          have := hfr j hj
          simp only [Bool.and_eq_false_iff, decide_eq_false_iff_not]
          omega
  · rcases bget_append_lt hi with ⟨h1, h2⟩ | ⟨h1, h2⟩ <;> rcases bget_append_lt hj with ⟨k1, k2⟩ | ⟨k1, k2⟩
    · unfold InExt at hx hy
      rw [hloc _ h1] at hx
      rw [hloc _ k1] at hy
      exact m.dis i j bi bj hij h2 k2 b o hx hy
    · have hb := m.own_lt ⟨i, bi, h2, by unfold InExt at hx ⊢; rwa [hloc _ h1] at hx⟩
      subst k1
      unfold InExt at hy
      rw [hlocn] at hy
      have := hy.1
      simp at this
      omega
    · have hb := m.own_lt ⟨j, bj, k2, by unfold InExt at hy ⊢; rwa [hloc _ k1] at hy⟩
      subst h1
      unfold InExt at hx
      rw [hlocn] at hx
      have := hx.1
      simp at this
      omega
    · omega
  · have := m.roe b o h
    rw [hcell b o (cell_lt this)]
    exact this
  · rcases hown b o ho with h1 | h1
    · exact m.rod b o h1 h
    · have := cell_lt (m.roe b o h)
      omega
def Env.fill (E : Env) (id : Nat) (c : Array Value) (t : TypeId) (e : Nat) (blk : Blk) (fr : Nat × Nat := (0, 0)) : Env :=
  { w := E.w.alloc (.cells c t fr), ro := E.ro, loc := fun i => if i = id then (E.w.heap.size, 0, e) else E.loc i, bl := E.bl.set id (some blk) }
theorem bget_fill {bl : Blks} {id i : Nat} {x : Option Blk} {blk : Blk} (hid : id < bl.length) (h : bget (bl.set id x) i = some blk) : (i ≠ id ∧ bget bl i = some blk) ∨ (i = id ∧ x = some blk) := by
  by_cases e : id = i
  · subst e
    rw [bget_set_self hid] at h
    exact .inr ⟨rfl, h⟩
  · rw [bget_set_ne e] at h
    exact .inl ⟨Ne.symm e, h⟩
theorem Go.fill {E : Env} (m : Mem E) (id0 : Nat) (h0 : bget E.bl id0 = some .free) (c : Array Value) (t : TypeId) (e : Nat) (blk : Blk) (fr : Nat × Nat) (hfr : ∀ j, j < e → ¬ (fr.1 ≤ j ∧ j < fr.2)) (hf : FitB blk) (hl : (flatB blk).length ≤ e) (he : e ≤ c.size)
    (h : ∀ (j : Nat) x v, (flatB blk)[j]? = some x → c[j]? = some v → VR E true x v) : Go E (E.fill id0 c t e blk fr) := by
  have hid0 := bget_lt h0
  have hloc : ∀ i, i ≠ id0 → (E.fill id0 c t e blk fr).loc i = E.loc i := fun i hi => by simp [Env.fill, hi]
  have hlocn : (E.fill id0 c t e blk fr).loc id0 = (E.w.heap.size, 0, e) := by simp [Env.fill]
  have hcell : ∀ b o, b < E.w.heap.size → (E.fill id0 c t e blk fr).cell b o = E.cell b o := fun b o hb => World.cell?_alloc_lt _ _ _ hb
  have hcelln : ∀ o, (E.fill id0 c t e blk fr).cell E.w.heap.size o = c[o]? := fun o => World.cell?_alloc_mark E.w c t fr o
  have hfrz : ∀ b o, b < E.w.heap.size → (E.w.alloc (.cells c t fr)).frozen? ⟨b, o, none⟩ = E.w.frozen? ⟨b, o, none⟩ := fun b o hb => World.frozen?_alloc_old _ _ _ (by show b ≠ _; omega)
  have hown : ∀ b o, Own (E.fill id0 c t e blk fr) b o → Own E b o ∨ E.w.heap.size ≤ b := fun b o ⟨id, bk, hb, hx⟩ => by
    rcases bget_fill hid0 hb with ⟨h1, h2⟩ | ⟨h1, _⟩
    · refine .inl ⟨id, bk, h2, ?_⟩
      unfold InExt at hx ⊢
      rwa [hloc id h1] at hx
    · subst h1
      unfold InExt at hx
      rw [hlocn] at hx
      exact .inr (by have := hx.1; simp at this; omega)
  have frm : Fr E (E.fill id0 c t e blk fr) := ⟨rfl, rfl, rfl, by show _ ≤ (E.w.heap.push _).size; simp, fun b o hb _ => hcell b o hb,
    fun b hb _ => by show (E.w.heap.push _)[b]? = _; rw [Array.getElem?_push, if_neg (by omega)], fun b o hb _ => hfrz b o hb, hown, fun b o h => .inl h, fun _ _ h => h⟩
  have st : Step E (E.fill id0 c t e blk fr) := ⟨by simp [Env.fill], fun b o h => ⟨h, frm.ro_cell m h⟩, fun id hid blk' hb => by
    rcases bget_fill hid0 hb with ⟨h1, h2⟩ | ⟨h1, _⟩
    · exact .inr ⟨blk', h2, hloc id h1, fun _ _ h => h, fun _ _ h => h⟩
    · subst h1
      exact .inl h0, frm.maps m⟩
  refine ⟨st, frm, ⟨fun id bk hb => ?_, fun i j bi bj hij hi hj b o hx hy => ?_, fun b o h => ?_, fun b o ho h => ?_⟩⟩
  · rcases bget_fill hid0 hb with ⟨h1, h2⟩ | ⟨h1, h2⟩
    · have k := m.ok id bk h2
      refine ⟨k.fit, by rw [hloc id h1]; exact k.len, fun j x hx => ?_, fun j hj => ?_⟩
      · obtain ⟨v, hv, hr⟩ := k.cells j x hx
        rw [hloc id h1]
        exact ⟨v, by rw [hcell _ _ (cell_lt (by show (E.cell _ _).isSome = true; rw [hv]; rfl))]; exact hv, hr.mono st⟩
      · rw [hloc id h1] at hj ⊢
        obtain ⟨g1, g2⟩ := k.room j hj
        have hlt := cell_lt g1
        exact ⟨by rw [hcell _ _ hlt]; exact g1, by rw [show (E.fill id0 c t e blk fr).w = E.w.alloc (.cells c t fr) from rfl, hfrz _ _ hlt]; exact g2⟩
    · subst h1
      cases h2
      refine ⟨hf, by rw [hlocn]; exact hl, fun j x hx => ?_, fun j hj => ?_⟩
      · rw [hlocn]
        have hj : j < (flatB blk).length := (List.getElem?_eq_some_iff.1 hx).1
        have hv : c[j]? = some c[j] := Array.getElem?_eq_getElem (by omega)
        exact ⟨c[j], by rw [show (E.w.heap.size, 0, e).2.1 + j = j from Nat.zero_add j]; rw [hcelln]; exact hv, (h j x _ hx hv).mono st⟩
      · rw [hlocn] at hj ⊢
        simp only [Nat.zero_add]
        refine ⟨?_, ?_⟩
        · rw [hcelln, Array.getElem?_eq_getElem (by simp at hj; omega)]; rfl
        · show (E.w.alloc (.cells c t fr)).frozen? ⟨E.w.heap.size, j, none⟩ = false
          rw [show fr = (fr.1, fr.2) from rfl, World.frozen?_alloc_mark]
          have := hfr j hj
          simp only [Bool.and_eq_false_iff, decide_eq_false_iff_not]
          omega
  · rcases bget_fill hid0 hi with ⟨h1, h2⟩ | ⟨h1, h2⟩ <;> rcases bget_fill hid0 hj with ⟨k1, k2⟩ | ⟨k1, k2⟩
    · unfold InExt at hx hy
      rw [hloc _ h1] at hx
      rw [hloc _ k1] at hy
      exact m.dis i j bi bj hij h2 k2 b o hx hy
    · have hb := m.own_lt ⟨i, bi, h2, by unfold InExt at hx ⊢; rwa [hloc _ h1] at hx⟩
      subst k1
      unfold InExt at hy
      rw [hlocn] at hy
      have := hy.1
      simp at this
      omega
    · have hb := m.own_lt ⟨j, bj, k2, by unfold InExt at hy ⊢; rwa [hloc _ k1] at hy⟩
      subst h1
      unfold InExt at hx
      rw [hlocn] at hx
      have := hx.1
      simp at this
      omega
    · omega
  · have := m.roe b o h
    rw [hcell b o (cell_lt this)]
    exact this
  · rcases hown b o ho with h1 | h1
    · exact m.rod b o h1 h
    · have := cell_lt (m.roe b o h)
      omega
end Go.Abs
end
section
namespace Go.Abs
open Go
theorem heap_size_setCells (b : Nat) : ∀ (vs : List Value) (o : Nat) (w : World), (w.setCells b o vs).heap.size = w.heap.size
  | [], _, _ => rfl
  | v :: r, o, w => by rw [World.setCells, heap_size_setCells b r]; simp [World.setCell]
theorem heap_setCells_ne (b k : Nat) (h : k ≠ b) : ∀ (vs : List Value) (o : Nat) (w : World), (w.setCells b o vs).heap[k]? = w.heap[k]?
  | [], _, _ => rfl
  | v :: r, o, w => by
    rw [World.setCells, heap_setCells_ne b k h r]
    simp only [World.setCell, Array.getElem?_modify]
    rw [if_neg (by omega)]
theorem setCells_os (b : Nat) : ∀ (vs : List Value) (o : Nat) (w : World), (w.setCells b o vs).os = w.os ∧ (w.setCells b o vs).tape = w.tape ∧ (w.setCells b o vs).output = w.output
  | [], _, _ => ⟨rfl, rfl, rfl⟩
  | v :: r, o, w => by rw [World.setCells]; exact setCells_os b r _ _
def Env.put (E : Env) (id q : Nat) (vs : List Value) (blk' : Blk) : Env :=
  { w := E.w.setCells (E.loc id).1 ((E.loc id).2.1 + q) vs, ro := E.ro, loc := E.loc, bl := E.bl.set id (some blk') }
theorem Go.put {E : Env} (m : Mem E) (id q : Nat) (vs : List Value) (blk blk' : Blk) (hb : bget E.bl id = some blk) (hq : q + vs.length ≤ (E.loc id).2.2)
    (hf : FitB blk') (hl : (flatB blk').length ≤ (E.loc id).2.2)
    (h1 : ∀ (j : Nat) x, (flatB blk')[j]? = some x → q ≤ j → j < q + vs.length → ∃ v, vs[j - q]? = some v ∧ VR E true x v)
    (h2 : ∀ (j : Nat) x, (flatB blk')[j]? = some x → (j < q ∨ q + vs.length ≤ j) → (flatB blk)[j]? = some x)
    (s1 : ∀ p q, offB blk p = some q → offB blk' p = some q) (s2 : ∀ p r, rowB blk p = some r → rowB blk' p = some r) : Go E (E.put id q vs blk') := by
  have hid := bget_lt hb
  have k := m.ok id blk hb
  have hcells : ∀ j, j < vs.length → (E.w.cell? ⟨(E.loc id).1, (E.loc id).2.1 + q + j, none⟩).isSome = true := fun j hj => by
    have := (k.room (q + j) (by omega)).1
    rw [← Nat.add_assoc] at this
    exact this
  have hin : ∀ j (hj : j < vs.length), (E.put id q vs blk').cell (E.loc id).1 ((E.loc id).2.1 + q + j) = some vs[j] := fun j hj => World.cell?_setCells_in _ vs _ E.w hcells j hj
  have hout : ∀ b o, (b = (E.loc id).1 → o < (E.loc id).2.1 + q ∨ (E.loc id).2.1 + q + vs.length ≤ o) → (E.put id q vs blk').cell b o = E.cell b o := fun b o h =>
    World.cell?_setCells_out _ vs _ E.w ⟨b, o, none⟩ fun e _ => h e
  have hfrz : ∀ b o, (E.put id q vs blk').w.frozen? ⟨b, o, none⟩ = E.w.frozen? ⟨b, o, none⟩ := fun b o => World.frozen?_setCells _ vs _ E.w _
  have hnin : ∀ b o, ¬ InExt E id b o → (E.put id q vs blk').cell b o = E.cell b o := fun b o h => hout b o fun e => by
    unfold InExt at h
    rcases Nat.lt_or_ge o ((E.loc id).2.1 + q) with h' | h'
    · exact .inl h'
    · refine .inr ?_
      rcases Nat.lt_or_ge o ((E.loc id).2.1 + q + vs.length) with h'' | h''
      · exact absurd ⟨e.symm, by omega, by omega⟩ h
      · exact h''
  have hbl : ∀ i bi, bget (E.put id q vs blk').bl i = some bi → ∃ bi0, bget E.bl i = some bi0 := fun i bi h => by
    by_cases e : id = i
    · subst e; exact ⟨blk, hb⟩
    · exact ⟨bi, by rwa [show (E.put id q vs blk').bl = E.bl.set id (some blk') from rfl, bget_set_ne e] at h⟩
  have hown : ∀ b o, Own (E.put id q vs blk') b o → Own E b o := fun b o ⟨i, bi, h, hx⟩ => by
    obtain ⟨bi0, h0⟩ := hbl i bi h
    exact ⟨i, bi0, h0, hx⟩
  have hsz : (E.put id q vs blk').w.heap.size = E.w.heap.size := heap_size_setCells _ _ _ _
  have os := setCells_os (E.loc id).1 vs ((E.loc id).2.1 + q) E.w
  have fr : Fr E (E.put id q vs blk') := by
    refine ⟨os.1, os.2.1, os.2.2, by rw [hsz]; exact Nat.le_refl _, fun b o _ hn => hnin b o fun hx => hn ⟨id, blk, hb, hx⟩, fun b _ hn => ?_, fun b o _ _ => hfrz b o, fun b o h => .inl (hown b o h), fun b o h => .inl h, fun _ _ h => h⟩
    by_cases e : b = (E.loc id).1
    · by_cases hv : vs = []
      · subst hv; rfl
      · have : 0 < vs.length := List.length_pos_iff.2 hv
        exact absurd ⟨id, blk, hb, e.symm, Nat.le_refl _, by omega⟩ (hn (E.loc id).2.1)
    · exact heap_setCells_ne _ _ e _ _ _
  have st : Step E (E.put id q vs blk') := .of_fr m fr (by simp [Env.put]) fun i hi bi h => by
    by_cases e : id = i
    · subst e
      rw [show (E.put id q vs blk').bl = E.bl.set id (some blk') from rfl, bget_set_self hid] at h
      cases h
      exact ⟨blk, hb, rfl, s1, s2⟩
    · rw [show (E.put id q vs blk').bl = E.bl.set id (some blk') from rfl, bget_set_ne e] at h
      exact ⟨bi, h, rfl, fun _ _ h => h, fun _ _ h => h⟩
  refine ⟨st, fr, ⟨fun i bi h => ?_, fun i j bi bj hij hi hj b o hx => ?_, fun b o h => ?_, fun b o ho => m.rod b o (hown b o ho)⟩⟩
  · by_cases e : id = i
    · subst e
      rw [show (E.put id q vs blk').bl = E.bl.set id (some blk') from rfl, bget_set_self hid] at h
      cases h
      refine ⟨hf, hl, fun j x hx => ?_, fun j hj => ?_⟩
      · show ∃ v, (E.put id q vs blk').cell (E.loc id).1 ((E.loc id).2.1 + j) = some v ∧ _
        by_cases hr : q ≤ j ∧ j < q + vs.length
        · obtain ⟨v, hv, hvr⟩ := h1 j x hx hr.1 hr.2
          refine ⟨v, ?_, hvr.mono st⟩
          have := hin (j - q) (by omega)
          rw [show (E.loc id).2.1 + q + (j - q) = (E.loc id).2.1 + j from by omega] at this
          rw [this]
          rw [List.getElem?_eq_getElem (by omega)] at hv
          exact hv
        · have hx' := h2 j x hx (by omega)
          obtain ⟨v, hv, hvr⟩ := k.cells j x hx'
          exact ⟨v, by rw [hout _ _ fun _ => by omega]; exact hv, hvr.mono st⟩
      · show ((E.put id q vs blk').cell (E.loc id).1 ((E.loc id).2.1 + j)).isSome = true ∧ _
        obtain ⟨g1, g2⟩ := k.room j hj
        refine ⟨?_, by rw [hfrz]; exact g2⟩
        by_cases hr : q ≤ j ∧ j < q + vs.length
        · have := hin (j - q) (by omega)
          rw [show (E.loc id).2.1 + q + (j - q) = (E.loc id).2.1 + j from by omega] at this
          rw [this]; rfl
        · rw [hout _ _ fun _ => by omega]; exact g1
    · rw [show (E.put id q vs blk').bl = E.bl.set id (some blk') from rfl, bget_set_ne e] at h
      have ki := m.ok i bi h
      have hne : ∀ j, j < (E.loc i).2.2 → (E.put id q vs blk').cell (E.loc i).1 ((E.loc i).2.1 + j) = E.cell (E.loc i).1 ((E.loc i).2.1 + j) := fun j hj =>
        hnin _ _ (m.dis i id bi blk (Ne.symm e) h hb _ _ ⟨rfl, by omega, by omega⟩)
      refine ⟨ki.fit, ki.len, fun j x hx => ?_, fun j hj => ?_⟩
      · obtain ⟨v, hv, hvr⟩ := ki.cells j x hx
        have hj := (List.getElem?_eq_some_iff.1 hx).1
        exact ⟨v, (hne j (Nat.lt_of_lt_of_le hj ki.len)).trans hv, hvr.mono st⟩
      · obtain ⟨g1, g2⟩ := ki.room j hj
        exact ⟨by show ((E.put id q vs blk').cell _ _).isSome = true; rw [show (E.put id q vs blk').loc i = E.loc i from rfl, hne j hj]; exact g1, by rw [hfrz]; exact g2⟩
  · obtain ⟨bi0, hi0⟩ := hbl i bi hi
    obtain ⟨bj0, hj0⟩ := hbl j bj hj
    exact m.dis i j bi0 bj0 hij hi0 hj0 b o hx
  · rw [hnin b o fun hx => m.rod b o ⟨id, blk, hb, hx⟩ h]
    exact m.roe b o h
def Env.reread (E : Env) (id : Nat) (blk' : Blk) : Env := { E with bl := E.bl.set id (some blk') }
theorem Go.reread {E : Env} (m : Mem E) (id : Nat) (blk blk' : Blk) (hb : bget E.bl id = some blk) (hf : FitB blk') (hl : (flatB blk').length ≤ (E.loc id).2.2)
    (h : ∀ (j : Nat) x, (flatB blk')[j]? = some x → ∃ v, E.cell (E.loc id).1 ((E.loc id).2.1 + j) = some v ∧ VR E true x v)
    (s1 : ∀ p q, offB blk p = some q → offB blk' p = some q) (s2 : ∀ p r, rowB blk p = some r → rowB blk' p = some r) : Go E (E.reread id blk') := by
  have hid := bget_lt hb
  have hbl : ∀ i bi, bget (E.reread id blk').bl i = some bi → (i = id ∧ bi = blk') ∨ (i ≠ id ∧ bget E.bl i = some bi) := fun i bi h => by
    by_cases e : id = i
    · subst e
      rw [show (E.reread id blk').bl = E.bl.set id (some blk') from rfl, bget_set_self hid] at h
      cases h
      exact .inl ⟨rfl, rfl⟩
    · rw [show (E.reread id blk').bl = E.bl.set id (some blk') from rfl, bget_set_ne e] at h
      exact .inr ⟨Ne.symm e, h⟩
  have hbl0 : ∀ i bi, bget (E.reread id blk').bl i = some bi → ∃ bi0, bget E.bl i = some bi0 := fun i bi h => by
    rcases hbl i bi h with ⟨rfl, _⟩ | ⟨_, h⟩
    · exact ⟨blk, hb⟩
    · exact ⟨bi, h⟩
  have hown : ∀ b o, Own (E.reread id blk') b o → Own E b o := fun b o ⟨i, bi, h, hx⟩ => by
    obtain ⟨bi0, h0⟩ := hbl0 i bi h
    exact ⟨i, bi0, h0, hx⟩
  have fr : Fr E (E.reread id blk') := ⟨rfl, rfl, rfl, Nat.le_refl _, fun _ _ _ _ => rfl, fun _ _ _ => rfl, fun _ _ _ _ => rfl, fun b o h => .inl (hown b o h), fun _ _ h => .inl h, fun _ _ h => h⟩
  have st : Step E (E.reread id blk') := .of_fr m fr (by simp [Env.reread]) fun i hi bi h => by
    rcases hbl i bi h with ⟨rfl, rfl⟩ | ⟨_, h⟩
    · exact ⟨blk, hb, rfl, s1, s2⟩
    · exact ⟨bi, h, rfl, fun _ _ h => h, fun _ _ h => h⟩
  refine ⟨st, fr, ⟨fun i bi hbi => ?_, fun i j bi bj hij hi hj b o hx => ?_, m.roe, fun b o ho => m.rod b o (hown b o ho)⟩⟩
  · rcases hbl i bi hbi with ⟨rfl, rfl⟩ | ⟨_, hb'⟩
    · refine ⟨hf, hl, fun j x hx => ?_, (m.ok i blk hb).room⟩
      obtain ⟨v, h1, h2⟩ := h j x hx
      exact ⟨v, h1, h2.mono st⟩
    · have k := m.ok i bi hb'
      refine ⟨k.fit, k.len, fun j x hx => ?_, k.room⟩
      obtain ⟨v, g1, g2⟩ := k.cells j x hx
      exact ⟨v, g1, g2.mono st⟩
  · obtain ⟨bi0, hi0⟩ := hbl0 i bi hi
    obtain ⟨bj0, hj0⟩ := hbl0 j bj hj
    exact m.dis i j bi0 bj0 hij hi0 hj0 b o hx
def Env.kill (E : Env) (id : Nat) : Env := { E with bl := E.bl.set id none }
theorem bget_kill {bl : Blks} {id i : Nat} {bi : Blk} (h : bget (bl.set id none) i = some bi) : i ≠ id ∧ bget bl i = some bi := by
  by_cases e : id = i
  · subst e
    have := bget_lt h
    simp at this
    rw [bget_set_self this] at h
    cases h
  · exact ⟨Ne.symm e, by rwa [bget_set_ne e] at h⟩
theorem Go.kill {E : Env} (m : Mem E) (id : Nat) : Go E (E.kill id) := by
  have hown : ∀ b o, Own (E.kill id) b o → Own E b o := fun b o ⟨i, bi, h, hx⟩ => ⟨i, bi, (bget_kill h).2, hx⟩
  have fr : Fr E (E.kill id) := ⟨rfl, rfl, rfl, Nat.le_refl _, fun _ _ _ _ => rfl, fun _ _ _ => rfl, fun _ _ _ _ => rfl, fun b o h => .inl (hown b o h), fun _ _ h => .inl h, fun _ _ h => h⟩
  have st : Step E (E.kill id) := .of_fr m fr (by simp [Env.kill]) fun i hi bi h => ⟨bi, (bget_kill h).2, rfl, fun _ _ h => h, fun _ _ h => h⟩
  refine ⟨st, fr, ⟨fun i bi h => ?_, fun i j bi bj hij hi hj => m.dis i j bi bj hij (bget_kill hi).2 (bget_kill hj).2, m.roe, fun b o ho => m.rod b o (hown b o ho)⟩⟩
  have k := m.ok i bi (bget_kill h).2
  exact ⟨k.fit, k.len, fun j x hx => let ⟨v, h1, h2⟩ := k.cells j x hx; ⟨v, h1, h2.mono st⟩, k.room⟩
def Env.move (E : Env) (id : Nat) (blk' : Blk) : Env :=
  { w := E.w, ro := E.ro, loc := fun i => if i = E.bl.length then E.loc id else E.loc i, bl := E.bl.set id none ++ [some blk'] }
theorem Go.move {E : Env} (m : Mem E) (id : Nat) (blk blk' : Blk) (hb : bget E.bl id = some blk) (hf : FitB blk') (hl : (flatB blk').length ≤ (E.loc id).2.2)
    (h : ∀ (j : Nat) x, (flatB blk')[j]? = some x → ∃ v, E.cell (E.loc id).1 ((E.loc id).2.1 + j) = some v ∧ VR E true x v) : Go E (E.move id blk') := by
  have hid := bget_lt hb
  have hget : ∀ i bi, bget (E.move id blk').bl i = some bi → (i ≠ id ∧ i < E.bl.length ∧ bget E.bl i = some bi ∧ (E.move id blk').loc i = E.loc i) ∨ (i = E.bl.length ∧ bi = blk' ∧ (E.move id blk').loc i = E.loc id) := fun i bi h => by
    rcases bget_append_lt h with ⟨h1, h2⟩ | ⟨h1, h2⟩
    · obtain ⟨h3, h4⟩ := bget_kill h2
      have h5 := bget_lt h4
      exact .inl ⟨h3, h5, h4, by simp [Env.move, Nat.ne_of_lt h5]⟩
    · simp at h1
      cases h2
      exact .inr ⟨h1, rfl, by simp [Env.move, h1]⟩
  have hext : ∀ i bi, bget (E.move id blk').bl i = some bi → ∀ b o, InExt (E.move id blk') i b o → (i ≠ id ∧ bget E.bl i = some bi ∧ InExt E i b o) ∨ (i = E.bl.length ∧ InExt E id b o) := fun i bi h b o hx => by
    rcases hget i bi h with ⟨h1, h2, h3, h4⟩ | ⟨h1, _, h4⟩
    · unfold InExt at hx ⊢; rw [h4] at hx; exact .inl ⟨h1, h3, hx⟩
    · unfold InExt at hx ⊢; rw [h4] at hx; exact .inr ⟨h1, hx⟩
  have hown : ∀ b o, Own (E.move id blk') b o → Own E b o := fun b o ⟨i, bi, h, hx⟩ => by
    rcases hext i bi h b o hx with ⟨_, h3, hx⟩ | ⟨_, hx⟩
    · exact ⟨i, bi, h3, hx⟩
    · exact ⟨id, blk, hb, hx⟩
  have fr : Fr E (E.move id blk') := ⟨rfl, rfl, rfl, Nat.le_refl _, fun _ _ _ _ => rfl, fun _ _ _ => rfl, fun _ _ _ _ => rfl, fun b o h => .inl (hown b o h), fun _ _ h => .inl h, fun _ _ h => h⟩
  have st : Step E (E.move id blk') := .of_fr m fr (by simp [Env.move]) fun i hi bi h => by
    rcases hget i bi h with ⟨h1, h2, h3, h4⟩ | ⟨h1, _, _⟩
    · exact ⟨bi, h3, h4, fun _ _ h => h, fun _ _ h => h⟩
    · omega
  refine ⟨st, fr, ⟨fun i bi hbi => ?_, fun i j bi bj hij hi hj b o hx hy => ?_, m.roe, fun b o ho => m.rod b o (hown b o ho)⟩⟩
  · rcases hget i bi hbi with ⟨h1, h2, h3, h4⟩ | ⟨h1, h2, h4⟩
    · have k := m.ok i bi h3
      refine ⟨k.fit, by rw [h4]; exact k.len, fun j x hx => ?_, fun j hj => ?_⟩
      · rw [h4]
        obtain ⟨v, g1, g2⟩ := k.cells j x hx
        exact ⟨v, g1, g2.mono st⟩
      · rw [h4] at hj ⊢; exact k.room j hj
    · subst h2
      refine ⟨hf, by rw [h4]; exact hl, fun j x hx => ?_, fun j hj => ?_⟩
      · rw [h4]
        obtain ⟨v, g1, g2⟩ := h j x hx
        exact ⟨v, g1, g2.mono st⟩
      · rw [h4] at hj ⊢; exact (m.ok id blk hb).room j hj
  · rcases hext i bi hi b o hx with ⟨h1, h3, hx⟩ | ⟨h1, hx⟩ <;> rcases hext j bj hj b o hy with ⟨k1, k3, hy⟩ | ⟨k1, hy⟩
    · exact m.dis i j bi bj hij h3 k3 b o hx hy
    · exact m.dis i id bi blk h1 h3 hb b o hx hy
    · exact m.dis j id bj blk k1 k3 hb b o hy hx
    · omega
def Env.moveS (E : Env) (id s : Nat) (blk' : Blk) : Env :=
  { w := E.w, ro := E.ro, loc := fun i => if i = E.bl.length then ((E.loc id).1, (E.loc id).2.1 + s, (E.loc id).2.2 - s) else E.loc i, bl := E.bl.set id none ++ [some blk'] }
theorem Go.moveS {E : Env} (m : Mem E) (id s : Nat) (blk blk' : Blk) (hb : bget E.bl id = some blk) (hf : FitB blk') (hs : s ≤ (E.loc id).2.2) (hl : s + (flatB blk').length ≤ (E.loc id).2.2)
    (h : ∀ (j : Nat) x, (flatB blk')[j]? = some x → ∃ v, E.cell (E.loc id).1 ((E.loc id).2.1 + s + j) = some v ∧ VR E true x v) : Go E (E.moveS id s blk') := by
  have hid := bget_lt hb
  have hget : ∀ i bi, bget (E.moveS id s blk').bl i = some bi → (i ≠ id ∧ i < E.bl.length ∧ bget E.bl i = some bi ∧ (E.moveS id s blk').loc i = E.loc i) ∨ (i = E.bl.length ∧ bi = blk' ∧ (E.moveS id s blk').loc i = ((E.loc id).1, (E.loc id).2.1 + s, (E.loc id).2.2 - s)) := fun i bi h => by
    rcases bget_append_lt h with ⟨h1, h2⟩ | ⟨h1, h2⟩
    · obtain ⟨h3, h4⟩ := bget_kill h2
      have h5 := bget_lt h4
      exact .inl ⟨h3, h5, h4, by simp [Env.moveS, Nat.ne_of_lt h5]⟩
    · simp at h1
      cases h2
      exact .inr ⟨h1, rfl, by simp [Env.moveS, h1]⟩
  have hext : ∀ i bi, bget (E.moveS id s blk').bl i = some bi → ∀ b o, InExt (E.moveS id s blk') i b o → (i ≠ id ∧ bget E.bl i = some bi ∧ InExt E i b o) ∨ (i = E.bl.length ∧ InExt E id b o) := fun i bi h b o hx => by
    rcases hget i bi h with ⟨h1, h2, h3, h4⟩ | ⟨h1, _, h4⟩
    · unfold InExt at hx ⊢; rw [h4] at hx; exact .inl ⟨h1, h3, hx⟩
    · unfold InExt at hx ⊢; rw [h4] at hx; obtain ⟨x1, x2, x3⟩ := hx; exact .inr ⟨h1, x1, by simp at x2; omega, by simp at x3; omega⟩
  have hown : ∀ b o, Own (E.moveS id s blk') b o → Own E b o := fun b o ⟨i, bi, h, hx⟩ => by
    rcases hext i bi h b o hx with ⟨_, h3, hx⟩ | ⟨_, hx⟩
    · exact ⟨i, bi, h3, hx⟩
    · exact ⟨id, blk, hb, hx⟩
  have fr : Fr E (E.moveS id s blk') := ⟨rfl, rfl, rfl, Nat.le_refl _, fun _ _ _ _ => rfl, fun _ _ _ => rfl, fun _ _ _ _ => rfl, fun b o h => .inl (hown b o h), fun _ _ h => .inl h, fun _ _ h => h⟩
  have st : Step E (E.moveS id s blk') := .of_fr m fr (by simp [Env.moveS]) fun i hi bi h => by
    rcases hget i bi h with ⟨h1, h2, h3, h4⟩ | ⟨h1, _, _⟩
    · exact ⟨bi, h3, h4, fun _ _ h => h, fun _ _ h => h⟩
    · omega
  refine ⟨st, fr, ⟨fun i bi hbi => ?_, fun i j bi bj hij hi hj b o hx hy => ?_, m.roe, fun b o ho => m.rod b o (hown b o ho)⟩⟩
  · rcases hget i bi hbi with ⟨h1, h2, h3, h4⟩ | ⟨h1, h2, h4⟩
    · have k := m.ok i bi h3
      refine ⟨k.fit, by rw [h4]; exact k.len, fun j x hx => ?_, fun j hj => ?_⟩
      · rw [h4]
        obtain ⟨v, g1, g2⟩ := k.cells j x hx
        exact ⟨v, g1, g2.mono st⟩
      · rw [h4] at hj ⊢; exact k.room j hj
    · subst h2
      refine ⟨hf, by rw [h4]; simp; omega, fun j x hx => ?_, fun j hj => ?_⟩
      · rw [h4]
        obtain ⟨v, g1, g2⟩ := h j x hx
        exact ⟨v, g1, g2.mono st⟩
      · rw [h4] at hj ⊢
        have := (m.ok id blk hb).room (s + j) (by simp at hj; omega)
        rw [← Nat.add_assoc] at this
        exact this
  · rcases hext i bi hi b o hx with ⟨h1, h3, hx⟩ | ⟨h1, hx⟩ <;> rcases hext j bj hj b o hy with ⟨k1, k3, hy⟩ | ⟨k1, hy⟩
    · exact m.dis i j bi bj hij h3 k3 b o hx hy
    · exact m.dis i id bi blk h1 h3 hb b o hx hy
    · exact m.dis j id bj blk k1 k3 hb b o hy hx
    · omega
def Env.newMp (E : Env) : Env := { E with w := E.w.alloc (.map #[] 0) }
theorem Go.newMp {E : Env} (m : Mem E) : Go E E.newMp ∧ VR E.newMp true .emap (.map (some E.w.heap.size)) := by
  have hcell : ∀ b o, b < E.w.heap.size → E.newMp.cell b o = E.cell b o := fun b o hb => World.cell?_alloc_lt _ _ _ hb
  have hfrz : ∀ b o, b < E.w.heap.size → E.newMp.w.frozen? ⟨b, o, none⟩ = E.w.frozen? ⟨b, o, none⟩ := fun b o hb => World.frozen?_alloc_old _ _ _ (by show b ≠ _; omega)
  have frm : Fr E E.newMp := ⟨rfl, rfl, rfl, by show _ ≤ (E.w.heap.push _).size; simp, fun b o hb _ => hcell b o hb,
    fun b hb _ => by show (E.w.heap.push _)[b]? = _; rw [Array.getElem?_push, if_neg (by omega)], fun b o hb _ => hfrz b o hb, fun _ _ h => .inl h, fun b o h => .inl h, fun _ _ h => h⟩
  have st : Step E E.newMp := .of_fr m frm (Nat.le_refl _) fun id hid blk' hb => ⟨blk', hb, rfl, fun _ _ h => h, fun _ _ h => h⟩
  refine ⟨⟨st, frm, ⟨fun id bk hb => ?_, m.dis, fun b o h => ?_, m.rod⟩⟩, .emap _ _ 0 ?_⟩
  · have k := m.ok id bk hb
    refine ⟨k.fit, k.len, fun j x hx => ?_, fun j hj => ?_⟩
    · obtain ⟨v, hv, hr⟩ := k.cells j x hx
      exact ⟨v, by rw [show E.newMp.loc = E.loc from rfl, hcell _ _ (cell_lt (by show (E.cell _ _).isSome = true; rw [hv]; rfl))]; exact hv, hr.mono st⟩
    · obtain ⟨g1, g2⟩ := k.room j hj
      have hlt := cell_lt g1
      exact ⟨by rw [show E.newMp.loc = E.loc from rfl, hcell _ _ hlt]; exact g1, by rw [show E.newMp.loc = E.loc from rfl, hfrz _ _ hlt]; exact g2⟩
  · have g := m.roe b o h
    rw [hcell _ _ (cell_lt g)]; exact g
  · show (E.w.heap.push _)[E.w.heap.size]? = _
    simp
end Go.Abs
end
section
namespace Go.Abs
open Go
inductive Cat where
  | pure | read | write
  deriving DecidableEq
mutual
def noRef : AV → Bool
  | .rptr _ | .rints _ _ | .robjs _ _ _ | .errv _ _ _ => false
  | .agg kids => noRefs kids
  | .tup kids => noRefs kids
  | .fn _ a b => noRefs a && noRefs b
  | .iface _ v => noRef v
  | _ => true
def noRefs : List AV → Bool
  | [] => true
  | x :: r => noRef x && noRefs r
end
mutual
def ids : AV → List Nat
  | .ptr id _ | .aptr id _ _ _ | .slice id _ _ _ _ | .own id _ => [id]
  | .agg kids => idss kids
  | .tup kids => idss kids
  | .fn _ a b => idss a ++ idss b
  | .iface _ v => ids v
  | _ => []
def idss : List AV → List Nat
  | [] => []
  | x :: r => ids x ++ idss r
end
mutual
def ren (f : Nat → Option Nat) : AV → AV
  | .ptr id p => match f id with | some j => .ptr j p | none => .any
  | .aptr id p s n => match f id with | some j => .aptr j p s n | none => .any
  | .slice id p s l w => match f id with | some j => .slice j p s l w | none => .any
  | .own id w => match f id with | some j => .own j w | none => .any
  | .agg kids => .agg (rens f kids)
  | .tup kids => .tup (rens f kids)
  | .fn g a b => .fn g (rens f a) (rens f b)
  | .iface t v => .iface t (ren f v)
  | x => x
def rens (f : Nat → Option Nat) : List AV → List AV
  | [] => []
  | x :: r => ren f x :: rens f r
end
def renB (f : Nat → Option Nat) : Blk → Blk
  | .var v => .var (ren f v)
  | .ints k l => .ints k l
  | .objs e w l => .objs e w l
  | .free => .free
def idsB : Option Blk → List Nat
  | some (.var v) => ids v
  | _ => []
section
variable (P : Program)
def kindOf (t : TypeId) : Option IntKind := match P.underlying t with | some (.int k) => some k | _ => none
def sizeQ (t : TypeId) : Nat := match P.info? t with | some i => i.size | none => 0
def szOK (t : TypeId) (w : Nat) : Bool := sizeQ P t == w && w != 0 && (match P.info? t with | some i => (match i.zero with | some z => z.cells.size == i.size | none => false) | none => false)
def bytesQ (t : TypeId) : Nat := match P.info? t with | some i => i.bytes | none => 0
def confGo (cf : TypeId → AV → Bool) : List Field → List AV → Nat → Bool
  | [], [], _ => true
  | a :: fs, y :: kids, off => a.offset == off && sizeQ P a.type == width y && cf a.type y && confGo cf fs kids (off + width y)
  | _, _, _ => false
def conf : Nat → TypeId → AV → Bool
  | 0, _, _ => false
  | f + 1, t, x =>
    match P.underlying t, x with
    | some .bool, .bool _ => sizeQ P t == 1
    | some (.int k), .int k' _ => decide (k = k') && sizeQ P t == 1
    | some .string, .str _ => sizeQ P t == 1
    | some (.pointer _), .nilp | some (.pointer _), .ptr _ _ | some (.pointer _), .rptr _ | some (.pointer _), .aptr _ _ _ _ => sizeQ P t == 1
    | some (.slice _), .snil | some (.slice _), .slice _ _ _ _ _ | some (.slice _), .own _ _ | some (.slice _), .rints _ _ | some (.slice _), .robjs _ _ _ => sizeQ P t == 1
    | some (.interface _), .nili | some (.interface _), .iface _ _ | some (.interface _), .errv _ _ _ | some (.map _ _), .emap | some (.map _ _), .raw (.map none) => sizeQ P t == 1
    | some (.func ..), .nilf | some (.func ..), .fn _ _ _ => sizeQ P t == 1
    | some (.array n e), .ints k m _ => n == m && decide (kindOf P e = some k) && sizeQ P e == 1 && sizeQ P t == n
    | some (.array n e), .agg kids => kids.length == n && kids.all (fun y => conf f e y && width y == sizeQ P e) && sizeQ P t == widths kids
    | some (.struct fs), .agg kids => confGo P (conf f) fs.toList kids 0 && sizeQ P t == widths kids
    | _, _ => false
def eqTy : Nat → TypeId → Bool
  | 0, _ => false
  | f + 1, t =>
    match P.underlying t with
    | some .bool | some (.int _) | some .string => true
    | some (.array _ e) => eqTy f e
    | some (.struct fs) => !P.stoodInHeld t && fs.toList.all fun a => a.name != "_" && eqTy f a.type
    | _ => false
def zeroAV : Nat → TypeId → Option AV
  | 0, _ => none
  | f + 1, t =>
    match P.underlying t with
    | some .bool => some (.bool false)
    | some (.int k) => some (.int k 0)
    | some .string => some (.str ByteArray.empty)
    | some (.pointer _) => some .nilp
    | some (.slice _) => some .snil
    | some (.interface _) => some .nili
    | some (.func ..) => some .nilf
    | some (.map _ _) => some (.raw (.map none))
    | some (.array n e) => match P.underlying e with
      | some (.int k) => some (.ints k n (List.replicate n 0))
      | _ => match zeroAV f e with | some z => some (.agg (List.replicate n z)) | none => none
    | some (.struct fs) => match zeros (zeroAV f) fs.toList with | some l => some (.agg l) | none => none
    | _ => none
where
  zeros (z : TypeId → Option AV) : List Field → Option (List AV)
    | [] => some []
    | a :: r => match z a.type, zeros z r with | some x, some l => some (x :: l) | _, _ => none
def leafEq : AV → Value → Bool
  | .int k n, .int k' m => decide (k = k') && n == m
  | .bool a, .bool b => a == b
  | .str a, .string b => a.size == 0 && b.size == 0
  | .snil, .slice none 0 0 => true
  | .nilp, .pointer none => true
  | .nilf, .nilFunc => true
  | .nili, .nilIface => true
  | .raw (.map none), .map none => true
  | _, _ => false
def cellsChk : List AV → List Value → Bool
  | [], [] => true
  | x :: a, v :: b => leafEq x v && cellsChk a b
  | _, _ => false
mutual
def fits : AV → Bool
  | .agg kids => fitss kids
  | .ints _ n l => l.length == n
  | _ => true
def fitss : List AV → Bool
  | [] => true
  | x :: r => fits x && fitss r
end
def zeroOf (t : TypeId) : Option AV :=
  match zeroAV P 8 t, P.info? t with
  | some x, some i => match i.zero with
    | some (.agg cs) => match x with
      | .agg _ | .ints _ _ _ => if (cellsChk (flat x) cs.toList && fits x) = true then some x else none
      | _ => none
    | some v => match x with
      | .agg _ | .ints _ _ _ => none
      | _ => if leafEq x v = true then some x else none
    | none => none
  | _, _ => none
end
def bindO {T R : Type} (x : Option T) (f : T → Option R) : Option R := x.bind f
def tkBool : AV → Option Bool
  | .bool b => some b
  | _ => none
def tkInt (k : IntKind) : AV → Option Int
  | .int k' n => if k' = k then some n else none
  | _ => none
def tkStr : AV → Option ByteArray
  | .str s => some s
  | _ => none
def tkInts (k : IntKind) (n : Nat) : AV → Option (List Int)
  | .ints k' m l => if k' = k then (if m = n then some l else none) else none
  | _ => none
def tkRints (k : IntKind) : AV → Option (List Int)
  | .rints k' l => if k' = k then some l else none
  | .snil => some []
  | _ => none
def tkRobjs (e w : Nat) : AV → Option (List AV)
  | .robjs e' w' l => if e' = e then (if w' = w then some l else none) else none
  | .snil => some []
  | _ => none
def tkAgg (n : Nat) : AV → Option (List AV)
  | .agg l => if l.length = n then some l else none
  | _ => none
section
variable {R : Type} (P : Program)
def decTs (dec : TypeId → AV → (AV → Option R) → Option R) : List TypeId → Nat → List AV → (List AV → Option R) → Option R
  | [], _, _, K => K []
  | a :: ts, i, kids, K => dec a (kids.getD i .any) fun y => decTs dec ts (i + 1) kids fun r => K (y :: r)
def decK : Nat → TypeId → AV → (AV → Option R) → Option R
  | 0, _, _, _ => none
  | f + 1, t, x, K =>
    match P.underlying t with
    | some .bool => bindO (tkBool x) fun b => K (.bool b)
    | some (.int k) => bindO (tkInt k x) fun n => K (.int k n)
    | some .string => bindO (tkStr x) fun s => K (.str s)
    | some (.slice e) => match kindOf P e with
      | some k => bindO (tkRints k x) fun l => K (.rints k l)
      | none => bindO (tkRobjs e (sizeQ P e) x) fun l => K (.robjs e (sizeQ P e) l)
    | some (.array n e) => match kindOf P e with
      | some k => bindO (tkInts k n x) fun l => K (.ints k n l)
      | none => bindO (tkAgg n x) fun kids => decTs (decK f) (List.replicate n e) 0 kids fun l => K (.agg l)
    | some (.struct fs) => bindO (tkAgg fs.size x) fun kids => decTs (decK f) (fs.toList.map (·.type)) 0 kids fun l => K (.agg l)
    | _ => none
end
def getB : Blk → List Nat → Option AV
  | .var v, p => getPath v p
  | .ints k l, [i] => some (.int k (l.getD i 0))
  | .objs _ _ l, i :: p => getPath (l.getD i .any) p
  | _, _ => none
def setB : Blk → List Nat → AV → Option Blk
  | .var v, p, x => match setPath v p x with | some v' => some (.var v') | none => none
  | .ints k l, [i], .int k' y => if k = k' then some (.ints k (l.set i y)) else none
  | _, _, _ => none
def ibits (op : BinOp) (k : IntKind) (a b : Int) : Int :=
  match op with
  | .and => k.wrap (BitVec.ofInt k.bits a &&& BitVec.ofInt k.bits b).toNat
  | .or => k.wrap (BitVec.ofInt k.bits a ||| BitVec.ofInt k.bits b).toNat
  | .xor => k.wrap (BitVec.ofInt k.bits a ^^^ BitVec.ofInt k.bits b).toNat
  | _ => k.wrap (BitVec.ofInt k.bits a &&& ~~~BitVec.ofInt k.bits b).toNat
def ishl (k : IntKind) (a b : Int) : Int := k.wrap (a * 2 ^ min b.toNat k.bits)
def ishr (k : IntKind) (a b : Int) : Int := a.fdiv (2 ^ min b.toNat k.bits)
section
variable {R : Type}
def binK (op : BinOp) (x y : AV) (K : AV → Option R) : Option R :=
  match op, x, y with
  | .shl, .int k a, .int _ b => if 0 ≤ b then K (.int k (ishl k a b)) else none
  | .shr, .int k a, .int _ b => if 0 ≤ b then K (.int k (ishr k a b)) else none
  | .add, .int k a, .int k' b => if k = k' then K (.int k (k.wrap (a + b))) else none
  | .sub, .int k a, .int k' b => if k = k' then K (.int k (k.wrap (a - b))) else none
  | .mul, .int k a, .int k' b => if k = k' then K (.int k (k.wrap (a * b))) else none
  | .quo, .int k a, .int k' b => if k = k' then (if b = 0 then none else K (.int k (k.wrap (a.tdiv b)))) else none
  | .rem, .int k a, .int k' b => if k = k' then (if b = 0 then none else K (.int k (a.tmod b))) else none
  | .and, .int k a, .int k' b | .or, .int k a, .int k' b | .xor, .int k a, .int k' b | .andNot, .int k a, .int k' b =>
    if k = k' then K (.int k (ibits op k a b)) else none
  | .eql, .int k a, .int k' b => if k = k' then K (.bool (a == b)) else none
  | .neq, .int k a, .int k' b => if k = k' then K (.bool (a != b)) else none
  | .lss, .int k a, .int k' b => if k = k' then K (.bool (decide (a < b))) else none
  | .leq, .int k a, .int k' b => if k = k' then K (.bool (decide (a ≤ b))) else none
  | .gtr, .int k a, .int k' b => if k = k' then K (.bool (decide (a > b))) else none
  | .geq, .int k a, .int k' b => if k = k' then K (.bool (decide (a ≥ b))) else none
  | .eql, .str a, .str b => K (.bool (a.toList == b.toList))
  | .neq, .str a, .str b => K (.bool (!(a.toList == b.toList)))
  | .add, .str a, .str b => if a.size + b.size ≤ 1152921504606846976 then K (.str (a ++ b)) else none
  | _, _, _ => none
mutual
def eqAV : AV → AV → Option Bool
  | .bool a, .bool b => some (a == b)
  | .int k a, .int k' b => if k = k' then some (a == b) else none
  | .str a, .str b => some (a == b)
  | .ints k n l, .ints k' m r => if k = k' then (if n = m then some (l == r) else none) else none
  | .agg a, .agg b => eqAVs a b
  | _, _ => none
def eqAVs : List AV → List AV → Option Bool
  | [], [] => some true
  | x :: a, y :: b => match eqAV x y, eqAVs a b with | some p, some q => some (p && q) | _, _ => none
  | _, _ => none
end
def unK (op : UnOp) (x : AV) (K : AV → Option R) : Option R :=
  match op, x with
  | .neg, .int k n => K (.int k (k.wrap (0 - n)))
  | .xor, .int k n => K (.int k (ibits .xor k (if k.signed then -1 else k.max) n))
  | .not, .bool b => K (.bool !b)
  | _, _ => none
def bytesOf (s : ByteArray) : List Int := s.data.toList.map fun b => (b.toNat : Int)
def strOf (l : List Int) : ByteArray := ⟨(l.map fun n => UInt8.ofNat n.toNat).toArray⟩
def boundsK (lo hi : Option AV) (n : Nat) (K : Nat → Option Nat → Option R) : Option R :=
  match lo, hi with
  | none, none => K 0 none
  | some (.int _ l), none => if 0 ≤ l then (if l ≤ (n : Int) then K l.toNat none else none) else none
  | none, some (.int _ h) => if 0 ≤ h then (if h ≤ (n : Int) then K 0 (some h.toNat) else none) else none
  | some (.int _ l), some (.int _ h) => if 0 ≤ h then (if h ≤ (n : Int) then (if 0 ≤ l then (if l ≤ h then K l.toNat (some h.toNat) else none) else none) else none) else none
  | _, _ => none
def cut {α : Type} (l : List α) (lo : Nat) : Option Nat → List α
  | none => l.drop lo
  | some h => (l.drop lo).take (h - lo)
def span (n lo : Nat) : Option Nat → Nat
  | none => n - lo
  | some h => h - lo
end
end Go.Abs
end
section
set_option linter.unusedVariables false
namespace Go.Abs
open Go
structure Callee where
  lend : List Bool
  run : {R : Type} → List AV → List (Option Blk) → (AV → Blks → Option R) → Option R
structure Ctx where
  P : Program
  G : Nat → AV
  Γ : FuncId → Option Callee
  ro : TypeId → Bool
def isRo (C : Ctx) (t : TypeId) (x : AV) : Bool := C.ro t && noOwn x && solid x
def ofConst : Value → AV
  | .bool b => .bool b
  | .int k n => .int k n
  | .string s => .str s
  | .slice none 0 0 => .snil
  | .pointer none => .nilp
  | .nilFunc => .nilf
  | .nilIface => .nili
  | _ => .any
def get (C : Ctx) (tm : List AV) : Operand → AV
  | .tmp t => tm.getD t .any
  | .const v => ofConst v
  | .global g => match C.G g with | .any => .any | v => .rptr v
  | .func f => .fn (.func f) [] []
mutual
def view (bl : Blks) : AV → Option AV
  | .slice id path s len _ => match bget bl id, path with
    | some (.ints k l), [] => some (.rints k ((l.drop s).take len))
    | some (.objs e w l), [] => some (.robjs e w ((l.drop s).take len))
    | some (.var v), p => match getPath v p with
      | some (.ints k _ l) => some (.rints k ((l.drop s).take len))
      | _ => none
    | _, _ => none
  | .own id _ => match bget bl id with
    | some (.ints k l) => some (.rints k l)
    | some (.objs e w l) => some (.robjs e w l)
    | _ => none
  | .ptr id path => match bget bl id with
    | some b => match getB b path with
      | some x => if noOwn x = true then some (.rptr x) else none
      | none => none
    | none => none
  | .aptr _ _ _ _ => none
  | .agg kids => match views bl kids with | some l => some (.agg l) | none => none
  | .tup kids => match views bl kids with | some l => some (.tup l) | none => none
  | .fn g a b => match views bl a, views bl b with | some x, some y => some (.fn g x y) | _, _ => none
  | .iface t v => match view bl v with | some x => some (.iface t x) | none => none
  | x => some x
def views (bl : Blks) : List AV → Option (List AV)
  | [] => some []
  | x :: r => match view bl x, views bl r with | some y, some l => some (y :: l) | _, _ => none
end
def reach (bl : Blks) : Nat → List Nat → List Nat → List Nat
  | 0, _, acc => acc
  | _ + 1, [], acc => acc
  | f + 1, i :: r, acc => if (acc.contains i || decide (bl.length ≤ i)) = true then reach bl f r acc else reach bl f (r ++ idsB (bget bl i)) (acc ++ [i])
def pos (l : List Nat) (i : Nat) : Option Nat := go l 0
where
  go : List Nat → Nat → Option Nat
    | [], _ => none
    | x :: r, n => if x = i then some n else go r (n + 1)
def lentIds : List Bool → List AV → List Nat
  | true :: fs, x :: r => ids x ++ lentIds fs r
  | _ :: fs, _ :: r => lentIds fs r
  | _, _ => []
def handed (bl : Blks) (lent : List Nat) : List Bool → List AV → Option (List AV × Bool)
  | _, [] => some ([], false)
  | true :: fs, x :: r => match handed bl lent fs r with | some (l, b) => some (ren (pos lent) x :: l, b) | none => none
  | f, x :: r => if ((ids x).all fun i => !lent.contains i) = true then
      (match view bl x, handed bl lent f.tail r with | some y, some (l, b) => some (y :: l, b || !noOwn x) | _, _ => none) else none
def backOf (lent : List Nat) (n : Nat) (j : Nat) : Option Nat :=
  if j < lent.length then lent[j]? else some (n + (j - lent.length))
def putBack (ρ : Nat → Option Nat) : List Nat → Blks → Blks → Blks
  | i :: is, b :: out, bl => putBack ρ is out (bl.set i (b.map (renB ρ)))
  | _, out, bl => bl ++ out.map (Option.map (renB ρ))
def noFrees (bl : Blks) (lent : List Nat) : Bool := lent.all fun i => match bget bl i with | some .free => false | _ => true
def refFree : Blks → Bool
  | [] => true
  | some (.var v) :: r => noRef v && refFree r
  | some (.objs _ _ _) :: _ => false
  | _ :: r => refFree r
section
variable {R : Type} (C : Ctx)
def callK (f : FuncId) (args : List AV) (bl : Blks) (K : Cat → AV → Blks → Option R) : Option R :=
  match C.Γ f with
  | none => none
  | some m =>
    match handed bl (reach bl 40 (lentIds m.lend args) []) m.lend args with
    | none => none
    | some (args', looks) =>
      m.run args' ((reach bl 40 (lentIds m.lend args) []).map fun i => (bget bl i).map (renB (pos (reach bl 40 (lentIds m.lend args) [])))) fun v out =>
        if ((lentIds m.lend args).isEmpty && out.isEmpty) = true then
          (if noOwn v = true then
            (if looks = true then (if noRef v = true then K .read v bl else none) else K .pure v bl) else none)
        else (if ((!looks || (noRef v && refFree out)) && noFrees bl (reach bl 40 (lentIds m.lend args) [])) = true then
          K .write (ren (backOf (reach bl 40 (lentIds m.lend args) []) bl.length) v) (putBack (backOf (reach bl 40 (lentIds m.lend args) []) bl.length) (reach bl 40 (lentIds m.lend args) []) out bl) else none)
def decB (b : Blk) (p : List Nat) (K : AV → Option R) : Option R :=
  match b, p with
  | .objs e _ l, i :: p => decK C.P 8 e (l.getD i .any) fun y => match getPath y p with | some x => K x | none => none
  | b, p => match getB b p with | some x => K x | none => none
def loadK (t : TypeId) (a : AV) (bl : Blks) (K : Cat → AV → Blks → Option R) : Option R :=
  match a with
  | .ptr id path => match bget bl id with
    | some b => decB C b path fun x => if conf C.P 8 t x = true then K .read x bl else none
    | none => none
  | .aptr id path s n => match bget bl id, path with
    | some (.ints k l), [] => if conf C.P 8 t (.ints k n ((l.drop s).take n)) = true then K .read (.ints k n ((l.drop s).take n)) bl else none
    | some (.var v), p => match getPath v p with
      | some (.ints k _ l) => if conf C.P 8 t (.ints k n ((l.drop s).take n)) = true then K .read (.ints k n ((l.drop s).take n)) bl else none
      | _ => none
    | _, _ => none
  | .rptr x => if conf C.P 8 t x = true then K .pure x bl else none
  | _ => none
def storeK (t : TypeId) (a x : AV) (bl : Blks) (K : Cat → AV → Blks → Option R) : Option R :=
  match a with
  | .ptr id path => match bget bl id with
    | some b => match setB b path x with
      | some b' => if (solid x && conf C.P 8 t x) = true then K .write .any (bl.set id (some b')) else none
      | none => none
    | none => none
  | _ => none
def pieceOf (id w n : Nat) (l : Nat) (h : Option Nat) : AV :=
  match h with
  | some k => .slice id [] l (span n l (some k)) w
  | none => match l with
    | 0 => .own id w
    | l + 1 => .slice id [] (l + 1) (span n (l + 1) none) w
def sliceK (t : TypeId) (x : AV) (lo hi : Option AV) (bl : Blks) (K : Cat → AV → Blks → Option R) : Option R :=
  match C.P.underlying t, x with
  | some .string, .str s => boundsK lo hi s.size fun l h => K .pure (.str (s.extract l (h.getD s.size))) bl
  | some (.slice e), .snil => if szOK C.P e (sizeQ C.P e) = true then boundsK lo hi 0 fun _ _ => K .pure .snil bl else none
  | some (.slice e), .rints k r => if szOK C.P e 1 = true then boundsK lo hi r.length fun l h => K .pure (.rints k (cut r l h)) bl else none
  | some (.slice e), .robjs e' w r => if szOK C.P e w = true then boundsK lo hi r.length fun l h => K .pure (.robjs e' w (cut r l h)) bl else none
  | some (.slice e), .slice id p s len w => if szOK C.P e w = true then boundsK lo hi len fun l h => K .pure (.slice id p (s + l) (span len l h) w) bl else none
  | some (.slice e), .own id w => if szOK C.P e w = true then (match bget bl id with
    | some (.ints _ r) => boundsK lo hi r.length fun l h => K .read (pieceOf id w r.length l h) bl
    | some (.objs _ _ r) => boundsK lo hi r.length fun l h => K .read (pieceOf id w r.length l h) bl
    | _ => none) else none
  | some (.array n e), .rptr (.ints k m r) => if (m == n && szOK C.P e 1) = true then boundsK lo hi n fun l h => K .pure (.rints k (cut r l h)) bl else none
  | some (.array n e), .ptr id p => match bget bl id with
    | some (.var v) => match getPath v p with
      | some (.ints _ m _) => if (m == n && szOK C.P e 1) = true then boundsK lo hi n fun l h => K .read (.slice id p l (span n l h) 1) bl else none
      | _ => none
    | _ => none
  | _, _ => none
def fieldAddrK (t : TypeId) (x : AV) (f : Nat) (bl : Blks) (K : Cat → AV → Blks → Option R) : Option R :=
  match x with
  | .rptr (.agg kids) => match kids[f]?, C.P.underlying t with
    | some y, some (.struct fs) => match fs[f]? with
      | some a => if (conf C.P 8 t (.agg kids) && decide (sizeQ C.P a.type ≠ 0)) = true then K .pure (.rptr y) bl else none
      | none => none
    | _, _ => none
  | .ptr id path => match bget bl id with
    | some b => match C.P.underlying t with
      | some (.struct fs) => match fs[f]? with
        | some a => decB C b path fun y => if (conf C.P 8 t y && decide (sizeQ C.P a.type ≠ 0)) = true then K .read (.ptr id (path ++ [f])) bl else none
        | none => none
      | _ => none
    | none => none
  | _ => none
def indexAddrK (t : TypeId) (x ix : AV) (bl : Blks) (K : Cat → AV → Blks → Option R) : Option R :=
  match ix with
  | .int _ i => match C.P.underlying t, x with
    | some (.slice e), .rints k l => if szOK C.P e 1 = true then (if 0 ≤ i then (if i < (l.length : Int) then K .pure (.rptr (.int k (l.getD i.toNat 0))) bl else none) else none) else none
    | some (.slice e), .robjs _ w l => if szOK C.P e w = true then (if 0 ≤ i then (if i < (l.length : Int) then decK C.P 8 e (l.getD i.toNat .any) fun y => K .pure (.rptr y) bl else none) else none) else none
    | some (.slice e), .own id w => if szOK C.P e w = true then (match bget bl id with
      | some (.ints _ l) => if 0 ≤ i then (if i < (l.length : Int) then K .read (.ptr id [i.toNat]) bl else none) else none
      | some (.objs _ _ l) => if 0 ≤ i then (if i < (l.length : Int) then K .read (.ptr id [i.toNat]) bl else none) else none
      | _ => none) else none
    | some (.slice e), .slice id p s len w => if szOK C.P e w = true then (if 0 ≤ i then (if i < (len : Int) then K .pure (.ptr id (p ++ [s + i.toNat])) bl else none) else none) else none
    | some (.array n e), .rptr (.ints k m l) => if (m == n && szOK C.P e 1) = true then (if 0 ≤ i then (if i < (n : Int) then K .pure (.rptr (.int k (l.getD i.toNat 0))) bl else none) else none) else none
    | some (.array n e), .rptr (.agg kids) => if (kids.length == n && conf C.P 8 t (.agg kids)) = true then (if 0 ≤ i then (if i < (n : Int) then K .pure (.rptr (kids.getD i.toNat .any)) bl else none) else none) else none
    | some (.array n _), .ptr id p => match bget bl id with
      | some b => decB C b p fun y => if conf C.P 8 t y = true then (if 0 ≤ i then (if i < (n : Int) then K .read (.ptr id (p ++ [i.toNat])) bl else none) else none) else none
      | none => none
    | _, _ => none
  | _ => none
def fieldK (t : TypeId) (x : AV) (f : Nat) (K : AV → Option R) : Option R :=
  match x with
  | .agg kids => match kids[f]?, C.P.underlying t with
    | some y, some (.struct fs) => match fs[f]? with
      | some _ => if conf C.P 8 t (.agg kids) = true then K y else none
      | none => none
    | _, _ => none
  | _ => none
def indexK (t : TypeId) (x ix : AV) (K : AV → Option R) : Option R :=
  match ix with
  | .int _ i => match C.P.underlying t, x with
    | some (.array n _), .ints k m l => if conf C.P 8 t (.ints k m l) = true then (if 0 ≤ i then (if i < (n : Int) then K (.int k (l.getD i.toNat 0)) else none) else none) else none
    | some (.array n _), .agg kids => if conf C.P 8 t (.agg kids) = true then (if 0 ≤ i then (if i < (n : Int) then K (kids.getD i.toNat .any) else none) else none) else none
    | some .string, .str s => if 0 ≤ i then (if i < (s.size : Int) then K (.int .u8 ((bytesOf s).getD i.toNat 0)) else none) else none
    | _, _ => none
  | _ => none
def fillK : AV → List (Nat × AV) → Option AV
  | x, [] => some x
  | .agg kids, (i, y) :: r => match kids[i]? with
    | some z => if shapeEq z y = true then fillK (.agg (kids.set i y)) r else none
    | none => none
  | .ints k n l, (i, .int k' y) :: r => if k = k' then (if i < n then fillK (.ints k n (l.set i y)) r else none) else none
  | _, _ => none
def fillInts (k : IntKind) : List Int → List (Nat × AV) → Option (List Int)
  | l, [] => some l
  | l, (i, .int k' y) :: r => if k = k' then (if i < l.length then fillInts k (l.set i y) r else none) else none
  | _, _ => none
def fillObjs : List AV → List (Nat × AV) → Option (List AV)
  | l, [] => some l
  | l, (i, y) :: r => match l[i]? with
    | some z => if (shapeEq z y && noOwn y && solid y) = true then fillObjs (l.set i y) r else none
    | none => none
def solidParts (ps : List (Nat × AV)) : Bool := ps.all fun p => match p.2 with | .any | .tup _ => false | _ => true
def isComp : AV → Bool
  | .agg _ | .ints _ _ _ => true
  | _ => false
def buildK (t : TypeId) (ps : List (Nat × AV)) (K : AV → Option R) : Option R :=
  match zeroOf C.P t with
  | some z => if (solidParts ps && conf C.P 8 t z && isComp z && decide (width z ≠ 0)) = true then (match fillK z ps with | some x => K x | none => none) else none
  | none => none
def buildSliceK (t : TypeId) (len : Nat) (ps : List (Nat × AV)) (bl : Blks) (K : Cat → AV → Blks → Option R) : Option R :=
  match C.P.underlying t with
  | some (.slice e) =>
    if (decide (len * sizeQ C.P e ≤ 16777216) && solidParts ps) = true then
      (match zeroOf C.P e with
       | some (.int k z) => if szOK C.P e 1 = true then (match fillInts k (List.replicate len z) ps with
         | some l => K .write (.own bl.length 1) (bl ++ [some (.ints k l)])
         | none => none) else none
       | some z => if (noOwn z && solid z && conf C.P 8 e z && decide (sizeQ C.P e ≠ 0)) = true then (match fillObjs (List.replicate len z) ps with
         | some l => K .write (.own bl.length (sizeQ C.P e)) (bl ++ [some (.objs e (sizeQ C.P e) l)])
         | none => none) else none
       | none => none)
    else none
  | _ => none
def buildSliceB (t : TypeId) (len : Nat) (ps : List (Nat × AV)) : Option (Nat × Blk) :=
  match C.P.underlying t with
  | some (.slice e) =>
    if (decide (len * sizeQ C.P e ≤ 16777216) && solidParts ps) = true then
      (match zeroOf C.P e with
       | some (.int k z) => if szOK C.P e 1 = true then (match fillInts k (List.replicate len z) ps with
         | some l => some (1, .ints k l)
         | none => none) else none
       | some z => if (noOwn z && solid z && conf C.P 8 e z && decide (sizeQ C.P e ≠ 0)) = true then (match fillObjs (List.replicate len z) ps with
         | some l => some (sizeQ C.P e, .objs e (sizeQ C.P e) l)
         | none => none) else none
       | none => none)
    else none
  | _ => none
def viewPs (bl : Blks) : List (Nat × AV) → Option (List (Nat × AV))
  | [] => some []
  | p :: r => match view bl p.2, viewPs bl r with | some y, some l => some ((p.1, y) :: l) | _, _ => none
def killAll : List Nat → Blks → Blks
  | [], bl => bl
  | i :: r, bl => killAll r (bl.set i none)
def callF (g : FuncId) (args : List AV) (bl : Blks) (K : Cat → AV → Blks → Option R) : Option R :=
  match C.ro (1000000 + g) with
  | true => match views bl args with
    | some xs => callK C g xs (killAll (idss args) bl) fun _ v bl' => K .write v bl'
    | none => none
  | false => match C.ro (2000000 + g) with
    | true => callK C g args bl fun _ v bl' => match view bl' v with
      | some y => if ((ids v).all fun i => decide (bl.length ≤ i)) = true then K .write y (killAll (ids v) bl') else none
      | none => none
    | false => callK C g args bl K
def buildSliceF (t : TypeId) (len : Nat) (ps : List (Nat × AV)) (bl : Blks) (K : Cat → AV → Blks → Option R) : Option R :=
  match idss (ps.map (·.2)) with
  | [] => match buildSliceB C t len ps with
    | some (_, .objs e w l) => K .pure (.robjs e w l) bl
    | some (_, .ints k l) => if C.ro (5000000 + t) = true then K .write (.rints k l) (bl ++ [none]) else buildSliceK C t len ps bl K
    | _ => buildSliceK C t len ps bl K
  | i :: r => match viewPs bl ps with
    | some ps' => match buildSliceB C t len ps' with
      | some (_, .objs e w l) => K .write (.robjs e w l) (killAll (i :: r) bl ++ [none])
      | _ => none
    | none => none
def makeSliceK (t : TypeId) (l c : AV) (bl : Blks) (K : Cat → AV → Blks → Option R) : Option R :=
  match C.P.underlying t, l, c with
  | some (.slice e), .int _ n, .int _ m =>
    if 0 ≤ n then (if n ≤ m then (if m * (bytesQ C.P e : Int) ≤ 140737488355328 then (if m ≤ 1152921504606846976 then
      (match zeroOf C.P e with
       | some (.int k z) => if szOK C.P e 1 = true then K .write (.own bl.length 1) (bl ++ [some (.ints k (List.replicate n.toNat z))]) else none
       | some z => if (noOwn z && solid z && conf C.P 8 e z && decide (sizeQ C.P e ≠ 0)) = true then K .write (.own bl.length (sizeQ C.P e)) (bl ++ [some (.objs e (sizeQ C.P e) (List.replicate n.toNat z))]) else none
       | none => none) else none) else none) else none) else none
  | _, _, _ => none
inductive Els where
  | ints (k : IntKind) (l : List Int)
  | objs (e w : Nat) (l : List AV)
def elsOf (bl : Blks) : AV → Option Els
  | .str s => some (.ints .u8 (bytesOf s))
  | .rints k l => some (.ints k l)
  | .robjs e w l => some (.objs e w l)
  | .own id _ => match bget bl id with
    | some (.ints k l) => some (.ints k l)
    | some (.objs e w l) => some (.objs e w l)
    | _ => none
  | .slice id path s len _ => match bget bl id, path with
    | some (.ints k l), [] => some (.ints k ((l.drop s).take len))
    | some (.objs e w l), [] => some (.objs e w ((l.drop s).take len))
    | some (.var v), p => match getPath v p with
      | some (.ints k _ l) => some (.ints k ((l.drop s).take len))
      | _ => none
    | _, _ => none
  | _ => none
def appendNilK (e : TypeId) (x : AV) (bl : Blks) (K : Cat → AV → Blks → Option R) : Option R :=
  match elsOf bl x with
  | some (.ints k r) => if (decide (kindOf C.P e = some k) && szOK C.P e 1) = true then (if r.length * bytesQ C.P e ≤ 70368744177664 ∧ r.length ≤ 9223372036854775807 then K .write (.own bl.length 1) (bl ++ [some (.ints k r)]) else none) else none
  | some (.objs e' w r) => if (e' == e && szOK C.P e w) = true then (if r.length * bytesQ C.P e ≤ 70368744177664 ∧ r.length ≤ 9223372036854775807 then K .write (.own bl.length w) (bl ++ [some (.objs e w r)]) else none) else none
  | none => none
def appendOwnK (e id w : Nat) (x : AV) (bl : Blks) (K : Cat → AV → Blks → Option R) : Option R :=
  match elsOf bl x, bget bl id with
  | some (.ints k r), some (.ints k' l) =>
    if (decide (kindOf C.P e = some k) && decide (k = k') && szOK C.P e 1 && w == 1) = true then
      (if (l.length + r.length) * bytesQ C.P e ≤ 70368744177664 ∧ l.length + r.length ≤ 9223372036854775807 then K .write (.own bl.length 1) (bl.set id none ++ [some (.ints k (l ++ r))]) else none) else none
  | some (.objs e1 w1 r), some (.objs e2 w2 l) =>
    if (e1 == e && e2 == e && w1 == w && w2 == w && szOK C.P e w) = true then
      (if (l.length + r.length) * bytesQ C.P e ≤ 70368744177664 ∧ l.length + r.length ≤ 9223372036854775807 then K .write (.own bl.length w) (bl.set id none ++ [some (.objs e w (l ++ r))]) else none) else none
  | _, _ => none
def appendZK (e : TypeId) (s : AV) (n : Int) (bl : Blks) (K : Cat → AV → Blks → Option R) : Option R :=
  if 0 ≤ n then
    (match zeroOf C.P e with
     | some (.int k z) => (match s with
       | .snil => appendNilK C e (.rints k (List.replicate n.toNat z)) bl K
       | .own id w => appendOwnK C e id w (.rints k (List.replicate n.toNat z)) bl K
       | _ => none)
     | _ => none)
  else none
def srcTyB (P : Program) (tx : TypeId) : Bool := match P.underlying tx with | some (.slice _) | some .string => true | _ => false
def appendK (t tx : TypeId) (s x : AV) (bl : Blks) (K : Cat → AV → Blks → Option R) : Option R :=
  match C.P.underlying t with
  | some (.slice e) =>
    if srcTyB C.P tx = true then
      (match s with
       | .snil => match x with
         | .snil => if szOK C.P e (sizeQ C.P e) = true then K .pure .snil bl else none
         | x => appendNilK C e x bl K
       | .own id w => match x with
         | .snil => if szOK C.P e w = true then K .pure (.own id w) bl else none
         | x => appendOwnK C e id w x bl K
       | _ => none)
    else (match C.P.underlying tx, x with
      | some (.int _), .int .i64 n => appendZK C e s n bl K
      | _, _ => none)
  | _ => none
def lenK (t : TypeId) (x : AV) (bl : Blks) (K : Cat → AV → Blks → Option R) : Option R :=
  match C.P.underlying t, x with
  | some .string, .str s => K .pure (.int .i64 s.size) bl
  | some (.slice _), .snil => K .pure (.int .i64 0) bl
  | some (.slice _), .rints _ l => K .pure (.int .i64 l.length) bl
  | some (.slice _), .robjs _ _ l => K .pure (.int .i64 l.length) bl
  | some (.slice _), .slice _ _ _ n _ => K .pure (.int .i64 n) bl
  | some (.slice _), .own id _ => match bget bl id with
    | some (.ints _ l) => K .read (.int .i64 l.length) bl
    | some (.objs _ _ l) => K .read (.int .i64 l.length) bl
    | _ => none
  | some (.array n _), _ => K .pure (.int .i64 n) bl
  | _, _ => none
def capK (t : TypeId) (x : AV) (bl : Blks) (K : Cat → AV → Blks → Option R) : Option R :=
  match C.P.underlying t, x with
  | some (.slice _), .snil => K .pure (.int .i64 0) bl
  | _, _ => none
def copyK (t : TypeId) (d x : AV) (bl : Blks) (K : Cat → AV → Blks → Option R) : Option R :=
  match C.P.underlying t with
  | some (.slice e) => if szOK C.P e 1 = true then
    (match elsOf bl x, d with
     | some (.ints k r), .own id _ => match bget bl id with
       | some (.ints k' l) => if k = k' then K .write (.int .i64 (min r.length l.length : Nat)) (bl.set id (some (.ints k (r.take l.length ++ l.drop r.length)))) else none
       | _ => none
     | some (.ints k r), .slice id path st n _ => match bget bl id, path with
       | some (.var (.ints k' m l)), [] => if k = k' then K .write (.int .i64 (min r.length n : Nat)) (bl.set id (some (.var (.ints k m (l.take st ++ (r.take n ++ l.drop (st + min r.length n))))))) else none
       | _, _ => none
     | _, _ => none) else none
  | _ => none
def maxFrom (k : IntKind) : Int → List AV → (AV → Option R) → Option R
  | a, [], K => K (.int k a)
  | a, x :: r, K => match x with
    | .int k' b => if k = k' then maxFrom k (if b > a then b else a) r K else none
    | _ => none
def maxK : List AV → (AV → Option R) → Option R
  | .int k a :: r, K => maxFrom k a r K
  | _, _ => none
def minFrom (k : IntKind) : Int → List AV → (AV → Option R) → Option R
  | a, [], K => K (.int k a)
  | a, x :: r, K => match x with
    | .int k' b => if k = k' then minFrom k (if b < a then b else a) r K else none
    | _ => none
def minK : List AV → (AV → Option R) → Option R
  | .int k a :: r, K => minFrom k a r K
  | _, _ => none
def convOwnK (s d : TypeId) (x : AV) (bl : Blks) (K : Cat → AV → Blks → Option R) : Option R :=
  match C.P.underlying s, C.P.underlying d with
  | some (.slice e), some .string => if kindOf C.P e = some .u8 then
    (match elsOf bl x with
     | some (.ints k l) => if k = .u8 then K .read (.str (strOf l)) bl else none
     | _ => none) else none
  | _, _ => none
def convK (s d : TypeId) (x : AV) (bl : Blks) (K : Cat → AV → Blks → Option R) : Option R :=
  match x with
  | .int _ n => match C.P.underlying s, C.P.underlying d with
    | some _, some (.int k) => K .pure (.int k (k.wrap n)) bl
    | _, _ => none
  | .str t => match C.P.underlying s, C.P.underlying d with
    | some .string, some .string => K .pure (.str t) bl
    | some .string, some (.slice e) => if (decide (kindOf C.P e = some .u8) && szOK C.P e 1) = true then K .write (.own bl.length 1) (bl ++ [some (.ints .u8 (bytesOf t))]) else none
    | _, _ => none
  | .snil => match C.P.underlying s, C.P.underlying d with
    | some (.slice e), some .string => if kindOf C.P e = some .u8 then K .pure (.str ByteArray.empty) bl else none
    | _, _ => none
  | .rints k l => match C.P.underlying s, C.P.underlying d with
    | some (.slice e), some .string => if kindOf C.P e = some .u8 then (if k = .u8 then K .pure (.str (strOf l)) bl else none) else none
    | _, _ => none
  | .own id w => convOwnK C s d (.own id w) bl K
  | .slice id p a n w => convOwnK C s d (.slice id p a n w) bl K
  | _ => none
def arrayPtrK (t : TypeId) (x : AV) (bl : Blks) (K : Cat → AV → Blks → Option R) : Option R :=
  match C.P.underlying t, x with
  | some (.array n _), .rints k l => if n ≤ l.length then (if n ≠ 0 then K .pure (.rptr (.ints k n (l.take n))) bl else none) else none
  | some (.array n _), .slice id p s len w => if w = 1 then (if n ≤ len then (if n ≠ 0 then K .pure (.aptr id p s n) bl else none) else none) else none
  | some (.array n _), .own id w => if w = 1 then (match bget bl id with
    | some (.ints _ l) => if n ≤ l.length then (if n ≠ 0 then K .read (.aptr id [] 0 n) bl else none) else none
    | _ => none) else none
  | _, _ => none
def eqK (t : TypeId) (x y : AV) (K : Bool → Option R) : Option R :=
  if (eqTy C.P 8 t && conf C.P 8 t x && conf C.P 8 t y && !C.P.eqGuardType C.P.depth t) = true then
    (match eqAV x y with | some b => K b | none => none) else none
def lookK (t : TypeId) (m k : AV) (ok : Bool) (K : AV → Option R) : Option R :=
  match C.P.underlying t, m, k with
  | some (.map kt et), .emap, .ints kk n l => match C.P.underlying kt with
    | some (.array _ _) => if conf C.P 8 kt (.ints kk n l) = true then (match zeroOf C.P et with | some z => if ok = true then K (.tup [z, .bool false]) else K z | none => none) else none
    | _ => none
  | _, _, _ => none
def wrapK (t : TypeId) (x : AV) (bl : Blks) (K : Cat → AV → Blks → Option R) : Option R :=
  match C.ro (4000000 + t) with
  | false => K .pure (.iface t x) bl
  | true => match x with
    | .ptr id [] => match bget bl id with
      | some (.var (.agg [.int _ _, .errv tF ts k])) => if tF = t then K .write (.errv tF ts (k % 100 + 100)) (killAll [id] bl) else none
      | _ => none
    | _ => none
def opK (o : Oper) (ev : Operand → AV) (bl : Blks) (K : Cat → AV → Blks → Option R) : Option R :=
  match o.op with
  | .move x | .assign x => K .pure (ev x) bl
  | .pick c a b => match ev c with
    | .bool t => if t = true then K .pure (ev a) bl else K .pure (ev b) bl
    | _ => none
  | .alloc t => match zeroOf C.P t with
    | some z => K .write (.ptr bl.length []) (bl ++ [some (.var z)])
    | none => none
  | .box t x => match isRo C t (ev x) with
    | true => K .pure (.rptr (ev x)) bl
    | false => match ev x with
      | .any => none
      | .tup _ => none
      | v => K .write (.ptr bl.length []) (bl ++ [some (.var v)])
  | .build t ps => buildK C t (ps.toList.map fun p => (p.1, ev p.2)) fun v => K .pure v bl
  | .buildSlice t n ps => buildSliceF C t n (ps.toList.map fun p => (p.1, ev p.2)) bl K
  | .load t a => loadK C t (ev a) bl K
  | .store t a x => storeK C t (ev a) (ev x) bl K
  | .nilCheck x => match ev x with
    | .ptr id p => K .pure (.ptr id p) bl
    | .rptr v => K .pure (.rptr v) bl
    | .fn (.func f) a b => K .pure (.fn (.func f) a b) bl
    | _ => none
  | .binOp op t x y _ => match op, ev x, ev y with
    | .eql, .ints k n l, .ints k' n' r => eqK C t (.ints k n l) (.ints k' n' r) fun b => K .pure (.bool b) bl
    | .neq, .ints k n l, .ints k' n' r => eqK C t (.ints k n l) (.ints k' n' r) fun b => K .pure (.bool !b) bl
    | .eql, .agg l, .agg r => eqK C t (.agg l) (.agg r) fun b => K .pure (.bool b) bl
    | .neq, .agg l, .agg r => eqK C t (.agg l) (.agg r) fun b => K .pure (.bool !b) bl
    | .eql, .bool a, .bool b => eqK C t (.bool a) (.bool b) fun b => K .pure (.bool b) bl
    | .neq, .bool a, .bool b => eqK C t (.bool a) (.bool b) fun b => K .pure (.bool !b) bl
    | .eql, .nili, .nili => match C.P.underlying t, y with
      | some (.interface _), .const .nilIface => K .pure (.bool true) bl
      | _, _ => none
    | .neq, .nili, .nili => match C.P.underlying t, y with
      | some (.interface _), .const .nilIface => K .pure (.bool false) bl
      | _, _ => none
    | .eql, .iface _ _, .nili => match C.P.underlying t, y with
      | some (.interface _), .const .nilIface => K .pure (.bool false) bl
      | _, _ => none
    | .neq, .iface _ _, .nili => match C.P.underlying t, y with
      | some (.interface _), .const .nilIface => K .pure (.bool true) bl
      | _, _ => none
    | .eql, .errv _ _ _, .nili => match C.P.underlying t, y with
      | some (.interface _), .const .nilIface => K .pure (.bool false) bl
      | _, _ => none
    | .neq, .errv _ _ _, .nili => match C.P.underlying t, y with
      | some (.interface _), .const .nilIface => K .pure (.bool true) bl
      | _, _ => none
    | op, a, b => binK op a b fun v => K .pure v bl
  | .unOp op _ x => unK op (ev x) fun v => K .pure v bl
  | .convert s d x => convK C s d (ev x) bl K
  | .sliceToArrayPointer t x => arrayPtrK C t (ev x) bl K
  | .makeInterface t x => match C.P.underlying t with
    | some (.interface _) => none
    | some _ => wrapK C t (ev x) bl K
    | none => none
  | .makeFunc f a b => K .pure (.fn f (a.toList.map ev) (b.toList.map ev)) bl
  | .makeSlice t l c => makeSliceK C t (ev l) (ev c) bl K
  | .slice t x lo hi none => sliceK C t (ev x) (lo.map ev) (hi.map ev) bl K
  | .fieldAddr t x f => fieldAddrK C t (ev x) f bl K
  | .field t x f => fieldK C t (ev x) f fun v => K .pure v bl
  | .indexAddr t x i => indexAddrK C t (ev x) (ev i) bl K
  | .index t x i => indexK C t (ev x) (ev i) fun v => K .pure v bl
  | .makeMap _ none => K .pure .emap bl
  | .lookup t m k ok => lookK C t (ev m) (ev k) ok fun v => K .pure v bl
  | .extract t i => match ev t with
    | .tup vs => match vs[i]? with | some v => K .pure v bl | none => none
    | _ => none
  | .call c => match c.callee with
    | .value f => match ev f with
      | .fn (.func g) a b => callF C g (a ++ c.args.toList.map ev ++ b) bl K
      | _ => none
    | .builtin b => match b, c.argTypes.toList, c.args.toList.map ev with
      | .len, t :: _, [x] => lenK C t x bl K
      | .append, [t, tx], [s, x] => appendK C t tx s x bl K
      | .cap, t :: _, [x] => capK C t x bl K
      | .copy, t :: _, [d, x] => copyK C t d x bl K
      | .max, _, l => maxK l fun v => K .pure v bl
      | .min, _, l => minK l fun v => K .pure v bl
      | _, _, _ => none
    | _ => none
  | _ => none
inductive RC where
  | pure | read | write
  | readAt (id : Nat)
  | storeAt (id : Nat)
  | alloc (id : Nat)
def RC.free : RC → RC → Bool
  | .pure, _ | _, .pure => true
  | .read, .read | .read, .readAt _ | .readAt _, .read | .readAt _, .readAt _ => true
  | .readAt i, .storeAt j | .storeAt i, .readAt j | .storeAt i, .storeAt j => i != j
  | .readAt i, .alloc j | .alloc j, .readAt i | .storeAt i, .alloc j | .alloc j, .storeAt i => decide (i < j)
  | _, _ => false
def atOf : AV → RC
  | .ptr id _ => .readAt id
  | .aptr id _ _ _ => .readAt id
  | .own id _ => .readAt id
  | .slice id _ _ _ _ => .readAt id
  | _ => .read
def isAl : Op → Bool
  | .alloc _ | .box _ _ => true
  | _ => false
def nAl : List Oper → Nat
  | [] => 0
  | o :: r => match isAl o.op with | true => nAl r + 1 | false => nAl r
def nBs : List Oper → Nat
  | [] => 0
  | o :: r => match o.op with | .buildSlice _ _ _ => nBs r + 1 | _ => nBs r
def padN (draw : Bool) (ops : Array Oper) : Nat :=
  match draw with
  | true => match nAl ops.toList with | 0 => 0 | 1 => (match nBs ops.toList with | 0 => 0 | _ => 1) | n => n
  | false => 0
def padB : Nat → Blks → Blks
  | 0, bl => bl
  | n + 1, bl => padB n (bl ++ [some .free])
def padR (n k : Nat) : Option Nat := match n with | 0 => none | _ => some k
def nextR (rs : Option Nat) (o : Op) : Option Nat := match rs with | none => none | some id => match isAl o with | true => some (id + 1) | false => some id
def keptK (id : Nat) (v : AV) (bl : Blks) (K : Cat → AV → Blks → Option R) : Option R :=
  match bget bl id with
  | some .free => K .write (.ptr id []) (bl.set id (some (.var v)))
  | _ => none
def opA (rs : Option Nat) (o : Oper) (ev : Operand → AV) (bl : Blks) (K : Cat → AV → Blks → Option R) : Option R :=
  match rs with
  | none => opK C o ev bl K
  | some id => match o.op with
    | .alloc t => match zeroOf C.P t with
      | some z => keptK id z bl K
      | none => none
    | .box t x => match isRo C t (ev x) with
      | true => K .pure (.rptr (ev x)) bl
      | false => match ev x with
        | .any => none
        | .tup _ => none
        | v => keptK id v bl K
    | _ => opK C o ev bl K
def callCat (n : Nat) (f : AV) (args : List AV) : RC :=
  match f with
  | .fn (.func g) a b => match C.Γ g with
    | some m => match !C.ro (1000000 + g) && ((lentIds m.lend (a ++ args ++ b)).isEmpty && noOwns (a ++ args ++ b)) with
      | true => .alloc n
      | false => .write
    | none => .write
  | _ => .write
def callLook (f : AV) (args : List AV) : RC :=
  match f with
  | .fn (.func g) a b => match C.Γ g with
    | some m => match lentIds m.lend (a ++ args ++ b), idss (a ++ args ++ b) with
      | [], [id] => .readAt id
      | _, _ => .read
    | none => .read
  | _ => .read
def fine (rs : Option Nat) (o : Op) (ev : Operand → AV) (n : Nat) : Cat → RC
  | .pure => .pure
  | .read => match o with
    | .load _ a => atOf (ev a)
    | .fieldAddr _ x _ => atOf (ev x)
    | .indexAddr _ x _ => atOf (ev x)
    | .slice _ x _ _ _ => atOf (ev x)
    | .sliceToArrayPointer _ x => atOf (ev x)
    | .convert _ _ x => atOf (ev x)
    | .call c => match c.callee with
      | .builtin .len => match c.args.toList with | [x] => atOf (ev x) | _ => .read
      | .value f => callLook C (ev f) (c.args.toList.map ev)
      | _ => .read
    | _ => .read
  | .write => match o with
    | .store _ a _ => match ev a with | .ptr id _ => .storeAt id | _ => .write
    | .buildSlice _ _ ps => match idss ((ps.toList.map fun p => (p.1, ev p.2)).map (·.2)) with | [] => .alloc n | _ :: _ => .write
    | .alloc _ => match rs with | some id => .storeAt id | none => .alloc n
    | .box _ _ => match rs with | some id => .storeAt id | none => .alloc n
    | .call c => match c.callee with
      | .value f => callCat C n (ev f) (c.args.toList.map ev)
      | _ => .write
    | _ => .write
def put (tm : List AV) (d : Option Nat) (v : AV) : List AV := match d with | some d => tm.set d v | none => tm
def guardK (ops : Array Oper) (o : Oper) (tm : List AV) (K : Bool → List AV → Option R) : Option R :=
  match o.guard with
  | none => K true tm
  | some (j, want) => match (ops[j]?).bind (·.dst) with
    | some d => match tm.getD d .any with
      | .bool b => if b = true then K (want == true) (tm.set d (.bool true)) else K (want == false) (tm.set d (.bool false))
      | .tup [] => K false tm
      | _ => none
    | none => none
def opsK (ops : Array Oper) : Option Nat → List Oper → List AV → Blks → List RC → (List RC → List AV → Blks → Option R) → Option R
  | _, [], tm, bl, cs, K => K cs.reverse tm bl
  | rs, o :: r, tm, bl, cs, K => guardK ops o tm fun yes tm =>
    if yes = true then opA C rs o (get C tm) bl fun c v bl' => opsK ops (nextR rs o.op) r (put tm o.dst v) bl' (fine C rs o.op (get C tm) bl.length c :: cs) K
    else opsK ops (nextR rs o.op) r (put tm o.dst (.tup [])) bl (.pure :: cs) K
def orderOK (ops : Array Oper) (cs : List RC) : Bool :=
  let b := CheckFast.beforeF ops
  let cm := cs.toArray
  let ord (i j : Nat) : Bool := (b.getD j 0).testBit i
  (List.range ops.size).all fun j =>
    ((ops.getD j default).after.all fun e => !Region.binds .any e || decide (e.on < j)) &&
    (List.range j).all fun i =>
      ((cm.getD i .write).free (cm.getD j .write) || ord i j) &&
      (ord i j || (ops.getD i default).apart ops (ops.getD j default))
inductive Ex where
  | normal | exit (id : Nat) | ret
structure St where
  tm : List AV
  bl : Blks
def normOf (order : List Nat) (live : List Nat) (st : St) : St :=
  { tm := live.map fun s => ren (pos order) (st.tm.getD s .any)
    bl := order.map fun i => (bget st.bl i).map (renB (pos order)) }
def orderOf (lent : Nat) (live : List Nat) (st : St) : List Nat := reach st.bl 60 (List.range lent ++ live.flatMap fun s => ids (st.tm.getD s .any)) []
def norm {R : Type} (len lent : Nat) (live : List Nat) (st : St) (k : St → Option R) : Option R :=
  if (st.tm.length == len && (orderOf lent live st).take lent == List.range lent) = true then k (normOf (orderOf lent live st) live st) else none
inductive NK where
  | ints (k : IntKind)
  | objs (e w : Nat)
  | agg (l : List (Option NK))
def NK.blk : NK → Blk
  | .ints k => .ints k []
  | .objs e w => .objs e w []
  | .agg _ => .ints .u8 []
def NK.w : NK → Nat
  | .ints _ => 1
  | .objs _ w => w
  | .agg _ => 1
def NK.r : NK → AV
  | .ints k => .rints k []
  | .objs e w => .robjs e w []
  | .agg _ => .rints .u8 []
def ghostAt (k : NK) (id : Nat) (p : List Nat) (bl : Blks) : Blks :=
  match bget bl id with
  | some (.var v) => match getPath v p with
    | some .snil => match setB (.var v) p (.own bl.length k.w) with
      | some b' => (bl ++ [some k.blk]).set id (some b')
      | none => bl
    | _ => bl
  | _ => bl
def ghostV (k : NK) (id : Nat) : List (List Nat) → Blks → Blks
  | [], bl => bl
  | p :: r, bl => ghostV k id r (ghostAt k id p bl)
def ghost (p : Nat × NK) (st : St) : St :=
  match st.tm.getD p.1 .any with
  | .snil => ⟨st.tm.set p.1 (.own st.bl.length p.2.w), st.bl ++ [some p.2.blk]⟩
  | .ptr id [] => ⟨st.tm, ghostV p.2 id [[], [0], [1], [2], [3]] st.bl⟩
  | _ => st
def ghosts : List (Nat × NK) → St → St
  | [], st => st
  | p :: r, st => ghosts r (ghost p st)
def frz1 (s : Nat) (st : St) : St := match view st.bl (st.tm.getD s .any) with
  | some y => ⟨st.tm.set s y, killAll (ids (st.tm.getD s .any)) st.bl⟩
  | none => st
def frzL : List Nat → St → St
  | [], st => st
  | s :: r, st => frzL r (frz1 s st)
def frzS (C : Ctx) (id : Nat) (st : St) : St := match C.ro (3000000 + id * 1000) with
  | true => frzL ((List.range 100).filter fun s => C.ro (3000001 + id * 1000 + s)) st
  | false => st
def splitV {R : Type} (s : Nat) (st : St) (K : St → Option R) : Option R :=
  match st.tm.getD s .any with
  | .int k n => if n = 1 then K ⟨st.tm.set s (.int k 1), st.bl⟩ else (if n = 2 then K ⟨st.tm.set s (.int k 2), st.bl⟩ else (if n = 3 then K ⟨st.tm.set s (.int k 3), st.bl⟩ else none))
  | _ => none
def splitS {R : Type} (C : Ctx) (id : Nat) (st : St) (K : St → Option R) : Option R := match C.ro (6000000 + id * 1000) with
  | true => splitV (((List.range 100).filter fun s => C.ro (6000001 + id * 1000 + s)).headD 0) st K
  | false => K st
def ghostL : List (Option NK) → List AV → Blks → List AV × Blks
  | some k :: r, .snil :: l, bl => (.own bl.length k.w :: (ghostL r l (bl ++ [some k.blk])).1, (ghostL r l (bl ++ [some k.blk])).2)
  | _ :: r, x :: l, bl => (x :: (ghostL r l bl).1, (ghostL r l bl).2)
  | [], l, bl => (l, bl)
  | _, [], bl => ([], bl)
def partL (q : List Int) : Nat → Nat → List Int
  | 0, len => q.take len
  | s + 1, len => (q.drop (s + 1)).take len
def tookP (bl : Blks) : AV → Option (Nat × IntKind × List Int)
  | .slice id [] s len _ => match bget bl id with
    | some (.ints k q) => some (id, k, partL q s len)
    | _ => none
  | _ => none
def tookL : List AV → Blks → List AV × Blks
  | x :: l, bl => match tookP bl x with
    | some p => (.own bl.length 1 :: (tookL l (bl.set p.1 none ++ [some (.ints p.2.1 p.2.2)])).1, (tookL l (bl.set p.1 none ++ [some (.ints p.2.1 p.2.2)])).2)
    | none => (x :: (tookL l bl).1, (tookL l bl).2)
  | [], bl => ([], bl)
def renewB (id : Nat) (bl : Blks) : Blks := match bget bl id with
  | some (.var (.own j 1)) => match bget bl j with
    | some (.ints k l) => (bl.set j none ++ [some (Blk.ints k l)]).set id (some (Blk.var (.own bl.length 1)))
    | _ => bl
  | _ => bl
def renewR (ks : List (Option NK)) (bl : Blks) : Blks := match ks with
  | [some (.agg [])] => renewB 0 bl
  | _ => bl
def ghostR (ks : List (Option NK)) (l : List AV) (bl : Blks) : List AV × Blks := ((ghostL ks (tookL l bl).1 (tookL l bl).2).1, renewR ks (ghostL ks (tookL l bl).1 (tookL l bl).2).2)
mutual
def deepK : NK → AV → AV
  | .agg l, x => match x with | .agg kids => .agg (ghostA l kids) | x => x
  | .ints k, x => match x with | .snil => .rints k [] | x => x
  | .objs e w, x => match x with | .snil => .robjs e w [] | x => x
def deepA : Option NK → AV → AV
  | some k, x => deepK k x
  | none, x => x
def ghostA : List (Option NK) → List AV → List AV
  | k :: r, l => match l with | x :: l => deepA k x :: ghostA r l | [] => []
  | [], l => l
end
def slotOf : List Nat → List AV → Nat → AV
  | s :: r, v :: vs, t => if s = t then v else slotOf r vs t
  | _, _, _ => .any
def spread (len : Nat) (live : List Nat) (st : St) : St := ⟨(List.range len).map (slotOf live st.tm), st.bl⟩
def key : Code → Nat
  | .region id _ _ => id
  | .seq a _ => key a
  | .cond _ a _ => key a
  | .block _ b => key b
  | .loop b => key b
  | .scope b => key b
  | _ => 0
def jkey : Code → Nat
  | .seq (.region id _ _) (.cond _ _ _) => id
  | .block id _ => 10000 + id
  | .region id _ _ => 20000 + id
  | _ => 999999
structure LoopC where
  run : {R : Type} → St → (Ex → St → Option R) → Option R
structure Ann where
  len : Nat
  lent : Nat
  live : Nat → List Nat × List Nat
  nils : List (Nat × NK)
  rnil : List (Option NK)
  loop : Nat → Option LoopC
  jlive : Nat → List Nat × List Nat
  join : Nat → Option LoopC
def loopOf {T : Type} (body : (St → Option T) → St → Option T) : Nat → St → Option T
  | 0, _ => none
  | n + 1, st => body (loopOf body n) st
def X (C : Ctx) (A : Ann) (n : Nat) (c : Code) {R : Type} (st : St) (K : Ex → St → Option R) : Option R :=
  match c with
  | .skip => K .normal st
  | .region id ops draw => splitS C id st fun st => opsK C ops (padR (padN draw ops) (frzS C id st).bl.length) ops.toList (frzS C id st).tm (padB (padN draw ops) (frzS C id st).bl) [] fun cs tm bl => if (!draw || orderOK ops cs) = true then K .normal ⟨tm, bl⟩ else none
  | .seq a b => match A.join (jkey a) with
    | some m => norm A.len A.lent (A.jlive (jkey a)).1 (ghosts A.nils st) fun st1 => m.run st1 fun e st2 => match e with
      | .normal => X C A n b (spread A.len (A.jlive (jkey a)).2 st2) K
      | e => K e (spread A.len (A.jlive (jkey a)).2 st2)
    | none => X C A n a st fun e st' => match e with | .normal => X C A n b st' K | e => K e st'
  | .cond c a b => match c with
    | .tmp t => match st.tm.getD t .any with
      | .bool v => if v = true then X C A n a ⟨st.tm.set t (.bool true), st.bl⟩ K else X C A n b ⟨st.tm.set t (.bool false), st.bl⟩ K
      | _ => none
    | .const (.bool v) => if v = true then X C A n a st K else X C A n b st K
    | _ => none
  | .block id b => X C A n b st fun e st' => match e with | .exit j => if j = id then K .normal st' else K (.exit j) st' | e => K e st'
  | .loop b => match A.loop (key b) with
    | some m => norm A.len A.lent (A.live (key b)).1 (ghosts A.nils st) fun st1 => m.run st1 fun e st2 => K e (spread A.len (A.live (key b)).2 st2)
    | none => none
  | .exit id => K (.exit id) st
  | .ret => K .ret st
  | _ => none
def roundOf (C : Ctx) (A : Ann) (n : Nat) (b : Code) (rec : St → Option (Ex × St)) (st : St) : Option (Ex × St) :=
  X C A n b (spread A.len (A.live (key b)).1 st) fun e st' => match e with
    | .normal => norm A.len A.lent (A.live (key b)).1 (ghosts A.nils st') rec
    | e => norm A.len A.lent (A.live (key b)).2 (ghosts A.nils st') fun st' => some (e, st')
def joinOf (C : Ctx) (A : Ann) (n : Nat) (a : Code) (st : St) : Option (Ex × St) :=
  X C A n a (spread A.len (A.jlive (jkey a)).1 st) fun e st' => norm A.len A.lent (A.jlive (jkey a)).2 (ghosts A.nils st') fun st' => some (e, st')
def seqsIn : Code → List Code
  | .seq a b => a :: (seqsIn a ++ seqsIn b)
  | .cond _ a b => seqsIn a ++ seqsIn b
  | .block _ b => seqsIn b
  | .loop b => seqsIn b
  | _ => []
def loopsIn : Code → List Code
  | .seq a b => loopsIn a ++ loopsIn b
  | .cond _ a b => loopsIn a ++ loopsIn b
  | .block _ b => loopsIn b
  | .loop b => b :: loopsIn b
  | _ => []
def resultsK (rs : List ResultVar) (st : St) (K : List AV → Option R) : Option R :=
  match rs with
  | [] => K []
  | .tmp t :: r => resultsK r st fun l => K (st.tm.getD t .any :: l)
  | .cell a t :: r => loadK C t (st.tm.getD a .any) st.bl fun _ v _ => resultsK r st fun l => K (v :: l)
def oneOf : List AV → AV
  | [v] => v
  | l => .tup l
def finish {R : Type} (lent : Nat) (v : AV) (bl : Blks) (K : AV → Blks → Option R) : Option R :=
  if ((reach bl 60 (List.range lent ++ ids v) []).take lent == List.range lent) = true then
    K (ren (pos (reach bl 60 (List.range lent ++ ids v) [])) v) ((reach bl 60 (List.range lent ++ ids v) []).map fun i => (bget bl i).map (renB (pos (reach bl 60 (List.range lent ++ ids v) []))))
  else none
def runF (A : Ann) (n : Nat) (f : Func) (args : List AV) (lent : Blks) (K : AV → Blks → Option R) : Option R :=
  match f.body with
  | some c => X C A n c ⟨args ++ List.replicate (A.len - args.length) .any, lent⟩ fun e st => match e with
    | .exit _ => none
    | _ => resultsK C f.results.toList st fun l => finish A.lent (oneOf (ghostR A.rnil l st.bl).1) (ghostR A.rnil l st.bl).2 K
  | none => none
end
def Callee.mk' {T U : Type} (lend : List Bool) (anil : List (Option NK)) (pat : List AV → Blks → Option T) (f : T → Option U) (resK : {R : Type} → U → (AV → Blks → Option R) → Option R) : Callee :=
  ⟨lend, fun args lent K => match pat (ghostA anil args) lent with
    | some t => bindO (f t) fun u => resK u K
    | none => none⟩
def lookJ : List (Nat × LoopC) → Nat → Option LoopC
  | [], _ => none
  | (k, c) :: r, n => if k = n then some c else lookJ r n
def Callee.pick (p : List AV → Bool) (a b : Callee) : Callee := ⟨a.lend, fun args lent K => if p args = true then a.run args lent K else b.run args lent K⟩
def xSub64 (t : Int × Int × Int) : Option (Int × Int) :=
  if 0 ≤ t.1 then (if 0 ≤ t.2.1 then (if t.2.1 < 18446744073709551616 then (if 0 ≤ t.2.2 then (if t.2.2 ≤ 1 then some ((t.1 - t.2.1 - t.2.2) % 18446744073709551616, if t.1 < t.2.1 + t.2.2 then 1 else 0) else none) else none) else none) else none) else none
def LoopC.mk' {T U : Type} (pat : St → Option T) (f : T → Option U) (resK : {R : Type} → U → (Ex → St → Option R) → Option R) : LoopC :=
  ⟨fun st K => match pat st with
    | some t => bindO (f t) fun u => resK u K
    | none => none⟩
end Go.Abs
end
