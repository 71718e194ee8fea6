/- An executor of the model's code over abstract values, and that it is right: what it tells of a run is what the run does. No condition. -/
import Derived.Calls
import Derived.Orders
import Derived.Eval
import Derived.KernelRfl
import Derived.Deep.MidRow
import Derived.Laws.IdiomStrings
import Derived.Laws.BytesString
import Derived.Laws.AppendOwn
import Derived.Laws.MakeOwn
import Derived.Deep.AppendSrc
import Derived.CheckFast
section
namespace Go.Abs
open Go
inductive AV where
 | any
 | bool (b : Bool)
 | int (k : IntKind) (n : Int)
 | str (s : ByteArray)
 | nilp
 | ptr (id : Nat) (path : List Nat)
 | aptr (id : Nat) (path : List Nat) (start n : Nat)
 | rptr (v : AV)
 | snil
 | slice (id : Nat) (path : List Nat) (start len w : Nat)
 | own (id w : Nat)
 | rints (k : IntKind) (l : List Int)
 | robjs (e w : Nat) (l : List AV)
 | agg (kids : List AV)
 | ints (k : IntKind) (n : Nat) (l : List Int)
 | tup (vs : List AV)
 | fn (f : Fn) (first captured : List AV)
 | nilf
 | iface (t : TypeId) (v : AV)
 | nili
 | raw (v : Value)
 | errv (tF ts k : Nat)
 | rmap (l : List AV)
 deriving Inhabited
inductive Blk where
 | var (v : AV)
 | ints (k : IntKind) (l : List Int)
 | objs (e w : Nat) (l : List AV)
 | mp (l : List AV)
 | free
 deriving Inhabited
abbrev zC := List (Option Blk)
def zF (bl : zC) (id : Nat) : Option Blk := bl.getD id none
mutual
def zH : AV → List AV
 | .agg kids => zG kids
 | .ints k _ l => l.map (.int k)
 | x => [x]
def zG : List AV → List AV
 | [] => []
 | x :: r => zH x ++ zG r
end
mutual
def width : AV → Nat
 | .agg kids => zX kids
 | .ints _ n _ => n
 | _ => 1
def zX : List AV → Nat
 | [] => 0
 | x :: r => width x + zX r
end
mutual
def zR : AV → Bool
 | .ptr _ _ | .aptr _ _ _ _ | .slice _ _ _ _ _ | .own _ _ => false
 | .agg kids => kA kids
 | .tup kids => kA kids
 | .fn _ a b => kA a && kA b
 | .iface _ v => zR v
 | _ => true
def kA : List AV → Bool
 | [] => true
 | x :: r => zR x && kA r
end
mutual
def solid : AV → Bool
 | .any | .tup _ => false
 | .agg kids => zBI kids
 | _ => true
def zBI : List AV → Bool
 | [] => true
 | x :: r => solid x && zBI r
end
inductive Fit : AV → Prop where
 | ints (k n l) (h : l.length = n) : Fit (.ints k n l)
 | agg (kids) (h : ∀ x ∈ kids, Fit x) : Fit (.agg kids)
 | leaf (x) (h : (∀ kids, x ≠ .agg kids) ∧ (∀ k n l, x ≠ .ints k n l)) : Fit x
theorem jN (a b : List AV) : zG (a ++ b) = zG a ++ zG b := by
 induction a with
 | nil => simp [zG]
 | cons x r ih => simp [zG, ih]
theorem zGI (a b : List AV) : zX (a ++ b) = zX a + zX b := by
 induction a with
 | nil => simp [zX]
 | cons x r ih => simp [zX, ih]; omega
theorem zAA {x : AV} (h : (∀ kids, x ≠ .agg kids) ∧ (∀ k n l, x ≠ .ints k n l)) : width x = 1 ∧ zH x = [x] := by
 cases x <;> simp_all [width, zH]
theorem Fit.length {x : AV} (h : Fit x) : (zH x).length = width x := by
 induction h with
 | ints k n l h => simp [zH, width, h]
 | agg kids h ih =>
  simp only [zH, width]
  clear h
  induction kids with
  | nil => rfl
  | cons x r ihr =>
   simp only [zG, zX, List.length_append]
   rw [ih x (by simp), ihr (fun y hy => ih y (by simp [hy]))]
 | leaf x h => rw [(zAA h).1, (zAA h).2]; rfl
theorem kU {l : List AV} (h : ∀ x ∈ l, Fit x) : (zG l).length = zX l := by
 have := (Fit.agg l h).length
 simpa [zH, width] using this
def zL : AV → List Nat → Option Nat
 | _, [] => some 0
 | .agg kids, i :: p => match kids[i]? with | some x => (zL x p).map (zX (kids.take i) + ·) | none => none
 | .ints _ n _, [i] => if i < n then some i else none
 | _, _ => none
def zM : AV → List Nat → Option AV
 | v, [] => some v
 | .agg kids, i :: p => match kids[i]? with | some x => zM x p | none => none
 | .ints k _ l, [i] => some (.int k (l.getD i 0))
 | _, _ => none
mutual
def yB : AV → AV → Bool
 | .agg a, .agg b => yF a b
 | .ints k n _, .ints k' m _ => k = k' && n = m
 | .agg _, _ => false
 | .ints _ _ _, _ => false
 | _, .agg _ => false
 | _, .ints _ _ _ => false
 | _, _ => true
def yF : List AV → List AV → Bool
 | [], [] => true
 | x :: a, y :: b => yB x y && yF a b
 | _, _ => false
end
def kH : AV → List Nat → AV → Option AV
 | v, [], x => if yB v x = true then some x else none
 | .agg kids, i :: p, x => match kids[i]? with
  | some y => (kH y p x).map fun z => .agg (kids.set i z)
  | none => none
 | .ints k n l, [i], .int k' y => if k = k' then some (.ints k n (l.set i y)) else none
 | _, _, _ => none
def yS : Blk → List Nat → Option Nat
 | .var v, p => zL v p
 | .ints _ l, [i] => if i < l.length then some i else none
 | .ints _ _, _ => none
 | .objs _ w l, i :: p => match l[i]? with | some x => (zL x p).map (i * w + ·) | none => none
 | .objs _ _ _, [] => none
 | .mp _, _ => none
 | .free, _ => none
def zJ : Blk → List AV
 | .var v => zH v
 | .ints k l => l.map (.int k)
 | .objs _ _ l => zG l
 | .mp _ => []
 | .free => []
def zZ : Blk → List Nat → Option (Nat × Nat × Nat)
 | .ints _ l, [] => some (0, 1, l.length)
 | .objs _ w l, [] => some (0, w, l.length)
 | .var v, p => match zM v p, zL v p with
  | some (.ints _ n _), some q => some (q, 1, n)
  | _, _ => none
 | .mp _, p => if (p == [0, 0]) = true then some (0, 0, 0) else none
 | _, _ => none
def Ent (x : AV) : Prop := ∃ k v, x = .agg [k, v] ∧ Fit x ∧ zR x = true ∧ solid x = true
def wP (es : Array MapEntry) (c : Nat) : Prop := (∀ e ∈ es.toList, e.born < c) ∧ es.toList.Pairwise fun a b => a.born ≠ b.born
structure Env where
 w : World
 ro : Nat → Nat → Prop
 loc : Nat → Nat × Nat × Nat
 bl : zC
def Env.cell (E : Env) (b o : Nat) : Option Value := E.w.cell? ⟨b, o, none⟩
def yA (E : Env) (id b o : Nat) : Prop := (E.loc id).1 = b ∧ (E.loc id).2.1 ≤ o ∧ o < (E.loc id).2.1 + (E.loc id).2.2
def Own (E : Env) (b o : Nat) : Prop := ∃ id blk, zF E.bl id = some blk ∧ yA E id b o
inductive ErrCh (E : Env) (tF ts k : Nat) : Value → Prop where
 | base (p) (h : E.ro k 0) (h2 : E.cell k 0 = some (.iface ts p)) : ErrCh E tF ts k (.iface ts p)
 | wrap (a : Addr) (v : Value) (hs : a.spot = none) (h0 : E.ro a.block a.off) (h1 : E.ro a.block (a.off + 1)) (h2 : E.cell a.block (a.off + 1) = some v) (h : ErrCh E tF ts k v) : ErrCh E tF ts k (.iface tF (.pointer (some a)))
structure ErrV (E : Env) (tF ts k : Nat) (v : Value) : Prop where
 ch : ErrCh E tF ts (k % 100) v
 base : k < 100 → E.ro k 0 ∧ E.cell k 0 = some v
inductive VR (E : Env) : Bool → AV → Value → Prop where
 | any (o v) : VR E o .any v
 | bool (o b) : VR E o (.bool b) (.bool b)
 | int (o k n) : VR E o (.int k n) (.int k n)
 | str (o s) : VR E o (.str s) (.string s)
 | nilp (o) : VR E o .nilp (.pointer none)
 | ptr (id path a) (hid : id < E.bl.length)
   (h : ∀ blk, zF E.bl id = some blk → a.spot = none ∧ ∃ q, yS blk path = some q ∧ a.block = (E.loc id).1 ∧ a.off = (E.loc id).2.1 + q) :
   VR E true (.ptr id path) (.pointer (some a))
 | aptr (id path s n a) (hid : id < E.bl.length)
   (h : ∀ blk, zF E.bl id = some blk → a.spot = none ∧ ∃ q w c, zZ blk path = some (q, w, c) ∧ w = 1 ∧ s + n ≤ c ∧ a.block = (E.loc id).1 ∧ a.off = (E.loc id).2.1 + q + s) :
   VR E true (.aptr id path s n) (.pointer (some a))
 | rptr (o x a) (hf : Fit x) (hs : a.spot = none) (vv : Nat → Value)
   (h : ∀ j y, (zH x)[j]? = some y → E.ro a.block (a.off + j) ∧ E.cell a.block (a.off + j) = some (vv j))
   (hv : ∀ j y, (zH x)[j]? = some y → VR E false y (vv j)) : VR E o (.rptr x) (.pointer (some a))
 | snil (o) : VR E o .snil (.slice none 0 0)
 | slice (id path s len w a cap) (hid : id < E.bl.length) (hc : len ≤ cap) (hs : cap = 0 ∨ ∃ ad, a = some ad)
   (h : ∀ blk, zF E.bl id = some blk → ∃ q c, zZ blk path = some (q, w, c) ∧ s + len ≤ c ∧ q + (s + cap) * w ≤ (E.loc id).2.2 ∧
    (cap = 0 ∨ a = some ⟨(E.loc id).1, (E.loc id).2.1 + q + s * w, none⟩)) :
   VR E true (.slice id path s len w) (.slice a len cap)
 | own (id w len a cap) (hid : id < E.bl.length) (hc : len ≤ cap)
   (h : ∀ blk, zF E.bl id = some blk → zZ blk [] = some (0, w, len) ∧ cap * w ≤ (E.loc id).2.2 ∧ (cap = 0 ∨ a = some ⟨(E.loc id).1, (E.loc id).2.1, none⟩)) :
   VR E true (.own id w) (.slice a len cap)
 | rints (o k l a cap) (hc : l.length ≤ cap)
   (h : ∀ i (_ : i < l.length), ∃ ad, a = some ad ∧ ad.spot = none ∧ E.ro ad.block (ad.off + i) ∧ E.cell ad.block (ad.off + i) = some (.int k (l.getD i 0))) :
   VR E o (.rints k l) (.slice a l.length cap)
 | robjs (o e w l a cap) (hc : l.length ≤ cap) (hw : ∀ x ∈ l, (Fit x ∧ width x = w) ∧ zR x = true ∧ solid x = true) (vv : Nat → Nat → Value)
   (ha : l ≠ [] → ∃ ad, a = some ad ∧ ad.spot = none)
   (h : ∀ ad i x j y, a = some ad → l[i]? = some x → (zH x)[j]? = some y → E.ro ad.block (ad.off + i * w + j) ∧ E.cell ad.block (ad.off + i * w + j) = some (vv i j))
   (hv : ∀ i x j y, l[i]? = some x → (zH x)[j]? = some y → VR E false y (vv i j)) :
   VR E o (.robjs e w l) (.slice a l.length cap)
 | agg (o kids cs) (hf : Fit (.agg kids)) (hs : cs.size = (zG kids).length)
   (h : ∀ (j : Nat) x c, (zG kids)[j]? = some x → cs[j]? = some c → VR E o x c) : VR E o (.agg kids) (.agg cs)
 | ints (o k n l) (h : l.length = n) : VR E o (.ints k n l) (.agg (l.map (Value.int k)).toArray)
 | tup (o vs cs) (hs : cs.size = vs.length) (h : ∀ (j : Nat) x c, vs[j]? = some x → cs[j]? = some c → VR E o x c) : VR E o (.tup vs) (.tuple cs)
 | fn (o f xs ys as bs) (h1 : as.size = xs.length) (h2 : bs.size = ys.length)
   (g1 : ∀ (j : Nat) x c, xs[j]? = some x → as[j]? = some c → VR E o x c) (g2 : ∀ (j : Nat) x c, ys[j]? = some x → bs[j]? = some c → VR E o x c) :
   VR E o (.fn f xs ys) (.func f as bs)
 | nilf (o) : VR E o .nilf .nilFunc
 | iface (o t x v) (h : VR E o x v) : VR E o (.iface t x) (.iface t v)
 | nili (o) : VR E o .nili .nilIface
 | raw (o v) (h1 : v.cells = #[v]) (h2 : v.oneCell' = true) : VR E o (.raw v) v
 | errv (o tF ts k v) (h : ErrV E tF ts k v) : VR E o (.errv tF ts k) v
 | rmap (o l r es c) (hr : E.ro r 0) (hh : E.w.heap[r]? = some (.map es c)) (hs : es.size = l.length) (hst : wP es c) (hl : ∀ x ∈ l, Ent x)
   (hk : ∀ (j : Nat) e k v, es[j]? = some e → l[j]? = some (.agg [k, v]) → VR E false k e.key)
   (hv : ∀ (j : Nat) e k v, es[j]? = some e → l[j]? = some (.agg [k, v]) → VR E false v e.val) : VR E o (.rmap l) (.map (some r))
 | mown (id r) (hid : id < E.bl.length) (h : ∀ blk, zF E.bl id = some blk → zZ blk [0, 0] = some (0, 0, 0) ∧ (E.loc id).1 = r) : VR E true (.own id 0) (.map (some r))
end Go.Abs
end
section
namespace Go.Abs
open Go
def jS (E E' : Env) : Prop := ∀ (r : Nat) es (c : Nat), E.ro r 0 → E.w.heap[r]? = some (Obj.map es c) → E'.w.heap[r]? = some (Obj.map es c)
structure Step (E E' : Env) : Prop where
 len : E.bl.length ≤ E'.bl.length
 ro : ∀ b o, E.ro b o → E'.ro b o ∧ E'.cell b o = E.cell b o
 blk : ∀ id, id < E.bl.length → ∀ blk', zF E'.bl id = some blk' → zF E.bl id = some .free ∨ ∃ blk, zF E.bl id = some blk ∧ E'.loc id = E.loc id ∧
  (∀ p q, yS blk p = some q → yS blk' p = some q) ∧ (∀ p r, zZ blk p = some r → zZ blk' p = some r)
 mp : jS E E'
theorem zKx {blk : Blk} (h : zZ blk [0, 0] = some (0, 0, 0)) : ∃ l, blk = .mp l := by
 cases blk with
 | mp l => exact ⟨l, rfl⟩
 | var v =>
  simp only [zZ] at h
  split at h <;> simp at h
 | ints k l => simp [zZ] at h
 | objs e w l => simp [zZ] at h
 | free => simp [zZ] at h
theorem zEW {blk : Blk} (h1 : ∀ p q, yS blk p = some q → yS .free p = some q) (h2 : ∀ p r, zZ blk p = some r → zZ .free p = some r) : blk = .free := by
 cases blk with
 | free => rfl
 | var v =>
  have hv : zL v [] = some 0 := by cases v <;> rfl
  have := h1 [] 0 hv
  simp [yS] at this
 | ints k l => have := h2 [] _ rfl; simp [zZ] at this
 | objs e w l => have := h2 [] _ rfl; simp [zZ] at this
 | mp l => have := h2 [0, 0] _ rfl; simp [zZ] at this
theorem jS.rfl {E : Env} : jS E E := fun _ _ _ _ h => h
theorem Step.refl (E : Env) : Step E E := ⟨Nat.le_refl _, fun _ _ h => ⟨h, rfl⟩, fun _ _ blk h => .inr ⟨blk, h, rfl, fun _ _ h => h, fun _ _ h => h⟩, .rfl⟩
theorem Step.trans {A B C : Env} (h : Step A B) (k : Step B C) : Step A C := by
 refine ⟨Nat.le_trans h.len k.len, fun b o hr => ?_, fun id hid blk'' hb => ?_, fun r es c hr hm => k.mp r es c (h.ro r 0 hr).1 (h.mp r es c hr hm)⟩
 ·obtain ⟨h1, h2⟩ := h.ro b o hr
  obtain ⟨k1, k2⟩ := k.ro b o h1
  exact ⟨k1, k2.trans h2⟩
 ·rcases k.blk id (Nat.lt_of_lt_of_le hid h.len) blk'' hb with hf | ⟨blk', hb', k1, k2, k3⟩
  ·rcases h.blk id hid _ hf with hf | ⟨blk, hb0, h1, h2, h3⟩
   ·exact .inl hf
   ·rw [zEW h2 h3] at hb0
    exact .inl hb0
  rcases h.blk id hid blk' hb' with hf | ⟨blk, hb0, h1, h2, h3⟩
  ·exact .inl hf
  exact .inr ⟨blk, hb0, k1.trans h1, fun p q hq => k2 p q (h2 p q hq), fun p r hr => k3 p r (h3 p r hr)⟩
theorem ErrCh.ro {E E' : Env} (hro : ∀ b o, E.ro b o → E'.ro b o ∧ E'.cell b o = E.cell b o) {tF ts k : Nat} {v : Value} (h : ErrCh E tF ts k v) : ErrCh E' tF ts k v := by
 induction h with
 | base p h h2 => exact .base p (hro _ _ h).1 ((hro _ _ h).2.trans h2)
 | wrap a v hs h0 h1 h2 _ ih => exact .wrap a v hs (hro _ _ h0).1 (hro _ _ h1).1 ((hro _ _ h1).2.trans h2) ih
theorem ErrV.ro {E E' : Env} (hro : ∀ b o, E.ro b o → E'.ro b o ∧ E'.cell b o = E.cell b o) {tF ts k : Nat} {v : Value} (h : ErrV E tF ts k v) : ErrV E' tF ts k v :=
 ⟨h.ch.ro hro, fun hk => ⟨(hro _ _ (h.base hk).1).1, (hro _ _ (h.base hk).1).2.trans (h.base hk).2⟩⟩
theorem VR.mono {E E' : Env} (s : Step E E') {o : Bool} {x : AV} {v : Value} (h : VR E o x v) : VR E' o x v := by
 induction h with
 | any => exact .any _ _
 | bool => exact .bool _ _
 | int => exact .int _ _ _
 | str => exact .str _ _
 | nilp => exact .nilp _
 | ptr id path a hid h =>
  refine .ptr id path a (Nat.lt_of_lt_of_le hid s.len) fun blk' hb => ?_
  rcases s.blk id hid blk' hb with hf | ⟨blk, hb0, hl, ho, _⟩
  ·obtain ⟨_, q, h2, _⟩ := h _ hf
   simp [yS] at h2
  obtain ⟨h1, q, h2, h3, h4⟩ := h blk hb0
  exact ⟨h1, q, ho _ _ h2, by rw [hl]; exact h3, by rw [hl]; exact h4⟩
 | aptr id path st n a hid h =>
  refine .aptr id path st n a (Nat.lt_of_lt_of_le hid s.len) fun blk' hb => ?_
  rcases s.blk id hid blk' hb with hf | ⟨blk, hb0, hl, _, hr⟩
  ·obtain ⟨_, q, w, c, h2, _⟩ := h _ hf
   simp [zZ] at h2
  obtain ⟨h1, q, w, c, h2, h3⟩ := h blk hb0
  exact ⟨h1, q, w, c, hr _ _ h2, by rw [hl]; exact h3⟩
 | rptr o x a hf hs vv h hv ih =>
  exact .rptr o x a hf hs vv (fun j y hy => ⟨(s.ro _ _ (h j y hy).1).1, (s.ro _ _ (h j y hy).1).2.trans (h j y hy).2⟩) ih
 | snil => exact .snil _
 | slice id path st len w a cap hid hc hs h =>
  refine .slice id path st len w a cap (Nat.lt_of_lt_of_le hid s.len) hc hs fun blk' hb => ?_
  rcases s.blk id hid blk' hb with hf | ⟨blk, hb0, hl, _, hr⟩
  ·obtain ⟨q, c, h2, _⟩ := h _ hf
   simp [zZ] at h2
  obtain ⟨q, c, h2, h3⟩ := h blk hb0
  exact ⟨q, c, hr _ _ h2, by rw [hl]; exact h3⟩
 | own id w len a cap hid hc h =>
  refine .own id w len a cap (Nat.lt_of_lt_of_le hid s.len) hc fun blk' hb => ?_
  rcases s.blk id hid blk' hb with hf | ⟨blk, hb0, hl, _, hr⟩
  ·obtain ⟨h2, _⟩ := h _ hf
   simp [zZ] at h2
  obtain ⟨h2, h3⟩ := h blk hb0
  exact ⟨hr _ _ h2, by rw [hl]; exact h3⟩
 | rints o k l a cap hc h =>
  refine .rints o k l a cap hc fun i hi => ?_
  obtain ⟨ad, h1, h2, h3, h4⟩ := h i hi
  exact ⟨ad, h1, h2, (s.ro _ _ h3).1, (s.ro _ _ h3).2.trans h4⟩
 | robjs o e w l a cap hc hw vv ha h hv ih =>
  exact .robjs o e w l a cap hc hw vv ha (fun ad i x j y h1 h2 h3 => ⟨(s.ro _ _ (h ad i x j y h1 h2 h3).1).1, (s.ro _ _ (h ad i x j y h1 h2 h3).1).2.trans (h ad i x j y h1 h2 h3).2⟩) ih
 | agg o kids cs hf hs h ih => exact .agg o kids cs hf hs ih
 | ints o k n l h => exact .ints o k n l h
 | tup o vs cs hs h ih => exact .tup o vs cs hs ih
 | fn o f xs ys as bs h1 h2 g1 g2 i1 i2 => exact .fn o f xs ys as bs h1 h2 i1 i2
 | nilf => exact .nilf _
 | iface o t x v h ih => exact .iface o t x v ih
 | nili => exact .nili _
 | raw o v h1 h2 => exact .raw _ _ h1 h2
 | errv o tF ts k v h => exact .errv _ _ _ _ _ (h.ro s.ro)
 | rmap o l r es c hn hh hs hst hl hk hv ihk ihv => exact .rmap o l r es c (s.ro _ _ hn).1 (s.mp _ _ _ hn hh) hs hst hl ihk ihv
 | mown id r hid h =>
  refine .mown id r (Nat.lt_of_lt_of_le hid s.len) fun blk' hb => ?_
  rcases s.blk id hid blk' hb with hf | ⟨blk, hb0, hl, _, hr⟩
  ·obtain ⟨h2, _⟩ := h _ hf
   simp [zZ] at h2
  obtain ⟨h2, h3⟩ := h blk hb0
  exact ⟨hr _ _ h2, by rw [hl]; exact h3⟩
theorem VR.lift {E : Env} {x : AV} {v : Value} (h : VR E false x v) : VR E true x v := by
 generalize hb : false = b at h
 induction h with
 | any => exact .any _ _
 | bool => exact .bool _ _
 | int => exact .int _ _ _
 | str => exact .str _ _
 | nilp => exact .nilp _
 | ptr => cases hb
 | aptr => cases hb
 | rptr o x a hf hs vv h hv ih => exact .rptr _ x a hf hs vv h hv
 | snil => exact .snil _
 | slice => cases hb
 | own => cases hb
 | rints o k l a cap hc h => exact .rints _ k l a cap hc h
 | robjs o e w l a cap hc hw vv ha h hv ih => exact .robjs _ e w l a cap hc hw vv ha h hv
 | agg o kids cs hf hs h ih => exact .agg _ kids cs hf hs fun j x c h1 h2 => ih j x c h1 h2 hb
 | ints o k n l h => exact .ints _ k n l h
 | tup o vs cs hs h ih => exact .tup _ vs cs hs fun j x c h1 h2 => ih j x c h1 h2 hb
 | fn o f xs ys as bs h1 h2 g1 g2 i1 i2 => exact .fn _ f xs ys as bs h1 h2 (fun j x c h1 h2 => i1 j x c h1 h2 hb) (fun j x c h1 h2 => i2 j x c h1 h2 hb)
 | nilf => exact .nilf _
 | iface o t x v h ih => exact .iface _ t x v (ih hb)
 | nili => exact .nili _
 | raw o v h1 h2 => exact .raw _ _ h1 h2
 | errv o tF ts k v h => exact .errv _ _ _ _ _ h
 | rmap o l r es c hn hh hs hst hl hk hv ihk ihv => exact .rmap _ l r es c hn hh hs hst hl hk hv
 | mown => cases hb
def zCS : Blk → Prop
 | .var v => Fit v
 | .ints _ _ => True
 | .objs _ w l => ∀ x ∈ l, (Fit x ∧ width x = w) ∧ zR x = true ∧ solid x = true
 | .mp l => ∀ x ∈ l, Ent x
 | .free => True
structure MapAt (E : Env) (r : Nat) (l : List AV) : Prop where
 at_ : ∃ es c, E.w.heap[r]? = some (.map es c) ∧ es.size = l.length ∧ wP es c ∧
  ∀ (j : Nat) e k v, es[j]? = some e → l[j]? = some (.agg [k, v]) → VR E false k e.key ∧ VR E false v e.val
def wB : Blk → Bool
 | .mp _ => true
 | _ => false
theorem jK {blk : Blk} {r : Nat × Nat × Nat} (h : zZ blk [] = some r) : wB blk = false := by
 cases blk <;> first | rfl | (simp [zZ] at h; done)
structure BlkOK (E : Env) (id : Nat) (blk : Blk) : Prop where
 fit : zCS blk
 len : (zJ blk).length ≤ (E.loc id).2.2
 cells : ∀ (j : Nat) x, (zJ blk)[j]? = some x → ∃ v, E.cell (E.loc id).1 ((E.loc id).2.1 + j) = some v ∧ VR E true x v
 rom : wB blk = false → ∀ j, j < (E.loc id).2.2 → (E.cell (E.loc id).1 ((E.loc id).2.1 + j)).isSome = true ∧ E.w.frozen? ⟨(E.loc id).1, (E.loc id).2.1 + j, none⟩ = false
 mp : ∀ l, blk = .mp l → (E.loc id).2 = (0, 1) ∧ MapAt E (E.loc id).1 l
structure Mem (E : Env) : Prop where
 ok : ∀ id blk, zF E.bl id = some blk → BlkOK E id blk
 dis : ∀ i j bi bj, i ≠ j → zF E.bl i = some bi → zF E.bl j = some bj → ∀ b o, yA E i b o → ¬ yA E j b o
 roe : ∀ b o, E.ro b o → b < E.w.heap.size
 rod : ∀ b o, Own E b o → ¬ E.ro b o
theorem k7 {w : World} {b o : Nat} (h : (w.cell? ⟨b, o, none⟩).isSome = true) : b < w.heap.size := by
 unfold World.cell? at h
 simp only at h
 rcases Nat.lt_or_ge b w.heap.size with h' | h'
 ·exact h'
 ·simp [Array.getElem?_eq_none h'] at h
theorem BlkOK.room {E : Env} {id : Nat} {blk : Blk} (k : BlkOK E id blk) (h : wB blk = false) : ∀ j, j < (E.loc id).2.2 → (E.cell (E.loc id).1 ((E.loc id).2.1 + j)).isSome = true ∧ E.w.frozen? ⟨(E.loc id).1, (E.loc id).2.1 + j, none⟩ = false := k.rom h
theorem zBt {blk : Blk} (h : wB blk = true) : ∃ l, blk = .mp l := by cases blk <;> first | exact ⟨_, rfl⟩ | cases h
theorem MapAt.lt {E : Env} {r : Nat} {l : List AV} (h : MapAt E r l) : r < E.w.heap.size := by
 obtain ⟨es, c, h, _⟩ := h
 exact (Array.getElem?_eq_some_iff.1 h).1
theorem MapAt.mono {E E' : Env} {r : Nat} {l : List AV} (s : Step E E') (h : E'.w.heap[r]? = E.w.heap[r]?) (k : MapAt E r l) : MapAt E' r l := by
 obtain ⟨es, c, h1, h2, h3, h4⟩ := k
 exact ⟨es, c, h.trans h1, h2, h3, fun j e k v he hl => ⟨(h4 j e k v he hl).1.mono s, (h4 j e k v he hl).2.mono s⟩⟩
theorem MapAt.no_cell {E : Env} {r : Nat} {l : List AV} (k : MapAt E r l) (o : Nat) : E.cell r o = none := by
 obtain ⟨es, c, h, _⟩ := k
 simp [Env.cell, World.cell?, h]
theorem Mem.own_lt {E : Env} (m : Mem E) {b o : Nat} (h : Own E b o) : b < E.w.heap.size := by
 obtain ⟨id, blk, hb, h1, h2, h3⟩ := h
 cases hm : wB blk with
 | true =>
  obtain ⟨l, rfl⟩ := zBt hm
  rw [← h1]
  exact ((m.ok id _ hb).mp l rfl).2.lt
 | false =>
  have := ((m.ok id blk hb).room hm (o - (E.loc id).2.1) (by omega)).1
  have e : (E.loc id).2.1 + (o - (E.loc id).2.1) = o := by omega
  rw [e, h1] at this
  exact k7 this
theorem Mem.mp_ne {E : Env} (m : Mem E) {i j : Nat} {l : List AV} {blk : Blk} (hi : zF E.bl i = some (.mp l)) (hj : zF E.bl j = some blk) (hm : wB blk = false) (hq : 0 < (E.loc j).2.2) : (E.loc i).1 ≠ (E.loc j).1 := fun e => by
 have h1 := ((m.ok i _ hi).mp l rfl).2.no_cell ((E.loc j).2.1 + 0)
 have h2 := ((m.ok j _ hj).room hm 0 hq).1
 rw [← e, h1] at h2
 cases h2
theorem Mem.mp_alone {E : Env} (m : Mem E) {i j o : Nat} {l : List AV} {blk : Blk} (hi : zF E.bl i = some (.mp l)) (hj : zF E.bl j = some blk) (hx : yA E j (E.loc i).1 o) : j = i := by
 by_cases e : j = i
 ·exact e
 exfalso
 have e1 := ((m.ok i _ hi).mp l rfl).1
 cases hm : wB blk with
 | true =>
  obtain ⟨l', rfl⟩ := zBt hm
  have e2 := ((m.ok j _ hj).mp l' rfl).1
  obtain ⟨x1, x2, x3⟩ := hx
  exact m.dis j i _ _ e hj hi (E.loc i).1 0 ⟨x1, by rw [e2]; exact Nat.le_refl _, by rw [e2]; exact Nat.zero_lt_one⟩ ⟨rfl, by rw [e1]; exact Nat.le_refl _, by rw [e1]; exact Nat.zero_lt_one⟩
 | false =>
  obtain ⟨x1, x2, x3⟩ := hx
  exact m.mp_ne hi hj hm (by omega) x1.symm
theorem Mem.mp_own {E : Env} (m : Mem E) {i : Nat} {l : List AV} (hi : zF E.bl i = some (.mp l)) : yA E i (E.loc i).1 0 := by
 have e1 := ((m.ok i _ hi).mp l rfl).1
 exact ⟨rfl, by rw [e1]; exact Nat.le_refl _, by rw [e1]; exact Nat.zero_lt_one⟩
structure Fr (E E' : Env) : Prop where
 os : E'.w.os = E.w.os
 tape : E'.w.tape = E.w.tape
 output : E'.w.output = E.w.output
 size : E.w.heap.size ≤ E'.w.heap.size
 cell : ∀ b o, b < E.w.heap.size → ¬ Own E b o → E'.cell b o = E.cell b o
 blk : ∀ b, b < E.w.heap.size → (∀ o, ¬ Own E b o) → E'.w.heap[b]? = E.w.heap[b]?
 frz : ∀ b o, b < E.w.heap.size → ¬ Own E b o → E'.w.frozen? ⟨b, o, none⟩ = E.w.frozen? ⟨b, o, none⟩
 own : ∀ b o, Own E' b o → Own E b o ∨ E.w.heap.size ≤ b
 roi : ∀ b o, E'.ro b o → E.ro b o ∨ Own E b o ∨ E.w.heap.size ≤ b
 rom : ∀ b o, E.ro b o → E'.ro b o
theorem Fr.refl (E : Env) : Fr E E := ⟨rfl, rfl, rfl, Nat.le_refl _, fun _ _ _ _ => rfl, fun _ _ _ => rfl, fun _ _ _ _ => rfl, fun _ _ h => .inl h, fun _ _ h => .inl h, fun _ _ h => h⟩
theorem Fr.trans {A B C : Env} (h : Fr A B) (k : Fr B C) : Fr A C := by
 have no : ∀ b o, b < A.w.heap.size → ¬ Own A b o → ¬ Own B b o := fun b o hb hn ho => by
  rcases h.own b o ho with h' | h'
  ·exact hn h'
  ·omega
 refine ⟨k.os.trans h.os, k.tape.trans h.tape, k.output.trans h.output, Nat.le_trans h.size k.size, fun b o hb hn => ?_, fun b hb hn => ?_, fun b o hb hn => ?_, fun b o ho => ?_, fun b o hr => ?_, fun b o hr => k.rom b o (h.rom b o hr)⟩
 ·exact (k.cell b o (Nat.lt_of_lt_of_le hb h.size) (no b o hb hn)).trans (h.cell b o hb hn)
 ·exact (k.blk b (Nat.lt_of_lt_of_le hb h.size) fun o => no b o hb (hn o)).trans (h.blk b hb hn)
 ·exact (k.frz b o (Nat.lt_of_lt_of_le hb h.size) (no b o hb hn)).trans (h.frz b o hb hn)
 ·have := h.size
  rcases k.own b o ho with h' | h'
  ·exact h.own b o h'
  ·exact .inr (by omega)
 ·have := h.size
  rcases k.roi b o hr with h' | h' | h'
  ·exact h.roi b o h'
  ·rcases h.own b o h' with h'' | h''
   ·exact .inr (.inl h'')
   ·exact .inr (.inr h'')
  ·exact .inr (.inr (by omega))
theorem Fr.ro_cell {E E' : Env} (m : Mem E) (f : Fr E E') {b o : Nat} (h : E.ro b o) : E'.cell b o = E.cell b o :=
 f.cell b o (m.roe b o h) fun ho => m.rod b o ho h
theorem Mem.no_map {E : Env} (m : Mem E) {r : Nat} {es : Array MapEntry} {c : Nat} (hr : E.ro r 0) (h : E.w.heap[r]? = some (.map es c)) : ∀ o, ¬ Own E r o := fun o ho => by
 obtain ⟨id, blk, hb, h1, h2, h3⟩ := ho
 cases hm : wB blk with
 | true =>
  obtain ⟨l, rfl⟩ := zBt hm
  have e := ((m.ok id _ hb).mp l rfl).1
  exact m.rod r 0 ⟨id, _, hb, h1, by rw [e]; exact Nat.le_refl _, by rw [e]; exact Nat.zero_lt_one⟩ hr
 | false =>
  have := ((m.ok id blk hb).room hm (o - (E.loc id).2.1) (by omega)).1
  rw [h1] at this
  simp [Env.cell, World.cell?, h] at this
theorem Fr.maps {E E' : Env} (m : Mem E) (f : Fr E E') : jS E E' := fun r _ _ hr h =>
 (f.blk r (Array.getElem?_eq_some_iff.1 h).1 (m.no_map hr h)).trans h
theorem Step.of_fr {E E' : Env} (m : Mem E) (f : Fr E E') (hl : E.bl.length ≤ E'.bl.length)
  (hb : ∀ id, id < E.bl.length → ∀ blk', zF E'.bl id = some blk' → ∃ blk, zF E.bl id = some blk ∧ E'.loc id = E.loc id ∧
   (∀ p q, yS blk p = some q → yS blk' p = some q) ∧ (∀ p r, zZ blk p = some r → zZ blk' p = some r)) : Step E E' :=
 ⟨hl, fun b o h => ⟨f.rom b o h, f.ro_cell m h⟩, fun id hid blk' h => .inr (hb id hid blk' h), f.maps m⟩
structure Go (E E' : Env) : Prop where
 step : Step E E'
 fr : Fr E E'
 mem : Mem E'
theorem Go.trans {A B C : Env} (h : Go A B) (k : Go B C) : Go A C := ⟨h.step.trans k.step, h.fr.trans k.fr, k.mem⟩
theorem Go.refl {A : Env} (m : Mem A) : Go A A := ⟨.refl A, .refl A, m⟩
def Env.drew (E : Env) : Env := { E with w := E.w.drew }
theorem Go.drew {E : Env} (m : Mem E) : Go E E.drew := by
 have s : Step E E.drew := ⟨Nat.le_refl _, fun _ _ h => ⟨h, rfl⟩, fun _ _ blk h => .inr ⟨blk, h, rfl, fun _ _ h => h, fun _ _ h => h⟩, .rfl⟩
 refine ⟨s, ⟨rfl, rfl, rfl, Nat.le_refl _, fun _ _ _ _ => rfl, fun _ _ _ => rfl, fun _ _ _ _ => rfl, fun _ _ h => .inl h, fun _ _ h => .inl h, fun _ _ h => h⟩, ?_⟩
 refine ⟨fun id blk hb => ?_, m.dis, m.roe, m.rod⟩
 have k := m.ok id blk hb
 exact ⟨k.fit, k.len, fun j x hx => let ⟨v, h1, h2⟩ := k.cells j x hx; ⟨v, h1, h2.mono s⟩, k.rom, fun l hl => ⟨(k.mp l hl).1, (k.mp l hl).2.mono s rfl⟩⟩
theorem kC {bl : zC} {x : List (Option Blk)} {id : Nat} (h : id < bl.length) : zF (bl ++ x) id = zF bl id := by
 simp [zF, List.getElem?_append_left h]
theorem kO {bl : zC} {x : Option Blk} : zF (bl ++ [x]) bl.length = x := by simp [zF]
theorem z4 {bl : zC} {id : Nat} {blk : Blk} (h : zF bl id = some blk) : id < bl.length := by
 rcases Nat.lt_or_ge id bl.length with h' | h'
 ·exact h'
 ·simp [zF, List.getElem?_eq_none h'] at h
theorem z7 {bl : zC} {x : Option Blk} {id : Nat} {blk : Blk} (h : zF (bl ++ [x]) id = some blk) :
  (id < bl.length ∧ zF bl id = some blk) ∨ (id = bl.length ∧ x = some blk) := by
 have hl := z4 h
 simp at hl
 rcases Nat.lt_or_ge id bl.length with h' | h'
 ·exact .inl ⟨h', by rwa [kC h'] at h⟩
 ·have : id = bl.length := by omega
  subst this
  rw [kO] at h
  exact .inr ⟨rfl, h⟩
theorem yE {bl : zC} {id : Nat} {x : Option Blk} (h : id < bl.length) : zF (bl.set id x) id = x := by simp [zF, h]
theorem yH {bl : zC} {i j : Nat} {x : Option Blk} (h : i ≠ j) : zF (bl.set i x) j = zF bl j := by simp [zF, h]
def Env.new (E : Env) (c : Array Value) (t : TypeId) (e : Nat) (blk : Blk) (fr : Nat × Nat := (0, 0)) : Env :=
 {w := E.w.alloc (.cells c t fr), ro := E.ro, loc := fun i => if i = E.bl.length then (E.w.heap.size, 0, e) else E.loc i, bl := E.bl ++ [some blk] }
theorem Go.new {E : Env} (m : Mem E) (c : Array Value) (t : TypeId) (e : Nat) (blk : Blk) (fr : Nat × Nat) (hfr : ∀ j, j < e → ¬ (fr.1 ≤ j ∧ j < fr.2)) (hf : zCS blk) (hl : (zJ blk).length ≤ e) (he : e ≤ c.size)
  (h : ∀ (j : Nat) x v, (zJ blk)[j]? = some x → c[j]? = some v → VR E true x v) (hmp : wB blk = false := by rfl) : Go E (E.new c t e blk fr) := by
 have hloc : ∀ i, i < E.bl.length → (E.new c t e blk fr).loc i = E.loc i := fun i hi => by simp [Env.new, Nat.ne_of_lt hi]
 have hlocn : (E.new c t e blk fr).loc E.bl.length = (E.w.heap.size, 0, e) := by simp [Env.new]
 have hcell : ∀ b o, b < E.w.heap.size → (E.new c t e blk fr).cell b o = E.cell b o := fun b o hb => World.cell?_alloc_lt _ _ _ hb
 have hcelln : ∀ o, (E.new c t e blk fr).cell E.w.heap.size o = c[o]? := fun o => World.cell?_alloc_mark E.w c t fr o
 have hfrz : ∀ b o, b < E.w.heap.size → (E.w.alloc (.cells c t fr)).frozen? ⟨b, o, none⟩ = E.w.frozen? ⟨b, o, none⟩ := fun b o hb => World.frozen?_alloc_old _ _ _ (by show b ≠ _; omega)
 have hown : ∀ b o, Own (E.new c t e blk fr) b o → Own E b o ∨ E.w.heap.size ≤ b := fun b o ⟨id, bk, hb, hx⟩ => by
  rcases z7 hb with ⟨h1, h2⟩ | ⟨h1, _⟩
  ·refine .inl ⟨id, bk, h2, ?_⟩
   unfold yA at hx ⊢
   rwa [hloc id h1] at hx
  ·subst h1
   unfold yA at hx
   rw [hlocn] at hx
   exact .inr (by have := hx.1; simp at this; omega)
 have frm : Fr E (E.new c t e blk fr) := ⟨rfl, rfl, rfl, by show _ ≤ (E.w.heap.push _).size; simp, fun b o hb _ => hcell b o hb,
  fun b hb _ => by show (E.w.heap.push _)[b]? = _; rw [Array.getElem?_push, if_neg (by omega)], fun b o hb _ => hfrz b o hb, hown, fun b o h => .inl h, fun _ _ h => h⟩
 have st : Step E (E.new c t e blk fr) := .of_fr m frm (by simp [Env.new]) fun id hid blk' hb => by
  have : zF E.bl id = some blk' := by rwa [show (E.new c t e blk fr).bl = E.bl ++ [some blk] from rfl, kC hid] at hb
  exact ⟨blk', this, hloc id hid, fun _ _ h => h, fun _ _ h => h⟩
 refine ⟨st, frm, ⟨fun id bk hb => ?_, fun i j bi bj hij hi hj b o hx hy => ?_, fun b o h => ?_, fun b o ho h => ?_⟩⟩
 ·rcases z7 hb with ⟨h1, h2⟩ | ⟨h1, h2⟩
  ·have k := m.ok id bk h2
   refine ⟨k.fit, by rw [hloc id h1]; exact k.len, fun j x hx => ?_, fun hm j hj => ?_, fun l hl => ?_⟩
   ·obtain ⟨v, hv, hr⟩ := k.cells j x hx
    rw [hloc id h1]
    exact ⟨v, by rw [hcell _ _ (k7 (by show (E.cell _ _).isSome = true; rw [hv]; rfl))]; exact hv, hr.mono st⟩
   ·rw [hloc id h1] at hj ⊢
    obtain ⟨g1, g2⟩ := k.room hm j hj
    have hlt := k7 g1
    exact ⟨by rw [hcell _ _ hlt]; exact g1, by rw [show (E.new c t e blk fr).w = E.w.alloc (.cells c t fr) from rfl, hfrz _ _ hlt]; exact g2⟩
   ·rw [hloc id h1]
    exact ⟨(k.mp l hl).1, (k.mp l hl).2.mono st (by show (E.w.heap.push _)[_]? = _; have := (k.mp l hl).2.lt; rw [Array.getElem?_push, if_neg (by omega)])⟩
  ·subst h1
   cases h2
   refine ⟨hf, by rw [hlocn]; exact hl, fun j x hx => ?_, fun _ j hj => ?_, fun l hl => by rw [hl] at hmp; cases hmp⟩
   ·rw [hlocn]
    have hj : j < (zJ blk).length := (List.getElem?_eq_some_iff.1 hx).1
    have hv : c[j]? = some c[j] := Array.getElem?_eq_getElem (by omega)
    exact ⟨c[j], by rw [show (E.w.heap.size, 0, e).2.1 + j = j from Nat.zero_add j]; rw [hcelln]; exact hv, (h j x _ hx hv).mono st⟩
   ·rw [hlocn] at hj ⊢
    simp only [Nat.zero_add]
    refine ⟨?_, ?_⟩
    ·rw [hcelln, Array.getElem?_eq_getElem (by simp at hj; omega)]; rfl
    ·show (E.w.alloc (.cells c t fr)).frozen? ⟨E.w.heap.size, j, none⟩ = false
     rw [show fr = (fr.1, fr.2) from rfl, World.frozen?_alloc_mark]
     have := hfr j hj
     simp only [Bool.and_eq_false_iff, decide_eq_false_iff_not]
     omega
 ·rcases z7 hi with ⟨h1, h2⟩ | ⟨h1, h2⟩ <;> rcases z7 hj with ⟨k1, k2⟩ | ⟨k1, k2⟩
  ·unfold yA at hx hy
   rw [hloc _ h1] at hx
   rw [hloc _ k1] at hy
   exact m.dis i j bi bj hij h2 k2 b o hx hy
  ·have hb := m.own_lt ⟨i, bi, h2, by unfold yA at hx ⊢; rwa [hloc _ h1] at hx⟩
   subst k1
   unfold yA at hy
   rw [hlocn] at hy
   have := hy.1
   simp at this
   omega
  ·have hb := m.own_lt ⟨j, bj, k2, by unfold yA at hy ⊢; rwa [hloc _ k1] at hy⟩
   subst h1
   unfold yA at hx
   rw [hlocn] at hx
   have := hx.1
   simp at this
   omega
  ·omega
 ·have := m.roe b o h
  exact Nat.lt_of_lt_of_le this frm.size
 ·rcases hown b o ho with h1 | h1
  ·exact m.rod b o h1 h
  ·have := m.roe b o h
   omega
def Env.fill (E : Env) (id : Nat) (c : Array Value) (t : TypeId) (e : Nat) (blk : Blk) (fr : Nat × Nat := (0, 0)) : Env :=
 {w := E.w.alloc (.cells c t fr), ro := E.ro, loc := fun i => if i = id then (E.w.heap.size, 0, e) else E.loc i, bl := E.bl.set id (some blk) }
theorem zBA {bl : zC} {id i : Nat} {x : Option Blk} {blk : Blk} (hid : id < bl.length) (h : zF (bl.set id x) i = some blk) : (i ≠ id ∧ zF bl i = some blk) ∨ (i = id ∧ x = some blk) := by
 by_cases e : id = i
 ·subst e
  rw [yE hid] at h
  exact .inr ⟨rfl, h⟩
 ·rw [yH e] at h
  exact .inl ⟨Ne.symm e, h⟩
theorem Go.fill {E : Env} (m : Mem E) (id0 : Nat) (h0 : zF E.bl id0 = some .free) (c : Array Value) (t : TypeId) (e : Nat) (blk : Blk) (fr : Nat × Nat) (hfr : ∀ j, j < e → ¬ (fr.1 ≤ j ∧ j < fr.2)) (hf : zCS blk) (hl : (zJ blk).length ≤ e) (he : e ≤ c.size)
  (h : ∀ (j : Nat) x v, (zJ blk)[j]? = some x → c[j]? = some v → VR E true x v) (hmp : wB blk = false := by rfl) : Go E (E.fill id0 c t e blk fr) := by
 have hid0 := z4 h0
 have hloc : ∀ i, i ≠ id0 → (E.fill id0 c t e blk fr).loc i = E.loc i := fun i hi => by simp [Env.fill, hi]
 have hlocn : (E.fill id0 c t e blk fr).loc id0 = (E.w.heap.size, 0, e) := by simp [Env.fill]
 have hcell : ∀ b o, b < E.w.heap.size → (E.fill id0 c t e blk fr).cell b o = E.cell b o := fun b o hb => World.cell?_alloc_lt _ _ _ hb
 have hcelln : ∀ o, (E.fill id0 c t e blk fr).cell E.w.heap.size o = c[o]? := fun o => World.cell?_alloc_mark E.w c t fr o
 have hfrz : ∀ b o, b < E.w.heap.size → (E.w.alloc (.cells c t fr)).frozen? ⟨b, o, none⟩ = E.w.frozen? ⟨b, o, none⟩ := fun b o hb => World.frozen?_alloc_old _ _ _ (by show b ≠ _; omega)
 have hown : ∀ b o, Own (E.fill id0 c t e blk fr) b o → Own E b o ∨ E.w.heap.size ≤ b := fun b o ⟨id, bk, hb, hx⟩ => by
  rcases zBA hid0 hb with ⟨h1, h2⟩ | ⟨h1, _⟩
  ·refine .inl ⟨id, bk, h2, ?_⟩
   unfold yA at hx ⊢
   rwa [hloc id h1] at hx
  ·subst h1
   unfold yA at hx
   rw [hlocn] at hx
   exact .inr (by have := hx.1; simp at this; omega)
 have frm : Fr E (E.fill id0 c t e blk fr) := ⟨rfl, rfl, rfl, by show _ ≤ (E.w.heap.push _).size; simp, fun b o hb _ => hcell b o hb,
  fun b hb _ => by show (E.w.heap.push _)[b]? = _; rw [Array.getElem?_push, if_neg (by omega)], fun b o hb _ => hfrz b o hb, hown, fun b o h => .inl h, fun _ _ h => h⟩
 have st : Step E (E.fill id0 c t e blk fr) := ⟨by simp [Env.fill], fun b o h => ⟨h, frm.ro_cell m h⟩, fun id hid blk' hb => by
  rcases zBA hid0 hb with ⟨h1, h2⟩ | ⟨h1, _⟩
  ·exact .inr ⟨blk', h2, hloc id h1, fun _ _ h => h, fun _ _ h => h⟩
  ·subst h1
   exact .inl h0, frm.maps m⟩
 refine ⟨st, frm, ⟨fun id bk hb => ?_, fun i j bi bj hij hi hj b o hx hy => ?_, fun b o h => ?_, fun b o ho h => ?_⟩⟩
 ·rcases zBA hid0 hb with ⟨h1, h2⟩ | ⟨h1, h2⟩
  ·have k := m.ok id bk h2
   refine ⟨k.fit, by rw [hloc id h1]; exact k.len, fun j x hx => ?_, fun hm j hj => ?_, fun l hl => ?_⟩
   ·obtain ⟨v, hv, hr⟩ := k.cells j x hx
    rw [hloc id h1]
    exact ⟨v, by rw [hcell _ _ (k7 (by show (E.cell _ _).isSome = true; rw [hv]; rfl))]; exact hv, hr.mono st⟩
   ·rw [hloc id h1] at hj ⊢
    obtain ⟨g1, g2⟩ := k.room hm j hj
    have hlt := k7 g1
    exact ⟨by rw [hcell _ _ hlt]; exact g1, by rw [show (E.fill id0 c t e blk fr).w = E.w.alloc (.cells c t fr) from rfl, hfrz _ _ hlt]; exact g2⟩
   ·rw [hloc id h1]
    exact ⟨(k.mp l hl).1, (k.mp l hl).2.mono st (by show (E.w.heap.push _)[_]? = _; have := (k.mp l hl).2.lt; rw [Array.getElem?_push, if_neg (by omega)])⟩
  ·subst h1
   cases h2
   refine ⟨hf, by rw [hlocn]; exact hl, fun j x hx => ?_, fun _ j hj => ?_, fun l hl => by rw [hl] at hmp; cases hmp⟩
   ·rw [hlocn]
    have hj : j < (zJ blk).length := (List.getElem?_eq_some_iff.1 hx).1
    have hv : c[j]? = some c[j] := Array.getElem?_eq_getElem (by omega)
    exact ⟨c[j], by rw [show (E.w.heap.size, 0, e).2.1 + j = j from Nat.zero_add j]; rw [hcelln]; exact hv, (h j x _ hx hv).mono st⟩
   ·rw [hlocn] at hj ⊢
    simp only [Nat.zero_add]
    refine ⟨?_, ?_⟩
    ·rw [hcelln, Array.getElem?_eq_getElem (by simp at hj; omega)]; rfl
    ·show (E.w.alloc (.cells c t fr)).frozen? ⟨E.w.heap.size, j, none⟩ = false
     rw [show fr = (fr.1, fr.2) from rfl, World.frozen?_alloc_mark]
     have := hfr j hj
     simp only [Bool.and_eq_false_iff, decide_eq_false_iff_not]
     omega
 ·rcases zBA hid0 hi with ⟨h1, h2⟩ | ⟨h1, h2⟩ <;> rcases zBA hid0 hj with ⟨k1, k2⟩ | ⟨k1, k2⟩
  ·unfold yA at hx hy
   rw [hloc _ h1] at hx
   rw [hloc _ k1] at hy
   exact m.dis i j bi bj hij h2 k2 b o hx hy
  ·have hb := m.own_lt ⟨i, bi, h2, by unfold yA at hx ⊢; rwa [hloc _ h1] at hx⟩
   subst k1
   unfold yA at hy
   rw [hlocn] at hy
   have := hy.1
   simp at this
   omega
  ·have hb := m.own_lt ⟨j, bj, k2, by unfold yA at hy ⊢; rwa [hloc _ k1] at hy⟩
   subst h1
   unfold yA at hx
   rw [hlocn] at hx
   have := hx.1
   simp at this
   omega
  ·omega
 ·have := m.roe b o h
  exact Nat.lt_of_lt_of_le this frm.size
 ·rcases hown b o ho with h1 | h1
  ·exact m.rod b o h1 h
  ·have := m.roe b o h
   omega
end Go.Abs
end
section
namespace Go.Abs
open Go
theorem zAM (b : Nat) : ∀ (vs : List Value) (o : Nat) (w : World), (w.setCells b o vs).heap.size = w.heap.size
 | [], _, _ => rfl
 | v :: r, o, w => by rw [World.setCells, zAM b r]; simp [World.setCell]
theorem wK (b k : Nat) (h : k ≠ b) : ∀ (vs : List Value) (o : Nat) (w : World), (w.setCells b o vs).heap[k]? = w.heap[k]?
 | [], _, _ => rfl
 | v :: r, o, w => by
  rw [World.setCells, wK b k h r]
  simp only [World.setCell, Array.getElem?_modify]
  rw [if_neg (by omega)]
theorem zFl (b : Nat) : ∀ (vs : List Value) (o : Nat) (w : World), (w.setCells b o vs).os = w.os ∧ (w.setCells b o vs).tape = w.tape ∧ (w.setCells b o vs).output = w.output
 | [], _, _ => ⟨rfl, rfl, rfl⟩
 | v :: r, o, w => by rw [World.setCells]; exact zFl b r _ _
def Env.put (E : Env) (id q : Nat) (vs : List Value) (blk' : Blk) : Env :=
 {w := E.w.setCells (E.loc id).1 ((E.loc id).2.1 + q) vs, ro := E.ro, loc := E.loc, bl := E.bl.set id (some blk') }
theorem Go.put {E : Env} (m : Mem E) (id q : Nat) (vs : List Value) (blk blk' : Blk) (hb : zF E.bl id = some blk) (hq : q + vs.length ≤ (E.loc id).2.2)
  (hf : zCS blk') (hl : (zJ blk').length ≤ (E.loc id).2.2)
  (h1 : ∀ (j : Nat) x, (zJ blk')[j]? = some x → q ≤ j → j < q + vs.length → ∃ v, vs[j - q]? = some v ∧ VR E true x v)
  (h2 : ∀ (j : Nat) x, (zJ blk')[j]? = some x → (j < q ∨ q + vs.length ≤ j) → (zJ blk)[j]? = some x)
  (s1 : ∀ p q, yS blk p = some q → yS blk' p = some q) (s2 : ∀ p r, zZ blk p = some r → zZ blk' p = some r) (hmp : wB blk' = false := by rfl) : Go E (E.put id q vs blk') := by
 have hid := z4 hb
 have hmp0 : wB blk = false := by
  cases hm : wB blk with
  | false => rfl
  | true =>
   obtain ⟨l, rfl⟩ := zBt hm
   obtain ⟨l', rfl⟩ := zKx (s2 [0, 0] _ rfl)
   cases hmp
 have k := m.ok id blk hb
 have hcells : ∀ j, j < vs.length → (E.w.cell? ⟨(E.loc id).1, (E.loc id).2.1 + q + j, none⟩).isSome = true := fun j hj => by
  have := (k.room hmp0 (q + j) (by omega)).1
  rw [← Nat.add_assoc] at this
  exact this
 have hin : ∀ j (hj : j < vs.length), (E.put id q vs blk').cell (E.loc id).1 ((E.loc id).2.1 + q + j) = some vs[j] := fun j hj => World.cell?_setCells_in _ vs _ E.w hcells j hj
 have hout : ∀ b o, (b = (E.loc id).1 → o < (E.loc id).2.1 + q ∨ (E.loc id).2.1 + q + vs.length ≤ o) → (E.put id q vs blk').cell b o = E.cell b o := fun b o h =>
  World.cell?_setCells_out _ vs _ E.w ⟨b, o, none⟩ fun e _ => h e
 have hfrz : ∀ b o, (E.put id q vs blk').w.frozen? ⟨b, o, none⟩ = E.w.frozen? ⟨b, o, none⟩ := fun b o => World.frozen?_setCells _ vs _ E.w _
 have hnin : ∀ b o, ¬ yA E id b o → (E.put id q vs blk').cell b o = E.cell b o := fun b o h => hout b o fun e => by
  unfold yA at h
  rcases Nat.lt_or_ge o ((E.loc id).2.1 + q) with h' | h'
  ·exact .inl h'
  ·refine .inr ?_
   rcases Nat.lt_or_ge o ((E.loc id).2.1 + q + vs.length) with h'' | h''
   ·exact absurd ⟨e.symm, by omega, by omega⟩ h
   ·exact h''
 have hbl : ∀ i bi, zF (E.put id q vs blk').bl i = some bi → ∃ bi0, zF E.bl i = some bi0 := fun i bi h => by
  by_cases e : id = i
  ·subst e; exact ⟨blk, hb⟩
  ·exact ⟨bi, by rwa [show (E.put id q vs blk').bl = E.bl.set id (some blk') from rfl, yH e] at h⟩
 have hown : ∀ b o, Own (E.put id q vs blk') b o → Own E b o := fun b o ⟨i, bi, h, hx⟩ => by
  obtain ⟨bi0, h0⟩ := hbl i bi h
  exact ⟨i, bi0, h0, hx⟩
 have hsz : (E.put id q vs blk').w.heap.size = E.w.heap.size := zAM _ _ _ _
 have os := zFl (E.loc id).1 vs ((E.loc id).2.1 + q) E.w
 have fr : Fr E (E.put id q vs blk') := by
  refine ⟨os.1, os.2.1, os.2.2, by rw [hsz]; exact Nat.le_refl _, fun b o _ hn => hnin b o fun hx => hn ⟨id, blk, hb, hx⟩, fun b _ hn => ?_, fun b o _ _ => hfrz b o, fun b o h => .inl (hown b o h), fun b o h => .inl h, fun _ _ h => h⟩
  by_cases e : b = (E.loc id).1
  ·by_cases hv : vs = []
   ·subst hv; rfl
   ·have : 0 < vs.length := List.length_pos_iff.2 hv
    exact absurd ⟨id, blk, hb, e.symm, Nat.le_refl _, by omega⟩ (hn (E.loc id).2.1)
  ·exact wK _ _ e _ _ _
 have st : Step E (E.put id q vs blk') := .of_fr m fr (by simp [Env.put]) fun i hi bi h => by
  by_cases e : id = i
  ·subst e
   rw [show (E.put id q vs blk').bl = E.bl.set id (some blk') from rfl, yE hid] at h
   cases h
   exact ⟨blk, hb, rfl, s1, s2⟩
  ·rw [show (E.put id q vs blk').bl = E.bl.set id (some blk') from rfl, yH e] at h
   exact ⟨bi, h, rfl, fun _ _ h => h, fun _ _ h => h⟩
 refine ⟨st, fr, ⟨fun i bi h => ?_, fun i j bi bj hij hi hj b o hx => ?_, fun b o h => ?_, fun b o ho => m.rod b o (hown b o ho)⟩⟩
 ·by_cases e : id = i
  ·subst e
   rw [show (E.put id q vs blk').bl = E.bl.set id (some blk') from rfl, yE hid] at h
   cases h
   refine ⟨hf, hl, fun j x hx => ?_, fun _ j hj => ?_, fun l hl => by rw [hl] at hmp; cases hmp⟩
   ·show ∃ v, (E.put id q vs blk').cell (E.loc id).1 ((E.loc id).2.1 + j) = some v ∧ _
    by_cases hr : q ≤ j ∧ j < q + vs.length
    ·obtain ⟨v, hv, hvr⟩ := h1 j x hx hr.1 hr.2
     refine ⟨v, ?_, hvr.mono st⟩
     have := hin (j - q) (by omega)
     rw [show (E.loc id).2.1 + q + (j - q) = (E.loc id).2.1 + j from by omega] at this
     rw [this]
     rw [List.getElem?_eq_getElem (by omega)] at hv
     exact hv
    ·have hx' := h2 j x hx (by omega)
     obtain ⟨v, hv, hvr⟩ := k.cells j x hx'
     exact ⟨v, by rw [hout _ _ fun _ => by omega]; exact hv, hvr.mono st⟩
   ·show ((E.put id q vs blk').cell (E.loc id).1 ((E.loc id).2.1 + j)).isSome = true ∧ _
    obtain ⟨g1, g2⟩ := k.room hmp0 j hj
    refine ⟨?_, by rw [hfrz]; exact g2⟩
    by_cases hr : q ≤ j ∧ j < q + vs.length
    ·have := hin (j - q) (by omega)
     rw [show (E.loc id).2.1 + q + (j - q) = (E.loc id).2.1 + j from by omega] at this
     rw [this]; rfl
    ·rw [hout _ _ fun _ => by omega]; exact g1
  ·rw [show (E.put id q vs blk').bl = E.bl.set id (some blk') from rfl, yH e] at h
   have ki := m.ok i bi h
   have hne : ∀ j, j < (E.loc i).2.2 → (E.put id q vs blk').cell (E.loc i).1 ((E.loc i).2.1 + j) = E.cell (E.loc i).1 ((E.loc i).2.1 + j) := fun j hj =>
    hnin _ _ (m.dis i id bi blk (Ne.symm e) h hb _ _ ⟨rfl, by omega, by omega⟩)
   refine ⟨ki.fit, ki.len, fun j x hx => ?_, fun hm j hj => ?_, fun l hl => ⟨(ki.mp l hl).1, (ki.mp l hl).2.mono st ?_⟩⟩
   ·obtain ⟨v, hv, hvr⟩ := ki.cells j x hx
    have hj := (List.getElem?_eq_some_iff.1 hx).1
    exact ⟨v, (hne j (Nat.lt_of_lt_of_le hj ki.len)).trans hv, hvr.mono st⟩
   ·obtain ⟨g1, g2⟩ := ki.room hm j hj
    exact ⟨by show ((E.put id q vs blk').cell _ _).isSome = true; rw [show (E.put id q vs blk').loc i = E.loc i from rfl, hne j hj]; exact g1, by rw [hfrz]; exact g2⟩
   ·by_cases hv : vs = []
    ·subst hv; rfl
    ·have : 0 < vs.length := List.length_pos_iff.2 hv
     subst hl
     exact wK _ _ (m.mp_ne h hb hmp0 (by omega)) _ _ _
 ·obtain ⟨bi0, hi0⟩ := hbl i bi hi
  obtain ⟨bj0, hj0⟩ := hbl j bj hj
  exact m.dis i j bi0 bj0 hij hi0 hj0 b o hx
 ·exact Nat.lt_of_lt_of_le (m.roe b o h) fr.size
def Env.reread (E : Env) (id : Nat) (blk' : Blk) : Env := { E with bl := E.bl.set id (some blk') }
theorem Go.reread {E : Env} (m : Mem E) (id : Nat) (blk blk' : Blk) (hb : zF E.bl id = some blk) (hf : zCS blk') (hl : (zJ blk').length ≤ (E.loc id).2.2)
  (h : ∀ (j : Nat) x, (zJ blk')[j]? = some x → ∃ v, E.cell (E.loc id).1 ((E.loc id).2.1 + j) = some v ∧ VR E true x v)
  (s1 : ∀ p q, yS blk p = some q → yS blk' p = some q) (s2 : ∀ p r, zZ blk p = some r → zZ blk' p = some r) (hmp : wB blk' = false := by rfl) : Go E (E.reread id blk') := by
 have hid := z4 hb
 have hmp0 : wB blk = false := by
  cases hm : wB blk with
  | false => rfl
  | true =>
   obtain ⟨l, rfl⟩ := zBt hm
   obtain ⟨l', rfl⟩ := zKx (s2 [0, 0] _ rfl)
   cases hmp
 have hbl : ∀ i bi, zF (E.reread id blk').bl i = some bi → (i = id ∧ bi = blk') ∨ (i ≠ id ∧ zF E.bl i = some bi) := fun i bi h => by
  by_cases e : id = i
  ·subst e
   rw [show (E.reread id blk').bl = E.bl.set id (some blk') from rfl, yE hid] at h
   cases h
   exact .inl ⟨rfl, rfl⟩
  ·rw [show (E.reread id blk').bl = E.bl.set id (some blk') from rfl, yH e] at h
   exact .inr ⟨Ne.symm e, h⟩
 have hbl0 : ∀ i bi, zF (E.reread id blk').bl i = some bi → ∃ bi0, zF E.bl i = some bi0 := fun i bi h => by
  rcases hbl i bi h with ⟨rfl, _⟩ | ⟨_, h⟩
  ·exact ⟨blk, hb⟩
  ·exact ⟨bi, h⟩
 have hown : ∀ b o, Own (E.reread id blk') b o → Own E b o := fun b o ⟨i, bi, h, hx⟩ => by
  obtain ⟨bi0, h0⟩ := hbl0 i bi h
  exact ⟨i, bi0, h0, hx⟩
 have fr : Fr E (E.reread id blk') := ⟨rfl, rfl, rfl, Nat.le_refl _, fun _ _ _ _ => rfl, fun _ _ _ => rfl, fun _ _ _ _ => rfl, fun b o h => .inl (hown b o h), fun _ _ h => .inl h, fun _ _ h => h⟩
 have st : Step E (E.reread id blk') := .of_fr m fr (by simp [Env.reread]) fun i hi bi h => by
  rcases hbl i bi h with ⟨rfl, rfl⟩ | ⟨_, h⟩
  ·exact ⟨blk, hb, rfl, s1, s2⟩
  ·exact ⟨bi, h, rfl, fun _ _ h => h, fun _ _ h => h⟩
 refine ⟨st, fr, ⟨fun i bi hbi => ?_, fun i j bi bj hij hi hj b o hx => ?_, m.roe, fun b o ho => m.rod b o (hown b o ho)⟩⟩
 ·rcases hbl i bi hbi with ⟨rfl, rfl⟩ | ⟨_, hb'⟩
  ·refine ⟨hf, hl, fun j x hx => ?_, fun _ => (m.ok i blk hb).room hmp0, fun l hl => by rw [hl] at hmp; cases hmp⟩
   obtain ⟨v, h1, h2⟩ := h j x hx
   exact ⟨v, h1, h2.mono st⟩
  ·have k := m.ok i bi hb'
   refine ⟨k.fit, k.len, fun j x hx => ?_, k.rom, fun l hl => ⟨(k.mp l hl).1, (k.mp l hl).2.mono st rfl⟩⟩
   obtain ⟨v, g1, g2⟩ := k.cells j x hx
   exact ⟨v, g1, g2.mono st⟩
 ·obtain ⟨bi0, hi0⟩ := hbl0 i bi hi
  obtain ⟨bj0, hj0⟩ := hbl0 j bj hj
  exact m.dis i j bi0 bj0 hij hi0 hj0 b o hx
def Env.kill (E : Env) (id : Nat) : Env := { E with bl := E.bl.set id none }
theorem j5 {bl : zC} {id i : Nat} {bi : Blk} (h : zF (bl.set id none) i = some bi) : i ≠ id ∧ zF bl i = some bi := by
 by_cases e : id = i
 ·subst e
  have := z4 h
  simp at this
  rw [yE this] at h
  cases h
 ·exact ⟨Ne.symm e, by rwa [yH e] at h⟩
theorem Go.kill {E : Env} (m : Mem E) (id : Nat) : Go E (E.kill id) := by
 have hown : ∀ b o, Own (E.kill id) b o → Own E b o := fun b o ⟨i, bi, h, hx⟩ => ⟨i, bi, (j5 h).2, hx⟩
 have fr : Fr E (E.kill id) := ⟨rfl, rfl, rfl, Nat.le_refl _, fun _ _ _ _ => rfl, fun _ _ _ => rfl, fun _ _ _ _ => rfl, fun b o h => .inl (hown b o h), fun _ _ h => .inl h, fun _ _ h => h⟩
 have st : Step E (E.kill id) := .of_fr m fr (by simp [Env.kill]) fun i hi bi h => ⟨bi, (j5 h).2, rfl, fun _ _ h => h, fun _ _ h => h⟩
 refine ⟨st, fr, ⟨fun i bi h => ?_, fun i j bi bj hij hi hj => m.dis i j bi bj hij (j5 hi).2 (j5 hj).2, m.roe, fun b o ho => m.rod b o (hown b o ho)⟩⟩
 have k := m.ok i bi (j5 h).2
 exact ⟨k.fit, k.len, fun j x hx => let ⟨v, h1, h2⟩ := k.cells j x hx; ⟨v, h1, h2.mono st⟩, k.rom, fun l hl => ⟨(k.mp l hl).1, (k.mp l hl).2.mono st rfl⟩⟩
def Env.move (E : Env) (id : Nat) (blk' : Blk) : Env :=
 {w := E.w, ro := E.ro, loc := fun i => if i = E.bl.length then E.loc id else E.loc i, bl := E.bl.set id none ++ [some blk'] }
theorem Go.move {E : Env} (m : Mem E) (id : Nat) (blk blk' : Blk) (hb : zF E.bl id = some blk) (hf : zCS blk') (hl : (zJ blk').length ≤ (E.loc id).2.2)
  (h : ∀ (j : Nat) x, (zJ blk')[j]? = some x → ∃ v, E.cell (E.loc id).1 ((E.loc id).2.1 + j) = some v ∧ VR E true x v) (hmp0 : wB blk = false) (hmp : wB blk' = false := by rfl) : Go E (E.move id blk') := by
 have hid := z4 hb
 have hget : ∀ i bi, zF (E.move id blk').bl i = some bi → (i ≠ id ∧ i < E.bl.length ∧ zF E.bl i = some bi ∧ (E.move id blk').loc i = E.loc i) ∨ (i = E.bl.length ∧ bi = blk' ∧ (E.move id blk').loc i = E.loc id) := fun i bi h => by
  rcases z7 h with ⟨h1, h2⟩ | ⟨h1, h2⟩
  ·obtain ⟨h3, h4⟩ := j5 h2
   have h5 := z4 h4
   exact .inl ⟨h3, h5, h4, by simp [Env.move, Nat.ne_of_lt h5]⟩
  ·simp at h1
   cases h2
   exact .inr ⟨h1, rfl, by simp [Env.move, h1]⟩
 have hext : ∀ i bi, zF (E.move id blk').bl i = some bi → ∀ b o, yA (E.move id blk') i b o → (i ≠ id ∧ zF E.bl i = some bi ∧ yA E i b o) ∨ (i = E.bl.length ∧ yA E id b o) := fun i bi h b o hx => by
  rcases hget i bi h with ⟨h1, h2, h3, h4⟩ | ⟨h1, _, h4⟩
  ·unfold yA at hx ⊢; rw [h4] at hx; exact .inl ⟨h1, h3, hx⟩
  ·unfold yA at hx ⊢; rw [h4] at hx; exact .inr ⟨h1, hx⟩
 have hown : ∀ b o, Own (E.move id blk') b o → Own E b o := fun b o ⟨i, bi, h, hx⟩ => by
  rcases hext i bi h b o hx with ⟨_, h3, hx⟩ | ⟨_, hx⟩
  ·exact ⟨i, bi, h3, hx⟩
  ·exact ⟨id, blk, hb, hx⟩
 have fr : Fr E (E.move id blk') := ⟨rfl, rfl, rfl, Nat.le_refl _, fun _ _ _ _ => rfl, fun _ _ _ => rfl, fun _ _ _ _ => rfl, fun b o h => .inl (hown b o h), fun _ _ h => .inl h, fun _ _ h => h⟩
 have st : Step E (E.move id blk') := .of_fr m fr (by simp [Env.move]) fun i hi bi h => by
  rcases hget i bi h with ⟨h1, h2, h3, h4⟩ | ⟨h1, _, _⟩
  ·exact ⟨bi, h3, h4, fun _ _ h => h, fun _ _ h => h⟩
  ·omega
 refine ⟨st, fr, ⟨fun i bi hbi => ?_, fun i j bi bj hij hi hj b o hx hy => ?_, m.roe, fun b o ho => m.rod b o (hown b o ho)⟩⟩
 ·rcases hget i bi hbi with ⟨h1, h2, h3, h4⟩ | ⟨h1, h2, h4⟩
  ·have k := m.ok i bi h3
   refine ⟨k.fit, by rw [h4]; exact k.len, fun j x hx => ?_, fun hm j hj => ?_, fun l hl => by rw [h4]; exact ⟨(k.mp l hl).1, (k.mp l hl).2.mono st rfl⟩⟩
   ·rw [h4]
    obtain ⟨v, g1, g2⟩ := k.cells j x hx
    exact ⟨v, g1, g2.mono st⟩
   ·rw [h4] at hj ⊢; exact k.room hm j hj
  ·subst h2
   refine ⟨hf, by rw [h4]; exact hl, fun j x hx => ?_, fun _ j hj => ?_, fun l hl => by rw [hl] at hmp; cases hmp⟩
   ·rw [h4]
    obtain ⟨v, g1, g2⟩ := h j x hx
    exact ⟨v, g1, g2.mono st⟩
   ·rw [h4] at hj ⊢; exact (m.ok id blk hb).room hmp0 j hj
 ·rcases hext i bi hi b o hx with ⟨h1, h3, hx⟩ | ⟨h1, hx⟩ <;> rcases hext j bj hj b o hy with ⟨k1, k3, hy⟩ | ⟨k1, hy⟩
  ·exact m.dis i j bi bj hij h3 k3 b o hx hy
  ·exact m.dis i id bi blk h1 h3 hb b o hx hy
  ·exact m.dis j id bj blk k1 k3 hb b o hy hx
  ·omega
def Env.moveS (E : Env) (id s : Nat) (blk' : Blk) : Env :=
 {w := E.w, ro := E.ro, loc := fun i => if i = E.bl.length then ((E.loc id).1, (E.loc id).2.1 + s, (E.loc id).2.2 - s) else E.loc i, bl := E.bl.set id none ++ [some blk'] }
theorem Go.moveS {E : Env} (m : Mem E) (id s : Nat) (blk blk' : Blk) (hb : zF E.bl id = some blk) (hf : zCS blk') (hs : s ≤ (E.loc id).2.2) (hl : s + (zJ blk').length ≤ (E.loc id).2.2)
  (h : ∀ (j : Nat) x, (zJ blk')[j]? = some x → ∃ v, E.cell (E.loc id).1 ((E.loc id).2.1 + s + j) = some v ∧ VR E true x v) (hmp0 : wB blk = false) (hmp : wB blk' = false := by rfl) : Go E (E.moveS id s blk') := by
 have hid := z4 hb
 have hget : ∀ i bi, zF (E.moveS id s blk').bl i = some bi → (i ≠ id ∧ i < E.bl.length ∧ zF E.bl i = some bi ∧ (E.moveS id s blk').loc i = E.loc i) ∨ (i = E.bl.length ∧ bi = blk' ∧ (E.moveS id s blk').loc i = ((E.loc id).1, (E.loc id).2.1 + s, (E.loc id).2.2 - s)) := fun i bi h => by
  rcases z7 h with ⟨h1, h2⟩ | ⟨h1, h2⟩
  ·obtain ⟨h3, h4⟩ := j5 h2
   have h5 := z4 h4
   exact .inl ⟨h3, h5, h4, by simp [Env.moveS, Nat.ne_of_lt h5]⟩
  ·simp at h1
   cases h2
   exact .inr ⟨h1, rfl, by simp [Env.moveS, h1]⟩
 have hext : ∀ i bi, zF (E.moveS id s blk').bl i = some bi → ∀ b o, yA (E.moveS id s blk') i b o → (i ≠ id ∧ zF E.bl i = some bi ∧ yA E i b o) ∨ (i = E.bl.length ∧ yA E id b o) := fun i bi h b o hx => by
  rcases hget i bi h with ⟨h1, h2, h3, h4⟩ | ⟨h1, _, h4⟩
  ·unfold yA at hx ⊢; rw [h4] at hx; exact .inl ⟨h1, h3, hx⟩
  ·unfold yA at hx ⊢; rw [h4] at hx; obtain ⟨x1, x2, x3⟩ := hx; exact .inr ⟨h1, x1, by simp at x2; omega, by simp at x3; omega⟩
 have hown : ∀ b o, Own (E.moveS id s blk') b o → Own E b o := fun b o ⟨i, bi, h, hx⟩ => by
  rcases hext i bi h b o hx with ⟨_, h3, hx⟩ | ⟨_, hx⟩
  ·exact ⟨i, bi, h3, hx⟩
  ·exact ⟨id, blk, hb, hx⟩
 have fr : Fr E (E.moveS id s blk') := ⟨rfl, rfl, rfl, Nat.le_refl _, fun _ _ _ _ => rfl, fun _ _ _ => rfl, fun _ _ _ _ => rfl, fun b o h => .inl (hown b o h), fun _ _ h => .inl h, fun _ _ h => h⟩
 have st : Step E (E.moveS id s blk') := .of_fr m fr (by simp [Env.moveS]) fun i hi bi h => by
  rcases hget i bi h with ⟨h1, h2, h3, h4⟩ | ⟨h1, _, _⟩
  ·exact ⟨bi, h3, h4, fun _ _ h => h, fun _ _ h => h⟩
  ·omega
 refine ⟨st, fr, ⟨fun i bi hbi => ?_, fun i j bi bj hij hi hj b o hx hy => ?_, m.roe, fun b o ho => m.rod b o (hown b o ho)⟩⟩
 ·rcases hget i bi hbi with ⟨h1, h2, h3, h4⟩ | ⟨h1, h2, h4⟩
  ·have k := m.ok i bi h3
   refine ⟨k.fit, by rw [h4]; exact k.len, fun j x hx => ?_, fun hm j hj => ?_, fun l hl => by rw [h4]; exact ⟨(k.mp l hl).1, (k.mp l hl).2.mono st rfl⟩⟩
   ·rw [h4]
    obtain ⟨v, g1, g2⟩ := k.cells j x hx
    exact ⟨v, g1, g2.mono st⟩
   ·rw [h4] at hj ⊢; exact k.room hm j hj
  ·subst h2
   refine ⟨hf, by rw [h4]; simp; omega, fun j x hx => ?_, fun _ j hj => ?_, fun l hl => by rw [hl] at hmp; cases hmp⟩
   ·rw [h4]
    obtain ⟨v, g1, g2⟩ := h j x hx
    exact ⟨v, g1, g2.mono st⟩
   ·rw [h4] at hj ⊢
    have := (m.ok id blk hb).room hmp0 (s + j) (by simp at hj; omega)
    rw [← Nat.add_assoc] at this
    exact this
 ·rcases hext i bi hi b o hx with ⟨h1, h3, hx⟩ | ⟨h1, hx⟩ <;> rcases hext j bj hj b o hy with ⟨k1, k3, hy⟩ | ⟨k1, hy⟩
  ·exact m.dis i j bi bj hij h3 k3 b o hx hy
  ·exact m.dis i id bi blk h1 h3 hb b o hx hy
  ·exact m.dis j id bj blk k1 k3 hb b o hy hx
  ·omega
def Env.newMp (E : Env) : Env := { E with w := E.w.alloc (.map #[] 0), ro := fun b o => E.ro b o ∨ (b = E.w.heap.size ∧ o = 0) }
theorem Go.newMp {E : Env} (m : Mem E) : Go E E.newMp ∧ VR E.newMp true (.rmap []) (.map (some E.w.heap.size)) := by
 have hcell : ∀ b o, b < E.w.heap.size → E.newMp.cell b o = E.cell b o := fun b o hb => World.cell?_alloc_lt _ _ _ hb
 have hfrz : ∀ b o, b < E.w.heap.size → E.newMp.w.frozen? ⟨b, o, none⟩ = E.w.frozen? ⟨b, o, none⟩ := fun b o hb => World.frozen?_alloc_old _ _ _ (by show b ≠ _; omega)
 have frm : Fr E E.newMp := ⟨rfl, rfl, rfl, by show _ ≤ (E.w.heap.push _).size; simp, fun b o hb _ => hcell b o hb,
  fun b hb _ => by show (E.w.heap.push _)[b]? = _; rw [Array.getElem?_push, if_neg (by omega)], fun b o hb _ => hfrz b o hb, fun _ _ h => .inl h, fun b o h => by
   rcases h with h | h
   ·exact .inl h
   ·exact .inr (.inr (by omega)), fun _ _ h => .inl h⟩
 have st : Step E E.newMp := .of_fr m frm (Nat.le_refl _) fun id hid blk' hb => ⟨blk', hb, rfl, fun _ _ h => h, fun _ _ h => h⟩
 refine ⟨⟨st, frm, ⟨fun id bk hb => ?_, m.dis, fun b o h => ?_, fun b o ho h => ?_⟩⟩, .rmap _ _ _ #[] 0 (.inr ⟨rfl, rfl⟩) ?_ rfl ⟨by simp, by simp⟩ (by simp) (by simp) (by simp)⟩
 ·have k := m.ok id bk hb
  refine ⟨k.fit, k.len, fun j x hx => ?_, fun hm j hj => ?_, fun l hl => ⟨(k.mp l hl).1, (k.mp l hl).2.mono st (by show (E.w.heap.push _)[_]? = _; have := (k.mp l hl).2.lt; rw [Array.getElem?_push, if_neg (by show ¬ (E.loc id).1 = _; omega)])⟩⟩
  ·obtain ⟨v, hv, hr⟩ := k.cells j x hx
   exact ⟨v, by rw [show E.newMp.loc = E.loc from rfl, hcell _ _ (k7 (by show (E.cell _ _).isSome = true; rw [hv]; rfl))]; exact hv, hr.mono st⟩
  ·obtain ⟨g1, g2⟩ := k.room hm j hj
   have hlt := k7 g1
   exact ⟨by rw [show E.newMp.loc = E.loc from rfl, hcell _ _ hlt]; exact g1, by rw [show E.newMp.loc = E.loc from rfl, hfrz _ _ hlt]; exact g2⟩
 ·show b < (E.w.heap.push _).size
  rcases h with h | h
  ·have := m.roe b o h; simp; omega
  ·simp; omega
 ·rcases h with h | h
  ·exact m.rod b o ho h
  ·have := m.own_lt (show Own E b o from ho); omega
 ·show (E.w.heap.push _)[E.w.heap.size]? = _
  simp
def Env.newMo (E : Env) : Env := { w := E.w.alloc (.map #[] 0), ro := E.ro, loc := fun i => if i = E.bl.length then (E.w.heap.size, 0, 1) else E.loc i, bl := E.bl ++ [some (.mp [])] }
theorem Go.newMo {E : Env} (m : Mem E) : Go E E.newMo ∧ VR E.newMo true (.own E.bl.length 0) (.map (some E.w.heap.size)) := by
 have hloc : ∀ i, i < E.bl.length → E.newMo.loc i = E.loc i := fun i hi => by simp [Env.newMo, Nat.ne_of_lt hi]
 have hlocn : E.newMo.loc E.bl.length = (E.w.heap.size, 0, 1) := by simp [Env.newMo]
 have hcell : ∀ b o, b < E.w.heap.size → E.newMo.cell b o = E.cell b o := fun b o hb => World.cell?_alloc_lt _ _ _ hb
 have hfrz : ∀ b o, b < E.w.heap.size → E.newMo.w.frozen? ⟨b, o, none⟩ = E.w.frozen? ⟨b, o, none⟩ := fun b o hb => World.frozen?_alloc_old _ _ _ (by show b ≠ _; omega)
 have hheap : ∀ b, b < E.w.heap.size → E.newMo.w.heap[b]? = E.w.heap[b]? := fun b hb => by show (E.w.heap.push _)[b]? = _; rw [Array.getElem?_push, if_neg (by omega)]
 have hown : ∀ b o, Own E.newMo b o → Own E b o ∨ E.w.heap.size ≤ b := fun b o ⟨id, bk, hb, hx⟩ => by
  rcases z7 hb with ⟨h1, h2⟩ | ⟨h1, _⟩
  ·refine .inl ⟨id, bk, h2, ?_⟩
   unfold yA at hx ⊢
   rwa [hloc id h1] at hx
  ·subst h1
   unfold yA at hx
   rw [hlocn] at hx
   exact .inr (by have := hx.1; simp at this; omega)
 have frm : Fr E E.newMo := ⟨rfl, rfl, rfl, by show _ ≤ (E.w.heap.push _).size; simp, fun b o hb _ => hcell b o hb,
  fun b hb _ => hheap b hb, fun b o hb _ => hfrz b o hb, hown, fun b o h => .inl h, fun _ _ h => h⟩
 have st : Step E E.newMo := .of_fr m frm (by simp [Env.newMo]) fun id hid blk' hb => by
  have : zF E.bl id = some blk' := by rwa [show E.newMo.bl = E.bl ++ [some (.mp [])] from rfl, kC hid] at hb
  exact ⟨blk', this, hloc id hid, fun _ _ h => h, fun _ _ h => h⟩
 have hnew : E.newMo.w.heap[E.w.heap.size]? = some (.map #[] 0) := by show (E.w.heap.push _)[E.w.heap.size]? = _; simp
 refine ⟨⟨st, frm, ⟨fun id bk hb => ?_, fun i j bi bj hij hi hj b o hx hy => ?_, fun b o h => ?_, fun b o ho h => ?_⟩⟩, .mown _ _ (by simp [Env.newMo]) fun blk hb => ?_⟩
 ·rcases z7 hb with ⟨h1, h2⟩ | ⟨h1, h2⟩
  ·have k := m.ok id bk h2
   refine ⟨k.fit, by rw [hloc id h1]; exact k.len, fun j x hx => ?_, fun hm j hj => ?_, fun l hl => ?_⟩
   ·obtain ⟨v, hv, hr⟩ := k.cells j x hx
    rw [hloc id h1]
    exact ⟨v, by rw [hcell _ _ (k7 (by show (E.cell _ _).isSome = true; rw [hv]; rfl))]; exact hv, hr.mono st⟩
   ·rw [hloc id h1] at hj ⊢
    obtain ⟨g1, g2⟩ := k.room hm j hj
    have hlt := k7 g1
    exact ⟨by rw [hcell _ _ hlt]; exact g1, by rw [hfrz _ _ hlt]; exact g2⟩
   ·rw [hloc id h1]
    exact ⟨(k.mp l hl).1, (k.mp l hl).2.mono st (hheap _ (k.mp l hl).2.lt)⟩
  ·subst h1
   cases h2
   refine ⟨fun x hx => by simp at hx, by simp [zJ], fun j x hx => by simp [zJ] at hx, fun hm => by simp [wB] at hm, fun l hl => ?_⟩
   cases hl
   rw [hlocn]
   exact ⟨rfl, #[], 0, hnew, rfl, ⟨by simp, by simp⟩, fun j e k v he => by simp at he⟩
 ·rcases z7 hi with ⟨h1, h2⟩ | ⟨h1, h2⟩ <;> rcases z7 hj with ⟨k1, k2⟩ | ⟨k1, k2⟩
  ·unfold yA at hx hy
   rw [hloc _ h1] at hx
   rw [hloc _ k1] at hy
   exact m.dis i j bi bj hij h2 k2 b o hx hy
  ·have hb := m.own_lt ⟨i, bi, h2, by unfold yA at hx ⊢; rwa [hloc _ h1] at hx⟩
   subst k1
   unfold yA at hy
   rw [hlocn] at hy
   have := hy.1
   simp at this
   omega
  ·have hb := m.own_lt ⟨j, bj, k2, by unfold yA at hy ⊢; rwa [hloc _ k1] at hy⟩
   subst h1
   unfold yA at hx
   rw [hlocn] at hx
   have := hx.1
   simp at this
   omega
  ·omega
 ·have := m.roe b o h
  exact Nat.lt_of_lt_of_le this frm.size
 ·rcases hown b o ho with h1 | h1
  ·exact m.rod b o h1 h
  ·have := m.roe b o h
   omega
 ·rw [show E.newMo.bl = E.bl ++ [some (.mp [])] from rfl, kO] at hb
  cases hb
  exact ⟨rfl, by rw [hlocn]⟩
def Env.mset (E : Env) (id : Nat) (es : Array MapEntry) (c : Nat) (l : List AV) : Env :=
 {w := { E.w with heap := E.w.heap.setIfInBounds (E.loc id).1 (.map es c) }, ro := E.ro, loc := E.loc, bl := E.bl.set id (some (.mp l)) }
theorem Go.mset {E : Env} (m : Mem E) (id : Nat) (l0 l : List AV) (hb : zF E.bl id = some (.mp l0)) (es : Array MapEntry) (c : Nat) (hs : es.size = l.length) (hst : wP es c) (hl : ∀ x ∈ l, Ent x)
  (h : ∀ (j : Nat) e k v, es[j]? = some e → l[j]? = some (.agg [k, v]) → VR E false k e.key ∧ VR E false v e.val) : Go E (E.mset id es c l) := by
 have hid := z4 hb
 obtain ⟨hloc, es0, c0, hr, _⟩ := (m.ok id _ hb).mp l0 rfl
 have hrl := (Array.getElem?_eq_some_iff.1 hr).1
 have hne : ∀ b, b ≠ (E.loc id).1 → (E.mset id es c l).w.heap[b]? = E.w.heap[b]? := fun b hb => by
  show (E.w.heap.setIfInBounds _ _)[b]? = _
  rw [Array.getElem?_setIfInBounds, if_neg (Ne.symm hb)]
 have hat : (E.mset id es c l).w.heap[(E.loc id).1]? = some (.map es c) := by
  show (E.w.heap.setIfInBounds _ _)[(E.loc id).1]? = _
  rw [Array.getElem?_setIfInBounds, if_pos rfl, if_pos hrl]
 have hcell : ∀ b o, (E.mset id es c l).cell b o = E.cell b o := fun b o => by
  by_cases e : b = (E.loc id).1
  ·subst e; simp [Env.cell, World.cell?, hat, hr]
  ·simp only [Env.cell, World.cell?, hne b e]
 have hfrz : ∀ b o, (E.mset id es c l).w.frozen? ⟨b, o, none⟩ = E.w.frozen? ⟨b, o, none⟩ := fun b o => by
  by_cases e : b = (E.loc id).1
  ·subst e; simp [World.frozen?, hat, hr]
  ·simp only [World.frozen?, hne b e]
 have hbl : ∀ i bi, zF (E.mset id es c l).bl i = some bi → (i = id ∧ bi = .mp l) ∨ (i ≠ id ∧ zF E.bl i = some bi) := fun i bi h => by
  by_cases e : id = i
  ·subst e
   rw [show (E.mset id es c l).bl = E.bl.set id (some (.mp l)) from rfl, yE hid] at h
   cases h
   exact .inl ⟨rfl, rfl⟩
  ·rw [show (E.mset id es c l).bl = E.bl.set id (some (.mp l)) from rfl, yH e] at h
   exact .inr ⟨Ne.symm e, h⟩
 have hbl0 : ∀ i bi, zF (E.mset id es c l).bl i = some bi → ∃ bi0, zF E.bl i = some bi0 := fun i bi h => by
  rcases hbl i bi h with ⟨rfl, _⟩ | ⟨_, h⟩
  ·exact ⟨_, hb⟩
  ·exact ⟨bi, h⟩
 have hown : ∀ b o, Own (E.mset id es c l) b o → Own E b o := fun b o ⟨i, bi, h, hx⟩ => by
  obtain ⟨bi0, h0⟩ := hbl0 i bi h
  exact ⟨i, bi0, h0, hx⟩
 have hownr : Own E (E.loc id).1 0 := ⟨id, _, hb, rfl, by rw [hloc]; exact Nat.le_refl _, by rw [hloc]; exact Nat.zero_lt_one⟩
 have fr : Fr E (E.mset id es c l) := ⟨rfl, rfl, rfl, by show _ ≤ (E.w.heap.setIfInBounds _ _).size; simp, fun b o _ _ => hcell b o,
  fun b _ hn => hne b fun e => hn 0 (e ▸ hownr), fun b o _ _ => hfrz b o, fun b o h => .inl (hown b o h), fun _ _ h => .inl h, fun _ _ h => h⟩
 have st : Step E (E.mset id es c l) := .of_fr m fr (by simp [Env.mset]) fun i hi bi h => by
  rcases hbl i bi h with ⟨rfl, rfl⟩ | ⟨_, h⟩
  ·exact ⟨_, hb, rfl, fun p q h => by simp [yS] at h, fun p r h => h⟩
  ·exact ⟨bi, h, rfl, fun _ _ h => h, fun _ _ h => h⟩
 refine ⟨st, fr, ⟨fun i bi hbi => ?_, fun i j bi bj hij hi hj b o hx => ?_, fun b o h => Nat.lt_of_lt_of_le (m.roe b o h) fr.size, fun b o ho => m.rod b o (hown b o ho)⟩⟩
 ·rcases hbl i bi hbi with ⟨rfl, rfl⟩ | ⟨hi, hb'⟩
  ·refine ⟨hl, by simp [zJ], fun j x hx => by simp [zJ] at hx, fun hm => by simp [wB] at hm, fun l' hl' => ?_⟩
   cases hl'
   exact ⟨hloc, es, c, hat, hs, hst, fun j e k v he hk => ⟨(h j e k v he hk).1.mono st, (h j e k v he hk).2.mono st⟩⟩
  ·have k := m.ok i bi hb'
   refine ⟨k.fit, k.len, fun j x hx => ?_, fun hm j hj => ?_, fun l' hl' => ⟨(k.mp l' hl').1, (k.mp l' hl').2.mono st (hne _ fun e => ?_)⟩⟩
   ·obtain ⟨v, g1, g2⟩ := k.cells j x hx
    exact ⟨v, (hcell _ _).trans g1, g2.mono st⟩
   ·obtain ⟨g1, g2⟩ := k.room hm j hj
    exact ⟨by rw [hcell]; exact g1, by rw [hfrz]; exact g2⟩
   ·have e2 := (k.mp l' hl').1
    exact m.dis i id bi _ hi hb' hb (E.loc id).1 0 ⟨e, by rw [e2]; exact Nat.le_refl _, by rw [e2]; exact Nat.zero_lt_one⟩ ⟨rfl, by rw [hloc]; exact Nat.le_refl _, by rw [hloc]; exact Nat.zero_lt_one⟩
 ·obtain ⟨bi0, hi0⟩ := hbl0 i bi hi
  obtain ⟨bj0, hj0⟩ := hbl0 j bj hj
  exact m.dis i j bi0 bj0 hij hi0 hj0 b o hx
end Go.Abs
end
section
namespace Go.Abs
open Go
inductive Cat where
 | pure | read | write
 deriving DecidableEq
mutual
def kR : AV → Bool
 | .rptr _ | .rints _ _ | .robjs _ _ _ | .errv _ _ _ | .rmap _ => false
 | .agg kids => zAK kids
 | .tup kids => zAK kids
 | .fn _ a b => zAK a && zAK b
 | .iface _ v => kR v
 | _ => true
def zAK : List AV → Bool
 | [] => true
 | x :: r => kR x && zAK r
end
mutual
def ids : AV → List Nat
 | .ptr id _ | .aptr id _ _ _ | .slice id _ _ _ _ | .own id _ => [id]
 | .agg kids => qZ kids
 | .tup kids => qZ kids
 | .fn _ a b => qZ a ++ qZ b
 | .iface _ v => ids v
 | _ => []
def qZ : List AV → List Nat
 | [] => []
 | x :: r => ids x ++ qZ r
end
mutual
def ren (f : Nat → Option Nat) : AV → AV
 | .ptr id p => match f id with | some j => .ptr j p | none => .any
 | .aptr id p s n => match f id with | some j => .aptr j p s n | none => .any
 | .slice id p s l w => match f id with | some j => .slice j p s l w | none => .any
 | .own id w => match f id with | some j => .own j w | none => .any
 | .agg kids => .agg (zBg f kids)
 | .tup kids => .tup (zBg f kids)
 | .fn g a b => .fn g (zBg f a) (zBg f b)
 | .iface t v => .iface t (ren f v)
 | x => x
def zBg (f : Nat → Option Nat) : List AV → List AV
 | [] => []
 | x :: r => ren f x :: zBg f r
end
def qG (f : Nat → Option Nat) : Blk → Blk
 | .var v => .var (ren f v)
 | .ints k l => .ints k l
 | .objs e w l => .objs e w l
 | .mp l => .mp l
 | .free => .free
def zLo : Option Blk → List Nat
 | some (.var v) => ids v
 | _ => []
section
variable (P : Program)
def zAi (t : TypeId) : Option IntKind := match P.underlying t with | some (.int k) => some k | _ => none
def zP (t : TypeId) : Nat := match P.info? t with | some i => i.size | none => 0
def qF (t : TypeId) (w : Nat) : Bool := zP P t == w && w != 0 && (match P.info? t with | some i => (match i.zero with | some z => z.cells.size == i.size | none => false) | none => false)
def zAR (t : TypeId) : Nat := match P.info? t with | some i => i.bytes | none => 0
def kN (cf : TypeId → AV → Bool) : List Field → List AV → Nat → Bool
 | [], [], _ => true
 | a :: fs, y :: kids, off => a.offset == off && zP P a.type == width y && cf a.type y && kN cf fs kids (off + width y)
 | _, _, _ => false
def yJ : Nat → TypeId → AV → Bool
 | 0, _, _ => false
 | f + 1, t, x =>
  match P.underlying t, x with
  | some .bool, .bool _ => zP P t == 1
  | some (.int k), .int k' _ => decide (k = k') && zP P t == 1
  | some .string, .str _ => zP P t == 1
  | some (.pointer _), .nilp | some (.pointer _), .ptr _ _ | some (.pointer _), .rptr _ | some (.pointer _), .aptr _ _ _ _ => zP P t == 1
  | some (.slice _), .snil | some (.slice _), .slice _ _ _ _ _ | some (.slice _), .own _ _ | some (.slice _), .rints _ _ | some (.slice _), .robjs _ _ _ => zP P t == 1
  | some (.interface _), .nili | some (.interface _), .iface _ _ | some (.interface _), .errv _ _ _ | some (.map _ _), .rmap _ | some (.map _ _), .own _ _ | some (.map _ _), .raw (.map none) => zP P t == 1
  | some (.func ..), .nilf | some (.func ..), .fn _ _ _ => zP P t == 1
  | some (.array n e), .ints k m _ => n == m && decide (zAi P e = some k) && zP P e == 1 && zP P t == n
  | some (.array n e), .agg kids => kids.length == n && kids.all (fun y => yJ f e y && width y == zP P e) && zP P t == zX kids
  | some (.struct fs), .agg kids => kN P (yJ f) fs.toList kids 0 && zP P t == zX kids
  | _, _ => false
def zBX : Nat → TypeId → Bool
 | 0, _ => false
 | f + 1, t =>
  match P.underlying t with
  | some .bool | some (.int _) | some .string => true
  | some (.array _ e) => zBX f e
  | some (.struct fs) => !P.stoodInHeld t && fs.toList.all fun a => a.name != "_" && zBX f a.type
  | _ => false
def zJO : Nat → TypeId → Option AV
 | 0, _ => none
 | f + 1, t =>
  match P.underlying t with
  | some .bool => some (.bool false)
  | some (.int k) => some (.int k 0)
  | some .string => some (.str ByteArray.empty)
  | some (.pointer _) => some .nilp
  | some (.slice _) => some .snil
  | some (.interface _) => some .nili
  | some (.func ..) => some .nilf
  | some (.map _ _) => some (.raw (.map none))
  | some (.array n e) => match P.underlying e with
   | some (.int k) => some (.ints k n (List.replicate n 0))
   | _ => match zJO f e with | some z => some (.agg (List.replicate n z)) | none => none
  | some (.struct fs) => match zeros (zJO f) fs.toList with | some l => some (.agg l) | none => none
  | _ => none
where
 zeros (z : TypeId → Option AV) : List Field → Option (List AV)
  | [] => some []
  | a :: r => match z a.type, zeros z r with | some x, some l => some (x :: l) | _, _ => none
def zEO : AV → Value → Bool
 | .int k n, .int k' m => decide (k = k') && n == m
 | .bool a, .bool b => a == b
 | .str a, .string b => a.size == 0 && b.size == 0
 | .snil, .slice none 0 0 => true
 | .nilp, .pointer none => true
 | .nilf, .nilFunc => true
 | .nili, .nilIface => true
 | .raw (.map none), .map none => true
 | _, _ => false
def zBy : List AV → List Value → Bool
 | [], [] => true
 | x :: a, v :: b => zEO x v && zBy a b
 | _, _ => false
mutual
def zMD : AV → Bool
 | .agg kids => zKH kids
 | .ints _ n l => l.length == n
 | _ => true
def zKH : List AV → Bool
 | [] => true
 | x :: r => zMD x && zKH r
end
def zAe (t : TypeId) : Option AV :=
 match zJO P 8 t, P.info? t with
 | some x, some i => match i.zero with
  | some (.agg cs) => match x with
   | .agg _ | .ints _ _ _ => if (zBy (zH x) cs.toList && zMD x) = true then some x else none
   | _ => none
  | some v => match x with
   | .agg _ | .ints _ _ _ => none
   | _ => if zEO x v = true then some x else none
  | none => none
 | _, _ => none
end
def zD {T R : Type} (x : Option T) (f : T → Option R) : Option R := x.bind f
def tkBool : AV → Option Bool
 | .bool b => some b
 | _ => none
def tkInt (k : IntKind) : AV → Option Int
 | .int k' n => if k' = k then some n else none
 | _ => none
def tkStr : AV → Option ByteArray
 | .str s => some s
 | _ => none
def tkInts (k : IntKind) (n : Nat) : AV → Option (List Int)
 | .ints k' m l => if k' = k then (if m = n then some l else none) else none
 | _ => none
def tkRints (k : IntKind) : AV → Option (List Int)
 | .rints k' l => if k' = k then some l else none
 | .snil => some []
 | _ => none
def tkRobjs (e w : Nat) : AV → Option (List AV)
 | .robjs e' w' l => if e' = e then (if w' = w then some l else none) else none
 | .snil => some []
 | _ => none
def tkAgg (n : Nat) : AV → Option (List AV)
 | .agg l => if l.length = n then some l else none
 | _ => none
section
variable {R : Type} (P : Program)
def zEr (dec : TypeId → AV → (AV → Option R) → Option R) : List TypeId → Nat → List AV → (List AV → Option R) → Option R
 | [], _, _, K => K []
 | a :: ts, i, kids, K => dec a (kids.getD i .any) fun y => zEr dec ts (i + 1) kids fun r => K (y :: r)
def zBi : Nat → TypeId → AV → (AV → Option R) → Option R
 | 0, _, _, _ => none
 | f + 1, t, x, K =>
  match P.underlying t with
  | some .bool => zD (tkBool x) fun b => K (.bool b)
  | some (.int k) => zD (tkInt k x) fun n => K (.int k n)
  | some .string => zD (tkStr x) fun s => K (.str s)
  | some (.slice e) => match zAi P e with
   | some k => zD (tkRints k x) fun l => K (.rints k l)
   | none => zD (tkRobjs e (zP P e) x) fun l => K (.robjs e (zP P e) l)
  | some (.array n e) => match zAi P e with
   | some k => zD (tkInts k n x) fun l => K (.ints k n l)
   | none => zD (tkAgg n x) fun kids => zEr (zBi f) (List.replicate n e) 0 kids fun l => K (.agg l)
  | some (.struct fs) => zD (tkAgg fs.size x) fun kids => zEr (zBi f) (fs.toList.map (·.type)) 0 kids fun l => K (.agg l)
  | _ => none
end
def zCB : Blk → List Nat → Option AV
 | .var v, p => zM v p
 | .ints k l, [i] => some (.int k (l.getD i 0))
 | .objs _ _ l, i :: p => zM (l.getD i .any) p
 | _, _ => none
def zBK : Blk → List Nat → AV → Option Blk
 | .var v, p, x => match kH v p x with | some v' => some (.var v') | none => none
 | .ints k l, [i], .int k' y => if k = k' then some (.ints k (l.set i y)) else none
 | _, _, _ => none
def ibits (op : BinOp) (k : IntKind) (a b : Int) : Int :=
 match op with
 | .and => k.wrap (BitVec.ofInt k.bits a &&& BitVec.ofInt k.bits b).toNat
 | .or => k.wrap (BitVec.ofInt k.bits a ||| BitVec.ofInt k.bits b).toNat
 | .xor => k.wrap (BitVec.ofInt k.bits a ^^^ BitVec.ofInt k.bits b).toNat
 | _ => k.wrap (BitVec.ofInt k.bits a &&& ~~~BitVec.ofInt k.bits b).toNat
def ishl (k : IntKind) (a b : Int) : Int := k.wrap (a * 2 ^ min b.toNat k.bits)
def ishr (k : IntKind) (a b : Int) : Int := a.fdiv (2 ^ min b.toNat k.bits)
section
variable {R : Type}
def zMW (op : BinOp) (x y : AV) (K : AV → Option R) : Option R :=
 match op, x, y with
 | .shl, .int k a, .int _ b => if 0 ≤ b then K (.int k (ishl k a b)) else none
 | .shr, .int k a, .int _ b => if 0 ≤ b then K (.int k (ishr k a b)) else none
 | .add, .int k a, .int k' b => if k = k' then K (.int k (k.wrap (a + b))) else none
 | .sub, .int k a, .int k' b => if k = k' then K (.int k (k.wrap (a - b))) else none
 | .mul, .int k a, .int k' b => if k = k' then K (.int k (k.wrap (a * b))) else none
 | .quo, .int k a, .int k' b => if k = k' then (if b = 0 then none else K (.int k (k.wrap (a.tdiv b)))) else none
 | .rem, .int k a, .int k' b => if k = k' then (if b = 0 then none else K (.int k (a.tmod b))) else none
 | .and, .int k a, .int k' b | .or, .int k a, .int k' b | .xor, .int k a, .int k' b | .andNot, .int k a, .int k' b =>
  if k = k' then K (.int k (ibits op k a b)) else none
 | .eql, .int k a, .int k' b => if k = k' then K (.bool (a == b)) else none
 | .neq, .int k a, .int k' b => if k = k' then K (.bool (a != b)) else none
 | .lss, .int k a, .int k' b => if k = k' then K (.bool (decide (a < b))) else none
 | .leq, .int k a, .int k' b => if k = k' then K (.bool (decide (a ≤ b))) else none
 | .gtr, .int k a, .int k' b => if k = k' then K (.bool (decide (a > b))) else none
 | .geq, .int k a, .int k' b => if k = k' then K (.bool (decide (a ≥ b))) else none
 | .eql, .str a, .str b => K (.bool (a.toList == b.toList))
 | .neq, .str a, .str b => K (.bool (!(a.toList == b.toList)))
 | .add, .str a, .str b => if a.size + b.size ≤ 1152921504606846976 then K (.str (a ++ b)) else none
 | _, _, _ => none
mutual
def qT : AV → AV → Option Bool
 | .bool a, .bool b => some (a == b)
 | .int k a, .int k' b => if k = k' then some (a == b) else none
 | .str a, .str b => some (a == b)
 | .ints k n l, .ints k' m r => if k = k' then (if n = m then some (l == r) else none) else none
 | .agg a, .agg b => k9 a b
 | _, _ => none
def k9 : List AV → List AV → Option Bool
 | [], [] => some true
 | x :: a, y :: b => match qT x y, k9 a b with | some p, some q => some (p && q) | _, _ => none
 | _, _ => none
end
def qH (k : AV) : List AV → Option (Option Nat)
 | [] => some none
 | x :: r => match x with
  | .agg [k', _] => match qT k k' with
   | some true => some (some 0)
   | some false => match qH k r with | some (some i) => some (some (i + 1)) | some none => some none | none => none
   | none => none
  | _ => none
def zIF : AV → AV
 | .agg [_, v] => v
 | _ => .any
def mgetL (k z : AV) (l : List AV) : Option (AV × Bool) := match qH k l with
 | some (some i) => some (zIF (l.getD i .any), true)
 | some none => some (z, false)
 | none => none
def mputL (k v : AV) (l : List AV) : Option (List AV) := match qH k l with
 | some (some i) => some (l.set i (.agg [k, v]))
 | some none => some (l ++ [.agg [k, v]])
 | none => none
def mdelL (k : AV) (l : List AV) : Option (List AV) := match qH k l with
 | some (some i) => some (l.eraseIdx i)
 | some none => some l
 | none => none
def unK (op : UnOp) (x : AV) (K : AV → Option R) : Option R :=
 match op, x with
 | .neg, .int k n => K (.int k (k.wrap (0 - n)))
 | .xor, .int k n => K (.int k (ibits .xor k (if k.signed then -1 else k.max) n))
 | .not, .bool b => K (.bool !b)
 | _, _ => none
def bytesOf (s : ByteArray) : List Int := s.data.toList.map fun b => (b.toNat : Int)
def strOf (l : List Int) : ByteArray := ⟨(l.map fun n => UInt8.ofNat n.toNat).toArray⟩
def jT (lo hi : Option AV) (n : Nat) (K : Nat → Option Nat → Option R) : Option R :=
 match lo, hi with
 | none, none => K 0 none
 | some (.int _ l), none => if 0 ≤ l then (if l ≤ (n : Int) then K l.toNat none else none) else none
 | none, some (.int _ h) => if 0 ≤ h then (if h ≤ (n : Int) then K 0 (some h.toNat) else none) else none
 | some (.int _ l), some (.int _ h) => if 0 ≤ h then (if h ≤ (n : Int) then (if 0 ≤ l then (if l ≤ h then K l.toNat (some h.toNat) else none) else none) else none) else none
 | _, _ => none
def cut {α : Type} (l : List α) (lo : Nat) : Option Nat → List α
 | none => l.drop lo
 | some h => (l.drop lo).take (h - lo)
def span (n lo : Nat) : Option Nat → Nat
 | none => n - lo
 | some h => h - lo
end
end Go.Abs
end
