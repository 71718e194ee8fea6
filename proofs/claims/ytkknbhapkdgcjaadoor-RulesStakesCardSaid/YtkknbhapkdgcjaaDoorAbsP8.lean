/- An executor of the model's code over abstract values, and that it is right: what it tells of a run is what the run does. No condition. -/
import Derived.Test.YtkknbhapkdgcjaaDoorAbsP7
import Derived.Carry
import Derived.WalkKit
import Derived.ProofKit
import Derived.OpenShut
import Derived.Handed
import Derived.LaidLaws
import Derived.MakeChecks
import Derived.FnData
import Derived.Laws.Externs
import Derived.Lay
import Derived.LaidHandle
import Derived.LaidSub
import Derived.Stop.Joined
import Derived.Maps.RangeRun
import Derived.Below
section
set_option linter.unusedVariables false
set_option linter.unusedSimpArgs false
namespace Go.Abs
open Go Go.RowKit Go.ChangeShapes Go.WideShapes
theorem vr_of_rd {P : Program} {w : World} {a : AV} {t : TypeId} {v : Value} {r : Reach} {base : Nat} (ha : AVT P t a) (h : Rd w a v.cells.toList) (hv : Value.okWide P w r base t v) : VR (E0 w) false a v := by
 have leaf : flat a = [a] → (∀ cs, v ≠ .agg cs) → VR (E0 w) false a v := fun hf hn => by
  have hc : v.cells = #[v] := by
   cases v <;> first | rfl | exact absurd rfl (hn _)
  exact h.vr 0 a v (by rw [hf]; rfl) (by rw [hc]; rfl)
 have nag : (match P.underlying t with | some (.struct _) | some (.array _ _) => False | some .bool | some (.int _) | some .string | some (.slice _) => True | _ => False) → ∀ cs, v ≠ .agg cs := by
  intro hu cs hcs
  subst hcs
  simp only [Value.okWide, Cell.okWide, Cell.ok] at hv
  split at hu <;> simp_all
 have agg : ∀ l, flat a = l → (match P.underlying t with | some (.struct _) | some (.array _ _) => True | _ => False) → ∃ cs : Array Value, v = .agg cs ∧ cs.size = l.length ∧ ∀ (j : Nat) y c, l[j]? = some y → cs[j]? = some c → VR (E0 w) false y c := by
  intro l hl hu
  have : ∃ cs, v = .agg cs := by
   unfold Value.okWide at hv
   split at hu <;> simp_all
   ·obtain ⟨cs, h1, _⟩ := hv; exact ⟨cs, h1⟩
   ·obtain ⟨cs, h1, _⟩ := hv; exact ⟨cs, h1⟩
  obtain ⟨cs, rfl⟩ := this
  refine ⟨cs, rfl, ?_, fun j y c h1 h2 => h.vr j y c (by rw [hl]; exact h1) ?_⟩
  ·have := h.len; rw [hl] at this; simpa [Value.cells] using this.symm
  ·simpa [Value.cells] using h2
 cases ha with
 | bool hu b => exact leaf rfl (nag (by simp [hu]))
 | int hu n hn => exact leaf rfl (nag (by simp [hu]))
 | str hu s hs => exact leaf rfl (nag (by simp [hu]))
 | rints hu he l hl hw => exact leaf rfl (nag (by simp [hu]))
 | robjs hu he l hl hw => exact leaf rfl (nag (by simp [hu]))
 | @ints t n e k hu he l hl hw =>
  obtain ⟨cs, rfl, hs, hc⟩ := agg _ rfl (by simp [hu])
  have : cs = (l.map (Value.int k)).toArray := by
   apply Array.ext
   ·rw [hs]; simp [flat]
   ·intro i h1 h2
    have h3 : i < l.length := by simpa using h2
    have := hc i (.int k l[i]) cs[i] (by simp [flat, h3]) (Array.getElem?_eq_getElem h1)
    have key : ∀ {c : Value}, VR (E0 w) false (.int k l[i]) c → c = .int k l[i] := fun h => by cases h; rfl
    rw [key this]
    simp
  rw [this]
  exact .ints _ k n l hl
 | arr hu he l hl hw =>
  obtain ⟨cs, rfl, hs, hc⟩ := agg _ rfl (by simp [hu])
  exact .agg _ l cs h.fit (by rw [hs]; rfl) fun j x c h1 h2 => hc j x c (by rw [flat]; exact h1) h2
 | struct hu l hl hw =>
  obtain ⟨cs, rfl, hs, hc⟩ := agg _ rfl (by simp [hu])
  exact .agg _ l cs h.fit (by rw [hs]; rfl) fun j x c h1 h2 => hc j x c (by rw [flat]; exact h1) h2
inductive AVTs (P : Program) : List TypeId → List AV → Prop where
 | nil : AVTs P [] []
 | cons {t ts a as} (h : AVT P t a) (k : AVTs P ts as) : AVTs P (t :: ts) (a :: as)
theorem AVTs.length {P : Program} {ts : List TypeId} {as : List AV} (h : AVTs P ts as) : ts.length = as.length := by
 induction h with
 | nil => rfl
 | cons _ _ ih => simp [ih]
section
variable {H : Type} {enc : TypeId × Value → H} {P : Program} {W W' : World}
theorem open_args {T : TypeId → Bool} {r : Reach} {base : Nat} (hT : ∀ t, T t = true → goodT P T t = true) : ∀ {ts : List TypeId} {vs : List Value} {ds : List (DataW H)} {ps : List MemPlace}, (∀ t ∈ ts, T t = true) →
  (∀ (j : Nat) t v, ts[j]? = some t → vs[j]? = some v → Value.okWide P W r base t v) → DataW.TrodAll enc P W 0 (fun _ => true) true ts vs ds ps → (∀ n ∈ DataW.weightsEach P ts ds, n ≤ reachBytes) →
  ∃ as, AVTs P ts as ∧ vs.length = as.length ∧ ds.length = as.length ∧ ∀ (j : Nat) x c, as[j]? = some x → vs[j]? = some c → VR (E0 W) false x c
 | [], [], [], ps, _, _, _, _ => ⟨[], .nil, rfl, rfl, fun j x c h => by simp at h⟩
 | t :: ts, v :: vs, d :: ds, ps, ht, hv, ⟨p, q, ⟨fuel, h1⟩, h2, _⟩, hw => by
  obtain ⟨as, g1, g2, g4, g3⟩ := open_args hT (ts := ts) (fun t h => ht t (by simp [h])) (fun j t v h1 h2 => hv (j + 1) t v (by simpa using h1) (by simpa using h2)) h2 fun n hn => hw n (by simp [DataW.weightsEach, hn])
  obtain ⟨a, k1, k2, _⟩ := open_av hT fuel (ht t (by simp)) h1 fun n hn => hw n (by simp [DataW.weightsEach, hn])
  refine ⟨a :: as, .cons k1 g1, by simp [g2], by simp [g4], fun j x c hx hc => ?_⟩
  cases j with
  | zero => simp at hx hc; subst hx; subst hc; exact vr_of_rd k1 k2 (hv 0 t v rfl rfl)
  | succ j => exact g3 j x c (by simpa using hx) (by simpa using hc)
 | [], _ :: _, _, _, _, _, h, _ => by cases h
 | [], [], _ :: _, _, _, _, h, _ => by cases h
 | _ :: _, [], _, _, _, _, h, _ => by cases h
 | _ :: _, _ :: _, [], _, _, _, h, _ => by cases h
theorem args_below (hl : laidOutB P = true) (hb : Below W.heap.size W W') : ∀ {ts : List TypeId} {vs : List Value} {ds : List (DataW H)} {ps : List MemPlace}, (∀ t ∈ ts, P.readableRec t = true ∧ t < P.types.size) →
  DataW.TrodAll enc P W 0 (fun _ => true) true ts vs ds ps → DataW.TrodAll enc P W' 0 (fun b => decide (b < W.heap.size)) true ts vs ds ps
 | [], [], [], ps, _, h => h
 | t :: ts, v :: vs, d :: ds, ps, ht, ⟨p, q, h1, h2, e⟩ =>
  ⟨p, q, Below.trod hl (ht t (by simp)).1 (ht t (by simp)).2 h1 hb (by obtain ⟨m, hm⟩ := h1; exact DataW.trod_lt m _ _ _ hm), args_below hl hb (fun t h => ht t (by simp [h])) h2, e⟩
 | [], _ :: _, _, _, _, h => by cases h
 | [], [], _ :: _, _, _, h => by cases h
 | _ :: _, [], _, _, _, h => by cases h
 | _ :: _, _ :: _, [], _, _, h => by cases h
end
end Go.Abs
end
section
set_option linter.unusedVariables false
namespace Go.Abs
open Go
def InK (k : IntKind) (n : Int) : Prop := k.min ≤ n ∧ n ≤ k.max
def InA (k : IntKind) (n : Nat) (l : List Int) : Prop := l.length = n ∧ ∀ x ∈ l, InK k x
def InS (k : IntKind) (l : List Int) : Prop := l.length ≤ 140737488351232 ∧ ∀ x ∈ l, InK k x
theorem InK.of_wf {k : IntKind} {n : Int} (h : (Lit.int k n).wf = true) : InK k n := by simpa [Lit.wf, InK] using h
section
variable {P : Program} {t : TypeId} {a : AV}
theorem AVT.bool_inv (h : AVT P t a) (hu : P.underlying t = some .bool) : ∃ b, a = .bool b := by cases h <;> simp_all
theorem AVT.int_inv {k : IntKind} (h : AVT P t a) (hu : P.underlying t = some (.int k)) : ∃ n, a = .int k n ∧ InK k n := by
 cases h with
 | int hu' n hn => rw [hu] at hu'; cases hu'; exact ⟨n, rfl, .of_wf hn⟩
 | _ => simp_all
theorem AVT.ints_inv {n e : Nat} {k : IntKind} (h : AVT P t a) (hu : P.underlying t = some (.array n e)) (he : P.underlying e = some (.int k)) : ∃ l, a = .ints k n l ∧ InA k n l := by
 cases h with
 | ints hu' he' l hl hw =>
  rw [hu] at hu'
  cases hu'
  rw [he] at he'
  cases he'
  exact ⟨l, rfl, hl, fun x hx => .of_wf (hw x hx)⟩
 | arr hu' he' l hl hw => rw [hu] at hu'; cases hu'; exact absurd he (he' k)
 | _ => simp_all
theorem AVT.rints_inv {e : Nat} {k : IntKind} (h : AVT P t a) (hu : P.underlying t = some (.slice e)) (he : P.underlying e = some (.int k)) (hb : 1 ≤ P.bytesOf e) : ∃ l, a = .rints k l ∧ InS k l := by
 cases h with
 | rints hu' he' l hl hw =>
  rw [hu] at hu'
  cases hu'
  rw [he] at he'
  cases he'
  refine ⟨l, rfl, ?_, fun x hx => .of_wf (hw x hx)⟩
  have := Nat.mul_le_mul_left l.length hb
  have : reachBytes = 140737488351232 := rfl
  omega
 | robjs hu' he' l hl hw => rw [hu] at hu'; cases hu'; exact absurd he (he' k)
 | _ => simp_all
theorem AVT.robjs_inv {e w : Nat} (h : AVT P t a) (hu : P.underlying t = some (.slice e)) (he : (match P.underlying e with | some (.int _) => false | _ => true) = true) (hb : 1 ≤ P.bytesOf e) (hw : P.cellsOf e = w) : ∃ l, a = .robjs e w l ∧ l.length ≤ 140737488351232 ∧ ∀ x ∈ l, AVT P e x := by
 cases h with
 | robjs hu' he' l hl hw' =>
  rw [hu] at hu'
  cases hu'
  subst hw
  refine ⟨l, rfl, ?_, hw'⟩
  have := Nat.mul_le_mul_left l.length hb
  have : reachBytes = 140737488351232 := rfl
  omega
 | rints hu' he' l hl hw => rw [hu] at hu'; cases hu'; rw [he'] at he; cases he
 | _ => simp_all
theorem AVT.struct_inv {fs : Array Field} (h : AVT P t a) (hu : P.underlying t = some (.struct fs)) : ∃ l, a = .agg l ∧ AVTs P (fs.toList.map (·.type)) l := by
 cases h with
 | struct hu' l hl hw =>
  rw [hu] at hu'
  cases hu'
  refine ⟨l, rfl, ?_⟩
  have key : ∀ (f : List Field) (l : List AV), l.length = f.length → (∀ (i : Nat) g x, f[i]? = some g → l[i]? = some x → AVT P g.type x) → AVTs P (f.map (·.type)) l := by
   intro f
   induction f with
   | nil => intro l h _; cases l with | nil => exact .nil | cons x r => simp at h
   | cons g f ih =>
    intro l h hx
    cases l with
    | nil => simp at h
    | cons x r => exact .cons (hx 0 g x rfl rfl) (ih r (by simpa using h) fun i g' x' h1 h2 => hx (i + 1) g' x' (by simpa using h1) (by simpa using h2))
  exact key fs.toList l (by simpa using hl) fun i g x h1 h2 => hw i g x (by simpa using h1) h2
 | _ => simp_all
theorem AVTs.nil_inv {as : List AV} (h : AVTs P [] as) : as = [] := by cases h; rfl
theorem AVTs.cons_inv {t : TypeId} {ts : List TypeId} {as : List AV} (h : AVTs P (t :: ts) as) : ∃ a r, as = a :: r ∧ AVT P t a ∧ AVTs P ts r := by cases h with | cons h k => exact ⟨_, _, rfl, h, k⟩
end
theorem among {l : List TypeId} {p : TypeId → Bool} (h : l.all p = true) : ∀ t, l.contains t = true → p t = true := fun t ht => List.all_eq_true.1 h t (by simpa using ht)
end Go.Abs
end
section
set_option linter.unusedVariables false
set_option linter.unusedSimpArgs false
namespace Go.Abs
open Go Go.RowKit Go.ChangeShapes Go.WideShapes
theorem cells_of_ints {H : Type} {enc : TypeId × Value → H} {P : Program} {w : World} {base : Nat} {spare : Nat → Bool} {held : Bool} {fuel : Nat} {t e : TypeId} {k : IntKind} {n : Nat} {l : List Int} {cs : List Value} {p : List MemPlace}
  (hu : P.underlying t = some (.array n e)) (he : P.underlying e = some (.int k)) (hc : P.cellsOf e = 1) (hct : P.cellsOf t = n) (hl : l.length = n)
  (h : DataW.trod enc P w base spare held fuel t cs = some (.agg (l.map fun x => .lit (.int k x)), p)) : cs = l.map (Value.int k) := by
 obtain ⟨xs, m, _, hx, hlen, hxs, hget⟩ := trod_array hu h
 have h1 : xs.map (·.1) = l.map fun x => DataW.lit (.int k x) := by
  have := congrArg Prod.fst hx
  simp only [DataW.agg.injEq] at this
  exact this.symm
 refine List.ext_getElem (by rw [hlen, hct, List.length_map, hl]) fun i hi hi' => ?_
 have hin : i < n := by rw [List.length_map, hl] at hi'; exact hi'
 have hxi : xs[i]? = some (xs[i]'(by omega)) := List.getElem?_eq_getElem (by omega)
 have ht := (hget i hin).trans hxi
 obtain ⟨z, e1, e2, _⟩ := DataW.trod_int he ht
 have h2 := congrArg (·[i]?) h1
 simp only [List.getElem?_map, hxi, Option.map_some, List.getElem?_eq_getElem (show i < l.length by omega)] at h2
 rw [e2] at h2
 simp only [Option.some.injEq, DataW.lit.injEq, Lit.int.injEq, true_and] at h2
 rw [hc, Nat.mul_one] at e1
 have h3 := congrArg (·[0]?) e1
 simp only [List.getElem?_take, List.getElem?_drop, Nat.add_zero, List.getElem?_cons_zero] at h3
 rw [if_pos (by omega), List.getElem?_eq_getElem hi] at h3
 simp only [Option.some.injEq] at h3
 rw [h3, h2, List.getElem_map]
theorem glob_ints {P : Program} {W : World} {name : String} {g : Nat} {k : IntKind} {n : Nat} {l : List Int} {cs : Array Value} (hg : P.globalNamed name = some g) (hv : W.var? P name = some cs) (hcs : cs.toList = l.map (Value.int k)) (hl : l.length = n) :
  VR (E0 W) false (.rptr (.ints k n l)) (.pointer (some ⟨g, 0, none⟩)) := by
 have cell : ∀ j, W.cell? ⟨g, j, none⟩ = (l.map (Value.int k))[j]? := fun j => by rw [World.var?_cell hg hv j, ← hcs, Array.getElem?_toList]
 refine .rptr _ _ _ (.ints _ _ _ hl) rfl (fun j => .int k (l.getD j 0)) (fun j y hy => ?_) fun j y hy => ?_
 ·have hj : j < l.length := by
   have := (List.getElem?_eq_some_iff.1 hy).1
   simpa [flat] using this
  have hc : W.cell? ⟨g, 0 + j, none⟩ = some (.int k (l.getD j 0)) := by
   rw [Nat.zero_add, cell, List.getElem?_map, List.getElem?_eq_getElem hj, List.getD_eq_getElem?_getD, List.getElem?_eq_getElem hj]
   rfl
  exact ⟨by show (W.cell? ⟨g, 0 + j, none⟩).isSome = true; rw [hc]; rfl, hc⟩
 ·simp only [flat, List.getElem?_map] at hy
  cases hj : l[j]? with
  | none => simp [hj] at hy
  | some z =>
   simp only [hj, Option.map_some, Option.some.injEq] at hy
   subst hy
   rw [List.getD_eq_getElem?_getD, hj]
   exact .int _ _ _
theorem law_lifted_laid {C : Checked} {os : Os} {f : FuncId} {fn : Func} {s : ChangeSpec} {H : Type} {enc : TypeId × Value → H} {G : Nat → AV} {rt : TypeId} (laids : List (String × DataW Unit)) (T : TypeId → Bool)
  (own : ownKnob C.prog.godebug = none) (started : os.Started) (noInit : C.prog.inits.idxOf? f = none) (hfn : C.prog.funcs[f]? = some fn)
  (witness : ∃ (w : World) (tape : Tape) (i : Input), w.os = os ∧ (w.forCall tape i).Shaped C.prog ∧ i.vars = [] ∧ Input.okWide C.prog (w.forCall tape i) .any w.heap.size f i ∧
   ((s.pre enc C.prog fn [] false (w.forCall tape i).memory i.args ∧ laidMetH C.prog laids (w.forCall tape i).memory) ∧ sizedMet enc C.prog fn (OpenSpec.ofChange s) false (w.forCall tape i).memory i.args) ∧ ({} : Assume).holds C.prog (lone (Frame.enter C.prog f i.args .normal) [] (w.forCall tape i)))
  (plain : (laids.all fun x => x.2.handleName?.isNone) = true)
  (laid : laidOutB C.prog = true) (hT : ∀ t, T t = true → goodT C.prog T t = true) (hts : ∀ t ∈ fn.params.toList, T t = true ∧ C.prog.readableRec t = true ∧ t < C.prog.types.size)
  (hvars : s.vars = []) (hspec : ∀ ds : List (DataW H), ds.length = fn.params.size → s.fn H ds = { results := [.lit (.bool true)], args := ds }) (hres : fn.resultTypes = #[rt]) (hrt : C.prog.underlying rt = some .bool)
  (hG : ∀ W, laidMet C.prog laids W → Glob G (E0 W))
  (main : ∀ as, AVTs C.prog fn.params.toList as → FnC C.prog G f as [] (.bool true) []) :
  ReturnsInHanded {} C os f .any (fun w args => (s.pre enc C.prog fn [] false w args ∧ laidMetH C.prog laids w) ∧ sizedMet enc C.prog fn (OpenSpec.ofChange s) false w args) (s.post enc C.prog fn false true false false) := by
 refine returnsInHanded_of_change_and (X := fun w _ => laidMetH C.prog laids w) (fun w w' args hh h => by rw [MakeChecks.laidMetH_plain _ _ _ plain] at h ⊢; exact h.of_heap hh) own started noInit hfn witness ?_
 intro W base args ds gs before hval hW _ hsz hX _
 rw [MakeChecks.laidMetH_plain _ _ _ plain] at hX
 have hW' := hW
 obtain ⟨p, q, hA, hV, rfl, hfz, hnd⟩ := hW
 rw [hvars] at hV
 obtain ⟨rfl, rfl⟩ : gs = [] ∧ q = [] := by
  cases gs with
  | nil => exact ⟨rfl, hV⟩
  | cons g gs => cases hV
 obtain ⟨as, h1, h2, h4, h3⟩ := open_args (T := T) hT (fun t ht => (hts t ht).1) (fun j t v h1 h2 => hval j t v (by simpa using h1) (by simpa using h2)) hA fun n hn => by
  have hvt : s.plain.varTypes C.prog = [] := by
   cases s
   simp only at hvars
   subst hvars
   rfl
  rw [hvt, List.append_nil, List.append_nil] at hsz
  simpa using List.all_eq_true.1 hsz n hn
 have hlen : ds.length = fn.params.size := by
  have h5 := AVTs.length h1
  rw [h4, ← h5]; simp
 refine (main as h1 (E0 W) args rfl (E0_mem W) (hG W hX) ⟨by simpa using h2, fun j x c hx hc => (h3 j x c hx (by simpa using hc)).lift⟩).mono fun e W' ⟨v, he, E', hw, _, gl, hv⟩ => ?_
 subst he
 subst hw
 cases hv
 have bel := E0_below gl
 refine ⟨_, rfl, ds, [], _, [], p, [], hW', ?_, ?_, ?_, bel.frame _, fun h => by cases h⟩
 ·rw [List.append_nil, hspec ds hlen, hres]
  exact trodAll_mk1 (shut_bool hrt _)
 ·rw [List.append_nil, hspec ds hlen]
  exact args_below laid bel (fun t ht => (hts t ht).2) hA
 ·rw [List.append_nil, hspec ds hlen, hvars]
  rfl
end Go.Abs
end
section
set_option linter.unusedVariables false
namespace Go.Abs
open Go
theorem CalleeS.pick {P : Program} {G : Nat → AV} {f : FuncId} {p : List AV → Bool} {a b : Callee} (ha : CalleeS P G f a) (hb : CalleeS P G f b) : CalleeS P G f (.pick p a b) := by
 intro args lent
 by_cases h : p args = true
 ·simpa [Callee.pick, h] using ha args lent
 ·simpa [Callee.pick, h] using hb args lent
theorem three_inv {E : Env} {vs : Array Value} {k1 k2 k3 : IntKind} {x y z : Int} (h : Args E [.int k1 x, .int k2 y, .int k3 z] vs) : vs = #[.int k1 x, .int k2 y, .int k3 z] := by
 have hs : vs.size = 3 := h.size
 have h0 := h.vr 0 _ vs[0] rfl (Array.getElem?_eq_getElem (by rw [hs]; simp))
 have h1 := h.vr 1 _ vs[1] rfl (Array.getElem?_eq_getElem (by rw [hs]; simp))
 have h2 := h.vr 2 _ vs[2] rfl (Array.getElem?_eq_getElem (by rw [hs]; simp))
 have key : ∀ {k : IntKind} {n : Int} {c : Value}, VR E true (.int k n) c → c = .int k n := fun h => by cases h; rfl
 apply Array.ext
 ·rw [hs]; rfl
 ·intro i hi hj
  simp at hj
  match i with
  | 0 => simpa using key h0
  | 1 => simpa using key h1
  | 2 => simpa using key h2
theorem pair_vr {E : Env} {k1 k2 : IntKind} {x y : Int} : VR E true (.tup [.int k1 x, .int k2 y]) (.tuple #[.int k1 x, .int k2 y]) := by
 refine .tup _ _ _ rfl fun j v c h1 h2 => ?_
 match j with
 | 0 => simp at h1 h2; subst h1; subst h2; exact .int _ _ _
 | 1 => simp at h1 h2; subst h1; subst h2; exact .int _ _ _
 | j + 2 => simp at h1
def sub64Entry : Array Value → Sem Value := fun args => do
 let (x, y, b) ← Extern.MathBitsCarry.three "Sub64" args
 pure (Extern.MathBitsCarry.pair ((x + Extern.MathBitsCarry.m64 - y - b) % Extern.MathBitsCarry.m64) (if x < y + b then 1 else 0))
theorem run_sub64 {P : Program} (x y c : Int) (hx : 0 ≤ x) (hy : 0 ≤ y) (hy2 : y < 18446744073709551616) (hc0 : 0 ≤ c) (hc : c ≤ 1) (w : World) :
  (sub64Entry #[.int .u64 x, .int .u64 y, .int .u64 c]).run P w =
   .ok (.tuple #[.int .u64 ((x - y - c) % 18446744073709551616), .int .u64 (if x < y + c then 1 else 0)]) w := by
 have key : ∀ k : Nat, k ≤ 1 → (sub64Entry #[.int .u64 x, .int .u64 y, .int .u64 (k : Int)]).run P w =
   .ok (Extern.MathBitsCarry.pair ((x.toNat + Extern.MathBitsCarry.m64 - y.toNat - k) % Extern.MathBitsCarry.m64) (if x.toNat < y.toNat + k then 1 else 0)) w := by
  intro k hk
  have : k = 0 ∨ k = 1 := by omega
  rcases this with rfl | rfl <;> rfl
 obtain ⟨k, rfl⟩ := Int.eq_ofNat_of_zero_le hc0
 rw [key k (by omega)]
 obtain ⟨X, rfl⟩ := Int.eq_ofNat_of_zero_le hx
 obtain ⟨Y, rfl⟩ := Int.eq_ofNat_of_zero_le hy
 simp only [Extern.MathBitsCarry.pair, Extern.MathBitsCarry.m64, Int.toNat_natCast]
 have e1 : Int.ofNat ((X + 2 ^ 64 - Y - k) % 2 ^ 64) = ((X : Int) - Y - k) % 18446744073709551616 := by
  show (((X + 2 ^ 64 - Y - k) % 2 ^ 64 : Nat) : Int) = _
  omega
 have e2 : Int.ofNat (if X < Y + k then 1 else 0) = if (X : Int) < Y + k then 1 else 0 := by
  by_cases h : X < Y + k
  ·rw [if_pos h, if_pos (by omega)]; rfl
  ·rw [if_neg h, if_neg (by omega)]; rfl
 rw [e1, e2]
theorem xSub64_ok {P : Program} {G : Nat → AV} {f : FuncId} {fn : Func} (hf : P.funcs[f]? = some fn) (hname : (fn.name == "runtime.NumGoroutine") = false) (hb : fn.body.isNone = true)
  (hn : Extern.findNext fn = none) (he : Extern.find fn = some sub64Entry) (t : Int × Int × Int) (u : Int × Int) (h : xSub64 t = some u) :
  FnOK P G f [.int .u64 t.1, .int .u64 t.2.1, .int .u64 t.2.2] [] (.tup [.int .u64 u.1, .int .u64 u.2]) [] := by
 intro E vs hbl m g ha
 unfold xSub64 at h
 split at h <;> try cases h
 split at h <;> try cases h
 split at h <;> try cases h
 split at h <;> try cases h
 split at h <;> try cases h
 obtain rfl := three_inv ha
 refine .inr ⟨_, _, (run_callFunc_extern hf hname hb hn he _ _).trans ?_, E, rfl, hbl, .refl m, pair_vr⟩
 rw [run_sub64 _ _ _ (by assumption) (by assumption) (by assumption) (by assumption) (by assumption)]
 rfl
end Go.Abs
end
section
set_option linter.unusedVariables false
namespace Go.Abs
open Go
abbrev LI := List Int
abbrev LA := List AV
abbrev NL := Nat → List Nat × List Nat
def b8 (l : List Nat) : ByteArray := ByteArray.mk (List.toArray (l.map fun k => UInt8.ofBitVec (BitVec.ofNat 8 k)))
def lookC : List (Nat × Callee) → Nat → Option Callee
 | [], _ => none
 | (k, c) :: r, n => if k = n then some c else lookC r n
def noNL : NL := fun _ => ([], [])
inductive CS (P : Program) (G : Nat → AV) : List (Nat × Callee) → Prop where
 | nil : CS P G []
 | cons {k c r} (h : CalleeS P G k c) (t : CS P G r) : CS P G ((k, c) :: r)
theorem CS.ok {P : Program} {G : Nat → AV} {l : List (Nat × Callee)} (h : CS P G l) : ∀ f m, lookC l f = some m → CalleeS P G f m := by
 induction h with
 | nil => intro f m hm; cases hm
 | cons h t ih =>
  intro f m hm
  simp only [lookC] at hm
  split at hm
  ·rename_i e
   cases hm
   subst e
   exact h
  ·exact ih f m hm
inductive LL (C : Ctx) (A : Ann) (n : Nat) : List Code → Prop where
 | nil : LL C A n []
 | cons {b r m} (e : A.loop (key b) = some m) (h : LoopS C A n b m) (t : LL C A n r) : LL C A n (b :: r)
 | skip {b r} (e : A.loop (key b) = none) (t : LL C A n r) : LL C A n (b :: r)
theorem LL.ok {C : Ctx} {A : Ann} {n : Nat} {l : List Code} (h : LL C A n l) : ∀ b ∈ l, ∀ m, A.loop (key b) = some m → LoopS C A n b m := by
 induction h with
 | nil => intro b hb; cases hb
 | cons e h t ih =>
  intro b hb m hm
  rcases List.mem_cons.1 hb with rfl | hb
  ·rw [e] at hm
   cases hm
   exact h
  ·exact ih b hb m hm
 | skip e t ih =>
  intro b hb m hm
  rcases List.mem_cons.1 hb with rfl | hb
  ·rw [e] at hm
   cases hm
  ·exact ih b hb m hm
theorem nj {C : Ctx} {A : Ann} {n : Nat} {l : List Code} (h : A.join = lookJ []) : ∀ a ∈ l, ∀ m, A.join (jkey a) = some m → JoinS C A n a m := by
 intro a ha m hm
 rw [h] at hm
 cases hm
theorem fnC1 {C : Ctx} {A : Ann} {n : Nat} {f : FuncId} {fn : Func} {args : List AV} {lent : Blks} {U : Type} {M : Option U} {res : U → AV × Blks} {Y : Option (AV × Blks)} {u : U} {l : List (Nat × Callee)} {lp : List Code}
  (hΓ : C.Γ = lookC l) (hc : CS C.P C.G l) (hmix : C.P.follows .mixedOrders = true) (hf : C.P.funcs[f]? = some fn) (hb : fn.body.isNone = false) (hl : loopsIn (fn.body.getD .skip) = lp) (hll : LL C A n lp)
  (hJ : ∀ a ∈ seqsIn (fn.body.getD .skip), ∀ m, A.join (jkey a) = some m → JoinS C A n a m) (hname : fn.name ≠ "runtime.NumGoroutine") (hL : A.lent = lent.length) (hN : A.len = fn.ntmps) (hn : args.length ≤ fn.ntmps)
  (run : runF C A n fn args lent (fun v o => some (v, o)) = Y) (e : Y = M.map res) (h : M = some u) : FnC C.P C.G f args lent (res u).1 (res u).2 := by
 have hb' : fn.body = some (fn.body.getD .skip) := by
  cases hx : fn.body with
  | none => rw [hx] at hb; cases hb
  | some c => rfl
 refine runF_calls (hΓ ▸ hc.ok) hmix hf hb' (hl ▸ hll.ok) hJ hname hL hN hn ?_
 rw [run, e, h]
 rfl
theorem CalleeS.mk1 {T U : Type} {P : Program} {G : Nat → AV} {fid : FuncId} {fn : Func} {lend : List Bool} {anil : List (Option NK)} {pat : List AV → Blks → Option T} {f : T → Option U} {res : U → AV × Blks} {resK : {R : Type} → U → (AV → Blks → Option R) → Option R} {shape : T → List AV × Blks}
  (hk : ∀ (R : Type) (u : U) (K : AV → Blks → Option R), resK u K = K (res u).1 (res u).2) (hp : ∀ args lent t, pat args lent = some t → (args, lent) = shape t) (h : ∀ t u, f t = some u → FnC P G fid (shape t).1 (shape t).2 (res u).1 (res u).2)
  (hf : P.funcs[fid]? = some fn) (hname : fn.name ≠ "runtime.NumGoroutine") (hc : fn.body.isNone = false) : CalleeS P G fid (.mk' lend anil pat f resK) :=
 CalleeS.of hk hp fun t u e => (h t u e).ok hf hname hc
abbrev Ty27 : Type := Int × (Bool × (Int × (LI × (LI × LI))))
abbrev Ty25 : Type := Int × (Int × (LI × (LI × (LI × (LI × Int)))))
abbrev Ty26 : Type := Int × (LI × (LI × (LA × (LA × (Int × Int)))))
abbrev Ty24 : Type := Int × (Int × (LA × (Int × (Int × (LA × LA)))))
abbrev Ty23 : Type := LI × (Int × (LI × (LI × (LA × (LA × (Int × Int))))))
abbrev Ty22 : Type := Int × (Int × (LI × (LI × (LI × (LI × (Int × (LI × LI)))))))
abbrev Ty21 : Type := Bool × (Bool × (Bool × (Bool × (Bool × (Bool × (Bool × Bool))))))
abbrev Ty19 : Type := Bool × (LA × (Int × (Int × (LA × (LI × (Int × (LI × (LI × LA))))))))
abbrev Ty20 : Type := Bool × (LA × (Int × (Int × (LA × (LI × (LI × (Int × (LI × LI))))))))
abbrev Ty17 : Type := Int × (Bool × (LA × (Int × (Int × (LI × (LA × (Int × (LI × (LI × LA)))))))))
abbrev Ty18 : Type := Int × (Bool × (LA × (Int × (Int × (Int × (LI × (LI × (LA × (LI × LI)))))))))
abbrev Ty15 : Type := Bool × (LA × (Int × (Int × (LA × (LI × (LI × (Int × (LI × (LI × (LA × LI))))))))))
abbrev Ty16 : Type := Int × (Int × (LA × (LI × (Int × (LI × (LI × (LA × (LA × (Int × (Int × LI))))))))))
abbrev Ty14 : Type := Int × (Bool × (LA × (Int × (Int × (Int × (LI × (LI × (LA × (LI × (LA × (LI × LI)))))))))))
abbrev Ty13 : Type := Int × (Int × (LA × (Int × (Int × (LA × (Int × (Int × (LI × (Int × (LI × (LI × (LA × (LA × LA)))))))))))))
abbrev Ty12 : Type := LI × (LI × (Bool × (LI × (LI × (LI × (Int × (Int × (Int × (LI × (LI × (Bool × (LI × (Int × (Int × (LI × LI)))))))))))))))
abbrev Ty11 : Type := LI × (LI × (Bool × (LI × (LI × (LI × (Int × (Int × (Int × (LI × (LI × (Bool × (LI × (Int × (Int × (LI × (LI × Int))))))))))))))))
abbrev Ty10 : Type := LA × (LI × (LI × (Bool × (LI × (LI × (LI × (Int × (Int × (Int × (LI × (LI × (Bool × (LI × (Int × (Int × (LI × (LI × Int)))))))))))))))))
abbrev Ty9 : Type := LA × (LA × (Int × (Int × (LI × (LI × (Bool × (LI × (LI × (LI × (Int × (Int × (Int × (LI × (LI × (Bool × (LI × (Int × (Int × (LI × LI)))))))))))))))))))
abbrev Ty8 : Type := LA × (LA × (Int × (Int × (LI × (LI × (Bool × (LI × (LI × (LI × (Int × (Int × (Int × (LI × (LI × (Bool × (LI × (Int × (Int × (LI × (LI × (Int × (Bool × (Bool × LA)))))))))))))))))))))))
abbrev Ty7 : Type := LA × (LA × (Int × (Int × (LI × (LI × (Bool × (LI × (LI × (LI × (Int × (Int × (Int × (LI × (LI × (Bool × (LI × (Int × (Int × (LI × (LI × (LA × (LA × (LA × (LA × (Bool × (Bool × (Bool × Bool)))))))))))))))))))))))))))
abbrev Ty6 : Type := Int × (LA × (LA × (Int × (Int × (LI × (LI × (Bool × (LI × (LI × (LI × (Int × (Int × (Int × (LI × (LI × (Bool × (LI × (Int × (Int × (LI × (LI × (Bool × (Bool × (Bool × (Bool × (LA × (LA × (LA × (LA × LA)))))))))))))))))))))))))))))
abbrev Ty5 : Type := Int × (LA × (LA × (Int × (Int × (LI × (LI × (Bool × (LI × (LI × (LI × (Int × (Int × (Int × (LI × (LI × (Bool × (LI × (Int × (Int × (LI × (LI × (Bool × (Bool × (Bool × (Bool × (Bool × (Bool × (Bool × Bool))))))))))))))))))))))))))))
abbrev Ty4 : Type := Int × (Int × (LI × (LI × (LI × (LI × (Int × (LA × (LA × (Int × (Int × (LI × (LI × (Bool × (LI × (LI × (LI × (Int × (Int × (Int × (LI × (LI × (Bool × (LI × (Int × (Int × (LI × (LI × (Int × (Bool × (Bool × (LA × Int)))))))))))))))))))))))))))))))
abbrev Ty3 : Type := Int × (Int × (LI × (LI × (LI × (LI × (Int × (LA × (LA × (Int × (Int × (LI × (LI × (Bool × (LI × (LI × (LI × (Int × (Int × (Int × (LI × (LI × (Bool × (LI × (Int × (Int × (LI × (LI × (Int × (Bool × (Bool × (LA × (Int × LI))))))))))))))))))))))))))))))))
abbrev Ty2 : Type := LI × (Int × (Int × (LI × (LI × (LI × (LI × (Int × (LA × (LA × (Int × (Int × (LI × (LI × (Bool × (LI × (LI × (LI × (Int × (Int × (Int × (LI × (LI × (Bool × (LI × (Int × (Int × (LI × (LI × (Int × (Bool × (Bool × (LA × (Int × LI)))))))))))))))))))))))))))))))))
abbrev Ty1 : Type := Int × (Int × (LA × (Int × (LA × (LA × (Int × (Int × (LA × (LA × (Int × (Int × (LI × (LI × (Bool × (LI × (LI × (LI × (Int × (Int × (Int × (LI × (LI × (Bool × (LI × (Int × (Int × (LI × (LI × (Int × (Bool × (Bool × (LA × (LI × (LA × (LI × (LI × (Bool × (LI × (LI × (LI × (Int × (Int × (Int × (LI × (LI × (Bool × (LI × (Int × (Int × (LI × (LI × (Bool × (Bool × (Bool × (Bool × (LA × (LA × (LA × LA))))))))))))))))))))))))))))))))))))))))))))))))))))))))))
abbrev Ty0 : Type := Int × (Int × (Int × (Int × (Int × (Int × (LA × (LA × (LA × (Int × (Int × (LI × (LA × (LA × (LA × (Int × (Int × (LI × (LI × (Bool × (LI × (LI × (LI × (Int × (Int × (Int × (LI × (LI × (Bool × (LI × (Int × (Int × (LI × (LI × (Int × (Bool × (Bool × (LA × (LI × (LI × (LI × (Bool × (LI × (LI × (LI × (Int × (Int × (Int × (LI × (LI × (Bool × (LI × (Int × (Int × (LI × (LI × (Bool × (Bool × (Bool × (Bool × (LA × (LA × (LA × LA))))))))))))))))))))))))))))))))))))))))))))))))))))))))))))))
end Go.Abs
abbrev Prod.w {a b c d z : Type} (t : a × b × c × d × z) : z := t.2.2.2.2
abbrev Prod.x {a b c d e f g h z : Type} (t : a × b × c × d × e × f × g × h × z) : z := t.2.2.2.2.2.2.2.2
abbrev Prod.y {a b c d e f g h i j k l m n o p z : Type} (t : a × b × c × d × e × f × g × h × i × j × k × l × m × n × o × p × z) : z := t.2.2.2.2.2.2.2.2.2.2.2.2.2.2.2.2
namespace Go.Abs
open Go
abbrev runS (C : Ctx) (A : Ann) (n : Nat) (fn : Func) (p : List AV × Blks) : Option (AV × Blks) := runF C A n fn p.1 p.2 (fun v o => some (v, o))
theorem fnC2 {C : Ctx} {A : Ann} {n : Nat} {f : FuncId} {fn : Func} {p : List AV × Blks} {U : Type} {M : Option U} {res : U → AV × Blks} {u : U} {l : List (Nat × Callee)} {lp : List Code}
  (hΓ : C.Γ = lookC l) (hc : CS C.P C.G l) (hmix : C.P.follows .mixedOrders = true) (hf : C.P.funcs[f]? = some fn) (hb : fn.body.isNone = false) (hl : loopsIn (fn.body.getD .skip) = lp) (hll : LL C A n lp)
  (hJ : ∀ a ∈ seqsIn (fn.body.getD .skip), ∀ m, A.join (jkey a) = some m → JoinS C A n a m) (hname : fn.name ≠ "runtime.NumGoroutine") (hL : A.lent = p.2.length) (hN : A.len = fn.ntmps) (hn : p.1.length ≤ fn.ntmps)
  (run : runS C A n fn p = M.map res) (h : M = some u) : FnC C.P C.G f p.1 p.2 (res u).1 (res u).2 :=
 fnC1 hΓ hc hmix hf hb hl hll hJ hname hL hN hn run rfl h
end Go.Abs
namespace Go.Abs
open Go
theorem loop_map {T U : Type} {shape : T → St} {body : (St → Option (Ex × St)) → St → Option (Ex × St)} {res : U → Ex × St} {M : Nat → T → Option U} {r1 : (T → Option (Ex × St)) → T → Option (Ex × St)} {r2 : (T → Option U) → T → Option U}
  (hp : ∀ f t, (r2 f t).map res = r1 (fun y => (f y).map res) t) (hr : ∀ rc t, body rc (shape t) = r1 (fun y => rc (shape y)) t) (h0 : ∀ t, M 0 t = none) (hM : ∀ m t, M (m + 1) t = r2 (M m) t) (m : Nat) (t : T) : loopOf body m (shape t) = (M m t).map res :=
 loop_of_round (g := fun m t => (M m t).map res) (fun t => by show Option.map res (M 0 t) = none; rw [h0]; rfl) (fun m t ih => by
  show _ = Option.map res (M (m + 1) t)
  rw [hr, hM, hp, show (fun y => loopOf body m (shape y)) = fun y => (M m y).map res from funext ih]) m t
end Go.Abs
namespace Go.Abs
open Go
def resKof {U : Type} (res : U → AV × Blks) {R : Type} (u : U) (K : AV → Blks → Option R) : Option R := K (res u).1 (res u).2
def resKl {U : Type} (res : U → Ex × St) {R : Type} (u : U) (K : Ex → St → Option R) : Option R := K (res u).1 (res u).2
theorem CalleeS.mkF {T U : Type} {C : Ctx} {A : Ann} {n : Nat} {f : FuncId} {fn : Func} {lend : List Bool} {anil : List (Option NK)} {pat : List AV → Blks → Option T} {M : T → Option U} {res : U → AV × Blks} {resK : {R : Type} → U → (AV → Blks → Option R) → Option R} {shape : T → List AV × Blks} {l : List (Nat × Callee)} {lp : List Code}
  (hk : ∀ (R : Type) (u : U) (K : AV → Blks → Option R), resK u K = K (res u).1 (res u).2) (hp : ∀ args lent t, pat args lent = some t → (args, lent) = shape t)
  (hΓ : C.Γ = lookC l) (hc : CS C.P C.G l) (hmix : C.P.follows .mixedOrders = true) (hf : C.P.funcs[f]? = some fn) (hb : fn.body.isNone = false) (hl : loopsIn (fn.body.getD .skip) = lp) (hll : LL C A n lp)
  (hJ : ∀ a ∈ seqsIn (fn.body.getD .skip), ∀ m, A.join (jkey a) = some m → JoinS C A n a m) (hname : fn.name ≠ "runtime.NumGoroutine") (hL : ∀ t, A.lent = (shape t).2.length) (hN : A.len = fn.ntmps) (hn : ∀ t, (shape t).1.length ≤ fn.ntmps)
  (run : ∀ t, runS C A n fn (shape t) = (M t).map res) : CalleeS C.P C.G f (.mk' lend anil pat M resK) :=
 .mk1 hk hp (fun t u h => fnC2 hΓ hc hmix hf hb hl hll hJ hname (hL t) hN (hn t) (run t) h) hf hname hb
end Go.Abs
end
section
set_option linter.unusedVariables false
set_option linter.unusedSimpArgs false
namespace Go.Abs
open Go Go.RowKit Go.ChangeShapes Go.WideShapes
end Go.Abs
end
section
set_option linter.unusedVariables false
set_option linter.unusedSimpArgs false
namespace Go.Abs
open Go
end Go.Abs
namespace Go.Abs
open Go Go.RowKit Go.ChangeShapes Go.WideShapes
end Go.Abs
end
section
set_option linter.unusedVariables false
set_option linter.unusedSimpArgs false
namespace Go.Abs
open Go
section
variable {R : Type} {C : Ctx}
theorem wpList_first {P : Program} {ops : Array Oper} {Q : Exit → Act → World → Prop} {o : Oper} {rest : List Oper} {a : Act} {w W' : World} {v : Value} (hg : o.guard = none)
  (hrun : (execOp a.eval o).run P w = .ok (.value v) W') (h : wpList P ops Q rest (a.put o.dst v) W') : wpList P ops Q (o :: rest) a w :=
 wpList_plain hg fun K' hK' => by
  unfold Oper.wp
  rw [hrun]
  exact hK' _ _ h
theorem wpList_step1 (hΓ : ∀ f m, C.Γ f = some m → CalleeS C.P C.G f m) {ops : Array Oper} {o : Oper} {rest : List Oper} {tm : List AV} {bl : Blks} {v1 : AV} {bl1 : Blks} (hg : o.guard = none)
  (h : opK C o (get C tm) bl (fun _ v bl => some (v, bl)) = some (v1, bl1)) {E : Env} {a : Act} {Q : Exit → Act → World → Prop} (s : SR C E tm bl a)
  (hK : ∀ E' v', Go E E' → SR C E' (put tm o.dst v1) bl1 (a.put o.dst v') → wpList C.P ops Q rest (a.put o.dst v') E'.w) : wpList C.P ops Q (o :: rest) a E.w := by
 obtain ⟨cat, v, bl', hos⟩ := opK_sound hΓ h
 have hd := hos.1.det fun _ v bl => some (v, bl)
 rw [h] at hd
 cases hd
 refine wpList_plain hg fun K' hK' => ?_
 refine hos.2 E a (.inl s.bl) s.mem s.glob (fun x => get_vr s.glob fun t _ => s.vr t) K' Q fun v' w' ⟨E', e1, e2, e3, e4⟩ => ?_
 rw [← e1]
 refine hK' _ _ (hK E' v' e3 (s.put e3 ?_ e4))
 rw [e2]
 split
 ·rename_i hp; rw [(hos.1.pure hp).1]; exact s.bl
 ·rfl
theorem VR.raw_inv {E : Env} {o : Bool} {v v' : Value} (h : VR E o (.raw v) v') : v' = v := by cases h; rfl
def Odd (o : Obj) : Prop := (∀ c t f, o ≠ .cells c t f) ∧ ∀ es c, o ≠ .map es c
theorem odd_iter (m : Option Nat) (s : Nat) (seen : Array Nat) (c : Nat) : Odd (.mapIter m s seen c) := ⟨by simp, by simp⟩
theorem iter_set {E0 E : Env} {L : Nat} (gl : GoL L E0 E) (m : Mem E) {it : Nat} (hge : E0.w.heap.size ≤ it) {o0 o1 : Obj} (hit : E.w.heap[it]? = some o0) (h0 : Odd o0) (h1 : Odd o1) {W : World}
  (hh : W.heap = E.w.heap.setIfInBounds it o1) (hos : W.os = E.w.os) (htp : W.tape = E.w.tape) (hou : W.output = E.w.output) :
  GoL L E0 { E with w := W } ∧ Mem { E with w := W } ∧ Step E { E with w := W } ∧ ∀ b, b ≠ it → W.heap[b]? = E.w.heap[b]? := by
 have hlt := (Array.getElem?_eq_some_iff.1 hit).1
 have hne : ∀ b, b ≠ it → W.heap[b]? = E.w.heap[b]? := fun b hb => by rw [hh, Array.getElem?_setIfInBounds, if_neg (Ne.symm hb)]
 have hat : W.heap[it]? = some o1 := by rw [hh, Array.getElem?_setIfInBounds, if_pos rfl, if_pos hlt]
 have cell0 : ∀ {w : World} {o : Obj}, w.heap[it]? = some o → Odd o → ∀ q, w.cell? ⟨it, q, none⟩ = none := fun {w o} h k q => by
  unfold World.cell?
  simp only [h]
  cases o <;> first | rfl | exact absurd rfl (k.1 _ _ _)
 have frz0 : ∀ {w : World} {o : Obj}, w.heap[it]? = some o → Odd o → ∀ q, w.frozen? ⟨it, q, none⟩ = false := fun {w o} h k q => by
  unfold World.frozen?
  simp only [h]
  cases o <;> first | rfl | exact absurd rfl (k.1 _ _ _)
 have hcell : ∀ b o, Env.cell { E with w := W } b o = E.cell b o := fun b o => by
  by_cases e : b = it
  ·subst e; exact (cell0 hat h1 o).trans (cell0 hit h0 o).symm
  ·simp only [Env.cell, World.cell?, hne b e]
 have hfrz : ∀ b o, W.frozen? ⟨b, o, none⟩ = E.w.frozen? ⟨b, o, none⟩ := fun b o => by
  by_cases e : b = it
  ·subst e; rw [frz0 hat h1, frz0 hit h0]
  ·simp only [World.frozen?, hne b e]
 have hsz : W.heap.size = E.w.heap.size := by rw [hh]; simp
 have hmap : ∀ r es c, E.w.heap[r]? = some (Obj.map es c) → W.heap[r]? = some (Obj.map es c) := fun r es c h => by
  by_cases e : r = it
  ·subst e; rw [hit] at h; cases h; exact absurd rfl (h0.2 _ _)
  ·exact (hne r e).trans h
 have st : Step E { E with w := W } := ⟨Nat.le_refl _, fun b o h => ⟨h, hcell b o⟩, fun id _ blk h => .inr ⟨blk, h, rfl, fun _ _ h => h, fun _ _ h => h⟩, fun r es c _ h => hmap r es c h⟩
 refine ⟨⟨gl.len, fun b o h => ⟨(gl.ro b o h).1, (hcell b o).trans (gl.ro b o h).2⟩, gl.blk, ?_, fun r es c hr h => hmap r es c (gl.mp r es c hr h)⟩, ⟨fun id blk hb => ?_, m.dis, fun b o h => by show b < W.heap.size; rw [hsz]; exact m.roe b o h, m.rod⟩, st, hne⟩
 ·have f := gl.fr
  exact ⟨hos.trans f.os, htp.trans f.tape, hou.trans f.output, by show _ ≤ W.heap.size; rw [hsz]; exact f.size, fun b o hb hn => (hcell b o).trans (f.cell b o hb hn), fun b hb hn => (hne b (by omega)).trans (f.blk b hb hn), fun b o hb hn => (hfrz b o).trans (f.frz b o hb hn), f.own, f.roi, f.rom⟩
 ·have k := m.ok id blk hb
  refine ⟨k.fit, k.len, fun j x hx => let ⟨v, g1, g2⟩ := k.cells j x hx; ⟨v, (hcell _ _).trans g1, g2.mono st⟩, fun hm j hj => ?_, fun l hl => ⟨(k.mp l hl).1, ?_⟩⟩
  ·obtain ⟨g1, g2⟩ := k.rom hm j hj
   exact ⟨by rw [hcell]; exact g1, (hfrz _ _).trans g2⟩
  ·obtain ⟨es, c, g1, g2, g3, g4⟩ := (k.mp l hl).2
   exact ⟨es, c, hmap _ _ _ g1, g2, g3, fun j e k v he hl => ⟨(g4 j e k v he hl).1.mono st, (g4 j e k v he hl).2.mono st⟩⟩
theorem mfindL_of {k : AV} : ∀ {l : List AV} {j : Nat}, (∀ j', j' < j → ∃ k' v', l[j']? = some (.agg [k', v']) ∧ eqAV k k' = some false) → (∃ k' v', l[j]? = some (.agg [k', v']) ∧ eqAV k k' = some true) → mfindL k l = some (some j)
 | [], j, _, ⟨_, _, h, _⟩ => by simp at h
 | x :: r, 0, _, ⟨k', v', h, he⟩ => by
  simp at h
  subst h
  simp [mfindL, he]
 | x :: r, j + 1, h1, ⟨k', v', h, he⟩ => by
  obtain ⟨k2, v2, h2, he2⟩ := h1 0 (by omega)
  simp at h2
  subst h2
  have ih := mfindL_of (l := r) (j := j) (fun j' hj => by
   obtain ⟨k3, v3, h3, he3⟩ := h1 (j' + 1) (by omega)
   exact ⟨k3, v3, by simpa using h3, he3⟩) ⟨k', v', by simpa using h, he⟩
  simp [mfindL, he2, ih]
theorem delete_run {P : Program} {E : Env} {t kt et : TypeId} {r : Nat} {es : Array MapEntry} {cl : Nat} {l : List AV} {k : AV} {k' : Value} {i : Nat} {ts : Array TypeId} {ty : TypeId} (hu : P.underlying t = some (.map kt et)) (hts : ts[0]? = some t)
  (k1 : rowTy P kt = true) (k2 : eqTy P 8 kt = true) (k3 : conf P 8 kt k = true) (k4 : keyAV k = true) (hkv : VR E true k k') (hh : E.w.heap[r]? = some (.map es cl)) (hs : es.size = l.length)
  (hat : ∀ (j : Nat) e kk v, es[j]? = some e → l[j]? = some (.agg [kk, v]) → VR E false kk e.key) (hq : mfindL k l = some (some i)) :
  (Builtin.delete_ ts ty #[.map (some r), k']).run P E.w = .ok (.tuple #[]) { E.w with heap := E.w.heap.setIfInBounds r (.map (es.eraseIdxIfInBounds i) cl) } := by
 have hck : ∀ em, (Instr.checkKey em 10000 kt k').run P E.w = .ok () E.w := fun em => checkKey_ok (em := em) 8 9992 kt k k' E.w k2 k4 k3 hkv
 have hg : (getObj r).run P E.w = .ok (.map es cl) E.w := MapKept.run_getObj_map hh
 have hf := findKey_ok k1 k2 k3 hkv E.w hs hat hq
 simp only [Option.map_some] at hf
 have hset : (setObj r (.map (es.eraseIdxIfInBounds i) cl)).run P E.w = .ok () { E.w with heap := E.w.heap.setIfInBounds r (.map (es.eraseIdxIfInBounds i) cl) } := MapKept.run_setObj_map _ hh
 simp [Builtin.delete_, hts, run_underlying hu, hg, hck, hf, Result.andThen, hset]
theorem erase_filter {α : Type} (f : α → Nat) : ∀ (l : List α) (i : Nat) (x : α), l.Pairwise (fun a b => f a ≠ f b) → l[i]? = some x → l.eraseIdx i = l.filter fun y => !(f y == f x)
 | [], i, x, _, h => by simp at h
 | y :: l, 0, x, hp, h => by
  simp at h
  subst h
  rw [List.pairwise_cons] at hp
  simp only [List.eraseIdx_cons_zero]
  rw [List.filter_cons_of_neg (by simp)]
  exact (List.filter_eq_self.2 fun z hz => by simp [Ne.symm (hp.1 z hz)]).symm
 | y :: l, i + 1, x, hp, h => by
  rw [List.pairwise_cons] at hp
  have h' : l[i]? = some x := by simpa using h
  simp only [List.eraseIdx_cons_succ]
  rw [List.filter_cons_of_pos (by simp [hp.1 x (List.mem_of_getElem? h')]), erase_filter f l i x hp.2 h']
end
end Go.Abs
end
section
set_option linter.unusedVariables false
namespace Go.Abs
open Go Go.RowKit
theorem below_cell {E : Env} {W : World} (h : Below E.w.heap.size E.w W) {b o : Nat} (hb : b < E.w.heap.size) : W.cell? ⟨b, o, none⟩ = E.w.cell? ⟨b, o, none⟩ := World.cell?_of_block (h.block b hb)
theorem below_frz {E : Env} {W : World} (h : Below E.w.heap.size E.w W) {b o : Nat} (hb : b < E.w.heap.size) : W.frozen? ⟨b, o, none⟩ = E.w.frozen? ⟨b, o, none⟩ := World.frozen?_of_block (h.block b hb)
theorem Go.below {E : Env} (m : Mem E) {W : World} (h : Below E.w.heap.size E.w W) : Go E { E with w := W } := by
 have hcell : ∀ b o, b < E.w.heap.size → Env.cell { E with w := W } b o = E.cell b o := fun b o hb => below_cell h hb
 have fr : Fr E { E with w := W } := ⟨h.os, h.tape, h.output, h.size, fun b o hb _ => hcell b o hb, fun b hb _ => h.block b hb, fun b o hb _ => below_frz h hb, fun _ _ h => .inl h, fun _ _ h => .inl h, fun _ _ h => h⟩
 have st : Step E { E with w := W } := .of_fr m fr (Nat.le_refl _) fun id _ blk hb => ⟨blk, hb, rfl, fun _ _ h => h, fun _ _ h => h⟩
 refine ⟨st, fr, fun id blk hb => ?_, m.dis, fun b o hr => ?_, m.rod⟩
 ·have k := m.ok id blk hb
  refine ⟨k.fit, k.len, fun j x hx => ?_, fun hm j hj => ?_, fun l hl => ⟨(k.mp l hl).1, (k.mp l hl).2.mono st (h.block _ (k.mp l hl).2.lt)⟩⟩
  ·obtain ⟨v, hv, hr⟩ := k.cells j x hx
   exact ⟨v, (hcell _ _ (cell_lt (by show (E.cell _ _).isSome = true; rw [hv]; rfl))).trans hv, hr.mono st⟩
  ·obtain ⟨g1, g2⟩ := k.room hm j hj
   have hlt := cell_lt g1
   exact ⟨by rw [hcell _ _ hlt]; exact g1, (below_frz h hlt).trans g2⟩
 ·exact Nat.lt_of_lt_of_le (m.roe b o hr) h.size
end Go.Abs
end
