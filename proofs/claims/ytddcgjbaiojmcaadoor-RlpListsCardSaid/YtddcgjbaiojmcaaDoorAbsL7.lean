/- An executor of the model's code over abstract values, and that it is right: what it tells of a run is what the run does. No condition. -/
import Derived.Test.YtddcgjbaiojmcaaDoorAbsL6
import Derived.Handed
import Derived.LaidLaws
import Derived.MakeChecks
import Derived.FnData
import Derived.Lay
import Derived.LaidHandle
import Derived.LaidSub
import Derived.Stop.Joined
import Derived.Laws.Externs
import Derived.Below
section
set_option linter.unusedVariables false
namespace Go.Abs
open Go
def InK (k : IntKind) (n : Int) : Prop := k.min ≤ n ∧ n ≤ k.max
def InS (k : IntKind) (l : List Int) : Prop := l.length ≤ 140737488351232 ∧ ∀ x ∈ l, InK k x
theorem InK.of_wf {k : IntKind} {n : Int} (h : (Lit.int k n).wf = true) : InK k n := by simpa [Lit.wf, InK] using h
section
variable {P : Program} {t : TypeId} {a : AV}
theorem AVT.bool_inv (h : AVT P t a) (hu : P.underlying t = some .bool) : ∃ b, a = .bool b := by cases h <;> simp_all
theorem AVT.int_inv {k : IntKind} (h : AVT P t a) (hu : P.underlying t = some (.int k)) : ∃ n, a = .int k n ∧ InK k n := by
  cases h with
  | int hu' n hn => rw [hu] at hu'; cases hu'; exact ⟨n, rfl, .of_wf hn⟩
  | _ => simp_all
theorem AVT.rints_inv {e : Nat} {k : IntKind} (h : AVT P t a) (hu : P.underlying t = some (.slice e)) (he : P.underlying e = some (.int k)) (hb : 1 ≤ P.bytesOf e) : ∃ l, a = .rints k l ∧ InS k l := by
  cases h with
  | rints hu' he' l hl hw =>
    rw [hu] at hu'
    cases hu'
    rw [he] at he'
    cases he'
    refine ⟨l, rfl, ?_, fun x hx => .of_wf (hw x hx)⟩
    have := Nat.mul_le_mul_left l.length hb
    have : reachBytes = 140737488351232 := rfl
    omega
  | robjs hu' he' l hl hw => rw [hu] at hu'; cases hu'; exact absurd he (he' k)
  | _ => simp_all
theorem AVT.robjs_inv {e w : Nat} (h : AVT P t a) (hu : P.underlying t = some (.slice e)) (he : (match P.underlying e with | some (.int _) => false | _ => true) = true) (hb : 1 ≤ P.bytesOf e) (hw : P.cellsOf e = w) : ∃ l, a = .robjs e w l ∧ l.length ≤ 140737488351232 ∧ ∀ x ∈ l, AVT P e x := by
  cases h with
  | robjs hu' he' l hl hw' =>
    rw [hu] at hu'
    cases hu'
    subst hw
    refine ⟨l, rfl, ?_, hw'⟩
    have := Nat.mul_le_mul_left l.length hb
    have : reachBytes = 140737488351232 := rfl
    omega
  | rints hu' he' l hl hw => rw [hu] at hu'; cases hu'; rw [he'] at he; cases he
  | _ => simp_all
theorem AVT.struct_inv {fs : Array Field} (h : AVT P t a) (hu : P.underlying t = some (.struct fs)) : ∃ l, a = .agg l ∧ AVTs P (fs.toList.map (·.type)) l := by
  cases h with
  | struct hu' l hl hw =>
    rw [hu] at hu'
    cases hu'
    refine ⟨l, rfl, ?_⟩
    have key : ∀ (f : List Field) (l : List AV), l.length = f.length → (∀ (i : Nat) g x, f[i]? = some g → l[i]? = some x → AVT P g.type x) → AVTs P (f.map (·.type)) l := by
      intro f
      induction f with
      | nil => intro l h _; cases l with | nil => exact .nil | cons x r => simp at h
      | cons g f ih =>
        intro l h hx
        cases l with
        | nil => simp at h
        | cons x r => exact .cons (hx 0 g x rfl rfl) (ih r (by simpa using h) fun i g' x' h1 h2 => hx (i + 1) g' x' (by simpa using h1) (by simpa using h2))
    exact key fs.toList l (by simpa using hl) fun i g x h1 h2 => hw i g x (by simpa using h1) h2
  | _ => simp_all
theorem AVTs.nil_inv {as : List AV} (h : AVTs P [] as) : as = [] := by cases h; rfl
theorem AVTs.cons_inv {t : TypeId} {ts : List TypeId} {as : List AV} (h : AVTs P (t :: ts) as) : ∃ a r, as = a :: r ∧ AVT P t a ∧ AVTs P ts r := by cases h with | cons h k => exact ⟨_, _, rfl, h, k⟩
end
theorem among {l : List TypeId} {p : TypeId → Bool} (h : l.all p = true) : ∀ t, l.contains t = true → p t = true := fun t ht => List.all_eq_true.1 h t (by simpa using ht)
end Go.Abs
end
section
set_option linter.unusedVariables false
set_option linter.unusedSimpArgs false
namespace Go.Abs
open Go Go.RowKit Go.ChangeShapes Go.WideShapes
theorem law_lifted_laid {C : Checked} {os : Os} {f : FuncId} {fn : Func} {s : ChangeSpec} {H : Type} {enc : TypeId × Value → H} {G : Nat → AV} {rt : TypeId} (laids : List (String × DataW Unit)) (T : TypeId → Bool)
    (own : ownKnob C.prog.godebug = none) (started : os.Started) (noInit : C.prog.inits.idxOf? f = none) (hfn : C.prog.funcs[f]? = some fn)
    (witness : ∃ (w : World) (tape : Tape) (i : Input), w.os = os ∧ (w.forCall tape i).Shaped C.prog ∧ i.vars = [] ∧ Input.okWide C.prog (w.forCall tape i) .any w.heap.size f i ∧
      ((s.pre enc C.prog fn [] false (w.forCall tape i).memory i.args ∧ laidMetH C.prog laids (w.forCall tape i).memory) ∧ sizedMet enc C.prog fn (OpenSpec.ofChange s) false (w.forCall tape i).memory i.args) ∧ ({} : Assume).holds C.prog (lone (Frame.enter C.prog f i.args .normal) [] (w.forCall tape i)))
    (plain : (laids.all fun x => x.2.handleName?.isNone) = true)
    (laid : laidOutB C.prog = true) (hT : ∀ t, T t = true → goodT C.prog T t = true) (hts : ∀ t ∈ fn.params.toList, T t = true ∧ C.prog.readableRec t = true ∧ t < C.prog.types.size)
    (hvars : s.vars = []) (hspec : ∀ ds : List (DataW H), ds.length = fn.params.size → s.fn H ds = { results := [.lit (.bool true)], args := ds }) (hres : fn.resultTypes = #[rt]) (hrt : C.prog.underlying rt = some .bool)
    (hG : ∀ W, laidMet C.prog laids W → Glob G (E0 W))
    (main : ∀ as, AVTs C.prog fn.params.toList as → FnC C.prog G f as [] (.bool true) []) :
    ReturnsInHanded {} C os f .any (fun w args => (s.pre enc C.prog fn [] false w args ∧ laidMetH C.prog laids w) ∧ sizedMet enc C.prog fn (OpenSpec.ofChange s) false w args) (s.post enc C.prog fn false true false false) := by
  refine returnsInHanded_of_change_and (X := fun w _ => laidMetH C.prog laids w) (fun w w' args hh h => by rw [MakeChecks.laidMetH_plain _ _ _ plain] at h ⊢; exact h.of_heap hh) own started noInit hfn witness ?_
  intro W base args ds gs before hval hW _ hsz hX _
  rw [MakeChecks.laidMetH_plain _ _ _ plain] at hX
  have hW' := hW
  obtain ⟨p, q, hA, hV, rfl, hfz, hnd⟩ := hW
  rw [hvars] at hV
  obtain ⟨rfl, rfl⟩ : gs = [] ∧ q = [] := by
    cases gs with
    | nil => exact ⟨rfl, hV⟩
    | cons g gs => cases hV
  obtain ⟨as, h1, h2, h4, h3⟩ := open_args (T := T) hT (fun t ht => (hts t ht).1) (fun j t v h1 h2 => hval j t v (by simpa using h1) (by simpa using h2)) hA fun n hn => by
    have hvt : s.plain.varTypes C.prog = [] := by
      cases s
      simp only at hvars
      subst hvars
      rfl
    rw [hvt, List.append_nil, List.append_nil] at hsz
    simpa using List.all_eq_true.1 hsz n hn
  have hlen : ds.length = fn.params.size := by
    have h5 := AVTs.length h1
    rw [h4, ← h5]; simp
  refine (main as h1 (E0 W) args rfl (E0_mem W) (hG W hX) ⟨by simpa using h2, fun j x c hx hc => (h3 j x c hx (by simpa using hc)).lift⟩).mono fun e W' ⟨v, he, E', hw, _, gl, hv⟩ => ?_
  subst he
  subst hw
  cases hv
  have bel := E0_below gl
  refine ⟨_, rfl, ds, [], _, [], p, [], hW', ?_, ?_, ?_, bel.frame _, fun h => by cases h⟩
  · rw [List.append_nil, hspec ds hlen, hres]
    exact trodAll_mk1 (shut_bool hrt _)
  · rw [List.append_nil, hspec ds hlen]
    exact args_below laid bel (fun t ht => (hts t ht).2) hA
  · rw [List.append_nil, hspec ds hlen, hvars]
    rfl
end Go.Abs
end
section
set_option linter.unusedVariables false
set_option linter.unusedSimpArgs false
namespace Go.Abs
open Go Go.RowKit Go.ChangeShapes Go.WideShapes
theorem glob_one {W : World} {g : Nat} {x : AV} {v : Value} (hc : W.cell? ⟨g, 0, none⟩ = some v) (hl : (∀ kids, x ≠ .agg kids) ∧ (∀ k n l, x ≠ .ints k n l)) (hv : VR (E0 W) false x v) : VR (E0 W) false (.rptr x) (.pointer (some ⟨g, 0, none⟩)) := by
  have hf := (width_leaf hl).2
  refine .rptr _ _ _ (.leaf _ hl) rfl (fun _ => v) (fun j y hy => ?_) fun j y hy => ?_
  · rw [hf] at hy
    obtain ⟨rfl, rfl⟩ : j = 0 ∧ y = x := by
      cases j with
      | zero => simp at hy; exact ⟨rfl, hy.symm⟩
      | succ j => simp at hy
    exact ⟨by show (W.cell? ⟨g, 0 + 0, none⟩).isSome = true; rw [Nat.zero_add, hc]; rfl, hc⟩
  · rw [hf] at hy
    obtain ⟨rfl, rfl⟩ : j = 0 ∧ y = x := by
      cases j with
      | zero => simp at hy; exact ⟨rfl, hy.symm⟩
      | succ j => simp at hy
    exact hv
end Go.Abs
end
section
set_option linter.unusedVariables false
set_option linter.unusedSimpArgs false
namespace Go.Abs
open Go
def restK (C : Ctx) (A : Ann) (fn : Func) : Ex → St → Option (AV × Blks) := fun e st => match e with
  | .exit _ => none
  | _ => resultsK C fn.results.toList st fun l => finish A.lent (oneOf (ghostR A.rnil l st.bl).1) (ghostR A.rnil l st.bl).2 fun v out => some (v, out)
theorem rest_sound {C : Ctx} (hΓ : ∀ f m, C.Γ f = some m → CalleeS C.P C.G f m) (hmix : C.P.follows .mixedOrders = true) {A : Ann} {n : Nat} {fn : Func} {c : Code} {v : AV} {out : Blks} {st : St}
    (hΛ : ∀ b ∈ loopsIn c, ∀ m, A.loop (key b) = some m → LoopS C A n b m) (hJ : ∀ a ∈ seqsIn c, ∀ m, A.join (jkey a) = some m → JoinS C A n a m) (hL : A.lent = 0)
    (h : X C A n c st (restK C A fn) = some (v, out)) (E : Env) (a : Act) (s : SR C E st.tm st.bl a) (E0 : Env) (hE0 : E0.bl.length = 0) (gl0 : GoL 0 E0 E) (Q : Ending → World → Prop) (hQ : ∀ v2 E2, Go E0 E2 → E2.bl = out → VR E2 true v v2 → Q (.returned v2) E2.w) :
    c.wp C.P (bodyPost C.P fn Q) a E.w := by
  refine X_sound hΓ hmix A n c hΛ hJ (v, out) _ _ h E _ _ s (by rw [hL]; exact Nat.zero_le _) fun e st' hk E' a' gl s' => ?_
  rw [hL] at gl
  have key : resultsK C fn.results.toList st' (fun l => finish A.lent (oneOf (ghostR A.rnil l st'.bl).1) (ghostR A.rnil l st'.bl).2 fun v out => some (v, out)) = some (v, out) → a'.defers = [] ∧ ∃ v', (results fn a'.tmps).run C.P E'.w = .ok v' E'.w ∧ Q (.returned v') E'.w := fun hk => by
    obtain ⟨l, h1, h2⟩ := resultsK_sound (tm := st'.tm) (bl := st'.bl) hk
    have h3 := h1 fun l => finish A.lent (oneOf (ghostR A.rnil l st'.bl).1) (ghostR A.rnil l st'.bl).2 fun v out => some (v, out)
    rw [show resultsK C fn.results.toList ⟨st'.tm, st'.bl⟩ _ = _ from hk] at h3
    obtain ⟨us, g1, g2, g3⟩ := h2 E' a' s'
    obtain ⟨v2, out2, f1, f2⟩ := finish_sound h3.symm
    rw [f1] at h3
    cases h3
    rw [hL] at f2
    obtain ⟨E4, w4, b4, gl4, _, m4, l4, r4⟩ := ghostR_sound (ks := A.rnil) s'.bl s'.mem gl.len g2 g3
    obtain ⟨E3, w3, b3, gl3, m3, r3⟩ := f2 E4 _ b4 m4 (oneOf_vr l4 r4)
    refine ⟨s'.defers, _, ?_, (w3.trans w4) ▸ hQ _ E3 (GoL.toGo (hE0.symm ▸ gl0.trans (gl.trans (gl4.trans gl3))) m3) b3 r3⟩
    have key : ∀ m : Sem (List Value), m.run C.P E'.w = .ok us E'.w →
        (do let vs ← List.toArray <$> m; pure (if h : vs.size = 1 then vs[0] else Value.tuple vs) : Sem Value).run C.P E'.w = .ok (if h : us.toArray.size = 1 then us.toArray[0] else .tuple us.toArray) E'.w := fun m hm => by
      simp only [Sem.run_bind, Sem.run_map, hm]
      rfl
    unfold results
    rw [Array.mapM_eq_mapM_toList]
    exact key _ g1
  cases e with
  | normal => exact key hk
  | exit id => cases hk
  | ret => exact key hk
def Env.newMk (E : Env) (c : Array Value) (t : TypeId) (fr : Nat × Nat) : Env :=
  { w := E.w.alloc (.cells c t fr), ro := fun b o => E.ro b o ∨ (b = E.w.heap.size ∧ o < c.size), loc := E.loc, bl := E.bl }
theorem Go.newMk {E : Env} (m : Mem E) (c : Array Value) (t : TypeId) (fr : Nat × Nat) : Go E (E.newMk c t fr) := by
  have hcell : ∀ b o, b < E.w.heap.size → (E.newMk c t fr).cell b o = E.cell b o := fun b o hb => World.cell?_alloc_lt _ _ _ hb
  have hcelln : ∀ o, (E.newMk c t fr).cell E.w.heap.size o = c[o]? := fun o => World.cell?_alloc_mark E.w c t fr o
  have hfrz : ∀ b o, b < E.w.heap.size → (E.w.alloc (.cells c t fr)).frozen? ⟨b, o, none⟩ = E.w.frozen? ⟨b, o, none⟩ := fun b o hb => World.frozen?_alloc_old _ _ _ (by show b ≠ _; omega)
  have frm : Fr E (E.newMk c t fr) := ⟨rfl, rfl, rfl, by show _ ≤ (E.w.heap.push _).size; simp, fun b o hb _ => hcell b o hb,
    fun b hb _ => by show (E.w.heap.push _)[b]? = _; rw [Array.getElem?_push, if_neg (by omega)], fun b o hb _ => hfrz b o hb, fun _ _ h => .inl h, fun b o h => by
      rcases h with h | ⟨h, _⟩
      · exact .inl h
      · exact .inr (.inr (by omega)), fun _ _ h => .inl h⟩
  have st : Step E (E.newMk c t fr) := .of_fr m frm (Nat.le_refl _) fun id hid blk' hb => ⟨blk', hb, rfl, fun _ _ h => h, fun _ _ h => h⟩
  refine ⟨st, frm, ⟨fun id bk hb => ?_, m.dis, fun b o h => ?_, fun b o ho h => ?_⟩⟩
  · have k := m.ok id bk hb
    refine ⟨k.fit, k.len, fun j x hx => ?_, fun j hj => ?_⟩
    · obtain ⟨v, hv, hr⟩ := k.cells j x hx
      exact ⟨v, by rw [show (E.newMk c t fr).loc = E.loc from rfl, hcell _ _ (cell_lt (by show (E.cell _ _).isSome = true; rw [hv]; rfl))]; exact hv, hr.mono st⟩
    · obtain ⟨g1, g2⟩ := k.room j hj
      have hlt := cell_lt g1
      exact ⟨by rw [show (E.newMk c t fr).loc = E.loc from rfl, hcell _ _ hlt]; exact g1, by rw [show (E.newMk c t fr).w = E.w.alloc (.cells c t fr) from rfl, show (E.newMk c t fr).loc = E.loc from rfl, hfrz _ _ hlt]; exact g2⟩
  · rcases h with h | ⟨rfl, h⟩
    · have g := m.roe b o h
      rw [hcell _ _ (cell_lt g)]; exact g
    · rw [hcelln, Array.getElem?_eq_getElem h]; rfl
  · obtain ⟨id, blk, hb, hx⟩ := ho
    rcases h with h | ⟨rfl, h⟩
    · exact m.rod b o ⟨id, blk, hb, hx⟩ h
    · have k := m.ok id blk hb
      have hx' : InExt E id E.w.heap.size o := hx
      obtain ⟨h1, h2, h3⟩ := hx'
      have := cell_lt (k.room (o - (E.loc id).2.1) (by omega)).1
      omega
end Go.Abs
namespace Go.Abs
open Go Go.RowKit Go.ChangeShapes Go.WideShapes
theorem glob_errv {W : World} {g tF ts : Nat} {p : Value} (hlt : g < 100) (hc : W.cell? ⟨g, 0, none⟩ = some (.iface ts p)) : VR (E0 W) false (.rptr (.errv tF ts g)) (.pointer (some ⟨g, 0, none⟩)) := by
  have hro : (E0 W).ro g 0 := by show (W.cell? ⟨g, 0, none⟩).isSome = true; rw [hc]; rfl
  refine glob_one hc ⟨by simp, by simp⟩ (.errv _ _ _ _ _ ⟨?_, fun _ => ⟨hro, hc⟩⟩)
  rw [Nat.mod_eq_of_lt hlt]
  exact .base p hro hc
theorem glob_errAt {W : World} {g ts : Nat} {a : Addr} (hc : W.cell? ⟨g, 0, none⟩ = some (.iface ts (.pointer (some a)))) (hs : a.spot = none) (hr : ∃ c t, W.heap[a.block]? = some (.cells c t (0, 0))) : ErrAt (E0 W) g ts := by
  obtain ⟨c, t, hh⟩ := hr
  refine ⟨a, c, t, hs, by show (W.cell? ⟨g, 0, none⟩).isSome = true; rw [hc]; rfl, hc, ?_, hh, fun o ho => ?_⟩
  · exact (Array.getElem?_eq_some_iff.1 hh).1
  · obtain ⟨id, blk, hb, _⟩ := ho
    have := bget_lt hb
    simp [E0] at this
end Go.Abs
end
section
set_option linter.unusedVariables false
namespace Go.Abs
open Go
theorem CalleeS.pick {P : Program} {G : Nat → AV} {f : FuncId} {p : List AV → Bool} {a b : Callee} (ha : CalleeS P G f a) (hb : CalleeS P G f b) : CalleeS P G f (.pick p a b) := by
  intro args lent
  by_cases h : p args = true
  · simpa [Callee.pick, h] using ha args lent
  · simpa [Callee.pick, h] using hb args lent
end Go.Abs
end
section
set_option linter.unusedVariables false
namespace Go.Abs
open Go
abbrev LI := List Int
abbrev LA := List AV
abbrev NL := Nat → List Nat × List Nat
def lookC : List (Nat × Callee) → Nat → Option Callee
  | [], _ => none
  | (k, c) :: r, n => if k = n then some c else lookC r n
def noNL : NL := fun _ => ([], [])
inductive CS (P : Program) (G : Nat → AV) : List (Nat × Callee) → Prop where
  | nil : CS P G []
  | cons {k c r} (h : CalleeS P G k c) (t : CS P G r) : CS P G ((k, c) :: r)
theorem CS.ok {P : Program} {G : Nat → AV} {l : List (Nat × Callee)} (h : CS P G l) : ∀ f m, lookC l f = some m → CalleeS P G f m := by
  induction h with
  | nil => intro f m hm; cases hm
  | cons h t ih =>
    intro f m hm
    simp only [lookC] at hm
    split at hm
    · rename_i e
      cases hm
      subst e
      exact h
    · exact ih f m hm
inductive LL (C : Ctx) (A : Ann) (n : Nat) : List Code → Prop where
  | nil : LL C A n []
  | cons {b r m} (e : A.loop (key b) = some m) (h : LoopS C A n b m) (t : LL C A n r) : LL C A n (b :: r)
  | skip {b r} (e : A.loop (key b) = none) (t : LL C A n r) : LL C A n (b :: r)
theorem LL.ok {C : Ctx} {A : Ann} {n : Nat} {l : List Code} (h : LL C A n l) : ∀ b ∈ l, ∀ m, A.loop (key b) = some m → LoopS C A n b m := by
  induction h with
  | nil => intro b hb; cases hb
  | cons e h t ih =>
    intro b hb m hm
    rcases List.mem_cons.1 hb with rfl | hb
    · rw [e] at hm
      cases hm
      exact h
    · exact ih b hb m hm
  | skip e t ih =>
    intro b hb m hm
    rcases List.mem_cons.1 hb with rfl | hb
    · rw [e] at hm
      cases hm
    · exact ih b hb m hm
theorem nj {C : Ctx} {A : Ann} {n : Nat} {l : List Code} (h : A.join = lookJ []) : ∀ a ∈ l, ∀ m, A.join (jkey a) = some m → JoinS C A n a m := by
  intro a ha m hm
  rw [h] at hm
  cases hm
theorem fnC1 {C : Ctx} {A : Ann} {n : Nat} {f : FuncId} {fn : Func} {args : List AV} {lent : Blks} {U : Type} {M : Option U} {res : U → AV × Blks} {Y : Option (AV × Blks)} {u : U} {l : List (Nat × Callee)} {lp : List Code}
    (hΓ : C.Γ = lookC l) (hc : CS C.P C.G l) (hmix : C.P.follows .mixedOrders = true) (hf : C.P.funcs[f]? = some fn) (hb : fn.body.isNone = false) (hl : loopsIn (fn.body.getD .skip) = lp) (hll : LL C A n lp)
    (hJ : ∀ a ∈ seqsIn (fn.body.getD .skip), ∀ m, A.join (jkey a) = some m → JoinS C A n a m) (hname : fn.name ≠ "runtime.NumGoroutine") (hL : A.lent = lent.length) (hN : A.len = fn.ntmps) (hn : args.length ≤ fn.ntmps)
    (run : runF C A n fn args lent (fun v o => some (v, o)) = Y) (e : Y = M.map res) (h : M = some u) : FnC C.P C.G f args lent (res u).1 (res u).2 := by
  have hb' : fn.body = some (fn.body.getD .skip) := by
    cases hx : fn.body with
    | none => rw [hx] at hb; cases hb
    | some c => rfl
  refine runF_calls (hΓ ▸ hc.ok) hmix hf hb' (hl ▸ hll.ok) hJ hname hL hN hn ?_
  rw [run, e, h]
  rfl
theorem CalleeS.mk1 {T U : Type} {P : Program} {G : Nat → AV} {fid : FuncId} {fn : Func} {lend : List Bool} {anil : List (Option NK)} {pat : List AV → Blks → Option T} {f : T → Option U} {res : U → AV × Blks} {resK : {R : Type} → U → (AV → Blks → Option R) → Option R} {shape : T → List AV × Blks}
    (hk : ∀ (R : Type) (u : U) (K : AV → Blks → Option R), resK u K = K (res u).1 (res u).2) (hp : ∀ args lent t, pat args lent = some t → (args, lent) = shape t) (h : ∀ t u, f t = some u → FnC P G fid (shape t).1 (shape t).2 (res u).1 (res u).2)
    (hf : P.funcs[fid]? = some fn) (hname : fn.name ≠ "runtime.NumGoroutine") (hc : fn.body.isNone = false) : CalleeS P G fid (.mk' lend anil pat f resK) :=
  CalleeS.of hk hp fun t u e => (h t u e).ok hf hname hc
end Go.Abs
end
section
set_option linter.unusedVariables false
namespace Go.Abs
open Go Go.RowKit
theorem below_cell {E : Env} {W : World} (h : Below E.w.heap.size E.w W) {b o : Nat} (hb : b < E.w.heap.size) : W.cell? ⟨b, o, none⟩ = E.w.cell? ⟨b, o, none⟩ := World.cell?_of_block (h.block b hb)
theorem below_frz {E : Env} {W : World} (h : Below E.w.heap.size E.w W) {b o : Nat} (hb : b < E.w.heap.size) : W.frozen? ⟨b, o, none⟩ = E.w.frozen? ⟨b, o, none⟩ := World.frozen?_of_block (h.block b hb)
theorem Go.below {E : Env} (m : Mem E) {W : World} (h : Below E.w.heap.size E.w W) : Go E { E with w := W } := by
  have hcell : ∀ b o, b < E.w.heap.size → Env.cell { E with w := W } b o = E.cell b o := fun b o hb => below_cell h hb
  have fr : Fr E { E with w := W } := ⟨h.os, h.tape, h.output, h.size, fun b o hb _ => hcell b o hb, fun b hb _ => h.block b hb, fun b o hb _ => below_frz h hb, fun _ _ h => .inl h, fun _ _ h => .inl h, fun _ _ h => h⟩
  have st : Step E { E with w := W } := .of_fr m fr (Nat.le_refl _) fun id _ blk hb => ⟨blk, hb, rfl, fun _ _ h => h, fun _ _ h => h⟩
  refine ⟨st, fr, fun id blk hb => ?_, m.dis, fun b o hr => ?_, m.rod⟩
  · have k := m.ok id blk hb
    refine ⟨k.fit, k.len, fun j x hx => ?_, fun j hj => ?_⟩
    · obtain ⟨v, hv, hr⟩ := k.cells j x hx
      exact ⟨v, (hcell _ _ (cell_lt (by show (E.cell _ _).isSome = true; rw [hv]; rfl))).trans hv, hr.mono st⟩
    · obtain ⟨g1, g2⟩ := k.room j hj
      have hlt := cell_lt g1
      exact ⟨by rw [hcell _ _ hlt]; exact g1, (below_frz h hlt).trans g2⟩
  · have := m.roe b o hr
    rw [hcell b o (cell_lt this)]
    exact this
def Env.took (E : Env) (W : World) (g cap : Nat) (blk : Blk) : Env :=
  { w := W, ro := E.ro, loc := fun i => if i = E.bl.length then (g, 0, cap) else E.loc i, bl := E.bl ++ [some blk] }
theorem Go.took {E : Env} (m : Mem E) {W : World} (h : Below E.w.heap.size E.w W) {g cap : Nat} {cur : Array Value} {t : TypeId} (k : IntKind) (l : List Int)
    (hg : cap = 0 ∨ (E.w.heap.size ≤ g ∧ W.heap[g]? = some (.cells cur t (0, 0)))) (hcap : cap ≤ cur.size) (hl : l.length ≤ cap)
    (hc : ∀ j (_ : j < l.length), cur[j]? = some (.int k (l.getD j 0))) : Go E (E.took W g cap (.ints k l)) := by
  have hloc : ∀ i, i < E.bl.length → (E.took W g cap (.ints k l)).loc i = E.loc i := fun i hi => by simp [Env.took, Nat.ne_of_lt hi]
  have hlocn : (E.took W g cap (.ints k l)).loc E.bl.length = (g, 0, cap) := by simp [Env.took]
  have hcell : ∀ b o, b < E.w.heap.size → (E.took W g cap (.ints k l)).cell b o = E.cell b o := fun b o hb => below_cell h hb
  have hown : ∀ b o, Own (E.took W g cap (.ints k l)) b o → Own E b o ∨ E.w.heap.size ≤ b := fun b o ⟨id, bk, hb, hx⟩ => by
    rcases bget_append_lt hb with ⟨h1, h2⟩ | ⟨h1, _⟩
    · refine .inl ⟨id, bk, h2, ?_⟩
      unfold InExt at hx ⊢
      rwa [hloc id h1] at hx
    · subst h1
      unfold InExt at hx
      rw [hlocn] at hx
      obtain ⟨x1, x2, x3⟩ := hx
      rcases hg with h0 | ⟨h0, _⟩
      · simp only at x2 x3; omega
      · exact .inr (by simp only at x1; omega)
  have fr : Fr E (E.took W g cap (.ints k l)) := ⟨h.os, h.tape, h.output, h.size, fun b o hb _ => hcell b o hb, fun b hb _ => h.block b hb, fun b o hb _ => below_frz h hb, hown, fun _ _ h => .inl h, fun _ _ h => h⟩
  have st : Step E (E.took W g cap (.ints k l)) := .of_fr m fr (by simp [Env.took]) fun id hid blk' hb => by
    have : bget E.bl id = some blk' := by rwa [show (E.took W g cap (.ints k l)).bl = E.bl ++ [some (.ints k l)] from rfl, bget_append hid] at hb
    exact ⟨blk', this, hloc id hid, fun _ _ h => h, fun _ _ h => h⟩
  have hin : ∀ j, j < cap → (E.took W g cap (.ints k l)).cell g j = cur[j]? ∧ W.frozen? ⟨g, j, none⟩ = false := fun j hj => by
    rcases hg with h0 | ⟨_, h1⟩
    · omega
    · have c := @World.cell?_setCell_same
      refine ⟨?_, ?_⟩
      · show W.cell? ⟨g, j, none⟩ = _
        simp [World.cell?, h1]
      · simp [World.frozen?, h1]
  refine ⟨st, fr, ⟨fun id bk hb => ?_, fun i j bi bj hij hi hj b o hx hy => ?_, fun b o hr => ?_, fun b o ho hr => ?_⟩⟩
  · rcases bget_append_lt hb with ⟨h1, h2⟩ | ⟨h1, h2⟩
    · have q := m.ok id bk h2
      refine ⟨q.fit, by rw [hloc id h1]; exact q.len, fun j x hx => ?_, fun j hj => ?_⟩
      · obtain ⟨v, hv, hr⟩ := q.cells j x hx
        rw [hloc id h1]
        exact ⟨v, (hcell _ _ (cell_lt (by show (E.cell _ _).isSome = true; rw [hv]; rfl))).trans hv, hr.mono st⟩
      · rw [hloc id h1] at hj ⊢
        obtain ⟨g1, g2⟩ := q.room j hj
        have hlt := cell_lt g1
        exact ⟨by rw [hcell _ _ hlt]; exact g1, (below_frz h hlt).trans g2⟩
    · subst h1
      cases h2
      refine ⟨trivial, by rw [hlocn]; simpa [flatB] using hl, fun j x hx => ?_, fun j hj => ?_⟩
      · rw [hlocn]
        have hj : j < l.length := by
          have := (List.getElem?_eq_some_iff.1 hx).1
          simpa [flatB] using this
        have hx' : x = .int k (l.getD j 0) := by
          simp only [flatB, List.getElem?_map, List.getElem?_eq_getElem hj, Option.map_some, Option.some.injEq] at hx
          rw [← hx]
          simp [List.getElem?_eq_getElem hj]
        refine ⟨_, by rw [show (g, 0, cap).2.1 + j = j from Nat.zero_add j]; exact (hin j (by omega)).1.trans (hc j hj), ?_⟩
        rw [hx']
        exact .int _ _ _
      · rw [hlocn] at hj ⊢
        simp only at hj
        simp only [Nat.zero_add]
        obtain ⟨c1, c2⟩ := hin j hj
        exact ⟨by rw [c1, Array.getElem?_eq_getElem (by omega)]; rfl, c2⟩
  · rcases bget_append_lt hi with ⟨h1, h2⟩ | ⟨h1, h2⟩ <;> rcases bget_append_lt hj with ⟨k1, k2⟩ | ⟨k1, k2⟩
    · unfold InExt at hx hy
      rw [hloc _ h1] at hx
      rw [hloc _ k1] at hy
      exact m.dis i j bi bj hij h2 k2 b o hx hy
    · have hb := m.own_lt ⟨i, bi, h2, by unfold InExt at hx ⊢; rwa [hloc _ h1] at hx⟩
      subst k1
      unfold InExt at hy
      rw [hlocn] at hy
      obtain ⟨y1, y2, y3⟩ := hy
      simp only at y1 y2 y3
      rcases hg with h0 | ⟨h0, _⟩ <;> omega
    · have hb := m.own_lt ⟨j, bj, k2, by unfold InExt at hy ⊢; rwa [hloc _ k1] at hy⟩
      subst h1
      unfold InExt at hx
      rw [hlocn] at hx
      obtain ⟨y1, y2, y3⟩ := hx
      simp only at y1 y2 y3
      rcases hg with h0 | ⟨h0, _⟩ <;> omega
    · omega
  · have := m.roe b o hr
    rw [hcell b o (cell_lt this)]
    exact this
  · rcases hown b o ho with h1 | h1
    · exact m.rod b o h1 hr
    · have := cell_lt (m.roe b o hr)
      omega
theorem took_own {E : Env} (m : Mem E) {W : World} (h : Below E.w.heap.size E.w W) {v : Value} {t : TypeId} (k : IntKind) (l : List Int) (hv : W.ownsRow E.w.heap.size t 1 v l.length (l.map (Value.int k))) :
    ∃ E', E'.w = W ∧ E'.bl = E.bl ++ [some (.ints k l)] ∧ Go E E' ∧ VR E' true (.own E.bl.length 1) v := by
  obtain ⟨_, ⟨rfl, h0⟩ | ⟨g, cap, cur, rfl, hb, hg, hcap, _, hsz, htk⟩⟩ := hv
  · obtain rfl : l = [] := List.length_eq_zero_iff.1 h0
    refine ⟨E.took W 0 0 (.ints k []), rfl, rfl, Go.took m h (cur := #[]) (t := 0) k [] (.inl rfl) (by simp) (by simp) (fun j hj => by simp at hj), ?_⟩
    refine .own _ 1 0 none 0 (by simp [Env.took]) (Nat.le_refl _) fun blk hb => ?_
    have : blk = .ints k [] := by
      rw [show (E.took W 0 0 (.ints k [])).bl = E.bl ++ [some (.ints k [])] from rfl, bget_new] at hb
      exact (Option.some.inj hb).symm
    subst this
    exact ⟨rfl, by simp, .inl rfl⟩
  · refine ⟨E.took W g cap (.ints k l), rfl, rfl, Go.took m h k l (.inr ⟨hb, hg⟩) (by omega) hcap (fun j hj => ?_), ?_⟩
    · have : (cur.toList.take (l.length * 1))[j]? = (l.map (Value.int k))[j]? := by rw [htk]
      rw [Nat.mul_one, List.getElem?_take, if_pos hj, List.getElem?_map, List.getElem?_eq_getElem hj] at this
      rw [← Array.getElem?_toList, this]
      simp [List.getElem?_eq_getElem hj]
    · refine .own _ 1 l.length _ cap (by simp [Env.took]) hcap fun blk hbk => ?_
      have : blk = .ints k l := by
        rw [show (E.took W g cap (.ints k l)).bl = E.bl ++ [some (.ints k l)] from rfl, bget_new] at hbk
        exact (Option.some.inj hbk).symm
      subst this
      have hl : (E.took W g cap (.ints k l)).loc E.bl.length = (g, 0, cap) := by simp [Env.took]
      rw [hl]
      exact ⟨rfl, by simp, .inr rfl⟩
theorem args1 {E : Env} {x : AV} {vs : Array Value} (h : Args E [x] vs) : ∃ v, vs = #[v] ∧ VR E true x v := by
  have hs : vs.size = 1 := h.size
  have h0 := h.vr 0 _ vs[0] rfl (Array.getElem?_eq_getElem (by omega))
  refine ⟨vs[0], ?_, h0⟩
  apply Array.ext
  · exact hs
  · intro i hi hj
    simp at hj
    subst hj
    rfl
theorem args2 {E : Env} {x y : AV} {vs : Array Value} (h : Args E [x, y] vs) : ∃ v w, vs = #[v, w] ∧ VR E true x v ∧ VR E true y w := by
  have hs : vs.size = 2 := h.size
  have h0 := h.vr 0 _ vs[0] rfl (Array.getElem?_eq_getElem (by omega))
  have h1 := h.vr 1 _ vs[1] rfl (Array.getElem?_eq_getElem (by omega))
  refine ⟨vs[0], vs[1], ?_, h0, h1⟩
  apply Array.ext
  · exact hs
  · intro i hi hj
    simp at hj
    match i with
    | 0 => rfl
    | 1 => rfl
    | i + 2 => omega
end Go.Abs
end
