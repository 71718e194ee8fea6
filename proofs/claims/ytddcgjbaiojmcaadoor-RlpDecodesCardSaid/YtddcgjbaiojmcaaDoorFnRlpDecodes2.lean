/- What the program's functions compute, as plain functions, each with its proof: the function does just that. Condition: the plain function has an answer. -/
import Derived.Test.YtddcgjbaiojmcaaDoorProg
import Derived.WalkKit
import Derived.LaidEql
import Derived.Stop.Asserts
import Derived.RowKitTokens
import Derived.Elder7
import Derived.Test.YtddcgjbaiojmcaaDoorAbsL7
import Derived.Test.YtddcgjbaiojmcaaDoorFnRlpDecodes1
import Derived.Test.YtddcgjbaiojmcaaDoorAbsL1
set_option linter.unusedVariables false
set_option linter.unusedSimpArgs false
set_option maxRecDepth 100000
open Go Go.Abs Go.Proofs
section
namespace Go.Proofs
open Go Go.RowKit Go.Extern.Stop Go.Stop Go.Extern
theorem Tryd.isTypeOf (v : Value) (w : World) : (Extern.ReflectliteType.typeOf #[.iface 78 v]).run Tryd.prog w = .ok (.iface 68 (.agg #[.pointer (some ⟨3, 78, none⟩)])) w := by kernel_rfl
noncomputable def cmpEntry : Array Value → Sem Value := (Extern.find Tryd.f55).getD fun _ => pure (.tuple #[])
theorem Tryd.isComparable (w : World) : (cmpEntry #[.agg #[.pointer (some ⟨3, 78, none⟩)]]).run Tryd.prog w = .ok (.bool true) w := by kernel_rfl
theorem Tryd.isMethodComparable (v : Value) (w : World) : (Go.method 215 68 v "Comparable").run Tryd.prog w = .ok (55, v) w := by kernel_rfl
theorem Tryd.isComp : (Tryd.prog.info? 78).map (·.comparable) = some true := by kernel_rfl
theorem Tryd.isSize : (Tryd.prog.info? 104).map (·.size) = some 1 := by kernel_rfl
theorem Tryd.noIsE (v : Value) (xT : TypeId) (w : World) : (Instr.typeAssert (.iface 78 v) xT 70 true).run Tryd.prog w = .ok (.tuple #[.nilIface, .bool false]) w := run_typeAssert_lacksB Tryd.underlying70 (by kernel_rfl) (by kernel_rfl) v xT w
theorem Tryd.noUnwrapE (v : Value) (xT : TypeId) (w : World) : (Instr.typeAssert (.iface 78 v) xT 73 true).run Tryd.prog w = .ok (.tuple #[.nilIface, .bool false]) w := run_typeAssert_lacksB Tryd.underlying73 (by kernel_rfl) (by kernel_rfl) v xT w
theorem Tryd.noUnwrapsE (v : Value) (xT : TypeId) (w : World) : (Instr.typeAssert (.iface 78 v) xT 75 true).run Tryd.prog w = .ok (.tuple #[.nilIface, .bool false]) w := run_typeAssert_lacksB Tryd.underlying75 (by kernel_rfl) (by kernel_rfl) v xT w
theorem Tryd.noIsW (v : Value) (xT : TypeId) (w : World) : (Instr.typeAssert (.iface 58 v) xT 70 true).run Tryd.prog w = .ok (.tuple #[.nilIface, .bool false]) w := run_typeAssert_lacksB Tryd.underlying70 (by kernel_rfl) (by kernel_rfl) v xT w
theorem Tryd.hasUnwrapW (v : Value) (xT : TypeId) (w : World) : (Instr.typeAssert (.iface 58 v) xT 73 true).run Tryd.prog w = .ok (.tuple #[.iface 58 v, .bool true]) w := run_typeAssert_hasB Tryd.underlying73 (by kernel_rfl) v xT w
theorem Tryd.methodUnwrap (v : Value) (w : World) : (Go.method 215 58 v "Unwrap").run Tryd.prog w = .ok (51, v) w := by kernel_rfl
inductive Chain (W : World) (p : Addr) : Value → Nat → Prop
  | leaf : Chain W p (.iface 78 (.pointer (some p))) 0
  | wrap (pb po : Nat) (E : Value) (n : Nat) : W.cell? ⟨pb, po + 1, none⟩ = some E → Chain W p E n → Chain W p (.iface 58 (.pointer (some ⟨pb, po, none⟩))) (n + 1)
theorem Chain.unique {W : World} {p : Addr} {E : Value} {l l' : Nat} (h : Chain W p E l) (h' : Chain W p E l') : l = l' := by
  induction h generalizing l' with
  | leaf => cases h'; rfl
  | wrap pb po E1 l1 hc h1 ih =>
    cases h' with
    | wrap _ _ E2 l2 hc2 h2 => rw [hc] at hc2; cases hc2; rw [ih h2]
open Classical in
noncomputable def chainLen (W : World) (p : Addr) (E : Value) : Nat := if h : ∃ l, Chain W p E l then h.choose else 0
theorem chainLen_eq {W : World} {p : Addr} {E : Value} {l : Nat} (h : Chain W p E l) : chainLen W p E = l := by
  unfold chainLen
  rw [dif_pos ⟨l, h⟩]
  rw [Chain.unique (Exists.choose_spec ⟨l, h⟩) h]
set_option maxRecDepth 1000000 in
theorem is_chain {W : World} (a b : Addr) (ca cb : Array Value) (ta tb : TypeId) (ha : W.heap[a.block]? = some (.cells ca ta (0, 0))) (hb : W.heap[b.block]? = some (.cells cb tb (0, 0))) (E : Value) (l : Nat) (hch : Chain W a E l) :
    Calls Tryd.prog 32 #[E, .iface 78 (.pointer (some b)), .bool true] W fun e w' => e = .returned (.bool (decide (a = b))) ∧ w' = W := by
  obtain ⟨i, hi, hcmp⟩ := Option.map_eq_some_iff.1 Tryd.isComp
  obtain ⟨j, hj, hjs⟩ := Option.map_eq_some_iff.1 Tryd.isSize
  have nE := Tryd.noIsE
  have uE := Tryd.noUnwrapE
  have vE := Tryd.noUnwrapsE
  have nW := Tryd.noIsW
  have uW := Tryd.hasUnwrapW
  have mU := Tryd.methodUnwrap
  go_enter Tryd.func32, Tryd.ntmps32
  go_wp2
  go_loopw [0] (fun E' wl => wl = W ∧ ∃ l', Chain W a E' l') (fun E' _ => chainLen W a E')
  case atStart => exact ⟨rfl, l, hch⟩
  case round =>
    obtain ⟨rfl, l', hc'⟩ := hrel
    cases hc' with
    | leaf =>
      by_cases hab : a = b
      · subst hab
        have heq := run_eql_iface_ptr_same (P := Tryd.prog) wr a Tryd.underlying50 Tryd.underlying78 hi hcmp hj
        go_wp2
        go_ret
        exact ⟨by simp, rfl⟩
      · have heq := run_eql_iface_ptr_other (P := Tryd.prog) wr Tryd.underlying50 Tryd.underlying78 hi hcmp hj (by rw [hjs]; decide) hab ha hb
        go_wp2
        go_ret
        exact ⟨by simp [hab], rfl⟩
    | wrap pb po E1 l1 hcell h1 =>
      have hty := run_eql_iface_types (P := Tryd.prog) 58 78 (.pointer (some ⟨pb, po, none⟩)) (.pointer (some b)) Tryd.underlying50 (by decide) wr
      have hlen := chainLen_eq h1
      have hlen0 := chainLen_eq (Chain.wrap pb po E1 l1 hcell h1)
      have hne : ∃ u v, E1 = .iface u v := by cases h1 <;> exact ⟨_, _, rfl⟩
      obtain ⟨u1, v1, rfl⟩ := hne
      have HC : Hid (Chain wr a (.iface u1 v1) l1) := h1
      clear h1
      go_wp2
      
      
      go_wp2
      go_roundw
      case rel => exact ⟨trivial, l1, HC.out⟩
      case measure =>
        show chainLen wr a (.iface u1 v1) < _
        rw [hlen, hlen0]; simp
theorem is_nil (b : Addr) (w : World) :
    Calls Tryd.prog 27 #[.nilIface, .iface 78 (.pointer (some b))] w fun e w' => e = .returned (.bool false) ∧ w' = w := by
  have hn := run_eql_iface_nil_left (P := Tryd.prog) w 78 (.pointer (some b)) Tryd.underlying50
  go_enter Tryd.func27, Tryd.ntmps27
  go_wp2
  go_ret
  exact ⟨rfl, rfl⟩
set_option maxRecDepth 1000000 in
theorem is_err {W : World} (a b : Addr) (ca cb : Array Value) (ta tb : TypeId) (ha : W.heap[a.block]? = some (.cells ca ta (0, 0))) (hb : W.heap[b.block]? = some (.cells cb tb (0, 0))) (u : TypeId) (v : Value) (l : Nat) (hch : Chain W a (.iface u v) l) :
    Calls Tryd.prog 27 #[.iface u v, .iface 78 (.pointer (some b))] W fun e w' => e = .returned (.bool (decide (a = b))) ∧ w' = W := by
  have h10 := @run_callFunc_extern Tryd.prog 31 _ Extern.ReflectliteType.typeOf Tryd.func31 (by kernel_rfl) (by kernel_rfl) (by kernel_rfl) (by kernel_rfl)
  have h30 := @run_callFunc_extern Tryd.prog 55 _ cmpEntry Tryd.func55 (by kernel_rfl) (by kernel_rfl) (by kernel_rfl) (by kernel_rfl)
  have tT := Tryd.isTypeOf
  have cT := Tryd.isComparable
  have mR := Tryd.isMethodComparable
  have hcon := is_chain a b ca cb ta tb ha hb (.iface u v) l hch
  clear hch
  go_enter Tryd.func27, Tryd.ntmps27
  go_wp2_with (first | (go_at_call 32; refine hcon.mono ?_; rintro e w' ⟨rfl, rfl⟩) | go_in)
  go_ret
  exact ⟨rfl, rfl⟩
end Go.Proofs
namespace Go.Abs
open Go Go.Proofs Go.RowKit
theorem chain_of {E : Env} {k : Nat} {p : Addr} (hc : E.cell k 0 = some (.iface 78 (.pointer (some p)))) {v : Value} (h : ErrCh E 58 78 k v) : ∃ l, Chain E.w p v l := by
  induction h with
  | base q h h2 => rw [hc] at h2; cases h2; exact ⟨0, .leaf⟩
  | wrap a v hs h0 h1 h2 _ ih =>
    obtain ⟨l, hl⟩ := ih
    obtain ⟨ab, ao, sp⟩ := a
    simp only at hs
    subst hs
    exact ⟨l + 1, .wrap _ _ _ _ h2 hl⟩
theorem rlpG_errv {k : Nat} (h : k ≤ 2) : rlpG k = .errv 58 78 k := by
  match k, h with
  | 0, _ => rfl
  | 1, _ => rfl
  | 2, _ => rfl
theorem errAt {E : Env} (g : Glob rlpG E) {k : Nat} (h : k ≤ 2) : ErrAt E k 78 := (g.errs k 58 78 k (rlpG_errv h)).2
theorem errv_inv {E : Env} {o : Bool} {k : Nat} {v : Value} (h : VR E o (.errv 58 78 k) v) : ErrV E 58 78 k v := by cases h; assumption
theorem target {E : Env} {k : Nat} {b : Addr} (hk : k ≤ 2) (hc : E.cell k 0 = some (.iface 78 (.pointer (some b)))) {v : Value} (h : VR E true (.errv 58 78 k) v) : v = .iface 78 (.pointer (some b)) := by
  have := ((errv_inv h).base (by omega)).2
  rw [hc] at this
  cases this
  rfl
theorem isNil_ok (k : Nat) (hk : k ≤ 2) : FnOK Tryd.prog rlpG 27 [.nili, .errv 58 78 k] [] (.bool false) [] := by
  intro E vs hbl m g ha
  obtain ⟨v, w, rfl, hv, hw⟩ := args2 ha
  cases hv
  obtain ⟨b, cb, tb, h1, h2, h3, h4, h5, h6⟩ := errAt g hk
  rw [target hk h3 hw]
  refine .inl ⟨Tryd.f27, Tryd.func27, by decide, by kernel_rfl, (is_nil b E.w).mono ?_⟩
  rintro e W' ⟨rfl, rfl⟩
  exact ⟨_, rfl, E, rfl, hbl, Go.refl m, .bool _ _⟩
theorem isErr_ok (j k : Nat) (hj : j % 100 ≤ 2) (hk : k ≤ 2) : FnOK Tryd.prog rlpG 27 [.errv 58 78 j, .errv 58 78 k] [] (.bool (decide (j % 100 = k))) [] := by
  intro E vs hbl m g ha
  obtain ⟨v, w, rfl, hv, hw⟩ := args2 ha
  obtain ⟨b, cb, tb, h1, h2, h3, h4, h5, h6⟩ := errAt g hk
  obtain ⟨a, ca, ta, a1, a2, a3, a4, a5, a6⟩ := errAt g hj
  rw [target hk h3 hw]
  obtain ⟨l, hl⟩ := chain_of a3 (errv_inv hv).ch
  obtain ⟨u, x, rfl⟩ : ∃ u x, v = .iface u x := by cases hl <;> exact ⟨_, _, rfl⟩
  refine .inl ⟨Tryd.f27, Tryd.func27, by decide, by kernel_rfl, (is_err a b ca cb ta tb a5 h5 u x l hl).mono ?_⟩
  rintro e W' ⟨rfl, rfl⟩
  have e : decide (a = b) = decide (j % 100 = k) := by
    by_cases hjk : j % 100 = k
    · have : a = b := by
        rw [hjk, h3] at a3
        cases a3
        rfl
      simp [this, hjk]
    · have : a ≠ b := fun hab => by
        subst hab
        exact g.dif _ _ _ _ _ _ _ _ (rlpG_errv hj) (rlpG_errv hk) hjk _ _ _ a3 h3
      simp [this, hjk]
  rw [e]
  exact ⟨_, rfl, E, rfl, hbl, Go.refl m, .bool _ _⟩
end Go.Abs
end
section
theorem errors_Is0.s (hmix : Tryd.prog.follows .mixedOrders = true) (n : Nat) : CalleeS Tryd.prog rlpG 27 (errors_Is0.c n) :=
  CalleeS.of (res := errors_Is0.res) (shape := errors_Is0.shape) (fun R u K => rfl) (fun args lent t h => by
    unfold errors_Is0.pat at h
    split at h
    · cases h; rfl
    · cases h) fun t u h => by
      unfold errors_Is0.m at h
      split at h
      · cases h; exact isNil_ok t (by assumption)
      · cases h
theorem errors_Is1.s (hmix : Tryd.prog.follows .mixedOrders = true) (n : Nat) : CalleeS Tryd.prog rlpG 27 (errors_Is1.c n) :=
  CalleeS.of (res := errors_Is1.res) (shape := errors_Is1.shape) (fun R u K => rfl) (fun args lent t h => by
    unfold errors_Is1.pat at h
    split at h
    · cases h; rfl
    · cases h) fun t u h => by
      unfold errors_Is1.m at h
      split at h
      · rename_i hj
        split at h
        · rename_i hk
          cases h; exact isErr_ok t.1 t.2 hj hk
        · cases h
      · cases h
theorem Fm.s (hmix : Tryd.prog.follows .mixedOrders = true) (n : Nat) : CalleeS Tryd.prog rlpG 27 (Fm.c n) := .pick (errors_Is0.s hmix n) (errors_Is1.s hmix n)
end
section
theorem Fi.gmap {α β : Type} (h : β → α) (mk0 : Bool → Int → β) (mk1 : Bool → Int → LI → β) (mk2 : Bool → Int → LA → β) (n : Nat) (a0 : LI) : Fi.g (fun a0 a1 => (h (mk0 a0 a1))) (fun a0 a1 a2 => (h (mk1 a0 a1 a2))) (fun a0 a1 a2 => (h (mk2 a0 a1 a2))) n a0 = (Fi.g mk0 mk1 mk2 n a0).map h := by
  unfold Fi.g
  exact (bindO_map fun r2 => match r2 with | (.inl r2) => (bindO_map fun r6 => (ite_map rfl (bindO_map fun r10 => (ite_map rfl (bindO_map fun r14 => (ite_map rfl (ite_map rfl rfl))))))) | (.inr (.inl r2)) => (bindO_map fun r6 => (ite_map rfl (bindO_map fun r10 => (ite_map rfl (bindO_map fun r14 => (ite_map rfl (ite_map rfl rfl))))))) | (.inr (.inr (.inl r2))) => (bindO_map fun r6 => (ite_map rfl (bindO_map fun r10 => (ite_map rfl (bindO_map fun r14 => (ite_map rfl (ite_map rfl rfl))))))) | (.inr (.inr (.inr (.inl r2)))) => (bindO_map fun r6 => (ite_map rfl (bindO_map fun r10 => (ite_map rfl (bindO_map fun r14 => (ite_map rfl (ite_map rfl rfl))))))) | (.inr (.inr (.inr (.inr (.inl r2))))) => (bindO_map fun r6 => (ite_map rfl (bindO_map fun r10 => (ite_map rfl (bindO_map fun r14 => (ite_map rfl (ite_map rfl rfl))))))) | (.inr (.inr (.inr (.inr (.inr (.inl r2)))))) => (bindO_map fun r6 => (ite_map rfl (bindO_map fun r10 => (ite_map rfl (bindO_map fun r14 => (ite_map rfl (ite_map rfl rfl))))))) | (.inr (.inr (.inr (.inr (.inr (.inr r2)))))) => (bindO_map fun r6 => (ite_map rfl (bindO_map fun r10 => (ite_map rfl (bindO_map fun r14 => (ite_map rfl (ite_map rfl rfl))))))))
theorem Fi.run (n : Nat) (a0 : LI) : runF (Fi.C n) (Fi.A n) n Tryd.f18 [(.rints .u8 a0)] [] (fun v o => some (v, o)) = Fi.g (fun a0 a1 => (((.tup [(.agg [(.bool a0), .snil, .snil]), (.int .u16 a1)]), []) : AV × Blks)) (fun a0 a1 a2 => (((.tup [(.agg [(.bool a0), (.own 0 1), .snil]), (.int .u16 a1)]), [(some (.ints .u8 a2))]) : AV × Blks)) (fun a0 a1 a2 => (((.tup [(.agg [(.bool a0), .snil, (.own 0 3)]), (.int .u16 a1)]), [(some (.objs 25 3 a2))]) : AV × Blks)) n a0 := by kernel_rfl
theorem Fi.call (hmix : Tryd.prog.follows .mixedOrders = true) (n : Nat) (t : LI) (u) (h : Fi.m n t = some u) : FnC Tryd.prog rlpG 18 (Fi.shape t).1 (Fi.shape t).2 (Fi.res u).1 (Fi.res u).2 :=
  fnC1 (C := Fi.C n) (A := Fi.A n) (fn := Tryd.f18) rfl (.cons (Fv.s hmix n) (.cons (Fm.s hmix n) .nil)) hmix Tryd.func18 (by kernel_rfl) (lp := []) (by kernel_rfl) .nil
  (nj rfl) (by decide) rfl rfl (by show 1 ≤ Tryd.f18.ntmps; decide) (Fi.run n t) (Fi.gmap Fi.res (fun a0 a1 => (.inl (a0, a1))) (fun a0 a1 a2 => (.inr (.inl (a0, a1, a2)))) (fun a0 a1 a2 => (.inr (.inr (a0, a1, a2)))) n t) h
theorem Fi.s (hmix : Tryd.prog.follows .mixedOrders = true) (n : Nat) : CalleeS Tryd.prog rlpG 18 (Fi.c n) :=
  .mk1 (res := Fi.res) (shape := Fi.shape) (fun R u K => by rcases u with u | u | u <;> rfl) (fun _ _ _ h => by unfold Fi.pat at h; split at h <;> cases h; rfl) (fun t u h => Fi.call hmix n t u h) Tryd.func18 (by decide) (by kernel_rfl)
end
section
noncomputable section
noncomputable def Fj.C (n : Nat) : Ctx := ⟨Tryd.prog, rlpG, lookC [(28, Fw.c n)], fun _ => false⟩
noncomputable def Fj.A (n : Nat) : Ann := ⟨Tryd.f19.ntmps, 0, noNL, [], [none, none], fun k => match k with
 | _ => none, noNL, lookJ []⟩
def Fj.g {α : Type} (mk0 : Bool → Int → α) (mk1 : Bool → Int → LI → α) (mk2 : Bool → Int → LA → α) (n : Nat) (a0 : LI) : Option α :=
 bindO (Fw.m n (a0, 1)) fun r2 => match r2 with
  | (.inl r2) =>
   if (r2.2 == 0) = true then
    some (mk0 false 40)
   else
    if (r2.2 != (((List.length a0) : Nat) : Int)) = true then
     some (mk0 false 40)
    else
     some (mk0 r2.1 0)
  | (.inr (.inl r2)) =>
   if (r2.2.1 == 0) = true then
    some (mk0 false 40)
   else
    if (r2.2.1 != (((List.length a0) : Nat) : Int)) = true then
     some (mk0 false 40)
    else
     some (mk1 r2.1 0 r2.2.2)
  | (.inr (.inr r2)) =>
   if (r2.2.1 == 0) = true then
    some (mk0 false 40)
   else
    if (r2.2.1 != (((List.length a0) : Nat) : Int)) = true then
     some (mk0 false 40)
    else
     some (mk2 r2.1 0 r2.2.2)
def Fj.m (n : Nat) (t : LI) : Option ((Bool × Int) ⊕ ((Bool × (Int × LI)) ⊕ (Bool × (Int × LA)))) := Fj.g (fun a0 a1 => (.inl (a0, a1))) (fun a0 a1 a2 => (.inr (.inl (a0, a1, a2)))) (fun a0 a1 a2 => (.inr (.inr (a0, a1, a2)))) n t
def Fj.pat : List AV → Blks → Option LI
 | [(.rints .u8 a0)], [] => some a0
 | _, _ => none
def Fj.shape (t : LI) : List AV × Blks := ([(.rints .u8 t)], [])
def Fj.res : ((Bool × Int) ⊕ ((Bool × (Int × LI)) ⊕ (Bool × (Int × LA)))) → AV × Blks
 | (.inl u) => ((.tup [(.agg [(.bool u.1), .snil, .snil]), (.int .i64 u.2)]), [])
 | (.inr (.inl u)) => ((.tup [(.agg [(.bool u.1), (.own 0 1), .snil]), (.int .i64 u.2.1)]), [(some (.ints .u8 u.2.2))])
 | (.inr (.inr u)) => ((.tup [(.agg [(.bool u.1), .snil, (.own 0 3)]), (.int .i64 u.2.1)]), [(some (.objs 25 3 u.2.2))])
def Fj.resK {R : Type} (u : ((Bool × Int) ⊕ ((Bool × (Int × LI)) ⊕ (Bool × (Int × LA))))) (K : AV → Blks → Option R) : Option R := match u with
 | (.inl u) => (fun p : AV × Blks => K p.1 p.2) ((.tup [(.agg [(.bool u.1), .snil, .snil]), (.int .i64 u.2)]), [])
 | (.inr (.inl u)) => (fun p : AV × Blks => K p.1 p.2) ((.tup [(.agg [(.bool u.1), (.own 0 1), .snil]), (.int .i64 u.2.1)]), [(some (.ints .u8 u.2.2))])
 | (.inr (.inr u)) => (fun p : AV × Blks => K p.1 p.2) ((.tup [(.agg [(.bool u.1), .snil, (.own 0 3)]), (.int .i64 u.2.1)]), [(some (.objs 25 3 u.2.2))])
def Fj.c (n : Nat) : Abs.Callee := .mk' [] [(some (.ints .u8))] Fj.pat (Fj.m n) Fj.resK
end
end
section
theorem Fj.gmap {α β : Type} (h : β → α) (mk0 : Bool → Int → β) (mk1 : Bool → Int → LI → β) (mk2 : Bool → Int → LA → β) (n : Nat) (a0 : LI) : Fj.g (fun a0 a1 => (h (mk0 a0 a1))) (fun a0 a1 a2 => (h (mk1 a0 a1 a2))) (fun a0 a1 a2 => (h (mk2 a0 a1 a2))) n a0 = (Fj.g mk0 mk1 mk2 n a0).map h := by
  unfold Fj.g
  exact (bindO_map fun r2 => match r2 with | (.inl r2) => (ite_map rfl (ite_map rfl rfl)) | (.inr (.inl r2)) => (ite_map rfl (ite_map rfl rfl)) | (.inr (.inr r2)) => (ite_map rfl (ite_map rfl rfl)))
theorem Fj.run (n : Nat) (a0 : LI) : runF (Fj.C n) (Fj.A n) n Tryd.f19 [(.rints .u8 a0)] [] (fun v o => some (v, o)) = Fj.g (fun a0 a1 => (((.tup [(.agg [(.bool a0), .snil, .snil]), (.int .i64 a1)]), []) : AV × Blks)) (fun a0 a1 a2 => (((.tup [(.agg [(.bool a0), (.own 0 1), .snil]), (.int .i64 a1)]), [(some (.ints .u8 a2))]) : AV × Blks)) (fun a0 a1 a2 => (((.tup [(.agg [(.bool a0), .snil, (.own 0 3)]), (.int .i64 a1)]), [(some (.objs 25 3 a2))]) : AV × Blks)) n a0 := by kernel_rfl
theorem Fj.call (hmix : Tryd.prog.follows .mixedOrders = true) (n : Nat) (t : LI) (u) (h : Fj.m n t = some u) : FnC Tryd.prog rlpG 19 (Fj.shape t).1 (Fj.shape t).2 (Fj.res u).1 (Fj.res u).2 :=
  fnC1 (C := Fj.C n) (A := Fj.A n) (fn := Tryd.f19) rfl (.cons (Fw.s hmix n) .nil) hmix Tryd.func19 (by kernel_rfl) (lp := []) (by kernel_rfl) .nil
  (nj rfl) (by decide) rfl rfl (by show 1 ≤ Tryd.f19.ntmps; decide) (Fj.run n t) (Fj.gmap Fj.res (fun a0 a1 => (.inl (a0, a1))) (fun a0 a1 a2 => (.inr (.inl (a0, a1, a2)))) (fun a0 a1 a2 => (.inr (.inr (a0, a1, a2)))) n t) h
theorem Fj.s (hmix : Tryd.prog.follows .mixedOrders = true) (n : Nat) : CalleeS Tryd.prog rlpG 19 (Fj.c n) :=
  .mk1 (res := Fj.res) (shape := Fj.shape) (fun R u K => by rcases u with u | u | u <;> rfl) (fun _ _ _ h => by unfold Fj.pat at h; split at h <;> cases h; rfl) (fun t u h => Fj.call hmix n t u h) Tryd.func19 (by decide) (by kernel_rfl)
end
section
noncomputable section
noncomputable def Fd.C (n : Nat) : Ctx := ⟨Tryd.prog, rlpG, lookC [], fun _ => false⟩
noncomputable def Fd.A (n : Nat) : Ann := ⟨Tryd.f11.ntmps, 0, noNL, [], [none], fun k => match k with
 | _ => none, noNL, lookJ []⟩
def Fd.g {α : Type} (mk0 : Bool → α) (n : Nat) (a0 : LI) (a1 : LI) : Option α :=
 some (mk0 ((ByteArray.toList (Go.Abs.strOf a0)) == (ByteArray.toList (Go.Abs.strOf a1))))
def Fd.m (n : Nat) (t : (LI × LI)) : Option Bool := Fd.g (fun a0 => a0) n t.1 t.2
def Fd.pat : List AV → Blks → Option (LI × LI)
 | [(.rints .u8 a0), (.rints .u8 a1)], [] => some (a0, a1)
 | _, _ => none
def Fd.shape (t : (LI × LI)) : List AV × Blks := ([(.rints .u8 t.1), (.rints .u8 t.2)], [])
def Fd.res : Bool → AV × Blks
 | u => ((.bool u), [])
def Fd.resK {R : Type} (u : Bool) (K : AV → Blks → Option R) : Option R := K (Fd.res u).1 (Fd.res u).2
def Fd.c (n : Nat) : Abs.Callee := .mk' [] [(some (.ints .u8)), (some (.ints .u8))] Fd.pat (Fd.m n) Fd.resK
end
end
section
theorem Fd.gmap {α β : Type} (h : β → α) (mk0 : Bool → β) (n : Nat) (a0 : LI) (a1 : LI) : Fd.g (fun a0 => (h (mk0 a0))) n a0 a1 = (Fd.g mk0 n a0 a1).map h := by
  unfold Fd.g
  exact rfl
theorem Fd.run (n : Nat) (a0 : LI) (a1 : LI) : runF (Fd.C n) (Fd.A n) n Tryd.f11 [(.rints .u8 a0), (.rints .u8 a1)] [] (fun v o => some (v, o)) = Fd.g (fun a0 => (((.bool a0), []) : AV × Blks)) n a0 a1 := by kernel_rfl
theorem Fd.call (hmix : Tryd.prog.follows .mixedOrders = true) (n : Nat) (t : (LI × LI)) (u) (h : Fd.m n t = some u) : FnC Tryd.prog rlpG 11 (Fd.shape t).1 (Fd.shape t).2 (Fd.res u).1 (Fd.res u).2 :=
  fnC1 (C := Fd.C n) (A := Fd.A n) (fn := Tryd.f11) rfl .nil hmix Tryd.func11 (by kernel_rfl) (lp := []) (by kernel_rfl) .nil
  (nj rfl) (by decide) rfl rfl (by show 2 ≤ Tryd.f11.ntmps; decide) (Fd.run n t.1 t.2) (Fd.gmap Fd.res (fun a0 => a0) n t.1 t.2) h
theorem Fd.s (hmix : Tryd.prog.follows .mixedOrders = true) (n : Nat) : CalleeS Tryd.prog rlpG 11 (Fd.c n) :=
  .mk1 (res := Fd.res) (shape := Fd.shape) (fun R u K => rfl) (fun _ _ _ h => by unfold Fd.pat at h; split at h <;> cases h; rfl) (fun t u h => Fd.call hmix n t u h) Tryd.func11 (by decide) (by kernel_rfl)
end
section
noncomputable section
noncomputable def Fe.C (n : Nat) : Ctx := ⟨Tryd.prog, rlpG, lookC [], fun _ => false⟩
noncomputable def Fe.A (n : Nat) : Ann := ⟨Tryd.f17.ntmps, 0, noNL, [], [(some (.ints .u8))], fun k => match k with
 | _ => none, noNL, lookJ []⟩
def Fe.g {α : Type} (mk0 : LI → α) (n : Nat) (a0 : LI) : Option α :=
 if (((List.length a0) * 1) ≤ 70368744177664 ∧ (List.length a0) ≤ 9223372036854775807) then
  some (mk0 a0)
 else
  none
def Fe.m (n : Nat) (t : LI) : Option LI := Fe.g (fun a0 => a0) n t
def Fe.pat : List AV → Blks → Option LI
 | [(.rints .u8 a0)], [] => some a0
 | _, _ => none
def Fe.shape (t : LI) : List AV × Blks := ([(.rints .u8 t)], [])
def Fe.res : LI → AV × Blks
 | u => ((.own 0 1), [(some (.ints .u8 u))])
def Fe.resK {R : Type} (u : LI) (K : AV → Blks → Option R) : Option R := K (Fe.res u).1 (Fe.res u).2
def Fe.c (n : Nat) : Abs.Callee := .mk' [] [(some (.ints .u8))] Fe.pat (Fe.m n) Fe.resK
end
end
section
theorem Fe.gmap {α β : Type} (h : β → α) (mk0 : LI → β) (n : Nat) (a0 : LI) : Fe.g (fun a0 => (h (mk0 a0))) n a0 = (Fe.g mk0 n a0).map h := by
  unfold Fe.g
  exact (ite_map rfl rfl)
theorem Fe.run (n : Nat) (a0 : LI) : runF (Fe.C n) (Fe.A n) n Tryd.f17 [(.rints .u8 a0)] [] (fun v o => some (v, o)) = Fe.g (fun a0 => (((.own 0 1), [(some (.ints .u8 a0))]) : AV × Blks)) n a0 := by kernel_rfl
theorem Fe.call (hmix : Tryd.prog.follows .mixedOrders = true) (n : Nat) (t : LI) (u) (h : Fe.m n t = some u) : FnC Tryd.prog rlpG 17 (Fe.shape t).1 (Fe.shape t).2 (Fe.res u).1 (Fe.res u).2 :=
  fnC1 (C := Fe.C n) (A := Fe.A n) (fn := Tryd.f17) rfl .nil hmix Tryd.func17 (by kernel_rfl) (lp := []) (by kernel_rfl) .nil
  (nj rfl) (by decide) rfl rfl (by show 1 ≤ Tryd.f17.ntmps; decide) (Fe.run n t) (Fe.gmap Fe.res (fun a0 => a0) n t) h
theorem Fe.s (hmix : Tryd.prog.follows .mixedOrders = true) (n : Nat) : CalleeS Tryd.prog rlpG 17 (Fe.c n) :=
  .mk1 (res := Fe.res) (shape := Fe.shape) (fun R u K => rfl) (fun _ _ _ h => by unfold Fe.pat at h; split at h <;> cases h; rfl) (fun t u h => Fe.call hmix n t u h) Tryd.func17 (by decide) (by kernel_rfl)
end
section
noncomputable section
noncomputable def Fk.C (n : Nat) : Ctx := ⟨Tryd.prog, rlpG, lookC [(24, Ft.c n)], fun _ => false⟩
noncomputable def Fk.A (n : Nat) : Ann := ⟨Tryd.f15.ntmps, 0, noNL, [], [none], fun k => match k with
 | _ => none, noNL, lookJ []⟩
def Fk.g {α : Type} (mk0 : Bool → LI → α) (n : Nat) (a0 : Int) : Option α :=
 bindO (Ft.m n a0) fun r2 =>
  some (mk0 false r2)
def Fk.m (n : Nat) (t : Int) : Option (Bool × LI) := Fk.g (fun a0 a1 => (a0, a1)) n t
def Fk.pat : List AV → Blks → Option Int
 | [(.int .u64 a0)], [] => some a0
 | _, _ => none
def Fk.shape (t : Int) : List AV × Blks := ([(.int .u64 t)], [])
def Fk.res : (Bool × LI) → AV × Blks
 | u => ((.agg [(.bool u.1), (.own 0 1), .snil]), [(some (.ints .u8 u.2))])
def Fk.resK {R : Type} (u : (Bool × LI)) (K : AV → Blks → Option R) : Option R := K (Fk.res u).1 (Fk.res u).2
def Fk.c (n : Nat) : Abs.Callee := .mk' [] [none] Fk.pat (Fk.m n) Fk.resK
end
end
section
noncomputable section
def Fn.m (n : Nat) (t : Unit) : Option Bool := if n = 200000 then some true else none
def Fn.pat : List AV → Blks → Option Unit
 | [], [] => some ()
 | _, _ => none
def Fn.shape (t : Unit) : List AV × Blks := ([], [])
def Fn.res : Bool → AV × Blks
 | u => ((.bool u), [])
def Fn.resK {R : Type} (u : Bool) (K : AV → Blks → Option R) : Option R := K (Fn.res u).1 (Fn.res u).2
def Fn.c (n : Nat) : Abs.Callee := .mk' [] [] Fn.pat (Fn.m n) Fn.resK
end
end
section
namespace Go.Proofs
open Go
noncomputable def Tryd.rest10 : Code := match Tryd.f10.body with | some (.seq _ (.seq _ r)) => r | _ => .skip
end Go.Proofs
end
section
theorem Fk.gmap {α β : Type} (h : β → α) (mk0 : Bool → LI → β) (n : Nat) (a0 : Int) : Fk.g (fun a0 a1 => (h (mk0 a0 a1))) n a0 = (Fk.g mk0 n a0).map h := by
  unfold Fk.g
  exact (bindO_map fun r2 => rfl)
theorem Fk.run (n : Nat) (a0 : Int) : runF (Fk.C n) (Fk.A n) n Tryd.f15 [(.int .u64 a0)] [] (fun v o => some (v, o)) = Fk.g (fun a0 a1 => (((.agg [(.bool a0), (.own 0 1), .snil]), [(some (.ints .u8 a1))]) : AV × Blks)) n a0 := by kernel_rfl
theorem Fk.call (hmix : Tryd.prog.follows .mixedOrders = true) (n : Nat) (t : Int) (u) (h : Fk.m n t = some u) : FnC Tryd.prog rlpG 15 (Fk.shape t).1 (Fk.shape t).2 (Fk.res u).1 (Fk.res u).2 :=
  fnC1 (C := Fk.C n) (A := Fk.A n) (fn := Tryd.f15) rfl (.cons (Ft.s hmix n) .nil) hmix Tryd.func15 (by kernel_rfl) (lp := []) (by kernel_rfl) .nil
  (nj rfl) (by decide) rfl rfl (by show 1 ≤ Tryd.f15.ntmps; decide) (Fk.run n t) (Fk.gmap Fk.res (fun a0 a1 => (a0, a1)) n t) h
theorem Fk.s (hmix : Tryd.prog.follows .mixedOrders = true) (n : Nat) : CalleeS Tryd.prog rlpG 15 (Fk.c n) :=
  .mk1 (res := Fk.res) (shape := Fk.shape) (fun R u K => rfl) (fun _ _ _ h => by unfold Fk.pat at h; split at h <;> cases h; rfl) (fun t u h => Fk.call hmix n t u h) Tryd.func15 (by decide) (by kernel_rfl)
end
section
namespace Go.Proofs
open Go Go.RowKit Go.Extern.Stop Go.Stop Go.Extern Go.Abs
theorem Tryd.under22' : Tryd.prog.underlying 22 = some (.slice 5) := by kernel_rfl
theorem Tryd.under5' : Tryd.prog.underlying 5 = some (.int .u8) := by kernel_rfl
theorem mark_run {P : Program} (w : World) (b : Nat) (t : TypeId) (n : Nat) (h : w.shape? b = some (t, n)) : (markStringish ⟨b, 0, none⟩).run P w = .ok () (w.freeze ⟨b, n, none⟩ 1) := by
  unfold markStringish
  simp only [shape, Sem.run_bind]
  show Result.andThen (Result.ok (w.shape? b) w) _ = _
  rw [h]
  rfl
theorem mark_new {P : Program} (w : World) (cs : Array Value) (t : TypeId) : (markStringish ⟨w.heap.size, 0, none⟩).run P (w.alloc (.cells cs t (0, 0))) = .ok () (w.alloc (.cells cs t (cs.size, cs.size + 1))) := by
  have e : (w.heap.push (.cells cs t (0, 0)))[w.heap.size]? = some (.cells cs t (0, 0)) := by rw [Array.getElem?_push, if_pos rfl]
  rw [mark_run _ _ t cs.size (by show (match (w.heap.push (.cells cs t (0, 0)))[w.heap.size]? with | some (.cells c elem _) => some (elem, c.size) | _ => none) = _; rw [e])]
  congr 1
  unfold World.freeze
  rw [if_neg (by decide)]
  show ({ w with heap := (w.heap.push _).modify w.heap.size _ } : World) = { w with heap := w.heap.push _ }
  congr 1
  apply Array.ext
  · simp
  · intro i h1 h2
    simp only [Array.getElem_modify, Array.getElem_push]
    by_cases hi : w.heap.size = i
    · subst hi; simp
    · have h3 : i < w.heap.size := by simp at h2; omega
      simp [hi, h3]
theorem conv22 (w : World) : (convert 22 22 (.slice (some ⟨w.heap.size, 0, none⟩) 3 3)).run Tryd.prog (w.alloc (.cells #[.int .u8 100, .int .u8 111, .int .u8 103] 5)) = .ok (.slice (some ⟨w.heap.size, 0, none⟩) 3 3) (w.alloc (.cells #[.int .u8 100, .int .u8 111, .int .u8 103] 5 (3, 4))) := by
  have h : (convert 22 22 (.slice (some ⟨w.heap.size, 0, none⟩) 3 3)).run Tryd.prog (w.alloc (.cells #[.int .u8 100, .int .u8 111, .int .u8 103] 5)) = (do markStringish ⟨w.heap.size, 0, none⟩; pure (.slice (some ⟨w.heap.size, 0, none⟩) 3 3) : Sem Value).run Tryd.prog (w.alloc (.cells #[.int .u8 100, .int .u8 111, .int .u8 103] 5)) := by
    simp [convert, run_underlying Tryd.under22', run_underlying Tryd.under5']
  rw [h, Sem.run_bind, mark_new]
  rfl
theorem kn (E : Env) (Q : Ending → World → Prop) (Good : World → Value → Prop) (Good2 : World → Value → Prop)
    (hcall : ∀ W1 v, Good W1 v → Calls Tryd.prog 12 #[v] W1 fun e w' => ∃ v', e = .returned v' ∧ Good2 w' v')
    (h1 : Good (E.w.alloc (.cells #[.int .u8 100, .int .u8 111, .int .u8 103] 5 (3, 4))) (.agg #[.bool false, .slice (some ⟨E.w.heap.size, 0, none⟩) 3 3, .slice none 0 0]))
    (hrest : ∀ a w, (∃ v', Good2 w v' ∧ a.tmps.getD 1 undef = v' ∧ a.tmps.size = 54 ∧ a.defers = []) → Code.wp Tryd.prog Tryd.rest10 (bodyPost Tryd.prog Tryd.f10 Q) a w) : Calls Tryd.prog 10 #[] E.w Q := by
  have hconv := conv22 E.w
  go_enter Tryd.func10, Tryd.ntmps10
  change Code.wp Tryd.prog (Code.seq _ (Code.seq _ Tryd.rest10)) _ _ _
  generalize Tryd.rest10 = R at hrest ⊢
  go_wp2_with (first | (go_at_call 12; refine (hcall _ _ h1).mono ?_; rintro e w' ⟨v', rfl, hg⟩) | go_in)
  refine hrest _ _ ?_
  exact ⟨_, hg, rfl, rfl, rfl⟩
end Go.Proofs
namespace Go.Abs
open Go Go.Proofs Go.RowKit
noncomputable def knC : Ctx := ⟨Tryd.prog, rlpG, fun f => match f with
  | 12 => some (Ff.c 200000)
  | 18 => some (Fi.c 200000)
  | 15 => some (Fk.c 200000)
  | _ => none, fun t => t == 5000022⟩
noncomputable def knA : Ann := ⟨54, 0, fun _ => ([], []), [], [none], fun _ => none, fun _ => ([], []), fun _ => none⟩
def knSt : St := ⟨[.any, .own 0 1] ++ List.replicate 52 .any, [some (.ints .u8 [131, 100, 111, 103])]⟩
theorem knRun : X knC knA 200000 Tryd.rest10 knSt (restK knC knA Tryd.f10) = some (.bool true, []) := by kernel_rfl
theorem knEnc : Ff.mr 200000 2 (false, [100, 111, 103], []) = some [131, 100, 111, 103] := by kernel_rfl
theorem knItem (E : Env) : VR (E.newMk #[.int .u8 100, .int .u8 111, .int .u8 103] 5 (3, 4)) true (.agg [.bool false, .rints .u8 [100, 111, 103], .robjs 25 3 []]) (.agg #[.bool false, .slice (some ⟨E.w.heap.size, 0, none⟩) 3 3, .slice none 0 0]) := by
  have hc : ∀ o, (E.newMk #[.int .u8 100, .int .u8 111, .int .u8 103] 5 (3, 4)).cell E.w.heap.size o = (#[Value.int .u8 100, .int .u8 111, .int .u8 103] : Array Value)[o]? := fun o => World.cell?_alloc_mark E.w _ 5 (3, 4) o
  refine .agg _ _ _ (.agg _ fun x hx => ?_) rfl fun j x c hx hcj => ?_
  · simp at hx
    rcases hx with rfl | rfl | rfl <;> exact .leaf _ ⟨by simp, by simp⟩
  · match j with
    | 0 => cases hx; cases hcj; exact .bool _ _
    | 1 =>
      cases hx; cases hcj
      refine .rints _ _ [100, 111, 103] _ _ (by simp) fun i hi => ⟨_, rfl, rfl, .inr ⟨rfl, by simpa using hi⟩, ?_⟩
      show (E.newMk _ 5 (3, 4)).cell E.w.heap.size (0 + i) = _
      rw [hc]
      match i, hi with
      | 0, _ => rfl
      | 1, _ => rfl
      | 2, _ => rfl
      | i + 3, h => exact absurd h (by simp)
    | 2 =>
      cases hx; cases hcj
      exact .robjs _ _ _ [] _ _ (by simp) (by simp) (fun _ _ => .bool false) (by simp) (fun ad i x j y _ h => by simp at h) (fun i x j y h => by simp at h)
    | j + 3 => simp [flats, flat] at hx
theorem known_ok (hmix : Tryd.prog.follows .mixedOrders = true) : FnOK Tryd.prog rlpG 10 [] [] (.bool true) [] := by
  intro E vs hbl m g ha
  obtain rfl : vs = #[] := Array.size_eq_zero_iff.1 (by simpa using ha.size)
  refine .inl ⟨Tryd.f10, Tryd.func10, by decide, by kernel_rfl, ?_⟩
  have hΓ : ∀ f mm, knC.Γ f = some mm → CalleeS knC.P knC.G f mm := by
    intro f mm hm
    unfold knC at hm
    simp only at hm
    split at hm <;> first
      | (cases hm; exact Ff.s hmix 200000)
      | (cases hm; exact Fi.s hmix 200000)
      | (cases hm; exact Fk.s hmix 200000)
      | (cases hm; done)
  refine kn E _ (fun W1 v => ∃ E1, E1.w = W1 ∧ E1.bl = [] ∧ Go E E1 ∧ VR E1 true (.agg [.bool false, .rints .u8 [100, 111, 103], .robjs 25 3 []]) v)
    (fun w v' => ∃ E2, E2.w = w ∧ E2.bl = [some (.ints .u8 [131, 100, 111, 103])] ∧ Go E E2 ∧ VR E2 true (.own 0 1) v') ?_ ?_ ?_
  · rintro W1 v ⟨E1, rfl, hb1, g1, hv⟩
    have hc := Ff.call hmix 200000 (Ff.mr 200000 1) (Ff.s' hmix 200000 1) (false, [100, 111, 103], []) [131, 100, 111, 103] knEnc
    refine (hc E1 #[v] hb1 g1.mem (g.mono g1.step.ro g1.fr.keeps) ⟨rfl, fun j x c hx hcj => ?_⟩).mono fun e w' ⟨v', he, E', h1, h2, h3, h4⟩ => ⟨v', he, E', h1, h2, g1.trans h3, h4⟩
    match j with
    | 0 => cases hx; cases hcj; exact hv
    | j + 1 => simp [Ff.shape] at hx
  · exact ⟨E.newMk _ 5 (3, 4), rfl, hbl, Go.newMk m _ _ _, knItem E⟩
  · rintro a w ⟨v', ⟨E2, rfl, hb2, g2, hv⟩, ht, hsz, hdf⟩
    have s : SR knC E2 knSt.tm knSt.bl a := by
      refine ⟨hb2, g2.mem, g.mono g2.step.ro g2.fr.keeps, hsz, fun t => ?_, hdf⟩
      match t with
      | 0 => exact .any _ _
      | 1 => show VR E2 true (.own 0 1) _; rw [ht]; exact hv
      | t + 2 =>
        have : knSt.tm.getD (t + 2) .any = .any := by
          show (([AV.any, AV.own 0 1] ++ List.replicate 52 AV.any).getD (t + 2) AV.any) = AV.any
          rw [List.getD_eq_getElem?_getD, List.getElem?_append_right (by simp), List.getElem?_replicate]
          split <;> rfl
        rw [this]
        exact .any _ _
    refine rest_sound (n := 200000) hΓ hmix (A := knA) (st := knSt) (by intro b hb mm hm; cases hm) (by intro b hb mm hm; cases hm) rfl knRun E2 a s E (by rw [hbl]; rfl) (g2.toL (Nat.zero_le _)) _ fun v2 E3 g3 h3 h4 => ?_
    exact ⟨v2, rfl, E3, rfl, h3, g3, h4⟩
end Go.Abs
end
section
theorem Fn.s (hmix : Tryd.prog.follows .mixedOrders = true) (n : Nat) : CalleeS Tryd.prog rlpG 10 (Fn.c n) :=
  CalleeS.of (res := Fn.res) (shape := Fn.shape) (fun R u K => rfl) (fun args lent t h => by
    unfold Fn.pat at h
    split at h
    · cases h; rfl
    · cases h) fun t u h => by
      unfold Fn.m at h
      split at h
      · cases h; exact known_ok hmix
      · cases h
end
section
noncomputable section
noncomputable def Fc.C (n : Nat) : Ctx := ⟨Tryd.prog, rlpG, lookC [(17, Fe.c n), (18, Fi.c n), (19, Fj.c n), (10, Fn.c n), (14, Fq.c n), (11, Fd.c n)], fun t => t == 3004000 || t == 3004004⟩
noncomputable def Fc.A (n : Nat) : Ann := ⟨Tryd.f4.ntmps, 0, noNL, [], [none], fun k => match k with
 | _ => none, noNL, lookJ []⟩
def Fc.g {α : Type} (mk0 : Bool → α) (n : Nat) (a0 : LI) : Option α :=
 if (decide ((((List.length a0) : Nat) : Int) > 1000)) = true then
  some (mk0 true)
 else
  bindO (Fe.m n a0) fun r4 =>
   bindO (Fi.m n r4) fun r6 => match r6 with
    | (.inl r6) =>
     bindO (Fj.m n a0) fun r10 => match r10 with
      | (.inl r10) =>
       bindO (Fn.m n Unit.unit) fun r14 =>
        if r14 = true then
         if ((IntKind.wrap .i64 r6.2) == r10.2) = true then
          bindO (Fq.m n (r6.1, [], [], r10.1, [], [])) fun r20 =>
           if r20 = true then
            bindO (Fd.m n (r4, a0)) fun r24 =>
             some (mk0 r24)
           else
            some (mk0 false)
         else
          some (mk0 false)
        else
         some (mk0 false)
      | (.inr (.inl r10)) =>
       bindO (Fn.m n Unit.unit) fun r14 =>
        if r14 = true then
         if ((IntKind.wrap .i64 r6.2) == r10.2.1) = true then
          bindO (Fq.m n (r6.1, [], [], r10.1, r10.2.2, [])) fun r20 =>
           if r20 = true then
            bindO (Fd.m n (r4, a0)) fun r24 =>
             some (mk0 r24)
           else
            some (mk0 false)
         else
          some (mk0 false)
        else
         some (mk0 false)
      | (.inr (.inr r10)) =>
       bindO (Fn.m n Unit.unit) fun r14 =>
        if r14 = true then
         if ((IntKind.wrap .i64 r6.2) == r10.2.1) = true then
          bindO (Fq.m n (r6.1, [], [], r10.1, [], r10.2.2)) fun r20 =>
           if r20 = true then
            bindO (Fd.m n (r4, a0)) fun r24 =>
             some (mk0 r24)
           else
            some (mk0 false)
         else
          some (mk0 false)
        else
         some (mk0 false)
    | (.inr (.inl r6)) =>
     bindO (Fj.m n a0) fun r10 => match r10 with
      | (.inl r10) =>
       bindO (Fn.m n Unit.unit) fun r14 =>
        if r14 = true then
         if ((IntKind.wrap .i64 r6.2.1) == r10.2) = true then
          bindO (Fq.m n (r6.1, r6.2.2, [], r10.1, [], [])) fun r20 =>
           if r20 = true then
            bindO (Fd.m n (r4, a0)) fun r24 =>
             some (mk0 r24)
           else
            some (mk0 false)
         else
          some (mk0 false)
        else
         some (mk0 false)
      | (.inr (.inl r10)) =>
       bindO (Fn.m n Unit.unit) fun r14 =>
        if r14 = true then
         if ((IntKind.wrap .i64 r6.2.1) == r10.2.1) = true then
          bindO (Fq.m n (r6.1, r6.2.2, [], r10.1, r10.2.2, [])) fun r20 =>
           if r20 = true then
            bindO (Fd.m n (r4, a0)) fun r24 =>
             some (mk0 r24)
           else
            some (mk0 false)
         else
          some (mk0 false)
        else
         some (mk0 false)
      | (.inr (.inr r10)) =>
       bindO (Fn.m n Unit.unit) fun r14 =>
        if r14 = true then
         if ((IntKind.wrap .i64 r6.2.1) == r10.2.1) = true then
          bindO (Fq.m n (r6.1, r6.2.2, [], r10.1, [], r10.2.2)) fun r20 =>
           if r20 = true then
            bindO (Fd.m n (r4, a0)) fun r24 =>
             some (mk0 r24)
           else
            some (mk0 false)
         else
          some (mk0 false)
        else
         some (mk0 false)
    | (.inr (.inr r6)) =>
     bindO (Fj.m n a0) fun r10 => match r10 with
      | (.inl r10) =>
       bindO (Fn.m n Unit.unit) fun r14 =>
        if r14 = true then
         if ((IntKind.wrap .i64 r6.2.1) == r10.2) = true then
          bindO (Fq.m n (r6.1, [], r6.2.2, r10.1, [], [])) fun r20 =>
           if r20 = true then
            bindO (Fd.m n (r4, a0)) fun r24 =>
             some (mk0 r24)
           else
            some (mk0 false)
         else
          some (mk0 false)
        else
         some (mk0 false)
      | (.inr (.inl r10)) =>
       bindO (Fn.m n Unit.unit) fun r14 =>
        if r14 = true then
         if ((IntKind.wrap .i64 r6.2.1) == r10.2.1) = true then
          bindO (Fq.m n (r6.1, [], r6.2.2, r10.1, r10.2.2, [])) fun r20 =>
           if r20 = true then
            bindO (Fd.m n (r4, a0)) fun r24 =>
             some (mk0 r24)
           else
            some (mk0 false)
         else
          some (mk0 false)
        else
         some (mk0 false)
      | (.inr (.inr r10)) =>
       bindO (Fn.m n Unit.unit) fun r14 =>
        if r14 = true then
         if ((IntKind.wrap .i64 r6.2.1) == r10.2.1) = true then
          bindO (Fq.m n (r6.1, [], r6.2.2, r10.1, [], r10.2.2)) fun r20 =>
           if r20 = true then
            bindO (Fd.m n (r4, a0)) fun r24 =>
             some (mk0 r24)
           else
            some (mk0 false)
         else
          some (mk0 false)
        else
         some (mk0 false)
def Fc.m (n : Nat) (t : LI) : Option Bool := Fc.g (fun a0 => a0) n t
def Fc.shape (t : LI) : List AV × Blks := ([(.rints .u8 t)], [])
def Fc.res : Bool → AV × Blks
 | u => ((.bool u), [])
end
end
section
theorem Fc.gmap {α β : Type} (h : β → α) (mk0 : Bool → β) (n : Nat) (a0 : LI) : Fc.g (fun a0 => (h (mk0 a0))) n a0 = (Fc.g mk0 n a0).map h := by
  unfold Fc.g
  exact (ite_map rfl (bindO_map fun r4 => (bindO_map fun r6 => match r6 with | (.inl r6) => (bindO_map fun r10 => match r10 with | (.inl r10) => (bindO_map fun r14 => (ite_map (ite_map (bindO_map fun r20 => (ite_map (bindO_map fun r24 => rfl) rfl)) rfl) rfl)) | (.inr (.inl r10)) => (bindO_map fun r14 => (ite_map (ite_map (bindO_map fun r20 => (ite_map (bindO_map fun r24 => rfl) rfl)) rfl) rfl)) | (.inr (.inr r10)) => (bindO_map fun r14 => (ite_map (ite_map (bindO_map fun r20 => (ite_map (bindO_map fun r24 => rfl) rfl)) rfl) rfl))) | (.inr (.inl r6)) => (bindO_map fun r10 => match r10 with | (.inl r10) => (bindO_map fun r14 => (ite_map (ite_map (bindO_map fun r20 => (ite_map (bindO_map fun r24 => rfl) rfl)) rfl) rfl)) | (.inr (.inl r10)) => (bindO_map fun r14 => (ite_map (ite_map (bindO_map fun r20 => (ite_map (bindO_map fun r24 => rfl) rfl)) rfl) rfl)) | (.inr (.inr r10)) => (bindO_map fun r14 => (ite_map (ite_map (bindO_map fun r20 => (ite_map (bindO_map fun r24 => rfl) rfl)) rfl) rfl))) | (.inr (.inr r6)) => (bindO_map fun r10 => match r10 with | (.inl r10) => (bindO_map fun r14 => (ite_map (ite_map (bindO_map fun r20 => (ite_map (bindO_map fun r24 => rfl) rfl)) rfl) rfl)) | (.inr (.inl r10)) => (bindO_map fun r14 => (ite_map (ite_map (bindO_map fun r20 => (ite_map (bindO_map fun r24 => rfl) rfl)) rfl) rfl)) | (.inr (.inr r10)) => (bindO_map fun r14 => (ite_map (ite_map (bindO_map fun r20 => (ite_map (bindO_map fun r24 => rfl) rfl)) rfl) rfl))))))
theorem Fc.run (n : Nat) (a0 : LI) : runF (Fc.C n) (Fc.A n) n Tryd.f4 [(.rints .u8 a0)] [] (fun v o => some (v, o)) = Fc.g (fun a0 => (((.bool a0), []) : AV × Blks)) n a0 := by kernel_rfl
theorem Fc.call (hmix : Tryd.prog.follows .mixedOrders = true) (n : Nat) (t : LI) (u) (h : Fc.m n t = some u) : FnC Tryd.prog rlpG 4 (Fc.shape t).1 (Fc.shape t).2 (Fc.res u).1 (Fc.res u).2 :=
  fnC1 (C := Fc.C n) (A := Fc.A n) (fn := Tryd.f4) rfl (.cons (Fe.s hmix n) (.cons (Fi.s hmix n) (.cons (Fj.s hmix n) (.cons (Fn.s hmix n) (.cons (Fq.s hmix n) (.cons (Fd.s hmix n) .nil)))))) hmix Tryd.func4 (by kernel_rfl) (lp := []) (by kernel_rfl) .nil
  (nj rfl) (by decide) rfl rfl (by show 1 ≤ Tryd.f4.ntmps; decide) (Fc.run n t) (Fc.gmap Fc.res (fun a0 => a0) n t) h
end
