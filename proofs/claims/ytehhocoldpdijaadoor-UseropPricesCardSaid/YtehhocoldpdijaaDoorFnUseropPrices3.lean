/- What the program's functions compute, as plain functions, each with its proof: the function does just that. Condition: the plain function has an answer. -/
import Derived.Test.YtehhocoldpdijaaDoorFnUseropPrices2
import Derived.Test.YtehhocoldpdijaaDoorFnUseropPrices1
import Derived.Test.YtehhocoldpdijaaDoorAbsF6
import Derived.Test.YtehhocoldpdijaaDoorProg
set_option linter.unusedVariables false
set_option linter.unusedSimpArgs false
set_option maxRecDepth 100000
open Go Go.Abs Go.Proofs
section
theorem userop_Gas.gmap {α β : Type} (h : β → α) (mk0 : Int → β) (n : Nat) (a0_0 : (List Int)) (a0_1 : (List Int)) (a0_2 : Bool) (a0_3 : (List Int)) (a0_4 : (List Int)) (a0_5 : (List Int)) (a0_6 : Int) (a0_7 : Int) (a0_8 : Int) (a0_9 : (List Int)) (a0_10 : (List Int)) (a0_11 : Bool) (a0_12 : (List Int)) (a0_13 : Int) (a0_14 : Int) (a0_15 : (List Int)) (a0_16 : (List Int)) : userop_Gas.g (fun a0 => (h (mk0 a0))) n a0_0 a0_1 a0_2 a0_3 a0_4 a0_5 a0_6 a0_7 a0_8 a0_9 a0_10 a0_11 a0_12 a0_13 a0_14 a0_15 a0_16 = (userop_Gas.g mk0 n a0_0 a0_1 a0_2 a0_3 a0_4 a0_5 a0_6 a0_7 a0_8 a0_9 a0_10 a0_11 a0_12 a0_13 a0_14 a0_15 a0_16).map h := by
  unfold userop_Gas.g
  exact rfl
theorem userop_Gas.run (n : Nat) (a0_0 : (List Int)) (a0_1 : (List Int)) (a0_2 : Bool) (a0_3 : (List Int)) (a0_4 : (List Int)) (a0_5 : (List Int)) (a0_6 : Int) (a0_7 : Int) (a0_8 : Int) (a0_9 : (List Int)) (a0_10 : (List Int)) (a0_11 : Bool) (a0_12 : (List Int)) (a0_13 : Int) (a0_14 : Int) (a0_15 : (List Int)) (a0_16 : (List Int)) : runF (userop_Gas.C n) (userop_Gas.A n) n Tryd.f43 [(.agg [(.ints .u8 20 a0_0), (.ints .u64 4 a0_1), (.bool a0_2), (.ints .u8 20 a0_3), (.rints .u8 a0_4), (.rints .u8 a0_5), (.int .u64 a0_6), (.int .u64 a0_7), (.int .u64 a0_8), (.ints .u64 4 a0_9), (.ints .u64 4 a0_10), (.bool a0_11), (.ints .u8 20 a0_12), (.int .u64 a0_13), (.int .u64 a0_14), (.rints .u8 a0_15), (.rints .u8 a0_16)])] [] (fun v o => some (v, o)) = userop_Gas.g (fun a0 => ((Prod.mk (.int .u64 a0) []) : AV × Blks)) n a0_0 a0_1 a0_2 a0_3 a0_4 a0_5 a0_6 a0_7 a0_8 a0_9 a0_10 a0_11 a0_12 a0_13 a0_14 a0_15 a0_16 := by kernel_rfl
theorem userop_Gas.call (hmix : Tryd.prog.follows .mixedOrders = true) (n : Nat) (t : ((List Int) × ((List Int) × (Bool × ((List Int) × ((List Int) × ((List Int) × (Int × (Int × (Int × ((List Int) × ((List Int) × (Bool × ((List Int) × (Int × (Int × ((List Int) × (List Int)))))))))))))))))) (u) (h : userop_Gas.m n t = some u) : FnC Tryd.prog abiG 43 (userop_Gas.shape t).1 (userop_Gas.shape t).2 (userop_Gas.res u).1 (userop_Gas.res u).2 := by
  have hg : ∀ f m, (userop_Gas.C n).Γ f = some m → CalleeS Tryd.prog abiG f m := by
    intro f m hm
    unfold userop_Gas.C at hm
    simp only at hm
    first
    | (cases hm; done)
    | (split at hm <;> first
    | (cases hm; done))
  have hb : Tryd.f43.body = some (Tryd.f43.body.getD .skip) := by kernel_rfl
  refine runF_calls (C := userop_Gas.C n) (A := userop_Gas.A n) (n := n) (fn := Tryd.f43) hg hmix Tryd.func43 hb ?_ ?_ (by decide) rfl rfl (by show 1 ≤ Tryd.f43.ntmps; decide) ?_
  · rw [show loopsIn (Tryd.f43.body.getD .skip) = [] by kernel_rfl]
    intro b hb
    cases hb
  · intro a ha m hm
    cases (show none = some m from hm)
  · rw [show runF (userop_Gas.C n) (userop_Gas.A n) n Tryd.f43 (userop_Gas.shape t).1 (userop_Gas.shape t).2 (fun v o => some (v, o)) = _ from userop_Gas.run n t.1 t.2.1 t.2.2.1 t.2.2.2.1 t.2.2.2.2.1 t.2.2.2.2.2.1 t.2.2.2.2.2.2.1 t.2.2.2.2.2.2.2.1 t.2.2.2.2.2.2.2.2.1 t.2.2.2.2.2.2.2.2.2.1 t.2.2.2.2.2.2.2.2.2.2.1 t.2.2.2.2.2.2.2.2.2.2.2.1 t.2.2.2.2.2.2.2.2.2.2.2.2.1 t.2.2.2.2.2.2.2.2.2.2.2.2.2.1 t.2.2.2.2.2.2.2.2.2.2.2.2.2.2.1 t.2.2.2.2.2.2.2.2.2.2.2.2.2.2.2.1 t.2.2.2.2.2.2.2.2.2.2.2.2.2.2.2.2]
    have e := userop_Gas.gmap userop_Gas.res (fun a0 => a0) n t.1 t.2.1 t.2.2.1 t.2.2.2.1 t.2.2.2.2.1 t.2.2.2.2.2.1 t.2.2.2.2.2.2.1 t.2.2.2.2.2.2.2.1 t.2.2.2.2.2.2.2.2.1 t.2.2.2.2.2.2.2.2.2.1 t.2.2.2.2.2.2.2.2.2.2.1 t.2.2.2.2.2.2.2.2.2.2.2.1 t.2.2.2.2.2.2.2.2.2.2.2.2.1 t.2.2.2.2.2.2.2.2.2.2.2.2.2.1 t.2.2.2.2.2.2.2.2.2.2.2.2.2.2.1 t.2.2.2.2.2.2.2.2.2.2.2.2.2.2.2.1 t.2.2.2.2.2.2.2.2.2.2.2.2.2.2.2.2
    unfold userop_Gas.m at h
    rw [h] at e
    exact e
theorem userop_Gas.s (hmix : Tryd.prog.follows .mixedOrders = true) (n : Nat) : CalleeS Tryd.prog abiG 43 (userop_Gas.c n) :=
  CalleeS.of (res := userop_Gas.res) (shape := userop_Gas.shape) (fun R u K => rfl) (fun args lent t h => by
    unfold userop_Gas.pat at h
    split at h
    · cases h; rfl
    · cases h) fun t u h => (userop_Gas.call hmix n t u h).ok Tryd.func43 (by decide) (by kernel_rfl)
end
section
theorem userop_Prefund.gmap {α β : Type} (h : β → α) (mk0 : (List Int) → β) (n : Nat) (a0_0 : (List Int)) (a0_1 : (List Int)) (a0_2 : Bool) (a0_3 : (List Int)) (a0_4 : (List Int)) (a0_5 : (List Int)) (a0_6 : Int) (a0_7 : Int) (a0_8 : Int) (a0_9 : (List Int)) (a0_10 : (List Int)) (a0_11 : Bool) (a0_12 : (List Int)) (a0_13 : Int) (a0_14 : Int) (a0_15 : (List Int)) (a0_16 : (List Int)) : userop_Prefund.g (fun a0 => (h (mk0 a0))) n a0_0 a0_1 a0_2 a0_3 a0_4 a0_5 a0_6 a0_7 a0_8 a0_9 a0_10 a0_11 a0_12 a0_13 a0_14 a0_15 a0_16 = (userop_Prefund.g mk0 n a0_0 a0_1 a0_2 a0_3 a0_4 a0_5 a0_6 a0_7 a0_8 a0_9 a0_10 a0_11 a0_12 a0_13 a0_14 a0_15 a0_16).map h := by
  unfold userop_Prefund.g
  exact (bindO_map fun r2 => (bindO_map fun r4 => (bindO_map fun r6 => rfl)))
theorem userop_Prefund.run (n : Nat) (a0_0 : (List Int)) (a0_1 : (List Int)) (a0_2 : Bool) (a0_3 : (List Int)) (a0_4 : (List Int)) (a0_5 : (List Int)) (a0_6 : Int) (a0_7 : Int) (a0_8 : Int) (a0_9 : (List Int)) (a0_10 : (List Int)) (a0_11 : Bool) (a0_12 : (List Int)) (a0_13 : Int) (a0_14 : Int) (a0_15 : (List Int)) (a0_16 : (List Int)) : runF (userop_Prefund.C n) (userop_Prefund.A n) n Tryd.f45 [(.agg [(.ints .u8 20 a0_0), (.ints .u64 4 a0_1), (.bool a0_2), (.ints .u8 20 a0_3), (.rints .u8 a0_4), (.rints .u8 a0_5), (.int .u64 a0_6), (.int .u64 a0_7), (.int .u64 a0_8), (.ints .u64 4 a0_9), (.ints .u64 4 a0_10), (.bool a0_11), (.ints .u8 20 a0_12), (.int .u64 a0_13), (.int .u64 a0_14), (.rints .u8 a0_15), (.rints .u8 a0_16)])] [] (fun v o => some (v, o)) = userop_Prefund.g (fun a0 => ((Prod.mk (.ints .u64 4 a0) []) : AV × Blks)) n a0_0 a0_1 a0_2 a0_3 a0_4 a0_5 a0_6 a0_7 a0_8 a0_9 a0_10 a0_11 a0_12 a0_13 a0_14 a0_15 a0_16 := by kernel_rfl
theorem userop_Prefund.call (hmix : Tryd.prog.follows .mixedOrders = true) (n : Nat) (t : ((List Int) × ((List Int) × (Bool × ((List Int) × ((List Int) × ((List Int) × (Int × (Int × (Int × ((List Int) × ((List Int) × (Bool × ((List Int) × (Int × (Int × ((List Int) × (List Int)))))))))))))))))) (u) (h : userop_Prefund.m n t = some u) : FnC Tryd.prog abiG 45 (userop_Prefund.shape t).1 (userop_Prefund.shape t).2 (userop_Prefund.res u).1 (userop_Prefund.res u).2 := by
  have hg : ∀ f m, (userop_Prefund.C n).Γ f = some m → CalleeS Tryd.prog abiG f m := by
    intro f m hm
    unfold userop_Prefund.C at hm
    simp only at hm
    first
    | (cases hm; done)
    | (split at hm <;> first
    | (cases hm; exact userop_Gas.s hmix n)
    | (cases hm; exact word_From.s hmix n)
    | (cases hm; exact word_Mul.s hmix n)
    | (cases hm; done))
  have hb : Tryd.f45.body = some (Tryd.f45.body.getD .skip) := by kernel_rfl
  refine runF_calls (C := userop_Prefund.C n) (A := userop_Prefund.A n) (n := n) (fn := Tryd.f45) hg hmix Tryd.func45 hb ?_ ?_ (by decide) rfl rfl (by show 1 ≤ Tryd.f45.ntmps; decide) ?_
  · rw [show loopsIn (Tryd.f45.body.getD .skip) = [] by kernel_rfl]
    intro b hb
    cases hb
  · intro a ha m hm
    cases (show none = some m from hm)
  · rw [show runF (userop_Prefund.C n) (userop_Prefund.A n) n Tryd.f45 (userop_Prefund.shape t).1 (userop_Prefund.shape t).2 (fun v o => some (v, o)) = _ from userop_Prefund.run n t.1 t.2.1 t.2.2.1 t.2.2.2.1 t.2.2.2.2.1 t.2.2.2.2.2.1 t.2.2.2.2.2.2.1 t.2.2.2.2.2.2.2.1 t.2.2.2.2.2.2.2.2.1 t.2.2.2.2.2.2.2.2.2.1 t.2.2.2.2.2.2.2.2.2.2.1 t.2.2.2.2.2.2.2.2.2.2.2.1 t.2.2.2.2.2.2.2.2.2.2.2.2.1 t.2.2.2.2.2.2.2.2.2.2.2.2.2.1 t.2.2.2.2.2.2.2.2.2.2.2.2.2.2.1 t.2.2.2.2.2.2.2.2.2.2.2.2.2.2.2.1 t.2.2.2.2.2.2.2.2.2.2.2.2.2.2.2.2]
    have e := userop_Prefund.gmap userop_Prefund.res (fun a0 => a0) n t.1 t.2.1 t.2.2.1 t.2.2.2.1 t.2.2.2.2.1 t.2.2.2.2.2.1 t.2.2.2.2.2.2.1 t.2.2.2.2.2.2.2.1 t.2.2.2.2.2.2.2.2.1 t.2.2.2.2.2.2.2.2.2.1 t.2.2.2.2.2.2.2.2.2.2.1 t.2.2.2.2.2.2.2.2.2.2.2.1 t.2.2.2.2.2.2.2.2.2.2.2.2.1 t.2.2.2.2.2.2.2.2.2.2.2.2.2.1 t.2.2.2.2.2.2.2.2.2.2.2.2.2.2.1 t.2.2.2.2.2.2.2.2.2.2.2.2.2.2.2.1 t.2.2.2.2.2.2.2.2.2.2.2.2.2.2.2.2
    unfold userop_Prefund.m at h
    rw [h] at e
    exact e
theorem userop_Prefund.s (hmix : Tryd.prog.follows .mixedOrders = true) (n : Nat) : CalleeS Tryd.prog abiG 45 (userop_Prefund.c n) :=
  CalleeS.of (res := userop_Prefund.res) (shape := userop_Prefund.shape) (fun R u K => rfl) (fun args lent t h => by
    unfold userop_Prefund.pat at h
    split at h
    · cases h; rfl
    · cases h) fun t u h => (userop_Prefund.call hmix n t u h).ok Tryd.func45 (by decide) (by kernel_rfl)
end
section
noncomputable section
noncomputable def q15_Gas.C (n : Nat) : Ctx := ⟨Tryd.prog, abiG, fun f => match f with
 | _ => none, fun _ => false⟩
def q15_Gas.live : Nat → List Nat × List Nat := fun k => match k with
 | _ => ([], [])
def q15_Gas.jlive : Nat → List Nat × List Nat := fun k => match k with
 | _ => ([], [])
noncomputable def q15_Gas.A (n : Nat) : Ann := ⟨Tryd.f44.ntmps, 0, q15_Gas.live, [], [none], fun k => match k with
 | _ => none, q15_Gas.jlive, lookJ []⟩
def q15_Gas.g {α : Type} (mk0 : Int → α) (n : Nat) (a0_0 : (List Int)) (a0_1 : (List Int)) (a0_2 : Bool) (a0_3 : (List Int)) (a0_4 : (List Int)) (a0_5 : (List Int)) (a0_6 : Int) (a0_7 : Int) (a0_8 : Int) (a0_9 : (List Int)) (a0_10 : (List Int)) (a0_11 : Bool) (a0_12 : (List Int)) (a0_13 : Int) (a0_14 : Int) (a0_15 : (List Int)) (a0_16 : (List Int)) : Option α :=
 some (mk0 (IntKind.wrap .u64 ((IntKind.wrap .u64 ((IntKind.wrap .u64 ((IntKind.wrap .u64 (a0_6 + a0_7)) + a0_8)) + a0_13)) + a0_14)))
def q15_Gas.m (n : Nat) (t : ((List Int) × ((List Int) × (Bool × ((List Int) × ((List Int) × ((List Int) × (Int × (Int × (Int × ((List Int) × ((List Int) × (Bool × ((List Int) × (Int × (Int × ((List Int) × (List Int)))))))))))))))))) : Option Int := q15_Gas.g (fun a0 => a0) n t.1 t.2.1 t.2.2.1 t.2.2.2.1 t.2.2.2.2.1 t.2.2.2.2.2.1 t.2.2.2.2.2.2.1 t.2.2.2.2.2.2.2.1 t.2.2.2.2.2.2.2.2.1 t.2.2.2.2.2.2.2.2.2.1 t.2.2.2.2.2.2.2.2.2.2.1 t.2.2.2.2.2.2.2.2.2.2.2.1 t.2.2.2.2.2.2.2.2.2.2.2.2.1 t.2.2.2.2.2.2.2.2.2.2.2.2.2.1 t.2.2.2.2.2.2.2.2.2.2.2.2.2.2.1 t.2.2.2.2.2.2.2.2.2.2.2.2.2.2.2.1 t.2.2.2.2.2.2.2.2.2.2.2.2.2.2.2.2
def q15_Gas.pat : List AV → Blks → Option ((List Int) × ((List Int) × (Bool × ((List Int) × ((List Int) × ((List Int) × (Int × (Int × (Int × ((List Int) × ((List Int) × (Bool × ((List Int) × (Int × (Int × ((List Int) × (List Int)))))))))))))))))
 | [(.agg [(.ints .u8 20 a0_0), (.ints .u64 4 a0_1), (.bool a0_2), (.ints .u8 20 a0_3), (.rints .u8 a0_4), (.rints .u8 a0_5), (.int .u64 a0_6), (.int .u64 a0_7), (.int .u64 a0_8), (.ints .u64 4 a0_9), (.ints .u64 4 a0_10), (.bool a0_11), (.ints .u8 20 a0_12), (.int .u64 a0_13), (.int .u64 a0_14), (.rints .u8 a0_15), (.rints .u8 a0_16)])], [] => some (a0_0, a0_1, a0_2, a0_3, a0_4, a0_5, a0_6, a0_7, a0_8, a0_9, a0_10, a0_11, a0_12, a0_13, a0_14, a0_15, a0_16)
 | _, _ => none
def q15_Gas.shape (t : ((List Int) × ((List Int) × (Bool × ((List Int) × ((List Int) × ((List Int) × (Int × (Int × (Int × ((List Int) × ((List Int) × (Bool × ((List Int) × (Int × (Int × ((List Int) × (List Int)))))))))))))))))) : List AV × Blks := ([(.agg [(.ints .u8 20 t.1), (.ints .u64 4 t.2.1), (.bool t.2.2.1), (.ints .u8 20 t.2.2.2.1), (.rints .u8 t.2.2.2.2.1), (.rints .u8 t.2.2.2.2.2.1), (.int .u64 t.2.2.2.2.2.2.1), (.int .u64 t.2.2.2.2.2.2.2.1), (.int .u64 t.2.2.2.2.2.2.2.2.1), (.ints .u64 4 t.2.2.2.2.2.2.2.2.2.1), (.ints .u64 4 t.2.2.2.2.2.2.2.2.2.2.1), (.bool t.2.2.2.2.2.2.2.2.2.2.2.1), (.ints .u8 20 t.2.2.2.2.2.2.2.2.2.2.2.2.1), (.int .u64 t.2.2.2.2.2.2.2.2.2.2.2.2.2.1), (.int .u64 t.2.2.2.2.2.2.2.2.2.2.2.2.2.2.1), (.rints .u8 t.2.2.2.2.2.2.2.2.2.2.2.2.2.2.2.1), (.rints .u8 t.2.2.2.2.2.2.2.2.2.2.2.2.2.2.2.2)])], [])
def q15_Gas.res : Int → AV × Blks
 | u => (Prod.mk (.int .u64 u) [])
def q15_Gas.resK {R : Type} (u : Int) (K : AV → Blks → Option R) : Option R := (fun p : AV × Blks => K p.1 p.2) (Prod.mk (.int .u64 u) [])
def q15_Gas.c (n : Nat) : Abs.Callee := .mk' [] [(some (.agg [none, none, none, none, (some (.ints .u8)), (some (.ints .u8)), none, none, none, none, none, none, none, none, none, (some (.ints .u8)), (some (.ints .u8))]))] q15_Gas.pat (q15_Gas.m n) q15_Gas.resK
end
end
section
noncomputable section
noncomputable def q15_Prefund.C (n : Nat) : Ctx := ⟨Tryd.prog, abiG, fun f => match f with
 | 44 => some (q15_Gas.c n)
 | 51 => some (q01_From.c n)
 | 50 => some (q01_Mul.c n)
 | _ => none, fun _ => false⟩
def q15_Prefund.live : Nat → List Nat × List Nat := fun k => match k with
 | _ => ([], [])
def q15_Prefund.jlive : Nat → List Nat × List Nat := fun k => match k with
 | _ => ([], [])
noncomputable def q15_Prefund.A (n : Nat) : Ann := ⟨Tryd.f46.ntmps, 0, q15_Prefund.live, [], [none], fun k => match k with
 | _ => none, q15_Prefund.jlive, lookJ []⟩
def q15_Prefund.g {α : Type} (mk0 : (List Int) → α) (n : Nat) (a0_0 : (List Int)) (a0_1 : (List Int)) (a0_2 : Bool) (a0_3 : (List Int)) (a0_4 : (List Int)) (a0_5 : (List Int)) (a0_6 : Int) (a0_7 : Int) (a0_8 : Int) (a0_9 : (List Int)) (a0_10 : (List Int)) (a0_11 : Bool) (a0_12 : (List Int)) (a0_13 : Int) (a0_14 : Int) (a0_15 : (List Int)) (a0_16 : (List Int)) : Option α :=
 bindO (q15_Gas.m n (Prod.mk a0_0 (Prod.mk a0_1 (Prod.mk a0_2 (Prod.mk a0_3 (Prod.mk a0_4 (Prod.mk a0_5 (Prod.mk a0_6 (Prod.mk a0_7 (Prod.mk a0_8 (Prod.mk a0_9 (Prod.mk a0_10 (Prod.mk a0_11 (Prod.mk a0_12 (Prod.mk a0_13 (Prod.mk a0_14 (Prod.mk a0_15 a0_16))))))))))))))))) fun r2 =>
  bindO (q01_From.m n r2) fun r4 =>
   bindO (q01_Mul.m n (Prod.mk a0_9 r4)) fun r6 =>
    some (mk0 (Prod.fst r6))
def q15_Prefund.m (n : Nat) (t : ((List Int) × ((List Int) × (Bool × ((List Int) × ((List Int) × ((List Int) × (Int × (Int × (Int × ((List Int) × ((List Int) × (Bool × ((List Int) × (Int × (Int × ((List Int) × (List Int)))))))))))))))))) : Option (List Int) := q15_Prefund.g (fun a0 => a0) n t.1 t.2.1 t.2.2.1 t.2.2.2.1 t.2.2.2.2.1 t.2.2.2.2.2.1 t.2.2.2.2.2.2.1 t.2.2.2.2.2.2.2.1 t.2.2.2.2.2.2.2.2.1 t.2.2.2.2.2.2.2.2.2.1 t.2.2.2.2.2.2.2.2.2.2.1 t.2.2.2.2.2.2.2.2.2.2.2.1 t.2.2.2.2.2.2.2.2.2.2.2.2.1 t.2.2.2.2.2.2.2.2.2.2.2.2.2.1 t.2.2.2.2.2.2.2.2.2.2.2.2.2.2.1 t.2.2.2.2.2.2.2.2.2.2.2.2.2.2.2.1 t.2.2.2.2.2.2.2.2.2.2.2.2.2.2.2.2
def q15_Prefund.pat : List AV → Blks → Option ((List Int) × ((List Int) × (Bool × ((List Int) × ((List Int) × ((List Int) × (Int × (Int × (Int × ((List Int) × ((List Int) × (Bool × ((List Int) × (Int × (Int × ((List Int) × (List Int)))))))))))))))))
 | [(.agg [(.ints .u8 20 a0_0), (.ints .u64 4 a0_1), (.bool a0_2), (.ints .u8 20 a0_3), (.rints .u8 a0_4), (.rints .u8 a0_5), (.int .u64 a0_6), (.int .u64 a0_7), (.int .u64 a0_8), (.ints .u64 4 a0_9), (.ints .u64 4 a0_10), (.bool a0_11), (.ints .u8 20 a0_12), (.int .u64 a0_13), (.int .u64 a0_14), (.rints .u8 a0_15), (.rints .u8 a0_16)])], [] => some (a0_0, a0_1, a0_2, a0_3, a0_4, a0_5, a0_6, a0_7, a0_8, a0_9, a0_10, a0_11, a0_12, a0_13, a0_14, a0_15, a0_16)
 | _, _ => none
def q15_Prefund.shape (t : ((List Int) × ((List Int) × (Bool × ((List Int) × ((List Int) × ((List Int) × (Int × (Int × (Int × ((List Int) × ((List Int) × (Bool × ((List Int) × (Int × (Int × ((List Int) × (List Int)))))))))))))))))) : List AV × Blks := ([(.agg [(.ints .u8 20 t.1), (.ints .u64 4 t.2.1), (.bool t.2.2.1), (.ints .u8 20 t.2.2.2.1), (.rints .u8 t.2.2.2.2.1), (.rints .u8 t.2.2.2.2.2.1), (.int .u64 t.2.2.2.2.2.2.1), (.int .u64 t.2.2.2.2.2.2.2.1), (.int .u64 t.2.2.2.2.2.2.2.2.1), (.ints .u64 4 t.2.2.2.2.2.2.2.2.2.1), (.ints .u64 4 t.2.2.2.2.2.2.2.2.2.2.1), (.bool t.2.2.2.2.2.2.2.2.2.2.2.1), (.ints .u8 20 t.2.2.2.2.2.2.2.2.2.2.2.2.1), (.int .u64 t.2.2.2.2.2.2.2.2.2.2.2.2.2.1), (.int .u64 t.2.2.2.2.2.2.2.2.2.2.2.2.2.2.1), (.rints .u8 t.2.2.2.2.2.2.2.2.2.2.2.2.2.2.2.1), (.rints .u8 t.2.2.2.2.2.2.2.2.2.2.2.2.2.2.2.2)])], [])
def q15_Prefund.res : (List Int) → AV × Blks
 | u => (Prod.mk (.ints .u64 4 u) [])
def q15_Prefund.resK {R : Type} (u : (List Int)) (K : AV → Blks → Option R) : Option R := (fun p : AV × Blks => K p.1 p.2) (Prod.mk (.ints .u64 4 u) [])
def q15_Prefund.c (n : Nat) : Abs.Callee := .mk' [] [(some (.agg [none, none, none, none, (some (.ints .u8)), (some (.ints .u8)), none, none, none, none, none, none, none, none, none, (some (.ints .u8)), (some (.ints .u8))]))] q15_Prefund.pat (q15_Prefund.m n) q15_Prefund.resK
end
end
section
theorem q15_Gas.gmap {α β : Type} (h : β → α) (mk0 : Int → β) (n : Nat) (a0_0 : (List Int)) (a0_1 : (List Int)) (a0_2 : Bool) (a0_3 : (List Int)) (a0_4 : (List Int)) (a0_5 : (List Int)) (a0_6 : Int) (a0_7 : Int) (a0_8 : Int) (a0_9 : (List Int)) (a0_10 : (List Int)) (a0_11 : Bool) (a0_12 : (List Int)) (a0_13 : Int) (a0_14 : Int) (a0_15 : (List Int)) (a0_16 : (List Int)) : q15_Gas.g (fun a0 => (h (mk0 a0))) n a0_0 a0_1 a0_2 a0_3 a0_4 a0_5 a0_6 a0_7 a0_8 a0_9 a0_10 a0_11 a0_12 a0_13 a0_14 a0_15 a0_16 = (q15_Gas.g mk0 n a0_0 a0_1 a0_2 a0_3 a0_4 a0_5 a0_6 a0_7 a0_8 a0_9 a0_10 a0_11 a0_12 a0_13 a0_14 a0_15 a0_16).map h := by
  unfold q15_Gas.g
  exact rfl
theorem q15_Gas.run (n : Nat) (a0_0 : (List Int)) (a0_1 : (List Int)) (a0_2 : Bool) (a0_3 : (List Int)) (a0_4 : (List Int)) (a0_5 : (List Int)) (a0_6 : Int) (a0_7 : Int) (a0_8 : Int) (a0_9 : (List Int)) (a0_10 : (List Int)) (a0_11 : Bool) (a0_12 : (List Int)) (a0_13 : Int) (a0_14 : Int) (a0_15 : (List Int)) (a0_16 : (List Int)) : runF (q15_Gas.C n) (q15_Gas.A n) n Tryd.f44 [(.agg [(.ints .u8 20 a0_0), (.ints .u64 4 a0_1), (.bool a0_2), (.ints .u8 20 a0_3), (.rints .u8 a0_4), (.rints .u8 a0_5), (.int .u64 a0_6), (.int .u64 a0_7), (.int .u64 a0_8), (.ints .u64 4 a0_9), (.ints .u64 4 a0_10), (.bool a0_11), (.ints .u8 20 a0_12), (.int .u64 a0_13), (.int .u64 a0_14), (.rints .u8 a0_15), (.rints .u8 a0_16)])] [] (fun v o => some (v, o)) = q15_Gas.g (fun a0 => ((Prod.mk (.int .u64 a0) []) : AV × Blks)) n a0_0 a0_1 a0_2 a0_3 a0_4 a0_5 a0_6 a0_7 a0_8 a0_9 a0_10 a0_11 a0_12 a0_13 a0_14 a0_15 a0_16 := by kernel_rfl
theorem q15_Gas.call (hmix : Tryd.prog.follows .mixedOrders = true) (n : Nat) (t : ((List Int) × ((List Int) × (Bool × ((List Int) × ((List Int) × ((List Int) × (Int × (Int × (Int × ((List Int) × ((List Int) × (Bool × ((List Int) × (Int × (Int × ((List Int) × (List Int)))))))))))))))))) (u) (h : q15_Gas.m n t = some u) : FnC Tryd.prog abiG 44 (q15_Gas.shape t).1 (q15_Gas.shape t).2 (q15_Gas.res u).1 (q15_Gas.res u).2 := by
  have hg : ∀ f m, (q15_Gas.C n).Γ f = some m → CalleeS Tryd.prog abiG f m := by
    intro f m hm
    unfold q15_Gas.C at hm
    simp only at hm
    first
    | (cases hm; done)
    | (split at hm <;> first
    | (cases hm; done))
  have hb : Tryd.f44.body = some (Tryd.f44.body.getD .skip) := by kernel_rfl
  refine runF_calls (C := q15_Gas.C n) (A := q15_Gas.A n) (n := n) (fn := Tryd.f44) hg hmix Tryd.func44 hb ?_ ?_ (by decide) rfl rfl (by show 1 ≤ Tryd.f44.ntmps; decide) ?_
  · rw [show loopsIn (Tryd.f44.body.getD .skip) = [] by kernel_rfl]
    intro b hb
    cases hb
  · intro a ha m hm
    cases (show none = some m from hm)
  · rw [show runF (q15_Gas.C n) (q15_Gas.A n) n Tryd.f44 (q15_Gas.shape t).1 (q15_Gas.shape t).2 (fun v o => some (v, o)) = _ from q15_Gas.run n t.1 t.2.1 t.2.2.1 t.2.2.2.1 t.2.2.2.2.1 t.2.2.2.2.2.1 t.2.2.2.2.2.2.1 t.2.2.2.2.2.2.2.1 t.2.2.2.2.2.2.2.2.1 t.2.2.2.2.2.2.2.2.2.1 t.2.2.2.2.2.2.2.2.2.2.1 t.2.2.2.2.2.2.2.2.2.2.2.1 t.2.2.2.2.2.2.2.2.2.2.2.2.1 t.2.2.2.2.2.2.2.2.2.2.2.2.2.1 t.2.2.2.2.2.2.2.2.2.2.2.2.2.2.1 t.2.2.2.2.2.2.2.2.2.2.2.2.2.2.2.1 t.2.2.2.2.2.2.2.2.2.2.2.2.2.2.2.2]
    have e := q15_Gas.gmap q15_Gas.res (fun a0 => a0) n t.1 t.2.1 t.2.2.1 t.2.2.2.1 t.2.2.2.2.1 t.2.2.2.2.2.1 t.2.2.2.2.2.2.1 t.2.2.2.2.2.2.2.1 t.2.2.2.2.2.2.2.2.1 t.2.2.2.2.2.2.2.2.2.1 t.2.2.2.2.2.2.2.2.2.2.1 t.2.2.2.2.2.2.2.2.2.2.2.1 t.2.2.2.2.2.2.2.2.2.2.2.2.1 t.2.2.2.2.2.2.2.2.2.2.2.2.2.1 t.2.2.2.2.2.2.2.2.2.2.2.2.2.2.1 t.2.2.2.2.2.2.2.2.2.2.2.2.2.2.2.1 t.2.2.2.2.2.2.2.2.2.2.2.2.2.2.2.2
    unfold q15_Gas.m at h
    rw [h] at e
    exact e
theorem q15_Gas.s (hmix : Tryd.prog.follows .mixedOrders = true) (n : Nat) : CalleeS Tryd.prog abiG 44 (q15_Gas.c n) :=
  CalleeS.of (res := q15_Gas.res) (shape := q15_Gas.shape) (fun R u K => rfl) (fun args lent t h => by
    unfold q15_Gas.pat at h
    split at h
    · cases h; rfl
    · cases h) fun t u h => (q15_Gas.call hmix n t u h).ok Tryd.func44 (by decide) (by kernel_rfl)
end
section
theorem q15_Prefund.gmap {α β : Type} (h : β → α) (mk0 : (List Int) → β) (n : Nat) (a0_0 : (List Int)) (a0_1 : (List Int)) (a0_2 : Bool) (a0_3 : (List Int)) (a0_4 : (List Int)) (a0_5 : (List Int)) (a0_6 : Int) (a0_7 : Int) (a0_8 : Int) (a0_9 : (List Int)) (a0_10 : (List Int)) (a0_11 : Bool) (a0_12 : (List Int)) (a0_13 : Int) (a0_14 : Int) (a0_15 : (List Int)) (a0_16 : (List Int)) : q15_Prefund.g (fun a0 => (h (mk0 a0))) n a0_0 a0_1 a0_2 a0_3 a0_4 a0_5 a0_6 a0_7 a0_8 a0_9 a0_10 a0_11 a0_12 a0_13 a0_14 a0_15 a0_16 = (q15_Prefund.g mk0 n a0_0 a0_1 a0_2 a0_3 a0_4 a0_5 a0_6 a0_7 a0_8 a0_9 a0_10 a0_11 a0_12 a0_13 a0_14 a0_15 a0_16).map h := by
  unfold q15_Prefund.g
  exact (bindO_map fun r2 => (bindO_map fun r4 => (bindO_map fun r6 => rfl)))
theorem q15_Prefund.run (n : Nat) (a0_0 : (List Int)) (a0_1 : (List Int)) (a0_2 : Bool) (a0_3 : (List Int)) (a0_4 : (List Int)) (a0_5 : (List Int)) (a0_6 : Int) (a0_7 : Int) (a0_8 : Int) (a0_9 : (List Int)) (a0_10 : (List Int)) (a0_11 : Bool) (a0_12 : (List Int)) (a0_13 : Int) (a0_14 : Int) (a0_15 : (List Int)) (a0_16 : (List Int)) : runF (q15_Prefund.C n) (q15_Prefund.A n) n Tryd.f46 [(.agg [(.ints .u8 20 a0_0), (.ints .u64 4 a0_1), (.bool a0_2), (.ints .u8 20 a0_3), (.rints .u8 a0_4), (.rints .u8 a0_5), (.int .u64 a0_6), (.int .u64 a0_7), (.int .u64 a0_8), (.ints .u64 4 a0_9), (.ints .u64 4 a0_10), (.bool a0_11), (.ints .u8 20 a0_12), (.int .u64 a0_13), (.int .u64 a0_14), (.rints .u8 a0_15), (.rints .u8 a0_16)])] [] (fun v o => some (v, o)) = q15_Prefund.g (fun a0 => ((Prod.mk (.ints .u64 4 a0) []) : AV × Blks)) n a0_0 a0_1 a0_2 a0_3 a0_4 a0_5 a0_6 a0_7 a0_8 a0_9 a0_10 a0_11 a0_12 a0_13 a0_14 a0_15 a0_16 := by kernel_rfl
theorem q15_Prefund.call (hmix : Tryd.prog.follows .mixedOrders = true) (n : Nat) (t : ((List Int) × ((List Int) × (Bool × ((List Int) × ((List Int) × ((List Int) × (Int × (Int × (Int × ((List Int) × ((List Int) × (Bool × ((List Int) × (Int × (Int × ((List Int) × (List Int)))))))))))))))))) (u) (h : q15_Prefund.m n t = some u) : FnC Tryd.prog abiG 46 (q15_Prefund.shape t).1 (q15_Prefund.shape t).2 (q15_Prefund.res u).1 (q15_Prefund.res u).2 := by
  have hg : ∀ f m, (q15_Prefund.C n).Γ f = some m → CalleeS Tryd.prog abiG f m := by
    intro f m hm
    unfold q15_Prefund.C at hm
    simp only at hm
    first
    | (cases hm; done)
    | (split at hm <;> first
    | (cases hm; exact q15_Gas.s hmix n)
    | (cases hm; exact q01_From.s hmix n)
    | (cases hm; exact q01_Mul.s hmix n)
    | (cases hm; done))
  have hb : Tryd.f46.body = some (Tryd.f46.body.getD .skip) := by kernel_rfl
  refine runF_calls (C := q15_Prefund.C n) (A := q15_Prefund.A n) (n := n) (fn := Tryd.f46) hg hmix Tryd.func46 hb ?_ ?_ (by decide) rfl rfl (by show 1 ≤ Tryd.f46.ntmps; decide) ?_
  · rw [show loopsIn (Tryd.f46.body.getD .skip) = [] by kernel_rfl]
    intro b hb
    cases hb
  · intro a ha m hm
    cases (show none = some m from hm)
  · rw [show runF (q15_Prefund.C n) (q15_Prefund.A n) n Tryd.f46 (q15_Prefund.shape t).1 (q15_Prefund.shape t).2 (fun v o => some (v, o)) = _ from q15_Prefund.run n t.1 t.2.1 t.2.2.1 t.2.2.2.1 t.2.2.2.2.1 t.2.2.2.2.2.1 t.2.2.2.2.2.2.1 t.2.2.2.2.2.2.2.1 t.2.2.2.2.2.2.2.2.1 t.2.2.2.2.2.2.2.2.2.1 t.2.2.2.2.2.2.2.2.2.2.1 t.2.2.2.2.2.2.2.2.2.2.2.1 t.2.2.2.2.2.2.2.2.2.2.2.2.1 t.2.2.2.2.2.2.2.2.2.2.2.2.2.1 t.2.2.2.2.2.2.2.2.2.2.2.2.2.2.1 t.2.2.2.2.2.2.2.2.2.2.2.2.2.2.2.1 t.2.2.2.2.2.2.2.2.2.2.2.2.2.2.2.2]
    have e := q15_Prefund.gmap q15_Prefund.res (fun a0 => a0) n t.1 t.2.1 t.2.2.1 t.2.2.2.1 t.2.2.2.2.1 t.2.2.2.2.2.1 t.2.2.2.2.2.2.1 t.2.2.2.2.2.2.2.1 t.2.2.2.2.2.2.2.2.1 t.2.2.2.2.2.2.2.2.2.1 t.2.2.2.2.2.2.2.2.2.2.1 t.2.2.2.2.2.2.2.2.2.2.2.1 t.2.2.2.2.2.2.2.2.2.2.2.2.1 t.2.2.2.2.2.2.2.2.2.2.2.2.2.1 t.2.2.2.2.2.2.2.2.2.2.2.2.2.2.1 t.2.2.2.2.2.2.2.2.2.2.2.2.2.2.2.1 t.2.2.2.2.2.2.2.2.2.2.2.2.2.2.2.2
    unfold q15_Prefund.m at h
    rw [h] at e
    exact e
theorem q15_Prefund.s (hmix : Tryd.prog.follows .mixedOrders = true) (n : Nat) : CalleeS Tryd.prog abiG 46 (q15_Prefund.c n) :=
  CalleeS.of (res := q15_Prefund.res) (shape := q15_Prefund.shape) (fun R u K => rfl) (fun args lent t h => by
    unfold q15_Prefund.pat at h
    split at h
    · cases h; rfl
    · cases h) fun t u h => (q15_Prefund.call hmix n t u h).ok Tryd.func46 (by decide) (by kernel_rfl)
end
section
noncomputable section
noncomputable def userop_Price.C (n : Nat) : Ctx := ⟨Tryd.prog, abiG, fun f => match f with
 | 85 => some (word_Add.c n)
 | 86 => some (word_Cmp.c n)
 | _ => none, fun _ => false⟩
def userop_Price.live : Nat → List Nat × List Nat := fun k => match k with
 | _ => ([], [])
def userop_Price.jlive : Nat → List Nat × List Nat := fun k => match k with
 | _ => ([], [])
noncomputable def userop_Price.A (n : Nat) : Ann := ⟨Tryd.f47.ntmps, 0, userop_Price.live, [], [none], fun k => match k with
 | _ => none, userop_Price.jlive, lookJ []⟩
def userop_Price.g {α : Type} (mk0 : (List Int) → α) (n : Nat) (a0_0 : (List Int)) (a0_1 : (List Int)) (a0_2 : Bool) (a0_3 : (List Int)) (a0_4 : (List Int)) (a0_5 : (List Int)) (a0_6 : Int) (a0_7 : Int) (a0_8 : Int) (a0_9 : (List Int)) (a0_10 : (List Int)) (a0_11 : Bool) (a0_12 : (List Int)) (a0_13 : Int) (a0_14 : Int) (a0_15 : (List Int)) (a0_16 : (List Int)) (a1 : (List Int)) : Option α :=
 bindO (word_Add.m n (Prod.mk a1 a0_10)) fun r2 =>
  if (!(Prod.snd r2)) = true then
   bindO (word_Cmp.m n (Prod.mk (Prod.fst r2) a0_9)) fun r6 =>
    if (decide (r6 < 0)) = true then
     some (mk0 (Prod.fst r2))
    else
     some (mk0 a0_9)
  else
   some (mk0 a0_9)
def userop_Price.m (n : Nat) (t : ((List Int) × ((List Int) × (Bool × ((List Int) × ((List Int) × ((List Int) × (Int × (Int × (Int × ((List Int) × ((List Int) × (Bool × ((List Int) × (Int × (Int × ((List Int) × ((List Int) × (List Int))))))))))))))))))) : Option (List Int) := userop_Price.g (fun a0 => a0) n t.1 t.2.1 t.2.2.1 t.2.2.2.1 t.2.2.2.2.1 t.2.2.2.2.2.1 t.2.2.2.2.2.2.1 t.2.2.2.2.2.2.2.1 t.2.2.2.2.2.2.2.2.1 t.2.2.2.2.2.2.2.2.2.1 t.2.2.2.2.2.2.2.2.2.2.1 t.2.2.2.2.2.2.2.2.2.2.2.1 t.2.2.2.2.2.2.2.2.2.2.2.2.1 t.2.2.2.2.2.2.2.2.2.2.2.2.2.1 t.2.2.2.2.2.2.2.2.2.2.2.2.2.2.1 t.2.2.2.2.2.2.2.2.2.2.2.2.2.2.2.1 t.2.2.2.2.2.2.2.2.2.2.2.2.2.2.2.2.1 t.2.2.2.2.2.2.2.2.2.2.2.2.2.2.2.2.2
def userop_Price.pat : List AV → Blks → Option ((List Int) × ((List Int) × (Bool × ((List Int) × ((List Int) × ((List Int) × (Int × (Int × (Int × ((List Int) × ((List Int) × (Bool × ((List Int) × (Int × (Int × ((List Int) × ((List Int) × (List Int))))))))))))))))))
 | [(.agg [(.ints .u8 20 a0_0), (.ints .u64 4 a0_1), (.bool a0_2), (.ints .u8 20 a0_3), (.rints .u8 a0_4), (.rints .u8 a0_5), (.int .u64 a0_6), (.int .u64 a0_7), (.int .u64 a0_8), (.ints .u64 4 a0_9), (.ints .u64 4 a0_10), (.bool a0_11), (.ints .u8 20 a0_12), (.int .u64 a0_13), (.int .u64 a0_14), (.rints .u8 a0_15), (.rints .u8 a0_16)]), (.ints .u64 4 a1)], [] => some (a0_0, a0_1, a0_2, a0_3, a0_4, a0_5, a0_6, a0_7, a0_8, a0_9, a0_10, a0_11, a0_12, a0_13, a0_14, a0_15, a0_16, a1)
 | _, _ => none
def userop_Price.shape (t : ((List Int) × ((List Int) × (Bool × ((List Int) × ((List Int) × ((List Int) × (Int × (Int × (Int × ((List Int) × ((List Int) × (Bool × ((List Int) × (Int × (Int × ((List Int) × ((List Int) × (List Int))))))))))))))))))) : List AV × Blks := ([(.agg [(.ints .u8 20 t.1), (.ints .u64 4 t.2.1), (.bool t.2.2.1), (.ints .u8 20 t.2.2.2.1), (.rints .u8 t.2.2.2.2.1), (.rints .u8 t.2.2.2.2.2.1), (.int .u64 t.2.2.2.2.2.2.1), (.int .u64 t.2.2.2.2.2.2.2.1), (.int .u64 t.2.2.2.2.2.2.2.2.1), (.ints .u64 4 t.2.2.2.2.2.2.2.2.2.1), (.ints .u64 4 t.2.2.2.2.2.2.2.2.2.2.1), (.bool t.2.2.2.2.2.2.2.2.2.2.2.1), (.ints .u8 20 t.2.2.2.2.2.2.2.2.2.2.2.2.1), (.int .u64 t.2.2.2.2.2.2.2.2.2.2.2.2.2.1), (.int .u64 t.2.2.2.2.2.2.2.2.2.2.2.2.2.2.1), (.rints .u8 t.2.2.2.2.2.2.2.2.2.2.2.2.2.2.2.1), (.rints .u8 t.2.2.2.2.2.2.2.2.2.2.2.2.2.2.2.2.1)]), (.ints .u64 4 t.2.2.2.2.2.2.2.2.2.2.2.2.2.2.2.2.2)], [])
def userop_Price.res : (List Int) → AV × Blks
 | u => (Prod.mk (.ints .u64 4 u) [])
def userop_Price.resK {R : Type} (u : (List Int)) (K : AV → Blks → Option R) : Option R := (fun p : AV × Blks => K p.1 p.2) (Prod.mk (.ints .u64 4 u) [])
def userop_Price.c (n : Nat) : Abs.Callee := .mk' [] [(some (.agg [none, none, none, none, (some (.ints .u8)), (some (.ints .u8)), none, none, none, none, none, none, none, none, none, (some (.ints .u8)), (some (.ints .u8))])), none] userop_Price.pat (userop_Price.m n) userop_Price.resK
end
end
section
theorem userop_Price.gmap {α β : Type} (h : β → α) (mk0 : (List Int) → β) (n : Nat) (a0_0 : (List Int)) (a0_1 : (List Int)) (a0_2 : Bool) (a0_3 : (List Int)) (a0_4 : (List Int)) (a0_5 : (List Int)) (a0_6 : Int) (a0_7 : Int) (a0_8 : Int) (a0_9 : (List Int)) (a0_10 : (List Int)) (a0_11 : Bool) (a0_12 : (List Int)) (a0_13 : Int) (a0_14 : Int) (a0_15 : (List Int)) (a0_16 : (List Int)) (a1 : (List Int)) : userop_Price.g (fun a0 => (h (mk0 a0))) n a0_0 a0_1 a0_2 a0_3 a0_4 a0_5 a0_6 a0_7 a0_8 a0_9 a0_10 a0_11 a0_12 a0_13 a0_14 a0_15 a0_16 a1 = (userop_Price.g mk0 n a0_0 a0_1 a0_2 a0_3 a0_4 a0_5 a0_6 a0_7 a0_8 a0_9 a0_10 a0_11 a0_12 a0_13 a0_14 a0_15 a0_16 a1).map h := by
  unfold userop_Price.g
  exact (bindO_map fun r2 => (ite_map (bindO_map fun r6 => (ite_map rfl rfl)) rfl))
theorem userop_Price.run (n : Nat) (a0_0 : (List Int)) (a0_1 : (List Int)) (a0_2 : Bool) (a0_3 : (List Int)) (a0_4 : (List Int)) (a0_5 : (List Int)) (a0_6 : Int) (a0_7 : Int) (a0_8 : Int) (a0_9 : (List Int)) (a0_10 : (List Int)) (a0_11 : Bool) (a0_12 : (List Int)) (a0_13 : Int) (a0_14 : Int) (a0_15 : (List Int)) (a0_16 : (List Int)) (a1 : (List Int)) : runF (userop_Price.C n) (userop_Price.A n) n Tryd.f47 [(.agg [(.ints .u8 20 a0_0), (.ints .u64 4 a0_1), (.bool a0_2), (.ints .u8 20 a0_3), (.rints .u8 a0_4), (.rints .u8 a0_5), (.int .u64 a0_6), (.int .u64 a0_7), (.int .u64 a0_8), (.ints .u64 4 a0_9), (.ints .u64 4 a0_10), (.bool a0_11), (.ints .u8 20 a0_12), (.int .u64 a0_13), (.int .u64 a0_14), (.rints .u8 a0_15), (.rints .u8 a0_16)]), (.ints .u64 4 a1)] [] (fun v o => some (v, o)) = userop_Price.g (fun a0 => ((Prod.mk (.ints .u64 4 a0) []) : AV × Blks)) n a0_0 a0_1 a0_2 a0_3 a0_4 a0_5 a0_6 a0_7 a0_8 a0_9 a0_10 a0_11 a0_12 a0_13 a0_14 a0_15 a0_16 a1 := by kernel_rfl
theorem userop_Price.call (hmix : Tryd.prog.follows .mixedOrders = true) (n : Nat) (t : ((List Int) × ((List Int) × (Bool × ((List Int) × ((List Int) × ((List Int) × (Int × (Int × (Int × ((List Int) × ((List Int) × (Bool × ((List Int) × (Int × (Int × ((List Int) × ((List Int) × (List Int))))))))))))))))))) (u) (h : userop_Price.m n t = some u) : FnC Tryd.prog abiG 47 (userop_Price.shape t).1 (userop_Price.shape t).2 (userop_Price.res u).1 (userop_Price.res u).2 := by
  have hg : ∀ f m, (userop_Price.C n).Γ f = some m → CalleeS Tryd.prog abiG f m := by
    intro f m hm
    unfold userop_Price.C at hm
    simp only at hm
    first
    | (cases hm; done)
    | (split at hm <;> first
    | (cases hm; exact word_Add.s hmix n)
    | (cases hm; exact word_Cmp.s hmix n)
    | (cases hm; done))
  have hb : Tryd.f47.body = some (Tryd.f47.body.getD .skip) := by kernel_rfl
  refine runF_calls (C := userop_Price.C n) (A := userop_Price.A n) (n := n) (fn := Tryd.f47) hg hmix Tryd.func47 hb ?_ ?_ (by decide) rfl rfl (by show 2 ≤ Tryd.f47.ntmps; decide) ?_
  · rw [show loopsIn (Tryd.f47.body.getD .skip) = [] by kernel_rfl]
    intro b hb
    cases hb
  · intro a ha m hm
    cases (show none = some m from hm)
  · rw [show runF (userop_Price.C n) (userop_Price.A n) n Tryd.f47 (userop_Price.shape t).1 (userop_Price.shape t).2 (fun v o => some (v, o)) = _ from userop_Price.run n t.1 t.2.1 t.2.2.1 t.2.2.2.1 t.2.2.2.2.1 t.2.2.2.2.2.1 t.2.2.2.2.2.2.1 t.2.2.2.2.2.2.2.1 t.2.2.2.2.2.2.2.2.1 t.2.2.2.2.2.2.2.2.2.1 t.2.2.2.2.2.2.2.2.2.2.1 t.2.2.2.2.2.2.2.2.2.2.2.1 t.2.2.2.2.2.2.2.2.2.2.2.2.1 t.2.2.2.2.2.2.2.2.2.2.2.2.2.1 t.2.2.2.2.2.2.2.2.2.2.2.2.2.2.1 t.2.2.2.2.2.2.2.2.2.2.2.2.2.2.2.1 t.2.2.2.2.2.2.2.2.2.2.2.2.2.2.2.2.1 t.2.2.2.2.2.2.2.2.2.2.2.2.2.2.2.2.2]
    have e := userop_Price.gmap userop_Price.res (fun a0 => a0) n t.1 t.2.1 t.2.2.1 t.2.2.2.1 t.2.2.2.2.1 t.2.2.2.2.2.1 t.2.2.2.2.2.2.1 t.2.2.2.2.2.2.2.1 t.2.2.2.2.2.2.2.2.1 t.2.2.2.2.2.2.2.2.2.1 t.2.2.2.2.2.2.2.2.2.2.1 t.2.2.2.2.2.2.2.2.2.2.2.1 t.2.2.2.2.2.2.2.2.2.2.2.2.1 t.2.2.2.2.2.2.2.2.2.2.2.2.2.1 t.2.2.2.2.2.2.2.2.2.2.2.2.2.2.1 t.2.2.2.2.2.2.2.2.2.2.2.2.2.2.2.1 t.2.2.2.2.2.2.2.2.2.2.2.2.2.2.2.2.1 t.2.2.2.2.2.2.2.2.2.2.2.2.2.2.2.2.2
    unfold userop_Price.m at h
    rw [h] at e
    exact e
theorem userop_Price.s (hmix : Tryd.prog.follows .mixedOrders = true) (n : Nat) : CalleeS Tryd.prog abiG 47 (userop_Price.c n) :=
  CalleeS.of (res := userop_Price.res) (shape := userop_Price.shape) (fun R u K => rfl) (fun args lent t h => by
    unfold userop_Price.pat at h
    split at h
    · cases h; rfl
    · cases h) fun t u h => (userop_Price.call hmix n t u h).ok Tryd.func47 (by decide) (by kernel_rfl)
end
section
noncomputable section
noncomputable def q15_Price.C (n : Nat) : Ctx := ⟨Tryd.prog, abiG, fun f => match f with
 | 87 => some (q01_Add.c n)
 | 49 => some (q01_Cmp.c n)
 | _ => none, fun _ => false⟩
def q15_Price.live : Nat → List Nat × List Nat := fun k => match k with
 | _ => ([], [])
def q15_Price.jlive : Nat → List Nat × List Nat := fun k => match k with
 | _ => ([], [])
noncomputable def q15_Price.A (n : Nat) : Ann := ⟨Tryd.f48.ntmps, 0, q15_Price.live, [], [none], fun k => match k with
 | _ => none, q15_Price.jlive, lookJ []⟩
def q15_Price.g {α : Type} (mk0 : (List Int) → α) (n : Nat) (a0_0 : (List Int)) (a0_1 : (List Int)) (a0_2 : Bool) (a0_3 : (List Int)) (a0_4 : (List Int)) (a0_5 : (List Int)) (a0_6 : Int) (a0_7 : Int) (a0_8 : Int) (a0_9 : (List Int)) (a0_10 : (List Int)) (a0_11 : Bool) (a0_12 : (List Int)) (a0_13 : Int) (a0_14 : Int) (a0_15 : (List Int)) (a0_16 : (List Int)) (a1 : (List Int)) : Option α :=
 bindO (q01_Add.m n (Prod.mk a0_10 a1)) fun r2 =>
  if (Prod.snd r2) = true then
   some (mk0 a0_9)
  else
   bindO (q01_Cmp.m n (Prod.mk (Prod.fst r2) a0_9)) fun r6 =>
    if (decide (r6 > 0)) = true then
     some (mk0 a0_9)
    else
     some (mk0 (Prod.fst r2))
def q15_Price.m (n : Nat) (t : ((List Int) × ((List Int) × (Bool × ((List Int) × ((List Int) × ((List Int) × (Int × (Int × (Int × ((List Int) × ((List Int) × (Bool × ((List Int) × (Int × (Int × ((List Int) × ((List Int) × (List Int))))))))))))))))))) : Option (List Int) := q15_Price.g (fun a0 => a0) n t.1 t.2.1 t.2.2.1 t.2.2.2.1 t.2.2.2.2.1 t.2.2.2.2.2.1 t.2.2.2.2.2.2.1 t.2.2.2.2.2.2.2.1 t.2.2.2.2.2.2.2.2.1 t.2.2.2.2.2.2.2.2.2.1 t.2.2.2.2.2.2.2.2.2.2.1 t.2.2.2.2.2.2.2.2.2.2.2.1 t.2.2.2.2.2.2.2.2.2.2.2.2.1 t.2.2.2.2.2.2.2.2.2.2.2.2.2.1 t.2.2.2.2.2.2.2.2.2.2.2.2.2.2.1 t.2.2.2.2.2.2.2.2.2.2.2.2.2.2.2.1 t.2.2.2.2.2.2.2.2.2.2.2.2.2.2.2.2.1 t.2.2.2.2.2.2.2.2.2.2.2.2.2.2.2.2.2
def q15_Price.pat : List AV → Blks → Option ((List Int) × ((List Int) × (Bool × ((List Int) × ((List Int) × ((List Int) × (Int × (Int × (Int × ((List Int) × ((List Int) × (Bool × ((List Int) × (Int × (Int × ((List Int) × ((List Int) × (List Int))))))))))))))))))
 | [(.agg [(.ints .u8 20 a0_0), (.ints .u64 4 a0_1), (.bool a0_2), (.ints .u8 20 a0_3), (.rints .u8 a0_4), (.rints .u8 a0_5), (.int .u64 a0_6), (.int .u64 a0_7), (.int .u64 a0_8), (.ints .u64 4 a0_9), (.ints .u64 4 a0_10), (.bool a0_11), (.ints .u8 20 a0_12), (.int .u64 a0_13), (.int .u64 a0_14), (.rints .u8 a0_15), (.rints .u8 a0_16)]), (.ints .u64 4 a1)], [] => some (a0_0, a0_1, a0_2, a0_3, a0_4, a0_5, a0_6, a0_7, a0_8, a0_9, a0_10, a0_11, a0_12, a0_13, a0_14, a0_15, a0_16, a1)
 | _, _ => none
def q15_Price.shape (t : ((List Int) × ((List Int) × (Bool × ((List Int) × ((List Int) × ((List Int) × (Int × (Int × (Int × ((List Int) × ((List Int) × (Bool × ((List Int) × (Int × (Int × ((List Int) × ((List Int) × (List Int))))))))))))))))))) : List AV × Blks := ([(.agg [(.ints .u8 20 t.1), (.ints .u64 4 t.2.1), (.bool t.2.2.1), (.ints .u8 20 t.2.2.2.1), (.rints .u8 t.2.2.2.2.1), (.rints .u8 t.2.2.2.2.2.1), (.int .u64 t.2.2.2.2.2.2.1), (.int .u64 t.2.2.2.2.2.2.2.1), (.int .u64 t.2.2.2.2.2.2.2.2.1), (.ints .u64 4 t.2.2.2.2.2.2.2.2.2.1), (.ints .u64 4 t.2.2.2.2.2.2.2.2.2.2.1), (.bool t.2.2.2.2.2.2.2.2.2.2.2.1), (.ints .u8 20 t.2.2.2.2.2.2.2.2.2.2.2.2.1), (.int .u64 t.2.2.2.2.2.2.2.2.2.2.2.2.2.1), (.int .u64 t.2.2.2.2.2.2.2.2.2.2.2.2.2.2.1), (.rints .u8 t.2.2.2.2.2.2.2.2.2.2.2.2.2.2.2.1), (.rints .u8 t.2.2.2.2.2.2.2.2.2.2.2.2.2.2.2.2.1)]), (.ints .u64 4 t.2.2.2.2.2.2.2.2.2.2.2.2.2.2.2.2.2)], [])
def q15_Price.res : (List Int) → AV × Blks
 | u => (Prod.mk (.ints .u64 4 u) [])
def q15_Price.resK {R : Type} (u : (List Int)) (K : AV → Blks → Option R) : Option R := (fun p : AV × Blks => K p.1 p.2) (Prod.mk (.ints .u64 4 u) [])
def q15_Price.c (n : Nat) : Abs.Callee := .mk' [] [(some (.agg [none, none, none, none, (some (.ints .u8)), (some (.ints .u8)), none, none, none, none, none, none, none, none, none, (some (.ints .u8)), (some (.ints .u8))])), none] q15_Price.pat (q15_Price.m n) q15_Price.resK
end
end
section
theorem q15_Price.gmap {α β : Type} (h : β → α) (mk0 : (List Int) → β) (n : Nat) (a0_0 : (List Int)) (a0_1 : (List Int)) (a0_2 : Bool) (a0_3 : (List Int)) (a0_4 : (List Int)) (a0_5 : (List Int)) (a0_6 : Int) (a0_7 : Int) (a0_8 : Int) (a0_9 : (List Int)) (a0_10 : (List Int)) (a0_11 : Bool) (a0_12 : (List Int)) (a0_13 : Int) (a0_14 : Int) (a0_15 : (List Int)) (a0_16 : (List Int)) (a1 : (List Int)) : q15_Price.g (fun a0 => (h (mk0 a0))) n a0_0 a0_1 a0_2 a0_3 a0_4 a0_5 a0_6 a0_7 a0_8 a0_9 a0_10 a0_11 a0_12 a0_13 a0_14 a0_15 a0_16 a1 = (q15_Price.g mk0 n a0_0 a0_1 a0_2 a0_3 a0_4 a0_5 a0_6 a0_7 a0_8 a0_9 a0_10 a0_11 a0_12 a0_13 a0_14 a0_15 a0_16 a1).map h := by
  unfold q15_Price.g
  exact (bindO_map fun r2 => (ite_map rfl (bindO_map fun r6 => (ite_map rfl rfl))))
theorem q15_Price.run (n : Nat) (a0_0 : (List Int)) (a0_1 : (List Int)) (a0_2 : Bool) (a0_3 : (List Int)) (a0_4 : (List Int)) (a0_5 : (List Int)) (a0_6 : Int) (a0_7 : Int) (a0_8 : Int) (a0_9 : (List Int)) (a0_10 : (List Int)) (a0_11 : Bool) (a0_12 : (List Int)) (a0_13 : Int) (a0_14 : Int) (a0_15 : (List Int)) (a0_16 : (List Int)) (a1 : (List Int)) : runF (q15_Price.C n) (q15_Price.A n) n Tryd.f48 [(.agg [(.ints .u8 20 a0_0), (.ints .u64 4 a0_1), (.bool a0_2), (.ints .u8 20 a0_3), (.rints .u8 a0_4), (.rints .u8 a0_5), (.int .u64 a0_6), (.int .u64 a0_7), (.int .u64 a0_8), (.ints .u64 4 a0_9), (.ints .u64 4 a0_10), (.bool a0_11), (.ints .u8 20 a0_12), (.int .u64 a0_13), (.int .u64 a0_14), (.rints .u8 a0_15), (.rints .u8 a0_16)]), (.ints .u64 4 a1)] [] (fun v o => some (v, o)) = q15_Price.g (fun a0 => ((Prod.mk (.ints .u64 4 a0) []) : AV × Blks)) n a0_0 a0_1 a0_2 a0_3 a0_4 a0_5 a0_6 a0_7 a0_8 a0_9 a0_10 a0_11 a0_12 a0_13 a0_14 a0_15 a0_16 a1 := by kernel_rfl
theorem q15_Price.call (hmix : Tryd.prog.follows .mixedOrders = true) (n : Nat) (t : ((List Int) × ((List Int) × (Bool × ((List Int) × ((List Int) × ((List Int) × (Int × (Int × (Int × ((List Int) × ((List Int) × (Bool × ((List Int) × (Int × (Int × ((List Int) × ((List Int) × (List Int))))))))))))))))))) (u) (h : q15_Price.m n t = some u) : FnC Tryd.prog abiG 48 (q15_Price.shape t).1 (q15_Price.shape t).2 (q15_Price.res u).1 (q15_Price.res u).2 := by
  have hg : ∀ f m, (q15_Price.C n).Γ f = some m → CalleeS Tryd.prog abiG f m := by
    intro f m hm
    unfold q15_Price.C at hm
    simp only at hm
    first
    | (cases hm; done)
    | (split at hm <;> first
    | (cases hm; exact q01_Add.s hmix n)
    | (cases hm; exact q01_Cmp.s hmix n)
    | (cases hm; done))
  have hb : Tryd.f48.body = some (Tryd.f48.body.getD .skip) := by kernel_rfl
  refine runF_calls (C := q15_Price.C n) (A := q15_Price.A n) (n := n) (fn := Tryd.f48) hg hmix Tryd.func48 hb ?_ ?_ (by decide) rfl rfl (by show 2 ≤ Tryd.f48.ntmps; decide) ?_
  · rw [show loopsIn (Tryd.f48.body.getD .skip) = [] by kernel_rfl]
    intro b hb
    cases hb
  · intro a ha m hm
    cases (show none = some m from hm)
  · rw [show runF (q15_Price.C n) (q15_Price.A n) n Tryd.f48 (q15_Price.shape t).1 (q15_Price.shape t).2 (fun v o => some (v, o)) = _ from q15_Price.run n t.1 t.2.1 t.2.2.1 t.2.2.2.1 t.2.2.2.2.1 t.2.2.2.2.2.1 t.2.2.2.2.2.2.1 t.2.2.2.2.2.2.2.1 t.2.2.2.2.2.2.2.2.1 t.2.2.2.2.2.2.2.2.2.1 t.2.2.2.2.2.2.2.2.2.2.1 t.2.2.2.2.2.2.2.2.2.2.2.1 t.2.2.2.2.2.2.2.2.2.2.2.2.1 t.2.2.2.2.2.2.2.2.2.2.2.2.2.1 t.2.2.2.2.2.2.2.2.2.2.2.2.2.2.1 t.2.2.2.2.2.2.2.2.2.2.2.2.2.2.2.1 t.2.2.2.2.2.2.2.2.2.2.2.2.2.2.2.2.1 t.2.2.2.2.2.2.2.2.2.2.2.2.2.2.2.2.2]
    have e := q15_Price.gmap q15_Price.res (fun a0 => a0) n t.1 t.2.1 t.2.2.1 t.2.2.2.1 t.2.2.2.2.1 t.2.2.2.2.2.1 t.2.2.2.2.2.2.1 t.2.2.2.2.2.2.2.1 t.2.2.2.2.2.2.2.2.1 t.2.2.2.2.2.2.2.2.2.1 t.2.2.2.2.2.2.2.2.2.2.1 t.2.2.2.2.2.2.2.2.2.2.2.1 t.2.2.2.2.2.2.2.2.2.2.2.2.1 t.2.2.2.2.2.2.2.2.2.2.2.2.2.1 t.2.2.2.2.2.2.2.2.2.2.2.2.2.2.1 t.2.2.2.2.2.2.2.2.2.2.2.2.2.2.2.1 t.2.2.2.2.2.2.2.2.2.2.2.2.2.2.2.2.1 t.2.2.2.2.2.2.2.2.2.2.2.2.2.2.2.2.2
    unfold q15_Price.m at h
    rw [h] at e
    exact e
theorem q15_Price.s (hmix : Tryd.prog.follows .mixedOrders = true) (n : Nat) : CalleeS Tryd.prog abiG 48 (q15_Price.c n) :=
  CalleeS.of (res := q15_Price.res) (shape := q15_Price.shape) (fun R u K => rfl) (fun args lent t h => by
    unfold q15_Price.pat at h
    split at h
    · cases h; rfl
    · cases h) fun t u h => (q15_Price.call hmix n t u h).ok Tryd.func48 (by decide) (by kernel_rfl)
end
section
noncomputable section
noncomputable def userop_Spans.C (n : Nat) : Ctx := ⟨Tryd.prog, abiG, fun f => match f with
 | 63 => some (word_Addr.c n)
 | _ => none, fun _ => false⟩
def userop_Spans.live : Nat → List Nat × List Nat := fun k => match k with
 | _ => ([], [])
def userop_Spans.jlive : Nat → List Nat × List Nat := fun k => match k with
 | _ => ([], [])
noncomputable def userop_Spans.A (n : Nat) : Ann := ⟨Tryd.f24.ntmps, 0, userop_Spans.live, [], [none], fun k => match k with
 | _ => none, userop_Spans.jlive, lookJ []⟩
def userop_Spans.g {α : Type} (mk0 : Bool → Int → Int → α) (n : Nat) (a0 : (List Int)) : Option α :=
 bindO (word_Addr.m n a0) fun r2 =>
  some (mk0 (!(r2 == ([0, 0, 0, 0, 0, 0, 0, 0, 0, 0, 0, 0, 0, 0, 0, 0, 0, 0, 0, 0] : List Int))) (ibits BinOp.and .u64 (ishr .u64 (List.getD a0 3 0) 16) 281474976710655) (ibits BinOp.or .u64 (ishr .u64 (List.getD a0 2 0) 32) (ishl .u64 (ibits BinOp.and .u64 (List.getD a0 3 0) 65535) 32)))
def userop_Spans.m (n : Nat) (t : (List Int)) : Option (Bool × (Int × Int)) := userop_Spans.g (fun a0 a1 a2 => (a0, a1, a2)) n t
def userop_Spans.pat : List AV → Blks → Option (List Int)
 | [(.ints .u64 4 a0)], [] => some a0
 | _, _ => none
def userop_Spans.shape (t : (List Int)) : List AV × Blks := ([(.ints .u64 4 t)], [])
def userop_Spans.res : (Bool × (Int × Int)) → AV × Blks
 | u => (Prod.mk (.agg [(.bool u.1), (.int .u64 u.2.1), (.int .u64 u.2.2)]) [])
def userop_Spans.resK {R : Type} (u : (Bool × (Int × Int))) (K : AV → Blks → Option R) : Option R := (fun p : AV × Blks => K p.1 p.2) (Prod.mk (.agg [(.bool u.1), (.int .u64 u.2.1), (.int .u64 u.2.2)]) [])
def userop_Spans.c (n : Nat) : Abs.Callee := .mk' [] [none] userop_Spans.pat (userop_Spans.m n) userop_Spans.resK
end
end
section
noncomputable section
noncomputable def bits_RotateLeft64.C (n : Nat) : Ctx := ⟨Tryd.prog, abiG, fun f => match f with
 | _ => none, fun _ => false⟩
def bits_RotateLeft64.live : Nat → List Nat × List Nat := fun k => match k with
 | _ => ([], [])
def bits_RotateLeft64.jlive : Nat → List Nat × List Nat := fun k => match k with
 | _ => ([], [])
noncomputable def bits_RotateLeft64.A (n : Nat) : Ann := ⟨Tryd.f130.ntmps, 0, bits_RotateLeft64.live, [], [none], fun k => match k with
 | _ => none, bits_RotateLeft64.jlive, lookJ []⟩
def bits_RotateLeft64.g {α : Type} (mk0 : Int → α) (n : Nat) (a0 : Int) (a1 : Int) : Option α :=
 if 0 ≤ (IntKind.wrap .u64 (64 - (ibits BinOp.and .u64 (IntKind.wrap .u64 a1) 63))) then
  some (mk0 (ibits BinOp.or .u64 (ishl .u64 a0 (ibits BinOp.and .u64 (IntKind.wrap .u64 a1) 63)) (ishr .u64 a0 (IntKind.wrap .u64 (64 - (ibits BinOp.and .u64 (IntKind.wrap .u64 a1) 63))))))
 else
  none
def bits_RotateLeft64.m (n : Nat) (t : (Int × Int)) : Option Int := bits_RotateLeft64.g (fun a0 => a0) n t.1 t.2
def bits_RotateLeft64.pat : List AV → Blks → Option (Int × Int)
 | [(.int .u64 a0), (.int .i64 a1)], [] => some (a0, a1)
 | _, _ => none
def bits_RotateLeft64.shape (t : (Int × Int)) : List AV × Blks := ([(.int .u64 t.1), (.int .i64 t.2)], [])
def bits_RotateLeft64.res : Int → AV × Blks
 | u => (Prod.mk (.int .u64 u) [])
def bits_RotateLeft64.resK {R : Type} (u : Int) (K : AV → Blks → Option R) : Option R := (fun p : AV × Blks => K p.1 p.2) (Prod.mk (.int .u64 u) [])
def bits_RotateLeft64.c (n : Nat) : Abs.Callee := .mk' [] [none, none] bits_RotateLeft64.pat (bits_RotateLeft64.m n) bits_RotateLeft64.resK
end
end
section
noncomputable section
noncomputable def keccak_state_spread.C (n : Nat) : Ctx := ⟨Tryd.prog, abiG, fun f => match f with
 | 130 => some (bits_RotateLeft64.c n)
 | _ => none, fun _ => false⟩
def keccak_state_spread.live : Nat → List Nat × List Nat := fun k => match k with
 | 2 => ([7, 6, 2, 0], [0, 2])
 | 7 => ([21, 0, 2], [])
 | _ => ([], [])
def keccak_state_spread.jlive : Nat → List Nat × List Nat := fun k => match k with
 | _ => ([], [])
def keccak_state_spread.l2_0.r {α : Type} (mk0 : (List Int) → (List Int) → α) (n : Nat) (rc : Int → (List Int) → (List Int) → Option α)  (x0 : Int) (x1 : (List Int)) (x2 : (List Int)) : Option α :=
  if (decide (x0 < 25)) = true then
   if 0 ≤ x0 then
    if x0 < 25 then
     if 0 ≤ (Int.tmod x0 5) then
      if (Int.tmod x0 5) < 5 then
       if 0 ≤ (Int.tmod x0 5) then
        if (Int.tmod x0 5) < 5 then
         rc (IntKind.wrap .i64 (x0 + 1)) x1 (List.set x2 (Int.toNat (Int.tmod x0 5)) (ibits BinOp.xor .u64 (List.getD x2 (Int.toNat (Int.tmod x0 5)) 0) (List.getD x1 (Int.toNat x0) 0)))
        else
         none
       else
        none
      else
       none
     else
      none
    else
     none
   else
    none
  else
   some (mk0 x1 x2)
def keccak_state_spread.l2_0.g {α : Type} (mk0 : (List Int) → (List Int) → α) (n : Nat) : Nat → Int → (List Int) → (List Int) → Option α
 | 0, _, _, _ => none
 | m + 1, x0, x1, x2 => keccak_state_spread.l2_0.r mk0 n (fun y0 y1 y2 => keccak_state_spread.l2_0.g mk0 n m y0 y1 y2)  x0 x1 x2
def keccak_state_spread.l2_0.m (n m : Nat) (t : (Int × ((List Int) × (List Int)))) : Option ((List Int) × (List Int)) := keccak_state_spread.l2_0.g (fun a0 a1 => (a0, a1)) n m t.1 t.2.1 t.2.2
def keccak_state_spread.l2_0.pat : St → Option (Int × ((List Int) × (List Int)))
 | (St.mk [(.int .i64 x0), (.ptr 0 []), (.ptr 1 []), (.ptr 0 [])] [(some (.var (.ints .u64 25 x1))), (some (.var (.ints .u64 5 x2)))]) => some (x0, x1, x2)
 | _ => none
def keccak_state_spread.l2_0.shape (t : (Int × ((List Int) × (List Int)))) : St := (St.mk [(.int .i64 t.1), (.ptr 0 []), (.ptr 1 []), (.ptr 0 [])] [(some (.var (.ints .u64 25 t.2.1))), (some (.var (.ints .u64 5 t.2.2)))])
def keccak_state_spread.l2_0.res : ((List Int) × (List Int)) → Ex × St
 | u => (Prod.mk (.exit 0) (St.mk [(.ptr 0 []), (.ptr 1 [])] [(some (.var (.ints .u64 25 u.1))), (some (.var (.ints .u64 5 u.2)))]))
def keccak_state_spread.l2_0.resK {R : Type} (u : ((List Int) × (List Int))) (K : Ex → St → Option R) : Option R := (fun p : Ex × St => K p.1 p.2) (Prod.mk (.exit 0) (St.mk [(.ptr 0 []), (.ptr 1 [])] [(some (.var (.ints .u64 25 u.1))), (some (.var (.ints .u64 5 u.2)))]))
def keccak_state_spread.l7_0.r {α : Type} (mk0 : (List Int) → α) (n : Nat) (rc : Int → (List Int) → (List Int) → Option α)  (x0 : Int) (x1 : (List Int)) (x2 : (List Int)) : Option α :=
  if (decide (x0 < 25)) = true then
   if 0 ≤ x0 then
    if x0 < 25 then
     if 0 ≤ (Int.tmod (IntKind.wrap .i64 (x0 + 4)) 5) then
      if (Int.tmod (IntKind.wrap .i64 (x0 + 4)) 5) < 5 then
       if 0 ≤ (Int.tmod (IntKind.wrap .i64 (x0 + 1)) 5) then
        if (Int.tmod (IntKind.wrap .i64 (x0 + 1)) 5) < 5 then
         bindO (bits_RotateLeft64.m n (Prod.mk (List.getD x2 (Int.toNat (Int.tmod (IntKind.wrap .i64 (x0 + 1)) 5)) 0) 1)) fun r18 =>
          if 0 ≤ x0 then
           if x0 < 25 then
            rc (IntKind.wrap .i64 (x0 + 1)) (List.set x1 (Int.toNat x0) (ibits BinOp.xor .u64 (List.getD x1 (Int.toNat x0) 0) (ibits BinOp.xor .u64 (List.getD x2 (Int.toNat (Int.tmod (IntKind.wrap .i64 (x0 + 4)) 5)) 0) r18))) x2
           else
            none
          else
           none
        else
         none
       else
        none
      else
       none
     else
      none
    else
     none
   else
    none
  else
   some (mk0 x1)
def keccak_state_spread.l7_0.g {α : Type} (mk0 : (List Int) → α) (n : Nat) : Nat → Int → (List Int) → (List Int) → Option α
 | 0, _, _, _ => none
 | m + 1, x0, x1, x2 => keccak_state_spread.l7_0.r mk0 n (fun y0 y1 y2 => keccak_state_spread.l7_0.g mk0 n m y0 y1 y2)  x0 x1 x2
def keccak_state_spread.l7_0.m (n m : Nat) (t : (Int × ((List Int) × (List Int)))) : Option (List Int) := keccak_state_spread.l7_0.g (fun a0 => a0) n m t.1 t.2.1 t.2.2
def keccak_state_spread.l7_0.pat : St → Option (Int × ((List Int) × (List Int)))
 | (St.mk [(.int .i64 x0), (.ptr 0 []), (.ptr 1 [])] [(some (.var (.ints .u64 25 x1))), (some (.var (.ints .u64 5 x2)))]) => some (x0, x1, x2)
 | _ => none
def keccak_state_spread.l7_0.shape (t : (Int × ((List Int) × (List Int)))) : St := (St.mk [(.int .i64 t.1), (.ptr 0 []), (.ptr 1 [])] [(some (.var (.ints .u64 25 t.2.1))), (some (.var (.ints .u64 5 t.2.2)))])
def keccak_state_spread.l7_0.res : (List Int) → Ex × St
 | u => (Prod.mk (.exit 2) (St.mk [] [(some (.var (.ints .u64 25 u)))]))
def keccak_state_spread.l7_0.resK {R : Type} (u : (List Int)) (K : Ex → St → Option R) : Option R := (fun p : Ex × St => K p.1 p.2) (Prod.mk (.exit 2) (St.mk [] [(some (.var (.ints .u64 25 u)))]))
noncomputable def keccak_state_spread.A (n : Nat) : Ann := ⟨Tryd.f124.ntmps, 1, keccak_state_spread.live, [], [], fun k => match k with
 | 2 => some (.mk' keccak_state_spread.l2_0.pat (keccak_state_spread.l2_0.m n n) keccak_state_spread.l2_0.resK)
 | 7 => some (.mk' keccak_state_spread.l7_0.pat (keccak_state_spread.l7_0.m n n) keccak_state_spread.l7_0.resK)
 | _ => none, keccak_state_spread.jlive, lookJ []⟩
noncomputable def keccak_state_spread.b0 : Code := (loopsIn (Tryd.f124.body.getD .skip)).getD 0 .skip
noncomputable def keccak_state_spread.b1 : Code := (loopsIn (Tryd.f124.body.getD .skip)).getD 1 .skip
def keccak_state_spread.g {α : Type} (mk0 : (List Int) → α) (n : Nat) (s : (List Int)) : Option α :=
 bindO (keccak_state_spread.l2_0.m n n (0, s, [0, 0, 0, 0, 0])) fun r2 =>
  bindO (keccak_state_spread.l7_0.m n n (0, (Prod.fst r2), (Prod.snd r2))) fun r4 =>
   some (mk0 r4)
def keccak_state_spread.m (n : Nat) (t : (List Int)) : Option (List Int) := keccak_state_spread.g (fun a0 => a0) n t
def keccak_state_spread.pat : List AV → Blks → Option (List Int)
 | [(.ptr 0 [])], [(some (.var (.ints .u64 25 s)))] => some s
 | _, _ => none
def keccak_state_spread.shape (t : (List Int)) : List AV × Blks := ([(.ptr 0 [])], [(some (.var (.ints .u64 25 t)))])
def keccak_state_spread.res : (List Int) → AV × Blks
 | u => (Prod.mk (.tup []) [(some (.var (.ints .u64 25 u)))])
def keccak_state_spread.resK {R : Type} (u : (List Int)) (K : AV → Blks → Option R) : Option R := (fun p : AV × Blks => K p.1 p.2) (Prod.mk (.tup []) [(some (.var (.ints .u64 25 u)))])
def keccak_state_spread.c (n : Nat) : Abs.Callee := .mk' [true] [none] keccak_state_spread.pat (keccak_state_spread.m n) keccak_state_spread.resK
end
end
section
noncomputable section
noncomputable def keccak_state_turn.C (n : Nat) : Ctx := ⟨Tryd.prog, abiG, fun f => match f with
 | 130 => some (bits_RotateLeft64.c n)
 | _ => none, fun _ => false⟩
def keccak_state_turn.live : Nat → List Nat × List Nat := fun k => match k with
 | 2 => ([9, 0, 2], [])
 | _ => ([], [])
def keccak_state_turn.jlive : Nat → List Nat × List Nat := fun k => match k with
 | _ => ([], [])
def keccak_state_turn.l2_0.r {α : Type} (mk0 : (List Int) → α) (n : Nat) (rc : Int → Int → (List Int) → Option α)  (x0 : Int) (x1 : Int) (x2 : (List Int)) : Option α :=
  if (decide (x0 < 24)) = true then
   if 0 ≤ x0 then
    if x0 < 24 then
     if 0 ≤ (List.getD ([10, 7, 11, 17, 18, 3, 5, 16, 8, 21, 24, 4, 15, 23, 19, 13, 12, 2, 20, 14, 22, 9, 6, 1] : List Int) (Int.toNat x0) 0) then
      if (List.getD ([10, 7, 11, 17, 18, 3, 5, 16, 8, 21, 24, 4, 15, 23, 19, 13, 12, 2, 20, 14, 22, 9, 6, 1] : List Int) (Int.toNat x0) 0) < 25 then
       if 0 ≤ x0 then
        if x0 < 24 then
         if 0 ≤ x0 then
          if x0 < 24 then
           bindO (bits_RotateLeft64.m n (Prod.mk x1 (List.getD ([1, 3, 6, 10, 15, 21, 28, 36, 45, 55, 2, 14, 27, 41, 56, 8, 25, 43, 62, 18, 39, 61, 20, 44] : List Int) (Int.toNat x0) 0))) fun r22 =>
            if 0 ≤ (List.getD ([10, 7, 11, 17, 18, 3, 5, 16, 8, 21, 24, 4, 15, 23, 19, 13, 12, 2, 20, 14, 22, 9, 6, 1] : List Int) (Int.toNat x0) 0) then
             if (List.getD ([10, 7, 11, 17, 18, 3, 5, 16, 8, 21, 24, 4, 15, 23, 19, 13, 12, 2, 20, 14, 22, 9, 6, 1] : List Int) (Int.toNat x0) 0) < 25 then
              rc (IntKind.wrap .i64 (x0 + 1)) (List.getD x2 (Int.toNat (List.getD ([10, 7, 11, 17, 18, 3, 5, 16, 8, 21, 24, 4, 15, 23, 19, 13, 12, 2, 20, 14, 22, 9, 6, 1] : List Int) (Int.toNat x0) 0)) 0) (List.set x2 (Int.toNat (List.getD ([10, 7, 11, 17, 18, 3, 5, 16, 8, 21, 24, 4, 15, 23, 19, 13, 12, 2, 20, 14, 22, 9, 6, 1] : List Int) (Int.toNat x0) 0)) r22)
             else
              none
            else
             none
          else
           none
         else
          none
        else
         none
       else
        none
      else
       none
     else
      none
    else
     none
   else
    none
  else
   some (mk0 x2)
def keccak_state_turn.l2_0.g {α : Type} (mk0 : (List Int) → α) (n : Nat) : Nat → Int → Int → (List Int) → Option α
 | 0, _, _, _ => none
 | m + 1, x0, x1, x2 => keccak_state_turn.l2_0.r mk0 n (fun y0 y1 y2 => keccak_state_turn.l2_0.g mk0 n m y0 y1 y2)  x0 x1 x2
def keccak_state_turn.l2_0.m (n m : Nat) (t : (Int × (Int × (List Int)))) : Option (List Int) := keccak_state_turn.l2_0.g (fun a0 => a0) n m t.1 t.2.1 t.2.2
def keccak_state_turn.l2_0.pat : St → Option (Int × (Int × (List Int)))
 | (St.mk [(.int .i64 x0), (.ptr 0 []), (.int .u64 x1)] [(some (.var (.ints .u64 25 x2)))]) => some (x0, x1, x2)
 | _ => none
def keccak_state_turn.l2_0.shape (t : (Int × (Int × (List Int)))) : St := (St.mk [(.int .i64 t.1), (.ptr 0 []), (.int .u64 t.2.1)] [(some (.var (.ints .u64 25 t.2.2)))])
def keccak_state_turn.l2_0.res : (List Int) → Ex × St
 | u => (Prod.mk (.exit 0) (St.mk [] [(some (.var (.ints .u64 25 u)))]))
def keccak_state_turn.l2_0.resK {R : Type} (u : (List Int)) (K : Ex → St → Option R) : Option R := (fun p : Ex × St => K p.1 p.2) (Prod.mk (.exit 0) (St.mk [] [(some (.var (.ints .u64 25 u)))]))
noncomputable def keccak_state_turn.A (n : Nat) : Ann := ⟨Tryd.f125.ntmps, 1, keccak_state_turn.live, [], [], fun k => match k with
 | 2 => some (.mk' keccak_state_turn.l2_0.pat (keccak_state_turn.l2_0.m n n) keccak_state_turn.l2_0.resK)
 | _ => none, keccak_state_turn.jlive, lookJ []⟩
noncomputable def keccak_state_turn.b0 : Code := (loopsIn (Tryd.f125.body.getD .skip)).getD 0 .skip
def keccak_state_turn.g {α : Type} (mk0 : (List Int) → α) (n : Nat) (s : (List Int)) : Option α :=
 bindO (keccak_state_turn.l2_0.m n n (0, (List.getD s 1 0), s)) fun r2 =>
  some (mk0 r2)
def keccak_state_turn.m (n : Nat) (t : (List Int)) : Option (List Int) := keccak_state_turn.g (fun a0 => a0) n t
def keccak_state_turn.pat : List AV → Blks → Option (List Int)
 | [(.ptr 0 [])], [(some (.var (.ints .u64 25 s)))] => some s
 | _, _ => none
def keccak_state_turn.shape (t : (List Int)) : List AV × Blks := ([(.ptr 0 [])], [(some (.var (.ints .u64 25 t)))])
def keccak_state_turn.res : (List Int) → AV × Blks
 | u => (Prod.mk (.tup []) [(some (.var (.ints .u64 25 u)))])
def keccak_state_turn.resK {R : Type} (u : (List Int)) (K : AV → Blks → Option R) : Option R := (fun p : AV × Blks => K p.1 p.2) (Prod.mk (.tup []) [(some (.var (.ints .u64 25 u)))])
def keccak_state_turn.c (n : Nat) : Abs.Callee := .mk' [true] [none] keccak_state_turn.pat (keccak_state_turn.m n) keccak_state_turn.resK
end
end
section
noncomputable section
noncomputable def keccak_state_row.C (n : Nat) : Ctx := ⟨Tryd.prog, abiG, fun f => match f with
 | _ => none, fun _ => false⟩
def keccak_state_row.live : Nat → List Nat × List Nat := fun k => match k with
 | 1 => ([2, 0], [])
 | 5 => ([17, 0, 2, 3], [2, 0])
 | _ => ([], [])
def keccak_state_row.jlive : Nat → List Nat × List Nat := fun k => match k with
 | _ => ([], [])
def keccak_state_row.l5_0.r {α : Type} (mk0 : Int → (List Int) → α) (n : Nat) (rc : Int → Int → (List Int) → (List Int) → Option α)  (x0 : Int) (x1 : Int) (x2 : (List Int)) (x3 : (List Int)) : Option α :=
  if (decide (x0 < 5)) = true then
   if 0 ≤ x0 then
    if x0 < 5 then
     if 0 ≤ (Int.tmod (IntKind.wrap .i64 (x0 + 1)) 5) then
      if (Int.tmod (IntKind.wrap .i64 (x0 + 1)) 5) < 5 then
       if 0 ≤ (Int.tmod (IntKind.wrap .i64 (x0 + 2)) 5) then
        if (Int.tmod (IntKind.wrap .i64 (x0 + 2)) 5) < 5 then
         if 0 ≤ (IntKind.wrap .i64 (x1 + x0)) then
          if (IntKind.wrap .i64 (x1 + x0)) < 25 then
           rc (IntKind.wrap .i64 (x0 + 1)) x1 (List.set x2 (Int.toNat (IntKind.wrap .i64 (x1 + x0))) (ibits BinOp.xor .u64 (List.getD x3 (Int.toNat x0) 0) (ibits BinOp.and .u64 (ibits BinOp.xor .u64 (if false = true then (-1) else 18446744073709551615) (List.getD x3 (Int.toNat (Int.tmod (IntKind.wrap .i64 (x0 + 1)) 5)) 0)) (List.getD x3 (Int.toNat (Int.tmod (IntKind.wrap .i64 (x0 + 2)) 5)) 0)))) x3
          else
           none
         else
          none
        else
         none
       else
        none
      else
       none
     else
      none
    else
     none
   else
    none
  else
   some (mk0 x1 x2)
def keccak_state_row.l5_0.g {α : Type} (mk0 : Int → (List Int) → α) (n : Nat) : Nat → Int → Int → (List Int) → (List Int) → Option α
 | 0, _, _, _, _ => none
 | m + 1, x0, x1, x2, x3 => keccak_state_row.l5_0.r mk0 n (fun y0 y1 y2 y3 => keccak_state_row.l5_0.g mk0 n m y0 y1 y2 y3)  x0 x1 x2 x3
def keccak_state_row.l5_0.m (n m : Nat) (t : (Int × (Int × ((List Int) × (List Int))))) : Option (Int × (List Int)) := keccak_state_row.l5_0.g (fun a0 a1 => (a0, a1)) n m t.1 t.2.1 t.2.2.1 t.2.2.2
def keccak_state_row.l5_0.pat : St → Option (Int × (Int × ((List Int) × (List Int))))
 | (St.mk [(.int .i64 x0), (.ptr 0 []), (.int .i64 x1), (.ptr 1 [])] [(some (.var (.ints .u64 25 x2))), (some (.var (.ints .u64 5 x3)))]) => some (x0, x1, x2, x3)
 | _ => none
def keccak_state_row.l5_0.shape (t : (Int × (Int × ((List Int) × (List Int))))) : St := (St.mk [(.int .i64 t.1), (.ptr 0 []), (.int .i64 t.2.1), (.ptr 1 [])] [(some (.var (.ints .u64 25 t.2.2.1))), (some (.var (.ints .u64 5 t.2.2.2)))])
def keccak_state_row.l5_0.res : (Int × (List Int)) → Ex × St
 | u => (Prod.mk (.exit 2) (St.mk [(.int .i64 u.1), (.ptr 0 [])] [(some (.var (.ints .u64 25 u.2)))]))
def keccak_state_row.l5_0.resK {R : Type} (u : (Int × (List Int))) (K : Ex → St → Option R) : Option R := (fun p : Ex × St => K p.1 p.2) (Prod.mk (.exit 2) (St.mk [(.int .i64 u.1), (.ptr 0 [])] [(some (.var (.ints .u64 25 u.2)))]))
def keccak_state_row.l1_0.r {α : Type} (mk0 : (List Int) → α) (n : Nat) (rc : Int → (List Int) → Option α)  (x0 : Int) (x1 : (List Int)) : Option α :=
  if (decide (x0 < 25)) = true then
   if 0 ≤ (IntKind.wrap .i64 (x0 + 5)) then
    if (IntKind.wrap .i64 (x0 + 5)) ≤ 25 then
     if 0 ≤ x0 then
      if x0 ≤ (IntKind.wrap .i64 (x0 + 5)) then
       if 5 ≤ (Go.Abs.span 25 (Int.toNat x0) (Option.some (Int.toNat (IntKind.wrap .i64 (x0 + 5))))) then
        bindO (keccak_state_row.l5_0.m n n (0, x0, x1, (List.take 5 (List.drop (Int.toNat x0) x1)))) fun r16 =>
         rc (IntKind.wrap .i64 ((Prod.fst r16) + 5)) (Prod.snd r16)
       else
        none
      else
       none
     else
      none
    else
     none
   else
    none
  else
   some (mk0 x1)
def keccak_state_row.l1_0.g {α : Type} (mk0 : (List Int) → α) (n : Nat) : Nat → Int → (List Int) → Option α
 | 0, _, _ => none
 | m + 1, x0, x1 => keccak_state_row.l1_0.r mk0 n (fun y0 y1 => keccak_state_row.l1_0.g mk0 n m y0 y1)  x0 x1
def keccak_state_row.l1_0.m (n m : Nat) (t : (Int × (List Int))) : Option (List Int) := keccak_state_row.l1_0.g (fun a0 => a0) n m t.1 t.2
def keccak_state_row.l1_0.pat : St → Option (Int × (List Int))
 | (St.mk [(.int .i64 x0), (.ptr 0 [])] [(some (.var (.ints .u64 25 x1)))]) => some (x0, x1)
 | _ => none
def keccak_state_row.l1_0.shape (t : (Int × (List Int))) : St := (St.mk [(.int .i64 t.1), (.ptr 0 [])] [(some (.var (.ints .u64 25 t.2)))])
def keccak_state_row.l1_0.res : (List Int) → Ex × St
 | u => (Prod.mk (.exit 0) (St.mk [] [(some (.var (.ints .u64 25 u)))]))
def keccak_state_row.l1_0.resK {R : Type} (u : (List Int)) (K : Ex → St → Option R) : Option R := (fun p : Ex × St => K p.1 p.2) (Prod.mk (.exit 0) (St.mk [] [(some (.var (.ints .u64 25 u)))]))
noncomputable def keccak_state_row.A (n : Nat) : Ann := ⟨Tryd.f126.ntmps, 1, keccak_state_row.live, [], [], fun k => match k with
 | 5 => some (.mk' keccak_state_row.l5_0.pat (keccak_state_row.l5_0.m n n) keccak_state_row.l5_0.resK)
 | 1 => some (.mk' keccak_state_row.l1_0.pat (keccak_state_row.l1_0.m n n) keccak_state_row.l1_0.resK)
 | _ => none, keccak_state_row.jlive, lookJ []⟩
noncomputable def keccak_state_row.b0 : Code := (loopsIn (Tryd.f126.body.getD .skip)).getD 0 .skip
noncomputable def keccak_state_row.b1 : Code := (loopsIn (Tryd.f126.body.getD .skip)).getD 1 .skip
def keccak_state_row.g {α : Type} (mk0 : (List Int) → α) (n : Nat) (s : (List Int)) : Option α :=
 bindO (keccak_state_row.l1_0.m n n (0, s)) fun r2 =>
  some (mk0 r2)
def keccak_state_row.m (n : Nat) (t : (List Int)) : Option (List Int) := keccak_state_row.g (fun a0 => a0) n t
def keccak_state_row.pat : List AV → Blks → Option (List Int)
 | [(.ptr 0 [])], [(some (.var (.ints .u64 25 s)))] => some s
 | _, _ => none
def keccak_state_row.shape (t : (List Int)) : List AV × Blks := ([(.ptr 0 [])], [(some (.var (.ints .u64 25 t)))])
def keccak_state_row.res : (List Int) → AV × Blks
 | u => (Prod.mk (.tup []) [(some (.var (.ints .u64 25 u)))])
def keccak_state_row.resK {R : Type} (u : (List Int)) (K : AV → Blks → Option R) : Option R := (fun p : AV × Blks => K p.1 p.2) (Prod.mk (.tup []) [(some (.var (.ints .u64 25 u)))])
def keccak_state_row.c (n : Nat) : Abs.Callee := .mk' [true] [none] keccak_state_row.pat (keccak_state_row.m n) keccak_state_row.resK
end
end
section
noncomputable section
noncomputable def keccak_state_mix.C (n : Nat) : Ctx := ⟨Tryd.prog, abiG, fun f => match f with
 | 124 => some (keccak_state_spread.c n)
 | 125 => some (keccak_state_turn.c n)
 | 126 => some (keccak_state_row.c n)
 | _ => none, fun _ => false⟩
def keccak_state_mix.live : Nat → List Nat × List Nat := fun k => match k with
 | 1 => ([3, 0], [])
 | _ => ([], [])
def keccak_state_mix.jlive : Nat → List Nat × List Nat := fun k => match k with
 | _ => ([], [])
def keccak_state_mix.l1_0.r {α : Type} (mk0 : (List Int) → α) (n : Nat) (rc : Int → (List Int) → Option α)  (x0 : Int) (x1 : (List Int)) : Option α :=
  if (decide (x0 < 24)) = true then
   bindO (keccak_state_spread.m n x1) fun r6 =>
    bindO (keccak_state_turn.m n r6) fun r8 =>
     bindO (keccak_state_row.m n r8) fun r10 =>
      if 0 ≤ x0 then
       if x0 < 24 then
        rc (IntKind.wrap .i64 (x0 + 1)) (List.set r10 0 (ibits BinOp.xor .u64 (List.getD r10 0 0) (List.getD ([1, 32898, 9223372036854808714, 9223372039002292224, 32907, 2147483649, 9223372039002292353, 9223372036854808585, 138, 136, 2147516425, 2147483658, 2147516555, 9223372036854775947, 9223372036854808713, 9223372036854808579, 9223372036854808578, 9223372036854775936, 32778, 9223372039002259466, 9223372039002292353, 9223372036854808704, 2147483649, 9223372039002292232] : List Int) (Int.toNat x0) 0)))
       else
        none
      else
       none
  else
   some (mk0 x1)
def keccak_state_mix.l1_0.g {α : Type} (mk0 : (List Int) → α) (n : Nat) : Nat → Int → (List Int) → Option α
 | 0, _, _ => none
 | m + 1, x0, x1 => keccak_state_mix.l1_0.r mk0 n (fun y0 y1 => keccak_state_mix.l1_0.g mk0 n m y0 y1)  x0 x1
def keccak_state_mix.l1_0.m (n m : Nat) (t : (Int × (List Int))) : Option (List Int) := keccak_state_mix.l1_0.g (fun a0 => a0) n m t.1 t.2
def keccak_state_mix.l1_0.pat : St → Option (Int × (List Int))
 | (St.mk [(.int .i64 x0), (.ptr 0 [])] [(some (.var (.ints .u64 25 x1)))]) => some (x0, x1)
 | _ => none
def keccak_state_mix.l1_0.shape (t : (Int × (List Int))) : St := (St.mk [(.int .i64 t.1), (.ptr 0 [])] [(some (.var (.ints .u64 25 t.2)))])
def keccak_state_mix.l1_0.res : (List Int) → Ex × St
 | u => (Prod.mk (.exit 0) (St.mk [] [(some (.var (.ints .u64 25 u)))]))
def keccak_state_mix.l1_0.resK {R : Type} (u : (List Int)) (K : Ex → St → Option R) : Option R := (fun p : Ex × St => K p.1 p.2) (Prod.mk (.exit 0) (St.mk [] [(some (.var (.ints .u64 25 u)))]))
noncomputable def keccak_state_mix.A (n : Nat) : Ann := ⟨Tryd.f111.ntmps, 1, keccak_state_mix.live, [], [], fun k => match k with
 | 1 => some (.mk' keccak_state_mix.l1_0.pat (keccak_state_mix.l1_0.m n n) keccak_state_mix.l1_0.resK)
 | _ => none, keccak_state_mix.jlive, lookJ []⟩
noncomputable def keccak_state_mix.b0 : Code := (loopsIn (Tryd.f111.body.getD .skip)).getD 0 .skip
def keccak_state_mix.g {α : Type} (mk0 : (List Int) → α) (n : Nat) (s : (List Int)) : Option α :=
 bindO (keccak_state_mix.l1_0.m n n (0, s)) fun r2 =>
  some (mk0 r2)
def keccak_state_mix.m (n : Nat) (t : (List Int)) : Option (List Int) := keccak_state_mix.g (fun a0 => a0) n t
def keccak_state_mix.pat : List AV → Blks → Option (List Int)
 | [(.ptr 0 [])], [(some (.var (.ints .u64 25 s)))] => some s
 | _, _ => none
def keccak_state_mix.shape (t : (List Int)) : List AV × Blks := ([(.ptr 0 [])], [(some (.var (.ints .u64 25 t)))])
def keccak_state_mix.res : (List Int) → AV × Blks
 | u => (Prod.mk (.tup []) [(some (.var (.ints .u64 25 u)))])
def keccak_state_mix.resK {R : Type} (u : (List Int)) (K : AV → Blks → Option R) : Option R := (fun p : AV × Blks => K p.1 p.2) (Prod.mk (.tup []) [(some (.var (.ints .u64 25 u)))])
def keccak_state_mix.c (n : Nat) : Abs.Callee := .mk' [true] [none] keccak_state_mix.pat (keccak_state_mix.m n) keccak_state_mix.resK
end
end
section
noncomputable section
noncomputable def keccak_state_take.C (n : Nat) : Ctx := ⟨Tryd.prog, abiG, fun f => match f with
 | 111 => some (keccak_state_mix.c n)
 | _ => none, fun _ => false⟩
def keccak_state_take.live : Nat → List Nat × List Nat := fun k => match k with
 | 1 => ([8, 7, 6, 0], [0])
 | _ => ([], [])
def keccak_state_take.jlive : Nat → List Nat × List Nat := fun k => match k with
 | _ => ([], [])
def keccak_state_take.l1_0.r {α : Type} (mk0 : (List Int) → α) (n : Nat) (rc : Int → Int → (List Int) → (List Int) → Option α)  (x0 : Int) (x1 : Int) (x2 : (List Int)) (x3 : (List Int)) : Option α :=
  if (decide (x0 < x1)) = true then
   if 0 ≤ x0 then
    if x0 < (((List.length x2) : Nat) : Int) then
     if 0 ≤ (IntKind.wrap .i64 (Int.tdiv x0 8)) then
      if (IntKind.wrap .i64 (Int.tdiv x0 8)) < 25 then
       if 0 ≤ (IntKind.wrap .i64 ((Int.tmod x0 8) * 8)) then
        if 0 ≤ (IntKind.wrap .i64 (Int.tdiv x0 8)) then
         if (IntKind.wrap .i64 (Int.tdiv x0 8)) < 25 then
          rc (IntKind.wrap .i64 (x0 + 1)) x1 x2 (List.set x3 (Int.toNat (IntKind.wrap .i64 (Int.tdiv x0 8))) (ibits BinOp.xor .u64 (List.getD x3 (Int.toNat (IntKind.wrap .i64 (Int.tdiv x0 8))) 0) (ishl .u64 (IntKind.wrap .u64 (List.getD x2 (Int.toNat x0) 0)) (IntKind.wrap .i64 ((Int.tmod x0 8) * 8)))))
         else
          none
        else
         none
       else
        none
      else
       none
     else
      none
    else
     none
   else
    none
  else
   some (mk0 x3)
def keccak_state_take.l1_0.g {α : Type} (mk0 : (List Int) → α) (n : Nat) : Nat → Int → Int → (List Int) → (List Int) → Option α
 | 0, _, _, _, _ => none
 | m + 1, x0, x1, x2, x3 => keccak_state_take.l1_0.r mk0 n (fun y0 y1 y2 y3 => keccak_state_take.l1_0.g mk0 n m y0 y1 y2 y3)  x0 x1 x2 x3
def keccak_state_take.l1_0.m (n m : Nat) (t : (Int × (Int × ((List Int) × (List Int))))) : Option (List Int) := keccak_state_take.l1_0.g (fun a0 => a0) n m t.1 t.2.1 t.2.2.1 t.2.2.2
def keccak_state_take.l1_0.pat : St → Option (Int × (Int × ((List Int) × (List Int))))
 | (St.mk [(.int .i64 x0), (.int .i64 x1), (.rints .u8 x2), (.ptr 0 [])] [(some (.var (.ints .u64 25 x3)))]) => some (x0, x1, x2, x3)
 | _ => none
def keccak_state_take.l1_0.shape (t : (Int × (Int × ((List Int) × (List Int))))) : St := (St.mk [(.int .i64 t.1), (.int .i64 t.2.1), (.rints .u8 t.2.2.1), (.ptr 0 [])] [(some (.var (.ints .u64 25 t.2.2.2)))])
def keccak_state_take.l1_0.res : (List Int) → Ex × St
 | u => (Prod.mk (.exit 0) (St.mk [(.ptr 0 [])] [(some (.var (.ints .u64 25 u)))]))
def keccak_state_take.l1_0.resK {R : Type} (u : (List Int)) (K : Ex → St → Option R) : Option R := (fun p : Ex × St => K p.1 p.2) (Prod.mk (.exit 0) (St.mk [(.ptr 0 [])] [(some (.var (.ints .u64 25 u)))]))
noncomputable def keccak_state_take.A (n : Nat) : Ann := ⟨Tryd.f93.ntmps, 1, keccak_state_take.live, [(6, (.ints .u8))], [], fun k => match k with
 | 1 => some (.mk' keccak_state_take.l1_0.pat (keccak_state_take.l1_0.m n n) keccak_state_take.l1_0.resK)
 | _ => none, keccak_state_take.jlive, lookJ []⟩
noncomputable def keccak_state_take.b0 : Code := (loopsIn (Tryd.f93.body.getD .skip)).getD 0 .skip
def keccak_state_take.g {α : Type} (mk0 : (List Int) → α) (n : Nat) (b : (List Int)) (s : (List Int)) : Option α :=
 bindO (keccak_state_take.l1_0.m n n (0, (((List.length b) : Nat) : Int), b, s)) fun r2 =>
  bindO (keccak_state_mix.m n r2) fun r4 =>
   some (mk0 r4)
def keccak_state_take.m (n : Nat) (t : ((List Int) × (List Int))) : Option (List Int) := keccak_state_take.g (fun a0 => a0) n t.1 t.2
def keccak_state_take.pat : List AV → Blks → Option ((List Int) × (List Int))
 | [(.ptr 0 []), (.rints .u8 b)], [(some (.var (.ints .u64 25 s)))] => some (b, s)
 | _, _ => none
def keccak_state_take.shape (t : ((List Int) × (List Int))) : List AV × Blks := ([(.ptr 0 []), (.rints .u8 t.1)], [(some (.var (.ints .u64 25 t.2)))])
def keccak_state_take.res : (List Int) → AV × Blks
 | u => (Prod.mk (.tup []) [(some (.var (.ints .u64 25 u)))])
def keccak_state_take.resK {R : Type} (u : (List Int)) (K : AV → Blks → Option R) : Option R := (fun p : AV × Blks => K p.1 p.2) (Prod.mk (.tup []) [(some (.var (.ints .u64 25 u)))])
def keccak_state_take.c (n : Nat) : Abs.Callee := .mk' [true, false] [none, (some (.ints .u8))] keccak_state_take.pat (keccak_state_take.m n) keccak_state_take.resK
end
end
section
noncomputable section
noncomputable def keccak_Sum.C (n : Nat) : Ctx := ⟨Tryd.prog, abiG, fun f => match f with
 | 93 => some (keccak_state_take.c n)
 | 89 => some (word_Read.c n)
 | _ => none, fun _ => false⟩
def keccak_Sum.live : Nat → List Nat × List Nat := fun k => match k with
 | 2 => ([0, 3, 2], [0, 3, 2])
 | 12 => ([30, 3, 5, 2], [5, 2])
 | _ => ([], [])
def keccak_Sum.jlive : Nat → List Nat × List Nat := fun k => match k with
 | _ => ([], [])
def keccak_Sum.l2_0.r {α : Type} (mk0 : (List Int) → (List Int) → (List Int) → α) (n : Nat) (rc : (List Int) → (List Int) → (List Int) → Option α)  (x0 : (List Int)) (x1 : (List Int)) (x2 : (List Int)) : Option α :=
  if (decide ((((List.length x0) : Nat) : Int) ≥ 136)) = true then
   if 136 ≤ (((List.length x0) : Nat) : Int) then
    bindO (keccak_state_take.m n (Prod.mk (Go.Abs.cut x0 0 (Option.some 136)) x1)) fun r8 =>
     if 136 ≤ (((List.length x0) : Nat) : Int) then
      rc (Go.Abs.cut x0 136 (Option.none)) r8 x2
     else
      none
   else
    none
  else
   some (mk0 x0 x1 x2)
def keccak_Sum.l2_0.g {α : Type} (mk0 : (List Int) → (List Int) → (List Int) → α) (n : Nat) : Nat → (List Int) → (List Int) → (List Int) → Option α
 | 0, _, _, _ => none
 | m + 1, x0, x1, x2 => keccak_Sum.l2_0.r mk0 n (fun y0 y1 y2 => keccak_Sum.l2_0.g mk0 n m y0 y1 y2)  x0 x1 x2
def keccak_Sum.l2_0.m (n m : Nat) (t : ((List Int) × ((List Int) × (List Int)))) : Option ((List Int) × ((List Int) × (List Int))) := keccak_Sum.l2_0.g (fun a0 a1 a2 => (a0, a1, a2)) n m t.1 t.2.1 t.2.2
def keccak_Sum.l2_0.pat : St → Option ((List Int) × ((List Int) × (List Int)))
 | (St.mk [(.rints .u8 x0), (.ptr 0 []), (.ptr 1 [])] [(some (.var (.ints .u64 25 x1))), (some (.var (.ints .u64 4 x2)))]) => some (x0, x1, x2)
 | _ => none
def keccak_Sum.l2_0.shape (t : ((List Int) × ((List Int) × (List Int)))) : St := (St.mk [(.rints .u8 t.1), (.ptr 0 []), (.ptr 1 [])] [(some (.var (.ints .u64 25 t.2.1))), (some (.var (.ints .u64 4 t.2.2)))])
def keccak_Sum.l2_0.res : ((List Int) × ((List Int) × (List Int))) → Ex × St
 | u => (Prod.mk (.exit 0) (St.mk [(.rints .u8 u.1), (.ptr 0 []), (.ptr 1 [])] [(some (.var (.ints .u64 25 u.2.1))), (some (.var (.ints .u64 4 u.2.2)))]))
def keccak_Sum.l2_0.resK {R : Type} (u : ((List Int) × ((List Int) × (List Int)))) (K : Ex → St → Option R) : Option R := (fun p : Ex × St => K p.1 p.2) (Prod.mk (.exit 0) (St.mk [(.rints .u8 u.1), (.ptr 0 []), (.ptr 1 [])] [(some (.var (.ints .u64 25 u.2.1))), (some (.var (.ints .u64 4 u.2.2)))]))
def keccak_Sum.l12_0.r {α : Type} (mk0 : (List Int) → (List Int) → α) (n : Nat) (rc : Int → (List Int) → (List Int) → (List Int) → Option α)  (x0 : Int) (x1 : (List Int)) (x2 : (List Int)) (x3 : (List Int)) : Option α :=
  if (decide (x0 < 32)) = true then
   if 0 ≤ (IntKind.wrap .i64 (Int.tdiv x0 8)) then
    if (IntKind.wrap .i64 (Int.tdiv x0 8)) < 25 then
     if 0 ≤ (IntKind.wrap .i64 ((Int.tmod x0 8) * 8)) then
      if 0 ≤ x0 then
       if x0 < 32 then
        rc (IntKind.wrap .i64 (x0 + 1)) x1 (List.set x2 (Int.toNat x0) (IntKind.wrap .u8 (ishr .u64 (List.getD x1 (Int.toNat (IntKind.wrap .i64 (Int.tdiv x0 8))) 0) (IntKind.wrap .i64 ((Int.tmod x0 8) * 8))))) x3
       else
        none
      else
       none
     else
      none
    else
     none
   else
    none
  else
   some (mk0 x2 x3)
def keccak_Sum.l12_0.g {α : Type} (mk0 : (List Int) → (List Int) → α) (n : Nat) : Nat → Int → (List Int) → (List Int) → (List Int) → Option α
 | 0, _, _, _, _ => none
 | m + 1, x0, x1, x2, x3 => keccak_Sum.l12_0.r mk0 n (fun y0 y1 y2 y3 => keccak_Sum.l12_0.g mk0 n m y0 y1 y2 y3)  x0 x1 x2 x3
def keccak_Sum.l12_0.m (n m : Nat) (t : (Int × ((List Int) × ((List Int) × (List Int))))) : Option ((List Int) × (List Int)) := keccak_Sum.l12_0.g (fun a0 a1 => (a0, a1)) n m t.1 t.2.1 t.2.2.1 t.2.2.2
def keccak_Sum.l12_0.pat : St → Option (Int × ((List Int) × ((List Int) × (List Int))))
 | (St.mk [(.int .i64 x0), (.ptr 0 []), (.ptr 1 []), (.ptr 2 [])] [(some (.var (.ints .u64 25 x1))), (some (.var (.ints .u8 32 x2))), (some (.var (.ints .u64 4 x3)))]) => some (x0, x1, x2, x3)
 | _ => none
def keccak_Sum.l12_0.shape (t : (Int × ((List Int) × ((List Int) × (List Int))))) : St := (St.mk [(.int .i64 t.1), (.ptr 0 []), (.ptr 1 []), (.ptr 2 [])] [(some (.var (.ints .u64 25 t.2.1))), (some (.var (.ints .u8 32 t.2.2.1))), (some (.var (.ints .u64 4 t.2.2.2)))])
def keccak_Sum.l12_0.res : ((List Int) × (List Int)) → Ex × St
 | u => (Prod.mk (.exit 2) (St.mk [(.ptr 0 []), (.ptr 1 [])] [(some (.var (.ints .u8 32 u.1))), (some (.var (.ints .u64 4 u.2)))]))
def keccak_Sum.l12_0.resK {R : Type} (u : ((List Int) × (List Int))) (K : Ex → St → Option R) : Option R := (fun p : Ex × St => K p.1 p.2) (Prod.mk (.exit 2) (St.mk [(.ptr 0 []), (.ptr 1 [])] [(some (.var (.ints .u8 32 u.1))), (some (.var (.ints .u64 4 u.2)))]))
noncomputable def keccak_Sum.A (n : Nat) : Ann := ⟨Tryd.f57.ntmps, 0, keccak_Sum.live, [(0, (.ints .u8))], [none], fun k => match k with
 | 2 => some (.mk' keccak_Sum.l2_0.pat (keccak_Sum.l2_0.m n n) keccak_Sum.l2_0.resK)
 | 12 => some (.mk' keccak_Sum.l12_0.pat (keccak_Sum.l12_0.m n n) keccak_Sum.l12_0.resK)
 | _ => none, keccak_Sum.jlive, lookJ []⟩
noncomputable def keccak_Sum.b0 : Code := (loopsIn (Tryd.f57.body.getD .skip)).getD 0 .skip
noncomputable def keccak_Sum.b1 : Code := (loopsIn (Tryd.f57.body.getD .skip)).getD 1 .skip
def keccak_Sum.g {α : Type} (mk0 : (List Int) → α) (n : Nat) (a0 : (List Int)) : Option α :=
 bindO (keccak_Sum.l2_0.m n n (a0, ([0, 0, 0, 0, 0, 0, 0, 0, 0, 0, 0, 0, 0, 0, 0, 0, 0, 0, 0, 0, 0, 0, 0, 0, 0] : List Int), [0, 0, 0, 0])) fun r2 =>
  if (((List.length (Prod.fst r2)) : Nat) : Int) < 136 then
   if (((List.length (Prod.fst r2)) : Nat) : Int) < 136 then
    bindO (keccak_state_take.m n (Prod.mk (List.take 136 (List.drop 0 (List.set (List.set ([] ++ ((List.take 136 (Prod.fst r2)) ++ (List.drop (0 + (Min.min (List.length (Prod.fst r2)) 136)) ([0, 0, 0, 0, 0, 0, 0, 0, 0, 0, 0, 0, 0, 0, 0, 0, 0, 0, 0, 0, 0, 0, 0, 0, 0, 0, 0, 0, 0, 0, 0, 0, 0, 0, 0, 0, 0, 0, 0, 0, 0, 0, 0, 0, 0, 0, 0, 0, 0, 0, 0, 0, 0, 0, 0, 0, 0, 0, 0, 0, 0, 0, 0, 0, 0, 0, 0, 0, 0, 0, 0, 0, 0, 0, 0, 0, 0, 0, 0, 0, 0, 0, 0, 0, 0, 0, 0, 0, 0, 0, 0, 0, 0, 0, 0, 0, 0, 0, 0, 0, 0, 0, 0, 0, 0, 0, 0, 0, 0, 0, 0, 0, 0, 0, 0, 0, 0, 0, 0, 0, 0, 0, 0, 0, 0, 0, 0, 0, 0, 0, 0, 0, 0, 0, 0, 0] : List Int)))) (Int.toNat (((List.length (Prod.fst r2)) : Nat) : Int)) (ibits BinOp.xor .u8 (List.getD ([] ++ ((List.take 136 (Prod.fst r2)) ++ (List.drop (0 + (Min.min (List.length (Prod.fst r2)) 136)) ([0, 0, 0, 0, 0, 0, 0, 0, 0, 0, 0, 0, 0, 0, 0, 0, 0, 0, 0, 0, 0, 0, 0, 0, 0, 0, 0, 0, 0, 0, 0, 0, 0, 0, 0, 0, 0, 0, 0, 0, 0, 0, 0, 0, 0, 0, 0, 0, 0, 0, 0, 0, 0, 0, 0, 0, 0, 0, 0, 0, 0, 0, 0, 0, 0, 0, 0, 0, 0, 0, 0, 0, 0, 0, 0, 0, 0, 0, 0, 0, 0, 0, 0, 0, 0, 0, 0, 0, 0, 0, 0, 0, 0, 0, 0, 0, 0, 0, 0, 0, 0, 0, 0, 0, 0, 0, 0, 0, 0, 0, 0, 0, 0, 0, 0, 0, 0, 0, 0, 0, 0, 0, 0, 0, 0, 0, 0, 0, 0, 0, 0, 0, 0, 0, 0, 0] : List Int)))) (Int.toNat (((List.length (Prod.fst r2)) : Nat) : Int)) 0) 1)) 135 (ibits BinOp.xor .u8 (List.getD (List.set ([] ++ ((List.take 136 (Prod.fst r2)) ++ (List.drop (0 + (Min.min (List.length (Prod.fst r2)) 136)) ([0, 0, 0, 0, 0, 0, 0, 0, 0, 0, 0, 0, 0, 0, 0, 0, 0, 0, 0, 0, 0, 0, 0, 0, 0, 0, 0, 0, 0, 0, 0, 0, 0, 0, 0, 0, 0, 0, 0, 0, 0, 0, 0, 0, 0, 0, 0, 0, 0, 0, 0, 0, 0, 0, 0, 0, 0, 0, 0, 0, 0, 0, 0, 0, 0, 0, 0, 0, 0, 0, 0, 0, 0, 0, 0, 0, 0, 0, 0, 0, 0, 0, 0, 0, 0, 0, 0, 0, 0, 0, 0, 0, 0, 0, 0, 0, 0, 0, 0, 0, 0, 0, 0, 0, 0, 0, 0, 0, 0, 0, 0, 0, 0, 0, 0, 0, 0, 0, 0, 0, 0, 0, 0, 0, 0, 0, 0, 0, 0, 0, 0, 0, 0, 0, 0, 0] : List Int)))) (Int.toNat (((List.length (Prod.fst r2)) : Nat) : Int)) (ibits BinOp.xor .u8 (List.getD ([] ++ ((List.take 136 (Prod.fst r2)) ++ (List.drop (0 + (Min.min (List.length (Prod.fst r2)) 136)) ([0, 0, 0, 0, 0, 0, 0, 0, 0, 0, 0, 0, 0, 0, 0, 0, 0, 0, 0, 0, 0, 0, 0, 0, 0, 0, 0, 0, 0, 0, 0, 0, 0, 0, 0, 0, 0, 0, 0, 0, 0, 0, 0, 0, 0, 0, 0, 0, 0, 0, 0, 0, 0, 0, 0, 0, 0, 0, 0, 0, 0, 0, 0, 0, 0, 0, 0, 0, 0, 0, 0, 0, 0, 0, 0, 0, 0, 0, 0, 0, 0, 0, 0, 0, 0, 0, 0, 0, 0, 0, 0, 0, 0, 0, 0, 0, 0, 0, 0, 0, 0, 0, 0, 0, 0, 0, 0, 0, 0, 0, 0, 0, 0, 0, 0, 0, 0, 0, 0, 0, 0, 0, 0, 0, 0, 0, 0, 0, 0, 0, 0, 0, 0, 0, 0, 0] : List Int)))) (Int.toNat (((List.length (Prod.fst r2)) : Nat) : Int)) 0) 1)) 135 0) 128)))) (Prod.fst r2.2))) fun r8 =>
     bindO (keccak_Sum.l12_0.m n n (0, r8, ([0, 0, 0, 0, 0, 0, 0, 0, 0, 0, 0, 0, 0, 0, 0, 0, 0, 0, 0, 0, 0, 0, 0, 0, 0, 0, 0, 0, 0, 0, 0, 0] : List Int), (Prod.snd r2.2))) fun r10 =>
      bindO (word_Read.m n (List.take 32 (List.drop 0 (Prod.fst r10)))) fun r12 =>
       some (mk0 r12)
   else
    none
  else
   none
def keccak_Sum.m (n : Nat) (t : (List Int)) : Option (List Int) := keccak_Sum.g (fun a0 => a0) n t
def keccak_Sum.pat : List AV → Blks → Option (List Int)
 | [(.rints .u8 a0)], [] => some a0
 | _, _ => none
def keccak_Sum.shape (t : (List Int)) : List AV × Blks := ([(.rints .u8 t)], [])
def keccak_Sum.res : (List Int) → AV × Blks
 | u => (Prod.mk (.ints .u64 4 u) [])
def keccak_Sum.resK {R : Type} (u : (List Int)) (K : AV → Blks → Option R) : Option R := (fun p : AV × Blks => K p.1 p.2) (Prod.mk (.ints .u64 4 u) [])
def keccak_Sum.c (n : Nat) : Abs.Callee := .mk' [] [(some (.ints .u8))] keccak_Sum.pat (keccak_Sum.m n) keccak_Sum.resK
end
end
section
noncomputable section
noncomputable def abi_Selector.C (n : Nat) : Ctx := ⟨Tryd.prog, abiG, fun f => match f with
 | 57 => some (keccak_Sum.c n)
 | 56 => some (word_Bytes.c n)
 | _ => none, fun _ => false⟩
def abi_Selector.live : Nat → List Nat × List Nat := fun k => match k with
 | _ => ([], [])
def abi_Selector.jlive : Nat → List Nat × List Nat := fun k => match k with
 | _ => ([], [])
noncomputable def abi_Selector.A (n : Nat) : Ann := ⟨Tryd.f22.ntmps, 0, abi_Selector.live, [], [(some (.ints .u8))], fun k => match k with
 | _ => none, abi_Selector.jlive, lookJ []⟩
def abi_Selector.g {α : Type} (mk0 : (List Int) → α) (n : Nat) (a0 : ByteArray) : Option α :=
 bindO (keccak_Sum.m n (Go.Abs.bytesOf a0)) fun r2 =>
  bindO (word_Bytes.m n r2) fun r4 =>
   if 4 ≤ (((List.length r4) : Nat) : Int) then
    some (mk0 (List.take (Go.Abs.span (List.length r4) 0 (Option.some 4)) r4))
   else
    none
def abi_Selector.m (n : Nat) (t : ByteArray) : Option (List Int) := abi_Selector.g (fun a0 => a0) n t
def abi_Selector.pat : List AV → Blks → Option ByteArray
 | [(.str a0)], [] => some a0
 | _, _ => none
def abi_Selector.shape (t : ByteArray) : List AV × Blks := ([(.str t)], [])
def abi_Selector.res : (List Int) → AV × Blks
 | u => (Prod.mk (.own 0 1) [(some (.ints .u8 u))])
def abi_Selector.resK {R : Type} (u : (List Int)) (K : AV → Blks → Option R) : Option R := (fun p : AV × Blks => K p.1 p.2) (Prod.mk (.own 0 1) [(some (.ints .u8 u))])
def abi_Selector.c (n : Nat) : Abs.Callee := .mk' [] [none] abi_Selector.pat (abi_Selector.m n) abi_Selector.resK
end
end
section
noncomputable section
noncomputable def zslicesGrowbytebyte.C (n : Nat) : Ctx := ⟨Tryd.prog, abiG, fun f => match f with
 | _ => none, fun _ => false⟩
def zslicesGrowbytebyte.live : Nat → List Nat × List Nat := fun k => match k with
 | _ => ([], [])
def zslicesGrowbytebyte.jlive : Nat → List Nat × List Nat := fun k => match k with
 | _ => ([], [])
noncomputable def zslicesGrowbytebyte.A (n : Nat) : Ann := ⟨Tryd.f117.ntmps, 0, zslicesGrowbytebyte.live, [], [(some (.ints .u8))], fun k => match k with
 | _ => none, zslicesGrowbytebyte.jlive, lookJ []⟩
def zslicesGrowbytebyte.g {α : Type} (mk0 : (List Int) → α) (n : Nat) (sz : Int) : Option α :=
 if (decide (sz < 0)) = true then
  none
 else
  if (decide ((IntKind.wrap .i64 (sz - 0)) > 0)) = true then
   if 0 ≤ (IntKind.wrap .i64 (sz - 0)) then
    if (((List.length (List.replicate (Int.toNat (IntKind.wrap .i64 (sz - 0))) (0 : Int))) * 1) ≤ 70368744177664 ∧ (List.length (List.replicate (Int.toNat (IntKind.wrap .i64 (sz - 0))) (0 : Int))) ≤ 9223372036854775807) then
     some (mk0 [])
    else
     none
   else
    none
  else
   some (mk0 [])
def zslicesGrowbytebyte.m (n : Nat) (t : Int) : Option (List Int) := zslicesGrowbytebyte.g (fun a0 => a0) n t
def zslicesGrowbytebyte.pat : List AV → Blks → Option Int
 | [.snil, (.int .i64 sz)], [] => some sz
 | _, _ => none
def zslicesGrowbytebyte.shape (t : Int) : List AV × Blks := ([.snil, (.int .i64 t)], [])
def zslicesGrowbytebyte.res : (List Int) → AV × Blks
 | u => (Prod.mk (.own 0 1) [(some (.ints .u8 u))])
def zslicesGrowbytebyte.resK {R : Type} (u : (List Int)) (K : AV → Blks → Option R) : Option R := (fun p : AV × Blks => K p.1 p.2) (Prod.mk (.own 0 1) [(some (.ints .u8 u))])
def zslicesGrowbytebyte.c (n : Nat) : Abs.Callee := .mk' [] [none, none] zslicesGrowbytebyte.pat (zslicesGrowbytebyte.m n) zslicesGrowbytebyte.resK
end
end
section
noncomputable section
noncomputable def zslicesConcatbytebyte.C (n : Nat) : Ctx := ⟨Tryd.prog, abiG, fun f => match f with
 | 117 => some (zslicesGrowbytebyte.c n)
 | _ => none, fun _ => false⟩
def zslicesConcatbytebyte.live : Nat → List Nat × List Nat := fun k => match k with
 | 3 => ([11, 10, 9, 3, 0], [3, 0])
 | 11 => ([27, 26, 25, 6], [6])
 | _ => ([], [])
def zslicesConcatbytebyte.jlive : Nat → List Nat × List Nat := fun k => match k with
 | _ => ([], [])
def zslicesConcatbytebyte.l3_0.r {α : Type} (mk0 : Int → (List AV) → α) (n : Nat) (rc : Int → Int → (List AV) → Int → (List AV) → Option α)  (x0 : Int) (x1 : Int) (x2 : (List AV)) (x3 : Int) (x4 : (List AV)) : Option α :=
  if (decide (x0 < x1)) = true then
   if 0 ≤ x0 then
    if x0 < (((List.length x2) : Nat) : Int) then
     bindO (tkRints .u8 (List.getD x2 (Int.toNat x0) AV.any)) fun r10 =>
      if (decide ((IntKind.wrap .i64 (x3 + (((List.length r10) : Nat) : Int))) < 0)) = true then
       none
      else
       rc (IntKind.wrap .i64 (x0 + 1)) x1 x2 (IntKind.wrap .i64 (x3 + (((List.length r10) : Nat) : Int))) x4
    else
     none
   else
    none
  else
   some (mk0 x3 x4)
def zslicesConcatbytebyte.l3_0.g {α : Type} (mk0 : Int → (List AV) → α) (n : Nat) : Nat → Int → Int → (List AV) → Int → (List AV) → Option α
 | 0, _, _, _, _, _ => none
 | m + 1, x0, x1, x2, x3, x4 => zslicesConcatbytebyte.l3_0.r mk0 n (fun y0 y1 y2 y3 y4 => zslicesConcatbytebyte.l3_0.g mk0 n m y0 y1 y2 y3 y4)  x0 x1 x2 x3 x4
def zslicesConcatbytebyte.l3_0.m (n m : Nat) (t : (Int × (Int × ((List AV) × (Int × (List AV)))))) : Option (Int × (List AV)) := zslicesConcatbytebyte.l3_0.g (fun a0 a1 => (a0, a1)) n m t.1 t.2.1 t.2.2.1 t.2.2.2.1 t.2.2.2.2
def zslicesConcatbytebyte.l3_0.pat : St → Option (Int × (Int × ((List AV) × (Int × (List AV)))))
 | (St.mk [(.int .i64 x0), (.int .i64 x1), (.robjs 26 1 x2), (.int .i64 x3), (.robjs 26 1 x4)] []) => some (x0, x1, x2, x3, x4)
 | _ => none
def zslicesConcatbytebyte.l3_0.shape (t : (Int × (Int × ((List AV) × (Int × (List AV)))))) : St := (St.mk [(.int .i64 t.1), (.int .i64 t.2.1), (.robjs 26 1 t.2.2.1), (.int .i64 t.2.2.2.1), (.robjs 26 1 t.2.2.2.2)] [])
def zslicesConcatbytebyte.l3_0.res : (Int × (List AV)) → Ex × St
 | u => (Prod.mk (.exit 0) (St.mk [(.int .i64 u.1), (.robjs 26 1 u.2)] []))
def zslicesConcatbytebyte.l3_0.resK {R : Type} (u : (Int × (List AV))) (K : Ex → St → Option R) : Option R := (fun p : Ex × St => K p.1 p.2) (Prod.mk (.exit 0) (St.mk [(.int .i64 u.1), (.robjs 26 1 u.2)] []))
def zslicesConcatbytebyte.l11_0.r {α : Type} (mk0 : (List Int) → α) (n : Nat) (rc : Int → Int → (List AV) → (List Int) → Option α)  (x0 : Int) (x1 : Int) (x2 : (List AV)) (x3 : (List Int)) : Option α :=
  if (decide (x0 < x1)) = true then
   if 0 ≤ x0 then
    if x0 < (((List.length x2) : Nat) : Int) then
     bindO (tkRints .u8 (List.getD x2 (Int.toNat x0) AV.any)) fun r10 =>
      if ((((List.length x3) + (List.length r10)) * 1) ≤ 70368744177664 ∧ ((List.length x3) + (List.length r10)) ≤ 9223372036854775807) then
       rc (IntKind.wrap .i64 (x0 + 1)) x1 x2 (x3 ++ r10)
      else
       none
    else
     none
   else
    none
  else
   some (mk0 x3)
def zslicesConcatbytebyte.l11_0.g {α : Type} (mk0 : (List Int) → α) (n : Nat) : Nat → Int → Int → (List AV) → (List Int) → Option α
 | 0, _, _, _, _ => none
 | m + 1, x0, x1, x2, x3 => zslicesConcatbytebyte.l11_0.r mk0 n (fun y0 y1 y2 y3 => zslicesConcatbytebyte.l11_0.g mk0 n m y0 y1 y2 y3)  x0 x1 x2 x3
def zslicesConcatbytebyte.l11_0.m (n m : Nat) (t : (Int × (Int × ((List AV) × (List Int))))) : Option (List Int) := zslicesConcatbytebyte.l11_0.g (fun a0 => a0) n m t.1 t.2.1 t.2.2.1 t.2.2.2
def zslicesConcatbytebyte.l11_0.pat : St → Option (Int × (Int × ((List AV) × (List Int))))
 | (St.mk [(.int .i64 x0), (.int .i64 x1), (.robjs 26 1 x2), (.own 0 1)] [(some (.ints .u8 x3))]) => some (x0, x1, x2, x3)
 | _ => none
def zslicesConcatbytebyte.l11_0.shape (t : (Int × (Int × ((List AV) × (List Int))))) : St := (St.mk [(.int .i64 t.1), (.int .i64 t.2.1), (.robjs 26 1 t.2.2.1), (.own 0 1)] [(some (.ints .u8 t.2.2.2))])
def zslicesConcatbytebyte.l11_0.res : (List Int) → Ex × St
 | u => (Prod.mk (.exit 2) (St.mk [(.own 0 1)] [(some (.ints .u8 u))]))
def zslicesConcatbytebyte.l11_0.resK {R : Type} (u : (List Int)) (K : Ex → St → Option R) : Option R := (fun p : Ex × St => K p.1 p.2) (Prod.mk (.exit 2) (St.mk [(.own 0 1)] [(some (.ints .u8 u))]))
noncomputable def zslicesConcatbytebyte.A (n : Nat) : Ann := ⟨Tryd.f99.ntmps, 0, zslicesConcatbytebyte.live, [(0, (.objs 26 1)), (9, (.objs 26 1)), (25, (.objs 26 1)), (6, (.ints .u8))], [(some (.ints .u8))], fun k => match k with
 | 3 => some (.mk' zslicesConcatbytebyte.l3_0.pat (zslicesConcatbytebyte.l3_0.m n n) zslicesConcatbytebyte.l3_0.resK)
 | 11 => some (.mk' zslicesConcatbytebyte.l11_0.pat (zslicesConcatbytebyte.l11_0.m n n) zslicesConcatbytebyte.l11_0.resK)
 | _ => none, zslicesConcatbytebyte.jlive, lookJ []⟩
noncomputable def zslicesConcatbytebyte.b0 : Code := (loopsIn (Tryd.f99.body.getD .skip)).getD 0 .skip
noncomputable def zslicesConcatbytebyte.b1 : Code := (loopsIn (Tryd.f99.body.getD .skip)).getD 1 .skip
def zslicesConcatbytebyte.g {α : Type} (mk0 : (List Int) → α) (n : Nat) (a0 : (List AV)) : Option α :=
 bindO (zslicesConcatbytebyte.l3_0.m n n (0, (((List.length a0) : Nat) : Int), a0, 0, a0)) fun r2 =>
  bindO (zslicesGrowbytebyte.m n (Prod.fst r2)) fun r4 =>
   bindO (zslicesConcatbytebyte.l11_0.m n n (0, (((List.length (Prod.snd r2)) : Nat) : Int), (Prod.snd r2), r4)) fun r6 =>
    some (mk0 r6)
def zslicesConcatbytebyte.m (n : Nat) (t : (List AV)) : Option (List Int) := zslicesConcatbytebyte.g (fun a0 => a0) n t
def zslicesConcatbytebyte.pat : List AV → Blks → Option (List AV)
 | [(.robjs 26 1 a0)], [] => some a0
 | _, _ => none
def zslicesConcatbytebyte.shape (t : (List AV)) : List AV × Blks := ([(.robjs 26 1 t)], [])
def zslicesConcatbytebyte.res : (List Int) → AV × Blks
 | u => (Prod.mk (.own 0 1) [(some (.ints .u8 u))])
def zslicesConcatbytebyte.resK {R : Type} (u : (List Int)) (K : AV → Blks → Option R) : Option R := (fun p : AV × Blks => K p.1 p.2) (Prod.mk (.own 0 1) [(some (.ints .u8 u))])
def zslicesConcatbytebyte.c (n : Nat) : Abs.Callee := .mk' [] [(some (.objs 26 1))] zslicesConcatbytebyte.pat (zslicesConcatbytebyte.m n) zslicesConcatbytebyte.resK
end
end
section
noncomputable section
noncomputable def userop_piece.C (n : Nat) : Ctx := ⟨Tryd.prog, abiG, fun f => match f with
 | 99 => some (zslicesConcatbytebyte.c n)
 | _ => none, fun _ => false⟩
def userop_piece.live : Nat → List Nat × List Nat := fun k => match k with
 | _ => ([], [])
def userop_piece.jlive : Nat → List Nat × List Nat := fun k => match k with
 | _ => ([], [])
noncomputable def userop_piece.A (n : Nat) : Ann := ⟨Tryd.f70.ntmps, 0, userop_piece.live, [], [none], fun k => match k with
 | _ => none, userop_piece.jlive, lookJ []⟩
def userop_piece.g {α : Type} (mk0 : Bool → (List Int) → (List Int) → α) (n : Nat) (a0 : (List AV)) : Option α :=
 bindO (zslicesConcatbytebyte.m n a0) fun r2 =>
  some (mk0 true [0, 0, 0, 0] r2)
def userop_piece.m (n : Nat) (t : (List AV)) : Option (Bool × ((List Int) × (List Int))) := userop_piece.g (fun a0 a1 a2 => (a0, a1, a2)) n t
def userop_piece.pat : List AV → Blks → Option (List AV)
 | [(.robjs 26 1 a0)], [] => some a0
 | _, _ => none
def userop_piece.shape (t : (List AV)) : List AV × Blks := ([(.robjs 26 1 t)], [])
def userop_piece.res : (Bool × ((List Int) × (List Int))) → AV × Blks
 | u => (Prod.mk (.agg [(.bool u.1), (.ints .u64 4 u.2.1), (.own 0 1)]) [(some (.ints .u8 u.2.2))])
def userop_piece.resK {R : Type} (u : (Bool × ((List Int) × (List Int)))) (K : AV → Blks → Option R) : Option R := (fun p : AV × Blks => K p.1 p.2) (Prod.mk (.agg [(.bool u.1), (.ints .u64 4 u.2.1), (.own 0 1)]) [(some (.ints .u8 u.2.2))])
def userop_piece.c (n : Nat) : Abs.Callee := .mk' [] [(some (.objs 26 1))] userop_piece.pat (userop_piece.m n) userop_piece.resK
end
end
section
noncomputable section
noncomputable def userop_half.C (n : Nat) : Ctx := ⟨Tryd.prog, abiG, fun f => match f with
 | 69 => some (word_From.c n)
 | 56 => some (word_Bytes.c n)
 | _ => none, fun _ => false⟩
def userop_half.live : Nat → List Nat × List Nat := fun k => match k with
 | _ => ([], [])
def userop_half.jlive : Nat → List Nat × List Nat := fun k => match k with
 | _ => ([], [])
noncomputable def userop_half.A (n : Nat) : Ann := ⟨Tryd.f73.ntmps, 0, userop_half.live, [], [(some (.ints .u8))], fun k => match k with
 | _ => none, userop_half.jlive, lookJ []⟩
def userop_half.g {α : Type} (mk0 : Nat → Nat → (List Int) → α) (n : Nat) (a0 : Int) : Option α :=
 bindO (word_From.m n a0) fun r2 =>
  bindO (word_Bytes.m n r2) fun r4 =>
   if 16 ≤ (((List.length r4) : Nat) : Int) then
    some (mk0 16 (Go.Abs.span (List.length r4) 16 (Option.none)) r4)
   else
    none
def userop_half.m (n : Nat) (t : Int) : Option (Nat × (Nat × (List Int))) := userop_half.g (fun a0 a1 a2 => (a0, a1, a2)) n t
def userop_half.pat : List AV → Blks → Option Int
 | [(.int .u64 a0)], [] => some a0
 | _, _ => none
def userop_half.shape (t : Int) : List AV × Blks := ([(.int .u64 t)], [])
def userop_half.res : (Nat × (Nat × (List Int))) → AV × Blks
 | u => (Prod.mk (.slice 0 [] u.1 u.2.1 1) [(some (.ints .u8 u.2.2))])
def userop_half.resK {R : Type} (u : (Nat × (Nat × (List Int)))) (K : AV → Blks → Option R) : Option R := (fun p : AV × Blks => K p.1 p.2) (Prod.mk (.slice 0 [] u.1 u.2.1 1) [(some (.ints .u8 u.2.2))])
def userop_half.c (n : Nat) : Abs.Callee := .mk' [] [none] userop_half.pat (userop_half.m n) userop_half.resK
end
end
section
noncomputable section
noncomputable def userop_halves.C (n : Nat) : Ctx := ⟨Tryd.prog, abiG, fun f => match f with
 | 69 => some (word_From.c n)
 | 100 => some (word_Shl.c n)
 | 85 => some (word_Add.c n)
 | _ => none, fun _ => false⟩
def userop_halves.live : Nat → List Nat × List Nat := fun k => match k with
 | _ => ([], [])
def userop_halves.jlive : Nat → List Nat × List Nat := fun k => match k with
 | _ => ([], [])
noncomputable def userop_halves.A (n : Nat) : Ann := ⟨Tryd.f74.ntmps, 0, userop_halves.live, [], [none], fun k => match k with
 | _ => none, userop_halves.jlive, lookJ []⟩
def userop_halves.g {α : Type} (mk0 : (List Int) → α) (n : Nat) (a0 : (List Int)) (a1 : (List Int)) : Option α :=
 bindO (word_From.m n 128) fun r2 =>
  bindO (word_Shl.m n (Prod.mk r2 a0)) fun r4 =>
   bindO (word_Add.m n (Prod.mk r4 a1)) fun r6 =>
    some (mk0 (Prod.fst r6))
def userop_halves.m (n : Nat) (t : ((List Int) × (List Int))) : Option (List Int) := userop_halves.g (fun a0 => a0) n t.1 t.2
def userop_halves.pat : List AV → Blks → Option ((List Int) × (List Int))
 | [(.ints .u64 4 a0), (.ints .u64 4 a1)], [] => some (a0, a1)
 | _, _ => none
def userop_halves.shape (t : ((List Int) × (List Int))) : List AV × Blks := ([(.ints .u64 4 t.1), (.ints .u64 4 t.2)], [])
def userop_halves.res : (List Int) → AV × Blks
 | u => (Prod.mk (.ints .u64 4 u) [])
def userop_halves.resK {R : Type} (u : (List Int)) (K : AV → Blks → Option R) : Option R := (fun p : AV × Blks => K p.1 p.2) (Prod.mk (.ints .u64 4 u) [])
def userop_halves.c (n : Nat) : Abs.Callee := .mk' [] [none, none] userop_halves.pat (userop_halves.m n) userop_halves.resK
end
end
section
noncomputable section
noncomputable def userop_part.C (n : Nat) : Ctx := ⟨Tryd.prog, abiG, fun f => match f with
 | _ => none, fun _ => false⟩
def userop_part.live : Nat → List Nat × List Nat := fun k => match k with
 | _ => ([], [])
def userop_part.jlive : Nat → List Nat × List Nat := fun k => match k with
 | _ => ([], [])
noncomputable def userop_part.A (n : Nat) : Ann := ⟨Tryd.f68.ntmps, 0, userop_part.live, [], [none], fun k => match k with
 | _ => none, userop_part.jlive, lookJ []⟩
def userop_part.g {α : Type} (mk0 : Bool → (List Int) → α) (n : Nat) (a0 : (List Int)) : Option α :=
 some (mk0 false a0)
def userop_part.m (n : Nat) (t : (List Int)) : Option (Bool × (List Int)) := userop_part.g (fun a0 a1 => (a0, a1)) n t
def userop_part.pat : List AV → Blks → Option (List Int)
 | [(.ints .u64 4 a0)], [] => some a0
 | _, _ => none
def userop_part.shape (t : (List Int)) : List AV × Blks := ([(.ints .u64 4 t)], [])
def userop_part.res : (Bool × (List Int)) → AV × Blks
 | u => (Prod.mk (.agg [(.bool u.1), (.ints .u64 4 u.2), .snil]) [])
def userop_part.resK {R : Type} (u : (Bool × (List Int))) (K : AV → Blks → Option R) : Option R := (fun p : AV × Blks => K p.1 p.2) (Prod.mk (.agg [(.bool u.1), (.ints .u64 4 u.2), .snil]) [])
def userop_part.c (n : Nat) : Abs.Callee := .mk' [] [none] userop_part.pat (userop_part.m n) userop_part.resK
end
end
section
noncomputable section
noncomputable def userop_Pack.C (n : Nat) : Ctx := ⟨Tryd.prog, abiG, fun f => match f with
 | 70 => some (userop_piece.c n)
 | 73 => some (userop_half.c n)
 | 69 => some (word_From.c n)
 | 74 => some (userop_halves.c n)
 | 75 => some (word_Wide.c n)
 | 68 => some (userop_part.c n)
 | _ => none, fun t => t == 41⟩
def userop_Pack.live : Nat → List Nat × List Nat := fun k => match k with
 | _ => ([], [])
def userop_Pack.jlive : Nat → List Nat × List Nat := fun k => match k with
 | _ => ([], [])
noncomputable def userop_Pack.A (n : Nat) : Ann := ⟨Tryd.f38.ntmps, 0, userop_Pack.live, [], [(some (.objs 69 6))], fun k => match k with
 | _ => none, userop_Pack.jlive, lookJ []⟩
def userop_Pack.g {α : Type} (mk0 : (List AV) → α) (n : Nat) (a0_0 : (List Int)) (a0_1 : (List Int)) (a0_2 : Bool) (a0_3 : (List Int)) (a0_4 : (List Int)) (a0_5 : (List Int)) (a0_6 : Int) (a0_7 : Int) (a0_8 : Int) (a0_9 : (List Int)) (a0_10 : (List Int)) (a0_11 : Bool) (a0_12 : (List Int)) (a0_13 : Int) (a0_14 : Int) (a0_15 : (List Int)) (a0_16 : (List Int)) : Option α :=
 bindO (userop_piece.m n []) fun r2 =>
  bindO (userop_piece.m n []) fun r4 =>
   if a0_2 = true then
    bindO (userop_piece.m n [(AV.rints .u8 (Go.Abs.cut a0_3 0 (Option.none))), (AV.rints .u8 a0_4)]) fun r8 =>
     if a0_11 = true then
      bindO (userop_half.m n a0_13) fun r12 =>
       bindO (userop_half.m n a0_14) fun r14 =>
        bindO (userop_piece.m n [(AV.rints .u8 (Go.Abs.cut a0_12 0 (Option.none))), (AV.rints .u8 (List.take (Prod.fst r12.2) (List.drop (Prod.fst r12) (Prod.snd r12.2)))), (AV.rints .u8 (List.take (Prod.fst r14.2) (List.drop (Prod.fst r14) (Prod.snd r14.2)))), (AV.rints .u8 a0_15)]) fun r16 =>
         bindO (word_From.m n a0_7) fun r18 =>
          bindO (word_From.m n a0_6) fun r20 =>
           bindO (userop_halves.m n (Prod.mk r18 r20)) fun r22 =>
            bindO (word_Wide.m n a0_0) fun r24 =>
             bindO (userop_part.m n r24) fun r26 =>
              bindO (userop_part.m n a0_1) fun r28 =>
               bindO (userop_piece.m n [(AV.rints .u8 a0_5)]) fun r30 =>
                bindO (userop_part.m n r22) fun r32 =>
                 bindO (word_From.m n a0_8) fun r34 =>
                  bindO (userop_part.m n r34) fun r36 =>
                   bindO (userop_halves.m n (Prod.mk a0_10 a0_9)) fun r38 =>
                    bindO (userop_part.m n r38) fun r40 =>
                     bindO (userop_piece.m n [(AV.rints .u8 a0_16)]) fun r42 =>
                      some (mk0 [(AV.agg [(AV.bool (Prod.fst r26)), (AV.ints .u64 4 (Prod.snd r26)), AV.snil]), (AV.agg [(AV.bool (Prod.fst r28)), (AV.ints .u64 4 (Prod.snd r28)), AV.snil]), (AV.agg [(AV.bool (Prod.fst r8)), (AV.ints .u64 4 (Prod.fst r8.2)), (AV.rints .u8 (Prod.snd r8.2))]), (AV.agg [(AV.bool (Prod.fst r30)), (AV.ints .u64 4 (Prod.fst r30.2)), (AV.rints .u8 (Prod.snd r30.2))]), (AV.agg [(AV.bool (Prod.fst r32)), (AV.ints .u64 4 (Prod.snd r32)), AV.snil]), (AV.agg [(AV.bool (Prod.fst r36)), (AV.ints .u64 4 (Prod.snd r36)), AV.snil]), (AV.agg [(AV.bool (Prod.fst r40)), (AV.ints .u64 4 (Prod.snd r40)), AV.snil]), (AV.agg [(AV.bool (Prod.fst r16)), (AV.ints .u64 4 (Prod.fst r16.2)), (AV.rints .u8 (Prod.snd r16.2))]), (AV.agg [(AV.bool (Prod.fst r42)), (AV.ints .u64 4 (Prod.fst r42.2)), (AV.rints .u8 (Prod.snd r42.2))])])
     else
      bindO (word_From.m n a0_7) fun r12 =>
       bindO (word_From.m n a0_6) fun r14 =>
        bindO (userop_halves.m n (Prod.mk r12 r14)) fun r16 =>
         bindO (word_Wide.m n a0_0) fun r18 =>
          bindO (userop_part.m n r18) fun r20 =>
           bindO (userop_part.m n a0_1) fun r22 =>
            bindO (userop_piece.m n [(AV.rints .u8 a0_5)]) fun r24 =>
             bindO (userop_part.m n r16) fun r26 =>
              bindO (word_From.m n a0_8) fun r28 =>
               bindO (userop_part.m n r28) fun r30 =>
                bindO (userop_halves.m n (Prod.mk a0_10 a0_9)) fun r32 =>
                 bindO (userop_part.m n r32) fun r34 =>
                  bindO (userop_piece.m n [(AV.rints .u8 a0_16)]) fun r36 =>
                   some (mk0 [(AV.agg [(AV.bool (Prod.fst r20)), (AV.ints .u64 4 (Prod.snd r20)), AV.snil]), (AV.agg [(AV.bool (Prod.fst r22)), (AV.ints .u64 4 (Prod.snd r22)), AV.snil]), (AV.agg [(AV.bool (Prod.fst r8)), (AV.ints .u64 4 (Prod.fst r8.2)), (AV.rints .u8 (Prod.snd r8.2))]), (AV.agg [(AV.bool (Prod.fst r24)), (AV.ints .u64 4 (Prod.fst r24.2)), (AV.rints .u8 (Prod.snd r24.2))]), (AV.agg [(AV.bool (Prod.fst r26)), (AV.ints .u64 4 (Prod.snd r26)), AV.snil]), (AV.agg [(AV.bool (Prod.fst r30)), (AV.ints .u64 4 (Prod.snd r30)), AV.snil]), (AV.agg [(AV.bool (Prod.fst r34)), (AV.ints .u64 4 (Prod.snd r34)), AV.snil]), (AV.agg [(AV.bool (Prod.fst r4)), (AV.ints .u64 4 (Prod.fst r4.2)), (AV.rints .u8 (Prod.snd r4.2))]), (AV.agg [(AV.bool (Prod.fst r36)), (AV.ints .u64 4 (Prod.fst r36.2)), (AV.rints .u8 (Prod.snd r36.2))])])
   else
    if a0_11 = true then
     bindO (userop_half.m n a0_13) fun r10 =>
      bindO (userop_half.m n a0_14) fun r12 =>
       bindO (userop_piece.m n [(AV.rints .u8 (Go.Abs.cut a0_12 0 (Option.none))), (AV.rints .u8 (List.take (Prod.fst r10.2) (List.drop (Prod.fst r10) (Prod.snd r10.2)))), (AV.rints .u8 (List.take (Prod.fst r12.2) (List.drop (Prod.fst r12) (Prod.snd r12.2)))), (AV.rints .u8 a0_15)]) fun r14 =>
        bindO (word_From.m n a0_7) fun r16 =>
         bindO (word_From.m n a0_6) fun r18 =>
          bindO (userop_halves.m n (Prod.mk r16 r18)) fun r20 =>
           bindO (word_Wide.m n a0_0) fun r22 =>
            bindO (userop_part.m n r22) fun r24 =>
             bindO (userop_part.m n a0_1) fun r26 =>
              bindO (userop_piece.m n [(AV.rints .u8 a0_5)]) fun r28 =>
               bindO (userop_part.m n r20) fun r30 =>
                bindO (word_From.m n a0_8) fun r32 =>
                 bindO (userop_part.m n r32) fun r34 =>
                  bindO (userop_halves.m n (Prod.mk a0_10 a0_9)) fun r36 =>
                   bindO (userop_part.m n r36) fun r38 =>
                    bindO (userop_piece.m n [(AV.rints .u8 a0_16)]) fun r40 =>
                     some (mk0 [(AV.agg [(AV.bool (Prod.fst r24)), (AV.ints .u64 4 (Prod.snd r24)), AV.snil]), (AV.agg [(AV.bool (Prod.fst r26)), (AV.ints .u64 4 (Prod.snd r26)), AV.snil]), (AV.agg [(AV.bool (Prod.fst r2)), (AV.ints .u64 4 (Prod.fst r2.2)), (AV.rints .u8 (Prod.snd r2.2))]), (AV.agg [(AV.bool (Prod.fst r28)), (AV.ints .u64 4 (Prod.fst r28.2)), (AV.rints .u8 (Prod.snd r28.2))]), (AV.agg [(AV.bool (Prod.fst r30)), (AV.ints .u64 4 (Prod.snd r30)), AV.snil]), (AV.agg [(AV.bool (Prod.fst r34)), (AV.ints .u64 4 (Prod.snd r34)), AV.snil]), (AV.agg [(AV.bool (Prod.fst r38)), (AV.ints .u64 4 (Prod.snd r38)), AV.snil]), (AV.agg [(AV.bool (Prod.fst r14)), (AV.ints .u64 4 (Prod.fst r14.2)), (AV.rints .u8 (Prod.snd r14.2))]), (AV.agg [(AV.bool (Prod.fst r40)), (AV.ints .u64 4 (Prod.fst r40.2)), (AV.rints .u8 (Prod.snd r40.2))])])
    else
     bindO (word_From.m n a0_7) fun r10 =>
      bindO (word_From.m n a0_6) fun r12 =>
       bindO (userop_halves.m n (Prod.mk r10 r12)) fun r14 =>
        bindO (word_Wide.m n a0_0) fun r16 =>
         bindO (userop_part.m n r16) fun r18 =>
          bindO (userop_part.m n a0_1) fun r20 =>
           bindO (userop_piece.m n [(AV.rints .u8 a0_5)]) fun r22 =>
            bindO (userop_part.m n r14) fun r24 =>
             bindO (word_From.m n a0_8) fun r26 =>
              bindO (userop_part.m n r26) fun r28 =>
               bindO (userop_halves.m n (Prod.mk a0_10 a0_9)) fun r30 =>
                bindO (userop_part.m n r30) fun r32 =>
                 bindO (userop_piece.m n [(AV.rints .u8 a0_16)]) fun r34 =>
                  some (mk0 [(AV.agg [(AV.bool (Prod.fst r18)), (AV.ints .u64 4 (Prod.snd r18)), AV.snil]), (AV.agg [(AV.bool (Prod.fst r20)), (AV.ints .u64 4 (Prod.snd r20)), AV.snil]), (AV.agg [(AV.bool (Prod.fst r2)), (AV.ints .u64 4 (Prod.fst r2.2)), (AV.rints .u8 (Prod.snd r2.2))]), (AV.agg [(AV.bool (Prod.fst r22)), (AV.ints .u64 4 (Prod.fst r22.2)), (AV.rints .u8 (Prod.snd r22.2))]), (AV.agg [(AV.bool (Prod.fst r24)), (AV.ints .u64 4 (Prod.snd r24)), AV.snil]), (AV.agg [(AV.bool (Prod.fst r28)), (AV.ints .u64 4 (Prod.snd r28)), AV.snil]), (AV.agg [(AV.bool (Prod.fst r32)), (AV.ints .u64 4 (Prod.snd r32)), AV.snil]), (AV.agg [(AV.bool (Prod.fst r4)), (AV.ints .u64 4 (Prod.fst r4.2)), (AV.rints .u8 (Prod.snd r4.2))]), (AV.agg [(AV.bool (Prod.fst r34)), (AV.ints .u64 4 (Prod.fst r34.2)), (AV.rints .u8 (Prod.snd r34.2))])])
def userop_Pack.m (n : Nat) (t : ((List Int) × ((List Int) × (Bool × ((List Int) × ((List Int) × ((List Int) × (Int × (Int × (Int × ((List Int) × ((List Int) × (Bool × ((List Int) × (Int × (Int × ((List Int) × (List Int)))))))))))))))))) : Option (List AV) := userop_Pack.g (fun a0 => a0) n t.1 t.2.1 t.2.2.1 t.2.2.2.1 t.2.2.2.2.1 t.2.2.2.2.2.1 t.2.2.2.2.2.2.1 t.2.2.2.2.2.2.2.1 t.2.2.2.2.2.2.2.2.1 t.2.2.2.2.2.2.2.2.2.1 t.2.2.2.2.2.2.2.2.2.2.1 t.2.2.2.2.2.2.2.2.2.2.2.1 t.2.2.2.2.2.2.2.2.2.2.2.2.1 t.2.2.2.2.2.2.2.2.2.2.2.2.2.1 t.2.2.2.2.2.2.2.2.2.2.2.2.2.2.1 t.2.2.2.2.2.2.2.2.2.2.2.2.2.2.2.1 t.2.2.2.2.2.2.2.2.2.2.2.2.2.2.2.2
def userop_Pack.pat : List AV → Blks → Option ((List Int) × ((List Int) × (Bool × ((List Int) × ((List Int) × ((List Int) × (Int × (Int × (Int × ((List Int) × ((List Int) × (Bool × ((List Int) × (Int × (Int × ((List Int) × (List Int)))))))))))))))))
 | [(.agg [(.ints .u8 20 a0_0), (.ints .u64 4 a0_1), (.bool a0_2), (.ints .u8 20 a0_3), (.rints .u8 a0_4), (.rints .u8 a0_5), (.int .u64 a0_6), (.int .u64 a0_7), (.int .u64 a0_8), (.ints .u64 4 a0_9), (.ints .u64 4 a0_10), (.bool a0_11), (.ints .u8 20 a0_12), (.int .u64 a0_13), (.int .u64 a0_14), (.rints .u8 a0_15), (.rints .u8 a0_16)])], [] => some (a0_0, a0_1, a0_2, a0_3, a0_4, a0_5, a0_6, a0_7, a0_8, a0_9, a0_10, a0_11, a0_12, a0_13, a0_14, a0_15, a0_16)
 | _, _ => none
def userop_Pack.shape (t : ((List Int) × ((List Int) × (Bool × ((List Int) × ((List Int) × ((List Int) × (Int × (Int × (Int × ((List Int) × ((List Int) × (Bool × ((List Int) × (Int × (Int × ((List Int) × (List Int)))))))))))))))))) : List AV × Blks := ([(.agg [(.ints .u8 20 t.1), (.ints .u64 4 t.2.1), (.bool t.2.2.1), (.ints .u8 20 t.2.2.2.1), (.rints .u8 t.2.2.2.2.1), (.rints .u8 t.2.2.2.2.2.1), (.int .u64 t.2.2.2.2.2.2.1), (.int .u64 t.2.2.2.2.2.2.2.1), (.int .u64 t.2.2.2.2.2.2.2.2.1), (.ints .u64 4 t.2.2.2.2.2.2.2.2.2.1), (.ints .u64 4 t.2.2.2.2.2.2.2.2.2.2.1), (.bool t.2.2.2.2.2.2.2.2.2.2.2.1), (.ints .u8 20 t.2.2.2.2.2.2.2.2.2.2.2.2.1), (.int .u64 t.2.2.2.2.2.2.2.2.2.2.2.2.2.1), (.int .u64 t.2.2.2.2.2.2.2.2.2.2.2.2.2.2.1), (.rints .u8 t.2.2.2.2.2.2.2.2.2.2.2.2.2.2.2.1), (.rints .u8 t.2.2.2.2.2.2.2.2.2.2.2.2.2.2.2.2)])], [])
def userop_Pack.res : (List AV) → AV × Blks
 | u => (Prod.mk (.robjs 69 6 u) [])
def userop_Pack.resK {R : Type} (u : (List AV)) (K : AV → Blks → Option R) : Option R := (fun p : AV × Blks => K p.1 p.2) (Prod.mk (.robjs 69 6 u) [])
def userop_Pack.c (n : Nat) : Abs.Callee := .mk' [] [(some (.agg [none, none, none, none, (some (.ints .u8)), (some (.ints .u8)), none, none, none, none, none, none, none, none, none, (some (.ints .u8)), (some (.ints .u8))]))] userop_Pack.pat (userop_Pack.m n) userop_Pack.resK
end
end
section
noncomputable section
noncomputable def abi_number.C (n : Nat) : Ctx := ⟨Tryd.prog, abiG, fun f => match f with
 | 69 => some (word_From.c n)
 | 56 => some (word_Bytes.c n)
 | _ => none, fun _ => false⟩
def abi_number.live : Nat → List Nat × List Nat := fun k => match k with
 | _ => ([], [])
def abi_number.jlive : Nat → List Nat × List Nat := fun k => match k with
 | _ => ([], [])
noncomputable def abi_number.A (n : Nat) : Ann := ⟨Tryd.f61.ntmps, 0, abi_number.live, [], [(some (.ints .u8))], fun k => match k with
 | _ => none, abi_number.jlive, lookJ []⟩
def abi_number.g {α : Type} (mk0 : (List Int) → α) (n : Nat) (a0 : Int) : Option α :=
 bindO (word_From.m n (IntKind.wrap .u64 a0)) fun r2 =>
  bindO (word_Bytes.m n r2) fun r4 =>
   some (mk0 r4)
def abi_number.m (n : Nat) (t : Int) : Option (List Int) := abi_number.g (fun a0 => a0) n t
def abi_number.pat : List AV → Blks → Option Int
 | [(.int .i64 a0)], [] => some a0
 | _, _ => none
def abi_number.shape (t : Int) : List AV × Blks := ([(.int .i64 t)], [])
def abi_number.res : (List Int) → AV × Blks
 | u => (Prod.mk (.own 0 1) [(some (.ints .u8 u))])
def abi_number.resK {R : Type} (u : (List Int)) (K : AV → Blks → Option R) : Option R := (fun p : AV × Blks => K p.1 p.2) (Prod.mk (.own 0 1) [(some (.ints .u8 u))])
def abi_number.c (n : Nat) : Abs.Callee := .mk' [] [none] abi_number.pat (abi_number.m n) abi_number.resK
end
end
section
noncomputable section
noncomputable def abi_Encode.C (n : Nat) : Ctx := ⟨Tryd.prog, abiG, fun f => match f with
 | 56 => some (word_Bytes.c n)
 | 61 => some (abi_number.c n)
 | _ => none, fun _ => false⟩
def abi_Encode.live : Nat → List Nat × List Nat := fun k => match k with
 | 3 => ([9, 8, 7, 3, 0, 4], [3, 4])
 | _ => ([], [])
def abi_Encode.jlive : Nat → List Nat × List Nat := fun k => match k with
 | _ => ([], [])
def abi_Encode.l3_0.r {α : Type} (mk0 : (List Int) → (List Int) → α) (n : Nat) (rc : Int → Int → (List AV) → (List AV) → (List Int) → (List Int) → Option α)  (x0 : Int) (x1 : Int) (x2 : (List AV)) (x3 : (List AV)) (x4 : (List Int)) (x5 : (List Int)) : Option α :=
  if (decide (x0 < x1)) = true then
   if 0 ≤ x0 then
    if x0 < (((List.length x2) : Nat) : Int) then
     bindO (tkAgg 3 (List.getD x2 (Int.toNat x0) AV.any)) fun r10 =>
      bindO (tkBool (List.getD r10 0 AV.any)) fun r12 =>
       bindO (tkInts .u64 4 (List.getD r10 1 AV.any)) fun r14 =>
        bindO (tkRints .u8 (List.getD r10 2 AV.any)) fun r16 =>
         if (!r12) = true then
          bindO (word_Bytes.m n r14) fun r20 =>
           if ((((List.length x4) + (List.length r20)) * 1) ≤ 70368744177664 ∧ ((List.length x4) + (List.length r20)) ≤ 9223372036854775807) then
            rc (IntKind.wrap .i64 (x0 + 1)) x1 x2 x3 (x4 ++ r20) x5
           else
            none
         else
          bindO (abi_number.m n (IntKind.wrap .i64 ((IntKind.wrap .i64 (32 * (((List.length x3) : Nat) : Int))) + (((List.length x5) : Nat) : Int)))) fun r20 =>
           if ((((List.length x4) + (List.length r20)) * 1) ≤ 70368744177664 ∧ ((List.length x4) + (List.length r20)) ≤ 9223372036854775807) then
            bindO (abi_number.m n (((List.length r16) : Nat) : Int)) fun r24 =>
             if ((((List.length x5) + (List.length r24)) * 1) ≤ 70368744177664 ∧ ((List.length x5) + (List.length r24)) ≤ 9223372036854775807) then
              if ((((List.length (x5 ++ r24)) + (List.length r16)) * 1) ≤ 70368744177664 ∧ ((List.length (x5 ++ r24)) + (List.length r16)) ≤ 9223372036854775807) then
               if 0 ≤ (Int.tmod (IntKind.wrap .i64 (32 - (Int.tmod (((List.length r16) : Nat) : Int) 32))) 32) then
                if ((((List.length ((x5 ++ r24) ++ r16)) + (List.length (List.replicate (Int.toNat (Int.tmod (IntKind.wrap .i64 (32 - (Int.tmod (((List.length r16) : Nat) : Int) 32))) 32)) (0 : Int)))) * 1) ≤ 70368744177664 ∧ ((List.length ((x5 ++ r24) ++ r16)) + (List.length (List.replicate (Int.toNat (Int.tmod (IntKind.wrap .i64 (32 - (Int.tmod (((List.length r16) : Nat) : Int) 32))) 32)) (0 : Int)))) ≤ 9223372036854775807) then
                 rc (IntKind.wrap .i64 (x0 + 1)) x1 x2 x3 (x4 ++ r20) (((x5 ++ r24) ++ r16) ++ (List.replicate (Int.toNat (Int.tmod (IntKind.wrap .i64 (32 - (Int.tmod (((List.length r16) : Nat) : Int) 32))) 32)) (0 : Int)))
                else
                 none
               else
                none
              else
               none
             else
              none
           else
            none
    else
     none
   else
    none
  else
   some (mk0 x4 x5)
def abi_Encode.l3_0.g {α : Type} (mk0 : (List Int) → (List Int) → α) (n : Nat) : Nat → Int → Int → (List AV) → (List AV) → (List Int) → (List Int) → Option α
 | 0, _, _, _, _, _, _ => none
 | m + 1, x0, x1, x2, x3, x4, x5 => abi_Encode.l3_0.r mk0 n (fun y0 y1 y2 y3 y4 y5 => abi_Encode.l3_0.g mk0 n m y0 y1 y2 y3 y4 y5)  x0 x1 x2 x3 x4 x5
def abi_Encode.l3_0.m (n m : Nat) (t : (Int × (Int × ((List AV) × ((List AV) × ((List Int) × (List Int))))))) : Option ((List Int) × (List Int)) := abi_Encode.l3_0.g (fun a0 a1 => (a0, a1)) n m t.1 t.2.1 t.2.2.1 t.2.2.2.1 t.2.2.2.2.1 t.2.2.2.2.2
def abi_Encode.l3_0.pat : St → Option (Int × (Int × ((List AV) × ((List AV) × ((List Int) × (List Int))))))
 | (St.mk [(.int .i64 x0), (.int .i64 x1), (.robjs 69 6 x2), (.own 0 1), (.robjs 69 6 x3), (.own 1 1)] [(some (.ints .u8 x4)), (some (.ints .u8 x5))]) => some (x0, x1, x2, x3, x4, x5)
 | _ => none
def abi_Encode.l3_0.shape (t : (Int × (Int × ((List AV) × ((List AV) × ((List Int) × (List Int))))))) : St := (St.mk [(.int .i64 t.1), (.int .i64 t.2.1), (.robjs 69 6 t.2.2.1), (.own 0 1), (.robjs 69 6 t.2.2.2.1), (.own 1 1)] [(some (.ints .u8 t.2.2.2.2.1)), (some (.ints .u8 t.2.2.2.2.2))])
def abi_Encode.l3_0.res : ((List Int) × (List Int)) → Ex × St
 | u => (Prod.mk (.exit 0) (St.mk [(.own 0 1), (.own 1 1)] [(some (.ints .u8 u.1)), (some (.ints .u8 u.2))]))
def abi_Encode.l3_0.resK {R : Type} (u : ((List Int) × (List Int))) (K : Ex → St → Option R) : Option R := (fun p : Ex × St => K p.1 p.2) (Prod.mk (.exit 0) (St.mk [(.own 0 1), (.own 1 1)] [(some (.ints .u8 u.1)), (some (.ints .u8 u.2))]))
noncomputable def abi_Encode.A (n : Nat) : Ann := ⟨Tryd.f20.ntmps, 0, abi_Encode.live, [(0, (.objs 69 6)), (7, (.objs 69 6)), (3, (.ints .u8)), (4, (.ints .u8))], [(some (.ints .u8))], fun k => match k with
 | 3 => some (.mk' abi_Encode.l3_0.pat (abi_Encode.l3_0.m n n) abi_Encode.l3_0.resK)
 | _ => none, abi_Encode.jlive, lookJ []⟩
noncomputable def abi_Encode.b0 : Code := (loopsIn (Tryd.f20.body.getD .skip)).getD 0 .skip
def abi_Encode.g {α : Type} (mk0 : (List Int) → α) (n : Nat) (a0 : (List AV)) : Option α :=
 bindO (abi_Encode.l3_0.m n n (0, (((List.length a0) : Nat) : Int), a0, a0, [], [])) fun r2 =>
  if ((((List.length (Prod.fst r2)) + (List.length (Prod.snd r2))) * 1) ≤ 70368744177664 ∧ ((List.length (Prod.fst r2)) + (List.length (Prod.snd r2))) ≤ 9223372036854775807) then
   some (mk0 ((Prod.fst r2) ++ (Prod.snd r2)))
  else
   none
def abi_Encode.m (n : Nat) (t : (List AV)) : Option (List Int) := abi_Encode.g (fun a0 => a0) n t
def abi_Encode.pat : List AV → Blks → Option (List AV)
 | [(.robjs 69 6 a0)], [] => some a0
 | _, _ => none
def abi_Encode.shape (t : (List AV)) : List AV × Blks := ([(.robjs 69 6 t)], [])
def abi_Encode.res : (List Int) → AV × Blks
 | u => (Prod.mk (.own 0 1) [(some (.ints .u8 u))])
def abi_Encode.resK {R : Type} (u : (List Int)) (K : AV → Blks → Option R) : Option R := (fun p : AV × Blks => K p.1 p.2) (Prod.mk (.own 0 1) [(some (.ints .u8 u))])
def abi_Encode.c (n : Nat) : Abs.Callee := .mk' [] [(some (.objs 69 6))] abi_Encode.pat (abi_Encode.m n) abi_Encode.resK
end
end
section
noncomputable section
noncomputable def userop_asked.C (n : Nat) : Ctx := ⟨Tryd.prog, abiG, fun f => match f with
 | 22 => some (abi_Selector.c n)
 | 69 => some (word_From.c n)
 | 56 => some (word_Bytes.c n)
 | 38 => some (userop_Pack.c n)
 | 20 => some (abi_Encode.c n)
 | 99 => some (zslicesConcatbytebyte.c n)
 | _ => none, fun _ => false⟩
def userop_asked.live : Nat → List Nat × List Nat := fun k => match k with
 | _ => ([], [])
def userop_asked.jlive : Nat → List Nat × List Nat := fun k => match k with
 | _ => ([], [])
noncomputable def userop_asked.A (n : Nat) : Ann := ⟨Tryd.f66.ntmps, 0, userop_asked.live, [], [(some (.ints .u8))], fun k => match k with
 | _ => none, userop_asked.jlive, lookJ []⟩
def userop_asked.g {α : Type} (mk0 : (List Int) → α) (n : Nat) (a0 : ByteArray) (a1_0 : (List Int)) (a1_1 : (List Int)) (a1_2 : Bool) (a1_3 : (List Int)) (a1_4 : (List Int)) (a1_5 : (List Int)) (a1_6 : Int) (a1_7 : Int) (a1_8 : Int) (a1_9 : (List Int)) (a1_10 : (List Int)) (a1_11 : Bool) (a1_12 : (List Int)) (a1_13 : Int) (a1_14 : Int) (a1_15 : (List Int)) (a1_16 : (List Int)) (a2 : (List Int)) (a3 : (List Int)) : Option α :=
 if ((ByteArray.size a0) + 83) ≤ 1152921504606846976 then
  bindO (abi_Selector.m n (a0 ++ (ByteArray.mk (List.toArray [(UInt8.ofBitVec (BitVec.ofNat 8 40)), (UInt8.ofBitVec (BitVec.ofNat 8 40)), (UInt8.ofBitVec (BitVec.ofNat 8 97)), (UInt8.ofBitVec (BitVec.ofNat 8 100)), (UInt8.ofBitVec (BitVec.ofNat 8 100)), (UInt8.ofBitVec (BitVec.ofNat 8 114)), (UInt8.ofBitVec (BitVec.ofNat 8 101)), (UInt8.ofBitVec (BitVec.ofNat 8 115)), (UInt8.ofBitVec (BitVec.ofNat 8 115)), (UInt8.ofBitVec (BitVec.ofNat 8 44)), (UInt8.ofBitVec (BitVec.ofNat 8 117)), (UInt8.ofBitVec (BitVec.ofNat 8 105)), (UInt8.ofBitVec (BitVec.ofNat 8 110)), (UInt8.ofBitVec (BitVec.ofNat 8 116)), (UInt8.ofBitVec (BitVec.ofNat 8 50)), (UInt8.ofBitVec (BitVec.ofNat 8 53)), (UInt8.ofBitVec (BitVec.ofNat 8 54)), (UInt8.ofBitVec (BitVec.ofNat 8 44)), (UInt8.ofBitVec (BitVec.ofNat 8 98)), (UInt8.ofBitVec (BitVec.ofNat 8 121)), (UInt8.ofBitVec (BitVec.ofNat 8 116)), (UInt8.ofBitVec (BitVec.ofNat 8 101)), (UInt8.ofBitVec (BitVec.ofNat 8 115)), (UInt8.ofBitVec (BitVec.ofNat 8 44)), (UInt8.ofBitVec (BitVec.ofNat 8 98)), (UInt8.ofBitVec (BitVec.ofNat 8 121)), (UInt8.ofBitVec (BitVec.ofNat 8 116)), (UInt8.ofBitVec (BitVec.ofNat 8 101)), (UInt8.ofBitVec (BitVec.ofNat 8 115)), (UInt8.ofBitVec (BitVec.ofNat 8 44)), (UInt8.ofBitVec (BitVec.ofNat 8 98)), (UInt8.ofBitVec (BitVec.ofNat 8 121)), (UInt8.ofBitVec (BitVec.ofNat 8 116)), (UInt8.ofBitVec (BitVec.ofNat 8 101)), (UInt8.ofBitVec (BitVec.ofNat 8 115)), (UInt8.ofBitVec (BitVec.ofNat 8 51)), (UInt8.ofBitVec (BitVec.ofNat 8 50)), (UInt8.ofBitVec (BitVec.ofNat 8 44)), (UInt8.ofBitVec (BitVec.ofNat 8 117)), (UInt8.ofBitVec (BitVec.ofNat 8 105)), (UInt8.ofBitVec (BitVec.ofNat 8 110)), (UInt8.ofBitVec (BitVec.ofNat 8 116)), (UInt8.ofBitVec (BitVec.ofNat 8 50)), (UInt8.ofBitVec (BitVec.ofNat 8 53)), (UInt8.ofBitVec (BitVec.ofNat 8 54)), (UInt8.ofBitVec (BitVec.ofNat 8 44)), (UInt8.ofBitVec (BitVec.ofNat 8 98)), (UInt8.ofBitVec (BitVec.ofNat 8 121)), (UInt8.ofBitVec (BitVec.ofNat 8 116)), (UInt8.ofBitVec (BitVec.ofNat 8 101)), (UInt8.ofBitVec (BitVec.ofNat 8 115)), (UInt8.ofBitVec (BitVec.ofNat 8 51)), (UInt8.ofBitVec (BitVec.ofNat 8 50)), (UInt8.ofBitVec (BitVec.ofNat 8 44)), (UInt8.ofBitVec (BitVec.ofNat 8 98)), (UInt8.ofBitVec (BitVec.ofNat 8 121)), (UInt8.ofBitVec (BitVec.ofNat 8 116)), (UInt8.ofBitVec (BitVec.ofNat 8 101)), (UInt8.ofBitVec (BitVec.ofNat 8 115)), (UInt8.ofBitVec (BitVec.ofNat 8 44)), (UInt8.ofBitVec (BitVec.ofNat 8 98)), (UInt8.ofBitVec (BitVec.ofNat 8 121)), (UInt8.ofBitVec (BitVec.ofNat 8 116)), (UInt8.ofBitVec (BitVec.ofNat 8 101)), (UInt8.ofBitVec (BitVec.ofNat 8 115)), (UInt8.ofBitVec (BitVec.ofNat 8 41)), (UInt8.ofBitVec (BitVec.ofNat 8 44)), (UInt8.ofBitVec (BitVec.ofNat 8 98)), (UInt8.ofBitVec (BitVec.ofNat 8 121)), (UInt8.ofBitVec (BitVec.ofNat 8 116)), (UInt8.ofBitVec (BitVec.ofNat 8 101)), (UInt8.ofBitVec (BitVec.ofNat 8 115)), (UInt8.ofBitVec (BitVec.ofNat 8 51)), (UInt8.ofBitVec (BitVec.ofNat 8 50)), (UInt8.ofBitVec (BitVec.ofNat 8 44)), (UInt8.ofBitVec (BitVec.ofNat 8 117)), (UInt8.ofBitVec (BitVec.ofNat 8 105)), (UInt8.ofBitVec (BitVec.ofNat 8 110)), (UInt8.ofBitVec (BitVec.ofNat 8 116)), (UInt8.ofBitVec (BitVec.ofNat 8 50)), (UInt8.ofBitVec (BitVec.ofNat 8 53)), (UInt8.ofBitVec (BitVec.ofNat 8 54)), (UInt8.ofBitVec (BitVec.ofNat 8 41))])))) fun r4 =>
   bindO (word_From.m n 96) fun r6 =>
    bindO (word_Bytes.m n r6) fun r8 =>
     bindO (word_Bytes.m n a2) fun r10 =>
      bindO (word_Bytes.m n a3) fun r12 =>
       bindO (userop_Pack.m n (Prod.mk a1_0 (Prod.mk a1_1 (Prod.mk a1_2 (Prod.mk a1_3 (Prod.mk a1_4 (Prod.mk a1_5 (Prod.mk a1_6 (Prod.mk a1_7 (Prod.mk a1_8 (Prod.mk a1_9 (Prod.mk a1_10 (Prod.mk a1_11 (Prod.mk a1_12 (Prod.mk a1_13 (Prod.mk a1_14 (Prod.mk a1_15 a1_16))))))))))))))))) fun r14 =>
        bindO (abi_Encode.m n r14) fun r16 =>
         bindO (zslicesConcatbytebyte.m n [(AV.rints .u8 r4), (AV.rints .u8 r8), (AV.rints .u8 r10), (AV.rints .u8 r12), (AV.rints .u8 r16)]) fun r18 =>
          some (mk0 r18)
 else
  none
def userop_asked.m (n : Nat) (t : (ByteArray × ((List Int) × ((List Int) × (Bool × ((List Int) × ((List Int) × ((List Int) × (Int × (Int × (Int × ((List Int) × ((List Int) × (Bool × ((List Int) × (Int × (Int × ((List Int) × ((List Int) × ((List Int) × (List Int))))))))))))))))))))) : Option (List Int) := userop_asked.g (fun a0 => a0) n t.1 t.2.1 t.2.2.1 t.2.2.2.1 t.2.2.2.2.1 t.2.2.2.2.2.1 t.2.2.2.2.2.2.1 t.2.2.2.2.2.2.2.1 t.2.2.2.2.2.2.2.2.1 t.2.2.2.2.2.2.2.2.2.1 t.2.2.2.2.2.2.2.2.2.2.1 t.2.2.2.2.2.2.2.2.2.2.2.1 t.2.2.2.2.2.2.2.2.2.2.2.2.1 t.2.2.2.2.2.2.2.2.2.2.2.2.2.1 t.2.2.2.2.2.2.2.2.2.2.2.2.2.2.1 t.2.2.2.2.2.2.2.2.2.2.2.2.2.2.2.1 t.2.2.2.2.2.2.2.2.2.2.2.2.2.2.2.2.1 t.2.2.2.2.2.2.2.2.2.2.2.2.2.2.2.2.2.1 t.2.2.2.2.2.2.2.2.2.2.2.2.2.2.2.2.2.2.1 t.2.2.2.2.2.2.2.2.2.2.2.2.2.2.2.2.2.2.2
def userop_asked.pat : List AV → Blks → Option (ByteArray × ((List Int) × ((List Int) × (Bool × ((List Int) × ((List Int) × ((List Int) × (Int × (Int × (Int × ((List Int) × ((List Int) × (Bool × ((List Int) × (Int × (Int × ((List Int) × ((List Int) × ((List Int) × (List Int))))))))))))))))))))
 | [(.str a0), (.agg [(.ints .u8 20 a1_0), (.ints .u64 4 a1_1), (.bool a1_2), (.ints .u8 20 a1_3), (.rints .u8 a1_4), (.rints .u8 a1_5), (.int .u64 a1_6), (.int .u64 a1_7), (.int .u64 a1_8), (.ints .u64 4 a1_9), (.ints .u64 4 a1_10), (.bool a1_11), (.ints .u8 20 a1_12), (.int .u64 a1_13), (.int .u64 a1_14), (.rints .u8 a1_15), (.rints .u8 a1_16)]), (.ints .u64 4 a2), (.ints .u64 4 a3)], [] => some (a0, a1_0, a1_1, a1_2, a1_3, a1_4, a1_5, a1_6, a1_7, a1_8, a1_9, a1_10, a1_11, a1_12, a1_13, a1_14, a1_15, a1_16, a2, a3)
 | _, _ => none
def userop_asked.shape (t : (ByteArray × ((List Int) × ((List Int) × (Bool × ((List Int) × ((List Int) × ((List Int) × (Int × (Int × (Int × ((List Int) × ((List Int) × (Bool × ((List Int) × (Int × (Int × ((List Int) × ((List Int) × ((List Int) × (List Int))))))))))))))))))))) : List AV × Blks := ([(.str t.1), (.agg [(.ints .u8 20 t.2.1), (.ints .u64 4 t.2.2.1), (.bool t.2.2.2.1), (.ints .u8 20 t.2.2.2.2.1), (.rints .u8 t.2.2.2.2.2.1), (.rints .u8 t.2.2.2.2.2.2.1), (.int .u64 t.2.2.2.2.2.2.2.1), (.int .u64 t.2.2.2.2.2.2.2.2.1), (.int .u64 t.2.2.2.2.2.2.2.2.2.1), (.ints .u64 4 t.2.2.2.2.2.2.2.2.2.2.1), (.ints .u64 4 t.2.2.2.2.2.2.2.2.2.2.2.1), (.bool t.2.2.2.2.2.2.2.2.2.2.2.2.1), (.ints .u8 20 t.2.2.2.2.2.2.2.2.2.2.2.2.2.1), (.int .u64 t.2.2.2.2.2.2.2.2.2.2.2.2.2.2.1), (.int .u64 t.2.2.2.2.2.2.2.2.2.2.2.2.2.2.2.1), (.rints .u8 t.2.2.2.2.2.2.2.2.2.2.2.2.2.2.2.2.1), (.rints .u8 t.2.2.2.2.2.2.2.2.2.2.2.2.2.2.2.2.2.1)]), (.ints .u64 4 t.2.2.2.2.2.2.2.2.2.2.2.2.2.2.2.2.2.2.1), (.ints .u64 4 t.2.2.2.2.2.2.2.2.2.2.2.2.2.2.2.2.2.2.2)], [])
def userop_asked.res : (List Int) → AV × Blks
 | u => (Prod.mk (.own 0 1) [(some (.ints .u8 u))])
def userop_asked.resK {R : Type} (u : (List Int)) (K : AV → Blks → Option R) : Option R := (fun p : AV × Blks => K p.1 p.2) (Prod.mk (.own 0 1) [(some (.ints .u8 u))])
def userop_asked.c (n : Nat) : Abs.Callee := .mk' [] [none, (some (.agg [none, none, none, none, (some (.ints .u8)), (some (.ints .u8)), none, none, none, none, none, none, none, none, none, (some (.ints .u8)), (some (.ints .u8))])), none, none] userop_asked.pat (userop_asked.m n) userop_asked.resK
end
end
section
noncomputable section
noncomputable def userop_Validate.C (n : Nat) : Ctx := ⟨Tryd.prog, abiG, fun f => match f with
 | 66 => some (userop_asked.c n)
 | _ => none, fun _ => false⟩
def userop_Validate.live : Nat → List Nat × List Nat := fun k => match k with
 | _ => ([], [])
def userop_Validate.jlive : Nat → List Nat × List Nat := fun k => match k with
 | _ => ([], [])
noncomputable def userop_Validate.A (n : Nat) : Ann := ⟨Tryd.f30.ntmps, 0, userop_Validate.live, [], [(some (.ints .u8))], fun k => match k with
 | _ => none, userop_Validate.jlive, lookJ []⟩
def userop_Validate.g {α : Type} (mk0 : (List Int) → α) (n : Nat) (a0_0 : (List Int)) (a0_1 : (List Int)) (a0_2 : Bool) (a0_3 : (List Int)) (a0_4 : (List Int)) (a0_5 : (List Int)) (a0_6 : Int) (a0_7 : Int) (a0_8 : Int) (a0_9 : (List Int)) (a0_10 : (List Int)) (a0_11 : Bool) (a0_12 : (List Int)) (a0_13 : Int) (a0_14 : Int) (a0_15 : (List Int)) (a0_16 : (List Int)) (a1 : (List Int)) (a2 : (List Int)) : Option α :=
 bindO (userop_asked.m n (Prod.mk (ByteArray.mk (List.toArray [(UInt8.ofBitVec (BitVec.ofNat 8 118)), (UInt8.ofBitVec (BitVec.ofNat 8 97)), (UInt8.ofBitVec (BitVec.ofNat 8 108)), (UInt8.ofBitVec (BitVec.ofNat 8 105)), (UInt8.ofBitVec (BitVec.ofNat 8 100)), (UInt8.ofBitVec (BitVec.ofNat 8 97)), (UInt8.ofBitVec (BitVec.ofNat 8 116)), (UInt8.ofBitVec (BitVec.ofNat 8 101)), (UInt8.ofBitVec (BitVec.ofNat 8 85)), (UInt8.ofBitVec (BitVec.ofNat 8 115)), (UInt8.ofBitVec (BitVec.ofNat 8 101)), (UInt8.ofBitVec (BitVec.ofNat 8 114)), (UInt8.ofBitVec (BitVec.ofNat 8 79)), (UInt8.ofBitVec (BitVec.ofNat 8 112))])) (Prod.mk a0_0 (Prod.mk a0_1 (Prod.mk a0_2 (Prod.mk a0_3 (Prod.mk a0_4 (Prod.mk a0_5 (Prod.mk a0_6 (Prod.mk a0_7 (Prod.mk a0_8 (Prod.mk a0_9 (Prod.mk a0_10 (Prod.mk a0_11 (Prod.mk a0_12 (Prod.mk a0_13 (Prod.mk a0_14 (Prod.mk a0_15 (Prod.mk a0_16 (Prod.mk a1 a2)))))))))))))))))))) fun r2 =>
  some (mk0 r2)
def userop_Validate.m (n : Nat) (t : ((List Int) × ((List Int) × (Bool × ((List Int) × ((List Int) × ((List Int) × (Int × (Int × (Int × ((List Int) × ((List Int) × (Bool × ((List Int) × (Int × (Int × ((List Int) × ((List Int) × ((List Int) × (List Int)))))))))))))))))))) : Option (List Int) := userop_Validate.g (fun a0 => a0) n t.1 t.2.1 t.2.2.1 t.2.2.2.1 t.2.2.2.2.1 t.2.2.2.2.2.1 t.2.2.2.2.2.2.1 t.2.2.2.2.2.2.2.1 t.2.2.2.2.2.2.2.2.1 t.2.2.2.2.2.2.2.2.2.1 t.2.2.2.2.2.2.2.2.2.2.1 t.2.2.2.2.2.2.2.2.2.2.2.1 t.2.2.2.2.2.2.2.2.2.2.2.2.1 t.2.2.2.2.2.2.2.2.2.2.2.2.2.1 t.2.2.2.2.2.2.2.2.2.2.2.2.2.2.1 t.2.2.2.2.2.2.2.2.2.2.2.2.2.2.2.1 t.2.2.2.2.2.2.2.2.2.2.2.2.2.2.2.2.1 t.2.2.2.2.2.2.2.2.2.2.2.2.2.2.2.2.2.1 t.2.2.2.2.2.2.2.2.2.2.2.2.2.2.2.2.2.2
def userop_Validate.pat : List AV → Blks → Option ((List Int) × ((List Int) × (Bool × ((List Int) × ((List Int) × ((List Int) × (Int × (Int × (Int × ((List Int) × ((List Int) × (Bool × ((List Int) × (Int × (Int × ((List Int) × ((List Int) × ((List Int) × (List Int)))))))))))))))))))
 | [(.agg [(.ints .u8 20 a0_0), (.ints .u64 4 a0_1), (.bool a0_2), (.ints .u8 20 a0_3), (.rints .u8 a0_4), (.rints .u8 a0_5), (.int .u64 a0_6), (.int .u64 a0_7), (.int .u64 a0_8), (.ints .u64 4 a0_9), (.ints .u64 4 a0_10), (.bool a0_11), (.ints .u8 20 a0_12), (.int .u64 a0_13), (.int .u64 a0_14), (.rints .u8 a0_15), (.rints .u8 a0_16)]), (.ints .u64 4 a1), (.ints .u64 4 a2)], [] => some (a0_0, a0_1, a0_2, a0_3, a0_4, a0_5, a0_6, a0_7, a0_8, a0_9, a0_10, a0_11, a0_12, a0_13, a0_14, a0_15, a0_16, a1, a2)
 | _, _ => none
def userop_Validate.shape (t : ((List Int) × ((List Int) × (Bool × ((List Int) × ((List Int) × ((List Int) × (Int × (Int × (Int × ((List Int) × ((List Int) × (Bool × ((List Int) × (Int × (Int × ((List Int) × ((List Int) × ((List Int) × (List Int)))))))))))))))))))) : List AV × Blks := ([(.agg [(.ints .u8 20 t.1), (.ints .u64 4 t.2.1), (.bool t.2.2.1), (.ints .u8 20 t.2.2.2.1), (.rints .u8 t.2.2.2.2.1), (.rints .u8 t.2.2.2.2.2.1), (.int .u64 t.2.2.2.2.2.2.1), (.int .u64 t.2.2.2.2.2.2.2.1), (.int .u64 t.2.2.2.2.2.2.2.2.1), (.ints .u64 4 t.2.2.2.2.2.2.2.2.2.1), (.ints .u64 4 t.2.2.2.2.2.2.2.2.2.2.1), (.bool t.2.2.2.2.2.2.2.2.2.2.2.1), (.ints .u8 20 t.2.2.2.2.2.2.2.2.2.2.2.2.1), (.int .u64 t.2.2.2.2.2.2.2.2.2.2.2.2.2.1), (.int .u64 t.2.2.2.2.2.2.2.2.2.2.2.2.2.2.1), (.rints .u8 t.2.2.2.2.2.2.2.2.2.2.2.2.2.2.2.1), (.rints .u8 t.2.2.2.2.2.2.2.2.2.2.2.2.2.2.2.2.1)]), (.ints .u64 4 t.2.2.2.2.2.2.2.2.2.2.2.2.2.2.2.2.2.1), (.ints .u64 4 t.2.2.2.2.2.2.2.2.2.2.2.2.2.2.2.2.2.2)], [])
def userop_Validate.res : (List Int) → AV × Blks
 | u => (Prod.mk (.own 0 1) [(some (.ints .u8 u))])
def userop_Validate.resK {R : Type} (u : (List Int)) (K : AV → Blks → Option R) : Option R := (fun p : AV × Blks => K p.1 p.2) (Prod.mk (.own 0 1) [(some (.ints .u8 u))])
def userop_Validate.c (n : Nat) : Abs.Callee := .mk' [] [(some (.agg [none, none, none, none, (some (.ints .u8)), (some (.ints .u8)), none, none, none, none, none, none, none, none, none, (some (.ints .u8)), (some (.ints .u8))])), none, none] userop_Validate.pat (userop_Validate.m n) userop_Validate.resK
end
end
section
noncomputable section
noncomputable def userop_Now.C (n : Nat) : Ctx := ⟨Tryd.prog, abiG, fun f => match f with
 | _ => none, fun _ => false⟩
def userop_Now.live : Nat → List Nat × List Nat := fun k => match k with
 | _ => ([], [])
def userop_Now.jlive : Nat → List Nat × List Nat := fun k => match k with
 | _ => ([], [])
noncomputable def userop_Now.A (n : Nat) : Ann := ⟨Tryd.f27.ntmps, 0, userop_Now.live, [], [none], fun k => match k with
 | _ => none, userop_Now.jlive, lookJ []⟩
def userop_Now.g {α : Type} (mk0 : Bool → α) (n : Nat) (a0_0 : Bool) (a0_1 : Int) (a0_2 : Int) (a1 : Int) : Option α :=
 if (!a0_0) = true then
  if (decide (a1 ≥ a0_1)) = true then
   if (a0_2 == 0) = true then
    some (mk0 true)
   else
    some (mk0 (decide (a1 ≤ a0_2)))
  else
   some (mk0 false)
 else
  some (mk0 false)
def userop_Now.m (n : Nat) (t : (Bool × (Int × (Int × Int)))) : Option Bool := userop_Now.g (fun a0 => a0) n t.1 t.2.1 t.2.2.1 t.2.2.2
def userop_Now.pat : List AV → Blks → Option (Bool × (Int × (Int × Int)))
 | [(.agg [(.bool a0_0), (.int .u64 a0_1), (.int .u64 a0_2)]), (.int .u64 a1)], [] => some (a0_0, a0_1, a0_2, a1)
 | _, _ => none
def userop_Now.shape (t : (Bool × (Int × (Int × Int)))) : List AV × Blks := ([(.agg [(.bool t.1), (.int .u64 t.2.1), (.int .u64 t.2.2.1)]), (.int .u64 t.2.2.2)], [])
def userop_Now.res : Bool → AV × Blks
 | u => (Prod.mk (.bool u) [])
def userop_Now.resK {R : Type} (u : Bool) (K : AV → Blks → Option R) : Option R := (fun p : AV × Blks => K p.1 p.2) (Prod.mk (.bool u) [])
def userop_Now.c (n : Nat) : Abs.Callee := .mk' [] [none, none] userop_Now.pat (userop_Now.m n) userop_Now.resK
end
end
section
noncomputable section
noncomputable def l15_known.C (n : Nat) : Ctx := ⟨Tryd.prog, abiG, fun f => match f with
 | 24 => some (userop_Spans.c n)
 | 30 => some (userop_Validate.c n)
 | 27 => some (userop_Now.c n)
 | 45 => some (userop_Prefund.c n)
 | _ => none, fun _ => false⟩
def l15_known.live : Nat → List Nat × List Nat := fun k => match k with
 | _ => ([], [])
def l15_known.jlive : Nat → List Nat × List Nat := fun k => match k with
 | _ => ([], [])
noncomputable def l15_known.A (n : Nat) : Ann := ⟨Tryd.f25.ntmps, 0, l15_known.live, [], [none], fun k => match k with
 | _ => none, l15_known.jlive, lookJ []⟩
def l15_known.g {α : Type} (mk0 : Bool → α) (n : Nat)  : Option α :=
 bindO (userop_Spans.m n [0, 0, 429496729600, 0]) fun r2 =>
  bindO (userop_Validate.m n (Prod.mk ([0, 0, 0, 0, 0, 0, 0, 0, 0, 0, 0, 0, 0, 0, 0, 0, 0, 0, 0, 0] : List Int) (Prod.mk [0, 0, 0, 0] (Prod.mk false (Prod.mk ([0, 0, 0, 0, 0, 0, 0, 0, 0, 0, 0, 0, 0, 0, 0, 0, 0, 0, 0, 0] : List Int) (Prod.mk [] (Prod.mk [] (Prod.mk 1 (Prod.mk 2 (Prod.mk 3 (Prod.mk [10, 0, 0, 0] (Prod.mk [0, 0, 0, 0] (Prod.mk false (Prod.mk ([0, 0, 0, 0, 0, 0, 0, 0, 0, 0, 0, 0, 0, 0, 0, 0, 0, 0, 0, 0] : List Int) (Prod.mk 0 (Prod.mk 0 (Prod.mk [] (Prod.mk [] (Prod.mk [0, 0, 0, 0] [0, 0, 0, 0]))))))))))))))))))) fun r4 =>
   bindO (userop_Spans.m n [1, 0, 0, 0]) fun r6 =>
    if (Prod.fst r6) = true then
     if ((Prod.snd r2.2) == 100) = true then
      bindO (userop_Now.m n (Prod.mk (Prod.fst r2) (Prod.mk (Prod.fst r2.2) (Prod.mk (Prod.snd r2.2) 100)))) fun r12 =>
       if r12 = true then
        bindO (userop_Now.m n (Prod.mk (Prod.fst r2) (Prod.mk (Prod.fst r2.2) (Prod.mk (Prod.snd r2.2) 101)))) fun r16 =>
         if (!r16) = true then
          bindO (userop_Prefund.m n (Prod.mk ([0, 0, 0, 0, 0, 0, 0, 0, 0, 0, 0, 0, 0, 0, 0, 0, 0, 0, 0, 0] : List Int) (Prod.mk [0, 0, 0, 0] (Prod.mk false (Prod.mk ([0, 0, 0, 0, 0, 0, 0, 0, 0, 0, 0, 0, 0, 0, 0, 0, 0, 0, 0, 0] : List Int) (Prod.mk [] (Prod.mk [] (Prod.mk 1 (Prod.mk 2 (Prod.mk 3 (Prod.mk [10, 0, 0, 0] (Prod.mk [0, 0, 0, 0] (Prod.mk false (Prod.mk ([0, 0, 0, 0, 0, 0, 0, 0, 0, 0, 0, 0, 0, 0, 0, 0, 0, 0, 0, 0] : List Int) (Prod.mk 0 (Prod.mk 0 (Prod.mk [] []))))))))))))))))) fun r20 =>
           if (r20 == [60, 0, 0, 0]) = true then
            if (decide ((((List.length r4) : Nat) : Int) > 4)) = true then
             if 4 ≤ (((List.length r4) : Nat) : Int) then
              some (mk0 ((ByteArray.toList (Go.Abs.strOf (List.take (Go.Abs.span (List.length r4) 0 (Option.some 4)) (List.drop 0 r4)))) == [(Subtype.val (Subtype.mk (ByteArray.get! (ByteArray.mk (List.toArray [(UInt8.ofBitVec (BitVec.ofNat 8 25)), (UInt8.ofBitVec (BitVec.ofNat 8 130)), (UInt8.ofBitVec (BitVec.ofNat 8 47)), (UInt8.ofBitVec (BitVec.ofNat 8 124))])) 0) (And.left (Iff.mp (List.forall_mem_cons) (And.right (Iff.mp (List.forall_mem_cons) (And.right (Iff.mp (List.forall_mem_cons) (And.right (Iff.mp (List.forall_mem_cons) (List.attach._proof_1 [(ByteArray.get! (ByteArray.mk (List.toArray [(UInt8.ofBitVec (BitVec.ofNat 8 25)), (UInt8.ofBitVec (BitVec.ofNat 8 130)), (UInt8.ofBitVec (BitVec.ofNat 8 47)), (UInt8.ofBitVec (BitVec.ofNat 8 124))])) 3), (ByteArray.get! (ByteArray.mk (List.toArray [(UInt8.ofBitVec (BitVec.ofNat 8 25)), (UInt8.ofBitVec (BitVec.ofNat 8 130)), (UInt8.ofBitVec (BitVec.ofNat 8 47)), (UInt8.ofBitVec (BitVec.ofNat 8 124))])) 2), (ByteArray.get! (ByteArray.mk (List.toArray [(UInt8.ofBitVec (BitVec.ofNat 8 25)), (UInt8.ofBitVec (BitVec.ofNat 8 130)), (UInt8.ofBitVec (BitVec.ofNat 8 47)), (UInt8.ofBitVec (BitVec.ofNat 8 124))])) 1), (ByteArray.get! (ByteArray.mk (List.toArray [(UInt8.ofBitVec (BitVec.ofNat 8 25)), (UInt8.ofBitVec (BitVec.ofNat 8 130)), (UInt8.ofBitVec (BitVec.ofNat 8 47)), (UInt8.ofBitVec (BitVec.ofNat 8 124))])) 0)]))))))))))), (Subtype.val (Subtype.mk (ByteArray.get! (ByteArray.mk (List.toArray [(UInt8.ofBitVec (BitVec.ofNat 8 25)), (UInt8.ofBitVec (BitVec.ofNat 8 130)), (UInt8.ofBitVec (BitVec.ofNat 8 47)), (UInt8.ofBitVec (BitVec.ofNat 8 124))])) 1) (And.left (Iff.mp (List.forall_mem_cons) (And.right (Iff.mp (List.forall_mem_cons) (And.right (Iff.mp (List.forall_mem_cons) (List.attach._proof_1 [(ByteArray.get! (ByteArray.mk (List.toArray [(UInt8.ofBitVec (BitVec.ofNat 8 25)), (UInt8.ofBitVec (BitVec.ofNat 8 130)), (UInt8.ofBitVec (BitVec.ofNat 8 47)), (UInt8.ofBitVec (BitVec.ofNat 8 124))])) 3), (ByteArray.get! (ByteArray.mk (List.toArray [(UInt8.ofBitVec (BitVec.ofNat 8 25)), (UInt8.ofBitVec (BitVec.ofNat 8 130)), (UInt8.ofBitVec (BitVec.ofNat 8 47)), (UInt8.ofBitVec (BitVec.ofNat 8 124))])) 2), (ByteArray.get! (ByteArray.mk (List.toArray [(UInt8.ofBitVec (BitVec.ofNat 8 25)), (UInt8.ofBitVec (BitVec.ofNat 8 130)), (UInt8.ofBitVec (BitVec.ofNat 8 47)), (UInt8.ofBitVec (BitVec.ofNat 8 124))])) 1), (ByteArray.get! (ByteArray.mk (List.toArray [(UInt8.ofBitVec (BitVec.ofNat 8 25)), (UInt8.ofBitVec (BitVec.ofNat 8 130)), (UInt8.ofBitVec (BitVec.ofNat 8 47)), (UInt8.ofBitVec (BitVec.ofNat 8 124))])) 0)]))))))))), (Subtype.val (Subtype.mk (ByteArray.get! (ByteArray.mk (List.toArray [(UInt8.ofBitVec (BitVec.ofNat 8 25)), (UInt8.ofBitVec (BitVec.ofNat 8 130)), (UInt8.ofBitVec (BitVec.ofNat 8 47)), (UInt8.ofBitVec (BitVec.ofNat 8 124))])) 2) (And.left (Iff.mp (List.forall_mem_cons) (And.right (Iff.mp (List.forall_mem_cons) (List.attach._proof_1 [(ByteArray.get! (ByteArray.mk (List.toArray [(UInt8.ofBitVec (BitVec.ofNat 8 25)), (UInt8.ofBitVec (BitVec.ofNat 8 130)), (UInt8.ofBitVec (BitVec.ofNat 8 47)), (UInt8.ofBitVec (BitVec.ofNat 8 124))])) 3), (ByteArray.get! (ByteArray.mk (List.toArray [(UInt8.ofBitVec (BitVec.ofNat 8 25)), (UInt8.ofBitVec (BitVec.ofNat 8 130)), (UInt8.ofBitVec (BitVec.ofNat 8 47)), (UInt8.ofBitVec (BitVec.ofNat 8 124))])) 2), (ByteArray.get! (ByteArray.mk (List.toArray [(UInt8.ofBitVec (BitVec.ofNat 8 25)), (UInt8.ofBitVec (BitVec.ofNat 8 130)), (UInt8.ofBitVec (BitVec.ofNat 8 47)), (UInt8.ofBitVec (BitVec.ofNat 8 124))])) 1), (ByteArray.get! (ByteArray.mk (List.toArray [(UInt8.ofBitVec (BitVec.ofNat 8 25)), (UInt8.ofBitVec (BitVec.ofNat 8 130)), (UInt8.ofBitVec (BitVec.ofNat 8 47)), (UInt8.ofBitVec (BitVec.ofNat 8 124))])) 0)]))))))), (Subtype.val (Subtype.mk (ByteArray.get! (ByteArray.mk (List.toArray [(UInt8.ofBitVec (BitVec.ofNat 8 25)), (UInt8.ofBitVec (BitVec.ofNat 8 130)), (UInt8.ofBitVec (BitVec.ofNat 8 47)), (UInt8.ofBitVec (BitVec.ofNat 8 124))])) 3) (And.left (Iff.mp (List.forall_mem_cons) (List.attach._proof_1 [(ByteArray.get! (ByteArray.mk (List.toArray [(UInt8.ofBitVec (BitVec.ofNat 8 25)), (UInt8.ofBitVec (BitVec.ofNat 8 130)), (UInt8.ofBitVec (BitVec.ofNat 8 47)), (UInt8.ofBitVec (BitVec.ofNat 8 124))])) 3), (ByteArray.get! (ByteArray.mk (List.toArray [(UInt8.ofBitVec (BitVec.ofNat 8 25)), (UInt8.ofBitVec (BitVec.ofNat 8 130)), (UInt8.ofBitVec (BitVec.ofNat 8 47)), (UInt8.ofBitVec (BitVec.ofNat 8 124))])) 2), (ByteArray.get! (ByteArray.mk (List.toArray [(UInt8.ofBitVec (BitVec.ofNat 8 25)), (UInt8.ofBitVec (BitVec.ofNat 8 130)), (UInt8.ofBitVec (BitVec.ofNat 8 47)), (UInt8.ofBitVec (BitVec.ofNat 8 124))])) 1), (ByteArray.get! (ByteArray.mk (List.toArray [(UInt8.ofBitVec (BitVec.ofNat 8 25)), (UInt8.ofBitVec (BitVec.ofNat 8 130)), (UInt8.ofBitVec (BitVec.ofNat 8 47)), (UInt8.ofBitVec (BitVec.ofNat 8 124))])) 0)])))))]))
             else
              none
            else
             some (mk0 false)
           else
            some (mk0 false)
         else
          some (mk0 false)
       else
        some (mk0 false)
     else
      some (mk0 false)
    else
     some (mk0 false)
def l15_known.m (n : Nat) (t : Unit) : Option Bool := l15_known.g (fun a0 => a0) n 
def l15_known.pat : List AV → Blks → Option Unit
 | [], [] => some ()
 | _, _ => none
def l15_known.shape (t : Unit) : List AV × Blks := ([], [])
def l15_known.res : Bool → AV × Blks
 | u => (Prod.mk (.bool u) [])
def l15_known.resK {R : Type} (u : Bool) (K : AV → Blks → Option R) : Option R := (fun p : AV × Blks => K p.1 p.2) (Prod.mk (.bool u) [])
def l15_known.c (n : Nat) : Abs.Callee := .mk' [] [] l15_known.pat (l15_known.m n) l15_known.resK
end
end
section
theorem userop_Spans.gmap {α β : Type} (h : β → α) (mk0 : Bool → Int → Int → β) (n : Nat) (a0 : (List Int)) : userop_Spans.g (fun a0 a1 a2 => (h (mk0 a0 a1 a2))) n a0 = (userop_Spans.g mk0 n a0).map h := by
  unfold userop_Spans.g
  exact (bindO_map fun r2 => rfl)
theorem userop_Spans.run (n : Nat) (a0 : (List Int)) : runF (userop_Spans.C n) (userop_Spans.A n) n Tryd.f24 [(.ints .u64 4 a0)] [] (fun v o => some (v, o)) = userop_Spans.g (fun a0 a1 a2 => ((Prod.mk (.agg [(.bool a0), (.int .u64 a1), (.int .u64 a2)]) []) : AV × Blks)) n a0 := by kernel_rfl
theorem userop_Spans.call (hmix : Tryd.prog.follows .mixedOrders = true) (n : Nat) (t : (List Int)) (u) (h : userop_Spans.m n t = some u) : FnC Tryd.prog abiG 24 (userop_Spans.shape t).1 (userop_Spans.shape t).2 (userop_Spans.res u).1 (userop_Spans.res u).2 := by
  have hg : ∀ f m, (userop_Spans.C n).Γ f = some m → CalleeS Tryd.prog abiG f m := by
    intro f m hm
    unfold userop_Spans.C at hm
    simp only at hm
    first
    | (cases hm; done)
    | (split at hm <;> first
    | (cases hm; exact word_Addr.s hmix n)
    | (cases hm; done))
  have hb : Tryd.f24.body = some (Tryd.f24.body.getD .skip) := by kernel_rfl
  refine runF_calls (C := userop_Spans.C n) (A := userop_Spans.A n) (n := n) (fn := Tryd.f24) hg hmix Tryd.func24 hb ?_ ?_ (by decide) rfl rfl (by show 1 ≤ Tryd.f24.ntmps; decide) ?_
  · rw [show loopsIn (Tryd.f24.body.getD .skip) = [] by kernel_rfl]
    intro b hb
    cases hb
  · intro a ha m hm
    cases (show none = some m from hm)
  · rw [show runF (userop_Spans.C n) (userop_Spans.A n) n Tryd.f24 (userop_Spans.shape t).1 (userop_Spans.shape t).2 (fun v o => some (v, o)) = _ from userop_Spans.run n t]
    have e := userop_Spans.gmap userop_Spans.res (fun a0 a1 a2 => (a0, a1, a2)) n t
    unfold userop_Spans.m at h
    rw [h] at e
    exact e
theorem userop_Spans.s (hmix : Tryd.prog.follows .mixedOrders = true) (n : Nat) : CalleeS Tryd.prog abiG 24 (userop_Spans.c n) :=
  CalleeS.of (res := userop_Spans.res) (shape := userop_Spans.shape) (fun R u K => rfl) (fun args lent t h => by
    unfold userop_Spans.pat at h
    split at h
    · cases h; rfl
    · cases h) fun t u h => (userop_Spans.call hmix n t u h).ok Tryd.func24 (by decide) (by kernel_rfl)
end
section
theorem bits_RotateLeft64.gmap {α β : Type} (h : β → α) (mk0 : Int → β) (n : Nat) (a0 : Int) (a1 : Int) : bits_RotateLeft64.g (fun a0 => (h (mk0 a0))) n a0 a1 = (bits_RotateLeft64.g mk0 n a0 a1).map h := by
  unfold bits_RotateLeft64.g
  exact (ite_map rfl rfl)
theorem bits_RotateLeft64.run (n : Nat) (a0 : Int) (a1 : Int) : runF (bits_RotateLeft64.C n) (bits_RotateLeft64.A n) n Tryd.f130 [(.int .u64 a0), (.int .i64 a1)] [] (fun v o => some (v, o)) = bits_RotateLeft64.g (fun a0 => ((Prod.mk (.int .u64 a0) []) : AV × Blks)) n a0 a1 := by kernel_rfl
theorem bits_RotateLeft64.call (hmix : Tryd.prog.follows .mixedOrders = true) (n : Nat) (t : (Int × Int)) (u) (h : bits_RotateLeft64.m n t = some u) : FnC Tryd.prog abiG 130 (bits_RotateLeft64.shape t).1 (bits_RotateLeft64.shape t).2 (bits_RotateLeft64.res u).1 (bits_RotateLeft64.res u).2 := by
  have hg : ∀ f m, (bits_RotateLeft64.C n).Γ f = some m → CalleeS Tryd.prog abiG f m := by
    intro f m hm
    unfold bits_RotateLeft64.C at hm
    simp only at hm
    first
    | (cases hm; done)
    | (split at hm <;> first
    | (cases hm; done))
  have hb : Tryd.f130.body = some (Tryd.f130.body.getD .skip) := by kernel_rfl
  refine runF_calls (C := bits_RotateLeft64.C n) (A := bits_RotateLeft64.A n) (n := n) (fn := Tryd.f130) hg hmix Tryd.func130 hb ?_ ?_ (by decide) rfl rfl (by show 2 ≤ Tryd.f130.ntmps; decide) ?_
  · rw [show loopsIn (Tryd.f130.body.getD .skip) = [] by kernel_rfl]
    intro b hb
    cases hb
  · intro a ha m hm
    cases (show none = some m from hm)
  · rw [show runF (bits_RotateLeft64.C n) (bits_RotateLeft64.A n) n Tryd.f130 (bits_RotateLeft64.shape t).1 (bits_RotateLeft64.shape t).2 (fun v o => some (v, o)) = _ from bits_RotateLeft64.run n t.1 t.2]
    have e := bits_RotateLeft64.gmap bits_RotateLeft64.res (fun a0 => a0) n t.1 t.2
    unfold bits_RotateLeft64.m at h
    rw [h] at e
    exact e
theorem bits_RotateLeft64.s (hmix : Tryd.prog.follows .mixedOrders = true) (n : Nat) : CalleeS Tryd.prog abiG 130 (bits_RotateLeft64.c n) :=
  CalleeS.of (res := bits_RotateLeft64.res) (shape := bits_RotateLeft64.shape) (fun R u K => rfl) (fun args lent t h => by
    unfold bits_RotateLeft64.pat at h
    split at h
    · cases h; rfl
    · cases h) fun t u h => (bits_RotateLeft64.call hmix n t u h).ok Tryd.func130 (by decide) (by kernel_rfl)
end
section
theorem keccak_state_spread.l2_0.rmap {α β : Type} (h : β → α) (mk0 : (List Int) → (List Int) → β) (n : Nat) (f : Int → (List Int) → (List Int) → Option β)  (x0 : Int) (x1 : (List Int)) (x2 : (List Int)) : keccak_state_spread.l2_0.r (fun a0 a1 => (h (mk0 a0 a1))) n (fun y0 y1 y2 => (f y0 y1 y2).map h) x0 x1 x2 = (keccak_state_spread.l2_0.r mk0 n f x0 x1 x2).map h := by
  unfold keccak_state_spread.l2_0.r
  exact (ite_map (ite_map (ite_map (ite_map (ite_map (ite_map (ite_map rfl rfl) rfl) rfl) rfl) rfl) rfl) rfl)
theorem keccak_state_spread.l2_0.gmap {α β : Type} (h : β → α) (mk0 : (List Int) → (List Int) → β) (n : Nat) : ∀ (m : Nat) (x0 : Int) (x1 : (List Int)) (x2 : (List Int)), keccak_state_spread.l2_0.g (fun a0 a1 => (h (mk0 a0 a1))) n m x0 x1 x2 = (keccak_state_spread.l2_0.g mk0 n m x0 x1 x2).map h
  | 0, _, _, _ => rfl
  | m + 1, x0, x1, x2 => by
    unfold keccak_state_spread.l2_0.g
    rw [← keccak_state_spread.l2_0.rmap]
    congr
    · funext y0 y1 y2; exact keccak_state_spread.l2_0.gmap h mk0 n m y0 y1 y2
theorem keccak_state_spread.l2_0.pat_shape : ∀ st t, keccak_state_spread.l2_0.pat st = some t → st = keccak_state_spread.l2_0.shape t := by
  intro st t h
  unfold keccak_state_spread.l2_0.pat at h
  split at h
  · cases h; rfl
  · cases h
theorem keccak_state_spread.l2_0.round (n : Nat) (rc : St → Option (Ex × St)) (x0 : Int) (x1 : (List Int)) (x2 : (List Int)) : roundOf (keccak_state_spread.C n) (keccak_state_spread.A n) n keccak_state_spread.b0 rc ((St.mk [(.int .i64 x0), (.ptr 0 []), (.ptr 1 []), (.ptr 0 [])] [(some (.var (.ints .u64 25 x1))), (some (.var (.ints .u64 5 x2)))])) = keccak_state_spread.l2_0.r (fun a0 a1 => ((Prod.mk (.exit 0) (St.mk [(.ptr 0 []), (.ptr 1 [])] [(some (.var (.ints .u64 25 a0))), (some (.var (.ints .u64 5 a1)))])) : Ex × St)) n (fun y0 y1 y2 => rc ((St.mk [(.int .i64 y0), (.ptr 0 []), (.ptr 1 []), (.ptr 0 [])] [(some (.var (.ints .u64 25 y1))), (some (.var (.ints .u64 5 y2)))]))) x0 x1 x2 := by kernel_rfl
theorem keccak_state_spread.l2_0.loop' (n : Nat) : ∀ (m : Nat) (t : (Int × ((List Int) × (List Int)))), loopOf (roundOf (keccak_state_spread.C n) (keccak_state_spread.A n) n keccak_state_spread.b0) m (keccak_state_spread.l2_0.shape t) = keccak_state_spread.l2_0.g (fun a0 a1 => ((Prod.mk (.exit 0) (St.mk [(.ptr 0 []), (.ptr 1 [])] [(some (.var (.ints .u64 25 a0))), (some (.var (.ints .u64 5 a1)))])) : Ex × St)) n m t.1 t.2.1 t.2.2 :=
  loop_of_round (shape := keccak_state_spread.l2_0.shape) (body := roundOf (keccak_state_spread.C n) (keccak_state_spread.A n) n keccak_state_spread.b0) (g := fun m t => keccak_state_spread.l2_0.g (fun a0 a1 => ((Prod.mk (.exit 0) (St.mk [(.ptr 0 []), (.ptr 1 [])] [(some (.var (.ints .u64 25 a0))), (some (.var (.ints .u64 5 a1)))])) : Ex × St)) n m t.1 t.2.1 t.2.2) (fun t => rfl)
    fun m t ih => (keccak_state_spread.l2_0.round n (loopOf (roundOf (keccak_state_spread.C n) (keccak_state_spread.A n) n keccak_state_spread.b0) m) t.1 t.2.1 t.2.2).trans (congrFun (congrFun (congrFun (congrArg (keccak_state_spread.l2_0.r (fun a0 a1 => ((Prod.mk (.exit 0) (St.mk [(.ptr 0 []), (.ptr 1 [])] [(some (.var (.ints .u64 25 a0))), (some (.var (.ints .u64 5 a1)))])) : Ex × St)) n) (funext fun y0 => funext fun y1 => funext fun y2 => ih (y0, y1, y2))) t.1) t.2.1) t.2.2)
theorem keccak_state_spread.l2_0.loop (n m : Nat) (t : (Int × ((List Int) × (List Int)))) : loopOf (roundOf (keccak_state_spread.C n) (keccak_state_spread.A n) n keccak_state_spread.b0) m (keccak_state_spread.l2_0.shape t) = (keccak_state_spread.l2_0.m n m t).map keccak_state_spread.l2_0.res :=
  (keccak_state_spread.l2_0.loop' n m t).trans (keccak_state_spread.l2_0.gmap keccak_state_spread.l2_0.res (fun a0 a1 => (a0, a1)) n m t.1 t.2.1 t.2.2)
theorem keccak_state_spread.l7_0.rmap {α β : Type} (h : β → α) (mk0 : (List Int) → β) (n : Nat) (f : Int → (List Int) → (List Int) → Option β)  (x0 : Int) (x1 : (List Int)) (x2 : (List Int)) : keccak_state_spread.l7_0.r (fun a0 => (h (mk0 a0))) n (fun y0 y1 y2 => (f y0 y1 y2).map h) x0 x1 x2 = (keccak_state_spread.l7_0.r mk0 n f x0 x1 x2).map h := by
  unfold keccak_state_spread.l7_0.r
  exact (ite_map (ite_map (ite_map (ite_map (ite_map (ite_map (ite_map (bindO_map fun r18 => (ite_map (ite_map rfl rfl) rfl)) rfl) rfl) rfl) rfl) rfl) rfl) rfl)
theorem keccak_state_spread.l7_0.gmap {α β : Type} (h : β → α) (mk0 : (List Int) → β) (n : Nat) : ∀ (m : Nat) (x0 : Int) (x1 : (List Int)) (x2 : (List Int)), keccak_state_spread.l7_0.g (fun a0 => (h (mk0 a0))) n m x0 x1 x2 = (keccak_state_spread.l7_0.g mk0 n m x0 x1 x2).map h
  | 0, _, _, _ => rfl
  | m + 1, x0, x1, x2 => by
    unfold keccak_state_spread.l7_0.g
    rw [← keccak_state_spread.l7_0.rmap]
    congr
    · funext y0 y1 y2; exact keccak_state_spread.l7_0.gmap h mk0 n m y0 y1 y2
theorem keccak_state_spread.l7_0.pat_shape : ∀ st t, keccak_state_spread.l7_0.pat st = some t → st = keccak_state_spread.l7_0.shape t := by
  intro st t h
  unfold keccak_state_spread.l7_0.pat at h
  split at h
  · cases h; rfl
  · cases h
theorem keccak_state_spread.l7_0.round (n : Nat) (rc : St → Option (Ex × St)) (x0 : Int) (x1 : (List Int)) (x2 : (List Int)) : roundOf (keccak_state_spread.C n) (keccak_state_spread.A n) n keccak_state_spread.b1 rc ((St.mk [(.int .i64 x0), (.ptr 0 []), (.ptr 1 [])] [(some (.var (.ints .u64 25 x1))), (some (.var (.ints .u64 5 x2)))])) = keccak_state_spread.l7_0.r (fun a0 => ((Prod.mk (.exit 2) (St.mk [] [(some (.var (.ints .u64 25 a0)))])) : Ex × St)) n (fun y0 y1 y2 => rc ((St.mk [(.int .i64 y0), (.ptr 0 []), (.ptr 1 [])] [(some (.var (.ints .u64 25 y1))), (some (.var (.ints .u64 5 y2)))]))) x0 x1 x2 := by kernel_rfl
theorem keccak_state_spread.l7_0.loop' (n : Nat) : ∀ (m : Nat) (t : (Int × ((List Int) × (List Int)))), loopOf (roundOf (keccak_state_spread.C n) (keccak_state_spread.A n) n keccak_state_spread.b1) m (keccak_state_spread.l7_0.shape t) = keccak_state_spread.l7_0.g (fun a0 => ((Prod.mk (.exit 2) (St.mk [] [(some (.var (.ints .u64 25 a0)))])) : Ex × St)) n m t.1 t.2.1 t.2.2 :=
  loop_of_round (shape := keccak_state_spread.l7_0.shape) (body := roundOf (keccak_state_spread.C n) (keccak_state_spread.A n) n keccak_state_spread.b1) (g := fun m t => keccak_state_spread.l7_0.g (fun a0 => ((Prod.mk (.exit 2) (St.mk [] [(some (.var (.ints .u64 25 a0)))])) : Ex × St)) n m t.1 t.2.1 t.2.2) (fun t => rfl)
    fun m t ih => (keccak_state_spread.l7_0.round n (loopOf (roundOf (keccak_state_spread.C n) (keccak_state_spread.A n) n keccak_state_spread.b1) m) t.1 t.2.1 t.2.2).trans (congrFun (congrFun (congrFun (congrArg (keccak_state_spread.l7_0.r (fun a0 => ((Prod.mk (.exit 2) (St.mk [] [(some (.var (.ints .u64 25 a0)))])) : Ex × St)) n) (funext fun y0 => funext fun y1 => funext fun y2 => ih (y0, y1, y2))) t.1) t.2.1) t.2.2)
theorem keccak_state_spread.l7_0.loop (n m : Nat) (t : (Int × ((List Int) × (List Int)))) : loopOf (roundOf (keccak_state_spread.C n) (keccak_state_spread.A n) n keccak_state_spread.b1) m (keccak_state_spread.l7_0.shape t) = (keccak_state_spread.l7_0.m n m t).map keccak_state_spread.l7_0.res :=
  (keccak_state_spread.l7_0.loop' n m t).trans (keccak_state_spread.l7_0.gmap keccak_state_spread.l7_0.res (fun a0 => a0) n m t.1 t.2.1 t.2.2)
theorem keccak_state_spread.gmap {α β : Type} (h : β → α) (mk0 : (List Int) → β) (n : Nat) (s : (List Int)) : keccak_state_spread.g (fun a0 => (h (mk0 a0))) n s = (keccak_state_spread.g mk0 n s).map h := by
  unfold keccak_state_spread.g
  exact (bindO_map fun r2 => (bindO_map fun r4 => rfl))
theorem keccak_state_spread.run (n : Nat) (s : (List Int)) : runF (keccak_state_spread.C n) (keccak_state_spread.A n) n Tryd.f124 [(.ptr 0 [])] [(some (.var (.ints .u64 25 s)))] (fun v o => some (v, o)) = keccak_state_spread.g (fun a0 => ((Prod.mk (.tup []) [(some (.var (.ints .u64 25 a0)))]) : AV × Blks)) n s := by kernel_rfl
theorem keccak_state_spread.call (hmix : Tryd.prog.follows .mixedOrders = true) (n : Nat) (t : (List Int)) (u) (h : keccak_state_spread.m n t = some u) : FnC Tryd.prog abiG 124 (keccak_state_spread.shape t).1 (keccak_state_spread.shape t).2 (keccak_state_spread.res u).1 (keccak_state_spread.res u).2 := by
  have hg : ∀ f m, (keccak_state_spread.C n).Γ f = some m → CalleeS Tryd.prog abiG f m := by
    intro f m hm
    unfold keccak_state_spread.C at hm
    simp only at hm
    first
    | (cases hm; done)
    | (split at hm <;> first
    | (cases hm; exact bits_RotateLeft64.s hmix n)
    | (cases hm; done))
  have hb : Tryd.f124.body = some (Tryd.f124.body.getD .skip) := by kernel_rfl
  refine runF_calls (C := keccak_state_spread.C n) (A := keccak_state_spread.A n) (n := n) (fn := Tryd.f124) hg hmix Tryd.func124 hb ?_ ?_ (by decide) rfl rfl (by show 1 ≤ Tryd.f124.ntmps; decide) ?_
  · rw [show loopsIn (Tryd.f124.body.getD .skip) = [keccak_state_spread.b0, keccak_state_spread.b1] by kernel_rfl]
    intro b hb m hm
    simp only [List.mem_cons, List.not_mem_nil, or_false] at hb
    rcases hb with rfl | rfl
    · have e : (keccak_state_spread.A n).loop (key keccak_state_spread.b0) = some (.mk' keccak_state_spread.l2_0.pat (keccak_state_spread.l2_0.m n n) keccak_state_spread.l2_0.resK) := by rw [show key keccak_state_spread.b0 = 2 by kernel_rfl]; rfl
      rw [e] at hm
      cases hm
      exact (LoopS.of (res := keccak_state_spread.l2_0.res) (fun R u K => rfl) keccak_state_spread.l2_0.pat_shape fun t => keccak_state_spread.l2_0.loop n n t)
    · have e : (keccak_state_spread.A n).loop (key keccak_state_spread.b1) = some (.mk' keccak_state_spread.l7_0.pat (keccak_state_spread.l7_0.m n n) keccak_state_spread.l7_0.resK) := by rw [show key keccak_state_spread.b1 = 7 by kernel_rfl]; rfl
      rw [e] at hm
      cases hm
      exact (LoopS.of (res := keccak_state_spread.l7_0.res) (fun R u K => rfl) keccak_state_spread.l7_0.pat_shape fun t => keccak_state_spread.l7_0.loop n n t)
  · intro a ha m hm
    cases (show none = some m from hm)
  · rw [show runF (keccak_state_spread.C n) (keccak_state_spread.A n) n Tryd.f124 (keccak_state_spread.shape t).1 (keccak_state_spread.shape t).2 (fun v o => some (v, o)) = _ from keccak_state_spread.run n t]
    have e := keccak_state_spread.gmap keccak_state_spread.res (fun a0 => a0) n t
    unfold keccak_state_spread.m at h
    rw [h] at e
    exact e
theorem keccak_state_spread.s (hmix : Tryd.prog.follows .mixedOrders = true) (n : Nat) : CalleeS Tryd.prog abiG 124 (keccak_state_spread.c n) :=
  CalleeS.of (res := keccak_state_spread.res) (shape := keccak_state_spread.shape) (fun R u K => rfl) (fun args lent t h => by
    unfold keccak_state_spread.pat at h
    split at h
    · cases h; rfl
    · cases h) fun t u h => (keccak_state_spread.call hmix n t u h).ok Tryd.func124 (by decide) (by kernel_rfl)
end
section
theorem keccak_state_turn.l2_0.rmap {α β : Type} (h : β → α) (mk0 : (List Int) → β) (n : Nat) (f : Int → Int → (List Int) → Option β)  (x0 : Int) (x1 : Int) (x2 : (List Int)) : keccak_state_turn.l2_0.r (fun a0 => (h (mk0 a0))) n (fun y0 y1 y2 => (f y0 y1 y2).map h) x0 x1 x2 = (keccak_state_turn.l2_0.r mk0 n f x0 x1 x2).map h := by
  unfold keccak_state_turn.l2_0.r
  exact (ite_map (ite_map (ite_map (ite_map (ite_map (ite_map (ite_map (ite_map (ite_map (bindO_map fun r22 => (ite_map (ite_map rfl rfl) rfl)) rfl) rfl) rfl) rfl) rfl) rfl) rfl) rfl) rfl)
theorem keccak_state_turn.l2_0.gmap {α β : Type} (h : β → α) (mk0 : (List Int) → β) (n : Nat) : ∀ (m : Nat) (x0 : Int) (x1 : Int) (x2 : (List Int)), keccak_state_turn.l2_0.g (fun a0 => (h (mk0 a0))) n m x0 x1 x2 = (keccak_state_turn.l2_0.g mk0 n m x0 x1 x2).map h
  | 0, _, _, _ => rfl
  | m + 1, x0, x1, x2 => by
    unfold keccak_state_turn.l2_0.g
    rw [← keccak_state_turn.l2_0.rmap]
    congr
    · funext y0 y1 y2; exact keccak_state_turn.l2_0.gmap h mk0 n m y0 y1 y2
theorem keccak_state_turn.l2_0.pat_shape : ∀ st t, keccak_state_turn.l2_0.pat st = some t → st = keccak_state_turn.l2_0.shape t := by
  intro st t h
  unfold keccak_state_turn.l2_0.pat at h
  split at h
  · cases h; rfl
  · cases h
theorem keccak_state_turn.l2_0.round (n : Nat) (rc : St → Option (Ex × St)) (x0 : Int) (x1 : Int) (x2 : (List Int)) : roundOf (keccak_state_turn.C n) (keccak_state_turn.A n) n keccak_state_turn.b0 rc ((St.mk [(.int .i64 x0), (.ptr 0 []), (.int .u64 x1)] [(some (.var (.ints .u64 25 x2)))])) = keccak_state_turn.l2_0.r (fun a0 => ((Prod.mk (.exit 0) (St.mk [] [(some (.var (.ints .u64 25 a0)))])) : Ex × St)) n (fun y0 y1 y2 => rc ((St.mk [(.int .i64 y0), (.ptr 0 []), (.int .u64 y1)] [(some (.var (.ints .u64 25 y2)))]))) x0 x1 x2 := by kernel_rfl
theorem keccak_state_turn.l2_0.loop' (n : Nat) : ∀ (m : Nat) (t : (Int × (Int × (List Int)))), loopOf (roundOf (keccak_state_turn.C n) (keccak_state_turn.A n) n keccak_state_turn.b0) m (keccak_state_turn.l2_0.shape t) = keccak_state_turn.l2_0.g (fun a0 => ((Prod.mk (.exit 0) (St.mk [] [(some (.var (.ints .u64 25 a0)))])) : Ex × St)) n m t.1 t.2.1 t.2.2 :=
  loop_of_round (shape := keccak_state_turn.l2_0.shape) (body := roundOf (keccak_state_turn.C n) (keccak_state_turn.A n) n keccak_state_turn.b0) (g := fun m t => keccak_state_turn.l2_0.g (fun a0 => ((Prod.mk (.exit 0) (St.mk [] [(some (.var (.ints .u64 25 a0)))])) : Ex × St)) n m t.1 t.2.1 t.2.2) (fun t => rfl)
    fun m t ih => (keccak_state_turn.l2_0.round n (loopOf (roundOf (keccak_state_turn.C n) (keccak_state_turn.A n) n keccak_state_turn.b0) m) t.1 t.2.1 t.2.2).trans (congrFun (congrFun (congrFun (congrArg (keccak_state_turn.l2_0.r (fun a0 => ((Prod.mk (.exit 0) (St.mk [] [(some (.var (.ints .u64 25 a0)))])) : Ex × St)) n) (funext fun y0 => funext fun y1 => funext fun y2 => ih (y0, y1, y2))) t.1) t.2.1) t.2.2)
theorem keccak_state_turn.l2_0.loop (n m : Nat) (t : (Int × (Int × (List Int)))) : loopOf (roundOf (keccak_state_turn.C n) (keccak_state_turn.A n) n keccak_state_turn.b0) m (keccak_state_turn.l2_0.shape t) = (keccak_state_turn.l2_0.m n m t).map keccak_state_turn.l2_0.res :=
  (keccak_state_turn.l2_0.loop' n m t).trans (keccak_state_turn.l2_0.gmap keccak_state_turn.l2_0.res (fun a0 => a0) n m t.1 t.2.1 t.2.2)
theorem keccak_state_turn.gmap {α β : Type} (h : β → α) (mk0 : (List Int) → β) (n : Nat) (s : (List Int)) : keccak_state_turn.g (fun a0 => (h (mk0 a0))) n s = (keccak_state_turn.g mk0 n s).map h := by
  unfold keccak_state_turn.g
  exact (bindO_map fun r2 => rfl)
theorem keccak_state_turn.run (n : Nat) (s : (List Int)) : runF (keccak_state_turn.C n) (keccak_state_turn.A n) n Tryd.f125 [(.ptr 0 [])] [(some (.var (.ints .u64 25 s)))] (fun v o => some (v, o)) = keccak_state_turn.g (fun a0 => ((Prod.mk (.tup []) [(some (.var (.ints .u64 25 a0)))]) : AV × Blks)) n s := by kernel_rfl
theorem keccak_state_turn.call (hmix : Tryd.prog.follows .mixedOrders = true) (n : Nat) (t : (List Int)) (u) (h : keccak_state_turn.m n t = some u) : FnC Tryd.prog abiG 125 (keccak_state_turn.shape t).1 (keccak_state_turn.shape t).2 (keccak_state_turn.res u).1 (keccak_state_turn.res u).2 := by
  have hg : ∀ f m, (keccak_state_turn.C n).Γ f = some m → CalleeS Tryd.prog abiG f m := by
    intro f m hm
    unfold keccak_state_turn.C at hm
    simp only at hm
    first
    | (cases hm; done)
    | (split at hm <;> first
    | (cases hm; exact bits_RotateLeft64.s hmix n)
    | (cases hm; done))
  have hb : Tryd.f125.body = some (Tryd.f125.body.getD .skip) := by kernel_rfl
  refine runF_calls (C := keccak_state_turn.C n) (A := keccak_state_turn.A n) (n := n) (fn := Tryd.f125) hg hmix Tryd.func125 hb ?_ ?_ (by decide) rfl rfl (by show 1 ≤ Tryd.f125.ntmps; decide) ?_
  · rw [show loopsIn (Tryd.f125.body.getD .skip) = [keccak_state_turn.b0] by kernel_rfl]
    intro b hb m hm
    simp only [List.mem_cons, List.not_mem_nil, or_false] at hb
    rcases hb with rfl
    · have e : (keccak_state_turn.A n).loop (key keccak_state_turn.b0) = some (.mk' keccak_state_turn.l2_0.pat (keccak_state_turn.l2_0.m n n) keccak_state_turn.l2_0.resK) := by rw [show key keccak_state_turn.b0 = 2 by kernel_rfl]; rfl
      rw [e] at hm
      cases hm
      exact (LoopS.of (res := keccak_state_turn.l2_0.res) (fun R u K => rfl) keccak_state_turn.l2_0.pat_shape fun t => keccak_state_turn.l2_0.loop n n t)
  · intro a ha m hm
    cases (show none = some m from hm)
  · rw [show runF (keccak_state_turn.C n) (keccak_state_turn.A n) n Tryd.f125 (keccak_state_turn.shape t).1 (keccak_state_turn.shape t).2 (fun v o => some (v, o)) = _ from keccak_state_turn.run n t]
    have e := keccak_state_turn.gmap keccak_state_turn.res (fun a0 => a0) n t
    unfold keccak_state_turn.m at h
    rw [h] at e
    exact e
theorem keccak_state_turn.s (hmix : Tryd.prog.follows .mixedOrders = true) (n : Nat) : CalleeS Tryd.prog abiG 125 (keccak_state_turn.c n) :=
  CalleeS.of (res := keccak_state_turn.res) (shape := keccak_state_turn.shape) (fun R u K => rfl) (fun args lent t h => by
    unfold keccak_state_turn.pat at h
    split at h
    · cases h; rfl
    · cases h) fun t u h => (keccak_state_turn.call hmix n t u h).ok Tryd.func125 (by decide) (by kernel_rfl)
end
section
theorem keccak_state_row.l5_0.rmap {α β : Type} (h : β → α) (mk0 : Int → (List Int) → β) (n : Nat) (f : Int → Int → (List Int) → (List Int) → Option β)  (x0 : Int) (x1 : Int) (x2 : (List Int)) (x3 : (List Int)) : keccak_state_row.l5_0.r (fun a0 a1 => (h (mk0 a0 a1))) n (fun y0 y1 y2 y3 => (f y0 y1 y2 y3).map h) x0 x1 x2 x3 = (keccak_state_row.l5_0.r mk0 n f x0 x1 x2 x3).map h := by
  unfold keccak_state_row.l5_0.r
  exact (ite_map (ite_map (ite_map (ite_map (ite_map (ite_map (ite_map (ite_map (ite_map rfl rfl) rfl) rfl) rfl) rfl) rfl) rfl) rfl) rfl)
theorem keccak_state_row.l5_0.gmap {α β : Type} (h : β → α) (mk0 : Int → (List Int) → β) (n : Nat) : ∀ (m : Nat) (x0 : Int) (x1 : Int) (x2 : (List Int)) (x3 : (List Int)), keccak_state_row.l5_0.g (fun a0 a1 => (h (mk0 a0 a1))) n m x0 x1 x2 x3 = (keccak_state_row.l5_0.g mk0 n m x0 x1 x2 x3).map h
  | 0, _, _, _, _ => rfl
  | m + 1, x0, x1, x2, x3 => by
    unfold keccak_state_row.l5_0.g
    rw [← keccak_state_row.l5_0.rmap]
    congr
    · funext y0 y1 y2 y3; exact keccak_state_row.l5_0.gmap h mk0 n m y0 y1 y2 y3
theorem keccak_state_row.l5_0.pat_shape : ∀ st t, keccak_state_row.l5_0.pat st = some t → st = keccak_state_row.l5_0.shape t := by
  intro st t h
  unfold keccak_state_row.l5_0.pat at h
  split at h
  · cases h; rfl
  · cases h
theorem keccak_state_row.l5_0.round (n : Nat) (rc : St → Option (Ex × St)) (x0 : Int) (x1 : Int) (x2 : (List Int)) (x3 : (List Int)) : roundOf (keccak_state_row.C n) (keccak_state_row.A n) n keccak_state_row.b1 rc ((St.mk [(.int .i64 x0), (.ptr 0 []), (.int .i64 x1), (.ptr 1 [])] [(some (.var (.ints .u64 25 x2))), (some (.var (.ints .u64 5 x3)))])) = keccak_state_row.l5_0.r (fun a0 a1 => ((Prod.mk (.exit 2) (St.mk [(.int .i64 a0), (.ptr 0 [])] [(some (.var (.ints .u64 25 a1)))])) : Ex × St)) n (fun y0 y1 y2 y3 => rc ((St.mk [(.int .i64 y0), (.ptr 0 []), (.int .i64 y1), (.ptr 1 [])] [(some (.var (.ints .u64 25 y2))), (some (.var (.ints .u64 5 y3)))]))) x0 x1 x2 x3 := by kernel_rfl
theorem keccak_state_row.l5_0.loop' (n : Nat) : ∀ (m : Nat) (t : (Int × (Int × ((List Int) × (List Int))))), loopOf (roundOf (keccak_state_row.C n) (keccak_state_row.A n) n keccak_state_row.b1) m (keccak_state_row.l5_0.shape t) = keccak_state_row.l5_0.g (fun a0 a1 => ((Prod.mk (.exit 2) (St.mk [(.int .i64 a0), (.ptr 0 [])] [(some (.var (.ints .u64 25 a1)))])) : Ex × St)) n m t.1 t.2.1 t.2.2.1 t.2.2.2 :=
  loop_of_round (shape := keccak_state_row.l5_0.shape) (body := roundOf (keccak_state_row.C n) (keccak_state_row.A n) n keccak_state_row.b1) (g := fun m t => keccak_state_row.l5_0.g (fun a0 a1 => ((Prod.mk (.exit 2) (St.mk [(.int .i64 a0), (.ptr 0 [])] [(some (.var (.ints .u64 25 a1)))])) : Ex × St)) n m t.1 t.2.1 t.2.2.1 t.2.2.2) (fun t => rfl)
    fun m t ih => (keccak_state_row.l5_0.round n (loopOf (roundOf (keccak_state_row.C n) (keccak_state_row.A n) n keccak_state_row.b1) m) t.1 t.2.1 t.2.2.1 t.2.2.2).trans (congrFun (congrFun (congrFun (congrFun (congrArg (keccak_state_row.l5_0.r (fun a0 a1 => ((Prod.mk (.exit 2) (St.mk [(.int .i64 a0), (.ptr 0 [])] [(some (.var (.ints .u64 25 a1)))])) : Ex × St)) n) (funext fun y0 => funext fun y1 => funext fun y2 => funext fun y3 => ih (y0, y1, y2, y3))) t.1) t.2.1) t.2.2.1) t.2.2.2)
theorem keccak_state_row.l5_0.loop (n m : Nat) (t : (Int × (Int × ((List Int) × (List Int))))) : loopOf (roundOf (keccak_state_row.C n) (keccak_state_row.A n) n keccak_state_row.b1) m (keccak_state_row.l5_0.shape t) = (keccak_state_row.l5_0.m n m t).map keccak_state_row.l5_0.res :=
  (keccak_state_row.l5_0.loop' n m t).trans (keccak_state_row.l5_0.gmap keccak_state_row.l5_0.res (fun a0 a1 => (a0, a1)) n m t.1 t.2.1 t.2.2.1 t.2.2.2)
theorem keccak_state_row.l1_0.rmap {α β : Type} (h : β → α) (mk0 : (List Int) → β) (n : Nat) (f : Int → (List Int) → Option β)  (x0 : Int) (x1 : (List Int)) : keccak_state_row.l1_0.r (fun a0 => (h (mk0 a0))) n (fun y0 y1 => (f y0 y1).map h) x0 x1 = (keccak_state_row.l1_0.r mk0 n f x0 x1).map h := by
  unfold keccak_state_row.l1_0.r
  exact (ite_map (ite_map (ite_map (ite_map (ite_map (ite_map (bindO_map fun r16 => rfl) rfl) rfl) rfl) rfl) rfl) rfl)
theorem keccak_state_row.l1_0.gmap {α β : Type} (h : β → α) (mk0 : (List Int) → β) (n : Nat) : ∀ (m : Nat) (x0 : Int) (x1 : (List Int)), keccak_state_row.l1_0.g (fun a0 => (h (mk0 a0))) n m x0 x1 = (keccak_state_row.l1_0.g mk0 n m x0 x1).map h
  | 0, _, _ => rfl
  | m + 1, x0, x1 => by
    unfold keccak_state_row.l1_0.g
    rw [← keccak_state_row.l1_0.rmap]
    congr
    · funext y0 y1; exact keccak_state_row.l1_0.gmap h mk0 n m y0 y1
theorem keccak_state_row.l1_0.pat_shape : ∀ st t, keccak_state_row.l1_0.pat st = some t → st = keccak_state_row.l1_0.shape t := by
  intro st t h
  unfold keccak_state_row.l1_0.pat at h
  split at h
  · cases h; rfl
  · cases h
theorem keccak_state_row.l1_0.round (n : Nat) (rc : St → Option (Ex × St)) (x0 : Int) (x1 : (List Int)) : roundOf (keccak_state_row.C n) (keccak_state_row.A n) n keccak_state_row.b0 rc ((St.mk [(.int .i64 x0), (.ptr 0 [])] [(some (.var (.ints .u64 25 x1)))])) = keccak_state_row.l1_0.r (fun a0 => ((Prod.mk (.exit 0) (St.mk [] [(some (.var (.ints .u64 25 a0)))])) : Ex × St)) n (fun y0 y1 => rc ((St.mk [(.int .i64 y0), (.ptr 0 [])] [(some (.var (.ints .u64 25 y1)))]))) x0 x1 := by kernel_rfl
theorem keccak_state_row.l1_0.loop' (n : Nat) : ∀ (m : Nat) (t : (Int × (List Int))), loopOf (roundOf (keccak_state_row.C n) (keccak_state_row.A n) n keccak_state_row.b0) m (keccak_state_row.l1_0.shape t) = keccak_state_row.l1_0.g (fun a0 => ((Prod.mk (.exit 0) (St.mk [] [(some (.var (.ints .u64 25 a0)))])) : Ex × St)) n m t.1 t.2 :=
  loop_of_round (shape := keccak_state_row.l1_0.shape) (body := roundOf (keccak_state_row.C n) (keccak_state_row.A n) n keccak_state_row.b0) (g := fun m t => keccak_state_row.l1_0.g (fun a0 => ((Prod.mk (.exit 0) (St.mk [] [(some (.var (.ints .u64 25 a0)))])) : Ex × St)) n m t.1 t.2) (fun t => rfl)
    fun m t ih => (keccak_state_row.l1_0.round n (loopOf (roundOf (keccak_state_row.C n) (keccak_state_row.A n) n keccak_state_row.b0) m) t.1 t.2).trans (congrFun (congrFun (congrArg (keccak_state_row.l1_0.r (fun a0 => ((Prod.mk (.exit 0) (St.mk [] [(some (.var (.ints .u64 25 a0)))])) : Ex × St)) n) (funext fun y0 => funext fun y1 => ih (y0, y1))) t.1) t.2)
theorem keccak_state_row.l1_0.loop (n m : Nat) (t : (Int × (List Int))) : loopOf (roundOf (keccak_state_row.C n) (keccak_state_row.A n) n keccak_state_row.b0) m (keccak_state_row.l1_0.shape t) = (keccak_state_row.l1_0.m n m t).map keccak_state_row.l1_0.res :=
  (keccak_state_row.l1_0.loop' n m t).trans (keccak_state_row.l1_0.gmap keccak_state_row.l1_0.res (fun a0 => a0) n m t.1 t.2)
theorem keccak_state_row.gmap {α β : Type} (h : β → α) (mk0 : (List Int) → β) (n : Nat) (s : (List Int)) : keccak_state_row.g (fun a0 => (h (mk0 a0))) n s = (keccak_state_row.g mk0 n s).map h := by
  unfold keccak_state_row.g
  exact (bindO_map fun r2 => rfl)
theorem keccak_state_row.run (n : Nat) (s : (List Int)) : runF (keccak_state_row.C n) (keccak_state_row.A n) n Tryd.f126 [(.ptr 0 [])] [(some (.var (.ints .u64 25 s)))] (fun v o => some (v, o)) = keccak_state_row.g (fun a0 => ((Prod.mk (.tup []) [(some (.var (.ints .u64 25 a0)))]) : AV × Blks)) n s := by kernel_rfl
theorem keccak_state_row.call (hmix : Tryd.prog.follows .mixedOrders = true) (n : Nat) (t : (List Int)) (u) (h : keccak_state_row.m n t = some u) : FnC Tryd.prog abiG 126 (keccak_state_row.shape t).1 (keccak_state_row.shape t).2 (keccak_state_row.res u).1 (keccak_state_row.res u).2 := by
  have hg : ∀ f m, (keccak_state_row.C n).Γ f = some m → CalleeS Tryd.prog abiG f m := by
    intro f m hm
    unfold keccak_state_row.C at hm
    simp only at hm
    first
    | (cases hm; done)
    | (split at hm <;> first
    | (cases hm; done))
  have hb : Tryd.f126.body = some (Tryd.f126.body.getD .skip) := by kernel_rfl
  refine runF_calls (C := keccak_state_row.C n) (A := keccak_state_row.A n) (n := n) (fn := Tryd.f126) hg hmix Tryd.func126 hb ?_ ?_ (by decide) rfl rfl (by show 1 ≤ Tryd.f126.ntmps; decide) ?_
  · rw [show loopsIn (Tryd.f126.body.getD .skip) = [keccak_state_row.b0, keccak_state_row.b1] by kernel_rfl]
    intro b hb m hm
    simp only [List.mem_cons, List.not_mem_nil, or_false] at hb
    rcases hb with rfl | rfl
    · have e : (keccak_state_row.A n).loop (key keccak_state_row.b0) = some (.mk' keccak_state_row.l1_0.pat (keccak_state_row.l1_0.m n n) keccak_state_row.l1_0.resK) := by rw [show key keccak_state_row.b0 = 1 by kernel_rfl]; rfl
      rw [e] at hm
      cases hm
      exact (LoopS.of (res := keccak_state_row.l1_0.res) (fun R u K => rfl) keccak_state_row.l1_0.pat_shape fun t => keccak_state_row.l1_0.loop n n t)
    · have e : (keccak_state_row.A n).loop (key keccak_state_row.b1) = some (.mk' keccak_state_row.l5_0.pat (keccak_state_row.l5_0.m n n) keccak_state_row.l5_0.resK) := by rw [show key keccak_state_row.b1 = 5 by kernel_rfl]; rfl
      rw [e] at hm
      cases hm
      exact (LoopS.of (res := keccak_state_row.l5_0.res) (fun R u K => rfl) keccak_state_row.l5_0.pat_shape fun t => keccak_state_row.l5_0.loop n n t)
  · intro a ha m hm
    cases (show none = some m from hm)
  · rw [show runF (keccak_state_row.C n) (keccak_state_row.A n) n Tryd.f126 (keccak_state_row.shape t).1 (keccak_state_row.shape t).2 (fun v o => some (v, o)) = _ from keccak_state_row.run n t]
    have e := keccak_state_row.gmap keccak_state_row.res (fun a0 => a0) n t
    unfold keccak_state_row.m at h
    rw [h] at e
    exact e
theorem keccak_state_row.s (hmix : Tryd.prog.follows .mixedOrders = true) (n : Nat) : CalleeS Tryd.prog abiG 126 (keccak_state_row.c n) :=
  CalleeS.of (res := keccak_state_row.res) (shape := keccak_state_row.shape) (fun R u K => rfl) (fun args lent t h => by
    unfold keccak_state_row.pat at h
    split at h
    · cases h; rfl
    · cases h) fun t u h => (keccak_state_row.call hmix n t u h).ok Tryd.func126 (by decide) (by kernel_rfl)
end
