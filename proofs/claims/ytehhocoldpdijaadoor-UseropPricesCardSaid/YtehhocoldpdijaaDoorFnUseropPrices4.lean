/- What the program's functions compute, as plain functions, each with its proof: the function does just that. Condition: the plain function has an answer. -/
import Derived.Test.YtehhocoldpdijaaDoorFnUseropPrices3
import Derived.Test.YtehhocoldpdijaaDoorFnUseropPrices2
import Derived.Test.YtehhocoldpdijaaDoorFnUseropPrices1
import Derived.Test.YtehhocoldpdijaaDoorAbsF6
import Derived.Test.YtehhocoldpdijaaDoorProg
set_option linter.unusedVariables false
set_option linter.unusedSimpArgs false
set_option maxRecDepth 100000
open Go Go.Abs Go.Proofs
section
theorem keccak_state_mix.l1_0.rmap {α β : Type} (h : β → α) (mk0 : (List Int) → β) (n : Nat) (f : Int → (List Int) → Option β)  (x0 : Int) (x1 : (List Int)) : keccak_state_mix.l1_0.r (fun a0 => (h (mk0 a0))) n (fun y0 y1 => (f y0 y1).map h) x0 x1 = (keccak_state_mix.l1_0.r mk0 n f x0 x1).map h := by
  unfold keccak_state_mix.l1_0.r
  exact (ite_map (bindO_map fun r6 => (bindO_map fun r8 => (bindO_map fun r10 => (ite_map (ite_map rfl rfl) rfl)))) rfl)
theorem keccak_state_mix.l1_0.gmap {α β : Type} (h : β → α) (mk0 : (List Int) → β) (n : Nat) : ∀ (m : Nat) (x0 : Int) (x1 : (List Int)), keccak_state_mix.l1_0.g (fun a0 => (h (mk0 a0))) n m x0 x1 = (keccak_state_mix.l1_0.g mk0 n m x0 x1).map h
  | 0, _, _ => rfl
  | m + 1, x0, x1 => by
    unfold keccak_state_mix.l1_0.g
    rw [← keccak_state_mix.l1_0.rmap]
    congr
    · funext y0 y1; exact keccak_state_mix.l1_0.gmap h mk0 n m y0 y1
theorem keccak_state_mix.l1_0.pat_shape : ∀ st t, keccak_state_mix.l1_0.pat st = some t → st = keccak_state_mix.l1_0.shape t := by
  intro st t h
  unfold keccak_state_mix.l1_0.pat at h
  split at h
  · cases h; rfl
  · cases h
theorem keccak_state_mix.l1_0.round (n : Nat) (rc : St → Option (Ex × St)) (x0 : Int) (x1 : (List Int)) : roundOf (keccak_state_mix.C n) (keccak_state_mix.A n) n keccak_state_mix.b0 rc ((St.mk [(.int .i64 x0), (.ptr 0 [])] [(some (.var (.ints .u64 25 x1)))])) = keccak_state_mix.l1_0.r (fun a0 => ((Prod.mk (.exit 0) (St.mk [] [(some (.var (.ints .u64 25 a0)))])) : Ex × St)) n (fun y0 y1 => rc ((St.mk [(.int .i64 y0), (.ptr 0 [])] [(some (.var (.ints .u64 25 y1)))]))) x0 x1 := by kernel_rfl
theorem keccak_state_mix.l1_0.loop' (n : Nat) : ∀ (m : Nat) (t : (Int × (List Int))), loopOf (roundOf (keccak_state_mix.C n) (keccak_state_mix.A n) n keccak_state_mix.b0) m (keccak_state_mix.l1_0.shape t) = keccak_state_mix.l1_0.g (fun a0 => ((Prod.mk (.exit 0) (St.mk [] [(some (.var (.ints .u64 25 a0)))])) : Ex × St)) n m t.1 t.2 :=
  loop_of_round (shape := keccak_state_mix.l1_0.shape) (body := roundOf (keccak_state_mix.C n) (keccak_state_mix.A n) n keccak_state_mix.b0) (g := fun m t => keccak_state_mix.l1_0.g (fun a0 => ((Prod.mk (.exit 0) (St.mk [] [(some (.var (.ints .u64 25 a0)))])) : Ex × St)) n m t.1 t.2) (fun t => rfl)
    fun m t ih => (keccak_state_mix.l1_0.round n (loopOf (roundOf (keccak_state_mix.C n) (keccak_state_mix.A n) n keccak_state_mix.b0) m) t.1 t.2).trans (congrFun (congrFun (congrArg (keccak_state_mix.l1_0.r (fun a0 => ((Prod.mk (.exit 0) (St.mk [] [(some (.var (.ints .u64 25 a0)))])) : Ex × St)) n) (funext fun y0 => funext fun y1 => ih (y0, y1))) t.1) t.2)
theorem keccak_state_mix.l1_0.loop (n m : Nat) (t : (Int × (List Int))) : loopOf (roundOf (keccak_state_mix.C n) (keccak_state_mix.A n) n keccak_state_mix.b0) m (keccak_state_mix.l1_0.shape t) = (keccak_state_mix.l1_0.m n m t).map keccak_state_mix.l1_0.res :=
  (keccak_state_mix.l1_0.loop' n m t).trans (keccak_state_mix.l1_0.gmap keccak_state_mix.l1_0.res (fun a0 => a0) n m t.1 t.2)
theorem keccak_state_mix.gmap {α β : Type} (h : β → α) (mk0 : (List Int) → β) (n : Nat) (s : (List Int)) : keccak_state_mix.g (fun a0 => (h (mk0 a0))) n s = (keccak_state_mix.g mk0 n s).map h := by
  unfold keccak_state_mix.g
  exact (bindO_map fun r2 => rfl)
theorem keccak_state_mix.run (n : Nat) (s : (List Int)) : runF (keccak_state_mix.C n) (keccak_state_mix.A n) n Tryd.f111 [(.ptr 0 [])] [(some (.var (.ints .u64 25 s)))] (fun v o => some (v, o)) = keccak_state_mix.g (fun a0 => ((Prod.mk (.tup []) [(some (.var (.ints .u64 25 a0)))]) : AV × Blks)) n s := by kernel_rfl
theorem keccak_state_mix.call (hmix : Tryd.prog.follows .mixedOrders = true) (n : Nat) (t : (List Int)) (u) (h : keccak_state_mix.m n t = some u) : FnC Tryd.prog abiG 111 (keccak_state_mix.shape t).1 (keccak_state_mix.shape t).2 (keccak_state_mix.res u).1 (keccak_state_mix.res u).2 := by
  have hg : ∀ f m, (keccak_state_mix.C n).Γ f = some m → CalleeS Tryd.prog abiG f m := by
    intro f m hm
    unfold keccak_state_mix.C at hm
    simp only at hm
    first
    | (cases hm; done)
    | (split at hm <;> first
    | (cases hm; exact keccak_state_spread.s hmix n)
    | (cases hm; exact keccak_state_turn.s hmix n)
    | (cases hm; exact keccak_state_row.s hmix n)
    | (cases hm; done))
  have hb : Tryd.f111.body = some (Tryd.f111.body.getD .skip) := by kernel_rfl
  refine runF_calls (C := keccak_state_mix.C n) (A := keccak_state_mix.A n) (n := n) (fn := Tryd.f111) hg hmix Tryd.func111 hb ?_ ?_ (by decide) rfl rfl (by show 1 ≤ Tryd.f111.ntmps; decide) ?_
  · rw [show loopsIn (Tryd.f111.body.getD .skip) = [keccak_state_mix.b0] by kernel_rfl]
    intro b hb m hm
    simp only [List.mem_cons, List.not_mem_nil, or_false] at hb
    rcases hb with rfl
    · have e : (keccak_state_mix.A n).loop (key keccak_state_mix.b0) = some (.mk' keccak_state_mix.l1_0.pat (keccak_state_mix.l1_0.m n n) keccak_state_mix.l1_0.resK) := by rw [show key keccak_state_mix.b0 = 1 by kernel_rfl]; rfl
      rw [e] at hm
      cases hm
      exact (LoopS.of (res := keccak_state_mix.l1_0.res) (fun R u K => rfl) keccak_state_mix.l1_0.pat_shape fun t => keccak_state_mix.l1_0.loop n n t)
  · intro a ha m hm
    cases (show none = some m from hm)
  · rw [show runF (keccak_state_mix.C n) (keccak_state_mix.A n) n Tryd.f111 (keccak_state_mix.shape t).1 (keccak_state_mix.shape t).2 (fun v o => some (v, o)) = _ from keccak_state_mix.run n t]
    have e := keccak_state_mix.gmap keccak_state_mix.res (fun a0 => a0) n t
    unfold keccak_state_mix.m at h
    rw [h] at e
    exact e
theorem keccak_state_mix.s (hmix : Tryd.prog.follows .mixedOrders = true) (n : Nat) : CalleeS Tryd.prog abiG 111 (keccak_state_mix.c n) :=
  CalleeS.of (res := keccak_state_mix.res) (shape := keccak_state_mix.shape) (fun R u K => rfl) (fun args lent t h => by
    unfold keccak_state_mix.pat at h
    split at h
    · cases h; rfl
    · cases h) fun t u h => (keccak_state_mix.call hmix n t u h).ok Tryd.func111 (by decide) (by kernel_rfl)
end
section
theorem keccak_state_take.l1_0.rmap {α β : Type} (h : β → α) (mk0 : (List Int) → β) (n : Nat) (f : Int → Int → (List Int) → (List Int) → Option β)  (x0 : Int) (x1 : Int) (x2 : (List Int)) (x3 : (List Int)) : keccak_state_take.l1_0.r (fun a0 => (h (mk0 a0))) n (fun y0 y1 y2 y3 => (f y0 y1 y2 y3).map h) x0 x1 x2 x3 = (keccak_state_take.l1_0.r mk0 n f x0 x1 x2 x3).map h := by
  unfold keccak_state_take.l1_0.r
  exact (ite_map (ite_map (ite_map (ite_map (ite_map (ite_map (ite_map (ite_map rfl rfl) rfl) rfl) rfl) rfl) rfl) rfl) rfl)
theorem keccak_state_take.l1_0.gmap {α β : Type} (h : β → α) (mk0 : (List Int) → β) (n : Nat) : ∀ (m : Nat) (x0 : Int) (x1 : Int) (x2 : (List Int)) (x3 : (List Int)), keccak_state_take.l1_0.g (fun a0 => (h (mk0 a0))) n m x0 x1 x2 x3 = (keccak_state_take.l1_0.g mk0 n m x0 x1 x2 x3).map h
  | 0, _, _, _, _ => rfl
  | m + 1, x0, x1, x2, x3 => by
    unfold keccak_state_take.l1_0.g
    rw [← keccak_state_take.l1_0.rmap]
    congr
    · funext y0 y1 y2 y3; exact keccak_state_take.l1_0.gmap h mk0 n m y0 y1 y2 y3
theorem keccak_state_take.l1_0.pat_shape : ∀ st t, keccak_state_take.l1_0.pat st = some t → st = keccak_state_take.l1_0.shape t := by
  intro st t h
  unfold keccak_state_take.l1_0.pat at h
  split at h
  · cases h; rfl
  · cases h
theorem keccak_state_take.l1_0.round (n : Nat) (rc : St → Option (Ex × St)) (x0 : Int) (x1 : Int) (x2 : (List Int)) (x3 : (List Int)) : roundOf (keccak_state_take.C n) (keccak_state_take.A n) n keccak_state_take.b0 rc ((St.mk [(.int .i64 x0), (.int .i64 x1), (.rints .u8 x2), (.ptr 0 [])] [(some (.var (.ints .u64 25 x3)))])) = keccak_state_take.l1_0.r (fun a0 => ((Prod.mk (.exit 0) (St.mk [(.ptr 0 [])] [(some (.var (.ints .u64 25 a0)))])) : Ex × St)) n (fun y0 y1 y2 y3 => rc ((St.mk [(.int .i64 y0), (.int .i64 y1), (.rints .u8 y2), (.ptr 0 [])] [(some (.var (.ints .u64 25 y3)))]))) x0 x1 x2 x3 := by kernel_rfl
theorem keccak_state_take.l1_0.loop' (n : Nat) : ∀ (m : Nat) (t : (Int × (Int × ((List Int) × (List Int))))), loopOf (roundOf (keccak_state_take.C n) (keccak_state_take.A n) n keccak_state_take.b0) m (keccak_state_take.l1_0.shape t) = keccak_state_take.l1_0.g (fun a0 => ((Prod.mk (.exit 0) (St.mk [(.ptr 0 [])] [(some (.var (.ints .u64 25 a0)))])) : Ex × St)) n m t.1 t.2.1 t.2.2.1 t.2.2.2 :=
  loop_of_round (shape := keccak_state_take.l1_0.shape) (body := roundOf (keccak_state_take.C n) (keccak_state_take.A n) n keccak_state_take.b0) (g := fun m t => keccak_state_take.l1_0.g (fun a0 => ((Prod.mk (.exit 0) (St.mk [(.ptr 0 [])] [(some (.var (.ints .u64 25 a0)))])) : Ex × St)) n m t.1 t.2.1 t.2.2.1 t.2.2.2) (fun t => rfl)
    fun m t ih => (keccak_state_take.l1_0.round n (loopOf (roundOf (keccak_state_take.C n) (keccak_state_take.A n) n keccak_state_take.b0) m) t.1 t.2.1 t.2.2.1 t.2.2.2).trans (congrFun (congrFun (congrFun (congrFun (congrArg (keccak_state_take.l1_0.r (fun a0 => ((Prod.mk (.exit 0) (St.mk [(.ptr 0 [])] [(some (.var (.ints .u64 25 a0)))])) : Ex × St)) n) (funext fun y0 => funext fun y1 => funext fun y2 => funext fun y3 => ih (y0, y1, y2, y3))) t.1) t.2.1) t.2.2.1) t.2.2.2)
theorem keccak_state_take.l1_0.loop (n m : Nat) (t : (Int × (Int × ((List Int) × (List Int))))) : loopOf (roundOf (keccak_state_take.C n) (keccak_state_take.A n) n keccak_state_take.b0) m (keccak_state_take.l1_0.shape t) = (keccak_state_take.l1_0.m n m t).map keccak_state_take.l1_0.res :=
  (keccak_state_take.l1_0.loop' n m t).trans (keccak_state_take.l1_0.gmap keccak_state_take.l1_0.res (fun a0 => a0) n m t.1 t.2.1 t.2.2.1 t.2.2.2)
theorem keccak_state_take.gmap {α β : Type} (h : β → α) (mk0 : (List Int) → β) (n : Nat) (b : (List Int)) (s : (List Int)) : keccak_state_take.g (fun a0 => (h (mk0 a0))) n b s = (keccak_state_take.g mk0 n b s).map h := by
  unfold keccak_state_take.g
  exact (bindO_map fun r2 => (bindO_map fun r4 => rfl))
theorem keccak_state_take.run (n : Nat) (b : (List Int)) (s : (List Int)) : runF (keccak_state_take.C n) (keccak_state_take.A n) n Tryd.f93 [(.ptr 0 []), (.rints .u8 b)] [(some (.var (.ints .u64 25 s)))] (fun v o => some (v, o)) = keccak_state_take.g (fun a0 => ((Prod.mk (.tup []) [(some (.var (.ints .u64 25 a0)))]) : AV × Blks)) n b s := by kernel_rfl
theorem keccak_state_take.call (hmix : Tryd.prog.follows .mixedOrders = true) (n : Nat) (t : ((List Int) × (List Int))) (u) (h : keccak_state_take.m n t = some u) : FnC Tryd.prog abiG 93 (keccak_state_take.shape t).1 (keccak_state_take.shape t).2 (keccak_state_take.res u).1 (keccak_state_take.res u).2 := by
  have hg : ∀ f m, (keccak_state_take.C n).Γ f = some m → CalleeS Tryd.prog abiG f m := by
    intro f m hm
    unfold keccak_state_take.C at hm
    simp only at hm
    first
    | (cases hm; done)
    | (split at hm <;> first
    | (cases hm; exact keccak_state_mix.s hmix n)
    | (cases hm; done))
  have hb : Tryd.f93.body = some (Tryd.f93.body.getD .skip) := by kernel_rfl
  refine runF_calls (C := keccak_state_take.C n) (A := keccak_state_take.A n) (n := n) (fn := Tryd.f93) hg hmix Tryd.func93 hb ?_ ?_ (by decide) rfl rfl (by show 2 ≤ Tryd.f93.ntmps; decide) ?_
  · rw [show loopsIn (Tryd.f93.body.getD .skip) = [keccak_state_take.b0] by kernel_rfl]
    intro b hb m hm
    simp only [List.mem_cons, List.not_mem_nil, or_false] at hb
    rcases hb with rfl
    · have e : (keccak_state_take.A n).loop (key keccak_state_take.b0) = some (.mk' keccak_state_take.l1_0.pat (keccak_state_take.l1_0.m n n) keccak_state_take.l1_0.resK) := by rw [show key keccak_state_take.b0 = 1 by kernel_rfl]; rfl
      rw [e] at hm
      cases hm
      exact (LoopS.of (res := keccak_state_take.l1_0.res) (fun R u K => rfl) keccak_state_take.l1_0.pat_shape fun t => keccak_state_take.l1_0.loop n n t)
  · intro a ha m hm
    cases (show none = some m from hm)
  · rw [show runF (keccak_state_take.C n) (keccak_state_take.A n) n Tryd.f93 (keccak_state_take.shape t).1 (keccak_state_take.shape t).2 (fun v o => some (v, o)) = _ from keccak_state_take.run n t.1 t.2]
    have e := keccak_state_take.gmap keccak_state_take.res (fun a0 => a0) n t.1 t.2
    unfold keccak_state_take.m at h
    rw [h] at e
    exact e
theorem keccak_state_take.s (hmix : Tryd.prog.follows .mixedOrders = true) (n : Nat) : CalleeS Tryd.prog abiG 93 (keccak_state_take.c n) :=
  CalleeS.of (res := keccak_state_take.res) (shape := keccak_state_take.shape) (fun R u K => rfl) (fun args lent t h => by
    unfold keccak_state_take.pat at h
    split at h
    · cases h; rfl
    · cases h) fun t u h => (keccak_state_take.call hmix n t u h).ok Tryd.func93 (by decide) (by kernel_rfl)
end
section
theorem keccak_Sum.l2_0.rmap {α β : Type} (h : β → α) (mk0 : (List Int) → (List Int) → (List Int) → β) (n : Nat) (f : (List Int) → (List Int) → (List Int) → Option β)  (x0 : (List Int)) (x1 : (List Int)) (x2 : (List Int)) : keccak_Sum.l2_0.r (fun a0 a1 a2 => (h (mk0 a0 a1 a2))) n (fun y0 y1 y2 => (f y0 y1 y2).map h) x0 x1 x2 = (keccak_Sum.l2_0.r mk0 n f x0 x1 x2).map h := by
  unfold keccak_Sum.l2_0.r
  exact (ite_map (ite_map (bindO_map fun r8 => (ite_map rfl rfl)) rfl) rfl)
theorem keccak_Sum.l2_0.gmap {α β : Type} (h : β → α) (mk0 : (List Int) → (List Int) → (List Int) → β) (n : Nat) : ∀ (m : Nat) (x0 : (List Int)) (x1 : (List Int)) (x2 : (List Int)), keccak_Sum.l2_0.g (fun a0 a1 a2 => (h (mk0 a0 a1 a2))) n m x0 x1 x2 = (keccak_Sum.l2_0.g mk0 n m x0 x1 x2).map h
  | 0, _, _, _ => rfl
  | m + 1, x0, x1, x2 => by
    unfold keccak_Sum.l2_0.g
    rw [← keccak_Sum.l2_0.rmap]
    congr
    · funext y0 y1 y2; exact keccak_Sum.l2_0.gmap h mk0 n m y0 y1 y2
theorem keccak_Sum.l2_0.pat_shape : ∀ st t, keccak_Sum.l2_0.pat st = some t → st = keccak_Sum.l2_0.shape t := by
  intro st t h
  unfold keccak_Sum.l2_0.pat at h
  split at h
  · cases h; rfl
  · cases h
theorem keccak_Sum.l2_0.round (n : Nat) (rc : St → Option (Ex × St)) (x0 : (List Int)) (x1 : (List Int)) (x2 : (List Int)) : roundOf (keccak_Sum.C n) (keccak_Sum.A n) n keccak_Sum.b0 rc ((St.mk [(.rints .u8 x0), (.ptr 0 []), (.ptr 1 [])] [(some (.var (.ints .u64 25 x1))), (some (.var (.ints .u64 4 x2)))])) = keccak_Sum.l2_0.r (fun a0 a1 a2 => ((Prod.mk (.exit 0) (St.mk [(.rints .u8 a0), (.ptr 0 []), (.ptr 1 [])] [(some (.var (.ints .u64 25 a1))), (some (.var (.ints .u64 4 a2)))])) : Ex × St)) n (fun y0 y1 y2 => rc ((St.mk [(.rints .u8 y0), (.ptr 0 []), (.ptr 1 [])] [(some (.var (.ints .u64 25 y1))), (some (.var (.ints .u64 4 y2)))]))) x0 x1 x2 := by kernel_rfl
theorem keccak_Sum.l2_0.loop' (n : Nat) : ∀ (m : Nat) (t : ((List Int) × ((List Int) × (List Int)))), loopOf (roundOf (keccak_Sum.C n) (keccak_Sum.A n) n keccak_Sum.b0) m (keccak_Sum.l2_0.shape t) = keccak_Sum.l2_0.g (fun a0 a1 a2 => ((Prod.mk (.exit 0) (St.mk [(.rints .u8 a0), (.ptr 0 []), (.ptr 1 [])] [(some (.var (.ints .u64 25 a1))), (some (.var (.ints .u64 4 a2)))])) : Ex × St)) n m t.1 t.2.1 t.2.2 :=
  loop_of_round (shape := keccak_Sum.l2_0.shape) (body := roundOf (keccak_Sum.C n) (keccak_Sum.A n) n keccak_Sum.b0) (g := fun m t => keccak_Sum.l2_0.g (fun a0 a1 a2 => ((Prod.mk (.exit 0) (St.mk [(.rints .u8 a0), (.ptr 0 []), (.ptr 1 [])] [(some (.var (.ints .u64 25 a1))), (some (.var (.ints .u64 4 a2)))])) : Ex × St)) n m t.1 t.2.1 t.2.2) (fun t => rfl)
    fun m t ih => (keccak_Sum.l2_0.round n (loopOf (roundOf (keccak_Sum.C n) (keccak_Sum.A n) n keccak_Sum.b0) m) t.1 t.2.1 t.2.2).trans (congrFun (congrFun (congrFun (congrArg (keccak_Sum.l2_0.r (fun a0 a1 a2 => ((Prod.mk (.exit 0) (St.mk [(.rints .u8 a0), (.ptr 0 []), (.ptr 1 [])] [(some (.var (.ints .u64 25 a1))), (some (.var (.ints .u64 4 a2)))])) : Ex × St)) n) (funext fun y0 => funext fun y1 => funext fun y2 => ih (y0, y1, y2))) t.1) t.2.1) t.2.2)
theorem keccak_Sum.l2_0.loop (n m : Nat) (t : ((List Int) × ((List Int) × (List Int)))) : loopOf (roundOf (keccak_Sum.C n) (keccak_Sum.A n) n keccak_Sum.b0) m (keccak_Sum.l2_0.shape t) = (keccak_Sum.l2_0.m n m t).map keccak_Sum.l2_0.res :=
  (keccak_Sum.l2_0.loop' n m t).trans (keccak_Sum.l2_0.gmap keccak_Sum.l2_0.res (fun a0 a1 a2 => (a0, a1, a2)) n m t.1 t.2.1 t.2.2)
theorem keccak_Sum.l12_0.rmap {α β : Type} (h : β → α) (mk0 : (List Int) → (List Int) → β) (n : Nat) (f : Int → (List Int) → (List Int) → (List Int) → Option β)  (x0 : Int) (x1 : (List Int)) (x2 : (List Int)) (x3 : (List Int)) : keccak_Sum.l12_0.r (fun a0 a1 => (h (mk0 a0 a1))) n (fun y0 y1 y2 y3 => (f y0 y1 y2 y3).map h) x0 x1 x2 x3 = (keccak_Sum.l12_0.r mk0 n f x0 x1 x2 x3).map h := by
  unfold keccak_Sum.l12_0.r
  exact (ite_map (ite_map (ite_map (ite_map (ite_map (ite_map rfl rfl) rfl) rfl) rfl) rfl) rfl)
theorem keccak_Sum.l12_0.gmap {α β : Type} (h : β → α) (mk0 : (List Int) → (List Int) → β) (n : Nat) : ∀ (m : Nat) (x0 : Int) (x1 : (List Int)) (x2 : (List Int)) (x3 : (List Int)), keccak_Sum.l12_0.g (fun a0 a1 => (h (mk0 a0 a1))) n m x0 x1 x2 x3 = (keccak_Sum.l12_0.g mk0 n m x0 x1 x2 x3).map h
  | 0, _, _, _, _ => rfl
  | m + 1, x0, x1, x2, x3 => by
    unfold keccak_Sum.l12_0.g
    rw [← keccak_Sum.l12_0.rmap]
    congr
    · funext y0 y1 y2 y3; exact keccak_Sum.l12_0.gmap h mk0 n m y0 y1 y2 y3
theorem keccak_Sum.l12_0.pat_shape : ∀ st t, keccak_Sum.l12_0.pat st = some t → st = keccak_Sum.l12_0.shape t := by
  intro st t h
  unfold keccak_Sum.l12_0.pat at h
  split at h
  · cases h; rfl
  · cases h
theorem keccak_Sum.l12_0.round (n : Nat) (rc : St → Option (Ex × St)) (x0 : Int) (x1 : (List Int)) (x2 : (List Int)) (x3 : (List Int)) : roundOf (keccak_Sum.C n) (keccak_Sum.A n) n keccak_Sum.b1 rc ((St.mk [(.int .i64 x0), (.ptr 0 []), (.ptr 1 []), (.ptr 2 [])] [(some (.var (.ints .u64 25 x1))), (some (.var (.ints .u8 32 x2))), (some (.var (.ints .u64 4 x3)))])) = keccak_Sum.l12_0.r (fun a0 a1 => ((Prod.mk (.exit 2) (St.mk [(.ptr 0 []), (.ptr 1 [])] [(some (.var (.ints .u8 32 a0))), (some (.var (.ints .u64 4 a1)))])) : Ex × St)) n (fun y0 y1 y2 y3 => rc ((St.mk [(.int .i64 y0), (.ptr 0 []), (.ptr 1 []), (.ptr 2 [])] [(some (.var (.ints .u64 25 y1))), (some (.var (.ints .u8 32 y2))), (some (.var (.ints .u64 4 y3)))]))) x0 x1 x2 x3 := by kernel_rfl
theorem keccak_Sum.l12_0.loop' (n : Nat) : ∀ (m : Nat) (t : (Int × ((List Int) × ((List Int) × (List Int))))), loopOf (roundOf (keccak_Sum.C n) (keccak_Sum.A n) n keccak_Sum.b1) m (keccak_Sum.l12_0.shape t) = keccak_Sum.l12_0.g (fun a0 a1 => ((Prod.mk (.exit 2) (St.mk [(.ptr 0 []), (.ptr 1 [])] [(some (.var (.ints .u8 32 a0))), (some (.var (.ints .u64 4 a1)))])) : Ex × St)) n m t.1 t.2.1 t.2.2.1 t.2.2.2 :=
  loop_of_round (shape := keccak_Sum.l12_0.shape) (body := roundOf (keccak_Sum.C n) (keccak_Sum.A n) n keccak_Sum.b1) (g := fun m t => keccak_Sum.l12_0.g (fun a0 a1 => ((Prod.mk (.exit 2) (St.mk [(.ptr 0 []), (.ptr 1 [])] [(some (.var (.ints .u8 32 a0))), (some (.var (.ints .u64 4 a1)))])) : Ex × St)) n m t.1 t.2.1 t.2.2.1 t.2.2.2) (fun t => rfl)
    fun m t ih => (keccak_Sum.l12_0.round n (loopOf (roundOf (keccak_Sum.C n) (keccak_Sum.A n) n keccak_Sum.b1) m) t.1 t.2.1 t.2.2.1 t.2.2.2).trans (congrFun (congrFun (congrFun (congrFun (congrArg (keccak_Sum.l12_0.r (fun a0 a1 => ((Prod.mk (.exit 2) (St.mk [(.ptr 0 []), (.ptr 1 [])] [(some (.var (.ints .u8 32 a0))), (some (.var (.ints .u64 4 a1)))])) : Ex × St)) n) (funext fun y0 => funext fun y1 => funext fun y2 => funext fun y3 => ih (y0, y1, y2, y3))) t.1) t.2.1) t.2.2.1) t.2.2.2)
theorem keccak_Sum.l12_0.loop (n m : Nat) (t : (Int × ((List Int) × ((List Int) × (List Int))))) : loopOf (roundOf (keccak_Sum.C n) (keccak_Sum.A n) n keccak_Sum.b1) m (keccak_Sum.l12_0.shape t) = (keccak_Sum.l12_0.m n m t).map keccak_Sum.l12_0.res :=
  (keccak_Sum.l12_0.loop' n m t).trans (keccak_Sum.l12_0.gmap keccak_Sum.l12_0.res (fun a0 a1 => (a0, a1)) n m t.1 t.2.1 t.2.2.1 t.2.2.2)
theorem keccak_Sum.gmap {α β : Type} (h : β → α) (mk0 : (List Int) → β) (n : Nat) (a0 : (List Int)) : keccak_Sum.g (fun a0 => (h (mk0 a0))) n a0 = (keccak_Sum.g mk0 n a0).map h := by
  unfold keccak_Sum.g
  exact (bindO_map fun r2 => (ite_map (ite_map (bindO_map fun r8 => (bindO_map fun r10 => (bindO_map fun r12 => rfl))) rfl) rfl))
theorem keccak_Sum.run (n : Nat) (a0 : (List Int)) : runF (keccak_Sum.C n) (keccak_Sum.A n) n Tryd.f57 [(.rints .u8 a0)] [] (fun v o => some (v, o)) = keccak_Sum.g (fun a0 => ((Prod.mk (.ints .u64 4 a0) []) : AV × Blks)) n a0 := by kernel_rfl
theorem keccak_Sum.call (hmix : Tryd.prog.follows .mixedOrders = true) (n : Nat) (t : (List Int)) (u) (h : keccak_Sum.m n t = some u) : FnC Tryd.prog abiG 57 (keccak_Sum.shape t).1 (keccak_Sum.shape t).2 (keccak_Sum.res u).1 (keccak_Sum.res u).2 := by
  have hg : ∀ f m, (keccak_Sum.C n).Γ f = some m → CalleeS Tryd.prog abiG f m := by
    intro f m hm
    unfold keccak_Sum.C at hm
    simp only at hm
    first
    | (cases hm; done)
    | (split at hm <;> first
    | (cases hm; exact keccak_state_take.s hmix n)
    | (cases hm; exact word_Read.s hmix n)
    | (cases hm; done))
  have hb : Tryd.f57.body = some (Tryd.f57.body.getD .skip) := by kernel_rfl
  refine runF_calls (C := keccak_Sum.C n) (A := keccak_Sum.A n) (n := n) (fn := Tryd.f57) hg hmix Tryd.func57 hb ?_ ?_ (by decide) rfl rfl (by show 1 ≤ Tryd.f57.ntmps; decide) ?_
  · rw [show loopsIn (Tryd.f57.body.getD .skip) = [keccak_Sum.b0, keccak_Sum.b1] by kernel_rfl]
    intro b hb m hm
    simp only [List.mem_cons, List.not_mem_nil, or_false] at hb
    rcases hb with rfl | rfl
    · have e : (keccak_Sum.A n).loop (key keccak_Sum.b0) = some (.mk' keccak_Sum.l2_0.pat (keccak_Sum.l2_0.m n n) keccak_Sum.l2_0.resK) := by rw [show key keccak_Sum.b0 = 2 by kernel_rfl]; rfl
      rw [e] at hm
      cases hm
      exact (LoopS.of (res := keccak_Sum.l2_0.res) (fun R u K => rfl) keccak_Sum.l2_0.pat_shape fun t => keccak_Sum.l2_0.loop n n t)
    · have e : (keccak_Sum.A n).loop (key keccak_Sum.b1) = some (.mk' keccak_Sum.l12_0.pat (keccak_Sum.l12_0.m n n) keccak_Sum.l12_0.resK) := by rw [show key keccak_Sum.b1 = 12 by kernel_rfl]; rfl
      rw [e] at hm
      cases hm
      exact (LoopS.of (res := keccak_Sum.l12_0.res) (fun R u K => rfl) keccak_Sum.l12_0.pat_shape fun t => keccak_Sum.l12_0.loop n n t)
  · intro a ha m hm
    cases (show none = some m from hm)
  · rw [show runF (keccak_Sum.C n) (keccak_Sum.A n) n Tryd.f57 (keccak_Sum.shape t).1 (keccak_Sum.shape t).2 (fun v o => some (v, o)) = _ from keccak_Sum.run n t]
    have e := keccak_Sum.gmap keccak_Sum.res (fun a0 => a0) n t
    unfold keccak_Sum.m at h
    rw [h] at e
    exact e
theorem keccak_Sum.s (hmix : Tryd.prog.follows .mixedOrders = true) (n : Nat) : CalleeS Tryd.prog abiG 57 (keccak_Sum.c n) :=
  CalleeS.of (res := keccak_Sum.res) (shape := keccak_Sum.shape) (fun R u K => rfl) (fun args lent t h => by
    unfold keccak_Sum.pat at h
    split at h
    · cases h; rfl
    · cases h) fun t u h => (keccak_Sum.call hmix n t u h).ok Tryd.func57 (by decide) (by kernel_rfl)
end
section
theorem abi_Selector.gmap {α β : Type} (h : β → α) (mk0 : (List Int) → β) (n : Nat) (a0 : ByteArray) : abi_Selector.g (fun a0 => (h (mk0 a0))) n a0 = (abi_Selector.g mk0 n a0).map h := by
  unfold abi_Selector.g
  exact (bindO_map fun r2 => (bindO_map fun r4 => (ite_map rfl rfl)))
theorem abi_Selector.run (n : Nat) (a0 : ByteArray) : runF (abi_Selector.C n) (abi_Selector.A n) n Tryd.f22 [(.str a0)] [] (fun v o => some (v, o)) = abi_Selector.g (fun a0 => ((Prod.mk (.own 0 1) [(some (.ints .u8 a0))]) : AV × Blks)) n a0 := by kernel_rfl
theorem abi_Selector.call (hmix : Tryd.prog.follows .mixedOrders = true) (n : Nat) (t : ByteArray) (u) (h : abi_Selector.m n t = some u) : FnC Tryd.prog abiG 22 (abi_Selector.shape t).1 (abi_Selector.shape t).2 (abi_Selector.res u).1 (abi_Selector.res u).2 := by
  have hg : ∀ f m, (abi_Selector.C n).Γ f = some m → CalleeS Tryd.prog abiG f m := by
    intro f m hm
    unfold abi_Selector.C at hm
    simp only at hm
    first
    | (cases hm; done)
    | (split at hm <;> first
    | (cases hm; exact keccak_Sum.s hmix n)
    | (cases hm; exact word_Bytes.s hmix n)
    | (cases hm; done))
  have hb : Tryd.f22.body = some (Tryd.f22.body.getD .skip) := by kernel_rfl
  refine runF_calls (C := abi_Selector.C n) (A := abi_Selector.A n) (n := n) (fn := Tryd.f22) hg hmix Tryd.func22 hb ?_ ?_ (by decide) rfl rfl (by show 1 ≤ Tryd.f22.ntmps; decide) ?_
  · rw [show loopsIn (Tryd.f22.body.getD .skip) = [] by kernel_rfl]
    intro b hb
    cases hb
  · intro a ha m hm
    cases (show none = some m from hm)
  · rw [show runF (abi_Selector.C n) (abi_Selector.A n) n Tryd.f22 (abi_Selector.shape t).1 (abi_Selector.shape t).2 (fun v o => some (v, o)) = _ from abi_Selector.run n t]
    have e := abi_Selector.gmap abi_Selector.res (fun a0 => a0) n t
    unfold abi_Selector.m at h
    rw [h] at e
    exact e
theorem abi_Selector.s (hmix : Tryd.prog.follows .mixedOrders = true) (n : Nat) : CalleeS Tryd.prog abiG 22 (abi_Selector.c n) :=
  CalleeS.of (res := abi_Selector.res) (shape := abi_Selector.shape) (fun R u K => rfl) (fun args lent t h => by
    unfold abi_Selector.pat at h
    split at h
    · cases h; rfl
    · cases h) fun t u h => (abi_Selector.call hmix n t u h).ok Tryd.func22 (by decide) (by kernel_rfl)
end
section
theorem zslicesGrowbytebyte.gmap {α β : Type} (h : β → α) (mk0 : (List Int) → β) (n : Nat) (sz : Int) : zslicesGrowbytebyte.g (fun a0 => (h (mk0 a0))) n sz = (zslicesGrowbytebyte.g mk0 n sz).map h := by
  unfold zslicesGrowbytebyte.g
  exact (ite_map rfl (ite_map (ite_map (ite_map rfl rfl) rfl) rfl))
theorem zslicesGrowbytebyte.run (n : Nat) (sz : Int) : runF (zslicesGrowbytebyte.C n) (zslicesGrowbytebyte.A n) n Tryd.f117 [.snil, (.int .i64 sz)] [] (fun v o => some (v, o)) = zslicesGrowbytebyte.g (fun a0 => ((Prod.mk (.own 0 1) [(some (.ints .u8 a0))]) : AV × Blks)) n sz := by kernel_rfl
theorem zslicesGrowbytebyte.call (hmix : Tryd.prog.follows .mixedOrders = true) (n : Nat) (t : Int) (u) (h : zslicesGrowbytebyte.m n t = some u) : FnC Tryd.prog abiG 117 (zslicesGrowbytebyte.shape t).1 (zslicesGrowbytebyte.shape t).2 (zslicesGrowbytebyte.res u).1 (zslicesGrowbytebyte.res u).2 := by
  have hg : ∀ f m, (zslicesGrowbytebyte.C n).Γ f = some m → CalleeS Tryd.prog abiG f m := by
    intro f m hm
    unfold zslicesGrowbytebyte.C at hm
    simp only at hm
    first
    | (cases hm; done)
    | (split at hm <;> first
    | (cases hm; done))
  have hb : Tryd.f117.body = some (Tryd.f117.body.getD .skip) := by kernel_rfl
  refine runF_calls (C := zslicesGrowbytebyte.C n) (A := zslicesGrowbytebyte.A n) (n := n) (fn := Tryd.f117) hg hmix Tryd.func117 hb ?_ ?_ (by decide) rfl rfl (by show 2 ≤ Tryd.f117.ntmps; decide) ?_
  · rw [show loopsIn (Tryd.f117.body.getD .skip) = [] by kernel_rfl]
    intro b hb
    cases hb
  · intro a ha m hm
    cases (show none = some m from hm)
  · rw [show runF (zslicesGrowbytebyte.C n) (zslicesGrowbytebyte.A n) n Tryd.f117 (zslicesGrowbytebyte.shape t).1 (zslicesGrowbytebyte.shape t).2 (fun v o => some (v, o)) = _ from zslicesGrowbytebyte.run n t]
    have e := zslicesGrowbytebyte.gmap zslicesGrowbytebyte.res (fun a0 => a0) n t
    unfold zslicesGrowbytebyte.m at h
    rw [h] at e
    exact e
theorem zslicesGrowbytebyte.s (hmix : Tryd.prog.follows .mixedOrders = true) (n : Nat) : CalleeS Tryd.prog abiG 117 (zslicesGrowbytebyte.c n) :=
  CalleeS.of (res := zslicesGrowbytebyte.res) (shape := zslicesGrowbytebyte.shape) (fun R u K => rfl) (fun args lent t h => by
    unfold zslicesGrowbytebyte.pat at h
    split at h
    · cases h; rfl
    · cases h) fun t u h => (zslicesGrowbytebyte.call hmix n t u h).ok Tryd.func117 (by decide) (by kernel_rfl)
end
section
theorem zslicesConcatbytebyte.l3_0.rmap {α β : Type} (h : β → α) (mk0 : Int → (List AV) → β) (n : Nat) (f : Int → Int → (List AV) → Int → (List AV) → Option β)  (x0 : Int) (x1 : Int) (x2 : (List AV)) (x3 : Int) (x4 : (List AV)) : zslicesConcatbytebyte.l3_0.r (fun a0 a1 => (h (mk0 a0 a1))) n (fun y0 y1 y2 y3 y4 => (f y0 y1 y2 y3 y4).map h) x0 x1 x2 x3 x4 = (zslicesConcatbytebyte.l3_0.r mk0 n f x0 x1 x2 x3 x4).map h := by
  unfold zslicesConcatbytebyte.l3_0.r
  exact (ite_map (ite_map (ite_map (bindO_map fun r10 => (ite_map rfl rfl)) rfl) rfl) rfl)
theorem zslicesConcatbytebyte.l3_0.gmap {α β : Type} (h : β → α) (mk0 : Int → (List AV) → β) (n : Nat) : ∀ (m : Nat) (x0 : Int) (x1 : Int) (x2 : (List AV)) (x3 : Int) (x4 : (List AV)), zslicesConcatbytebyte.l3_0.g (fun a0 a1 => (h (mk0 a0 a1))) n m x0 x1 x2 x3 x4 = (zslicesConcatbytebyte.l3_0.g mk0 n m x0 x1 x2 x3 x4).map h
  | 0, _, _, _, _, _ => rfl
  | m + 1, x0, x1, x2, x3, x4 => by
    unfold zslicesConcatbytebyte.l3_0.g
    rw [← zslicesConcatbytebyte.l3_0.rmap]
    congr
    · funext y0 y1 y2 y3 y4; exact zslicesConcatbytebyte.l3_0.gmap h mk0 n m y0 y1 y2 y3 y4
theorem zslicesConcatbytebyte.l3_0.pat_shape : ∀ st t, zslicesConcatbytebyte.l3_0.pat st = some t → st = zslicesConcatbytebyte.l3_0.shape t := by
  intro st t h
  unfold zslicesConcatbytebyte.l3_0.pat at h
  split at h
  · cases h; rfl
  · cases h
theorem zslicesConcatbytebyte.l3_0.round (n : Nat) (rc : St → Option (Ex × St)) (x0 : Int) (x1 : Int) (x2 : (List AV)) (x3 : Int) (x4 : (List AV)) : roundOf (zslicesConcatbytebyte.C n) (zslicesConcatbytebyte.A n) n zslicesConcatbytebyte.b0 rc ((St.mk [(.int .i64 x0), (.int .i64 x1), (.robjs 26 1 x2), (.int .i64 x3), (.robjs 26 1 x4)] [])) = zslicesConcatbytebyte.l3_0.r (fun a0 a1 => ((Prod.mk (.exit 0) (St.mk [(.int .i64 a0), (.robjs 26 1 a1)] [])) : Ex × St)) n (fun y0 y1 y2 y3 y4 => rc ((St.mk [(.int .i64 y0), (.int .i64 y1), (.robjs 26 1 y2), (.int .i64 y3), (.robjs 26 1 y4)] []))) x0 x1 x2 x3 x4 := by kernel_rfl
theorem zslicesConcatbytebyte.l3_0.loop' (n : Nat) : ∀ (m : Nat) (t : (Int × (Int × ((List AV) × (Int × (List AV)))))), loopOf (roundOf (zslicesConcatbytebyte.C n) (zslicesConcatbytebyte.A n) n zslicesConcatbytebyte.b0) m (zslicesConcatbytebyte.l3_0.shape t) = zslicesConcatbytebyte.l3_0.g (fun a0 a1 => ((Prod.mk (.exit 0) (St.mk [(.int .i64 a0), (.robjs 26 1 a1)] [])) : Ex × St)) n m t.1 t.2.1 t.2.2.1 t.2.2.2.1 t.2.2.2.2 :=
  loop_of_round (shape := zslicesConcatbytebyte.l3_0.shape) (body := roundOf (zslicesConcatbytebyte.C n) (zslicesConcatbytebyte.A n) n zslicesConcatbytebyte.b0) (g := fun m t => zslicesConcatbytebyte.l3_0.g (fun a0 a1 => ((Prod.mk (.exit 0) (St.mk [(.int .i64 a0), (.robjs 26 1 a1)] [])) : Ex × St)) n m t.1 t.2.1 t.2.2.1 t.2.2.2.1 t.2.2.2.2) (fun t => rfl)
    fun m t ih => (zslicesConcatbytebyte.l3_0.round n (loopOf (roundOf (zslicesConcatbytebyte.C n) (zslicesConcatbytebyte.A n) n zslicesConcatbytebyte.b0) m) t.1 t.2.1 t.2.2.1 t.2.2.2.1 t.2.2.2.2).trans (congrFun (congrFun (congrFun (congrFun (congrFun (congrArg (zslicesConcatbytebyte.l3_0.r (fun a0 a1 => ((Prod.mk (.exit 0) (St.mk [(.int .i64 a0), (.robjs 26 1 a1)] [])) : Ex × St)) n) (funext fun y0 => funext fun y1 => funext fun y2 => funext fun y3 => funext fun y4 => ih (y0, y1, y2, y3, y4))) t.1) t.2.1) t.2.2.1) t.2.2.2.1) t.2.2.2.2)
theorem zslicesConcatbytebyte.l3_0.loop (n m : Nat) (t : (Int × (Int × ((List AV) × (Int × (List AV)))))) : loopOf (roundOf (zslicesConcatbytebyte.C n) (zslicesConcatbytebyte.A n) n zslicesConcatbytebyte.b0) m (zslicesConcatbytebyte.l3_0.shape t) = (zslicesConcatbytebyte.l3_0.m n m t).map zslicesConcatbytebyte.l3_0.res :=
  (zslicesConcatbytebyte.l3_0.loop' n m t).trans (zslicesConcatbytebyte.l3_0.gmap zslicesConcatbytebyte.l3_0.res (fun a0 a1 => (a0, a1)) n m t.1 t.2.1 t.2.2.1 t.2.2.2.1 t.2.2.2.2)
theorem zslicesConcatbytebyte.l11_0.rmap {α β : Type} (h : β → α) (mk0 : (List Int) → β) (n : Nat) (f : Int → Int → (List AV) → (List Int) → Option β)  (x0 : Int) (x1 : Int) (x2 : (List AV)) (x3 : (List Int)) : zslicesConcatbytebyte.l11_0.r (fun a0 => (h (mk0 a0))) n (fun y0 y1 y2 y3 => (f y0 y1 y2 y3).map h) x0 x1 x2 x3 = (zslicesConcatbytebyte.l11_0.r mk0 n f x0 x1 x2 x3).map h := by
  unfold zslicesConcatbytebyte.l11_0.r
  exact (ite_map (ite_map (ite_map (bindO_map fun r10 => (ite_map rfl rfl)) rfl) rfl) rfl)
theorem zslicesConcatbytebyte.l11_0.gmap {α β : Type} (h : β → α) (mk0 : (List Int) → β) (n : Nat) : ∀ (m : Nat) (x0 : Int) (x1 : Int) (x2 : (List AV)) (x3 : (List Int)), zslicesConcatbytebyte.l11_0.g (fun a0 => (h (mk0 a0))) n m x0 x1 x2 x3 = (zslicesConcatbytebyte.l11_0.g mk0 n m x0 x1 x2 x3).map h
  | 0, _, _, _, _ => rfl
  | m + 1, x0, x1, x2, x3 => by
    unfold zslicesConcatbytebyte.l11_0.g
    rw [← zslicesConcatbytebyte.l11_0.rmap]
    congr
    · funext y0 y1 y2 y3; exact zslicesConcatbytebyte.l11_0.gmap h mk0 n m y0 y1 y2 y3
theorem zslicesConcatbytebyte.l11_0.pat_shape : ∀ st t, zslicesConcatbytebyte.l11_0.pat st = some t → st = zslicesConcatbytebyte.l11_0.shape t := by
  intro st t h
  unfold zslicesConcatbytebyte.l11_0.pat at h
  split at h
  · cases h; rfl
  · cases h
theorem zslicesConcatbytebyte.l11_0.round (n : Nat) (rc : St → Option (Ex × St)) (x0 : Int) (x1 : Int) (x2 : (List AV)) (x3 : (List Int)) : roundOf (zslicesConcatbytebyte.C n) (zslicesConcatbytebyte.A n) n zslicesConcatbytebyte.b1 rc ((St.mk [(.int .i64 x0), (.int .i64 x1), (.robjs 26 1 x2), (.own 0 1)] [(some (.ints .u8 x3))])) = zslicesConcatbytebyte.l11_0.r (fun a0 => ((Prod.mk (.exit 2) (St.mk [(.own 0 1)] [(some (.ints .u8 a0))])) : Ex × St)) n (fun y0 y1 y2 y3 => rc ((St.mk [(.int .i64 y0), (.int .i64 y1), (.robjs 26 1 y2), (.own 0 1)] [(some (.ints .u8 y3))]))) x0 x1 x2 x3 := by kernel_rfl
theorem zslicesConcatbytebyte.l11_0.loop' (n : Nat) : ∀ (m : Nat) (t : (Int × (Int × ((List AV) × (List Int))))), loopOf (roundOf (zslicesConcatbytebyte.C n) (zslicesConcatbytebyte.A n) n zslicesConcatbytebyte.b1) m (zslicesConcatbytebyte.l11_0.shape t) = zslicesConcatbytebyte.l11_0.g (fun a0 => ((Prod.mk (.exit 2) (St.mk [(.own 0 1)] [(some (.ints .u8 a0))])) : Ex × St)) n m t.1 t.2.1 t.2.2.1 t.2.2.2 :=
  loop_of_round (shape := zslicesConcatbytebyte.l11_0.shape) (body := roundOf (zslicesConcatbytebyte.C n) (zslicesConcatbytebyte.A n) n zslicesConcatbytebyte.b1) (g := fun m t => zslicesConcatbytebyte.l11_0.g (fun a0 => ((Prod.mk (.exit 2) (St.mk [(.own 0 1)] [(some (.ints .u8 a0))])) : Ex × St)) n m t.1 t.2.1 t.2.2.1 t.2.2.2) (fun t => rfl)
    fun m t ih => (zslicesConcatbytebyte.l11_0.round n (loopOf (roundOf (zslicesConcatbytebyte.C n) (zslicesConcatbytebyte.A n) n zslicesConcatbytebyte.b1) m) t.1 t.2.1 t.2.2.1 t.2.2.2).trans (congrFun (congrFun (congrFun (congrFun (congrArg (zslicesConcatbytebyte.l11_0.r (fun a0 => ((Prod.mk (.exit 2) (St.mk [(.own 0 1)] [(some (.ints .u8 a0))])) : Ex × St)) n) (funext fun y0 => funext fun y1 => funext fun y2 => funext fun y3 => ih (y0, y1, y2, y3))) t.1) t.2.1) t.2.2.1) t.2.2.2)
theorem zslicesConcatbytebyte.l11_0.loop (n m : Nat) (t : (Int × (Int × ((List AV) × (List Int))))) : loopOf (roundOf (zslicesConcatbytebyte.C n) (zslicesConcatbytebyte.A n) n zslicesConcatbytebyte.b1) m (zslicesConcatbytebyte.l11_0.shape t) = (zslicesConcatbytebyte.l11_0.m n m t).map zslicesConcatbytebyte.l11_0.res :=
  (zslicesConcatbytebyte.l11_0.loop' n m t).trans (zslicesConcatbytebyte.l11_0.gmap zslicesConcatbytebyte.l11_0.res (fun a0 => a0) n m t.1 t.2.1 t.2.2.1 t.2.2.2)
theorem zslicesConcatbytebyte.gmap {α β : Type} (h : β → α) (mk0 : (List Int) → β) (n : Nat) (a0 : (List AV)) : zslicesConcatbytebyte.g (fun a0 => (h (mk0 a0))) n a0 = (zslicesConcatbytebyte.g mk0 n a0).map h := by
  unfold zslicesConcatbytebyte.g
  exact (bindO_map fun r2 => (bindO_map fun r4 => (bindO_map fun r6 => rfl)))
theorem zslicesConcatbytebyte.run (n : Nat) (a0 : (List AV)) : runF (zslicesConcatbytebyte.C n) (zslicesConcatbytebyte.A n) n Tryd.f99 [(.robjs 26 1 a0)] [] (fun v o => some (v, o)) = zslicesConcatbytebyte.g (fun a0 => ((Prod.mk (.own 0 1) [(some (.ints .u8 a0))]) : AV × Blks)) n a0 := by kernel_rfl
theorem zslicesConcatbytebyte.call (hmix : Tryd.prog.follows .mixedOrders = true) (n : Nat) (t : (List AV)) (u) (h : zslicesConcatbytebyte.m n t = some u) : FnC Tryd.prog abiG 99 (zslicesConcatbytebyte.shape t).1 (zslicesConcatbytebyte.shape t).2 (zslicesConcatbytebyte.res u).1 (zslicesConcatbytebyte.res u).2 := by
  have hg : ∀ f m, (zslicesConcatbytebyte.C n).Γ f = some m → CalleeS Tryd.prog abiG f m := by
    intro f m hm
    unfold zslicesConcatbytebyte.C at hm
    simp only at hm
    first
    | (cases hm; done)
    | (split at hm <;> first
    | (cases hm; exact zslicesGrowbytebyte.s hmix n)
    | (cases hm; done))
  have hb : Tryd.f99.body = some (Tryd.f99.body.getD .skip) := by kernel_rfl
  refine runF_calls (C := zslicesConcatbytebyte.C n) (A := zslicesConcatbytebyte.A n) (n := n) (fn := Tryd.f99) hg hmix Tryd.func99 hb ?_ ?_ (by decide) rfl rfl (by show 1 ≤ Tryd.f99.ntmps; decide) ?_
  · rw [show loopsIn (Tryd.f99.body.getD .skip) = [zslicesConcatbytebyte.b0, zslicesConcatbytebyte.b1] by kernel_rfl]
    intro b hb m hm
    simp only [List.mem_cons, List.not_mem_nil, or_false] at hb
    rcases hb with rfl | rfl
    · have e : (zslicesConcatbytebyte.A n).loop (key zslicesConcatbytebyte.b0) = some (.mk' zslicesConcatbytebyte.l3_0.pat (zslicesConcatbytebyte.l3_0.m n n) zslicesConcatbytebyte.l3_0.resK) := by rw [show key zslicesConcatbytebyte.b0 = 3 by kernel_rfl]; rfl
      rw [e] at hm
      cases hm
      exact (LoopS.of (res := zslicesConcatbytebyte.l3_0.res) (fun R u K => rfl) zslicesConcatbytebyte.l3_0.pat_shape fun t => zslicesConcatbytebyte.l3_0.loop n n t)
    · have e : (zslicesConcatbytebyte.A n).loop (key zslicesConcatbytebyte.b1) = some (.mk' zslicesConcatbytebyte.l11_0.pat (zslicesConcatbytebyte.l11_0.m n n) zslicesConcatbytebyte.l11_0.resK) := by rw [show key zslicesConcatbytebyte.b1 = 11 by kernel_rfl]; rfl
      rw [e] at hm
      cases hm
      exact (LoopS.of (res := zslicesConcatbytebyte.l11_0.res) (fun R u K => rfl) zslicesConcatbytebyte.l11_0.pat_shape fun t => zslicesConcatbytebyte.l11_0.loop n n t)
  · intro a ha m hm
    cases (show none = some m from hm)
  · rw [show runF (zslicesConcatbytebyte.C n) (zslicesConcatbytebyte.A n) n Tryd.f99 (zslicesConcatbytebyte.shape t).1 (zslicesConcatbytebyte.shape t).2 (fun v o => some (v, o)) = _ from zslicesConcatbytebyte.run n t]
    have e := zslicesConcatbytebyte.gmap zslicesConcatbytebyte.res (fun a0 => a0) n t
    unfold zslicesConcatbytebyte.m at h
    rw [h] at e
    exact e
theorem zslicesConcatbytebyte.s (hmix : Tryd.prog.follows .mixedOrders = true) (n : Nat) : CalleeS Tryd.prog abiG 99 (zslicesConcatbytebyte.c n) :=
  CalleeS.of (res := zslicesConcatbytebyte.res) (shape := zslicesConcatbytebyte.shape) (fun R u K => rfl) (fun args lent t h => by
    unfold zslicesConcatbytebyte.pat at h
    split at h
    · cases h; rfl
    · cases h) fun t u h => (zslicesConcatbytebyte.call hmix n t u h).ok Tryd.func99 (by decide) (by kernel_rfl)
end
section
theorem userop_piece.gmap {α β : Type} (h : β → α) (mk0 : Bool → (List Int) → (List Int) → β) (n : Nat) (a0 : (List AV)) : userop_piece.g (fun a0 a1 a2 => (h (mk0 a0 a1 a2))) n a0 = (userop_piece.g mk0 n a0).map h := by
  unfold userop_piece.g
  exact (bindO_map fun r2 => rfl)
theorem userop_piece.run (n : Nat) (a0 : (List AV)) : runF (userop_piece.C n) (userop_piece.A n) n Tryd.f70 [(.robjs 26 1 a0)] [] (fun v o => some (v, o)) = userop_piece.g (fun a0 a1 a2 => ((Prod.mk (.agg [(.bool a0), (.ints .u64 4 a1), (.own 0 1)]) [(some (.ints .u8 a2))]) : AV × Blks)) n a0 := by kernel_rfl
theorem userop_piece.call (hmix : Tryd.prog.follows .mixedOrders = true) (n : Nat) (t : (List AV)) (u) (h : userop_piece.m n t = some u) : FnC Tryd.prog abiG 70 (userop_piece.shape t).1 (userop_piece.shape t).2 (userop_piece.res u).1 (userop_piece.res u).2 := by
  have hg : ∀ f m, (userop_piece.C n).Γ f = some m → CalleeS Tryd.prog abiG f m := by
    intro f m hm
    unfold userop_piece.C at hm
    simp only at hm
    first
    | (cases hm; done)
    | (split at hm <;> first
    | (cases hm; exact zslicesConcatbytebyte.s hmix n)
    | (cases hm; done))
  have hb : Tryd.f70.body = some (Tryd.f70.body.getD .skip) := by kernel_rfl
  refine runF_calls (C := userop_piece.C n) (A := userop_piece.A n) (n := n) (fn := Tryd.f70) hg hmix Tryd.func70 hb ?_ ?_ (by decide) rfl rfl (by show 1 ≤ Tryd.f70.ntmps; decide) ?_
  · rw [show loopsIn (Tryd.f70.body.getD .skip) = [] by kernel_rfl]
    intro b hb
    cases hb
  · intro a ha m hm
    cases (show none = some m from hm)
  · rw [show runF (userop_piece.C n) (userop_piece.A n) n Tryd.f70 (userop_piece.shape t).1 (userop_piece.shape t).2 (fun v o => some (v, o)) = _ from userop_piece.run n t]
    have e := userop_piece.gmap userop_piece.res (fun a0 a1 a2 => (a0, a1, a2)) n t
    unfold userop_piece.m at h
    rw [h] at e
    exact e
theorem userop_piece.s (hmix : Tryd.prog.follows .mixedOrders = true) (n : Nat) : CalleeS Tryd.prog abiG 70 (userop_piece.c n) :=
  CalleeS.of (res := userop_piece.res) (shape := userop_piece.shape) (fun R u K => rfl) (fun args lent t h => by
    unfold userop_piece.pat at h
    split at h
    · cases h; rfl
    · cases h) fun t u h => (userop_piece.call hmix n t u h).ok Tryd.func70 (by decide) (by kernel_rfl)
end
section
theorem userop_half.gmap {α β : Type} (h : β → α) (mk0 : Nat → Nat → (List Int) → β) (n : Nat) (a0 : Int) : userop_half.g (fun a0 a1 a2 => (h (mk0 a0 a1 a2))) n a0 = (userop_half.g mk0 n a0).map h := by
  unfold userop_half.g
  exact (bindO_map fun r2 => (bindO_map fun r4 => (ite_map rfl rfl)))
theorem userop_half.run (n : Nat) (a0 : Int) : runF (userop_half.C n) (userop_half.A n) n Tryd.f73 [(.int .u64 a0)] [] (fun v o => some (v, o)) = userop_half.g (fun a0 a1 a2 => ((Prod.mk (.slice 0 [] a0 a1 1) [(some (.ints .u8 a2))]) : AV × Blks)) n a0 := by kernel_rfl
theorem userop_half.call (hmix : Tryd.prog.follows .mixedOrders = true) (n : Nat) (t : Int) (u) (h : userop_half.m n t = some u) : FnC Tryd.prog abiG 73 (userop_half.shape t).1 (userop_half.shape t).2 (userop_half.res u).1 (userop_half.res u).2 := by
  have hg : ∀ f m, (userop_half.C n).Γ f = some m → CalleeS Tryd.prog abiG f m := by
    intro f m hm
    unfold userop_half.C at hm
    simp only at hm
    first
    | (cases hm; done)
    | (split at hm <;> first
    | (cases hm; exact word_From.s hmix n)
    | (cases hm; exact word_Bytes.s hmix n)
    | (cases hm; done))
  have hb : Tryd.f73.body = some (Tryd.f73.body.getD .skip) := by kernel_rfl
  refine runF_calls (C := userop_half.C n) (A := userop_half.A n) (n := n) (fn := Tryd.f73) hg hmix Tryd.func73 hb ?_ ?_ (by decide) rfl rfl (by show 1 ≤ Tryd.f73.ntmps; decide) ?_
  · rw [show loopsIn (Tryd.f73.body.getD .skip) = [] by kernel_rfl]
    intro b hb
    cases hb
  · intro a ha m hm
    cases (show none = some m from hm)
  · rw [show runF (userop_half.C n) (userop_half.A n) n Tryd.f73 (userop_half.shape t).1 (userop_half.shape t).2 (fun v o => some (v, o)) = _ from userop_half.run n t]
    have e := userop_half.gmap userop_half.res (fun a0 a1 a2 => (a0, a1, a2)) n t
    unfold userop_half.m at h
    rw [h] at e
    exact e
theorem userop_half.s (hmix : Tryd.prog.follows .mixedOrders = true) (n : Nat) : CalleeS Tryd.prog abiG 73 (userop_half.c n) :=
  CalleeS.of (res := userop_half.res) (shape := userop_half.shape) (fun R u K => rfl) (fun args lent t h => by
    unfold userop_half.pat at h
    split at h
    · cases h; rfl
    · cases h) fun t u h => (userop_half.call hmix n t u h).ok Tryd.func73 (by decide) (by kernel_rfl)
end
section
theorem userop_halves.gmap {α β : Type} (h : β → α) (mk0 : (List Int) → β) (n : Nat) (a0 : (List Int)) (a1 : (List Int)) : userop_halves.g (fun a0 => (h (mk0 a0))) n a0 a1 = (userop_halves.g mk0 n a0 a1).map h := by
  unfold userop_halves.g
  exact (bindO_map fun r2 => (bindO_map fun r4 => (bindO_map fun r6 => rfl)))
theorem userop_halves.run (n : Nat) (a0 : (List Int)) (a1 : (List Int)) : runF (userop_halves.C n) (userop_halves.A n) n Tryd.f74 [(.ints .u64 4 a0), (.ints .u64 4 a1)] [] (fun v o => some (v, o)) = userop_halves.g (fun a0 => ((Prod.mk (.ints .u64 4 a0) []) : AV × Blks)) n a0 a1 := by kernel_rfl
theorem userop_halves.call (hmix : Tryd.prog.follows .mixedOrders = true) (n : Nat) (t : ((List Int) × (List Int))) (u) (h : userop_halves.m n t = some u) : FnC Tryd.prog abiG 74 (userop_halves.shape t).1 (userop_halves.shape t).2 (userop_halves.res u).1 (userop_halves.res u).2 := by
  have hg : ∀ f m, (userop_halves.C n).Γ f = some m → CalleeS Tryd.prog abiG f m := by
    intro f m hm
    unfold userop_halves.C at hm
    simp only at hm
    first
    | (cases hm; done)
    | (split at hm <;> first
    | (cases hm; exact word_From.s hmix n)
    | (cases hm; exact word_Shl.s hmix n)
    | (cases hm; exact word_Add.s hmix n)
    | (cases hm; done))
  have hb : Tryd.f74.body = some (Tryd.f74.body.getD .skip) := by kernel_rfl
  refine runF_calls (C := userop_halves.C n) (A := userop_halves.A n) (n := n) (fn := Tryd.f74) hg hmix Tryd.func74 hb ?_ ?_ (by decide) rfl rfl (by show 2 ≤ Tryd.f74.ntmps; decide) ?_
  · rw [show loopsIn (Tryd.f74.body.getD .skip) = [] by kernel_rfl]
    intro b hb
    cases hb
  · intro a ha m hm
    cases (show none = some m from hm)
  · rw [show runF (userop_halves.C n) (userop_halves.A n) n Tryd.f74 (userop_halves.shape t).1 (userop_halves.shape t).2 (fun v o => some (v, o)) = _ from userop_halves.run n t.1 t.2]
    have e := userop_halves.gmap userop_halves.res (fun a0 => a0) n t.1 t.2
    unfold userop_halves.m at h
    rw [h] at e
    exact e
theorem userop_halves.s (hmix : Tryd.prog.follows .mixedOrders = true) (n : Nat) : CalleeS Tryd.prog abiG 74 (userop_halves.c n) :=
  CalleeS.of (res := userop_halves.res) (shape := userop_halves.shape) (fun R u K => rfl) (fun args lent t h => by
    unfold userop_halves.pat at h
    split at h
    · cases h; rfl
    · cases h) fun t u h => (userop_halves.call hmix n t u h).ok Tryd.func74 (by decide) (by kernel_rfl)
end
section
theorem userop_part.gmap {α β : Type} (h : β → α) (mk0 : Bool → (List Int) → β) (n : Nat) (a0 : (List Int)) : userop_part.g (fun a0 a1 => (h (mk0 a0 a1))) n a0 = (userop_part.g mk0 n a0).map h := by
  unfold userop_part.g
  exact rfl
theorem userop_part.run (n : Nat) (a0 : (List Int)) : runF (userop_part.C n) (userop_part.A n) n Tryd.f68 [(.ints .u64 4 a0)] [] (fun v o => some (v, o)) = userop_part.g (fun a0 a1 => ((Prod.mk (.agg [(.bool a0), (.ints .u64 4 a1), .snil]) []) : AV × Blks)) n a0 := by kernel_rfl
theorem userop_part.call (hmix : Tryd.prog.follows .mixedOrders = true) (n : Nat) (t : (List Int)) (u) (h : userop_part.m n t = some u) : FnC Tryd.prog abiG 68 (userop_part.shape t).1 (userop_part.shape t).2 (userop_part.res u).1 (userop_part.res u).2 := by
  have hg : ∀ f m, (userop_part.C n).Γ f = some m → CalleeS Tryd.prog abiG f m := by
    intro f m hm
    unfold userop_part.C at hm
    simp only at hm
    first
    | (cases hm; done)
    | (split at hm <;> first
    | (cases hm; done))
  have hb : Tryd.f68.body = some (Tryd.f68.body.getD .skip) := by kernel_rfl
  refine runF_calls (C := userop_part.C n) (A := userop_part.A n) (n := n) (fn := Tryd.f68) hg hmix Tryd.func68 hb ?_ ?_ (by decide) rfl rfl (by show 1 ≤ Tryd.f68.ntmps; decide) ?_
  · rw [show loopsIn (Tryd.f68.body.getD .skip) = [] by kernel_rfl]
    intro b hb
    cases hb
  · intro a ha m hm
    cases (show none = some m from hm)
  · rw [show runF (userop_part.C n) (userop_part.A n) n Tryd.f68 (userop_part.shape t).1 (userop_part.shape t).2 (fun v o => some (v, o)) = _ from userop_part.run n t]
    have e := userop_part.gmap userop_part.res (fun a0 a1 => (a0, a1)) n t
    unfold userop_part.m at h
    rw [h] at e
    exact e
theorem userop_part.s (hmix : Tryd.prog.follows .mixedOrders = true) (n : Nat) : CalleeS Tryd.prog abiG 68 (userop_part.c n) :=
  CalleeS.of (res := userop_part.res) (shape := userop_part.shape) (fun R u K => rfl) (fun args lent t h => by
    unfold userop_part.pat at h
    split at h
    · cases h; rfl
    · cases h) fun t u h => (userop_part.call hmix n t u h).ok Tryd.func68 (by decide) (by kernel_rfl)
end
section
theorem userop_Pack.gmap {α β : Type} (h : β → α) (mk0 : (List AV) → β) (n : Nat) (a0_0 : (List Int)) (a0_1 : (List Int)) (a0_2 : Bool) (a0_3 : (List Int)) (a0_4 : (List Int)) (a0_5 : (List Int)) (a0_6 : Int) (a0_7 : Int) (a0_8 : Int) (a0_9 : (List Int)) (a0_10 : (List Int)) (a0_11 : Bool) (a0_12 : (List Int)) (a0_13 : Int) (a0_14 : Int) (a0_15 : (List Int)) (a0_16 : (List Int)) : userop_Pack.g (fun a0 => (h (mk0 a0))) n a0_0 a0_1 a0_2 a0_3 a0_4 a0_5 a0_6 a0_7 a0_8 a0_9 a0_10 a0_11 a0_12 a0_13 a0_14 a0_15 a0_16 = (userop_Pack.g mk0 n a0_0 a0_1 a0_2 a0_3 a0_4 a0_5 a0_6 a0_7 a0_8 a0_9 a0_10 a0_11 a0_12 a0_13 a0_14 a0_15 a0_16).map h := by
  unfold userop_Pack.g
  exact (bindO_map fun r2 => (bindO_map fun r4 => (ite_map (bindO_map fun r8 => (ite_map (bindO_map fun r12 => (bindO_map fun r14 => (bindO_map fun r16 => (bindO_map fun r18 => (bindO_map fun r20 => (bindO_map fun r22 => (bindO_map fun r24 => (bindO_map fun r26 => (bindO_map fun r28 => (bindO_map fun r30 => (bindO_map fun r32 => (bindO_map fun r34 => (bindO_map fun r36 => (bindO_map fun r38 => (bindO_map fun r40 => (bindO_map fun r42 => rfl)))))))))))))))) (bindO_map fun r12 => (bindO_map fun r14 => (bindO_map fun r16 => (bindO_map fun r18 => (bindO_map fun r20 => (bindO_map fun r22 => (bindO_map fun r24 => (bindO_map fun r26 => (bindO_map fun r28 => (bindO_map fun r30 => (bindO_map fun r32 => (bindO_map fun r34 => (bindO_map fun r36 => rfl))))))))))))))) (ite_map (bindO_map fun r10 => (bindO_map fun r12 => (bindO_map fun r14 => (bindO_map fun r16 => (bindO_map fun r18 => (bindO_map fun r20 => (bindO_map fun r22 => (bindO_map fun r24 => (bindO_map fun r26 => (bindO_map fun r28 => (bindO_map fun r30 => (bindO_map fun r32 => (bindO_map fun r34 => (bindO_map fun r36 => (bindO_map fun r38 => (bindO_map fun r40 => rfl)))))))))))))))) (bindO_map fun r10 => (bindO_map fun r12 => (bindO_map fun r14 => (bindO_map fun r16 => (bindO_map fun r18 => (bindO_map fun r20 => (bindO_map fun r22 => (bindO_map fun r24 => (bindO_map fun r26 => (bindO_map fun r28 => (bindO_map fun r30 => (bindO_map fun r32 => (bindO_map fun r34 => rfl)))))))))))))))))
theorem userop_Pack.run (n : Nat) (a0_0 : (List Int)) (a0_1 : (List Int)) (a0_2 : Bool) (a0_3 : (List Int)) (a0_4 : (List Int)) (a0_5 : (List Int)) (a0_6 : Int) (a0_7 : Int) (a0_8 : Int) (a0_9 : (List Int)) (a0_10 : (List Int)) (a0_11 : Bool) (a0_12 : (List Int)) (a0_13 : Int) (a0_14 : Int) (a0_15 : (List Int)) (a0_16 : (List Int)) : runF (userop_Pack.C n) (userop_Pack.A n) n Tryd.f38 [(.agg [(.ints .u8 20 a0_0), (.ints .u64 4 a0_1), (.bool a0_2), (.ints .u8 20 a0_3), (.rints .u8 a0_4), (.rints .u8 a0_5), (.int .u64 a0_6), (.int .u64 a0_7), (.int .u64 a0_8), (.ints .u64 4 a0_9), (.ints .u64 4 a0_10), (.bool a0_11), (.ints .u8 20 a0_12), (.int .u64 a0_13), (.int .u64 a0_14), (.rints .u8 a0_15), (.rints .u8 a0_16)])] [] (fun v o => some (v, o)) = userop_Pack.g (fun a0 => ((Prod.mk (.robjs 69 6 a0) []) : AV × Blks)) n a0_0 a0_1 a0_2 a0_3 a0_4 a0_5 a0_6 a0_7 a0_8 a0_9 a0_10 a0_11 a0_12 a0_13 a0_14 a0_15 a0_16 := by kernel_rfl
theorem userop_Pack.call (hmix : Tryd.prog.follows .mixedOrders = true) (n : Nat) (t : ((List Int) × ((List Int) × (Bool × ((List Int) × ((List Int) × ((List Int) × (Int × (Int × (Int × ((List Int) × ((List Int) × (Bool × ((List Int) × (Int × (Int × ((List Int) × (List Int)))))))))))))))))) (u) (h : userop_Pack.m n t = some u) : FnC Tryd.prog abiG 38 (userop_Pack.shape t).1 (userop_Pack.shape t).2 (userop_Pack.res u).1 (userop_Pack.res u).2 := by
  have hg : ∀ f m, (userop_Pack.C n).Γ f = some m → CalleeS Tryd.prog abiG f m := by
    intro f m hm
    unfold userop_Pack.C at hm
    simp only at hm
    first
    | (cases hm; done)
    | (split at hm <;> first
    | (cases hm; exact userop_piece.s hmix n)
    | (cases hm; exact userop_half.s hmix n)
    | (cases hm; exact word_From.s hmix n)
    | (cases hm; exact userop_halves.s hmix n)
    | (cases hm; exact word_Wide.s hmix n)
    | (cases hm; exact userop_part.s hmix n)
    | (cases hm; done))
  have hb : Tryd.f38.body = some (Tryd.f38.body.getD .skip) := by kernel_rfl
  refine runF_calls (C := userop_Pack.C n) (A := userop_Pack.A n) (n := n) (fn := Tryd.f38) hg hmix Tryd.func38 hb ?_ ?_ (by decide) rfl rfl (by show 1 ≤ Tryd.f38.ntmps; decide) ?_
  · rw [show loopsIn (Tryd.f38.body.getD .skip) = [] by kernel_rfl]
    intro b hb
    cases hb
  · intro a ha m hm
    cases (show none = some m from hm)
  · rw [show runF (userop_Pack.C n) (userop_Pack.A n) n Tryd.f38 (userop_Pack.shape t).1 (userop_Pack.shape t).2 (fun v o => some (v, o)) = _ from userop_Pack.run n t.1 t.2.1 t.2.2.1 t.2.2.2.1 t.2.2.2.2.1 t.2.2.2.2.2.1 t.2.2.2.2.2.2.1 t.2.2.2.2.2.2.2.1 t.2.2.2.2.2.2.2.2.1 t.2.2.2.2.2.2.2.2.2.1 t.2.2.2.2.2.2.2.2.2.2.1 t.2.2.2.2.2.2.2.2.2.2.2.1 t.2.2.2.2.2.2.2.2.2.2.2.2.1 t.2.2.2.2.2.2.2.2.2.2.2.2.2.1 t.2.2.2.2.2.2.2.2.2.2.2.2.2.2.1 t.2.2.2.2.2.2.2.2.2.2.2.2.2.2.2.1 t.2.2.2.2.2.2.2.2.2.2.2.2.2.2.2.2]
    have e := userop_Pack.gmap userop_Pack.res (fun a0 => a0) n t.1 t.2.1 t.2.2.1 t.2.2.2.1 t.2.2.2.2.1 t.2.2.2.2.2.1 t.2.2.2.2.2.2.1 t.2.2.2.2.2.2.2.1 t.2.2.2.2.2.2.2.2.1 t.2.2.2.2.2.2.2.2.2.1 t.2.2.2.2.2.2.2.2.2.2.1 t.2.2.2.2.2.2.2.2.2.2.2.1 t.2.2.2.2.2.2.2.2.2.2.2.2.1 t.2.2.2.2.2.2.2.2.2.2.2.2.2.1 t.2.2.2.2.2.2.2.2.2.2.2.2.2.2.1 t.2.2.2.2.2.2.2.2.2.2.2.2.2.2.2.1 t.2.2.2.2.2.2.2.2.2.2.2.2.2.2.2.2
    unfold userop_Pack.m at h
    rw [h] at e
    exact e
theorem userop_Pack.s (hmix : Tryd.prog.follows .mixedOrders = true) (n : Nat) : CalleeS Tryd.prog abiG 38 (userop_Pack.c n) :=
  CalleeS.of (res := userop_Pack.res) (shape := userop_Pack.shape) (fun R u K => rfl) (fun args lent t h => by
    unfold userop_Pack.pat at h
    split at h
    · cases h; rfl
    · cases h) fun t u h => (userop_Pack.call hmix n t u h).ok Tryd.func38 (by decide) (by kernel_rfl)
end
section
theorem abi_number.gmap {α β : Type} (h : β → α) (mk0 : (List Int) → β) (n : Nat) (a0 : Int) : abi_number.g (fun a0 => (h (mk0 a0))) n a0 = (abi_number.g mk0 n a0).map h := by
  unfold abi_number.g
  exact (bindO_map fun r2 => (bindO_map fun r4 => rfl))
theorem abi_number.run (n : Nat) (a0 : Int) : runF (abi_number.C n) (abi_number.A n) n Tryd.f61 [(.int .i64 a0)] [] (fun v o => some (v, o)) = abi_number.g (fun a0 => ((Prod.mk (.own 0 1) [(some (.ints .u8 a0))]) : AV × Blks)) n a0 := by kernel_rfl
theorem abi_number.call (hmix : Tryd.prog.follows .mixedOrders = true) (n : Nat) (t : Int) (u) (h : abi_number.m n t = some u) : FnC Tryd.prog abiG 61 (abi_number.shape t).1 (abi_number.shape t).2 (abi_number.res u).1 (abi_number.res u).2 := by
  have hg : ∀ f m, (abi_number.C n).Γ f = some m → CalleeS Tryd.prog abiG f m := by
    intro f m hm
    unfold abi_number.C at hm
    simp only at hm
    first
    | (cases hm; done)
    | (split at hm <;> first
    | (cases hm; exact word_From.s hmix n)
    | (cases hm; exact word_Bytes.s hmix n)
    | (cases hm; done))
  have hb : Tryd.f61.body = some (Tryd.f61.body.getD .skip) := by kernel_rfl
  refine runF_calls (C := abi_number.C n) (A := abi_number.A n) (n := n) (fn := Tryd.f61) hg hmix Tryd.func61 hb ?_ ?_ (by decide) rfl rfl (by show 1 ≤ Tryd.f61.ntmps; decide) ?_
  · rw [show loopsIn (Tryd.f61.body.getD .skip) = [] by kernel_rfl]
    intro b hb
    cases hb
  · intro a ha m hm
    cases (show none = some m from hm)
  · rw [show runF (abi_number.C n) (abi_number.A n) n Tryd.f61 (abi_number.shape t).1 (abi_number.shape t).2 (fun v o => some (v, o)) = _ from abi_number.run n t]
    have e := abi_number.gmap abi_number.res (fun a0 => a0) n t
    unfold abi_number.m at h
    rw [h] at e
    exact e
theorem abi_number.s (hmix : Tryd.prog.follows .mixedOrders = true) (n : Nat) : CalleeS Tryd.prog abiG 61 (abi_number.c n) :=
  CalleeS.of (res := abi_number.res) (shape := abi_number.shape) (fun R u K => rfl) (fun args lent t h => by
    unfold abi_number.pat at h
    split at h
    · cases h; rfl
    · cases h) fun t u h => (abi_number.call hmix n t u h).ok Tryd.func61 (by decide) (by kernel_rfl)
end
section
theorem abi_Encode.l3_0.rmap {α β : Type} (h : β → α) (mk0 : (List Int) → (List Int) → β) (n : Nat) (f : Int → Int → (List AV) → (List AV) → (List Int) → (List Int) → Option β)  (x0 : Int) (x1 : Int) (x2 : (List AV)) (x3 : (List AV)) (x4 : (List Int)) (x5 : (List Int)) : abi_Encode.l3_0.r (fun a0 a1 => (h (mk0 a0 a1))) n (fun y0 y1 y2 y3 y4 y5 => (f y0 y1 y2 y3 y4 y5).map h) x0 x1 x2 x3 x4 x5 = (abi_Encode.l3_0.r mk0 n f x0 x1 x2 x3 x4 x5).map h := by
  unfold abi_Encode.l3_0.r
  exact (ite_map (ite_map (ite_map (bindO_map fun r10 => (bindO_map fun r12 => (bindO_map fun r14 => (bindO_map fun r16 => (ite_map (bindO_map fun r20 => (ite_map rfl rfl)) (bindO_map fun r20 => (ite_map (bindO_map fun r24 => (ite_map (ite_map (ite_map (ite_map rfl rfl) rfl) rfl) rfl)) rfl))))))) rfl) rfl) rfl)
theorem abi_Encode.l3_0.gmap {α β : Type} (h : β → α) (mk0 : (List Int) → (List Int) → β) (n : Nat) : ∀ (m : Nat) (x0 : Int) (x1 : Int) (x2 : (List AV)) (x3 : (List AV)) (x4 : (List Int)) (x5 : (List Int)), abi_Encode.l3_0.g (fun a0 a1 => (h (mk0 a0 a1))) n m x0 x1 x2 x3 x4 x5 = (abi_Encode.l3_0.g mk0 n m x0 x1 x2 x3 x4 x5).map h
  | 0, _, _, _, _, _, _ => rfl
  | m + 1, x0, x1, x2, x3, x4, x5 => by
    unfold abi_Encode.l3_0.g
    rw [← abi_Encode.l3_0.rmap]
    congr
    · funext y0 y1 y2 y3 y4 y5; exact abi_Encode.l3_0.gmap h mk0 n m y0 y1 y2 y3 y4 y5
theorem abi_Encode.l3_0.pat_shape : ∀ st t, abi_Encode.l3_0.pat st = some t → st = abi_Encode.l3_0.shape t := by
  intro st t h
  unfold abi_Encode.l3_0.pat at h
  split at h
  · cases h; rfl
  · cases h
theorem abi_Encode.l3_0.round (n : Nat) (rc : St → Option (Ex × St)) (x0 : Int) (x1 : Int) (x2 : (List AV)) (x3 : (List AV)) (x4 : (List Int)) (x5 : (List Int)) : roundOf (abi_Encode.C n) (abi_Encode.A n) n abi_Encode.b0 rc ((St.mk [(.int .i64 x0), (.int .i64 x1), (.robjs 69 6 x2), (.own 0 1), (.robjs 69 6 x3), (.own 1 1)] [(some (.ints .u8 x4)), (some (.ints .u8 x5))])) = abi_Encode.l3_0.r (fun a0 a1 => ((Prod.mk (.exit 0) (St.mk [(.own 0 1), (.own 1 1)] [(some (.ints .u8 a0)), (some (.ints .u8 a1))])) : Ex × St)) n (fun y0 y1 y2 y3 y4 y5 => rc ((St.mk [(.int .i64 y0), (.int .i64 y1), (.robjs 69 6 y2), (.own 0 1), (.robjs 69 6 y3), (.own 1 1)] [(some (.ints .u8 y4)), (some (.ints .u8 y5))]))) x0 x1 x2 x3 x4 x5 := by kernel_rfl
theorem abi_Encode.l3_0.loop' (n : Nat) : ∀ (m : Nat) (t : (Int × (Int × ((List AV) × ((List AV) × ((List Int) × (List Int))))))), loopOf (roundOf (abi_Encode.C n) (abi_Encode.A n) n abi_Encode.b0) m (abi_Encode.l3_0.shape t) = abi_Encode.l3_0.g (fun a0 a1 => ((Prod.mk (.exit 0) (St.mk [(.own 0 1), (.own 1 1)] [(some (.ints .u8 a0)), (some (.ints .u8 a1))])) : Ex × St)) n m t.1 t.2.1 t.2.2.1 t.2.2.2.1 t.2.2.2.2.1 t.2.2.2.2.2 :=
  loop_of_round (shape := abi_Encode.l3_0.shape) (body := roundOf (abi_Encode.C n) (abi_Encode.A n) n abi_Encode.b0) (g := fun m t => abi_Encode.l3_0.g (fun a0 a1 => ((Prod.mk (.exit 0) (St.mk [(.own 0 1), (.own 1 1)] [(some (.ints .u8 a0)), (some (.ints .u8 a1))])) : Ex × St)) n m t.1 t.2.1 t.2.2.1 t.2.2.2.1 t.2.2.2.2.1 t.2.2.2.2.2) (fun t => rfl)
    fun m t ih => (abi_Encode.l3_0.round n (loopOf (roundOf (abi_Encode.C n) (abi_Encode.A n) n abi_Encode.b0) m) t.1 t.2.1 t.2.2.1 t.2.2.2.1 t.2.2.2.2.1 t.2.2.2.2.2).trans (congrFun (congrFun (congrFun (congrFun (congrFun (congrFun (congrArg (abi_Encode.l3_0.r (fun a0 a1 => ((Prod.mk (.exit 0) (St.mk [(.own 0 1), (.own 1 1)] [(some (.ints .u8 a0)), (some (.ints .u8 a1))])) : Ex × St)) n) (funext fun y0 => funext fun y1 => funext fun y2 => funext fun y3 => funext fun y4 => funext fun y5 => ih (y0, y1, y2, y3, y4, y5))) t.1) t.2.1) t.2.2.1) t.2.2.2.1) t.2.2.2.2.1) t.2.2.2.2.2)
theorem abi_Encode.l3_0.loop (n m : Nat) (t : (Int × (Int × ((List AV) × ((List AV) × ((List Int) × (List Int))))))) : loopOf (roundOf (abi_Encode.C n) (abi_Encode.A n) n abi_Encode.b0) m (abi_Encode.l3_0.shape t) = (abi_Encode.l3_0.m n m t).map abi_Encode.l3_0.res :=
  (abi_Encode.l3_0.loop' n m t).trans (abi_Encode.l3_0.gmap abi_Encode.l3_0.res (fun a0 a1 => (a0, a1)) n m t.1 t.2.1 t.2.2.1 t.2.2.2.1 t.2.2.2.2.1 t.2.2.2.2.2)
theorem abi_Encode.gmap {α β : Type} (h : β → α) (mk0 : (List Int) → β) (n : Nat) (a0 : (List AV)) : abi_Encode.g (fun a0 => (h (mk0 a0))) n a0 = (abi_Encode.g mk0 n a0).map h := by
  unfold abi_Encode.g
  exact (bindO_map fun r2 => (ite_map rfl rfl))
theorem abi_Encode.run (n : Nat) (a0 : (List AV)) : runF (abi_Encode.C n) (abi_Encode.A n) n Tryd.f20 [(.robjs 69 6 a0)] [] (fun v o => some (v, o)) = abi_Encode.g (fun a0 => ((Prod.mk (.own 0 1) [(some (.ints .u8 a0))]) : AV × Blks)) n a0 := by kernel_rfl
theorem abi_Encode.call (hmix : Tryd.prog.follows .mixedOrders = true) (n : Nat) (t : (List AV)) (u) (h : abi_Encode.m n t = some u) : FnC Tryd.prog abiG 20 (abi_Encode.shape t).1 (abi_Encode.shape t).2 (abi_Encode.res u).1 (abi_Encode.res u).2 := by
  have hg : ∀ f m, (abi_Encode.C n).Γ f = some m → CalleeS Tryd.prog abiG f m := by
    intro f m hm
    unfold abi_Encode.C at hm
    simp only at hm
    first
    | (cases hm; done)
    | (split at hm <;> first
    | (cases hm; exact word_Bytes.s hmix n)
    | (cases hm; exact abi_number.s hmix n)
    | (cases hm; done))
  have hb : Tryd.f20.body = some (Tryd.f20.body.getD .skip) := by kernel_rfl
  refine runF_calls (C := abi_Encode.C n) (A := abi_Encode.A n) (n := n) (fn := Tryd.f20) hg hmix Tryd.func20 hb ?_ ?_ (by decide) rfl rfl (by show 1 ≤ Tryd.f20.ntmps; decide) ?_
  · rw [show loopsIn (Tryd.f20.body.getD .skip) = [abi_Encode.b0] by kernel_rfl]
    intro b hb m hm
    simp only [List.mem_cons, List.not_mem_nil, or_false] at hb
    rcases hb with rfl
    · have e : (abi_Encode.A n).loop (key abi_Encode.b0) = some (.mk' abi_Encode.l3_0.pat (abi_Encode.l3_0.m n n) abi_Encode.l3_0.resK) := by rw [show key abi_Encode.b0 = 3 by kernel_rfl]; rfl
      rw [e] at hm
      cases hm
      exact (LoopS.of (res := abi_Encode.l3_0.res) (fun R u K => rfl) abi_Encode.l3_0.pat_shape fun t => abi_Encode.l3_0.loop n n t)
  · intro a ha m hm
    cases (show none = some m from hm)
  · rw [show runF (abi_Encode.C n) (abi_Encode.A n) n Tryd.f20 (abi_Encode.shape t).1 (abi_Encode.shape t).2 (fun v o => some (v, o)) = _ from abi_Encode.run n t]
    have e := abi_Encode.gmap abi_Encode.res (fun a0 => a0) n t
    unfold abi_Encode.m at h
    rw [h] at e
    exact e
theorem abi_Encode.s (hmix : Tryd.prog.follows .mixedOrders = true) (n : Nat) : CalleeS Tryd.prog abiG 20 (abi_Encode.c n) :=
  CalleeS.of (res := abi_Encode.res) (shape := abi_Encode.shape) (fun R u K => rfl) (fun args lent t h => by
    unfold abi_Encode.pat at h
    split at h
    · cases h; rfl
    · cases h) fun t u h => (abi_Encode.call hmix n t u h).ok Tryd.func20 (by decide) (by kernel_rfl)
end
section
theorem userop_asked.gmap {α β : Type} (h : β → α) (mk0 : (List Int) → β) (n : Nat) (a0 : ByteArray) (a1_0 : (List Int)) (a1_1 : (List Int)) (a1_2 : Bool) (a1_3 : (List Int)) (a1_4 : (List Int)) (a1_5 : (List Int)) (a1_6 : Int) (a1_7 : Int) (a1_8 : Int) (a1_9 : (List Int)) (a1_10 : (List Int)) (a1_11 : Bool) (a1_12 : (List Int)) (a1_13 : Int) (a1_14 : Int) (a1_15 : (List Int)) (a1_16 : (List Int)) (a2 : (List Int)) (a3 : (List Int)) : userop_asked.g (fun a0 => (h (mk0 a0))) n a0 a1_0 a1_1 a1_2 a1_3 a1_4 a1_5 a1_6 a1_7 a1_8 a1_9 a1_10 a1_11 a1_12 a1_13 a1_14 a1_15 a1_16 a2 a3 = (userop_asked.g mk0 n a0 a1_0 a1_1 a1_2 a1_3 a1_4 a1_5 a1_6 a1_7 a1_8 a1_9 a1_10 a1_11 a1_12 a1_13 a1_14 a1_15 a1_16 a2 a3).map h := by
  unfold userop_asked.g
  exact (ite_map (bindO_map fun r4 => (bindO_map fun r6 => (bindO_map fun r8 => (bindO_map fun r10 => (bindO_map fun r12 => (bindO_map fun r14 => (bindO_map fun r16 => (bindO_map fun r18 => rfl)))))))) rfl)
theorem userop_asked.run (n : Nat) (a0 : ByteArray) (a1_0 : (List Int)) (a1_1 : (List Int)) (a1_2 : Bool) (a1_3 : (List Int)) (a1_4 : (List Int)) (a1_5 : (List Int)) (a1_6 : Int) (a1_7 : Int) (a1_8 : Int) (a1_9 : (List Int)) (a1_10 : (List Int)) (a1_11 : Bool) (a1_12 : (List Int)) (a1_13 : Int) (a1_14 : Int) (a1_15 : (List Int)) (a1_16 : (List Int)) (a2 : (List Int)) (a3 : (List Int)) : runF (userop_asked.C n) (userop_asked.A n) n Tryd.f66 [(.str a0), (.agg [(.ints .u8 20 a1_0), (.ints .u64 4 a1_1), (.bool a1_2), (.ints .u8 20 a1_3), (.rints .u8 a1_4), (.rints .u8 a1_5), (.int .u64 a1_6), (.int .u64 a1_7), (.int .u64 a1_8), (.ints .u64 4 a1_9), (.ints .u64 4 a1_10), (.bool a1_11), (.ints .u8 20 a1_12), (.int .u64 a1_13), (.int .u64 a1_14), (.rints .u8 a1_15), (.rints .u8 a1_16)]), (.ints .u64 4 a2), (.ints .u64 4 a3)] [] (fun v o => some (v, o)) = userop_asked.g (fun a0 => ((Prod.mk (.own 0 1) [(some (.ints .u8 a0))]) : AV × Blks)) n a0 a1_0 a1_1 a1_2 a1_3 a1_4 a1_5 a1_6 a1_7 a1_8 a1_9 a1_10 a1_11 a1_12 a1_13 a1_14 a1_15 a1_16 a2 a3 := by kernel_rfl
theorem userop_asked.call (hmix : Tryd.prog.follows .mixedOrders = true) (n : Nat) (t : (ByteArray × ((List Int) × ((List Int) × (Bool × ((List Int) × ((List Int) × ((List Int) × (Int × (Int × (Int × ((List Int) × ((List Int) × (Bool × ((List Int) × (Int × (Int × ((List Int) × ((List Int) × ((List Int) × (List Int))))))))))))))))))))) (u) (h : userop_asked.m n t = some u) : FnC Tryd.prog abiG 66 (userop_asked.shape t).1 (userop_asked.shape t).2 (userop_asked.res u).1 (userop_asked.res u).2 := by
  have hg : ∀ f m, (userop_asked.C n).Γ f = some m → CalleeS Tryd.prog abiG f m := by
    intro f m hm
    unfold userop_asked.C at hm
    simp only at hm
    first
    | (cases hm; done)
    | (split at hm <;> first
    | (cases hm; exact abi_Selector.s hmix n)
    | (cases hm; exact word_From.s hmix n)
    | (cases hm; exact word_Bytes.s hmix n)
    | (cases hm; exact userop_Pack.s hmix n)
    | (cases hm; exact abi_Encode.s hmix n)
    | (cases hm; exact zslicesConcatbytebyte.s hmix n)
    | (cases hm; done))
  have hb : Tryd.f66.body = some (Tryd.f66.body.getD .skip) := by kernel_rfl
  refine runF_calls (C := userop_asked.C n) (A := userop_asked.A n) (n := n) (fn := Tryd.f66) hg hmix Tryd.func66 hb ?_ ?_ (by decide) rfl rfl (by show 4 ≤ Tryd.f66.ntmps; decide) ?_
  · rw [show loopsIn (Tryd.f66.body.getD .skip) = [] by kernel_rfl]
    intro b hb
    cases hb
  · intro a ha m hm
    cases (show none = some m from hm)
  · rw [show runF (userop_asked.C n) (userop_asked.A n) n Tryd.f66 (userop_asked.shape t).1 (userop_asked.shape t).2 (fun v o => some (v, o)) = _ from userop_asked.run n t.1 t.2.1 t.2.2.1 t.2.2.2.1 t.2.2.2.2.1 t.2.2.2.2.2.1 t.2.2.2.2.2.2.1 t.2.2.2.2.2.2.2.1 t.2.2.2.2.2.2.2.2.1 t.2.2.2.2.2.2.2.2.2.1 t.2.2.2.2.2.2.2.2.2.2.1 t.2.2.2.2.2.2.2.2.2.2.2.1 t.2.2.2.2.2.2.2.2.2.2.2.2.1 t.2.2.2.2.2.2.2.2.2.2.2.2.2.1 t.2.2.2.2.2.2.2.2.2.2.2.2.2.2.1 t.2.2.2.2.2.2.2.2.2.2.2.2.2.2.2.1 t.2.2.2.2.2.2.2.2.2.2.2.2.2.2.2.2.1 t.2.2.2.2.2.2.2.2.2.2.2.2.2.2.2.2.2.1 t.2.2.2.2.2.2.2.2.2.2.2.2.2.2.2.2.2.2.1 t.2.2.2.2.2.2.2.2.2.2.2.2.2.2.2.2.2.2.2]
    have e := userop_asked.gmap userop_asked.res (fun a0 => a0) n t.1 t.2.1 t.2.2.1 t.2.2.2.1 t.2.2.2.2.1 t.2.2.2.2.2.1 t.2.2.2.2.2.2.1 t.2.2.2.2.2.2.2.1 t.2.2.2.2.2.2.2.2.1 t.2.2.2.2.2.2.2.2.2.1 t.2.2.2.2.2.2.2.2.2.2.1 t.2.2.2.2.2.2.2.2.2.2.2.1 t.2.2.2.2.2.2.2.2.2.2.2.2.1 t.2.2.2.2.2.2.2.2.2.2.2.2.2.1 t.2.2.2.2.2.2.2.2.2.2.2.2.2.2.1 t.2.2.2.2.2.2.2.2.2.2.2.2.2.2.2.1 t.2.2.2.2.2.2.2.2.2.2.2.2.2.2.2.2.1 t.2.2.2.2.2.2.2.2.2.2.2.2.2.2.2.2.2.1 t.2.2.2.2.2.2.2.2.2.2.2.2.2.2.2.2.2.2.1 t.2.2.2.2.2.2.2.2.2.2.2.2.2.2.2.2.2.2.2
    unfold userop_asked.m at h
    rw [h] at e
    exact e
theorem userop_asked.s (hmix : Tryd.prog.follows .mixedOrders = true) (n : Nat) : CalleeS Tryd.prog abiG 66 (userop_asked.c n) :=
  CalleeS.of (res := userop_asked.res) (shape := userop_asked.shape) (fun R u K => rfl) (fun args lent t h => by
    unfold userop_asked.pat at h
    split at h
    · cases h; rfl
    · cases h) fun t u h => (userop_asked.call hmix n t u h).ok Tryd.func66 (by decide) (by kernel_rfl)
end
section
theorem userop_Validate.gmap {α β : Type} (h : β → α) (mk0 : (List Int) → β) (n : Nat) (a0_0 : (List Int)) (a0_1 : (List Int)) (a0_2 : Bool) (a0_3 : (List Int)) (a0_4 : (List Int)) (a0_5 : (List Int)) (a0_6 : Int) (a0_7 : Int) (a0_8 : Int) (a0_9 : (List Int)) (a0_10 : (List Int)) (a0_11 : Bool) (a0_12 : (List Int)) (a0_13 : Int) (a0_14 : Int) (a0_15 : (List Int)) (a0_16 : (List Int)) (a1 : (List Int)) (a2 : (List Int)) : userop_Validate.g (fun a0 => (h (mk0 a0))) n a0_0 a0_1 a0_2 a0_3 a0_4 a0_5 a0_6 a0_7 a0_8 a0_9 a0_10 a0_11 a0_12 a0_13 a0_14 a0_15 a0_16 a1 a2 = (userop_Validate.g mk0 n a0_0 a0_1 a0_2 a0_3 a0_4 a0_5 a0_6 a0_7 a0_8 a0_9 a0_10 a0_11 a0_12 a0_13 a0_14 a0_15 a0_16 a1 a2).map h := by
  unfold userop_Validate.g
  exact (bindO_map fun r2 => rfl)
theorem userop_Validate.run (n : Nat) (a0_0 : (List Int)) (a0_1 : (List Int)) (a0_2 : Bool) (a0_3 : (List Int)) (a0_4 : (List Int)) (a0_5 : (List Int)) (a0_6 : Int) (a0_7 : Int) (a0_8 : Int) (a0_9 : (List Int)) (a0_10 : (List Int)) (a0_11 : Bool) (a0_12 : (List Int)) (a0_13 : Int) (a0_14 : Int) (a0_15 : (List Int)) (a0_16 : (List Int)) (a1 : (List Int)) (a2 : (List Int)) : runF (userop_Validate.C n) (userop_Validate.A n) n Tryd.f30 [(.agg [(.ints .u8 20 a0_0), (.ints .u64 4 a0_1), (.bool a0_2), (.ints .u8 20 a0_3), (.rints .u8 a0_4), (.rints .u8 a0_5), (.int .u64 a0_6), (.int .u64 a0_7), (.int .u64 a0_8), (.ints .u64 4 a0_9), (.ints .u64 4 a0_10), (.bool a0_11), (.ints .u8 20 a0_12), (.int .u64 a0_13), (.int .u64 a0_14), (.rints .u8 a0_15), (.rints .u8 a0_16)]), (.ints .u64 4 a1), (.ints .u64 4 a2)] [] (fun v o => some (v, o)) = userop_Validate.g (fun a0 => ((Prod.mk (.own 0 1) [(some (.ints .u8 a0))]) : AV × Blks)) n a0_0 a0_1 a0_2 a0_3 a0_4 a0_5 a0_6 a0_7 a0_8 a0_9 a0_10 a0_11 a0_12 a0_13 a0_14 a0_15 a0_16 a1 a2 := by kernel_rfl
theorem userop_Validate.call (hmix : Tryd.prog.follows .mixedOrders = true) (n : Nat) (t : ((List Int) × ((List Int) × (Bool × ((List Int) × ((List Int) × ((List Int) × (Int × (Int × (Int × ((List Int) × ((List Int) × (Bool × ((List Int) × (Int × (Int × ((List Int) × ((List Int) × ((List Int) × (List Int)))))))))))))))))))) (u) (h : userop_Validate.m n t = some u) : FnC Tryd.prog abiG 30 (userop_Validate.shape t).1 (userop_Validate.shape t).2 (userop_Validate.res u).1 (userop_Validate.res u).2 := by
  have hg : ∀ f m, (userop_Validate.C n).Γ f = some m → CalleeS Tryd.prog abiG f m := by
    intro f m hm
    unfold userop_Validate.C at hm
    simp only at hm
    first
    | (cases hm; done)
    | (split at hm <;> first
    | (cases hm; exact userop_asked.s hmix n)
    | (cases hm; done))
  have hb : Tryd.f30.body = some (Tryd.f30.body.getD .skip) := by kernel_rfl
  refine runF_calls (C := userop_Validate.C n) (A := userop_Validate.A n) (n := n) (fn := Tryd.f30) hg hmix Tryd.func30 hb ?_ ?_ (by decide) rfl rfl (by show 3 ≤ Tryd.f30.ntmps; decide) ?_
  · rw [show loopsIn (Tryd.f30.body.getD .skip) = [] by kernel_rfl]
    intro b hb
    cases hb
  · intro a ha m hm
    cases (show none = some m from hm)
  · rw [show runF (userop_Validate.C n) (userop_Validate.A n) n Tryd.f30 (userop_Validate.shape t).1 (userop_Validate.shape t).2 (fun v o => some (v, o)) = _ from userop_Validate.run n t.1 t.2.1 t.2.2.1 t.2.2.2.1 t.2.2.2.2.1 t.2.2.2.2.2.1 t.2.2.2.2.2.2.1 t.2.2.2.2.2.2.2.1 t.2.2.2.2.2.2.2.2.1 t.2.2.2.2.2.2.2.2.2.1 t.2.2.2.2.2.2.2.2.2.2.1 t.2.2.2.2.2.2.2.2.2.2.2.1 t.2.2.2.2.2.2.2.2.2.2.2.2.1 t.2.2.2.2.2.2.2.2.2.2.2.2.2.1 t.2.2.2.2.2.2.2.2.2.2.2.2.2.2.1 t.2.2.2.2.2.2.2.2.2.2.2.2.2.2.2.1 t.2.2.2.2.2.2.2.2.2.2.2.2.2.2.2.2.1 t.2.2.2.2.2.2.2.2.2.2.2.2.2.2.2.2.2.1 t.2.2.2.2.2.2.2.2.2.2.2.2.2.2.2.2.2.2]
    have e := userop_Validate.gmap userop_Validate.res (fun a0 => a0) n t.1 t.2.1 t.2.2.1 t.2.2.2.1 t.2.2.2.2.1 t.2.2.2.2.2.1 t.2.2.2.2.2.2.1 t.2.2.2.2.2.2.2.1 t.2.2.2.2.2.2.2.2.1 t.2.2.2.2.2.2.2.2.2.1 t.2.2.2.2.2.2.2.2.2.2.1 t.2.2.2.2.2.2.2.2.2.2.2.1 t.2.2.2.2.2.2.2.2.2.2.2.2.1 t.2.2.2.2.2.2.2.2.2.2.2.2.2.1 t.2.2.2.2.2.2.2.2.2.2.2.2.2.2.1 t.2.2.2.2.2.2.2.2.2.2.2.2.2.2.2.1 t.2.2.2.2.2.2.2.2.2.2.2.2.2.2.2.2.1 t.2.2.2.2.2.2.2.2.2.2.2.2.2.2.2.2.2.1 t.2.2.2.2.2.2.2.2.2.2.2.2.2.2.2.2.2.2
    unfold userop_Validate.m at h
    rw [h] at e
    exact e
theorem userop_Validate.s (hmix : Tryd.prog.follows .mixedOrders = true) (n : Nat) : CalleeS Tryd.prog abiG 30 (userop_Validate.c n) :=
  CalleeS.of (res := userop_Validate.res) (shape := userop_Validate.shape) (fun R u K => rfl) (fun args lent t h => by
    unfold userop_Validate.pat at h
    split at h
    · cases h; rfl
    · cases h) fun t u h => (userop_Validate.call hmix n t u h).ok Tryd.func30 (by decide) (by kernel_rfl)
end
section
theorem userop_Now.gmap {α β : Type} (h : β → α) (mk0 : Bool → β) (n : Nat) (a0_0 : Bool) (a0_1 : Int) (a0_2 : Int) (a1 : Int) : userop_Now.g (fun a0 => (h (mk0 a0))) n a0_0 a0_1 a0_2 a1 = (userop_Now.g mk0 n a0_0 a0_1 a0_2 a1).map h := by
  unfold userop_Now.g
  exact (ite_map (ite_map (ite_map rfl rfl) rfl) rfl)
theorem userop_Now.run (n : Nat) (a0_0 : Bool) (a0_1 : Int) (a0_2 : Int) (a1 : Int) : runF (userop_Now.C n) (userop_Now.A n) n Tryd.f27 [(.agg [(.bool a0_0), (.int .u64 a0_1), (.int .u64 a0_2)]), (.int .u64 a1)] [] (fun v o => some (v, o)) = userop_Now.g (fun a0 => ((Prod.mk (.bool a0) []) : AV × Blks)) n a0_0 a0_1 a0_2 a1 := by kernel_rfl
theorem userop_Now.call (hmix : Tryd.prog.follows .mixedOrders = true) (n : Nat) (t : (Bool × (Int × (Int × Int)))) (u) (h : userop_Now.m n t = some u) : FnC Tryd.prog abiG 27 (userop_Now.shape t).1 (userop_Now.shape t).2 (userop_Now.res u).1 (userop_Now.res u).2 := by
  have hg : ∀ f m, (userop_Now.C n).Γ f = some m → CalleeS Tryd.prog abiG f m := by
    intro f m hm
    unfold userop_Now.C at hm
    simp only at hm
    first
    | (cases hm; done)
    | (split at hm <;> first
    | (cases hm; done))
  have hb : Tryd.f27.body = some (Tryd.f27.body.getD .skip) := by kernel_rfl
  refine runF_calls (C := userop_Now.C n) (A := userop_Now.A n) (n := n) (fn := Tryd.f27) hg hmix Tryd.func27 hb ?_ ?_ (by decide) rfl rfl (by show 2 ≤ Tryd.f27.ntmps; decide) ?_
  · rw [show loopsIn (Tryd.f27.body.getD .skip) = [] by kernel_rfl]
    intro b hb
    cases hb
  · intro a ha m hm
    cases (show none = some m from hm)
  · rw [show runF (userop_Now.C n) (userop_Now.A n) n Tryd.f27 (userop_Now.shape t).1 (userop_Now.shape t).2 (fun v o => some (v, o)) = _ from userop_Now.run n t.1 t.2.1 t.2.2.1 t.2.2.2]
    have e := userop_Now.gmap userop_Now.res (fun a0 => a0) n t.1 t.2.1 t.2.2.1 t.2.2.2
    unfold userop_Now.m at h
    rw [h] at e
    exact e
theorem userop_Now.s (hmix : Tryd.prog.follows .mixedOrders = true) (n : Nat) : CalleeS Tryd.prog abiG 27 (userop_Now.c n) :=
  CalleeS.of (res := userop_Now.res) (shape := userop_Now.shape) (fun R u K => rfl) (fun args lent t h => by
    unfold userop_Now.pat at h
    split at h
    · cases h; rfl
    · cases h) fun t u h => (userop_Now.call hmix n t u h).ok Tryd.func27 (by decide) (by kernel_rfl)
end
section
theorem l15_known.gmap {α β : Type} (h : β → α) (mk0 : Bool → β) (n : Nat)  : l15_known.g (fun a0 => (h (mk0 a0))) n  = (l15_known.g mk0 n ).map h := by
  unfold l15_known.g
  exact (bindO_map fun r2 => (bindO_map fun r4 => (bindO_map fun r6 => (ite_map (ite_map (bindO_map fun r12 => (ite_map (bindO_map fun r16 => (ite_map (bindO_map fun r20 => (ite_map (ite_map (ite_map rfl rfl) rfl) rfl)) rfl)) rfl)) rfl) rfl))))
theorem l15_known.run (n : Nat)  : runF (l15_known.C n) (l15_known.A n) n Tryd.f25 [] [] (fun v o => some (v, o)) = l15_known.g (fun a0 => ((Prod.mk (.bool a0) []) : AV × Blks)) n  := by kernel_rfl
theorem l15_known.call (hmix : Tryd.prog.follows .mixedOrders = true) (n : Nat) (t : Unit) (u) (h : l15_known.m n t = some u) : FnC Tryd.prog abiG 25 (l15_known.shape t).1 (l15_known.shape t).2 (l15_known.res u).1 (l15_known.res u).2 := by
  have hg : ∀ f m, (l15_known.C n).Γ f = some m → CalleeS Tryd.prog abiG f m := by
    intro f m hm
    unfold l15_known.C at hm
    simp only at hm
    first
    | (cases hm; done)
    | (split at hm <;> first
    | (cases hm; exact userop_Spans.s hmix n)
    | (cases hm; exact userop_Validate.s hmix n)
    | (cases hm; exact userop_Now.s hmix n)
    | (cases hm; exact userop_Prefund.s hmix n)
    | (cases hm; done))
  have hb : Tryd.f25.body = some (Tryd.f25.body.getD .skip) := by kernel_rfl
  refine runF_calls (C := l15_known.C n) (A := l15_known.A n) (n := n) (fn := Tryd.f25) hg hmix Tryd.func25 hb ?_ ?_ (by decide) rfl rfl (by show 0 ≤ Tryd.f25.ntmps; decide) ?_
  · rw [show loopsIn (Tryd.f25.body.getD .skip) = [] by kernel_rfl]
    intro b hb
    cases hb
  · intro a ha m hm
    cases (show none = some m from hm)
  · rw [show runF (l15_known.C n) (l15_known.A n) n Tryd.f25 (l15_known.shape t).1 (l15_known.shape t).2 (fun v o => some (v, o)) = _ from l15_known.run n ]
    have e := l15_known.gmap l15_known.res (fun a0 => a0) n 
    unfold l15_known.m at h
    rw [h] at e
    exact e
theorem l15_known.s (hmix : Tryd.prog.follows .mixedOrders = true) (n : Nat) : CalleeS Tryd.prog abiG 25 (l15_known.c n) :=
  CalleeS.of (res := l15_known.res) (shape := l15_known.shape) (fun R u K => rfl) (fun args lent t h => by
    unfold l15_known.pat at h
    split at h
    · cases h; rfl
    · cases h) fun t u h => (l15_known.call hmix n t u h).ok Tryd.func25 (by decide) (by kernel_rfl)
end
section
noncomputable section
noncomputable def l15_UseropPrices.C (n : Nat) : Ctx := ⟨Tryd.prog, abiG, fun f => match f with
 | 29 => some (l15_may.c n)
 | 25 => some (l15_known.c n)
 | 47 => some (userop_Price.c n)
 | 49 => some (q01_Cmp.c n)
 | 43 => some (userop_Gas.c n)
 | 51 => some (q01_From.c n)
 | 50 => some (q01_Mul.c n)
 | 45 => some (userop_Prefund.c n)
 | _ => none, fun _ => false⟩
def l15_UseropPrices.live : Nat → List Nat × List Nat := fun k => match k with
 | _ => ([], [])
def l15_UseropPrices.jlive : Nat → List Nat × List Nat := fun k => match k with
 | _ => ([], [])
noncomputable def l15_UseropPrices.A (n : Nat) : Ann := ⟨Tryd.f9.ntmps, 0, l15_UseropPrices.live, [], [none], fun k => match k with
 | _ => none, l15_UseropPrices.jlive, lookJ []⟩
def l15_UseropPrices.g {α : Type} (mk0 : Bool → α) (n : Nat) (a0_0 : (List Int)) (a0_1 : (List Int)) (a0_2 : Bool) (a0_3 : (List Int)) (a0_4 : (List Int)) (a0_5 : (List Int)) (a0_6 : Int) (a0_7 : Int) (a0_8 : Int) (a0_9 : (List Int)) (a0_10 : (List Int)) (a0_11 : Bool) (a0_12 : (List Int)) (a0_13 : Int) (a0_14 : Int) (a0_15 : (List Int)) (a0_16 : (List Int)) (a1 : (List Int)) : Option α :=
 bindO (l15_may.m n (Prod.mk a0_0 (Prod.mk a0_1 (Prod.mk a0_2 (Prod.mk a0_3 (Prod.mk a0_4 (Prod.mk a0_5 (Prod.mk a0_6 (Prod.mk a0_7 (Prod.mk a0_8 (Prod.mk a0_9 (Prod.mk a0_10 (Prod.mk a0_11 (Prod.mk a0_12 (Prod.mk a0_13 (Prod.mk a0_14 (Prod.mk a0_15 a0_16))))))))))))))))) fun r2 =>
  if (!r2) = true then
   bindO (l15_known.m n Unit.unit) fun r6 =>
    some (mk0 r6)
  else
   bindO (l15_known.m n Unit.unit) fun r6 =>
    if (!r6) = true then
     bindO (l15_known.m n Unit.unit) fun r10 =>
      some (mk0 r10)
    else
     bindO (userop_Price.m n (Prod.mk a0_0 (Prod.mk a0_1 (Prod.mk a0_2 (Prod.mk a0_3 (Prod.mk a0_4 (Prod.mk a0_5 (Prod.mk a0_6 (Prod.mk a0_7 (Prod.mk a0_8 (Prod.mk a0_9 (Prod.mk a0_10 (Prod.mk a0_11 (Prod.mk a0_12 (Prod.mk a0_13 (Prod.mk a0_14 (Prod.mk a0_15 (Prod.mk a0_16 a1)))))))))))))))))) fun r10 =>
      bindO (q01_Cmp.m n (Prod.mk a0_9 a1)) fun r12 =>
       if (decide (r12 < 0)) = true then
        bindO (userop_Gas.m n (Prod.mk a0_0 (Prod.mk a0_1 (Prod.mk a0_2 (Prod.mk a0_3 (Prod.mk a0_4 (Prod.mk a0_5 (Prod.mk a0_6 (Prod.mk a0_7 (Prod.mk a0_8 (Prod.mk a0_9 (Prod.mk a0_10 (Prod.mk a0_11 (Prod.mk a0_12 (Prod.mk a0_13 (Prod.mk a0_14 (Prod.mk a0_15 a0_16))))))))))))))))) fun r16 =>
         bindO (q01_From.m n r16) fun r18 =>
          bindO (q01_Mul.m n (Prod.mk r10 r18)) fun r20 =>
           bindO (q01_Cmp.m n (Prod.mk r10 a0_9)) fun r22 =>
            if (decide (r22 ≤ 0)) = true then
             bindO (q01_Cmp.m n (Prod.mk r10 a0_9)) fun r26 =>
              if (decide (r26 ≥ 0)) = true then
               if (!(Prod.snd r20)) = true then
                bindO (userop_Prefund.m n (Prod.mk a0_0 (Prod.mk a0_1 (Prod.mk a0_2 (Prod.mk a0_3 (Prod.mk a0_4 (Prod.mk a0_5 (Prod.mk a0_6 (Prod.mk a0_7 (Prod.mk a0_8 (Prod.mk a0_9 (Prod.mk a0_10 (Prod.mk a0_11 (Prod.mk a0_12 (Prod.mk a0_13 (Prod.mk a0_14 (Prod.mk a0_15 a0_16))))))))))))))))) fun r32 =>
                 bindO (q01_Cmp.m n (Prod.mk (Prod.fst r20) r32)) fun r34 =>
                  some (mk0 (decide (r34 ≤ 0)))
               else
                some (mk0 false)
              else
               some (mk0 false)
            else
             some (mk0 false)
       else
        bindO (userop_Gas.m n (Prod.mk a0_0 (Prod.mk a0_1 (Prod.mk a0_2 (Prod.mk a0_3 (Prod.mk a0_4 (Prod.mk a0_5 (Prod.mk a0_6 (Prod.mk a0_7 (Prod.mk a0_8 (Prod.mk a0_9 (Prod.mk a0_10 (Prod.mk a0_11 (Prod.mk a0_12 (Prod.mk a0_13 (Prod.mk a0_14 (Prod.mk a0_15 a0_16))))))))))))))))) fun r16 =>
         bindO (q01_From.m n r16) fun r18 =>
          bindO (q01_Mul.m n (Prod.mk r10 r18)) fun r20 =>
           bindO (q01_Cmp.m n (Prod.mk r10 a0_9)) fun r22 =>
            if (decide (r22 ≤ 0)) = true then
             bindO (q01_Cmp.m n (Prod.mk r10 a1)) fun r26 =>
              if (decide (r26 ≥ 0)) = true then
               if (!(Prod.snd r20)) = true then
                bindO (userop_Prefund.m n (Prod.mk a0_0 (Prod.mk a0_1 (Prod.mk a0_2 (Prod.mk a0_3 (Prod.mk a0_4 (Prod.mk a0_5 (Prod.mk a0_6 (Prod.mk a0_7 (Prod.mk a0_8 (Prod.mk a0_9 (Prod.mk a0_10 (Prod.mk a0_11 (Prod.mk a0_12 (Prod.mk a0_13 (Prod.mk a0_14 (Prod.mk a0_15 a0_16))))))))))))))))) fun r32 =>
                 bindO (q01_Cmp.m n (Prod.mk (Prod.fst r20) r32)) fun r34 =>
                  some (mk0 (decide (r34 ≤ 0)))
               else
                some (mk0 false)
              else
               some (mk0 false)
            else
             some (mk0 false)
def l15_UseropPrices.m (n : Nat) (t : ((List Int) × ((List Int) × (Bool × ((List Int) × ((List Int) × ((List Int) × (Int × (Int × (Int × ((List Int) × ((List Int) × (Bool × ((List Int) × (Int × (Int × ((List Int) × ((List Int) × (List Int))))))))))))))))))) : Option Bool := l15_UseropPrices.g (fun a0 => a0) n t.1 t.2.1 t.2.2.1 t.2.2.2.1 t.2.2.2.2.1 t.2.2.2.2.2.1 t.2.2.2.2.2.2.1 t.2.2.2.2.2.2.2.1 t.2.2.2.2.2.2.2.2.1 t.2.2.2.2.2.2.2.2.2.1 t.2.2.2.2.2.2.2.2.2.2.1 t.2.2.2.2.2.2.2.2.2.2.2.1 t.2.2.2.2.2.2.2.2.2.2.2.2.1 t.2.2.2.2.2.2.2.2.2.2.2.2.2.1 t.2.2.2.2.2.2.2.2.2.2.2.2.2.2.1 t.2.2.2.2.2.2.2.2.2.2.2.2.2.2.2.1 t.2.2.2.2.2.2.2.2.2.2.2.2.2.2.2.2.1 t.2.2.2.2.2.2.2.2.2.2.2.2.2.2.2.2.2
def l15_UseropPrices.pat : List AV → Blks → Option ((List Int) × ((List Int) × (Bool × ((List Int) × ((List Int) × ((List Int) × (Int × (Int × (Int × ((List Int) × ((List Int) × (Bool × ((List Int) × (Int × (Int × ((List Int) × ((List Int) × (List Int))))))))))))))))))
 | [(.agg [(.ints .u8 20 a0_0), (.ints .u64 4 a0_1), (.bool a0_2), (.ints .u8 20 a0_3), (.rints .u8 a0_4), (.rints .u8 a0_5), (.int .u64 a0_6), (.int .u64 a0_7), (.int .u64 a0_8), (.ints .u64 4 a0_9), (.ints .u64 4 a0_10), (.bool a0_11), (.ints .u8 20 a0_12), (.int .u64 a0_13), (.int .u64 a0_14), (.rints .u8 a0_15), (.rints .u8 a0_16)]), (.ints .u64 4 a1)], [] => some (a0_0, a0_1, a0_2, a0_3, a0_4, a0_5, a0_6, a0_7, a0_8, a0_9, a0_10, a0_11, a0_12, a0_13, a0_14, a0_15, a0_16, a1)
 | _, _ => none
def l15_UseropPrices.shape (t : ((List Int) × ((List Int) × (Bool × ((List Int) × ((List Int) × ((List Int) × (Int × (Int × (Int × ((List Int) × ((List Int) × (Bool × ((List Int) × (Int × (Int × ((List Int) × ((List Int) × (List Int))))))))))))))))))) : List AV × Blks := ([(.agg [(.ints .u8 20 t.1), (.ints .u64 4 t.2.1), (.bool t.2.2.1), (.ints .u8 20 t.2.2.2.1), (.rints .u8 t.2.2.2.2.1), (.rints .u8 t.2.2.2.2.2.1), (.int .u64 t.2.2.2.2.2.2.1), (.int .u64 t.2.2.2.2.2.2.2.1), (.int .u64 t.2.2.2.2.2.2.2.2.1), (.ints .u64 4 t.2.2.2.2.2.2.2.2.2.1), (.ints .u64 4 t.2.2.2.2.2.2.2.2.2.2.1), (.bool t.2.2.2.2.2.2.2.2.2.2.2.1), (.ints .u8 20 t.2.2.2.2.2.2.2.2.2.2.2.2.1), (.int .u64 t.2.2.2.2.2.2.2.2.2.2.2.2.2.1), (.int .u64 t.2.2.2.2.2.2.2.2.2.2.2.2.2.2.1), (.rints .u8 t.2.2.2.2.2.2.2.2.2.2.2.2.2.2.2.1), (.rints .u8 t.2.2.2.2.2.2.2.2.2.2.2.2.2.2.2.2.1)]), (.ints .u64 4 t.2.2.2.2.2.2.2.2.2.2.2.2.2.2.2.2.2)], [])
def l15_UseropPrices.res : Bool → AV × Blks
 | u => (Prod.mk (.bool u) [])
def l15_UseropPrices.resK {R : Type} (u : Bool) (K : AV → Blks → Option R) : Option R := (fun p : AV × Blks => K p.1 p.2) (Prod.mk (.bool u) [])
def l15_UseropPrices.c (n : Nat) : Abs.Callee := .mk' [] [(some (.agg [none, none, none, none, (some (.ints .u8)), (some (.ints .u8)), none, none, none, none, none, none, none, none, none, (some (.ints .u8)), (some (.ints .u8))])), none] l15_UseropPrices.pat (l15_UseropPrices.m n) l15_UseropPrices.resK
end
end
section
theorem l15_UseropPrices.gmap {α β : Type} (h : β → α) (mk0 : Bool → β) (n : Nat) (a0_0 : (List Int)) (a0_1 : (List Int)) (a0_2 : Bool) (a0_3 : (List Int)) (a0_4 : (List Int)) (a0_5 : (List Int)) (a0_6 : Int) (a0_7 : Int) (a0_8 : Int) (a0_9 : (List Int)) (a0_10 : (List Int)) (a0_11 : Bool) (a0_12 : (List Int)) (a0_13 : Int) (a0_14 : Int) (a0_15 : (List Int)) (a0_16 : (List Int)) (a1 : (List Int)) : l15_UseropPrices.g (fun a0 => (h (mk0 a0))) n a0_0 a0_1 a0_2 a0_3 a0_4 a0_5 a0_6 a0_7 a0_8 a0_9 a0_10 a0_11 a0_12 a0_13 a0_14 a0_15 a0_16 a1 = (l15_UseropPrices.g mk0 n a0_0 a0_1 a0_2 a0_3 a0_4 a0_5 a0_6 a0_7 a0_8 a0_9 a0_10 a0_11 a0_12 a0_13 a0_14 a0_15 a0_16 a1).map h := by
  unfold l15_UseropPrices.g
  exact (bindO_map fun r2 => (ite_map (bindO_map fun r6 => rfl) (bindO_map fun r6 => (ite_map (bindO_map fun r10 => rfl) (bindO_map fun r10 => (bindO_map fun r12 => (ite_map (bindO_map fun r16 => (bindO_map fun r18 => (bindO_map fun r20 => (bindO_map fun r22 => (ite_map (bindO_map fun r26 => (ite_map (ite_map (bindO_map fun r32 => (bindO_map fun r34 => rfl)) rfl) rfl)) rfl))))) (bindO_map fun r16 => (bindO_map fun r18 => (bindO_map fun r20 => (bindO_map fun r22 => (ite_map (bindO_map fun r26 => (ite_map (ite_map (bindO_map fun r32 => (bindO_map fun r34 => rfl)) rfl) rfl)) rfl))))))))))))
theorem l15_UseropPrices.run (n : Nat) (a0_0 : (List Int)) (a0_1 : (List Int)) (a0_2 : Bool) (a0_3 : (List Int)) (a0_4 : (List Int)) (a0_5 : (List Int)) (a0_6 : Int) (a0_7 : Int) (a0_8 : Int) (a0_9 : (List Int)) (a0_10 : (List Int)) (a0_11 : Bool) (a0_12 : (List Int)) (a0_13 : Int) (a0_14 : Int) (a0_15 : (List Int)) (a0_16 : (List Int)) (a1 : (List Int)) : runF (l15_UseropPrices.C n) (l15_UseropPrices.A n) n Tryd.f9 [(.agg [(.ints .u8 20 a0_0), (.ints .u64 4 a0_1), (.bool a0_2), (.ints .u8 20 a0_3), (.rints .u8 a0_4), (.rints .u8 a0_5), (.int .u64 a0_6), (.int .u64 a0_7), (.int .u64 a0_8), (.ints .u64 4 a0_9), (.ints .u64 4 a0_10), (.bool a0_11), (.ints .u8 20 a0_12), (.int .u64 a0_13), (.int .u64 a0_14), (.rints .u8 a0_15), (.rints .u8 a0_16)]), (.ints .u64 4 a1)] [] (fun v o => some (v, o)) = l15_UseropPrices.g (fun a0 => ((Prod.mk (.bool a0) []) : AV × Blks)) n a0_0 a0_1 a0_2 a0_3 a0_4 a0_5 a0_6 a0_7 a0_8 a0_9 a0_10 a0_11 a0_12 a0_13 a0_14 a0_15 a0_16 a1 := by kernel_rfl
theorem l15_UseropPrices.call (hmix : Tryd.prog.follows .mixedOrders = true) (n : Nat) (t : ((List Int) × ((List Int) × (Bool × ((List Int) × ((List Int) × ((List Int) × (Int × (Int × (Int × ((List Int) × ((List Int) × (Bool × ((List Int) × (Int × (Int × ((List Int) × ((List Int) × (List Int))))))))))))))))))) (u) (h : l15_UseropPrices.m n t = some u) : FnC Tryd.prog abiG 9 (l15_UseropPrices.shape t).1 (l15_UseropPrices.shape t).2 (l15_UseropPrices.res u).1 (l15_UseropPrices.res u).2 := by
  have hg : ∀ f m, (l15_UseropPrices.C n).Γ f = some m → CalleeS Tryd.prog abiG f m := by
    intro f m hm
    unfold l15_UseropPrices.C at hm
    simp only at hm
    first
    | (cases hm; done)
    | (split at hm <;> first
    | (cases hm; exact l15_may.s hmix n)
    | (cases hm; exact l15_known.s hmix n)
    | (cases hm; exact userop_Price.s hmix n)
    | (cases hm; exact q01_Cmp.s hmix n)
    | (cases hm; exact userop_Gas.s hmix n)
    | (cases hm; exact q01_From.s hmix n)
    | (cases hm; exact q01_Mul.s hmix n)
    | (cases hm; exact userop_Prefund.s hmix n)
    | (cases hm; done))
  have hb : Tryd.f9.body = some (Tryd.f9.body.getD .skip) := by kernel_rfl
  refine runF_calls (C := l15_UseropPrices.C n) (A := l15_UseropPrices.A n) (n := n) (fn := Tryd.f9) hg hmix Tryd.func9 hb ?_ ?_ (by decide) rfl rfl (by show 2 ≤ Tryd.f9.ntmps; decide) ?_
  · rw [show loopsIn (Tryd.f9.body.getD .skip) = [] by kernel_rfl]
    intro b hb
    cases hb
  · intro a ha m hm
    cases (show none = some m from hm)
  · rw [show runF (l15_UseropPrices.C n) (l15_UseropPrices.A n) n Tryd.f9 (l15_UseropPrices.shape t).1 (l15_UseropPrices.shape t).2 (fun v o => some (v, o)) = _ from l15_UseropPrices.run n t.1 t.2.1 t.2.2.1 t.2.2.2.1 t.2.2.2.2.1 t.2.2.2.2.2.1 t.2.2.2.2.2.2.1 t.2.2.2.2.2.2.2.1 t.2.2.2.2.2.2.2.2.1 t.2.2.2.2.2.2.2.2.2.1 t.2.2.2.2.2.2.2.2.2.2.1 t.2.2.2.2.2.2.2.2.2.2.2.1 t.2.2.2.2.2.2.2.2.2.2.2.2.1 t.2.2.2.2.2.2.2.2.2.2.2.2.2.1 t.2.2.2.2.2.2.2.2.2.2.2.2.2.2.1 t.2.2.2.2.2.2.2.2.2.2.2.2.2.2.2.1 t.2.2.2.2.2.2.2.2.2.2.2.2.2.2.2.2.1 t.2.2.2.2.2.2.2.2.2.2.2.2.2.2.2.2.2]
    have e := l15_UseropPrices.gmap l15_UseropPrices.res (fun a0 => a0) n t.1 t.2.1 t.2.2.1 t.2.2.2.1 t.2.2.2.2.1 t.2.2.2.2.2.1 t.2.2.2.2.2.2.1 t.2.2.2.2.2.2.2.1 t.2.2.2.2.2.2.2.2.1 t.2.2.2.2.2.2.2.2.2.1 t.2.2.2.2.2.2.2.2.2.2.1 t.2.2.2.2.2.2.2.2.2.2.2.1 t.2.2.2.2.2.2.2.2.2.2.2.2.1 t.2.2.2.2.2.2.2.2.2.2.2.2.2.1 t.2.2.2.2.2.2.2.2.2.2.2.2.2.2.1 t.2.2.2.2.2.2.2.2.2.2.2.2.2.2.2.1 t.2.2.2.2.2.2.2.2.2.2.2.2.2.2.2.2.1 t.2.2.2.2.2.2.2.2.2.2.2.2.2.2.2.2.2
    unfold l15_UseropPrices.m at h
    rw [h] at e
    exact e
theorem l15_UseropPrices.s (hmix : Tryd.prog.follows .mixedOrders = true) (n : Nat) : CalleeS Tryd.prog abiG 9 (l15_UseropPrices.c n) :=
  CalleeS.of (res := l15_UseropPrices.res) (shape := l15_UseropPrices.shape) (fun R u K => rfl) (fun args lent t h => by
    unfold l15_UseropPrices.pat at h
    split at h
    · cases h; rfl
    · cases h) fun t u h => (l15_UseropPrices.call hmix n t u h).ok Tryd.func9 (by decide) (by kernel_rfl)
end
