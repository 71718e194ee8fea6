/- What the program's functions compute, as plain functions, each with its proof: the function does just that. Condition: the plain function has an answer. -/
import Derived.Test.YtmpflhdnlkjajaaFnWordParts2
import Derived.Test.YtmpflhdnlkjajaaFnWordParts1
import Derived.Test.YtmpflhdnlkjajaaAbs5
import Derived.Test.YtmpflhdnlkjajaaProg
section
set_option linter.unusedVariables false
set_option linter.unusedSimpArgs false
set_option maxRecDepth 100000
open Go Go.Abs Go.Proofs
/-! word_Shl -/
theorem word_Shl.l4_0.rmap {α β : Type} (h : β → α) (mk0 : (List Int) → (List Int) → β) (n : Nat) (f : Int → Int → (List Int) → (List Int) → (List Int) → Option β)  (x0 : Int) (x1 : Int) (x2 : (List Int)) (x3 : (List Int)) (x4 : (List Int)) : word_Shl.l4_0.r (fun a0 a1 => (h (mk0 a0 a1))) n (fun y0 y1 y2 y3 y4 => (f y0 y1 y2 y3 y4).map h) x0 x1 x2 x3 x4 = (word_Shl.l4_0.r mk0 n f x0 x1 x2 x3 x4).map h := by
  unfold word_Shl.l4_0.r
  exact (ite_map (ite_map (ite_map (ite_map (ite_map (ite_map (ite_map (ite_map (ite_map (ite_map (ite_map (ite_map (ite_map (ite_map (ite_map (ite_map rfl rfl) rfl) rfl) rfl) rfl) rfl) rfl) rfl) rfl) rfl) rfl) rfl) rfl) rfl) (ite_map (ite_map (ite_map (ite_map (ite_map (ite_map (ite_map (ite_map (ite_map rfl rfl) rfl) rfl) rfl) rfl) rfl) rfl) rfl) rfl)) rfl)
theorem word_Shl.l4_0.gmap {α β : Type} (h : β → α) (mk0 : (List Int) → (List Int) → β) (n : Nat) : ∀ (m : Nat) (x0 : Int) (x1 : Int) (x2 : (List Int)) (x3 : (List Int)) (x4 : (List Int)), word_Shl.l4_0.g (fun a0 a1 => (h (mk0 a0 a1))) n m x0 x1 x2 x3 x4 = (word_Shl.l4_0.g mk0 n m x0 x1 x2 x3 x4).map h
  | 0, _, _, _, _, _ => rfl
  | m + 1, x0, x1, x2, x3, x4 => by
    unfold word_Shl.l4_0.g
    rw [← word_Shl.l4_0.rmap]
    congr
    · funext y0 y1 y2 y3 y4; exact word_Shl.l4_0.gmap h mk0 n m y0 y1 y2 y3 y4
theorem word_Shl.l4_0.pat_shape : ∀ st t, word_Shl.l4_0.pat st = some t → st = word_Shl.l4_0.shape t := by
  intro st t h
  unfold word_Shl.l4_0.pat at h
  split at h
  · cases h; rfl
  · cases h
theorem word_Shl.l4_0.round (n : Nat) (rc : St → Option (Ex × St)) (x0 : Int) (x1 : Int) (x2 : (List Int)) (x3 : (List Int)) (x4 : (List Int)) : roundOf (word_Shl.C n) (word_Shl.A n) n word_Shl.b0 rc ((St.mk [(.int .i64 x0), (.int .u64 x1), (.ptr 0 []), (.ptr 1 []), (.ptr 2 [])] [(some (.var (.ints .u64 4 x2))), (some (.var (.ints .u64 4 x3))), (some (.var (.ints .u64 4 x4)))])) = word_Shl.l4_0.r (fun a0 a1 => ((Prod.mk (.exit 0) (St.mk [(.ptr 0 []), (.ptr 1 [])] [(some (.var (.ints .u64 4 a0))), (some (.var (.ints .u64 4 a1)))])) : Ex × St)) n (fun y0 y1 y2 y3 y4 => rc ((St.mk [(.int .i64 y0), (.int .u64 y1), (.ptr 0 []), (.ptr 1 []), (.ptr 2 [])] [(some (.var (.ints .u64 4 y2))), (some (.var (.ints .u64 4 y3))), (some (.var (.ints .u64 4 y4)))]))) x0 x1 x2 x3 x4 := by kernel_rfl
theorem word_Shl.l4_0.loop' (n : Nat) : ∀ (m : Nat) (t : (Int × (Int × ((List Int) × ((List Int) × (List Int)))))), loopOf (roundOf (word_Shl.C n) (word_Shl.A n) n word_Shl.b0) m (word_Shl.l4_0.shape t) = word_Shl.l4_0.g (fun a0 a1 => ((Prod.mk (.exit 0) (St.mk [(.ptr 0 []), (.ptr 1 [])] [(some (.var (.ints .u64 4 a0))), (some (.var (.ints .u64 4 a1)))])) : Ex × St)) n m t.1 t.2.1 t.2.2.1 t.2.2.2.1 t.2.2.2.2 :=
  loop_of_round (shape := word_Shl.l4_0.shape) (body := roundOf (word_Shl.C n) (word_Shl.A n) n word_Shl.b0) (g := fun m t => word_Shl.l4_0.g (fun a0 a1 => ((Prod.mk (.exit 0) (St.mk [(.ptr 0 []), (.ptr 1 [])] [(some (.var (.ints .u64 4 a0))), (some (.var (.ints .u64 4 a1)))])) : Ex × St)) n m t.1 t.2.1 t.2.2.1 t.2.2.2.1 t.2.2.2.2) (fun t => rfl)
    fun m t ih => (word_Shl.l4_0.round n (loopOf (roundOf (word_Shl.C n) (word_Shl.A n) n word_Shl.b0) m) t.1 t.2.1 t.2.2.1 t.2.2.2.1 t.2.2.2.2).trans (congrFun (congrFun (congrFun (congrFun (congrFun (congrArg (word_Shl.l4_0.r (fun a0 a1 => ((Prod.mk (.exit 0) (St.mk [(.ptr 0 []), (.ptr 1 [])] [(some (.var (.ints .u64 4 a0))), (some (.var (.ints .u64 4 a1)))])) : Ex × St)) n) (funext fun y0 => funext fun y1 => funext fun y2 => funext fun y3 => funext fun y4 => ih (y0, y1, y2, y3, y4))) t.1) t.2.1) t.2.2.1) t.2.2.2.1) t.2.2.2.2)
theorem word_Shl.l4_0.loop (n m : Nat) (t : (Int × (Int × ((List Int) × ((List Int) × (List Int)))))) : loopOf (roundOf (word_Shl.C n) (word_Shl.A n) n word_Shl.b0) m (word_Shl.l4_0.shape t) = (word_Shl.l4_0.m n m t).map word_Shl.l4_0.res :=
  (word_Shl.l4_0.loop' n m t).trans (word_Shl.l4_0.gmap word_Shl.l4_0.res (fun a0 a1 => (a0, a1)) n m t.1 t.2.1 t.2.2.1 t.2.2.2.1 t.2.2.2.2)
theorem word_Shl.gmap {α β : Type} (h : β → α) (mk0 : (List Int) → β) (n : Nat) (a0 : (List Int)) (a1 : (List Int)) : word_Shl.g (fun a0 => (h (mk0 a0))) n a0 a1 = (word_Shl.g mk0 n a0 a1).map h := by
  unfold word_Shl.g
  exact (bindO_map fun r2 => (bindO_map fun r4 => rfl))
theorem word_Shl.run (n : Nat) (a0 : (List Int)) (a1 : (List Int)) : runF (word_Shl.C n) (word_Shl.A n) n Try.f23 [(.ints .u64 4 a0), (.ints .u64 4 a1)] [] (fun v o => some (v, o)) = word_Shl.g (fun a0 => ((Prod.mk (.ints .u64 4 a0) []) : AV × Blks)) n a0 a1 := by kernel_rfl
theorem word_Shl.call (hmix : Try.prog.follows .mixedOrders = true) (n : Nat) (t : ((List Int) × (List Int))) (u) (h : word_Shl.m n t = some u) : FnC Try.prog (fun _ => .any) 23 (word_Shl.shape t).1 (word_Shl.shape t).2 (word_Shl.res u).1 (word_Shl.res u).2 := by
  have hg : ∀ f m, (word_Shl.C n).Γ f = some m → CalleeS Try.prog (fun _ => .any) f m := by
    intro f m hm
    unfold word_Shl.C at hm
    simp only at hm
    first
    | (cases hm; done)
    | (split at hm <;> first
    | (cases hm; exact word_far.s hmix n)
    | (cases hm; done))
  have hb : Try.f23.body = some (Try.f23.body.getD .skip) := by kernel_rfl
  refine runF_calls (C := word_Shl.C n) (A := word_Shl.A n) (n := n) (fn := Try.f23) hg hmix Try.func23 hb ?_ ?_ (by decide) rfl rfl (by show 2 ≤ Try.f23.ntmps; decide) ?_
  · rw [show loopsIn (Try.f23.body.getD .skip) = [word_Shl.b0] by kernel_rfl]
    intro b hb m hm
    simp only [List.mem_cons, List.not_mem_nil, or_false] at hb
    rcases hb with rfl
    · have e : (word_Shl.A n).loop (key word_Shl.b0) = some (.mk' word_Shl.l4_0.pat (word_Shl.l4_0.m n n) word_Shl.l4_0.resK) := by rw [show key word_Shl.b0 = 4 by kernel_rfl]; rfl
      rw [e] at hm
      cases hm
      exact LoopS.of (res := word_Shl.l4_0.res) (fun R u K => rfl) word_Shl.l4_0.pat_shape fun t => word_Shl.l4_0.loop n n t
  · intro a ha m hm
    have hm' := lookJ_mem (show lookJ [] (jkey a) = some m from hm)
    simp only [List.mem_cons, List.not_mem_nil, or_false, Prod.mk.injEq] at hm'

  · rw [show runF (word_Shl.C n) (word_Shl.A n) n Try.f23 (word_Shl.shape t).1 (word_Shl.shape t).2 (fun v o => some (v, o)) = _ from word_Shl.run n t.1 t.2]
    have e := word_Shl.gmap word_Shl.res (fun a0 => a0) n t.1 t.2
    unfold word_Shl.m at h
    rw [h] at e
    exact e
theorem word_Shl.ok (hmix : Try.prog.follows .mixedOrders = true) (n : Nat) (t : ((List Int) × (List Int))) (u) (h : word_Shl.m n t = some u) : FnOK Try.prog (fun _ => .any) 23 (word_Shl.shape t).1 (word_Shl.shape t).2 (word_Shl.res u).1 (word_Shl.res u).2 :=
  (word_Shl.call hmix n t u h).ok Try.func23 (by decide) (by kernel_rfl)
theorem word_Shl.s (hmix : Try.prog.follows .mixedOrders = true) (n : Nat) : CalleeS Try.prog (fun _ => .any) 23 (word_Shl.c n) :=
  CalleeS.of (res := word_Shl.res) (shape := word_Shl.shape) (fun R u K => rfl) (fun args lent t h => by
    unfold word_Shl.pat at h
    split at h
    · cases h; rfl
    · cases h) fun t u h => word_Shl.ok hmix n t u h
end

section
set_option linter.unusedVariables false
set_option linter.unusedSimpArgs false
set_option maxRecDepth 100000
open Go Go.Abs Go.Proofs
/-! word_rightS1 -/
theorem word_rightS1.gmap {α β : Type} (h : β → α) (mk0 : Int → β) (n : Nat) (i : Int) (f : Int) (a : (List Int)) : word_rightS1.g (fun a0 => (h (mk0 a0))) n i f a = (word_rightS1.g mk0 n i f a).map h := by
  unfold word_rightS1.g
  exact (ite_map rfl (ite_map (ite_map rfl rfl) rfl))
theorem word_rightS1.run (n : Nat) (i : Int) (f : Int) (a : (List Int)) : runF (word_rightS1.C n) (word_rightS1.A n) n Try.f85 [(.int .i64 i), (.rptr (.int .u64 f)), (.rptr (.ints .u64 4 a))] [] (fun v o => some (v, o)) = word_rightS1.g (fun a0 => ((Prod.mk (.int .u64 a0) []) : AV × Blks)) n i f a := by kernel_rfl
theorem word_rightS1.call (hmix : Try.prog.follows .mixedOrders = true) (n : Nat) (t : (Int × (Int × (List Int)))) (u) (h : word_rightS1.m n t = some u) : FnC Try.prog (fun _ => .any) 85 (word_rightS1.shape t).1 (word_rightS1.shape t).2 (word_rightS1.res u).1 (word_rightS1.res u).2 := by
  have hg : ∀ f m, (word_rightS1.C n).Γ f = some m → CalleeS Try.prog (fun _ => .any) f m := by
    intro f m hm
    unfold word_rightS1.C at hm
    simp only at hm
    first
    | (cases hm; done)
    | (split at hm <;> first
    | (cases hm; done))
  have hb : Try.f85.body = some (Try.f85.body.getD .skip) := by kernel_rfl
  refine runF_calls (C := word_rightS1.C n) (A := word_rightS1.A n) (n := n) (fn := Try.f85) hg hmix Try.func85 hb ?_ ?_ (by decide) rfl rfl (by show 3 ≤ Try.f85.ntmps; decide) ?_
  · rw [show loopsIn (Try.f85.body.getD .skip) = [] by kernel_rfl]
    intro b hb m hm
    simp only [List.mem_cons, List.not_mem_nil, or_false] at hb

  · intro a ha m hm
    have hm' := lookJ_mem (show lookJ [] (jkey a) = some m from hm)
    simp only [List.mem_cons, List.not_mem_nil, or_false, Prod.mk.injEq] at hm'

  · rw [show runF (word_rightS1.C n) (word_rightS1.A n) n Try.f85 (word_rightS1.shape t).1 (word_rightS1.shape t).2 (fun v o => some (v, o)) = _ from word_rightS1.run n t.1 t.2.1 t.2.2]
    have e := word_rightS1.gmap word_rightS1.res (fun a0 => a0) n t.1 t.2.1 t.2.2
    unfold word_rightS1.m at h
    rw [h] at e
    exact e
theorem word_rightS1.ok (hmix : Try.prog.follows .mixedOrders = true) (n : Nat) (t : (Int × (Int × (List Int)))) (u) (h : word_rightS1.m n t = some u) : FnOK Try.prog (fun _ => .any) 85 (word_rightS1.shape t).1 (word_rightS1.shape t).2 (word_rightS1.res u).1 (word_rightS1.res u).2 :=
  (word_rightS1.call hmix n t u h).ok Try.func85 (by decide) (by kernel_rfl)
theorem word_rightS1.s (hmix : Try.prog.follows .mixedOrders = true) (n : Nat) : CalleeS Try.prog (fun _ => .any) 85 (word_rightS1.c n) :=
  CalleeS.of (res := word_rightS1.res) (shape := word_rightS1.shape) (fun R u K => rfl) (fun args lent t h => by
    unfold word_rightS1.pat at h
    split at h
    · cases h; rfl
    · cases h) fun t u h => word_rightS1.ok hmix n t u h
end

section
set_option linter.unusedVariables false
set_option linter.unusedSimpArgs false
set_option maxRecDepth 100000
open Go Go.Abs Go.Proofs
/-! word_right -/
theorem word_right.l4_0.rmap {α β : Type} (h : β → α) (mk0 : (List Int) → (List Int) → β) (n : Nat) (f : Int → Int → Int → (List Int) → (List Int) → (List Int) → Option β)  (x0 : Int) (x1 : Int) (x2 : Int) (x3 : (List Int)) (x4 : (List Int)) (x5 : (List Int)) : word_right.l4_0.r (fun a0 a1 => (h (mk0 a0 a1))) n (fun y0 y1 y2 y3 y4 y5 => (f y0 y1 y2 y3 y4 y5).map h) x0 x1 x2 x3 x4 x5 = (word_right.l4_0.r mk0 n f x0 x1 x2 x3 x4 x5).map h := by
  unfold word_right.l4_0.r
  exact (ite_map (bindO_map fun r6 => (ite_map (ite_map (ite_map (ite_map (ite_map (ite_map (bindO_map fun r20 => (ite_map (ite_map (ite_map rfl rfl) rfl) rfl)) rfl) rfl) rfl) rfl) rfl) rfl)) rfl)
theorem word_right.l4_0.gmap {α β : Type} (h : β → α) (mk0 : (List Int) → (List Int) → β) (n : Nat) : ∀ (m : Nat) (x0 : Int) (x1 : Int) (x2 : Int) (x3 : (List Int)) (x4 : (List Int)) (x5 : (List Int)), word_right.l4_0.g (fun a0 a1 => (h (mk0 a0 a1))) n m x0 x1 x2 x3 x4 x5 = (word_right.l4_0.g mk0 n m x0 x1 x2 x3 x4 x5).map h
  | 0, _, _, _, _, _, _ => rfl
  | m + 1, x0, x1, x2, x3, x4, x5 => by
    unfold word_right.l4_0.g
    rw [← word_right.l4_0.rmap]
    congr
    · funext y0 y1 y2 y3 y4 y5; exact word_right.l4_0.gmap h mk0 n m y0 y1 y2 y3 y4 y5
theorem word_right.l4_0.pat_shape : ∀ st t, word_right.l4_0.pat st = some t → st = word_right.l4_0.shape t := by
  intro st t h
  unfold word_right.l4_0.pat at h
  split at h
  · cases h; rfl
  · cases h
theorem word_right.l4_0.round (n : Nat) (rc : St → Option (Ex × St)) (x0 : Int) (x1 : Int) (x2 : Int) (x3 : (List Int)) (x4 : (List Int)) (x5 : (List Int)) : roundOf (word_right.C n) (word_right.A n) n word_right.b0 rc ((St.mk [(.int .i64 x0), (.int .u64 x1), (.fn (.func 85) [] [(.ptr 0 []), (.ptr 1 [])]), (.ptr 2 []), (.ptr 3 [])] [(some (.var (.int .u64 x2))), (some (.var (.ints .u64 4 x3))), (some (.var (.ints .u64 4 x4))), (some (.var (.ints .u64 4 x5)))])) = word_right.l4_0.r (fun a0 a1 => ((Prod.mk (.exit 0) (St.mk [(.ptr 0 []), (.ptr 1 [])] [(some (.var (.ints .u64 4 a0))), (some (.var (.ints .u64 4 a1)))])) : Ex × St)) n (fun y0 y1 y2 y3 y4 y5 => rc ((St.mk [(.int .i64 y0), (.int .u64 y1), (.fn (.func 85) [] [(.ptr 0 []), (.ptr 1 [])]), (.ptr 2 []), (.ptr 3 [])] [(some (.var (.int .u64 y2))), (some (.var (.ints .u64 4 y3))), (some (.var (.ints .u64 4 y4))), (some (.var (.ints .u64 4 y5)))]))) x0 x1 x2 x3 x4 x5 := by kernel_rfl
theorem word_right.l4_0.loop' (n : Nat) : ∀ (m : Nat) (t : (Int × (Int × (Int × ((List Int) × ((List Int) × (List Int))))))), loopOf (roundOf (word_right.C n) (word_right.A n) n word_right.b0) m (word_right.l4_0.shape t) = word_right.l4_0.g (fun a0 a1 => ((Prod.mk (.exit 0) (St.mk [(.ptr 0 []), (.ptr 1 [])] [(some (.var (.ints .u64 4 a0))), (some (.var (.ints .u64 4 a1)))])) : Ex × St)) n m t.1 t.2.1 t.2.2.1 t.2.2.2.1 t.2.2.2.2.1 t.2.2.2.2.2 :=
  loop_of_round (shape := word_right.l4_0.shape) (body := roundOf (word_right.C n) (word_right.A n) n word_right.b0) (g := fun m t => word_right.l4_0.g (fun a0 a1 => ((Prod.mk (.exit 0) (St.mk [(.ptr 0 []), (.ptr 1 [])] [(some (.var (.ints .u64 4 a0))), (some (.var (.ints .u64 4 a1)))])) : Ex × St)) n m t.1 t.2.1 t.2.2.1 t.2.2.2.1 t.2.2.2.2.1 t.2.2.2.2.2) (fun t => rfl)
    fun m t ih => (word_right.l4_0.round n (loopOf (roundOf (word_right.C n) (word_right.A n) n word_right.b0) m) t.1 t.2.1 t.2.2.1 t.2.2.2.1 t.2.2.2.2.1 t.2.2.2.2.2).trans (congrFun (congrFun (congrFun (congrFun (congrFun (congrFun (congrArg (word_right.l4_0.r (fun a0 a1 => ((Prod.mk (.exit 0) (St.mk [(.ptr 0 []), (.ptr 1 [])] [(some (.var (.ints .u64 4 a0))), (some (.var (.ints .u64 4 a1)))])) : Ex × St)) n) (funext fun y0 => funext fun y1 => funext fun y2 => funext fun y3 => funext fun y4 => funext fun y5 => ih (y0, y1, y2, y3, y4, y5))) t.1) t.2.1) t.2.2.1) t.2.2.2.1) t.2.2.2.2.1) t.2.2.2.2.2)
theorem word_right.l4_0.loop (n m : Nat) (t : (Int × (Int × (Int × ((List Int) × ((List Int) × (List Int))))))) : loopOf (roundOf (word_right.C n) (word_right.A n) n word_right.b0) m (word_right.l4_0.shape t) = (word_right.l4_0.m n m t).map word_right.l4_0.res :=
  (word_right.l4_0.loop' n m t).trans (word_right.l4_0.gmap word_right.l4_0.res (fun a0 a1 => (a0, a1)) n m t.1 t.2.1 t.2.2.1 t.2.2.2.1 t.2.2.2.2.1 t.2.2.2.2.2)
theorem word_right.gmap {α β : Type} (h : β → α) (mk0 : (List Int) → β) (n : Nat) (a0 : Int) (a1 : (List Int)) (a2 : Int) : word_right.g (fun a0 => (h (mk0 a0))) n a0 a1 a2 = (word_right.g mk0 n a0 a1 a2).map h := by
  unfold word_right.g
  exact (bindO_map fun r2 => rfl)
theorem word_right.run (n : Nat) (a0 : Int) (a1 : (List Int)) (a2 : Int) : runF (word_right.C n) (word_right.A n) n Try.f75 [(.int .u64 a0), (.ints .u64 4 a1), (.int .u64 a2)] [] (fun v o => some (v, o)) = word_right.g (fun a0 => ((Prod.mk (.ints .u64 4 a0) []) : AV × Blks)) n a0 a1 a2 := by kernel_rfl
theorem word_right.call (hmix : Try.prog.follows .mixedOrders = true) (n : Nat) (t : (Int × ((List Int) × Int))) (u) (h : word_right.m n t = some u) : FnC Try.prog (fun _ => .any) 75 (word_right.shape t).1 (word_right.shape t).2 (word_right.res u).1 (word_right.res u).2 := by
  have hg : ∀ f m, (word_right.C n).Γ f = some m → CalleeS Try.prog (fun _ => .any) f m := by
    intro f m hm
    unfold word_right.C at hm
    simp only at hm
    first
    | (cases hm; done)
    | (split at hm <;> first
    | (cases hm; exact word_rightS1.s hmix n)
    | (cases hm; done))
  have hb : Try.f75.body = some (Try.f75.body.getD .skip) := by kernel_rfl
  refine runF_calls (C := word_right.C n) (A := word_right.A n) (n := n) (fn := Try.f75) hg hmix Try.func75 hb ?_ ?_ (by decide) rfl rfl (by show 3 ≤ Try.f75.ntmps; decide) ?_
  · rw [show loopsIn (Try.f75.body.getD .skip) = [word_right.b0] by kernel_rfl]
    intro b hb m hm
    simp only [List.mem_cons, List.not_mem_nil, or_false] at hb
    rcases hb with rfl
    · have e : (word_right.A n).loop (key word_right.b0) = some (.mk' word_right.l4_0.pat (word_right.l4_0.m n n) word_right.l4_0.resK) := by rw [show key word_right.b0 = 4 by kernel_rfl]; rfl
      rw [e] at hm
      cases hm
      exact LoopS.of (res := word_right.l4_0.res) (fun R u K => rfl) word_right.l4_0.pat_shape fun t => word_right.l4_0.loop n n t
  · intro a ha m hm
    have hm' := lookJ_mem (show lookJ [] (jkey a) = some m from hm)
    simp only [List.mem_cons, List.not_mem_nil, or_false, Prod.mk.injEq] at hm'

  · rw [show runF (word_right.C n) (word_right.A n) n Try.f75 (word_right.shape t).1 (word_right.shape t).2 (fun v o => some (v, o)) = _ from word_right.run n t.1 t.2.1 t.2.2]
    have e := word_right.gmap word_right.res (fun a0 => a0) n t.1 t.2.1 t.2.2
    unfold word_right.m at h
    rw [h] at e
    exact e
theorem word_right.ok (hmix : Try.prog.follows .mixedOrders = true) (n : Nat) (t : (Int × ((List Int) × Int))) (u) (h : word_right.m n t = some u) : FnOK Try.prog (fun _ => .any) 75 (word_right.shape t).1 (word_right.shape t).2 (word_right.res u).1 (word_right.res u).2 :=
  (word_right.call hmix n t u h).ok Try.func75 (by decide) (by kernel_rfl)
theorem word_right.s (hmix : Try.prog.follows .mixedOrders = true) (n : Nat) : CalleeS Try.prog (fun _ => .any) 75 (word_right.c n) :=
  CalleeS.of (res := word_right.res) (shape := word_right.shape) (fun R u K => rfl) (fun args lent t h => by
    unfold word_right.pat at h
    split at h
    · cases h; rfl
    · cases h) fun t u h => word_right.ok hmix n t u h
end

section
set_option linter.unusedVariables false
set_option linter.unusedSimpArgs false
set_option maxRecDepth 100000
open Go Go.Abs Go.Proofs
/-! word_Sar -/
theorem word_Sar.gmap {α β : Type} (h : β → α) (mk0 : (List Int) → β) (n : Nat) (a0 : (List Int)) (a1 : (List Int)) : word_Sar.g (fun a0 => (h (mk0 a0))) n a0 a1 = (word_Sar.g mk0 n a0 a1).map h := by
  unfold word_Sar.g
  exact (bindO_map fun r2 => (ite_map (bindO_map fun r6 => (bindO_map fun r8 => rfl)) (bindO_map fun r6 => (bindO_map fun r8 => rfl))))
theorem word_Sar.run (n : Nat) (a0 : (List Int)) (a1 : (List Int)) : runF (word_Sar.C n) (word_Sar.A n) n Try.f27 [(.ints .u64 4 a0), (.ints .u64 4 a1)] [] (fun v o => some (v, o)) = word_Sar.g (fun a0 => ((Prod.mk (.ints .u64 4 a0) []) : AV × Blks)) n a0 a1 := by kernel_rfl
theorem word_Sar.call (hmix : Try.prog.follows .mixedOrders = true) (n : Nat) (t : ((List Int) × (List Int))) (u) (h : word_Sar.m n t = some u) : FnC Try.prog (fun _ => .any) 27 (word_Sar.shape t).1 (word_Sar.shape t).2 (word_Sar.res u).1 (word_Sar.res u).2 := by
  have hg : ∀ f m, (word_Sar.C n).Γ f = some m → CalleeS Try.prog (fun _ => .any) f m := by
    intro f m hm
    unfold word_Sar.C at hm
    simp only at hm
    first
    | (cases hm; done)
    | (split at hm <;> first
    | (cases hm; exact word_negative.s hmix n)
    | (cases hm; exact word_far.s hmix n)
    | (cases hm; exact word_right.s hmix n)
    | (cases hm; done))
  have hb : Try.f27.body = some (Try.f27.body.getD .skip) := by kernel_rfl
  refine runF_calls (C := word_Sar.C n) (A := word_Sar.A n) (n := n) (fn := Try.f27) hg hmix Try.func27 hb ?_ ?_ (by decide) rfl rfl (by show 2 ≤ Try.f27.ntmps; decide) ?_
  · rw [show loopsIn (Try.f27.body.getD .skip) = [] by kernel_rfl]
    intro b hb m hm
    simp only [List.mem_cons, List.not_mem_nil, or_false] at hb

  · intro a ha m hm
    have hm' := lookJ_mem (show lookJ [] (jkey a) = some m from hm)
    simp only [List.mem_cons, List.not_mem_nil, or_false, Prod.mk.injEq] at hm'

  · rw [show runF (word_Sar.C n) (word_Sar.A n) n Try.f27 (word_Sar.shape t).1 (word_Sar.shape t).2 (fun v o => some (v, o)) = _ from word_Sar.run n t.1 t.2]
    have e := word_Sar.gmap word_Sar.res (fun a0 => a0) n t.1 t.2
    unfold word_Sar.m at h
    rw [h] at e
    exact e
theorem word_Sar.ok (hmix : Try.prog.follows .mixedOrders = true) (n : Nat) (t : ((List Int) × (List Int))) (u) (h : word_Sar.m n t = some u) : FnOK Try.prog (fun _ => .any) 27 (word_Sar.shape t).1 (word_Sar.shape t).2 (word_Sar.res u).1 (word_Sar.res u).2 :=
  (word_Sar.call hmix n t u h).ok Try.func27 (by decide) (by kernel_rfl)
theorem word_Sar.s (hmix : Try.prog.follows .mixedOrders = true) (n : Nat) : CalleeS Try.prog (fun _ => .any) 27 (word_Sar.c n) :=
  CalleeS.of (res := word_Sar.res) (shape := word_Sar.shape) (fun R u K => rfl) (fun args lent t h => by
    unfold word_Sar.pat at h
    split at h
    · cases h; rfl
    · cases h) fun t u h => word_Sar.ok hmix n t u h
end

section
set_option linter.unusedVariables false
set_option linter.unusedSimpArgs false
set_option maxRecDepth 100000
open Go Go.Abs Go.Proofs
/-! word_Extend -/
theorem word_Extend.gmap {α β : Type} (h : β → α) (mk0 : (List Int) → β) (n : Nat) (a0 : (List Int)) (a1 : (List Int)) : word_Extend.g (fun a0 => (h (mk0 a0))) n a0 a1 = (word_Extend.g mk0 n a0 a1).map h := by
  unfold word_Extend.g
  exact (bindO_map fun r2 => (ite_map rfl (ite_map rfl (bindO_map fun r8 => (bindO_map fun r10 => (bindO_map fun r12 => rfl))))))
theorem word_Extend.run (n : Nat) (a0 : (List Int)) (a1 : (List Int)) : runF (word_Extend.C n) (word_Extend.A n) n Try.f21 [(.ints .u64 4 a0), (.ints .u64 4 a1)] [] (fun v o => some (v, o)) = word_Extend.g (fun a0 => ((Prod.mk (.ints .u64 4 a0) []) : AV × Blks)) n a0 a1 := by kernel_rfl
theorem word_Extend.call (hmix : Try.prog.follows .mixedOrders = true) (n : Nat) (t : ((List Int) × (List Int))) (u) (h : word_Extend.m n t = some u) : FnC Try.prog (fun _ => .any) 21 (word_Extend.shape t).1 (word_Extend.shape t).2 (word_Extend.res u).1 (word_Extend.res u).2 := by
  have hg : ∀ f m, (word_Extend.C n).Γ f = some m → CalleeS Try.prog (fun _ => .any) f m := by
    intro f m hm
    unfold word_Extend.C at hm
    simp only at hm
    first
    | (cases hm; done)
    | (split at hm <;> first
    | (cases hm; exact word_Small.s hmix n)
    | (cases hm; exact word_From.s hmix n)
    | (cases hm; exact word_Shl.s hmix n)
    | (cases hm; exact word_Sar.s hmix n)
    | (cases hm; done))
  have hb : Try.f21.body = some (Try.f21.body.getD .skip) := by kernel_rfl
  refine runF_calls (C := word_Extend.C n) (A := word_Extend.A n) (n := n) (fn := Try.f21) hg hmix Try.func21 hb ?_ ?_ (by decide) rfl rfl (by show 2 ≤ Try.f21.ntmps; decide) ?_
  · rw [show loopsIn (Try.f21.body.getD .skip) = [] by kernel_rfl]
    intro b hb m hm
    simp only [List.mem_cons, List.not_mem_nil, or_false] at hb

  · intro a ha m hm
    have hm' := lookJ_mem (show lookJ [] (jkey a) = some m from hm)
    simp only [List.mem_cons, List.not_mem_nil, or_false, Prod.mk.injEq] at hm'

  · rw [show runF (word_Extend.C n) (word_Extend.A n) n Try.f21 (word_Extend.shape t).1 (word_Extend.shape t).2 (fun v o => some (v, o)) = _ from word_Extend.run n t.1 t.2]
    have e := word_Extend.gmap word_Extend.res (fun a0 => a0) n t.1 t.2
    unfold word_Extend.m at h
    rw [h] at e
    exact e
theorem word_Extend.ok (hmix : Try.prog.follows .mixedOrders = true) (n : Nat) (t : ((List Int) × (List Int))) (u) (h : word_Extend.m n t = some u) : FnOK Try.prog (fun _ => .any) 21 (word_Extend.shape t).1 (word_Extend.shape t).2 (word_Extend.res u).1 (word_Extend.res u).2 :=
  (word_Extend.call hmix n t u h).ok Try.func21 (by decide) (by kernel_rfl)
theorem word_Extend.s (hmix : Try.prog.follows .mixedOrders = true) (n : Nat) : CalleeS Try.prog (fun _ => .any) 21 (word_Extend.c n) :=
  CalleeS.of (res := word_Extend.res) (shape := word_Extend.shape) (fun R u K => rfl) (fun args lent t h => by
    unfold word_Extend.pat at h
    split at h
    · cases h; rfl
    · cases h) fun t u h => word_Extend.ok hmix n t u h
end

section
set_option linter.unusedVariables false
set_option linter.unusedSimpArgs false
set_option maxRecDepth 100000
open Go Go.Abs Go.Proofs
/-! word_Byte -/
theorem word_Byte.gmap {α β : Type} (h : β → α) (mk0 : (List Int) → β) (n : Nat) (a0 : (List Int)) (a1 : (List Int)) : word_Byte.g (fun a0 => (h (mk0 a0))) n a0 a1 = (word_Byte.g mk0 n a0 a1).map h := by
  unfold word_Byte.g
  exact (bindO_map fun r2 => (ite_map rfl (ite_map rfl (ite_map (ite_map (ite_map (bindO_map fun r14 => rfl) rfl) rfl) rfl))))
theorem word_Byte.run (n : Nat) (a0 : (List Int)) (a1 : (List Int)) : runF (word_Byte.C n) (word_Byte.A n) n Try.f29 [(.ints .u64 4 a0), (.ints .u64 4 a1)] [] (fun v o => some (v, o)) = word_Byte.g (fun a0 => ((Prod.mk (.ints .u64 4 a0) []) : AV × Blks)) n a0 a1 := by kernel_rfl
theorem word_Byte.call (hmix : Try.prog.follows .mixedOrders = true) (n : Nat) (t : ((List Int) × (List Int))) (u) (h : word_Byte.m n t = some u) : FnC Try.prog (fun _ => .any) 29 (word_Byte.shape t).1 (word_Byte.shape t).2 (word_Byte.res u).1 (word_Byte.res u).2 := by
  have hg : ∀ f m, (word_Byte.C n).Γ f = some m → CalleeS Try.prog (fun _ => .any) f m := by
    intro f m hm
    unfold word_Byte.C at hm
    simp only at hm
    first
    | (cases hm; done)
    | (split at hm <;> first
    | (cases hm; exact word_Small.s hmix n)
    | (cases hm; exact word_From.s hmix n)
    | (cases hm; done))
  have hb : Try.f29.body = some (Try.f29.body.getD .skip) := by kernel_rfl
  refine runF_calls (C := word_Byte.C n) (A := word_Byte.A n) (n := n) (fn := Try.f29) hg hmix Try.func29 hb ?_ ?_ (by decide) rfl rfl (by show 2 ≤ Try.f29.ntmps; decide) ?_
  · rw [show loopsIn (Try.f29.body.getD .skip) = [] by kernel_rfl]
    intro b hb m hm
    simp only [List.mem_cons, List.not_mem_nil, or_false] at hb

  · intro a ha m hm
    have hm' := lookJ_mem (show lookJ [] (jkey a) = some m from hm)
    simp only [List.mem_cons, List.not_mem_nil, or_false, Prod.mk.injEq] at hm'

  · rw [show runF (word_Byte.C n) (word_Byte.A n) n Try.f29 (word_Byte.shape t).1 (word_Byte.shape t).2 (fun v o => some (v, o)) = _ from word_Byte.run n t.1 t.2]
    have e := word_Byte.gmap word_Byte.res (fun a0 => a0) n t.1 t.2
    unfold word_Byte.m at h
    rw [h] at e
    exact e
theorem word_Byte.ok (hmix : Try.prog.follows .mixedOrders = true) (n : Nat) (t : ((List Int) × (List Int))) (u) (h : word_Byte.m n t = some u) : FnOK Try.prog (fun _ => .any) 29 (word_Byte.shape t).1 (word_Byte.shape t).2 (word_Byte.res u).1 (word_Byte.res u).2 :=
  (word_Byte.call hmix n t u h).ok Try.func29 (by decide) (by kernel_rfl)
theorem word_Byte.s (hmix : Try.prog.follows .mixedOrders = true) (n : Nat) : CalleeS Try.prog (fun _ => .any) 29 (word_Byte.c n) :=
  CalleeS.of (res := word_Byte.res) (shape := word_Byte.shape) (fun R u K => rfl) (fun args lent t h => by
    unfold word_Byte.pat at h
    split at h
    · cases h; rfl
    · cases h) fun t u h => word_Byte.ok hmix n t u h
end

section
set_option linter.unusedVariables false
set_option linter.unusedSimpArgs false
set_option maxRecDepth 100000
open Go Go.Abs Go.Proofs
/-! l01_known -/
theorem l01_known.gmap {α β : Type} (h : β → α) (mk0 : Bool → β) (n : Nat)  : l01_known.g (fun a0 => (h (mk0 a0))) n  = (l01_known.g mk0 n ).map h := by
  unfold l01_known.g
  exact (bindO_map fun r2 => (bindO_map fun r4 => (bindO_map fun r6 => (bindO_map fun r8 => (bindO_map fun r10 => (bindO_map fun r12 => (bindO_map fun r14 => (ite_map (ite_map (bindO_map fun r20 => (ite_map (bindO_map fun r24 => (ite_map (bindO_map fun r28 => (bindO_map fun r30 => (bindO_map fun r32 => (bindO_map fun r34 => (ite_map (bindO_map fun r38 => (bindO_map fun r40 => (bindO_map fun r42 => (bindO_map fun r44 => (ite_map (bindO_map fun r48 => (bindO_map fun r50 => (bindO_map fun r52 => (bindO_map fun r54 => (ite_map (bindO_map fun r58 => (bindO_map fun r60 => (bindO_map fun r62 => (bindO_map fun r64 => rfl)))) rfl))))) rfl))))) rfl))))) rfl)) rfl)) rfl) rfl))))))))
theorem l01_known.run (n : Nat)  : runF (l01_known.C n) (l01_known.A n) n Try.f20 [] [] (fun v o => some (v, o)) = l01_known.g (fun a0 => ((Prod.mk (.bool a0) []) : AV × Blks)) n  := by kernel_rfl
theorem l01_known.call (hmix : Try.prog.follows .mixedOrders = true) (n : Nat) (t : Unit) (u) (h : l01_known.m n t = some u) : FnC Try.prog (fun _ => .any) 20 (l01_known.shape t).1 (l01_known.shape t).2 (l01_known.res u).1 (l01_known.res u).2 := by
  have hg : ∀ f m, (l01_known.C n).Γ f = some m → CalleeS Try.prog (fun _ => .any) f m := by
    intro f m hm
    unfold l01_known.C at hm
    simp only at hm
    first
    | (cases hm; done)
    | (split at hm <;> first
    | (cases hm; exact l01_w.s hmix n)
    | (cases hm; exact word_Sub.s hmix n)
    | (cases hm; exact l01_minus.s hmix n)
    | (cases hm; exact word_Sdiv.s hmix n)
    | (cases hm; exact word_MulMod.s hmix n)
    | (cases hm; exact word_Extend.s hmix n)
    | (cases hm; exact word_Sar.s hmix n)
    | (cases hm; exact word_Byte.s hmix n)
    | (cases hm; done))
  have hb : Try.f20.body = some (Try.f20.body.getD .skip) := by kernel_rfl
  refine runF_calls (C := l01_known.C n) (A := l01_known.A n) (n := n) (fn := Try.f20) hg hmix Try.func20 hb ?_ ?_ (by decide) rfl rfl (by show 0 ≤ Try.f20.ntmps; decide) ?_
  · rw [show loopsIn (Try.f20.body.getD .skip) = [] by kernel_rfl]
    intro b hb m hm
    simp only [List.mem_cons, List.not_mem_nil, or_false] at hb

  · intro a ha m hm
    have hm' := lookJ_mem (show lookJ [] (jkey a) = some m from hm)
    simp only [List.mem_cons, List.not_mem_nil, or_false, Prod.mk.injEq] at hm'

  · rw [show runF (l01_known.C n) (l01_known.A n) n Try.f20 (l01_known.shape t).1 (l01_known.shape t).2 (fun v o => some (v, o)) = _ from l01_known.run n ]
    have e := l01_known.gmap l01_known.res (fun a0 => a0) n 
    unfold l01_known.m at h
    rw [h] at e
    exact e
theorem l01_known.ok (hmix : Try.prog.follows .mixedOrders = true) (n : Nat) (t : Unit) (u) (h : l01_known.m n t = some u) : FnOK Try.prog (fun _ => .any) 20 (l01_known.shape t).1 (l01_known.shape t).2 (l01_known.res u).1 (l01_known.res u).2 :=
  (l01_known.call hmix n t u h).ok Try.func20 (by decide) (by kernel_rfl)
theorem l01_known.s (hmix : Try.prog.follows .mixedOrders = true) (n : Nat) : CalleeS Try.prog (fun _ => .any) 20 (l01_known.c n) :=
  CalleeS.of (res := l01_known.res) (shape := l01_known.shape) (fun R u K => rfl) (fun args lent t h => by
    unfold l01_known.pat at h
    split at h
    · cases h; rfl
    · cases h) fun t u h => l01_known.ok hmix n t u h
end

section
set_option linter.unusedVariables false
set_option linter.unusedSimpArgs false
set_option maxRecDepth 100000
open Go Go.Abs Go.Proofs
noncomputable section
/-! l01_WordParts -/
noncomputable def l01_WordParts.C (n : Nat) : Ctx := ⟨Try.prog, (fun _ => .any), fun f => match f with
  | 16 => some (word_Div.c n)
  | 18 => some (word_Sdiv.c n)
  | 20 => some (l01_known.c n)
  | 35 => some (word_Mul.c n)
  | 34 => some (word_Add.c n)
  | 36 => some (word_Scmp.c n)
  | 33 => some (word_Cmp.c n)
  | _ => none⟩
def l01_WordParts.live : Nat → List Nat × List Nat := fun k => match k with
  | _ => ([], [])
def l01_WordParts.jlive : Nat → List Nat × List Nat := fun k => match k with
  | _ => ([], [])
noncomputable def l01_WordParts.A (n : Nat) : Ann := ⟨Try.f9.ntmps, 0, l01_WordParts.live, [], [none], fun k => match k with
  | _ => none, l01_WordParts.jlive, lookJ []⟩
def l01_WordParts.g {α : Type} (mk0 : Bool → α) (n : Nat) (a0 : (List Int)) (a1 : (List Int)) : Option α :=
  bindO (word_Div.m n (Prod.mk a0 a1)) fun r2 =>
    bindO (word_Sdiv.m n (Prod.mk a0 a1)) fun r4 =>
      if (a1 == [0, 0, 0, 0]) = true then
        bindO (l01_known.m n Unit.unit) fun r8 =>
          if r8 = true then
            if ((Prod.fst r2) == [0, 0, 0, 0]) = true then
              if ((Prod.snd r2) == [0, 0, 0, 0]) = true then
                if ((Prod.fst r4) == [0, 0, 0, 0]) = true then
                  some (mk0 ((Prod.snd r4) == [0, 0, 0, 0]))
                else
                  some (mk0 false)
              else
                some (mk0 false)
            else
              some (mk0 false)
          else
            some (mk0 false)
      else
        bindO (word_Mul.m n (Prod.mk (Prod.fst r2) a1)) fun r8 =>
          bindO (word_Add.m n (Prod.mk (Prod.fst r8) (Prod.snd r2))) fun r10 =>
            bindO (word_Mul.m n (Prod.mk (Prod.fst r4) a1)) fun r12 =>
              bindO (word_Add.m n (Prod.mk (Prod.fst r12) (Prod.snd r4))) fun r14 =>
                if ((Prod.snd r4) == [0, 0, 0, 0]) = true then
                  bindO (l01_known.m n Unit.unit) fun r18 =>
                    if r18 = true then
                      if ((Prod.fst r10) == a0) = true then
                        if (!(Prod.snd r8)) = true then
                          if (!(Prod.snd r10)) = true then
                            bindO (word_Cmp.m n (Prod.mk (Prod.snd r2) a1)) fun r28 =>
                              if (decide (r28 < 0)) = true then
                                if ((Prod.fst r14) == a0) = true then
                                  some (mk0 true)
                                else
                                  some (mk0 false)
                              else
                                some (mk0 false)
                          else
                            some (mk0 false)
                        else
                          some (mk0 false)
                      else
                        some (mk0 false)
                    else
                      some (mk0 false)
                else
                  bindO (word_Scmp.m n (Prod.mk (Prod.snd r4) [0, 0, 0, 0])) fun r18 =>
                    bindO (word_Scmp.m n (Prod.mk a0 [0, 0, 0, 0])) fun r20 =>
                      bindO (l01_known.m n Unit.unit) fun r22 =>
                        if r22 = true then
                          if ((Prod.fst r10) == a0) = true then
                            if (!(Prod.snd r8)) = true then
                              if (!(Prod.snd r10)) = true then
                                bindO (word_Cmp.m n (Prod.mk (Prod.snd r2) a1)) fun r32 =>
                                  if (decide (r32 < 0)) = true then
                                    if ((Prod.fst r14) == a0) = true then
                                      some (mk0 ((decide (r18 < 0)) == (decide (r20 < 0))))
                                    else
                                      some (mk0 false)
                                  else
                                    some (mk0 false)
                              else
                                some (mk0 false)
                            else
                              some (mk0 false)
                          else
                            some (mk0 false)
                        else
                          some (mk0 false)
def l01_WordParts.m (n : Nat) (t : ((List Int) × (List Int))) : Option Bool := l01_WordParts.g (fun a0 => a0) n t.1 t.2
def l01_WordParts.pat : List AV → Blks → Option ((List Int) × (List Int))
  | [(.ints .u64 4 a0), (.ints .u64 4 a1)], [] => some (a0, a1)
  | _, _ => none
def l01_WordParts.shape (t : ((List Int) × (List Int))) : List AV × Blks := ([(.ints .u64 4 t.1), (.ints .u64 4 t.2)], [])
def l01_WordParts.res : Bool → AV × Blks
  | u => (Prod.mk (.bool u) [])
def l01_WordParts.resK {R : Type} (u : Bool) (K : AV → Blks → Option R) : Option R := (fun p : AV × Blks => K p.1 p.2) (Prod.mk (.bool u) [])
def l01_WordParts.c (n : Nat) : Abs.Callee := .mk' [] [none, none] l01_WordParts.pat (l01_WordParts.m n) l01_WordParts.resK
end
end

section
set_option linter.unusedVariables false
set_option linter.unusedSimpArgs false
set_option maxRecDepth 100000
open Go Go.Abs Go.Proofs
/-! l01_WordParts -/
theorem l01_WordParts.gmap {α β : Type} (h : β → α) (mk0 : Bool → β) (n : Nat) (a0 : (List Int)) (a1 : (List Int)) : l01_WordParts.g (fun a0 => (h (mk0 a0))) n a0 a1 = (l01_WordParts.g mk0 n a0 a1).map h := by
  unfold l01_WordParts.g
  exact (bindO_map fun r2 => (bindO_map fun r4 => (ite_map (bindO_map fun r8 => (ite_map (ite_map (ite_map (ite_map rfl rfl) rfl) rfl) rfl)) (bindO_map fun r8 => (bindO_map fun r10 => (bindO_map fun r12 => (bindO_map fun r14 => (ite_map (bindO_map fun r18 => (ite_map (ite_map (ite_map (ite_map (bindO_map fun r28 => (ite_map (ite_map rfl rfl) rfl)) rfl) rfl) rfl) rfl)) (bindO_map fun r18 => (bindO_map fun r20 => (bindO_map fun r22 => (ite_map (ite_map (ite_map (ite_map (bindO_map fun r32 => (ite_map (ite_map rfl rfl) rfl)) rfl) rfl) rfl) rfl))))))))))))
theorem l01_WordParts.run (n : Nat) (a0 : (List Int)) (a1 : (List Int)) : runF (l01_WordParts.C n) (l01_WordParts.A n) n Try.f9 [(.ints .u64 4 a0), (.ints .u64 4 a1)] [] (fun v o => some (v, o)) = l01_WordParts.g (fun a0 => ((Prod.mk (.bool a0) []) : AV × Blks)) n a0 a1 := by kernel_rfl
theorem l01_WordParts.call (hmix : Try.prog.follows .mixedOrders = true) (n : Nat) (t : ((List Int) × (List Int))) (u) (h : l01_WordParts.m n t = some u) : FnC Try.prog (fun _ => .any) 9 (l01_WordParts.shape t).1 (l01_WordParts.shape t).2 (l01_WordParts.res u).1 (l01_WordParts.res u).2 := by
  have hg : ∀ f m, (l01_WordParts.C n).Γ f = some m → CalleeS Try.prog (fun _ => .any) f m := by
    intro f m hm
    unfold l01_WordParts.C at hm
    simp only at hm
    first
    | (cases hm; done)
    | (split at hm <;> first
    | (cases hm; exact word_Div.s hmix n)
    | (cases hm; exact word_Sdiv.s hmix n)
    | (cases hm; exact l01_known.s hmix n)
    | (cases hm; exact word_Mul.s hmix n)
    | (cases hm; exact word_Add.s hmix n)
    | (cases hm; exact word_Scmp.s hmix n)
    | (cases hm; exact word_Cmp.s hmix n)
    | (cases hm; done))
  have hb : Try.f9.body = some (Try.f9.body.getD .skip) := by kernel_rfl
  refine runF_calls (C := l01_WordParts.C n) (A := l01_WordParts.A n) (n := n) (fn := Try.f9) hg hmix Try.func9 hb ?_ ?_ (by decide) rfl rfl (by show 2 ≤ Try.f9.ntmps; decide) ?_
  · rw [show loopsIn (Try.f9.body.getD .skip) = [] by kernel_rfl]
    intro b hb m hm
    simp only [List.mem_cons, List.not_mem_nil, or_false] at hb

  · intro a ha m hm
    have hm' := lookJ_mem (show lookJ [] (jkey a) = some m from hm)
    simp only [List.mem_cons, List.not_mem_nil, or_false, Prod.mk.injEq] at hm'

  · rw [show runF (l01_WordParts.C n) (l01_WordParts.A n) n Try.f9 (l01_WordParts.shape t).1 (l01_WordParts.shape t).2 (fun v o => some (v, o)) = _ from l01_WordParts.run n t.1 t.2]
    have e := l01_WordParts.gmap l01_WordParts.res (fun a0 => a0) n t.1 t.2
    unfold l01_WordParts.m at h
    rw [h] at e
    exact e
theorem l01_WordParts.ok (hmix : Try.prog.follows .mixedOrders = true) (n : Nat) (t : ((List Int) × (List Int))) (u) (h : l01_WordParts.m n t = some u) : FnOK Try.prog (fun _ => .any) 9 (l01_WordParts.shape t).1 (l01_WordParts.shape t).2 (l01_WordParts.res u).1 (l01_WordParts.res u).2 :=
  (l01_WordParts.call hmix n t u h).ok Try.func9 (by decide) (by kernel_rfl)
theorem l01_WordParts.s (hmix : Try.prog.follows .mixedOrders = true) (n : Nat) : CalleeS Try.prog (fun _ => .any) 9 (l01_WordParts.c n) :=
  CalleeS.of (res := l01_WordParts.res) (shape := l01_WordParts.shape) (fun R u K => rfl) (fun args lent t h => by
    unfold l01_WordParts.pat at h
    split at h
    · cases h; rfl
    · cases h) fun t u h => l01_WordParts.ok hmix n t u h
end
