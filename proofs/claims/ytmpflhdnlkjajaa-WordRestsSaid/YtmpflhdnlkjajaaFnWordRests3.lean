/- What the program's functions compute, as plain functions, each with its proof: the function does just that. Condition: the plain function has an answer. -/
import Derived.Test.YtmpflhdnlkjajaaFnWordRests2
section
set_option linter.unusedVariables false
set_option linter.unusedSimpArgs false
set_option maxRecDepth 100000
open Go Go.Abs Go.Proofs
/-! l01_WordRests -/
theorem l01_WordRests.gmap {α β : Type} (h : β → α) (mk0 : Bool → β) (n : Nat) (a0 : (List Int)) (a1 : (List Int)) (a2 : (List Int)) : l01_WordRests.g (fun a0 => (h (mk0 a0))) n a0 a1 a2 = (l01_WordRests.g mk0 n a0 a1 a2).map h := by
  unfold l01_WordRests.g
  exact (bindO_map fun r2 => (ite_map (bindO_map fun r6 => (bindO_map fun r8 => (ite_map (bindO_map fun r12 => (bindO_map fun r14 => rfl)) rfl))) rfl))
theorem l01_WordRests.run (n : Nat) (a0 : (List Int)) (a1 : (List Int)) (a2 : (List Int)) : runF (l01_WordRests.C n) (l01_WordRests.A n) n Try.f10 [(.ints .u64 4 a0), (.ints .u64 4 a1), (.ints .u64 4 a2)] [] (fun v o => some (v, o)) = l01_WordRests.g (fun a0 => ((Prod.mk (.bool a0) []) : AV × Blks)) n a0 a1 a2 := by kernel_rfl
theorem l01_WordRests.call (hmix : Try.prog.follows .mixedOrders = true) (n : Nat) (t : ((List Int) × ((List Int) × (List Int)))) (u) (h : l01_WordRests.m n t = some u) : FnC Try.prog (fun _ => .any) 10 (l01_WordRests.shape t).1 (l01_WordRests.shape t).2 (l01_WordRests.res u).1 (l01_WordRests.res u).2 := by
  have hg : ∀ f m, (l01_WordRests.C n).Γ f = some m → CalleeS Try.prog (fun _ => .any) f m := by
    intro f m hm
    unfold l01_WordRests.C at hm
    simp only at hm
    first
    | (cases hm; done)
    | (split at hm <;> first
    | (cases hm; exact l01_known.s hmix n)
    | (cases hm; exact word_AddMod.s hmix n)
    | (cases hm; exact q01_AddMod.s hmix n)
    | (cases hm; exact word_MulMod.s hmix n)
    | (cases hm; exact q01_MulMod.s hmix n)
    | (cases hm; done))
  have hb : Try.f10.body = some (Try.f10.body.getD .skip) := by kernel_rfl
  refine runF_calls (C := l01_WordRests.C n) (A := l01_WordRests.A n) (n := n) (fn := Try.f10) hg hmix Try.func10 hb ?_ ?_ (by decide) rfl rfl (by show 3 ≤ Try.f10.ntmps; decide) ?_
  · rw [show loopsIn (Try.f10.body.getD .skip) = [] by kernel_rfl]
    intro b hb m hm
    simp only [List.mem_cons, List.not_mem_nil, or_false] at hb

  · intro a ha m hm
    have hm' := lookJ_mem (show lookJ [] (jkey a) = some m from hm)
    simp only [List.mem_cons, List.not_mem_nil, or_false, Prod.mk.injEq] at hm'

  · rw [show runF (l01_WordRests.C n) (l01_WordRests.A n) n Try.f10 (l01_WordRests.shape t).1 (l01_WordRests.shape t).2 (fun v o => some (v, o)) = _ from l01_WordRests.run n t.1 t.2.1 t.2.2]
    have e := l01_WordRests.gmap l01_WordRests.res (fun a0 => a0) n t.1 t.2.1 t.2.2
    unfold l01_WordRests.m at h
    rw [h] at e
    exact e
theorem l01_WordRests.ok (hmix : Try.prog.follows .mixedOrders = true) (n : Nat) (t : ((List Int) × ((List Int) × (List Int)))) (u) (h : l01_WordRests.m n t = some u) : FnOK Try.prog (fun _ => .any) 10 (l01_WordRests.shape t).1 (l01_WordRests.shape t).2 (l01_WordRests.res u).1 (l01_WordRests.res u).2 :=
  (l01_WordRests.call hmix n t u h).ok Try.func10 (by decide) (by kernel_rfl)
theorem l01_WordRests.s (hmix : Try.prog.follows .mixedOrders = true) (n : Nat) : CalleeS Try.prog (fun _ => .any) 10 (l01_WordRests.c n) :=
  CalleeS.of (res := l01_WordRests.res) (shape := l01_WordRests.shape) (fun R u K => rfl) (fun args lent t h => by
    unfold l01_WordRests.pat at h
    split at h
    · cases h; rfl
    · cases h) fun t u h => l01_WordRests.ok hmix n t u h
end
