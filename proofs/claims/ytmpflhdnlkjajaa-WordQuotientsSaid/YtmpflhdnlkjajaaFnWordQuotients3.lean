/- What the program's functions compute, as plain functions, each with its proof: the function does just that. Condition: the plain function has an answer. -/
import Derived.Test.YtmpflhdnlkjajaaFnWordQuotients2
section
set_option linter.unusedVariables false
set_option linter.unusedSimpArgs false
set_option maxRecDepth 100000
open Go Go.Abs Go.Proofs
/-! l01_WordQuotients -/
theorem l01_WordQuotients.gmap {α β : Type} (h : β → α) (mk0 : Bool → β) (n : Nat) (a0 : (List Int)) (a1 : (List Int)) : l01_WordQuotients.g (fun a0 => (h (mk0 a0))) n a0 a1 = (l01_WordQuotients.g mk0 n a0 a1).map h := by
  unfold l01_WordQuotients.g
  exact (bindO_map fun r2 => (bindO_map fun r4 => (bindO_map fun r6 => (bindO_map fun r8 => (bindO_map fun r10 => (ite_map (ite_map (ite_map (ite_map rfl rfl) rfl) rfl) rfl))))))
theorem l01_WordQuotients.run (n : Nat) (a0 : (List Int)) (a1 : (List Int)) : runF (l01_WordQuotients.C n) (l01_WordQuotients.A n) n Try.f3 [(.ints .u64 4 a0), (.ints .u64 4 a1)] [] (fun v o => some (v, o)) = l01_WordQuotients.g (fun a0 => ((Prod.mk (.bool a0) []) : AV × Blks)) n a0 a1 := by kernel_rfl
theorem l01_WordQuotients.call (hmix : Try.prog.follows .mixedOrders = true) (n : Nat) (t : ((List Int) × (List Int))) (u) (h : l01_WordQuotients.m n t = some u) : FnC Try.prog (fun _ => .any) 3 (l01_WordQuotients.shape t).1 (l01_WordQuotients.shape t).2 (l01_WordQuotients.res u).1 (l01_WordQuotients.res u).2 := by
  have hg : ∀ f m, (l01_WordQuotients.C n).Γ f = some m → CalleeS Try.prog (fun _ => .any) f m := by
    intro f m hm
    unfold l01_WordQuotients.C at hm
    simp only at hm
    first
    | (cases hm; done)
    | (split at hm <;> first
    | (cases hm; exact word_Div.s hmix n)
    | (cases hm; exact q01_Div.s hmix n)
    | (cases hm; exact word_Sdiv.s hmix n)
    | (cases hm; exact q01_Sdiv.s hmix n)
    | (cases hm; exact l01_known.s hmix n)
    | (cases hm; done))
  have hb : Try.f3.body = some (Try.f3.body.getD .skip) := by kernel_rfl
  refine runF_calls (C := l01_WordQuotients.C n) (A := l01_WordQuotients.A n) (n := n) (fn := Try.f3) hg hmix Try.func3 hb ?_ ?_ (by decide) rfl rfl (by show 2 ≤ Try.f3.ntmps; decide) ?_
  · rw [show loopsIn (Try.f3.body.getD .skip) = [] by kernel_rfl]
    intro b hb m hm
    simp only [List.mem_cons, List.not_mem_nil, or_false] at hb

  · intro a ha m hm
    have hm' := lookJ_mem (show lookJ [] (jkey a) = some m from hm)
    simp only [List.mem_cons, List.not_mem_nil, or_false, Prod.mk.injEq] at hm'

  · rw [show runF (l01_WordQuotients.C n) (l01_WordQuotients.A n) n Try.f3 (l01_WordQuotients.shape t).1 (l01_WordQuotients.shape t).2 (fun v o => some (v, o)) = _ from l01_WordQuotients.run n t.1 t.2]
    have e := l01_WordQuotients.gmap l01_WordQuotients.res (fun a0 => a0) n t.1 t.2
    unfold l01_WordQuotients.m at h
    rw [h] at e
    exact e
theorem l01_WordQuotients.ok (hmix : Try.prog.follows .mixedOrders = true) (n : Nat) (t : ((List Int) × (List Int))) (u) (h : l01_WordQuotients.m n t = some u) : FnOK Try.prog (fun _ => .any) 3 (l01_WordQuotients.shape t).1 (l01_WordQuotients.shape t).2 (l01_WordQuotients.res u).1 (l01_WordQuotients.res u).2 :=
  (l01_WordQuotients.call hmix n t u h).ok Try.func3 (by decide) (by kernel_rfl)
theorem l01_WordQuotients.s (hmix : Try.prog.follows .mixedOrders = true) (n : Nat) : CalleeS Try.prog (fun _ => .any) 3 (l01_WordQuotients.c n) :=
  CalleeS.of (res := l01_WordQuotients.res) (shape := l01_WordQuotients.shape) (fun R u K => rfl) (fun args lent t h => by
    unfold l01_WordQuotients.pat at h
    split at h
    · cases h; rfl
    · cases h) fun t u h => l01_WordQuotients.ok hmix n t u h
end
