/- What the program's functions compute, as plain functions, each with its proof: the function does just that. Condition: the plain function has an answer. -/
import Derived.Test.YtaageoambenggaaFnCalcSides2
import Derived.Test.YtaageoambenggaaAbsD6
import Derived.Test.YtaageoambenggaaProg
import Derived.Test.YtaageoambenggaaFnCalcSides1
set_option linter.unusedVariables false
set_option linter.unusedSimpArgs false
set_option maxRecDepth 100000
open Go Go.Abs Go.Proofs
section
theorem q01_Extend.l6_0.rmap {α β : Type} (h : β → α) (mk0 : (List Int) → (List Int) → β) (n : Nat) (f : Int → Int → (List Int) → (List Int) → Option β)  (x0 : Int) (x1 : Int) (x2 : (List Int)) (x3 : (List Int)) : q01_Extend.l6_0.r (fun a0 a1 => (h (mk0 a0 a1))) n (fun y0 y1 y2 y3 => (f y0 y1 y2 y3).map h) x0 x1 x2 x3 = (q01_Extend.l6_0.r mk0 n f x0 x1 x2 x3).map h := by
  unfold q01_Extend.l6_0.r
  exact (ite_map (bindO_map fun r6 => (bindO_map fun r8 => rfl)) rfl)
theorem q01_Extend.l6_0.gmap {α β : Type} (h : β → α) (mk0 : (List Int) → (List Int) → β) (n : Nat) : ∀ (m : Nat) (x0 : Int) (x1 : Int) (x2 : (List Int)) (x3 : (List Int)), q01_Extend.l6_0.g (fun a0 a1 => (h (mk0 a0 a1))) n m x0 x1 x2 x3 = (q01_Extend.l6_0.g mk0 n m x0 x1 x2 x3).map h
  | 0, _, _, _, _ => rfl
  | m + 1, x0, x1, x2, x3 => by
    unfold q01_Extend.l6_0.g
    rw [← q01_Extend.l6_0.rmap]
    congr
    · funext y0 y1 y2 y3; exact q01_Extend.l6_0.gmap h mk0 n m y0 y1 y2 y3
theorem q01_Extend.l6_0.pat_shape : ∀ st t, q01_Extend.l6_0.pat st = some t → st = q01_Extend.l6_0.shape t := by
  intro st t h
  unfold q01_Extend.l6_0.pat at h
  split at h
  · cases h; rfl
  · cases h
theorem q01_Extend.l6_0.round (n : Nat) (rc : St → Option (Ex × St)) (x0 : Int) (x1 : Int) (x2 : (List Int)) (x3 : (List Int)) : roundOf (q01_Extend.C n) (q01_Extend.A n) n q01_Extend.b0 rc ((St.mk [(.int .i64 x0), (.ptr 0 []), (.int .i64 x1), (.ptr 1 [])] [(some (.var (.ints .u64 4 x2))), (some (.var (.ints .u64 4 x3)))])) = q01_Extend.l6_0.r (fun a0 a1 => ((Prod.mk (.exit 0) (St.mk [(.ptr 0 []), (.ptr 1 [])] [(some (.var (.ints .u64 4 a0))), (some (.var (.ints .u64 4 a1)))])) : Ex × St)) n (fun y0 y1 y2 y3 => rc ((St.mk [(.int .i64 y0), (.ptr 0 []), (.int .i64 y1), (.ptr 1 [])] [(some (.var (.ints .u64 4 y2))), (some (.var (.ints .u64 4 y3)))]))) x0 x1 x2 x3 := by kernel_rfl
theorem q01_Extend.l6_0.loop' (n : Nat) : ∀ (m : Nat) (t : (Int × (Int × ((List Int) × (List Int))))), loopOf (roundOf (q01_Extend.C n) (q01_Extend.A n) n q01_Extend.b0) m (q01_Extend.l6_0.shape t) = q01_Extend.l6_0.g (fun a0 a1 => ((Prod.mk (.exit 0) (St.mk [(.ptr 0 []), (.ptr 1 [])] [(some (.var (.ints .u64 4 a0))), (some (.var (.ints .u64 4 a1)))])) : Ex × St)) n m t.1 t.2.1 t.2.2.1 t.2.2.2 :=
  loop_of_round (shape := q01_Extend.l6_0.shape) (body := roundOf (q01_Extend.C n) (q01_Extend.A n) n q01_Extend.b0) (g := fun m t => q01_Extend.l6_0.g (fun a0 a1 => ((Prod.mk (.exit 0) (St.mk [(.ptr 0 []), (.ptr 1 [])] [(some (.var (.ints .u64 4 a0))), (some (.var (.ints .u64 4 a1)))])) : Ex × St)) n m t.1 t.2.1 t.2.2.1 t.2.2.2) (fun t => rfl)
    fun m t ih => (q01_Extend.l6_0.round n (loopOf (roundOf (q01_Extend.C n) (q01_Extend.A n) n q01_Extend.b0) m) t.1 t.2.1 t.2.2.1 t.2.2.2).trans (congrFun (congrFun (congrFun (congrFun (congrArg (q01_Extend.l6_0.r (fun a0 a1 => ((Prod.mk (.exit 0) (St.mk [(.ptr 0 []), (.ptr 1 [])] [(some (.var (.ints .u64 4 a0))), (some (.var (.ints .u64 4 a1)))])) : Ex × St)) n) (funext fun y0 => funext fun y1 => funext fun y2 => funext fun y3 => ih (y0, y1, y2, y3))) t.1) t.2.1) t.2.2.1) t.2.2.2)
theorem q01_Extend.l6_0.loop (n m : Nat) (t : (Int × (Int × ((List Int) × (List Int))))) : loopOf (roundOf (q01_Extend.C n) (q01_Extend.A n) n q01_Extend.b0) m (q01_Extend.l6_0.shape t) = (q01_Extend.l6_0.m n m t).map q01_Extend.l6_0.res :=
  (q01_Extend.l6_0.loop' n m t).trans (q01_Extend.l6_0.gmap q01_Extend.l6_0.res (fun a0 a1 => (a0, a1)) n m t.1 t.2.1 t.2.2.1 t.2.2.2)
theorem q01_Extend.gmap {α β : Type} (h : β → α) (mk0 : (List Int) → β) (n : Nat) (a0 : (List Int)) (a1 : (List Int)) : q01_Extend.g (fun a0 => (h (mk0 a0))) n a0 a1 = (q01_Extend.g mk0 n a0 a1).map h := by
  unfold q01_Extend.g
  exact (bindO_map fun r2 => (ite_map rfl (ite_map rfl (bindO_map fun r8 => rfl))))
theorem q01_Extend.run (n : Nat) (a0 : (List Int)) (a1 : (List Int)) : runF (q01_Extend.C n) (q01_Extend.A n) n Try.f105 [(.ints .u64 4 a0), (.ints .u64 4 a1)] [] (fun v o => some (v, o)) = q01_Extend.g (fun a0 => ((Prod.mk (.ints .u64 4 a0) []) : AV × Blks)) n a0 a1 := by kernel_rfl
theorem q01_Extend.call (hmix : Try.prog.follows .mixedOrders = true) (n : Nat) (t : ((List Int) × (List Int))) (u) (h : q01_Extend.m n t = some u) : FnC Try.prog (fun _ => .any) 105 (q01_Extend.shape t).1 (q01_Extend.shape t).2 (q01_Extend.res u).1 (q01_Extend.res u).2 := by
  have hg : ∀ f m, (q01_Extend.C n).Γ f = some m → CalleeS Try.prog (fun _ => .any) f m := by
    intro f m hm
    unfold q01_Extend.C at hm
    simp only at hm
    first
    | (cases hm; done)
    | (split at hm <;> first
    | (cases hm; exact q01_Small.s hmix n)
    | (cases hm; exact q01_bit.s hmix n)
    | (cases hm; exact q01_with.s hmix n)
    | (cases hm; done))
  have hb : Try.f105.body = some (Try.f105.body.getD .skip) := by kernel_rfl
  refine runF_calls (C := q01_Extend.C n) (A := q01_Extend.A n) (n := n) (fn := Try.f105) hg hmix Try.func105 hb ?_ ?_ (by decide) rfl rfl (by show 2 ≤ Try.f105.ntmps; decide) ?_
  · rw [show loopsIn (Try.f105.body.getD .skip) = [q01_Extend.b0] by kernel_rfl]
    intro b hb m hm
    simp only [List.mem_cons, List.not_mem_nil, or_false] at hb
    rcases hb with rfl
    · have e : (q01_Extend.A n).loop (key q01_Extend.b0) = some (.mk' q01_Extend.l6_0.pat (q01_Extend.l6_0.m n n) q01_Extend.l6_0.resK) := by rw [show key q01_Extend.b0 = 6 by kernel_rfl]; rfl
      rw [e] at hm
      cases hm
      exact LoopS.of (res := q01_Extend.l6_0.res) (fun R u K => rfl) q01_Extend.l6_0.pat_shape fun t => q01_Extend.l6_0.loop n n t
  · intro a ha m hm
    cases (show none = some m from hm)
  · rw [show runF (q01_Extend.C n) (q01_Extend.A n) n Try.f105 (q01_Extend.shape t).1 (q01_Extend.shape t).2 (fun v o => some (v, o)) = _ from q01_Extend.run n t.1 t.2]
    have e := q01_Extend.gmap q01_Extend.res (fun a0 => a0) n t.1 t.2
    unfold q01_Extend.m at h
    rw [h] at e
    exact e
theorem q01_Extend.s (hmix : Try.prog.follows .mixedOrders = true) (n : Nat) : CalleeS Try.prog (fun _ => .any) 105 (q01_Extend.c n) :=
  CalleeS.of (res := q01_Extend.res) (shape := q01_Extend.shape) (fun R u K => rfl) (fun args lent t h => by
    unfold q01_Extend.pat at h
    split at h
    · cases h; rfl
    · cases h) fun t u h => (q01_Extend.call hmix n t u h).ok Try.func105 (by decide) (by kernel_rfl)
end
section
noncomputable section
noncomputable def word_Small.C (n : Nat) : Ctx := ⟨Try.prog, (fun _ => .any), fun f => match f with
 | _ => none⟩
def word_Small.live : Nat → List Nat × List Nat := fun k => match k with
 | _ => ([], [])
def word_Small.jlive : Nat → List Nat × List Nat := fun k => match k with
 | _ => ([], [])
noncomputable def word_Small.A (n : Nat) : Ann := ⟨Try.f54.ntmps, 0, word_Small.live, [], [none, none], fun k => match k with
 | _ => none, word_Small.jlive, lookJ []⟩
def word_Small.g {α : Type} (mk0 : Int → Bool → α) (n : Nat) (a0 : (List Int)) : Option α :=
 if ((ibits BinOp.or .u64 (ibits BinOp.or .u64 (List.getD a0 1 0) (List.getD a0 2 0)) (List.getD a0 3 0)) != 0) = true then
  some (mk0 0 false)
 else
  some (mk0 (List.getD a0 0 0) true)
def word_Small.m (n : Nat) (t : (List Int)) : Option (Int × Bool) := word_Small.g (fun a0 a1 => (a0, a1)) n t
def word_Small.pat : List AV → Blks → Option (List Int)
 | [(.ints .u64 4 a0)], [] => some a0
 | _, _ => none
def word_Small.shape (t : (List Int)) : List AV × Blks := ([(.ints .u64 4 t)], [])
def word_Small.res : (Int × Bool) → AV × Blks
 | u => (Prod.mk (.tup [(.int .u64 u.1), (.bool u.2)]) [])
def word_Small.resK {R : Type} (u : (Int × Bool)) (K : AV → Blks → Option R) : Option R := (fun p : AV × Blks => K p.1 p.2) (Prod.mk (.tup [(.int .u64 u.1), (.bool u.2)]) [])
def word_Small.c (n : Nat) : Abs.Callee := .mk' [] [none] word_Small.pat (word_Small.m n) word_Small.resK
end
end
section
noncomputable section
noncomputable def word_far.C (n : Nat) : Ctx := ⟨Try.prog, (fun _ => .any), fun f => match f with
 | 54 => some (word_Small.c n)
 | _ => none⟩
def word_far.live : Nat → List Nat × List Nat := fun k => match k with
 | _ => ([], [])
def word_far.jlive : Nat → List Nat × List Nat := fun k => match k with
 | _ => ([], [])
noncomputable def word_far.A (n : Nat) : Ann := ⟨Try.f85.ntmps, 0, word_far.live, [], [none], fun k => match k with
 | _ => none, word_far.jlive, lookJ []⟩
def word_far.g {α : Type} (mk0 : Int → α) (n : Nat) (a0 : (List Int)) : Option α :=
 bindO (word_Small.m n a0) fun r2 =>
  if (!(Prod.snd r2)) = true then
   some (mk0 256)
  else
   some (mk0 (if 256 < (Prod.fst r2) then 256 else (Prod.fst r2)))
def word_far.m (n : Nat) (t : (List Int)) : Option Int := word_far.g (fun a0 => a0) n t
def word_far.pat : List AV → Blks → Option (List Int)
 | [(.ints .u64 4 a0)], [] => some a0
 | _, _ => none
def word_far.shape (t : (List Int)) : List AV × Blks := ([(.ints .u64 4 t)], [])
def word_far.res : Int → AV × Blks
 | u => (Prod.mk (.int .u64 u) [])
def word_far.resK {R : Type} (u : Int) (K : AV → Blks → Option R) : Option R := (fun p : AV × Blks => K p.1 p.2) (Prod.mk (.int .u64 u) [])
def word_far.c (n : Nat) : Abs.Callee := .mk' [] [none] word_far.pat (word_far.m n) word_far.resK
end
end
section
theorem word_Small.gmap {α β : Type} (h : β → α) (mk0 : Int → Bool → β) (n : Nat) (a0 : (List Int)) : word_Small.g (fun a0 a1 => (h (mk0 a0 a1))) n a0 = (word_Small.g mk0 n a0).map h := by
  unfold word_Small.g
  exact (ite_map rfl rfl)
theorem word_Small.run (n : Nat) (a0 : (List Int)) : runF (word_Small.C n) (word_Small.A n) n Try.f54 [(.ints .u64 4 a0)] [] (fun v o => some (v, o)) = word_Small.g (fun a0 a1 => ((Prod.mk (.tup [(.int .u64 a0), (.bool a1)]) []) : AV × Blks)) n a0 := by kernel_rfl
theorem word_Small.call (hmix : Try.prog.follows .mixedOrders = true) (n : Nat) (t : (List Int)) (u) (h : word_Small.m n t = some u) : FnC Try.prog (fun _ => .any) 54 (word_Small.shape t).1 (word_Small.shape t).2 (word_Small.res u).1 (word_Small.res u).2 := by
  have hg : ∀ f m, (word_Small.C n).Γ f = some m → CalleeS Try.prog (fun _ => .any) f m := by
    intro f m hm
    unfold word_Small.C at hm
    simp only at hm
    first
    | (cases hm; done)
    | (split at hm <;> first
    | (cases hm; done))
  have hb : Try.f54.body = some (Try.f54.body.getD .skip) := by kernel_rfl
  refine runF_calls (C := word_Small.C n) (A := word_Small.A n) (n := n) (fn := Try.f54) hg hmix Try.func54 hb ?_ ?_ (by decide) rfl rfl (by show 1 ≤ Try.f54.ntmps; decide) ?_
  · rw [show loopsIn (Try.f54.body.getD .skip) = [] by kernel_rfl]
    intro b hb
    cases hb
  · intro a ha m hm
    cases (show none = some m from hm)
  · rw [show runF (word_Small.C n) (word_Small.A n) n Try.f54 (word_Small.shape t).1 (word_Small.shape t).2 (fun v o => some (v, o)) = _ from word_Small.run n t]
    have e := word_Small.gmap word_Small.res (fun a0 a1 => (a0, a1)) n t
    unfold word_Small.m at h
    rw [h] at e
    exact e
theorem word_Small.s (hmix : Try.prog.follows .mixedOrders = true) (n : Nat) : CalleeS Try.prog (fun _ => .any) 54 (word_Small.c n) :=
  CalleeS.of (res := word_Small.res) (shape := word_Small.shape) (fun R u K => rfl) (fun args lent t h => by
    unfold word_Small.pat at h
    split at h
    · cases h; rfl
    · cases h) fun t u h => (word_Small.call hmix n t u h).ok Try.func54 (by decide) (by kernel_rfl)
end
section
theorem word_far.gmap {α β : Type} (h : β → α) (mk0 : Int → β) (n : Nat) (a0 : (List Int)) : word_far.g (fun a0 => (h (mk0 a0))) n a0 = (word_far.g mk0 n a0).map h := by
  unfold word_far.g
  exact (bindO_map fun r2 => (ite_map rfl rfl))
theorem word_far.run (n : Nat) (a0 : (List Int)) : runF (word_far.C n) (word_far.A n) n Try.f85 [(.ints .u64 4 a0)] [] (fun v o => some (v, o)) = word_far.g (fun a0 => ((Prod.mk (.int .u64 a0) []) : AV × Blks)) n a0 := by kernel_rfl
theorem word_far.call (hmix : Try.prog.follows .mixedOrders = true) (n : Nat) (t : (List Int)) (u) (h : word_far.m n t = some u) : FnC Try.prog (fun _ => .any) 85 (word_far.shape t).1 (word_far.shape t).2 (word_far.res u).1 (word_far.res u).2 := by
  have hg : ∀ f m, (word_far.C n).Γ f = some m → CalleeS Try.prog (fun _ => .any) f m := by
    intro f m hm
    unfold word_far.C at hm
    simp only at hm
    first
    | (cases hm; done)
    | (split at hm <;> first
    | (cases hm; exact word_Small.s hmix n)
    | (cases hm; done))
  have hb : Try.f85.body = some (Try.f85.body.getD .skip) := by kernel_rfl
  refine runF_calls (C := word_far.C n) (A := word_far.A n) (n := n) (fn := Try.f85) hg hmix Try.func85 hb ?_ ?_ (by decide) rfl rfl (by show 1 ≤ Try.f85.ntmps; decide) ?_
  · rw [show loopsIn (Try.f85.body.getD .skip) = [] by kernel_rfl]
    intro b hb
    cases hb
  · intro a ha m hm
    cases (show none = some m from hm)
  · rw [show runF (word_far.C n) (word_far.A n) n Try.f85 (word_far.shape t).1 (word_far.shape t).2 (fun v o => some (v, o)) = _ from word_far.run n t]
    have e := word_far.gmap word_far.res (fun a0 => a0) n t
    unfold word_far.m at h
    rw [h] at e
    exact e
theorem word_far.s (hmix : Try.prog.follows .mixedOrders = true) (n : Nat) : CalleeS Try.prog (fun _ => .any) 85 (word_far.c n) :=
  CalleeS.of (res := word_far.res) (shape := word_far.shape) (fun R u K => rfl) (fun args lent t h => by
    unfold word_far.pat at h
    split at h
    · cases h; rfl
    · cases h) fun t u h => (word_far.call hmix n t u h).ok Try.func85 (by decide) (by kernel_rfl)
end
section
noncomputable section
noncomputable def word_Shl.C (n : Nat) : Ctx := ⟨Try.prog, (fun _ => .any), fun f => match f with
 | 85 => some (word_far.c n)
 | _ => none⟩
def word_Shl.live : Nat → List Nat × List Nat := fun k => match k with
 | 4 => ([11, 5, 3, 6, 4], [6, 4])
 | _ => ([], [])
def word_Shl.jlive : Nat → List Nat × List Nat := fun k => match k with
 | _ => ([], [])
def word_Shl.l4_0.r {α : Type} (mk0 : (List Int) → (List Int) → α) (n : Nat) (rc : Int → Int → (List Int) → (List Int) → (List Int) → Option α)  (x0 : Int) (x1 : Int) (x2 : (List Int)) (x3 : (List Int)) (x4 : (List Int)) : Option α :=
  if (decide (x0 < 4)) = true then
   if (decide ((IntKind.wrap .i64 (x0 - (IntKind.wrap .i64 (IntKind.wrap .u64 (Int.tdiv x1 64))))) ≥ 0)) = true then
    if 0 ≤ (IntKind.wrap .i64 (x0 - (IntKind.wrap .i64 (IntKind.wrap .u64 (Int.tdiv x1 64))))) then
     if (IntKind.wrap .i64 (x0 - (IntKind.wrap .i64 (IntKind.wrap .u64 (Int.tdiv x1 64))))) < 4 then
      if 0 ≤ (Int.tmod x1 64) then
       if 0 ≤ x0 then
        if x0 < 4 then
         if (decide ((IntKind.wrap .i64 (x0 - (IntKind.wrap .i64 (IntKind.wrap .u64 (Int.tdiv x1 64))))) > 0)) = true then
          if ((Int.tmod x1 64) != 0) = true then
           if 0 ≤ x0 then
            if x0 < 4 then
             if 0 ≤ (IntKind.wrap .i64 ((IntKind.wrap .i64 (x0 - (IntKind.wrap .i64 (IntKind.wrap .u64 (Int.tdiv x1 64))))) - 1)) then
              if (IntKind.wrap .i64 ((IntKind.wrap .i64 (x0 - (IntKind.wrap .i64 (IntKind.wrap .u64 (Int.tdiv x1 64))))) - 1)) < 4 then
               if 0 ≤ (IntKind.wrap .u64 (64 - (Int.tmod x1 64))) then
                if 0 ≤ x0 then
                 if x0 < 4 then
                  rc (IntKind.wrap .i64 (x0 + 1)) x1 x2 (List.set (List.set x3 (Int.toNat x0) (ishl .u64 (List.getD x2 (Int.toNat (IntKind.wrap .i64 (x0 - (IntKind.wrap .i64 (IntKind.wrap .u64 (Int.tdiv x1 64)))))) 0) (Int.tmod x1 64))) (Int.toNat x0) (ibits BinOp.or .u64 (List.getD (List.set x3 (Int.toNat x0) (ishl .u64 (List.getD x2 (Int.toNat (IntKind.wrap .i64 (x0 - (IntKind.wrap .i64 (IntKind.wrap .u64 (Int.tdiv x1 64)))))) 0) (Int.tmod x1 64))) (Int.toNat x0) 0) (ishr .u64 (List.getD x2 (Int.toNat (IntKind.wrap .i64 ((IntKind.wrap .i64 (x0 - (IntKind.wrap .i64 (IntKind.wrap .u64 (Int.tdiv x1 64))))) - 1))) 0) (IntKind.wrap .u64 (64 - (Int.tmod x1 64)))))) x4
                 else
                  none
                else
                 none
               else
                none
              else
               none
             else
              none
            else
             none
           else
            none
          else
           rc (IntKind.wrap .i64 (x0 + 1)) x1 x2 (List.set x3 (Int.toNat x0) (ishl .u64 (List.getD x2 (Int.toNat (IntKind.wrap .i64 (x0 - (IntKind.wrap .i64 (IntKind.wrap .u64 (Int.tdiv x1 64)))))) 0) (Int.tmod x1 64))) x4
         else
          rc (IntKind.wrap .i64 (x0 + 1)) x1 x2 (List.set x3 (Int.toNat x0) (ishl .u64 (List.getD x2 (Int.toNat (IntKind.wrap .i64 (x0 - (IntKind.wrap .i64 (IntKind.wrap .u64 (Int.tdiv x1 64)))))) 0) (Int.tmod x1 64))) x4
        else
         none
       else
        none
      else
       none
     else
      none
    else
     none
   else
    if (decide ((IntKind.wrap .i64 (x0 - (IntKind.wrap .i64 (IntKind.wrap .u64 (Int.tdiv x1 64))))) > 0)) = true then
     if ((Int.tmod x1 64) != 0) = true then
      if 0 ≤ x0 then
       if x0 < 4 then
        if 0 ≤ (IntKind.wrap .i64 ((IntKind.wrap .i64 (x0 - (IntKind.wrap .i64 (IntKind.wrap .u64 (Int.tdiv x1 64))))) - 1)) then
         if (IntKind.wrap .i64 ((IntKind.wrap .i64 (x0 - (IntKind.wrap .i64 (IntKind.wrap .u64 (Int.tdiv x1 64))))) - 1)) < 4 then
          if 0 ≤ (IntKind.wrap .u64 (64 - (Int.tmod x1 64))) then
           if 0 ≤ x0 then
            if x0 < 4 then
             rc (IntKind.wrap .i64 (x0 + 1)) x1 x2 (List.set x3 (Int.toNat x0) (ibits BinOp.or .u64 (List.getD x3 (Int.toNat x0) 0) (ishr .u64 (List.getD x2 (Int.toNat (IntKind.wrap .i64 ((IntKind.wrap .i64 (x0 - (IntKind.wrap .i64 (IntKind.wrap .u64 (Int.tdiv x1 64))))) - 1))) 0) (IntKind.wrap .u64 (64 - (Int.tmod x1 64)))))) x4
            else
             none
           else
            none
          else
           none
         else
          none
        else
         none
       else
        none
      else
       none
     else
      rc (IntKind.wrap .i64 (x0 + 1)) x1 x2 x3 x4
    else
     rc (IntKind.wrap .i64 (x0 + 1)) x1 x2 x3 x4
  else
   some (mk0 x3 x4)
def word_Shl.l4_0.g {α : Type} (mk0 : (List Int) → (List Int) → α) (n : Nat) : Nat → Int → Int → (List Int) → (List Int) → (List Int) → Option α
 | 0, _, _, _, _, _ => none
 | m + 1, x0, x1, x2, x3, x4 => word_Shl.l4_0.r mk0 n (fun y0 y1 y2 y3 y4 => word_Shl.l4_0.g mk0 n m y0 y1 y2 y3 y4)  x0 x1 x2 x3 x4
def word_Shl.l4_0.m (n m : Nat) (t : (Int × (Int × ((List Int) × ((List Int) × (List Int)))))) : Option ((List Int) × (List Int)) := word_Shl.l4_0.g (fun a0 a1 => (a0, a1)) n m t.1 t.2.1 t.2.2.1 t.2.2.2.1 t.2.2.2.2
def word_Shl.l4_0.pat : St → Option (Int × (Int × ((List Int) × ((List Int) × (List Int)))))
 | (St.mk [(.int .i64 x0), (.int .u64 x1), (.ptr 0 []), (.ptr 1 []), (.ptr 2 [])] [(some (.var (.ints .u64 4 x2))), (some (.var (.ints .u64 4 x3))), (some (.var (.ints .u64 4 x4)))]) => some (x0, x1, x2, x3, x4)
 | _ => none
def word_Shl.l4_0.shape (t : (Int × (Int × ((List Int) × ((List Int) × (List Int)))))) : St := (St.mk [(.int .i64 t.1), (.int .u64 t.2.1), (.ptr 0 []), (.ptr 1 []), (.ptr 2 [])] [(some (.var (.ints .u64 4 t.2.2.1))), (some (.var (.ints .u64 4 t.2.2.2.1))), (some (.var (.ints .u64 4 t.2.2.2.2)))])
def word_Shl.l4_0.res : ((List Int) × (List Int)) → Ex × St
 | u => (Prod.mk (.exit 0) (St.mk [(.ptr 0 []), (.ptr 1 [])] [(some (.var (.ints .u64 4 u.1))), (some (.var (.ints .u64 4 u.2)))]))
def word_Shl.l4_0.resK {R : Type} (u : ((List Int) × (List Int))) (K : Ex → St → Option R) : Option R := (fun p : Ex × St => K p.1 p.2) (Prod.mk (.exit 0) (St.mk [(.ptr 0 []), (.ptr 1 [])] [(some (.var (.ints .u64 4 u.1))), (some (.var (.ints .u64 4 u.2)))]))
noncomputable def word_Shl.A (n : Nat) : Ann := ⟨Try.f68.ntmps, 0, word_Shl.live, [], [none], fun k => match k with
 | 4 => some (.mk' word_Shl.l4_0.pat (word_Shl.l4_0.m n n) word_Shl.l4_0.resK)
 | _ => none, word_Shl.jlive, lookJ []⟩
noncomputable def word_Shl.b0 : Code := (loopsIn (Try.f68.body.getD .skip)).getD 0 .skip
def word_Shl.g {α : Type} (mk0 : (List Int) → α) (n : Nat) (a0 : (List Int)) (a1 : (List Int)) : Option α :=
 bindO (word_far.m n a0) fun r2 =>
  bindO (word_Shl.l4_0.m n n (0, r2, a1, [0, 0, 0, 0], [0, 0, 0, 0])) fun r4 =>
   some (mk0 (Prod.fst r4))
def word_Shl.m (n : Nat) (t : ((List Int) × (List Int))) : Option (List Int) := word_Shl.g (fun a0 => a0) n t.1 t.2
def word_Shl.pat : List AV → Blks → Option ((List Int) × (List Int))
 | [(.ints .u64 4 a0), (.ints .u64 4 a1)], [] => some (a0, a1)
 | _, _ => none
def word_Shl.shape (t : ((List Int) × (List Int))) : List AV × Blks := ([(.ints .u64 4 t.1), (.ints .u64 4 t.2)], [])
def word_Shl.res : (List Int) → AV × Blks
 | u => (Prod.mk (.ints .u64 4 u) [])
def word_Shl.resK {R : Type} (u : (List Int)) (K : AV → Blks → Option R) : Option R := (fun p : AV × Blks => K p.1 p.2) (Prod.mk (.ints .u64 4 u) [])
def word_Shl.c (n : Nat) : Abs.Callee := .mk' [] [none, none] word_Shl.pat (word_Shl.m n) word_Shl.resK
end
end
section
theorem word_Shl.l4_0.rmap {α β : Type} (h : β → α) (mk0 : (List Int) → (List Int) → β) (n : Nat) (f : Int → Int → (List Int) → (List Int) → (List Int) → Option β)  (x0 : Int) (x1 : Int) (x2 : (List Int)) (x3 : (List Int)) (x4 : (List Int)) : word_Shl.l4_0.r (fun a0 a1 => (h (mk0 a0 a1))) n (fun y0 y1 y2 y3 y4 => (f y0 y1 y2 y3 y4).map h) x0 x1 x2 x3 x4 = (word_Shl.l4_0.r mk0 n f x0 x1 x2 x3 x4).map h := by
  unfold word_Shl.l4_0.r
  exact (ite_map (ite_map (ite_map (ite_map (ite_map (ite_map (ite_map (ite_map (ite_map (ite_map (ite_map (ite_map (ite_map (ite_map (ite_map (ite_map rfl rfl) rfl) rfl) rfl) rfl) rfl) rfl) rfl) rfl) rfl) rfl) rfl) rfl) rfl) (ite_map (ite_map (ite_map (ite_map (ite_map (ite_map (ite_map (ite_map (ite_map rfl rfl) rfl) rfl) rfl) rfl) rfl) rfl) rfl) rfl)) rfl)
theorem word_Shl.l4_0.gmap {α β : Type} (h : β → α) (mk0 : (List Int) → (List Int) → β) (n : Nat) : ∀ (m : Nat) (x0 : Int) (x1 : Int) (x2 : (List Int)) (x3 : (List Int)) (x4 : (List Int)), word_Shl.l4_0.g (fun a0 a1 => (h (mk0 a0 a1))) n m x0 x1 x2 x3 x4 = (word_Shl.l4_0.g mk0 n m x0 x1 x2 x3 x4).map h
  | 0, _, _, _, _, _ => rfl
  | m + 1, x0, x1, x2, x3, x4 => by
    unfold word_Shl.l4_0.g
    rw [← word_Shl.l4_0.rmap]
    congr
    · funext y0 y1 y2 y3 y4; exact word_Shl.l4_0.gmap h mk0 n m y0 y1 y2 y3 y4
theorem word_Shl.l4_0.pat_shape : ∀ st t, word_Shl.l4_0.pat st = some t → st = word_Shl.l4_0.shape t := by
  intro st t h
  unfold word_Shl.l4_0.pat at h
  split at h
  · cases h; rfl
  · cases h
theorem word_Shl.l4_0.round (n : Nat) (rc : St → Option (Ex × St)) (x0 : Int) (x1 : Int) (x2 : (List Int)) (x3 : (List Int)) (x4 : (List Int)) : roundOf (word_Shl.C n) (word_Shl.A n) n word_Shl.b0 rc ((St.mk [(.int .i64 x0), (.int .u64 x1), (.ptr 0 []), (.ptr 1 []), (.ptr 2 [])] [(some (.var (.ints .u64 4 x2))), (some (.var (.ints .u64 4 x3))), (some (.var (.ints .u64 4 x4)))])) = word_Shl.l4_0.r (fun a0 a1 => ((Prod.mk (.exit 0) (St.mk [(.ptr 0 []), (.ptr 1 [])] [(some (.var (.ints .u64 4 a0))), (some (.var (.ints .u64 4 a1)))])) : Ex × St)) n (fun y0 y1 y2 y3 y4 => rc ((St.mk [(.int .i64 y0), (.int .u64 y1), (.ptr 0 []), (.ptr 1 []), (.ptr 2 [])] [(some (.var (.ints .u64 4 y2))), (some (.var (.ints .u64 4 y3))), (some (.var (.ints .u64 4 y4)))]))) x0 x1 x2 x3 x4 := by kernel_rfl
theorem word_Shl.l4_0.loop' (n : Nat) : ∀ (m : Nat) (t : (Int × (Int × ((List Int) × ((List Int) × (List Int)))))), loopOf (roundOf (word_Shl.C n) (word_Shl.A n) n word_Shl.b0) m (word_Shl.l4_0.shape t) = word_Shl.l4_0.g (fun a0 a1 => ((Prod.mk (.exit 0) (St.mk [(.ptr 0 []), (.ptr 1 [])] [(some (.var (.ints .u64 4 a0))), (some (.var (.ints .u64 4 a1)))])) : Ex × St)) n m t.1 t.2.1 t.2.2.1 t.2.2.2.1 t.2.2.2.2 :=
  loop_of_round (shape := word_Shl.l4_0.shape) (body := roundOf (word_Shl.C n) (word_Shl.A n) n word_Shl.b0) (g := fun m t => word_Shl.l4_0.g (fun a0 a1 => ((Prod.mk (.exit 0) (St.mk [(.ptr 0 []), (.ptr 1 [])] [(some (.var (.ints .u64 4 a0))), (some (.var (.ints .u64 4 a1)))])) : Ex × St)) n m t.1 t.2.1 t.2.2.1 t.2.2.2.1 t.2.2.2.2) (fun t => rfl)
    fun m t ih => (word_Shl.l4_0.round n (loopOf (roundOf (word_Shl.C n) (word_Shl.A n) n word_Shl.b0) m) t.1 t.2.1 t.2.2.1 t.2.2.2.1 t.2.2.2.2).trans (congrFun (congrFun (congrFun (congrFun (congrFun (congrArg (word_Shl.l4_0.r (fun a0 a1 => ((Prod.mk (.exit 0) (St.mk [(.ptr 0 []), (.ptr 1 [])] [(some (.var (.ints .u64 4 a0))), (some (.var (.ints .u64 4 a1)))])) : Ex × St)) n) (funext fun y0 => funext fun y1 => funext fun y2 => funext fun y3 => funext fun y4 => ih (y0, y1, y2, y3, y4))) t.1) t.2.1) t.2.2.1) t.2.2.2.1) t.2.2.2.2)
theorem word_Shl.l4_0.loop (n m : Nat) (t : (Int × (Int × ((List Int) × ((List Int) × (List Int)))))) : loopOf (roundOf (word_Shl.C n) (word_Shl.A n) n word_Shl.b0) m (word_Shl.l4_0.shape t) = (word_Shl.l4_0.m n m t).map word_Shl.l4_0.res :=
  (word_Shl.l4_0.loop' n m t).trans (word_Shl.l4_0.gmap word_Shl.l4_0.res (fun a0 a1 => (a0, a1)) n m t.1 t.2.1 t.2.2.1 t.2.2.2.1 t.2.2.2.2)
theorem word_Shl.gmap {α β : Type} (h : β → α) (mk0 : (List Int) → β) (n : Nat) (a0 : (List Int)) (a1 : (List Int)) : word_Shl.g (fun a0 => (h (mk0 a0))) n a0 a1 = (word_Shl.g mk0 n a0 a1).map h := by
  unfold word_Shl.g
  exact (bindO_map fun r2 => (bindO_map fun r4 => rfl))
theorem word_Shl.run (n : Nat) (a0 : (List Int)) (a1 : (List Int)) : runF (word_Shl.C n) (word_Shl.A n) n Try.f68 [(.ints .u64 4 a0), (.ints .u64 4 a1)] [] (fun v o => some (v, o)) = word_Shl.g (fun a0 => ((Prod.mk (.ints .u64 4 a0) []) : AV × Blks)) n a0 a1 := by kernel_rfl
theorem word_Shl.call (hmix : Try.prog.follows .mixedOrders = true) (n : Nat) (t : ((List Int) × (List Int))) (u) (h : word_Shl.m n t = some u) : FnC Try.prog (fun _ => .any) 68 (word_Shl.shape t).1 (word_Shl.shape t).2 (word_Shl.res u).1 (word_Shl.res u).2 := by
  have hg : ∀ f m, (word_Shl.C n).Γ f = some m → CalleeS Try.prog (fun _ => .any) f m := by
    intro f m hm
    unfold word_Shl.C at hm
    simp only at hm
    first
    | (cases hm; done)
    | (split at hm <;> first
    | (cases hm; exact word_far.s hmix n)
    | (cases hm; done))
  have hb : Try.f68.body = some (Try.f68.body.getD .skip) := by kernel_rfl
  refine runF_calls (C := word_Shl.C n) (A := word_Shl.A n) (n := n) (fn := Try.f68) hg hmix Try.func68 hb ?_ ?_ (by decide) rfl rfl (by show 2 ≤ Try.f68.ntmps; decide) ?_
  · rw [show loopsIn (Try.f68.body.getD .skip) = [word_Shl.b0] by kernel_rfl]
    intro b hb m hm
    simp only [List.mem_cons, List.not_mem_nil, or_false] at hb
    rcases hb with rfl
    · have e : (word_Shl.A n).loop (key word_Shl.b0) = some (.mk' word_Shl.l4_0.pat (word_Shl.l4_0.m n n) word_Shl.l4_0.resK) := by rw [show key word_Shl.b0 = 4 by kernel_rfl]; rfl
      rw [e] at hm
      cases hm
      exact LoopS.of (res := word_Shl.l4_0.res) (fun R u K => rfl) word_Shl.l4_0.pat_shape fun t => word_Shl.l4_0.loop n n t
  · intro a ha m hm
    cases (show none = some m from hm)
  · rw [show runF (word_Shl.C n) (word_Shl.A n) n Try.f68 (word_Shl.shape t).1 (word_Shl.shape t).2 (fun v o => some (v, o)) = _ from word_Shl.run n t.1 t.2]
    have e := word_Shl.gmap word_Shl.res (fun a0 => a0) n t.1 t.2
    unfold word_Shl.m at h
    rw [h] at e
    exact e
theorem word_Shl.s (hmix : Try.prog.follows .mixedOrders = true) (n : Nat) : CalleeS Try.prog (fun _ => .any) 68 (word_Shl.c n) :=
  CalleeS.of (res := word_Shl.res) (shape := word_Shl.shape) (fun R u K => rfl) (fun args lent t h => by
    unfold word_Shl.pat at h
    split at h
    · cases h; rfl
    · cases h) fun t u h => (word_Shl.call hmix n t u h).ok Try.func68 (by decide) (by kernel_rfl)
end
section
noncomputable section
noncomputable def word_rightS1.C (n : Nat) : Ctx := ⟨Try.prog, (fun _ => .any), fun f => match f with
 | _ => none⟩
def word_rightS1.live : Nat → List Nat × List Nat := fun k => match k with
 | _ => ([], [])
def word_rightS1.jlive : Nat → List Nat × List Nat := fun k => match k with
 | _ => ([], [])
noncomputable def word_rightS1.A (n : Nat) : Ann := ⟨Try.f110.ntmps, 0, word_rightS1.live, [], [none], fun k => match k with
 | _ => none, word_rightS1.jlive, lookJ []⟩
def word_rightS1.g {α : Type} (mk0 : Int → α) (n : Nat) (i : Int) (f : Int) (a : (List Int)) : Option α :=
 if (decide (i > 3)) = true then
  some (mk0 f)
 else
  if 0 ≤ i then
   if i < 4 then
    some (mk0 (List.getD a (Int.toNat i) 0))
   else
    none
  else
   none
def word_rightS1.m (n : Nat) (t : (Int × (Int × (List Int)))) : Option Int := word_rightS1.g (fun a0 => a0) n t.1 t.2.1 t.2.2
def word_rightS1.pat : List AV → Blks → Option (Int × (Int × (List Int)))
 | [(.int .i64 i), (.rptr (.int .u64 f)), (.rptr (.ints .u64 4 a))], [] => some (i, f, a)
 | _, _ => none
def word_rightS1.shape (t : (Int × (Int × (List Int)))) : List AV × Blks := ([(.int .i64 t.1), (.rptr (.int .u64 t.2.1)), (.rptr (.ints .u64 4 t.2.2))], [])
def word_rightS1.res : Int → AV × Blks
 | u => (Prod.mk (.int .u64 u) [])
def word_rightS1.resK {R : Type} (u : Int) (K : AV → Blks → Option R) : Option R := (fun p : AV × Blks => K p.1 p.2) (Prod.mk (.int .u64 u) [])
def word_rightS1.c (n : Nat) : Abs.Callee := .mk' [] [none] word_rightS1.pat (word_rightS1.m n) word_rightS1.resK
end
end
section
noncomputable section
noncomputable def word_right.C (n : Nat) : Ctx := ⟨Try.prog, (fun _ => .any), fun f => match f with
 | 110 => some (word_rightS1.c n)
 | _ => none⟩
def word_right.live : Nat → List Nat × List Nat := fun k => match k with
 | 4 => ([12, 0, 7, 8, 6], [8, 6])
 | _ => ([], [])
def word_right.jlive : Nat → List Nat × List Nat := fun k => match k with
 | _ => ([], [])
def word_right.l4_0.r {α : Type} (mk0 : (List Int) → (List Int) → α) (n : Nat) (rc : Int → Int → Int → (List Int) → (List Int) → (List Int) → Option α)  (x0 : Int) (x1 : Int) (x2 : Int) (x3 : (List Int)) (x4 : (List Int)) (x5 : (List Int)) : Option α :=
  if (decide (x0 < 4)) = true then
   bindO (word_rightS1.m n (Prod.mk (IntKind.wrap .i64 (x0 + (IntKind.wrap .i64 (IntKind.wrap .u64 (Int.tdiv x1 64))))) (Prod.mk x2 x3))) fun r6 =>
    if 0 ≤ (Int.tmod x1 64) then
     if 0 ≤ x0 then
      if x0 < 4 then
       if ((Int.tmod x1 64) != 0) = true then
        if 0 ≤ x0 then
         if x0 < 4 then
          bindO (word_rightS1.m n (Prod.mk (IntKind.wrap .i64 ((IntKind.wrap .i64 (x0 + (IntKind.wrap .i64 (IntKind.wrap .u64 (Int.tdiv x1 64))))) + 1)) (Prod.mk x2 x3))) fun r20 =>
           if 0 ≤ (IntKind.wrap .u64 (64 - (Int.tmod x1 64))) then
            if 0 ≤ x0 then
             if x0 < 4 then
              rc (IntKind.wrap .i64 (x0 + 1)) x1 x2 x3 (List.set (List.set x4 (Int.toNat x0) (ishr .u64 r6 (Int.tmod x1 64))) (Int.toNat x0) (ibits BinOp.or .u64 (List.getD (List.set x4 (Int.toNat x0) (ishr .u64 r6 (Int.tmod x1 64))) (Int.toNat x0) 0) (ishl .u64 r20 (IntKind.wrap .u64 (64 - (Int.tmod x1 64)))))) x5
             else
              none
            else
             none
           else
            none
         else
          none
        else
         none
       else
        rc (IntKind.wrap .i64 (x0 + 1)) x1 x2 x3 (List.set x4 (Int.toNat x0) (ishr .u64 r6 (Int.tmod x1 64))) x5
      else
       none
     else
      none
    else
     none
  else
   some (mk0 x4 x5)
def word_right.l4_0.g {α : Type} (mk0 : (List Int) → (List Int) → α) (n : Nat) : Nat → Int → Int → Int → (List Int) → (List Int) → (List Int) → Option α
 | 0, _, _, _, _, _, _ => none
 | m + 1, x0, x1, x2, x3, x4, x5 => word_right.l4_0.r mk0 n (fun y0 y1 y2 y3 y4 y5 => word_right.l4_0.g mk0 n m y0 y1 y2 y3 y4 y5)  x0 x1 x2 x3 x4 x5
def word_right.l4_0.m (n m : Nat) (t : (Int × (Int × (Int × ((List Int) × ((List Int) × (List Int))))))) : Option ((List Int) × (List Int)) := word_right.l4_0.g (fun a0 a1 => (a0, a1)) n m t.1 t.2.1 t.2.2.1 t.2.2.2.1 t.2.2.2.2.1 t.2.2.2.2.2
def word_right.l4_0.pat : St → Option (Int × (Int × (Int × ((List Int) × ((List Int) × (List Int))))))
 | (St.mk [(.int .i64 x0), (.int .u64 x1), (.fn (.func 110) [] [(.ptr 0 []), (.ptr 1 [])]), (.ptr 2 []), (.ptr 3 [])] [(some (.var (.int .u64 x2))), (some (.var (.ints .u64 4 x3))), (some (.var (.ints .u64 4 x4))), (some (.var (.ints .u64 4 x5)))]) => some (x0, x1, x2, x3, x4, x5)
 | _ => none
def word_right.l4_0.shape (t : (Int × (Int × (Int × ((List Int) × ((List Int) × (List Int))))))) : St := (St.mk [(.int .i64 t.1), (.int .u64 t.2.1), (.fn (.func 110) [] [(.ptr 0 []), (.ptr 1 [])]), (.ptr 2 []), (.ptr 3 [])] [(some (.var (.int .u64 t.2.2.1))), (some (.var (.ints .u64 4 t.2.2.2.1))), (some (.var (.ints .u64 4 t.2.2.2.2.1))), (some (.var (.ints .u64 4 t.2.2.2.2.2)))])
def word_right.l4_0.res : ((List Int) × (List Int)) → Ex × St
 | u => (Prod.mk (.exit 0) (St.mk [(.ptr 0 []), (.ptr 1 [])] [(some (.var (.ints .u64 4 u.1))), (some (.var (.ints .u64 4 u.2)))]))
def word_right.l4_0.resK {R : Type} (u : ((List Int) × (List Int))) (K : Ex → St → Option R) : Option R := (fun p : Ex × St => K p.1 p.2) (Prod.mk (.exit 0) (St.mk [(.ptr 0 []), (.ptr 1 [])] [(some (.var (.ints .u64 4 u.1))), (some (.var (.ints .u64 4 u.2)))]))
noncomputable def word_right.A (n : Nat) : Ann := ⟨Try.f86.ntmps, 0, word_right.live, [], [none], fun k => match k with
 | 4 => some (.mk' word_right.l4_0.pat (word_right.l4_0.m n n) word_right.l4_0.resK)
 | _ => none, word_right.jlive, lookJ []⟩
noncomputable def word_right.b0 : Code := (loopsIn (Try.f86.body.getD .skip)).getD 0 .skip
def word_right.g {α : Type} (mk0 : (List Int) → α) (n : Nat) (a0 : Int) (a1 : (List Int)) (a2 : Int) : Option α :=
 bindO (word_right.l4_0.m n n (0, a0, a2, a1, [0, 0, 0, 0], [0, 0, 0, 0])) fun r2 =>
  some (mk0 (Prod.fst r2))
def word_right.m (n : Nat) (t : (Int × ((List Int) × Int))) : Option (List Int) := word_right.g (fun a0 => a0) n t.1 t.2.1 t.2.2
def word_right.pat : List AV → Blks → Option (Int × ((List Int) × Int))
 | [(.int .u64 a0), (.ints .u64 4 a1), (.int .u64 a2)], [] => some (a0, a1, a2)
 | _, _ => none
def word_right.shape (t : (Int × ((List Int) × Int))) : List AV × Blks := ([(.int .u64 t.1), (.ints .u64 4 t.2.1), (.int .u64 t.2.2)], [])
def word_right.res : (List Int) → AV × Blks
 | u => (Prod.mk (.ints .u64 4 u) [])
def word_right.resK {R : Type} (u : (List Int)) (K : AV → Blks → Option R) : Option R := (fun p : AV × Blks => K p.1 p.2) (Prod.mk (.ints .u64 4 u) [])
def word_right.c (n : Nat) : Abs.Callee := .mk' [] [none, none, none] word_right.pat (word_right.m n) word_right.resK
end
end
section
noncomputable section
noncomputable def word_Shr.C (n : Nat) : Ctx := ⟨Try.prog, (fun _ => .any), fun f => match f with
 | 85 => some (word_far.c n)
 | 86 => some (word_right.c n)
 | _ => none⟩
def word_Shr.live : Nat → List Nat × List Nat := fun k => match k with
 | _ => ([], [])
def word_Shr.jlive : Nat → List Nat × List Nat := fun k => match k with
 | _ => ([], [])
noncomputable def word_Shr.A (n : Nat) : Ann := ⟨Try.f69.ntmps, 0, word_Shr.live, [], [none], fun k => match k with
 | _ => none, word_Shr.jlive, lookJ []⟩
def word_Shr.g {α : Type} (mk0 : (List Int) → α) (n : Nat) (a0 : (List Int)) (a1 : (List Int)) : Option α :=
 bindO (word_far.m n a0) fun r2 =>
  bindO (word_right.m n (Prod.mk r2 (Prod.mk a1 0))) fun r4 =>
   some (mk0 r4)
def word_Shr.m (n : Nat) (t : ((List Int) × (List Int))) : Option (List Int) := word_Shr.g (fun a0 => a0) n t.1 t.2
def word_Shr.pat : List AV → Blks → Option ((List Int) × (List Int))
 | [(.ints .u64 4 a0), (.ints .u64 4 a1)], [] => some (a0, a1)
 | _, _ => none
def word_Shr.shape (t : ((List Int) × (List Int))) : List AV × Blks := ([(.ints .u64 4 t.1), (.ints .u64 4 t.2)], [])
def word_Shr.res : (List Int) → AV × Blks
 | u => (Prod.mk (.ints .u64 4 u) [])
def word_Shr.resK {R : Type} (u : (List Int)) (K : AV → Blks → Option R) : Option R := (fun p : AV × Blks => K p.1 p.2) (Prod.mk (.ints .u64 4 u) [])
def word_Shr.c (n : Nat) : Abs.Callee := .mk' [] [none, none] word_Shr.pat (word_Shr.m n) word_Shr.resK
end
end
section
theorem word_rightS1.gmap {α β : Type} (h : β → α) (mk0 : Int → β) (n : Nat) (i : Int) (f : Int) (a : (List Int)) : word_rightS1.g (fun a0 => (h (mk0 a0))) n i f a = (word_rightS1.g mk0 n i f a).map h := by
  unfold word_rightS1.g
  exact (ite_map rfl (ite_map (ite_map rfl rfl) rfl))
theorem word_rightS1.run (n : Nat) (i : Int) (f : Int) (a : (List Int)) : runF (word_rightS1.C n) (word_rightS1.A n) n Try.f110 [(.int .i64 i), (.rptr (.int .u64 f)), (.rptr (.ints .u64 4 a))] [] (fun v o => some (v, o)) = word_rightS1.g (fun a0 => ((Prod.mk (.int .u64 a0) []) : AV × Blks)) n i f a := by kernel_rfl
theorem word_rightS1.call (hmix : Try.prog.follows .mixedOrders = true) (n : Nat) (t : (Int × (Int × (List Int)))) (u) (h : word_rightS1.m n t = some u) : FnC Try.prog (fun _ => .any) 110 (word_rightS1.shape t).1 (word_rightS1.shape t).2 (word_rightS1.res u).1 (word_rightS1.res u).2 := by
  have hg : ∀ f m, (word_rightS1.C n).Γ f = some m → CalleeS Try.prog (fun _ => .any) f m := by
    intro f m hm
    unfold word_rightS1.C at hm
    simp only at hm
    first
    | (cases hm; done)
    | (split at hm <;> first
    | (cases hm; done))
  have hb : Try.f110.body = some (Try.f110.body.getD .skip) := by kernel_rfl
  refine runF_calls (C := word_rightS1.C n) (A := word_rightS1.A n) (n := n) (fn := Try.f110) hg hmix Try.func110 hb ?_ ?_ (by decide) rfl rfl (by show 3 ≤ Try.f110.ntmps; decide) ?_
  · rw [show loopsIn (Try.f110.body.getD .skip) = [] by kernel_rfl]
    intro b hb
    cases hb
  · intro a ha m hm
    cases (show none = some m from hm)
  · rw [show runF (word_rightS1.C n) (word_rightS1.A n) n Try.f110 (word_rightS1.shape t).1 (word_rightS1.shape t).2 (fun v o => some (v, o)) = _ from word_rightS1.run n t.1 t.2.1 t.2.2]
    have e := word_rightS1.gmap word_rightS1.res (fun a0 => a0) n t.1 t.2.1 t.2.2
    unfold word_rightS1.m at h
    rw [h] at e
    exact e
theorem word_rightS1.s (hmix : Try.prog.follows .mixedOrders = true) (n : Nat) : CalleeS Try.prog (fun _ => .any) 110 (word_rightS1.c n) :=
  CalleeS.of (res := word_rightS1.res) (shape := word_rightS1.shape) (fun R u K => rfl) (fun args lent t h => by
    unfold word_rightS1.pat at h
    split at h
    · cases h; rfl
    · cases h) fun t u h => (word_rightS1.call hmix n t u h).ok Try.func110 (by decide) (by kernel_rfl)
end
section
theorem word_right.l4_0.rmap {α β : Type} (h : β → α) (mk0 : (List Int) → (List Int) → β) (n : Nat) (f : Int → Int → Int → (List Int) → (List Int) → (List Int) → Option β)  (x0 : Int) (x1 : Int) (x2 : Int) (x3 : (List Int)) (x4 : (List Int)) (x5 : (List Int)) : word_right.l4_0.r (fun a0 a1 => (h (mk0 a0 a1))) n (fun y0 y1 y2 y3 y4 y5 => (f y0 y1 y2 y3 y4 y5).map h) x0 x1 x2 x3 x4 x5 = (word_right.l4_0.r mk0 n f x0 x1 x2 x3 x4 x5).map h := by
  unfold word_right.l4_0.r
  exact (ite_map (bindO_map fun r6 => (ite_map (ite_map (ite_map (ite_map (ite_map (ite_map (bindO_map fun r20 => (ite_map (ite_map (ite_map rfl rfl) rfl) rfl)) rfl) rfl) rfl) rfl) rfl) rfl)) rfl)
theorem word_right.l4_0.gmap {α β : Type} (h : β → α) (mk0 : (List Int) → (List Int) → β) (n : Nat) : ∀ (m : Nat) (x0 : Int) (x1 : Int) (x2 : Int) (x3 : (List Int)) (x4 : (List Int)) (x5 : (List Int)), word_right.l4_0.g (fun a0 a1 => (h (mk0 a0 a1))) n m x0 x1 x2 x3 x4 x5 = (word_right.l4_0.g mk0 n m x0 x1 x2 x3 x4 x5).map h
  | 0, _, _, _, _, _, _ => rfl
  | m + 1, x0, x1, x2, x3, x4, x5 => by
    unfold word_right.l4_0.g
    rw [← word_right.l4_0.rmap]
    congr
    · funext y0 y1 y2 y3 y4 y5; exact word_right.l4_0.gmap h mk0 n m y0 y1 y2 y3 y4 y5
theorem word_right.l4_0.pat_shape : ∀ st t, word_right.l4_0.pat st = some t → st = word_right.l4_0.shape t := by
  intro st t h
  unfold word_right.l4_0.pat at h
  split at h
  · cases h; rfl
  · cases h
theorem word_right.l4_0.round (n : Nat) (rc : St → Option (Ex × St)) (x0 : Int) (x1 : Int) (x2 : Int) (x3 : (List Int)) (x4 : (List Int)) (x5 : (List Int)) : roundOf (word_right.C n) (word_right.A n) n word_right.b0 rc ((St.mk [(.int .i64 x0), (.int .u64 x1), (.fn (.func 110) [] [(.ptr 0 []), (.ptr 1 [])]), (.ptr 2 []), (.ptr 3 [])] [(some (.var (.int .u64 x2))), (some (.var (.ints .u64 4 x3))), (some (.var (.ints .u64 4 x4))), (some (.var (.ints .u64 4 x5)))])) = word_right.l4_0.r (fun a0 a1 => ((Prod.mk (.exit 0) (St.mk [(.ptr 0 []), (.ptr 1 [])] [(some (.var (.ints .u64 4 a0))), (some (.var (.ints .u64 4 a1)))])) : Ex × St)) n (fun y0 y1 y2 y3 y4 y5 => rc ((St.mk [(.int .i64 y0), (.int .u64 y1), (.fn (.func 110) [] [(.ptr 0 []), (.ptr 1 [])]), (.ptr 2 []), (.ptr 3 [])] [(some (.var (.int .u64 y2))), (some (.var (.ints .u64 4 y3))), (some (.var (.ints .u64 4 y4))), (some (.var (.ints .u64 4 y5)))]))) x0 x1 x2 x3 x4 x5 := by kernel_rfl
theorem word_right.l4_0.loop' (n : Nat) : ∀ (m : Nat) (t : (Int × (Int × (Int × ((List Int) × ((List Int) × (List Int))))))), loopOf (roundOf (word_right.C n) (word_right.A n) n word_right.b0) m (word_right.l4_0.shape t) = word_right.l4_0.g (fun a0 a1 => ((Prod.mk (.exit 0) (St.mk [(.ptr 0 []), (.ptr 1 [])] [(some (.var (.ints .u64 4 a0))), (some (.var (.ints .u64 4 a1)))])) : Ex × St)) n m t.1 t.2.1 t.2.2.1 t.2.2.2.1 t.2.2.2.2.1 t.2.2.2.2.2 :=
  loop_of_round (shape := word_right.l4_0.shape) (body := roundOf (word_right.C n) (word_right.A n) n word_right.b0) (g := fun m t => word_right.l4_0.g (fun a0 a1 => ((Prod.mk (.exit 0) (St.mk [(.ptr 0 []), (.ptr 1 [])] [(some (.var (.ints .u64 4 a0))), (some (.var (.ints .u64 4 a1)))])) : Ex × St)) n m t.1 t.2.1 t.2.2.1 t.2.2.2.1 t.2.2.2.2.1 t.2.2.2.2.2) (fun t => rfl)
    fun m t ih => (word_right.l4_0.round n (loopOf (roundOf (word_right.C n) (word_right.A n) n word_right.b0) m) t.1 t.2.1 t.2.2.1 t.2.2.2.1 t.2.2.2.2.1 t.2.2.2.2.2).trans (congrFun (congrFun (congrFun (congrFun (congrFun (congrFun (congrArg (word_right.l4_0.r (fun a0 a1 => ((Prod.mk (.exit 0) (St.mk [(.ptr 0 []), (.ptr 1 [])] [(some (.var (.ints .u64 4 a0))), (some (.var (.ints .u64 4 a1)))])) : Ex × St)) n) (funext fun y0 => funext fun y1 => funext fun y2 => funext fun y3 => funext fun y4 => funext fun y5 => ih (y0, y1, y2, y3, y4, y5))) t.1) t.2.1) t.2.2.1) t.2.2.2.1) t.2.2.2.2.1) t.2.2.2.2.2)
theorem word_right.l4_0.loop (n m : Nat) (t : (Int × (Int × (Int × ((List Int) × ((List Int) × (List Int))))))) : loopOf (roundOf (word_right.C n) (word_right.A n) n word_right.b0) m (word_right.l4_0.shape t) = (word_right.l4_0.m n m t).map word_right.l4_0.res :=
  (word_right.l4_0.loop' n m t).trans (word_right.l4_0.gmap word_right.l4_0.res (fun a0 a1 => (a0, a1)) n m t.1 t.2.1 t.2.2.1 t.2.2.2.1 t.2.2.2.2.1 t.2.2.2.2.2)
theorem word_right.gmap {α β : Type} (h : β → α) (mk0 : (List Int) → β) (n : Nat) (a0 : Int) (a1 : (List Int)) (a2 : Int) : word_right.g (fun a0 => (h (mk0 a0))) n a0 a1 a2 = (word_right.g mk0 n a0 a1 a2).map h := by
  unfold word_right.g
  exact (bindO_map fun r2 => rfl)
theorem word_right.run (n : Nat) (a0 : Int) (a1 : (List Int)) (a2 : Int) : runF (word_right.C n) (word_right.A n) n Try.f86 [(.int .u64 a0), (.ints .u64 4 a1), (.int .u64 a2)] [] (fun v o => some (v, o)) = word_right.g (fun a0 => ((Prod.mk (.ints .u64 4 a0) []) : AV × Blks)) n a0 a1 a2 := by kernel_rfl
theorem word_right.call (hmix : Try.prog.follows .mixedOrders = true) (n : Nat) (t : (Int × ((List Int) × Int))) (u) (h : word_right.m n t = some u) : FnC Try.prog (fun _ => .any) 86 (word_right.shape t).1 (word_right.shape t).2 (word_right.res u).1 (word_right.res u).2 := by
  have hg : ∀ f m, (word_right.C n).Γ f = some m → CalleeS Try.prog (fun _ => .any) f m := by
    intro f m hm
    unfold word_right.C at hm
    simp only at hm
    first
    | (cases hm; done)
    | (split at hm <;> first
    | (cases hm; exact word_rightS1.s hmix n)
    | (cases hm; done))
  have hb : Try.f86.body = some (Try.f86.body.getD .skip) := by kernel_rfl
  refine runF_calls (C := word_right.C n) (A := word_right.A n) (n := n) (fn := Try.f86) hg hmix Try.func86 hb ?_ ?_ (by decide) rfl rfl (by show 3 ≤ Try.f86.ntmps; decide) ?_
  · rw [show loopsIn (Try.f86.body.getD .skip) = [word_right.b0] by kernel_rfl]
    intro b hb m hm
    simp only [List.mem_cons, List.not_mem_nil, or_false] at hb
    rcases hb with rfl
    · have e : (word_right.A n).loop (key word_right.b0) = some (.mk' word_right.l4_0.pat (word_right.l4_0.m n n) word_right.l4_0.resK) := by rw [show key word_right.b0 = 4 by kernel_rfl]; rfl
      rw [e] at hm
      cases hm
      exact LoopS.of (res := word_right.l4_0.res) (fun R u K => rfl) word_right.l4_0.pat_shape fun t => word_right.l4_0.loop n n t
  · intro a ha m hm
    cases (show none = some m from hm)
  · rw [show runF (word_right.C n) (word_right.A n) n Try.f86 (word_right.shape t).1 (word_right.shape t).2 (fun v o => some (v, o)) = _ from word_right.run n t.1 t.2.1 t.2.2]
    have e := word_right.gmap word_right.res (fun a0 => a0) n t.1 t.2.1 t.2.2
    unfold word_right.m at h
    rw [h] at e
    exact e
theorem word_right.s (hmix : Try.prog.follows .mixedOrders = true) (n : Nat) : CalleeS Try.prog (fun _ => .any) 86 (word_right.c n) :=
  CalleeS.of (res := word_right.res) (shape := word_right.shape) (fun R u K => rfl) (fun args lent t h => by
    unfold word_right.pat at h
    split at h
    · cases h; rfl
    · cases h) fun t u h => (word_right.call hmix n t u h).ok Try.func86 (by decide) (by kernel_rfl)
end
section
theorem word_Shr.gmap {α β : Type} (h : β → α) (mk0 : (List Int) → β) (n : Nat) (a0 : (List Int)) (a1 : (List Int)) : word_Shr.g (fun a0 => (h (mk0 a0))) n a0 a1 = (word_Shr.g mk0 n a0 a1).map h := by
  unfold word_Shr.g
  exact (bindO_map fun r2 => (bindO_map fun r4 => rfl))
theorem word_Shr.run (n : Nat) (a0 : (List Int)) (a1 : (List Int)) : runF (word_Shr.C n) (word_Shr.A n) n Try.f69 [(.ints .u64 4 a0), (.ints .u64 4 a1)] [] (fun v o => some (v, o)) = word_Shr.g (fun a0 => ((Prod.mk (.ints .u64 4 a0) []) : AV × Blks)) n a0 a1 := by kernel_rfl
theorem word_Shr.call (hmix : Try.prog.follows .mixedOrders = true) (n : Nat) (t : ((List Int) × (List Int))) (u) (h : word_Shr.m n t = some u) : FnC Try.prog (fun _ => .any) 69 (word_Shr.shape t).1 (word_Shr.shape t).2 (word_Shr.res u).1 (word_Shr.res u).2 := by
  have hg : ∀ f m, (word_Shr.C n).Γ f = some m → CalleeS Try.prog (fun _ => .any) f m := by
    intro f m hm
    unfold word_Shr.C at hm
    simp only at hm
    first
    | (cases hm; done)
    | (split at hm <;> first
    | (cases hm; exact word_far.s hmix n)
    | (cases hm; exact word_right.s hmix n)
    | (cases hm; done))
  have hb : Try.f69.body = some (Try.f69.body.getD .skip) := by kernel_rfl
  refine runF_calls (C := word_Shr.C n) (A := word_Shr.A n) (n := n) (fn := Try.f69) hg hmix Try.func69 hb ?_ ?_ (by decide) rfl rfl (by show 2 ≤ Try.f69.ntmps; decide) ?_
  · rw [show loopsIn (Try.f69.body.getD .skip) = [] by kernel_rfl]
    intro b hb
    cases hb
  · intro a ha m hm
    cases (show none = some m from hm)
  · rw [show runF (word_Shr.C n) (word_Shr.A n) n Try.f69 (word_Shr.shape t).1 (word_Shr.shape t).2 (fun v o => some (v, o)) = _ from word_Shr.run n t.1 t.2]
    have e := word_Shr.gmap word_Shr.res (fun a0 => a0) n t.1 t.2
    unfold word_Shr.m at h
    rw [h] at e
    exact e
theorem word_Shr.s (hmix : Try.prog.follows .mixedOrders = true) (n : Nat) : CalleeS Try.prog (fun _ => .any) 69 (word_Shr.c n) :=
  CalleeS.of (res := word_Shr.res) (shape := word_Shr.shape) (fun R u K => rfl) (fun args lent t h => by
    unfold word_Shr.pat at h
    split at h
    · cases h; rfl
    · cases h) fun t u h => (word_Shr.call hmix n t u h).ok Try.func69 (by decide) (by kernel_rfl)
end
section
noncomputable section
noncomputable def word_Sar.C (n : Nat) : Ctx := ⟨Try.prog, (fun _ => .any), fun f => match f with
 | 87 => some (word_negative.c n)
 | 85 => some (word_far.c n)
 | 86 => some (word_right.c n)
 | _ => none⟩
def word_Sar.live : Nat → List Nat × List Nat := fun k => match k with
 | _ => ([], [])
def word_Sar.jlive : Nat → List Nat × List Nat := fun k => match k with
 | _ => ([], [])
noncomputable def word_Sar.A (n : Nat) : Ann := ⟨Try.f70.ntmps, 0, word_Sar.live, [], [none], fun k => match k with
 | _ => none, word_Sar.jlive, lookJ []⟩
def word_Sar.g {α : Type} (mk0 : (List Int) → α) (n : Nat) (a0 : (List Int)) (a1 : (List Int)) : Option α :=
 bindO (word_negative.m n a1) fun r2 =>
  if r2 = true then
   bindO (word_far.m n a0) fun r6 =>
    bindO (word_right.m n (Prod.mk r6 (Prod.mk a1 18446744073709551615))) fun r8 =>
     some (mk0 r8)
  else
   bindO (word_far.m n a0) fun r6 =>
    bindO (word_right.m n (Prod.mk r6 (Prod.mk a1 0))) fun r8 =>
     some (mk0 r8)
def word_Sar.m (n : Nat) (t : ((List Int) × (List Int))) : Option (List Int) := word_Sar.g (fun a0 => a0) n t.1 t.2
def word_Sar.pat : List AV → Blks → Option ((List Int) × (List Int))
 | [(.ints .u64 4 a0), (.ints .u64 4 a1)], [] => some (a0, a1)
 | _, _ => none
def word_Sar.shape (t : ((List Int) × (List Int))) : List AV × Blks := ([(.ints .u64 4 t.1), (.ints .u64 4 t.2)], [])
def word_Sar.res : (List Int) → AV × Blks
 | u => (Prod.mk (.ints .u64 4 u) [])
def word_Sar.resK {R : Type} (u : (List Int)) (K : AV → Blks → Option R) : Option R := (fun p : AV × Blks => K p.1 p.2) (Prod.mk (.ints .u64 4 u) [])
def word_Sar.c (n : Nat) : Abs.Callee := .mk' [] [none, none] word_Sar.pat (word_Sar.m n) word_Sar.resK
end
end
section
theorem word_Sar.gmap {α β : Type} (h : β → α) (mk0 : (List Int) → β) (n : Nat) (a0 : (List Int)) (a1 : (List Int)) : word_Sar.g (fun a0 => (h (mk0 a0))) n a0 a1 = (word_Sar.g mk0 n a0 a1).map h := by
  unfold word_Sar.g
  exact (bindO_map fun r2 => (ite_map (bindO_map fun r6 => (bindO_map fun r8 => rfl)) (bindO_map fun r6 => (bindO_map fun r8 => rfl))))
theorem word_Sar.run (n : Nat) (a0 : (List Int)) (a1 : (List Int)) : runF (word_Sar.C n) (word_Sar.A n) n Try.f70 [(.ints .u64 4 a0), (.ints .u64 4 a1)] [] (fun v o => some (v, o)) = word_Sar.g (fun a0 => ((Prod.mk (.ints .u64 4 a0) []) : AV × Blks)) n a0 a1 := by kernel_rfl
theorem word_Sar.call (hmix : Try.prog.follows .mixedOrders = true) (n : Nat) (t : ((List Int) × (List Int))) (u) (h : word_Sar.m n t = some u) : FnC Try.prog (fun _ => .any) 70 (word_Sar.shape t).1 (word_Sar.shape t).2 (word_Sar.res u).1 (word_Sar.res u).2 := by
  have hg : ∀ f m, (word_Sar.C n).Γ f = some m → CalleeS Try.prog (fun _ => .any) f m := by
    intro f m hm
    unfold word_Sar.C at hm
    simp only at hm
    first
    | (cases hm; done)
    | (split at hm <;> first
    | (cases hm; exact word_negative.s hmix n)
    | (cases hm; exact word_far.s hmix n)
    | (cases hm; exact word_right.s hmix n)
    | (cases hm; done))
  have hb : Try.f70.body = some (Try.f70.body.getD .skip) := by kernel_rfl
  refine runF_calls (C := word_Sar.C n) (A := word_Sar.A n) (n := n) (fn := Try.f70) hg hmix Try.func70 hb ?_ ?_ (by decide) rfl rfl (by show 2 ≤ Try.f70.ntmps; decide) ?_
  · rw [show loopsIn (Try.f70.body.getD .skip) = [] by kernel_rfl]
    intro b hb
    cases hb
  · intro a ha m hm
    cases (show none = some m from hm)
  · rw [show runF (word_Sar.C n) (word_Sar.A n) n Try.f70 (word_Sar.shape t).1 (word_Sar.shape t).2 (fun v o => some (v, o)) = _ from word_Sar.run n t.1 t.2]
    have e := word_Sar.gmap word_Sar.res (fun a0 => a0) n t.1 t.2
    unfold word_Sar.m at h
    rw [h] at e
    exact e
theorem word_Sar.s (hmix : Try.prog.follows .mixedOrders = true) (n : Nat) : CalleeS Try.prog (fun _ => .any) 70 (word_Sar.c n) :=
  CalleeS.of (res := word_Sar.res) (shape := word_Sar.shape) (fun R u K => rfl) (fun args lent t h => by
    unfold word_Sar.pat at h
    split at h
    · cases h; rfl
    · cases h) fun t u h => (word_Sar.call hmix n t u h).ok Try.func70 (by decide) (by kernel_rfl)
end
section
noncomputable section
noncomputable def word_Extend.C (n : Nat) : Ctx := ⟨Try.prog, (fun _ => .any), fun f => match f with
 | 54 => some (word_Small.c n)
 | 82 => some (word_From.c n)
 | 68 => some (word_Shl.c n)
 | 70 => some (word_Sar.c n)
 | _ => none⟩
def word_Extend.live : Nat → List Nat × List Nat := fun k => match k with
 | _ => ([], [])
def word_Extend.jlive : Nat → List Nat × List Nat := fun k => match k with
 | _ => ([], [])
noncomputable def word_Extend.A (n : Nat) : Ann := ⟨Try.f96.ntmps, 0, word_Extend.live, [], [none], fun k => match k with
 | _ => none, word_Extend.jlive, lookJ []⟩
def word_Extend.g {α : Type} (mk0 : (List Int) → α) (n : Nat) (a0 : (List Int)) (a1 : (List Int)) : Option α :=
 bindO (word_Small.m n a0) fun r2 =>
  if (!(Prod.snd r2)) = true then
   some (mk0 a1)
  else
   if (decide ((Prod.fst r2) ≥ 31)) = true then
    some (mk0 a1)
   else
    bindO (word_From.m n (IntKind.wrap .u64 (248 - (IntKind.wrap .u64 (8 * (Prod.fst r2)))))) fun r8 =>
     bindO (word_Shl.m n (Prod.mk r8 a1)) fun r10 =>
      bindO (word_Sar.m n (Prod.mk r8 r10)) fun r12 =>
       some (mk0 r12)
def word_Extend.m (n : Nat) (t : ((List Int) × (List Int))) : Option (List Int) := word_Extend.g (fun a0 => a0) n t.1 t.2
def word_Extend.pat : List AV → Blks → Option ((List Int) × (List Int))
 | [(.ints .u64 4 a0), (.ints .u64 4 a1)], [] => some (a0, a1)
 | _, _ => none
def word_Extend.shape (t : ((List Int) × (List Int))) : List AV × Blks := ([(.ints .u64 4 t.1), (.ints .u64 4 t.2)], [])
def word_Extend.res : (List Int) → AV × Blks
 | u => (Prod.mk (.ints .u64 4 u) [])
def word_Extend.resK {R : Type} (u : (List Int)) (K : AV → Blks → Option R) : Option R := (fun p : AV × Blks => K p.1 p.2) (Prod.mk (.ints .u64 4 u) [])
def word_Extend.c (n : Nat) : Abs.Callee := .mk' [] [none, none] word_Extend.pat (word_Extend.m n) word_Extend.resK
end
end
section
theorem word_Extend.gmap {α β : Type} (h : β → α) (mk0 : (List Int) → β) (n : Nat) (a0 : (List Int)) (a1 : (List Int)) : word_Extend.g (fun a0 => (h (mk0 a0))) n a0 a1 = (word_Extend.g mk0 n a0 a1).map h := by
  unfold word_Extend.g
  exact (bindO_map fun r2 => (ite_map rfl (ite_map rfl (bindO_map fun r8 => (bindO_map fun r10 => (bindO_map fun r12 => rfl))))))
theorem word_Extend.run (n : Nat) (a0 : (List Int)) (a1 : (List Int)) : runF (word_Extend.C n) (word_Extend.A n) n Try.f96 [(.ints .u64 4 a0), (.ints .u64 4 a1)] [] (fun v o => some (v, o)) = word_Extend.g (fun a0 => ((Prod.mk (.ints .u64 4 a0) []) : AV × Blks)) n a0 a1 := by kernel_rfl
theorem word_Extend.call (hmix : Try.prog.follows .mixedOrders = true) (n : Nat) (t : ((List Int) × (List Int))) (u) (h : word_Extend.m n t = some u) : FnC Try.prog (fun _ => .any) 96 (word_Extend.shape t).1 (word_Extend.shape t).2 (word_Extend.res u).1 (word_Extend.res u).2 := by
  have hg : ∀ f m, (word_Extend.C n).Γ f = some m → CalleeS Try.prog (fun _ => .any) f m := by
    intro f m hm
    unfold word_Extend.C at hm
    simp only at hm
    first
    | (cases hm; done)
    | (split at hm <;> first
    | (cases hm; exact word_Small.s hmix n)
    | (cases hm; exact word_From.s hmix n)
    | (cases hm; exact word_Shl.s hmix n)
    | (cases hm; exact word_Sar.s hmix n)
    | (cases hm; done))
  have hb : Try.f96.body = some (Try.f96.body.getD .skip) := by kernel_rfl
  refine runF_calls (C := word_Extend.C n) (A := word_Extend.A n) (n := n) (fn := Try.f96) hg hmix Try.func96 hb ?_ ?_ (by decide) rfl rfl (by show 2 ≤ Try.f96.ntmps; decide) ?_
  · rw [show loopsIn (Try.f96.body.getD .skip) = [] by kernel_rfl]
    intro b hb
    cases hb
  · intro a ha m hm
    cases (show none = some m from hm)
  · rw [show runF (word_Extend.C n) (word_Extend.A n) n Try.f96 (word_Extend.shape t).1 (word_Extend.shape t).2 (fun v o => some (v, o)) = _ from word_Extend.run n t.1 t.2]
    have e := word_Extend.gmap word_Extend.res (fun a0 => a0) n t.1 t.2
    unfold word_Extend.m at h
    rw [h] at e
    exact e
theorem word_Extend.s (hmix : Try.prog.follows .mixedOrders = true) (n : Nat) : CalleeS Try.prog (fun _ => .any) 96 (word_Extend.c n) :=
  CalleeS.of (res := word_Extend.res) (shape := word_Extend.shape) (fun R u K => rfl) (fun args lent t h => by
    unfold word_Extend.pat at h
    split at h
    · cases h; rfl
    · cases h) fun t u h => (word_Extend.call hmix n t u h).ok Try.func96 (by decide) (by kernel_rfl)
end
section
noncomputable section
noncomputable def word_Byte.C (n : Nat) : Ctx := ⟨Try.prog, (fun _ => .any), fun f => match f with
 | 54 => some (word_Small.c n)
 | 82 => some (word_From.c n)
 | _ => none⟩
def word_Byte.live : Nat → List Nat × List Nat := fun k => match k with
 | _ => ([], [])
def word_Byte.jlive : Nat → List Nat × List Nat := fun k => match k with
 | _ => ([], [])
noncomputable def word_Byte.A (n : Nat) : Ann := ⟨Try.f67.ntmps, 0, word_Byte.live, [], [none], fun k => match k with
 | _ => none, word_Byte.jlive, lookJ []⟩
def word_Byte.g {α : Type} (mk0 : (List Int) → α) (n : Nat) (a0 : (List Int)) (a1 : (List Int)) : Option α :=
 bindO (word_Small.m n a0) fun r2 =>
  if (!(Prod.snd r2)) = true then
   some (mk0 [0, 0, 0, 0])
  else
   if (decide ((Prod.fst r2) > 31)) = true then
    some (mk0 [0, 0, 0, 0])
   else
    if 0 ≤ (IntKind.wrap .u64 (Int.tdiv (IntKind.wrap .u64 (31 - (Prod.fst r2))) 8)) then
     if (IntKind.wrap .u64 (Int.tdiv (IntKind.wrap .u64 (31 - (Prod.fst r2))) 8)) < 4 then
      if 0 ≤ (IntKind.wrap .u64 ((Int.tmod (IntKind.wrap .u64 (31 - (Prod.fst r2))) 8) * 8)) then
       bindO (word_From.m n (ibits BinOp.and .u64 (ishr .u64 (List.getD a1 (Int.toNat (IntKind.wrap .u64 (Int.tdiv (IntKind.wrap .u64 (31 - (Prod.fst r2))) 8))) 0) (IntKind.wrap .u64 ((Int.tmod (IntKind.wrap .u64 (31 - (Prod.fst r2))) 8) * 8))) 255)) fun r14 =>
        some (mk0 r14)
      else
       none
     else
      none
    else
     none
def word_Byte.m (n : Nat) (t : ((List Int) × (List Int))) : Option (List Int) := word_Byte.g (fun a0 => a0) n t.1 t.2
def word_Byte.pat : List AV → Blks → Option ((List Int) × (List Int))
 | [(.ints .u64 4 a0), (.ints .u64 4 a1)], [] => some (a0, a1)
 | _, _ => none
def word_Byte.shape (t : ((List Int) × (List Int))) : List AV × Blks := ([(.ints .u64 4 t.1), (.ints .u64 4 t.2)], [])
def word_Byte.res : (List Int) → AV × Blks
 | u => (Prod.mk (.ints .u64 4 u) [])
def word_Byte.resK {R : Type} (u : (List Int)) (K : AV → Blks → Option R) : Option R := (fun p : AV × Blks => K p.1 p.2) (Prod.mk (.ints .u64 4 u) [])
def word_Byte.c (n : Nat) : Abs.Callee := .mk' [] [none, none] word_Byte.pat (word_Byte.m n) word_Byte.resK
end
end
section
theorem word_Byte.gmap {α β : Type} (h : β → α) (mk0 : (List Int) → β) (n : Nat) (a0 : (List Int)) (a1 : (List Int)) : word_Byte.g (fun a0 => (h (mk0 a0))) n a0 a1 = (word_Byte.g mk0 n a0 a1).map h := by
  unfold word_Byte.g
  exact (bindO_map fun r2 => (ite_map rfl (ite_map rfl (ite_map (ite_map (ite_map (bindO_map fun r14 => rfl) rfl) rfl) rfl))))
theorem word_Byte.run (n : Nat) (a0 : (List Int)) (a1 : (List Int)) : runF (word_Byte.C n) (word_Byte.A n) n Try.f67 [(.ints .u64 4 a0), (.ints .u64 4 a1)] [] (fun v o => some (v, o)) = word_Byte.g (fun a0 => ((Prod.mk (.ints .u64 4 a0) []) : AV × Blks)) n a0 a1 := by kernel_rfl
theorem word_Byte.call (hmix : Try.prog.follows .mixedOrders = true) (n : Nat) (t : ((List Int) × (List Int))) (u) (h : word_Byte.m n t = some u) : FnC Try.prog (fun _ => .any) 67 (word_Byte.shape t).1 (word_Byte.shape t).2 (word_Byte.res u).1 (word_Byte.res u).2 := by
  have hg : ∀ f m, (word_Byte.C n).Γ f = some m → CalleeS Try.prog (fun _ => .any) f m := by
    intro f m hm
    unfold word_Byte.C at hm
    simp only at hm
    first
    | (cases hm; done)
    | (split at hm <;> first
    | (cases hm; exact word_Small.s hmix n)
    | (cases hm; exact word_From.s hmix n)
    | (cases hm; done))
  have hb : Try.f67.body = some (Try.f67.body.getD .skip) := by kernel_rfl
  refine runF_calls (C := word_Byte.C n) (A := word_Byte.A n) (n := n) (fn := Try.f67) hg hmix Try.func67 hb ?_ ?_ (by decide) rfl rfl (by show 2 ≤ Try.f67.ntmps; decide) ?_
  · rw [show loopsIn (Try.f67.body.getD .skip) = [] by kernel_rfl]
    intro b hb
    cases hb
  · intro a ha m hm
    cases (show none = some m from hm)
  · rw [show runF (word_Byte.C n) (word_Byte.A n) n Try.f67 (word_Byte.shape t).1 (word_Byte.shape t).2 (fun v o => some (v, o)) = _ from word_Byte.run n t.1 t.2]
    have e := word_Byte.gmap word_Byte.res (fun a0 => a0) n t.1 t.2
    unfold word_Byte.m at h
    rw [h] at e
    exact e
theorem word_Byte.s (hmix : Try.prog.follows .mixedOrders = true) (n : Nat) : CalleeS Try.prog (fun _ => .any) 67 (word_Byte.c n) :=
  CalleeS.of (res := word_Byte.res) (shape := word_Byte.shape) (fun R u K => rfl) (fun args lent t h => by
    unfold word_Byte.pat at h
    split at h
    · cases h; rfl
    · cases h) fun t u h => (word_Byte.call hmix n t u h).ok Try.func67 (by decide) (by kernel_rfl)
end
section
noncomputable section
noncomputable def q01_Bytes.C (n : Nat) : Ctx := ⟨Try.prog, (fun _ => .any), fun f => match f with
 | _ => none⟩
def q01_Bytes.live : Nat → List Nat × List Nat := fun k => match k with
 | 3 => ([4, 3, 1], [3])
 | _ => ([], [])
def q01_Bytes.jlive : Nat → List Nat × List Nat := fun k => match k with
 | _ => ([], [])
def q01_Bytes.l3_0.r {α : Type} (mk0 : (List Int) → α) (n : Nat) (rc : Int → (List Int) → (List Int) → Option α)  (x0 : Int) (x1 : (List Int)) (x2 : (List Int)) : Option α :=
  if (decide (x0 < 32)) = true then
   if 0 ≤ (IntKind.wrap .i64 (Int.tdiv (IntKind.wrap .i64 (31 - x0)) 8)) then
    if (IntKind.wrap .i64 (Int.tdiv (IntKind.wrap .i64 (31 - x0)) 8)) < 4 then
     if 0 ≤ (IntKind.wrap .u64 (IntKind.wrap .i64 ((Int.tmod (IntKind.wrap .i64 (31 - x0)) 8) * 8))) then
      if ((((List.length x1) + 1) * 1) ≤ 70368744177664 ∧ ((List.length x1) + 1) ≤ 9223372036854775807) then
       rc (IntKind.wrap .i64 (x0 + 1)) (x1 ++ [(IntKind.wrap .u8 (ishr .u64 (List.getD x2 (Int.toNat (IntKind.wrap .i64 (Int.tdiv (IntKind.wrap .i64 (31 - x0)) 8))) 0) (IntKind.wrap .u64 (IntKind.wrap .i64 ((Int.tmod (IntKind.wrap .i64 (31 - x0)) 8) * 8)))))]) x2
      else
       none
     else
      none
    else
     none
   else
    none
  else
   some (mk0 x1)
def q01_Bytes.l3_0.g {α : Type} (mk0 : (List Int) → α) (n : Nat) : Nat → Int → (List Int) → (List Int) → Option α
 | 0, _, _, _ => none
 | m + 1, x0, x1, x2 => q01_Bytes.l3_0.r mk0 n (fun y0 y1 y2 => q01_Bytes.l3_0.g mk0 n m y0 y1 y2)  x0 x1 x2
def q01_Bytes.l3_0.m (n m : Nat) (t : (Int × ((List Int) × (List Int)))) : Option (List Int) := q01_Bytes.l3_0.g (fun a0 => a0) n m t.1 t.2.1 t.2.2
def q01_Bytes.l3_0.pat : St → Option (Int × ((List Int) × (List Int)))
 | (St.mk [(.int .i64 x0), (.own 0 1), (.ptr 1 [])] [(some (.ints .u8 x1)), (some (.var (.ints .u64 4 x2)))]) => some (x0, x1, x2)
 | _ => none
def q01_Bytes.l3_0.shape (t : (Int × ((List Int) × (List Int)))) : St := (St.mk [(.int .i64 t.1), (.own 0 1), (.ptr 1 [])] [(some (.ints .u8 t.2.1)), (some (.var (.ints .u64 4 t.2.2)))])
def q01_Bytes.l3_0.res : (List Int) → Ex × St
 | u => (Prod.mk (.exit 0) (St.mk [(.own 0 1)] [(some (.ints .u8 u))]))
def q01_Bytes.l3_0.resK {R : Type} (u : (List Int)) (K : Ex → St → Option R) : Option R := (fun p : Ex × St => K p.1 p.2) (Prod.mk (.exit 0) (St.mk [(.own 0 1)] [(some (.ints .u8 u))]))
noncomputable def q01_Bytes.A (n : Nat) : Ann := ⟨Try.f58.ntmps, 0, q01_Bytes.live, [(3, (.ints .u8))], [(some (.ints .u8))], fun k => match k with
 | 3 => some (.mk' q01_Bytes.l3_0.pat (q01_Bytes.l3_0.m n n) q01_Bytes.l3_0.resK)
 | _ => none, q01_Bytes.jlive, lookJ []⟩
noncomputable def q01_Bytes.b0 : Code := (loopsIn (Try.f58.body.getD .skip)).getD 0 .skip
def q01_Bytes.g {α : Type} (mk0 : (List Int) → α) (n : Nat) (a0 : (List Int)) : Option α :=
 bindO (q01_Bytes.l3_0.m n n (0, [], a0)) fun r2 =>
  some (mk0 r2)
def q01_Bytes.m (n : Nat) (t : (List Int)) : Option (List Int) := q01_Bytes.g (fun a0 => a0) n t
def q01_Bytes.pat : List AV → Blks → Option (List Int)
 | [(.ints .u64 4 a0)], [] => some a0
 | _, _ => none
def q01_Bytes.shape (t : (List Int)) : List AV × Blks := ([(.ints .u64 4 t)], [])
def q01_Bytes.res : (List Int) → AV × Blks
 | u => (Prod.mk (.own 0 1) [(some (.ints .u8 u))])
def q01_Bytes.resK {R : Type} (u : (List Int)) (K : AV → Blks → Option R) : Option R := (fun p : AV × Blks => K p.1 p.2) (Prod.mk (.own 0 1) [(some (.ints .u8 u))])
def q01_Bytes.c (n : Nat) : Abs.Callee := .mk' [] [none] q01_Bytes.pat (q01_Bytes.m n) q01_Bytes.resK
end
end
section
noncomputable section
noncomputable def q01_Byte.C (n : Nat) : Ctx := ⟨Try.prog, (fun _ => .any), fun f => match f with
 | 55 => some (q01_Small.c n)
 | 58 => some (q01_Bytes.c n)
 | 106 => some (q01_From.c n)
 | _ => none⟩
def q01_Byte.live : Nat → List Nat × List Nat := fun k => match k with
 | _ => ([], [])
def q01_Byte.jlive : Nat → List Nat × List Nat := fun k => match k with
 | _ => ([], [])
noncomputable def q01_Byte.A (n : Nat) : Ann := ⟨Try.f77.ntmps, 0, q01_Byte.live, [], [none], fun k => match k with
 | _ => none, q01_Byte.jlive, lookJ []⟩
def q01_Byte.g {α : Type} (mk0 : (List Int) → α) (n : Nat) (a0 : (List Int)) (a1 : (List Int)) : Option α :=
 bindO (q01_Small.m n a0) fun r2 =>
  if (!(Prod.snd r2)) = true then
   some (mk0 [0, 0, 0, 0])
  else
   if (decide ((Prod.fst r2) ≥ 32)) = true then
    some (mk0 [0, 0, 0, 0])
   else
    bindO (q01_Bytes.m n a1) fun r8 =>
     if 0 ≤ (IntKind.wrap .i64 (Prod.fst r2)) then
      if (IntKind.wrap .i64 (Prod.fst r2)) < (((List.length r8) : Nat) : Int) then
       bindO (q01_From.m n (IntKind.wrap .u64 (List.getD r8 (Int.toNat (IntKind.wrap .i64 (Prod.fst r2))) 0))) fun r14 =>
        some (mk0 r14)
      else
       none
     else
      none
def q01_Byte.m (n : Nat) (t : ((List Int) × (List Int))) : Option (List Int) := q01_Byte.g (fun a0 => a0) n t.1 t.2
def q01_Byte.pat : List AV → Blks → Option ((List Int) × (List Int))
 | [(.ints .u64 4 a0), (.ints .u64 4 a1)], [] => some (a0, a1)
 | _, _ => none
def q01_Byte.shape (t : ((List Int) × (List Int))) : List AV × Blks := ([(.ints .u64 4 t.1), (.ints .u64 4 t.2)], [])
def q01_Byte.res : (List Int) → AV × Blks
 | u => (Prod.mk (.ints .u64 4 u) [])
def q01_Byte.resK {R : Type} (u : (List Int)) (K : AV → Blks → Option R) : Option R := (fun p : AV × Blks => K p.1 p.2) (Prod.mk (.ints .u64 4 u) [])
def q01_Byte.c (n : Nat) : Abs.Callee := .mk' [] [none, none] q01_Byte.pat (q01_Byte.m n) q01_Byte.resK
end
end
section
theorem q01_Bytes.l3_0.rmap {α β : Type} (h : β → α) (mk0 : (List Int) → β) (n : Nat) (f : Int → (List Int) → (List Int) → Option β)  (x0 : Int) (x1 : (List Int)) (x2 : (List Int)) : q01_Bytes.l3_0.r (fun a0 => (h (mk0 a0))) n (fun y0 y1 y2 => (f y0 y1 y2).map h) x0 x1 x2 = (q01_Bytes.l3_0.r mk0 n f x0 x1 x2).map h := by
  unfold q01_Bytes.l3_0.r
  exact (ite_map (ite_map (ite_map (ite_map (ite_map rfl rfl) rfl) rfl) rfl) rfl)
theorem q01_Bytes.l3_0.gmap {α β : Type} (h : β → α) (mk0 : (List Int) → β) (n : Nat) : ∀ (m : Nat) (x0 : Int) (x1 : (List Int)) (x2 : (List Int)), q01_Bytes.l3_0.g (fun a0 => (h (mk0 a0))) n m x0 x1 x2 = (q01_Bytes.l3_0.g mk0 n m x0 x1 x2).map h
  | 0, _, _, _ => rfl
  | m + 1, x0, x1, x2 => by
    unfold q01_Bytes.l3_0.g
    rw [← q01_Bytes.l3_0.rmap]
    congr
    · funext y0 y1 y2; exact q01_Bytes.l3_0.gmap h mk0 n m y0 y1 y2
theorem q01_Bytes.l3_0.pat_shape : ∀ st t, q01_Bytes.l3_0.pat st = some t → st = q01_Bytes.l3_0.shape t := by
  intro st t h
  unfold q01_Bytes.l3_0.pat at h
  split at h
  · cases h; rfl
  · cases h
theorem q01_Bytes.l3_0.round (n : Nat) (rc : St → Option (Ex × St)) (x0 : Int) (x1 : (List Int)) (x2 : (List Int)) : roundOf (q01_Bytes.C n) (q01_Bytes.A n) n q01_Bytes.b0 rc ((St.mk [(.int .i64 x0), (.own 0 1), (.ptr 1 [])] [(some (.ints .u8 x1)), (some (.var (.ints .u64 4 x2)))])) = q01_Bytes.l3_0.r (fun a0 => ((Prod.mk (.exit 0) (St.mk [(.own 0 1)] [(some (.ints .u8 a0))])) : Ex × St)) n (fun y0 y1 y2 => rc ((St.mk [(.int .i64 y0), (.own 0 1), (.ptr 1 [])] [(some (.ints .u8 y1)), (some (.var (.ints .u64 4 y2)))]))) x0 x1 x2 := by kernel_rfl
theorem q01_Bytes.l3_0.loop' (n : Nat) : ∀ (m : Nat) (t : (Int × ((List Int) × (List Int)))), loopOf (roundOf (q01_Bytes.C n) (q01_Bytes.A n) n q01_Bytes.b0) m (q01_Bytes.l3_0.shape t) = q01_Bytes.l3_0.g (fun a0 => ((Prod.mk (.exit 0) (St.mk [(.own 0 1)] [(some (.ints .u8 a0))])) : Ex × St)) n m t.1 t.2.1 t.2.2 :=
  loop_of_round (shape := q01_Bytes.l3_0.shape) (body := roundOf (q01_Bytes.C n) (q01_Bytes.A n) n q01_Bytes.b0) (g := fun m t => q01_Bytes.l3_0.g (fun a0 => ((Prod.mk (.exit 0) (St.mk [(.own 0 1)] [(some (.ints .u8 a0))])) : Ex × St)) n m t.1 t.2.1 t.2.2) (fun t => rfl)
    fun m t ih => (q01_Bytes.l3_0.round n (loopOf (roundOf (q01_Bytes.C n) (q01_Bytes.A n) n q01_Bytes.b0) m) t.1 t.2.1 t.2.2).trans (congrFun (congrFun (congrFun (congrArg (q01_Bytes.l3_0.r (fun a0 => ((Prod.mk (.exit 0) (St.mk [(.own 0 1)] [(some (.ints .u8 a0))])) : Ex × St)) n) (funext fun y0 => funext fun y1 => funext fun y2 => ih (y0, y1, y2))) t.1) t.2.1) t.2.2)
theorem q01_Bytes.l3_0.loop (n m : Nat) (t : (Int × ((List Int) × (List Int)))) : loopOf (roundOf (q01_Bytes.C n) (q01_Bytes.A n) n q01_Bytes.b0) m (q01_Bytes.l3_0.shape t) = (q01_Bytes.l3_0.m n m t).map q01_Bytes.l3_0.res :=
  (q01_Bytes.l3_0.loop' n m t).trans (q01_Bytes.l3_0.gmap q01_Bytes.l3_0.res (fun a0 => a0) n m t.1 t.2.1 t.2.2)
theorem q01_Bytes.gmap {α β : Type} (h : β → α) (mk0 : (List Int) → β) (n : Nat) (a0 : (List Int)) : q01_Bytes.g (fun a0 => (h (mk0 a0))) n a0 = (q01_Bytes.g mk0 n a0).map h := by
  unfold q01_Bytes.g
  exact (bindO_map fun r2 => rfl)
theorem q01_Bytes.run (n : Nat) (a0 : (List Int)) : runF (q01_Bytes.C n) (q01_Bytes.A n) n Try.f58 [(.ints .u64 4 a0)] [] (fun v o => some (v, o)) = q01_Bytes.g (fun a0 => ((Prod.mk (.own 0 1) [(some (.ints .u8 a0))]) : AV × Blks)) n a0 := by kernel_rfl
theorem q01_Bytes.call (hmix : Try.prog.follows .mixedOrders = true) (n : Nat) (t : (List Int)) (u) (h : q01_Bytes.m n t = some u) : FnC Try.prog (fun _ => .any) 58 (q01_Bytes.shape t).1 (q01_Bytes.shape t).2 (q01_Bytes.res u).1 (q01_Bytes.res u).2 := by
  have hg : ∀ f m, (q01_Bytes.C n).Γ f = some m → CalleeS Try.prog (fun _ => .any) f m := by
    intro f m hm
    unfold q01_Bytes.C at hm
    simp only at hm
    first
    | (cases hm; done)
    | (split at hm <;> first
    | (cases hm; done))
  have hb : Try.f58.body = some (Try.f58.body.getD .skip) := by kernel_rfl
  refine runF_calls (C := q01_Bytes.C n) (A := q01_Bytes.A n) (n := n) (fn := Try.f58) hg hmix Try.func58 hb ?_ ?_ (by decide) rfl rfl (by show 1 ≤ Try.f58.ntmps; decide) ?_
  · rw [show loopsIn (Try.f58.body.getD .skip) = [q01_Bytes.b0] by kernel_rfl]
    intro b hb m hm
    simp only [List.mem_cons, List.not_mem_nil, or_false] at hb
    rcases hb with rfl
    · have e : (q01_Bytes.A n).loop (key q01_Bytes.b0) = some (.mk' q01_Bytes.l3_0.pat (q01_Bytes.l3_0.m n n) q01_Bytes.l3_0.resK) := by rw [show key q01_Bytes.b0 = 3 by kernel_rfl]; rfl
      rw [e] at hm
      cases hm
      exact LoopS.of (res := q01_Bytes.l3_0.res) (fun R u K => rfl) q01_Bytes.l3_0.pat_shape fun t => q01_Bytes.l3_0.loop n n t
  · intro a ha m hm
    cases (show none = some m from hm)
  · rw [show runF (q01_Bytes.C n) (q01_Bytes.A n) n Try.f58 (q01_Bytes.shape t).1 (q01_Bytes.shape t).2 (fun v o => some (v, o)) = _ from q01_Bytes.run n t]
    have e := q01_Bytes.gmap q01_Bytes.res (fun a0 => a0) n t
    unfold q01_Bytes.m at h
    rw [h] at e
    exact e
theorem q01_Bytes.s (hmix : Try.prog.follows .mixedOrders = true) (n : Nat) : CalleeS Try.prog (fun _ => .any) 58 (q01_Bytes.c n) :=
  CalleeS.of (res := q01_Bytes.res) (shape := q01_Bytes.shape) (fun R u K => rfl) (fun args lent t h => by
    unfold q01_Bytes.pat at h
    split at h
    · cases h; rfl
    · cases h) fun t u h => (q01_Bytes.call hmix n t u h).ok Try.func58 (by decide) (by kernel_rfl)
end
section
theorem q01_Byte.gmap {α β : Type} (h : β → α) (mk0 : (List Int) → β) (n : Nat) (a0 : (List Int)) (a1 : (List Int)) : q01_Byte.g (fun a0 => (h (mk0 a0))) n a0 a1 = (q01_Byte.g mk0 n a0 a1).map h := by
  unfold q01_Byte.g
  exact (bindO_map fun r2 => (ite_map rfl (ite_map rfl (bindO_map fun r8 => (ite_map (ite_map (bindO_map fun r14 => rfl) rfl) rfl)))))
theorem q01_Byte.run (n : Nat) (a0 : (List Int)) (a1 : (List Int)) : runF (q01_Byte.C n) (q01_Byte.A n) n Try.f77 [(.ints .u64 4 a0), (.ints .u64 4 a1)] [] (fun v o => some (v, o)) = q01_Byte.g (fun a0 => ((Prod.mk (.ints .u64 4 a0) []) : AV × Blks)) n a0 a1 := by kernel_rfl
theorem q01_Byte.call (hmix : Try.prog.follows .mixedOrders = true) (n : Nat) (t : ((List Int) × (List Int))) (u) (h : q01_Byte.m n t = some u) : FnC Try.prog (fun _ => .any) 77 (q01_Byte.shape t).1 (q01_Byte.shape t).2 (q01_Byte.res u).1 (q01_Byte.res u).2 := by
  have hg : ∀ f m, (q01_Byte.C n).Γ f = some m → CalleeS Try.prog (fun _ => .any) f m := by
    intro f m hm
    unfold q01_Byte.C at hm
    simp only at hm
    first
    | (cases hm; done)
    | (split at hm <;> first
    | (cases hm; exact q01_Small.s hmix n)
    | (cases hm; exact q01_Bytes.s hmix n)
    | (cases hm; exact q01_From.s hmix n)
    | (cases hm; done))
  have hb : Try.f77.body = some (Try.f77.body.getD .skip) := by kernel_rfl
  refine runF_calls (C := q01_Byte.C n) (A := q01_Byte.A n) (n := n) (fn := Try.f77) hg hmix Try.func77 hb ?_ ?_ (by decide) rfl rfl (by show 2 ≤ Try.f77.ntmps; decide) ?_
  · rw [show loopsIn (Try.f77.body.getD .skip) = [] by kernel_rfl]
    intro b hb
    cases hb
  · intro a ha m hm
    cases (show none = some m from hm)
  · rw [show runF (q01_Byte.C n) (q01_Byte.A n) n Try.f77 (q01_Byte.shape t).1 (q01_Byte.shape t).2 (fun v o => some (v, o)) = _ from q01_Byte.run n t.1 t.2]
    have e := q01_Byte.gmap q01_Byte.res (fun a0 => a0) n t.1 t.2
    unfold q01_Byte.m at h
    rw [h] at e
    exact e
theorem q01_Byte.s (hmix : Try.prog.follows .mixedOrders = true) (n : Nat) : CalleeS Try.prog (fun _ => .any) 77 (q01_Byte.c n) :=
  CalleeS.of (res := q01_Byte.res) (shape := q01_Byte.shape) (fun R u K => rfl) (fun args lent t h => by
    unfold q01_Byte.pat at h
    split at h
    · cases h; rfl
    · cases h) fun t u h => (q01_Byte.call hmix n t u h).ok Try.func77 (by decide) (by kernel_rfl)
end
section
noncomputable section
noncomputable def word_Bytes.C (n : Nat) : Ctx := ⟨Try.prog, (fun _ => .any), fun f => match f with
 | _ => none⟩
def word_Bytes.live : Nat → List Nat × List Nat := fun k => match k with
 | 3 => ([6, 3, 1], [3])
 | _ => ([], [])
def word_Bytes.jlive : Nat → List Nat × List Nat := fun k => match k with
 | _ => ([], [])
def word_Bytes.l3_0.r {α : Type} (mk0 : (List Int) → α) (n : Nat) (rc : Int → (List Int) → (List Int) → Option α)  (x0 : Int) (x1 : (List Int)) (x2 : (List Int)) : Option α :=
  if (decide (x0 < 32)) = true then
   if 0 ≤ (IntKind.wrap .i64 (Int.tdiv x0 8)) then
    if (IntKind.wrap .i64 (Int.tdiv x0 8)) < 4 then
     if 0 ≤ (IntKind.wrap .i64 ((Int.tmod x0 8) * 8)) then
      if 0 ≤ (IntKind.wrap .i64 (31 - x0)) then
       if (IntKind.wrap .i64 (31 - x0)) < (((List.length x1) : Nat) : Int) then
        rc (IntKind.wrap .i64 (x0 + 1)) (List.set x1 (Int.toNat (IntKind.wrap .i64 (31 - x0))) (IntKind.wrap .u8 (ishr .u64 (List.getD x2 (Int.toNat (IntKind.wrap .i64 (Int.tdiv x0 8))) 0) (IntKind.wrap .i64 ((Int.tmod x0 8) * 8))))) x2
       else
        none
      else
       none
     else
      none
    else
     none
   else
    none
  else
   some (mk0 x1)
def word_Bytes.l3_0.g {α : Type} (mk0 : (List Int) → α) (n : Nat) : Nat → Int → (List Int) → (List Int) → Option α
 | 0, _, _, _ => none
 | m + 1, x0, x1, x2 => word_Bytes.l3_0.r mk0 n (fun y0 y1 y2 => word_Bytes.l3_0.g mk0 n m y0 y1 y2)  x0 x1 x2
def word_Bytes.l3_0.m (n m : Nat) (t : (Int × ((List Int) × (List Int)))) : Option (List Int) := word_Bytes.l3_0.g (fun a0 => a0) n m t.1 t.2.1 t.2.2
def word_Bytes.l3_0.pat : St → Option (Int × ((List Int) × (List Int)))
 | (St.mk [(.int .i64 x0), (.own 0 1), (.ptr 1 [])] [(some (.ints .u8 x1)), (some (.var (.ints .u64 4 x2)))]) => some (x0, x1, x2)
 | _ => none
def word_Bytes.l3_0.shape (t : (Int × ((List Int) × (List Int)))) : St := (St.mk [(.int .i64 t.1), (.own 0 1), (.ptr 1 [])] [(some (.ints .u8 t.2.1)), (some (.var (.ints .u64 4 t.2.2)))])
def word_Bytes.l3_0.res : (List Int) → Ex × St
 | u => (Prod.mk (.exit 0) (St.mk [(.own 0 1)] [(some (.ints .u8 u))]))
def word_Bytes.l3_0.resK {R : Type} (u : (List Int)) (K : Ex → St → Option R) : Option R := (fun p : Ex × St => K p.1 p.2) (Prod.mk (.exit 0) (St.mk [(.own 0 1)] [(some (.ints .u8 u))]))
noncomputable def word_Bytes.A (n : Nat) : Ann := ⟨Try.f57.ntmps, 0, word_Bytes.live, [(3, (.ints .u8))], [(some (.ints .u8))], fun k => match k with
 | 3 => some (.mk' word_Bytes.l3_0.pat (word_Bytes.l3_0.m n n) word_Bytes.l3_0.resK)
 | _ => none, word_Bytes.jlive, lookJ []⟩
noncomputable def word_Bytes.b0 : Code := (loopsIn (Try.f57.body.getD .skip)).getD 0 .skip
def word_Bytes.g {α : Type} (mk0 : (List Int) → α) (n : Nat) (a0 : (List Int)) : Option α :=
 bindO (word_Bytes.l3_0.m n n (0, [0, 0, 0, 0, 0, 0, 0, 0, 0, 0, 0, 0, 0, 0, 0, 0, 0, 0, 0, 0, 0, 0, 0, 0, 0, 0, 0, 0, 0, 0, 0, 0], a0)) fun r2 =>
  some (mk0 r2)
def word_Bytes.m (n : Nat) (t : (List Int)) : Option (List Int) := word_Bytes.g (fun a0 => a0) n t
def word_Bytes.pat : List AV → Blks → Option (List Int)
 | [(.ints .u64 4 a0)], [] => some a0
 | _, _ => none
def word_Bytes.shape (t : (List Int)) : List AV × Blks := ([(.ints .u64 4 t)], [])
def word_Bytes.res : (List Int) → AV × Blks
 | u => (Prod.mk (.own 0 1) [(some (.ints .u8 u))])
def word_Bytes.resK {R : Type} (u : (List Int)) (K : AV → Blks → Option R) : Option R := (fun p : AV × Blks => K p.1 p.2) (Prod.mk (.own 0 1) [(some (.ints .u8 u))])
def word_Bytes.c (n : Nat) : Abs.Callee := .mk' [] [none] word_Bytes.pat (word_Bytes.m n) word_Bytes.resK
end
end
section
theorem word_Bytes.l3_0.rmap {α β : Type} (h : β → α) (mk0 : (List Int) → β) (n : Nat) (f : Int → (List Int) → (List Int) → Option β)  (x0 : Int) (x1 : (List Int)) (x2 : (List Int)) : word_Bytes.l3_0.r (fun a0 => (h (mk0 a0))) n (fun y0 y1 y2 => (f y0 y1 y2).map h) x0 x1 x2 = (word_Bytes.l3_0.r mk0 n f x0 x1 x2).map h := by
  unfold word_Bytes.l3_0.r
  exact (ite_map (ite_map (ite_map (ite_map (ite_map (ite_map rfl rfl) rfl) rfl) rfl) rfl) rfl)
theorem word_Bytes.l3_0.gmap {α β : Type} (h : β → α) (mk0 : (List Int) → β) (n : Nat) : ∀ (m : Nat) (x0 : Int) (x1 : (List Int)) (x2 : (List Int)), word_Bytes.l3_0.g (fun a0 => (h (mk0 a0))) n m x0 x1 x2 = (word_Bytes.l3_0.g mk0 n m x0 x1 x2).map h
  | 0, _, _, _ => rfl
  | m + 1, x0, x1, x2 => by
    unfold word_Bytes.l3_0.g
    rw [← word_Bytes.l3_0.rmap]
    congr
    · funext y0 y1 y2; exact word_Bytes.l3_0.gmap h mk0 n m y0 y1 y2
theorem word_Bytes.l3_0.pat_shape : ∀ st t, word_Bytes.l3_0.pat st = some t → st = word_Bytes.l3_0.shape t := by
  intro st t h
  unfold word_Bytes.l3_0.pat at h
  split at h
  · cases h; rfl
  · cases h
theorem word_Bytes.l3_0.round (n : Nat) (rc : St → Option (Ex × St)) (x0 : Int) (x1 : (List Int)) (x2 : (List Int)) : roundOf (word_Bytes.C n) (word_Bytes.A n) n word_Bytes.b0 rc ((St.mk [(.int .i64 x0), (.own 0 1), (.ptr 1 [])] [(some (.ints .u8 x1)), (some (.var (.ints .u64 4 x2)))])) = word_Bytes.l3_0.r (fun a0 => ((Prod.mk (.exit 0) (St.mk [(.own 0 1)] [(some (.ints .u8 a0))])) : Ex × St)) n (fun y0 y1 y2 => rc ((St.mk [(.int .i64 y0), (.own 0 1), (.ptr 1 [])] [(some (.ints .u8 y1)), (some (.var (.ints .u64 4 y2)))]))) x0 x1 x2 := by kernel_rfl
theorem word_Bytes.l3_0.loop' (n : Nat) : ∀ (m : Nat) (t : (Int × ((List Int) × (List Int)))), loopOf (roundOf (word_Bytes.C n) (word_Bytes.A n) n word_Bytes.b0) m (word_Bytes.l3_0.shape t) = word_Bytes.l3_0.g (fun a0 => ((Prod.mk (.exit 0) (St.mk [(.own 0 1)] [(some (.ints .u8 a0))])) : Ex × St)) n m t.1 t.2.1 t.2.2 :=
  loop_of_round (shape := word_Bytes.l3_0.shape) (body := roundOf (word_Bytes.C n) (word_Bytes.A n) n word_Bytes.b0) (g := fun m t => word_Bytes.l3_0.g (fun a0 => ((Prod.mk (.exit 0) (St.mk [(.own 0 1)] [(some (.ints .u8 a0))])) : Ex × St)) n m t.1 t.2.1 t.2.2) (fun t => rfl)
    fun m t ih => (word_Bytes.l3_0.round n (loopOf (roundOf (word_Bytes.C n) (word_Bytes.A n) n word_Bytes.b0) m) t.1 t.2.1 t.2.2).trans (congrFun (congrFun (congrFun (congrArg (word_Bytes.l3_0.r (fun a0 => ((Prod.mk (.exit 0) (St.mk [(.own 0 1)] [(some (.ints .u8 a0))])) : Ex × St)) n) (funext fun y0 => funext fun y1 => funext fun y2 => ih (y0, y1, y2))) t.1) t.2.1) t.2.2)
theorem word_Bytes.l3_0.loop (n m : Nat) (t : (Int × ((List Int) × (List Int)))) : loopOf (roundOf (word_Bytes.C n) (word_Bytes.A n) n word_Bytes.b0) m (word_Bytes.l3_0.shape t) = (word_Bytes.l3_0.m n m t).map word_Bytes.l3_0.res :=
  (word_Bytes.l3_0.loop' n m t).trans (word_Bytes.l3_0.gmap word_Bytes.l3_0.res (fun a0 => a0) n m t.1 t.2.1 t.2.2)
theorem word_Bytes.gmap {α β : Type} (h : β → α) (mk0 : (List Int) → β) (n : Nat) (a0 : (List Int)) : word_Bytes.g (fun a0 => (h (mk0 a0))) n a0 = (word_Bytes.g mk0 n a0).map h := by
  unfold word_Bytes.g
  exact (bindO_map fun r2 => rfl)
theorem word_Bytes.run (n : Nat) (a0 : (List Int)) : runF (word_Bytes.C n) (word_Bytes.A n) n Try.f57 [(.ints .u64 4 a0)] [] (fun v o => some (v, o)) = word_Bytes.g (fun a0 => ((Prod.mk (.own 0 1) [(some (.ints .u8 a0))]) : AV × Blks)) n a0 := by kernel_rfl
theorem word_Bytes.call (hmix : Try.prog.follows .mixedOrders = true) (n : Nat) (t : (List Int)) (u) (h : word_Bytes.m n t = some u) : FnC Try.prog (fun _ => .any) 57 (word_Bytes.shape t).1 (word_Bytes.shape t).2 (word_Bytes.res u).1 (word_Bytes.res u).2 := by
  have hg : ∀ f m, (word_Bytes.C n).Γ f = some m → CalleeS Try.prog (fun _ => .any) f m := by
    intro f m hm
    unfold word_Bytes.C at hm
    simp only at hm
    first
    | (cases hm; done)
    | (split at hm <;> first
    | (cases hm; done))
  have hb : Try.f57.body = some (Try.f57.body.getD .skip) := by kernel_rfl
  refine runF_calls (C := word_Bytes.C n) (A := word_Bytes.A n) (n := n) (fn := Try.f57) hg hmix Try.func57 hb ?_ ?_ (by decide) rfl rfl (by show 1 ≤ Try.f57.ntmps; decide) ?_
  · rw [show loopsIn (Try.f57.body.getD .skip) = [word_Bytes.b0] by kernel_rfl]
    intro b hb m hm
    simp only [List.mem_cons, List.not_mem_nil, or_false] at hb
    rcases hb with rfl
    · have e : (word_Bytes.A n).loop (key word_Bytes.b0) = some (.mk' word_Bytes.l3_0.pat (word_Bytes.l3_0.m n n) word_Bytes.l3_0.resK) := by rw [show key word_Bytes.b0 = 3 by kernel_rfl]; rfl
      rw [e] at hm
      cases hm
      exact LoopS.of (res := word_Bytes.l3_0.res) (fun R u K => rfl) word_Bytes.l3_0.pat_shape fun t => word_Bytes.l3_0.loop n n t
  · intro a ha m hm
    cases (show none = some m from hm)
  · rw [show runF (word_Bytes.C n) (word_Bytes.A n) n Try.f57 (word_Bytes.shape t).1 (word_Bytes.shape t).2 (fun v o => some (v, o)) = _ from word_Bytes.run n t]
    have e := word_Bytes.gmap word_Bytes.res (fun a0 => a0) n t
    unfold word_Bytes.m at h
    rw [h] at e
    exact e
theorem word_Bytes.s (hmix : Try.prog.follows .mixedOrders = true) (n : Nat) : CalleeS Try.prog (fun _ => .any) 57 (word_Bytes.c n) :=
  CalleeS.of (res := word_Bytes.res) (shape := word_Bytes.shape) (fun R u K => rfl) (fun args lent t h => by
    unfold word_Bytes.pat at h
    split at h
    · cases h; rfl
    · cases h) fun t u h => (word_Bytes.call hmix n t u h).ok Try.func57 (by decide) (by kernel_rfl)
end
section
noncomputable section
noncomputable def code_Info.C (n : Nat) : Ctx := ⟨Try.prog, (fun _ => .any), fun f => match f with
 | _ => none⟩
def code_Info.live : Nat → List Nat × List Nat := fun k => match k with
 | _ => ([], [])
def code_Info.jlive : Nat → List Nat × List Nat := fun k => match k with
 | 10000 => ([0], [0, 2, 3, 4])
 | _ => ([], [])
noncomputable def code_Info.jc0 : Code := ((seqsIn (Try.f19.body.getD .skip)).filter fun a => jkey a == 10000).getD 0 .skip
def code_Info.j10000.g {α : Type} (mk0 : Int → Int → Int → Bool → α) (mk1 : Int → α) (n : Nat) (x0 : Int) : Option α :=
  if (decide (x0 ≥ 95)) = true then
   if (decide (x0 ≤ 127)) = true then
    some (mk0 x0 0 1 true)
   else
    if (decide (x0 ≥ 128)) = true then
     if (decide (x0 ≤ 143)) = true then
      some (mk0 x0 (IntKind.wrap .i64 ((IntKind.wrap .i64 (IntKind.wrap .u8 (x0 - 128))) + 1)) (IntKind.wrap .i64 ((IntKind.wrap .i64 (IntKind.wrap .u8 (x0 - 128))) + 2)) true)
     else
      if (decide (x0 ≥ 144)) = true then
       if (decide (x0 ≤ 159)) = true then
        some (mk0 x0 (IntKind.wrap .i64 ((IntKind.wrap .i64 (IntKind.wrap .u8 (x0 - 144))) + 2)) (IntKind.wrap .i64 ((IntKind.wrap .i64 (IntKind.wrap .u8 (x0 - 144))) + 2)) true)
       else
        if (decide (x0 ≥ 160)) = true then
         if (decide (x0 ≤ 164)) = true then
          some (mk0 x0 (IntKind.wrap .i64 ((IntKind.wrap .i64 (IntKind.wrap .u8 (x0 - 160))) + 2)) 0 true)
         else
          some (mk1 x0)
        else
         some (mk1 x0)
      else
       if (decide (x0 ≥ 160)) = true then
        if (decide (x0 ≤ 164)) = true then
         some (mk0 x0 (IntKind.wrap .i64 ((IntKind.wrap .i64 (IntKind.wrap .u8 (x0 - 160))) + 2)) 0 true)
        else
         some (mk1 x0)
       else
        some (mk1 x0)
    else
     if (decide (x0 ≥ 144)) = true then
      if (decide (x0 ≤ 159)) = true then
       some (mk0 x0 (IntKind.wrap .i64 ((IntKind.wrap .i64 (IntKind.wrap .u8 (x0 - 144))) + 2)) (IntKind.wrap .i64 ((IntKind.wrap .i64 (IntKind.wrap .u8 (x0 - 144))) + 2)) true)
      else
       if (decide (x0 ≥ 160)) = true then
        if (decide (x0 ≤ 164)) = true then
         some (mk0 x0 (IntKind.wrap .i64 ((IntKind.wrap .i64 (IntKind.wrap .u8 (x0 - 160))) + 2)) 0 true)
        else
         some (mk1 x0)
       else
        some (mk1 x0)
     else
      if (decide (x0 ≥ 160)) = true then
       if (decide (x0 ≤ 164)) = true then
        some (mk0 x0 (IntKind.wrap .i64 ((IntKind.wrap .i64 (IntKind.wrap .u8 (x0 - 160))) + 2)) 0 true)
       else
        some (mk1 x0)
      else
       some (mk1 x0)
  else
   if (decide (x0 ≥ 128)) = true then
    if (decide (x0 ≤ 143)) = true then
     some (mk0 x0 (IntKind.wrap .i64 ((IntKind.wrap .i64 (IntKind.wrap .u8 (x0 - 128))) + 1)) (IntKind.wrap .i64 ((IntKind.wrap .i64 (IntKind.wrap .u8 (x0 - 128))) + 2)) true)
    else
     if (decide (x0 ≥ 144)) = true then
      if (decide (x0 ≤ 159)) = true then
       some (mk0 x0 (IntKind.wrap .i64 ((IntKind.wrap .i64 (IntKind.wrap .u8 (x0 - 144))) + 2)) (IntKind.wrap .i64 ((IntKind.wrap .i64 (IntKind.wrap .u8 (x0 - 144))) + 2)) true)
      else
       if (decide (x0 ≥ 160)) = true then
        if (decide (x0 ≤ 164)) = true then
         some (mk0 x0 (IntKind.wrap .i64 ((IntKind.wrap .i64 (IntKind.wrap .u8 (x0 - 160))) + 2)) 0 true)
        else
         some (mk1 x0)
       else
        some (mk1 x0)
     else
      if (decide (x0 ≥ 160)) = true then
       if (decide (x0 ≤ 164)) = true then
        some (mk0 x0 (IntKind.wrap .i64 ((IntKind.wrap .i64 (IntKind.wrap .u8 (x0 - 160))) + 2)) 0 true)
       else
        some (mk1 x0)
      else
       some (mk1 x0)
   else
    if (decide (x0 ≥ 144)) = true then
     if (decide (x0 ≤ 159)) = true then
      some (mk0 x0 (IntKind.wrap .i64 ((IntKind.wrap .i64 (IntKind.wrap .u8 (x0 - 144))) + 2)) (IntKind.wrap .i64 ((IntKind.wrap .i64 (IntKind.wrap .u8 (x0 - 144))) + 2)) true)
     else
      if (decide (x0 ≥ 160)) = true then
       if (decide (x0 ≤ 164)) = true then
        some (mk0 x0 (IntKind.wrap .i64 ((IntKind.wrap .i64 (IntKind.wrap .u8 (x0 - 160))) + 2)) 0 true)
       else
        some (mk1 x0)
      else
       some (mk1 x0)
    else
     if (decide (x0 ≥ 160)) = true then
      if (decide (x0 ≤ 164)) = true then
       some (mk0 x0 (IntKind.wrap .i64 ((IntKind.wrap .i64 (IntKind.wrap .u8 (x0 - 160))) + 2)) 0 true)
      else
       some (mk1 x0)
     else
      some (mk1 x0)
def code_Info.j10000.m (n : Nat) (t : Int) : Option ((Int × (Int × (Int × Bool))) ⊕ Int) := code_Info.j10000.g (fun a0 a1 a2 a3 => (.inl (a0, a1, a2, a3))) (fun a0 => (.inr a0)) n t
def code_Info.j10000.pat : St → Option Int
 | (St.mk [(.int .u8 x0)] []) => some x0
 | _ => none
def code_Info.j10000.shape (t : Int) : St := (St.mk [(.int .u8 t)] [])
def code_Info.j10000.res : ((Int × (Int × (Int × Bool))) ⊕ Int) → Ex × St
 | (.inl u) => (Prod.mk .ret (St.mk [(.int .u8 u.1), (.int .i64 u.2.1), (.int .i64 u.2.2.1), (.bool u.2.2.2)] []))
 | (.inr u) => (Prod.mk .normal (St.mk [(.int .u8 u), .any, .any, .any] []))
def code_Info.j10000.resK {R : Type} (u : ((Int × (Int × (Int × Bool))) ⊕ Int)) (K : Ex → St → Option R) : Option R := match u with
 | (.inl u) => (fun p : Ex × St => K p.1 p.2) (Prod.mk .ret (St.mk [(.int .u8 u.1), (.int .i64 u.2.1), (.int .i64 u.2.2.1), (.bool u.2.2.2)] []))
 | (.inr u) => (fun p : Ex × St => K p.1 p.2) (Prod.mk .normal (St.mk [(.int .u8 u), .any, .any, .any] []))
noncomputable def code_Info.A (n : Nat) : Ann := ⟨Try.f19.ntmps, 0, code_Info.live, [], [none, none, none], fun k => match k with
 | _ => none, code_Info.jlive, lookJ [(10000, .mk' code_Info.j10000.pat (code_Info.j10000.m n) code_Info.j10000.resK)]⟩
def code_Info.g {α : Type} (mk0 : Int → Int → Bool → α) (n : Nat) (a0 : Int) : Option α :=
 bindO (code_Info.j10000.m n a0) fun r2 => match r2 with
  | (.inl r2) =>
   some (mk0 (Prod.fst (Prod.snd r2)) (Prod.fst (Prod.snd (Prod.snd r2))) (Prod.snd (Prod.snd (Prod.snd r2))))
  | (.inr r2) =>
   if (r2 == 0) = true then
    some (mk0 0 0 true)
   else
    if (r2 == 91) = true then
     some (mk0 0 0 true)
    else
     if (r2 == 1) = true then
      some (mk0 2 1 true)
     else
      if (r2 == 2) = true then
       some (mk0 2 1 true)
      else
       if (r2 == 3) = true then
        some (mk0 2 1 true)
       else
        if (r2 == 4) = true then
         some (mk0 2 1 true)
        else
         if (r2 == 5) = true then
          some (mk0 2 1 true)
         else
          if (r2 == 6) = true then
           some (mk0 2 1 true)
          else
           if (r2 == 7) = true then
            some (mk0 2 1 true)
           else
            if (r2 == 10) = true then
             some (mk0 2 1 true)
            else
             if (r2 == 11) = true then
              some (mk0 2 1 true)
             else
              if (r2 == 16) = true then
               some (mk0 2 1 true)
              else
               if (r2 == 17) = true then
                some (mk0 2 1 true)
               else
                if (r2 == 18) = true then
                 some (mk0 2 1 true)
                else
                 if (r2 == 19) = true then
                  some (mk0 2 1 true)
                 else
                  if (r2 == 20) = true then
                   some (mk0 2 1 true)
                  else
                   if (r2 == 22) = true then
                    some (mk0 2 1 true)
                   else
                    if (r2 == 23) = true then
                     some (mk0 2 1 true)
                    else
                     if (r2 == 24) = true then
                      some (mk0 2 1 true)
                     else
                      if (r2 == 26) = true then
                       some (mk0 2 1 true)
                      else
                       if (r2 == 27) = true then
                        some (mk0 2 1 true)
                       else
                        if (r2 == 28) = true then
                         some (mk0 2 1 true)
                        else
                         if (r2 == 29) = true then
                          some (mk0 2 1 true)
                         else
                          if (r2 == 32) = true then
                           some (mk0 2 1 true)
                          else
                           if (r2 == 8) = true then
                            some (mk0 3 1 true)
                           else
                            if (r2 == 9) = true then
                             some (mk0 3 1 true)
                            else
                             if (r2 == 240) = true then
                              some (mk0 3 1 true)
                             else
                              if (r2 == 21) = true then
                               some (mk0 1 1 true)
                              else
                               if (r2 == 25) = true then
                                some (mk0 1 1 true)
                               else
                                if (r2 == 49) = true then
                                 some (mk0 1 1 true)
                                else
                                 if (r2 == 53) = true then
                                  some (mk0 1 1 true)
                                 else
                                  if (r2 == 59) = true then
                                   some (mk0 1 1 true)
                                  else
                                   if (r2 == 63) = true then
                                    some (mk0 1 1 true)
                                   else
                                    if (r2 == 64) = true then
                                     some (mk0 1 1 true)
                                    else
                                     if (r2 == 81) = true then
                                      some (mk0 1 1 true)
                                     else
                                      if (r2 == 84) = true then
                                       some (mk0 1 1 true)
                                      else
                                       if (r2 == 48) = true then
                                        some (mk0 0 1 true)
                                       else
                                        if (r2 == 50) = true then
                                         some (mk0 0 1 true)
                                        else
                                         if (r2 == 51) = true then
                                          some (mk0 0 1 true)
                                         else
                                          if (r2 == 52) = true then
                                           some (mk0 0 1 true)
                                          else
                                           if (r2 == 54) = true then
                                            some (mk0 0 1 true)
                                           else
                                            if (r2 == 56) = true then
                                             some (mk0 0 1 true)
                                            else
                                             if (r2 == 58) = true then
                                              some (mk0 0 1 true)
                                             else
                                              if (r2 == 61) = true then
                                               some (mk0 0 1 true)
                                              else
                                               if (r2 == 65) = true then
                                                some (mk0 0 1 true)
                                               else
                                                if (r2 == 66) = true then
                                                 some (mk0 0 1 true)
                                                else
                                                 if (r2 == 67) = true then
                                                  some (mk0 0 1 true)
                                                 else
                                                  if (r2 == 68) = true then
                                                   some (mk0 0 1 true)
                                                  else
                                                   if (r2 == 69) = true then
                                                    some (mk0 0 1 true)
                                                   else
                                                    if (r2 == 70) = true then
                                                     some (mk0 0 1 true)
                                                    else
                                                     if (r2 == 71) = true then
                                                      some (mk0 0 1 true)
                                                     else
                                                      if (r2 == 72) = true then
                                                       some (mk0 0 1 true)
                                                      else
                                                       if (r2 == 88) = true then
                                                        some (mk0 0 1 true)
                                                       else
                                                        if (r2 == 89) = true then
                                                         some (mk0 0 1 true)
                                                        else
                                                         if (r2 == 90) = true then
                                                          some (mk0 0 1 true)
                                                         else
                                                          if (r2 == 55) = true then
                                                           some (mk0 3 0 true)
                                                          else
                                                           if (r2 == 57) = true then
                                                            some (mk0 3 0 true)
                                                           else
                                                            if (r2 == 62) = true then
                                                             some (mk0 3 0 true)
                                                            else
                                                             if (r2 == 60) = true then
                                                              some (mk0 4 0 true)
                                                             else
                                                              if (r2 == 80) = true then
                                                               some (mk0 1 0 true)
                                                              else
                                                               if (r2 == 86) = true then
                                                                some (mk0 1 0 true)
                                                               else
                                                                if (r2 == 255) = true then
                                                                 some (mk0 1 0 true)
                                                                else
                                                                 if (r2 == 82) = true then
                                                                  some (mk0 2 0 true)
                                                                 else
                                                                  if (r2 == 83) = true then
                                                                   some (mk0 2 0 true)
                                                                  else
                                                                   if (r2 == 85) = true then
                                                                    some (mk0 2 0 true)
                                                                   else
                                                                    if (r2 == 87) = true then
                                                                     some (mk0 2 0 true)
                                                                    else
                                                                     if (r2 == 243) = true then
                                                                      some (mk0 2 0 true)
                                                                     else
                                                                      if (r2 == 253) = true then
                                                                       some (mk0 2 0 true)
                                                                      else
                                                                       if (r2 == 241) = true then
                                                                        some (mk0 7 1 true)
                                                                       else
                                                                        if (r2 == 242) = true then
                                                                         some (mk0 7 1 true)
                                                                        else
                                                                         if (r2 == 244) = true then
                                                                          some (mk0 6 1 true)
                                                                         else
                                                                          if (r2 == 250) = true then
                                                                           some (mk0 6 1 true)
                                                                          else
                                                                           if (r2 == 245) = true then
                                                                            some (mk0 4 1 true)
                                                                           else
                                                                            some (mk0 0 0 false)
def code_Info.m (n : Nat) (t : Int) : Option (Int × (Int × Bool)) := code_Info.g (fun a0 a1 a2 => (a0, a1, a2)) n t
def code_Info.pat : List AV → Blks → Option Int
 | [(.int .u8 a0)], [] => some a0
 | _, _ => none
def code_Info.shape (t : Int) : List AV × Blks := ([(.int .u8 t)], [])
def code_Info.res : (Int × (Int × Bool)) → AV × Blks
 | u => (Prod.mk (.tup [(.int .i64 u.1), (.int .i64 u.2.1), (.bool u.2.2)]) [])
def code_Info.resK {R : Type} (u : (Int × (Int × Bool))) (K : AV → Blks → Option R) : Option R := (fun p : AV × Blks => K p.1 p.2) (Prod.mk (.tup [(.int .i64 u.1), (.int .i64 u.2.1), (.bool u.2.2)]) [])
def code_Info.c (n : Nat) : Abs.Callee := .mk' [] [none] code_Info.pat (code_Info.m n) code_Info.resK
end
end
section
theorem code_Info.j10000.gmap {α β : Type} (h : β → α) (mk0 : Int → Int → Int → Bool → β) (mk1 : Int → β) (n : Nat) (x0 : Int) : code_Info.j10000.g (fun a0 a1 a2 a3 => (h (mk0 a0 a1 a2 a3))) (fun a0 => (h (mk1 a0))) n x0 = (code_Info.j10000.g mk0 mk1 n x0).map h := by
  unfold code_Info.j10000.g
  exact (ite_map (ite_map rfl (ite_map (ite_map rfl (ite_map (ite_map rfl (ite_map (ite_map rfl rfl) rfl)) (ite_map (ite_map rfl rfl) rfl))) (ite_map (ite_map rfl (ite_map (ite_map rfl rfl) rfl)) (ite_map (ite_map rfl rfl) rfl)))) (ite_map (ite_map rfl (ite_map (ite_map rfl (ite_map (ite_map rfl rfl) rfl)) (ite_map (ite_map rfl rfl) rfl))) (ite_map (ite_map rfl (ite_map (ite_map rfl rfl) rfl)) (ite_map (ite_map rfl rfl) rfl))))
theorem code_Info.j10000.pat_shape : ∀ st t, code_Info.j10000.pat st = some t → st = code_Info.j10000.shape t := by
  intro st t h
  unfold code_Info.j10000.pat at h
  split at h
  · cases h; rfl
  · cases h
theorem code_Info.j10000.run (n : Nat) (x0 : Int) : joinOf (code_Info.C n) (code_Info.A n) n code_Info.jc0 ((St.mk [(.int .u8 x0)] [])) = code_Info.j10000.g (fun a0 a1 a2 a3 => ((Prod.mk .ret (St.mk [(.int .u8 a0), (.int .i64 a1), (.int .i64 a2), (.bool a3)] [])) : Ex × St)) (fun a0 => ((Prod.mk .normal (St.mk [(.int .u8 a0), .any, .any, .any] [])) : Ex × St)) n x0 := by kernel_rfl
theorem code_Info.j10000.join (n : Nat) (t : Int) : joinOf (code_Info.C n) (code_Info.A n) n code_Info.jc0 (code_Info.j10000.shape t) = (code_Info.j10000.m n t).map code_Info.j10000.res :=
  (code_Info.j10000.run n t).trans (code_Info.j10000.gmap code_Info.j10000.res (fun a0 a1 a2 a3 => (.inl (a0, a1, a2, a3))) (fun a0 => (.inr a0)) n t)
theorem code_Info.gmap {α β : Type} (h : β → α) (mk0 : Int → Int → Bool → β) (n : Nat) (a0 : Int) : code_Info.g (fun a0 a1 a2 => (h (mk0 a0 a1 a2))) n a0 = (code_Info.g mk0 n a0).map h := by
  unfold code_Info.g
  exact (bindO_map fun r2 => match r2 with | (.inl r2) => rfl | (.inr r2) => (ite_map rfl (ite_map rfl (ite_map rfl (ite_map rfl (ite_map rfl (ite_map rfl (ite_map rfl (ite_map rfl (ite_map rfl (ite_map rfl (ite_map rfl (ite_map rfl (ite_map rfl (ite_map rfl (ite_map rfl (ite_map rfl (ite_map rfl (ite_map rfl (ite_map rfl (ite_map rfl (ite_map rfl (ite_map rfl (ite_map rfl (ite_map rfl (ite_map rfl (ite_map rfl (ite_map rfl (ite_map rfl (ite_map rfl (ite_map rfl (ite_map rfl (ite_map rfl (ite_map rfl (ite_map rfl (ite_map rfl (ite_map rfl (ite_map rfl (ite_map rfl (ite_map rfl (ite_map rfl (ite_map rfl (ite_map rfl (ite_map rfl (ite_map rfl (ite_map rfl (ite_map rfl (ite_map rfl (ite_map rfl (ite_map rfl (ite_map rfl (ite_map rfl (ite_map rfl (ite_map rfl (ite_map rfl (ite_map rfl (ite_map rfl (ite_map rfl (ite_map rfl (ite_map rfl (ite_map rfl (ite_map rfl (ite_map rfl (ite_map rfl (ite_map rfl (ite_map rfl (ite_map rfl (ite_map rfl (ite_map rfl (ite_map rfl (ite_map rfl (ite_map rfl (ite_map rfl (ite_map rfl rfl))))))))))))))))))))))))))))))))))))))))))))))))))))))))))))))))))))))))))
theorem code_Info.run (n : Nat) (a0 : Int) : runF (code_Info.C n) (code_Info.A n) n Try.f19 [(.int .u8 a0)] [] (fun v o => some (v, o)) = code_Info.g (fun a0 a1 a2 => ((Prod.mk (.tup [(.int .i64 a0), (.int .i64 a1), (.bool a2)]) []) : AV × Blks)) n a0 := by kernel_rfl
theorem code_Info.call (hmix : Try.prog.follows .mixedOrders = true) (n : Nat) (t : Int) (u) (h : code_Info.m n t = some u) : FnC Try.prog (fun _ => .any) 19 (code_Info.shape t).1 (code_Info.shape t).2 (code_Info.res u).1 (code_Info.res u).2 := by
  have hg : ∀ f m, (code_Info.C n).Γ f = some m → CalleeS Try.prog (fun _ => .any) f m := by
    intro f m hm
    unfold code_Info.C at hm
    simp only at hm
    first
    | (cases hm; done)
    | (split at hm <;> first
    | (cases hm; done))
  have hb : Try.f19.body = some (Try.f19.body.getD .skip) := by kernel_rfl
  refine runF_calls (C := code_Info.C n) (A := code_Info.A n) (n := n) (fn := Try.f19) hg hmix Try.func19 hb ?_ ?_ (by decide) rfl rfl (by show 1 ≤ Try.f19.ntmps; decide) ?_
  · rw [show loopsIn (Try.f19.body.getD .skip) = [] by kernel_rfl]
    intro b hb
    cases hb
  · intro a ha m hm
    have hm' := lookJ_mem (show lookJ [(10000, .mk' code_Info.j10000.pat (code_Info.j10000.m n) code_Info.j10000.resK)] (jkey a) = some m from hm)
    simp only [List.mem_cons, List.not_mem_nil, or_false, Prod.mk.injEq] at hm'
    rcases hm' with ⟨hk, rfl⟩
    · obtain rfl := only ha hk (c := code_Info.jc0) (by kernel_rfl)
      exact JoinS.of (res := code_Info.j10000.res) (fun R u K => by rcases u with u | u <;> rfl) code_Info.j10000.pat_shape fun t => code_Info.j10000.join n t
  · rw [show runF (code_Info.C n) (code_Info.A n) n Try.f19 (code_Info.shape t).1 (code_Info.shape t).2 (fun v o => some (v, o)) = _ from code_Info.run n t]
    have e := code_Info.gmap code_Info.res (fun a0 a1 a2 => (a0, a1, a2)) n t
    unfold code_Info.m at h
    rw [h] at e
    exact e
theorem code_Info.s (hmix : Try.prog.follows .mixedOrders = true) (n : Nat) : CalleeS Try.prog (fun _ => .any) 19 (code_Info.c n) :=
  CalleeS.of (res := code_Info.res) (shape := code_Info.shape) (fun R u K => rfl) (fun args lent t h => by
    unfold code_Info.pat at h
    split at h
    · cases h; rfl
    · cases h) fun t u h => (code_Info.call hmix n t u h).ok Try.func19 (by decide) (by kernel_rfl)
end
section
noncomputable section
noncomputable def q08_rows.C (n : Nat) : Ctx := ⟨Try.prog, (fun _ => .any), fun f => match f with
 | _ => none⟩
def q08_rows.live : Nat → List Nat × List Nat := fun k => match k with
 | _ => ([], [])
def q08_rows.jlive : Nat → List Nat × List Nat := fun k => match k with
 | _ => ([], [])
noncomputable def q08_rows.A (n : Nat) : Ann := ⟨Try.f50.ntmps, 0, q08_rows.live, [], [(some (.objs 65 3))], fun k => match k with
 | _ => none, q08_rows.jlive, lookJ []⟩
def q08_rows.g {α : Type} (mk0 : (List AV) → α) (n : Nat)  : Option α :=
 some (mk0 [(AV.agg [(AV.int .u8 0), (AV.int .i64 0), (AV.int .i64 0)]), (AV.agg [(AV.int .u8 1), (AV.int .i64 2), (AV.int .i64 1)]), (AV.agg [(AV.int .u8 2), (AV.int .i64 2), (AV.int .i64 1)]), (AV.agg [(AV.int .u8 3), (AV.int .i64 2), (AV.int .i64 1)]), (AV.agg [(AV.int .u8 4), (AV.int .i64 2), (AV.int .i64 1)]), (AV.agg [(AV.int .u8 5), (AV.int .i64 2), (AV.int .i64 1)]), (AV.agg [(AV.int .u8 6), (AV.int .i64 2), (AV.int .i64 1)]), (AV.agg [(AV.int .u8 7), (AV.int .i64 2), (AV.int .i64 1)]), (AV.agg [(AV.int .u8 8), (AV.int .i64 3), (AV.int .i64 1)]), (AV.agg [(AV.int .u8 9), (AV.int .i64 3), (AV.int .i64 1)]), (AV.agg [(AV.int .u8 10), (AV.int .i64 2), (AV.int .i64 1)]), (AV.agg [(AV.int .u8 11), (AV.int .i64 2), (AV.int .i64 1)]), (AV.agg [(AV.int .u8 16), (AV.int .i64 2), (AV.int .i64 1)]), (AV.agg [(AV.int .u8 17), (AV.int .i64 2), (AV.int .i64 1)]), (AV.agg [(AV.int .u8 18), (AV.int .i64 2), (AV.int .i64 1)]), (AV.agg [(AV.int .u8 19), (AV.int .i64 2), (AV.int .i64 1)]), (AV.agg [(AV.int .u8 20), (AV.int .i64 2), (AV.int .i64 1)]), (AV.agg [(AV.int .u8 21), (AV.int .i64 1), (AV.int .i64 1)]), (AV.agg [(AV.int .u8 22), (AV.int .i64 2), (AV.int .i64 1)]), (AV.agg [(AV.int .u8 23), (AV.int .i64 2), (AV.int .i64 1)]), (AV.agg [(AV.int .u8 24), (AV.int .i64 2), (AV.int .i64 1)]), (AV.agg [(AV.int .u8 25), (AV.int .i64 1), (AV.int .i64 1)]), (AV.agg [(AV.int .u8 26), (AV.int .i64 2), (AV.int .i64 1)]), (AV.agg [(AV.int .u8 27), (AV.int .i64 2), (AV.int .i64 1)]), (AV.agg [(AV.int .u8 28), (AV.int .i64 2), (AV.int .i64 1)]), (AV.agg [(AV.int .u8 29), (AV.int .i64 2), (AV.int .i64 1)]), (AV.agg [(AV.int .u8 32), (AV.int .i64 2), (AV.int .i64 1)]), (AV.agg [(AV.int .u8 48), (AV.int .i64 0), (AV.int .i64 1)]), (AV.agg [(AV.int .u8 49), (AV.int .i64 1), (AV.int .i64 1)]), (AV.agg [(AV.int .u8 50), (AV.int .i64 0), (AV.int .i64 1)]), (AV.agg [(AV.int .u8 51), (AV.int .i64 0), (AV.int .i64 1)]), (AV.agg [(AV.int .u8 52), (AV.int .i64 0), (AV.int .i64 1)]), (AV.agg [(AV.int .u8 53), (AV.int .i64 1), (AV.int .i64 1)]), (AV.agg [(AV.int .u8 54), (AV.int .i64 0), (AV.int .i64 1)]), (AV.agg [(AV.int .u8 55), (AV.int .i64 3), (AV.int .i64 0)]), (AV.agg [(AV.int .u8 56), (AV.int .i64 0), (AV.int .i64 1)]), (AV.agg [(AV.int .u8 57), (AV.int .i64 3), (AV.int .i64 0)]), (AV.agg [(AV.int .u8 58), (AV.int .i64 0), (AV.int .i64 1)]), (AV.agg [(AV.int .u8 59), (AV.int .i64 1), (AV.int .i64 1)]), (AV.agg [(AV.int .u8 60), (AV.int .i64 4), (AV.int .i64 0)]), (AV.agg [(AV.int .u8 61), (AV.int .i64 0), (AV.int .i64 1)]), (AV.agg [(AV.int .u8 62), (AV.int .i64 3), (AV.int .i64 0)]), (AV.agg [(AV.int .u8 63), (AV.int .i64 1), (AV.int .i64 1)]), (AV.agg [(AV.int .u8 64), (AV.int .i64 1), (AV.int .i64 1)]), (AV.agg [(AV.int .u8 65), (AV.int .i64 0), (AV.int .i64 1)]), (AV.agg [(AV.int .u8 66), (AV.int .i64 0), (AV.int .i64 1)]), (AV.agg [(AV.int .u8 67), (AV.int .i64 0), (AV.int .i64 1)]), (AV.agg [(AV.int .u8 68), (AV.int .i64 0), (AV.int .i64 1)]), (AV.agg [(AV.int .u8 69), (AV.int .i64 0), (AV.int .i64 1)]), (AV.agg [(AV.int .u8 70), (AV.int .i64 0), (AV.int .i64 1)]), (AV.agg [(AV.int .u8 71), (AV.int .i64 0), (AV.int .i64 1)]), (AV.agg [(AV.int .u8 72), (AV.int .i64 0), (AV.int .i64 1)]), (AV.agg [(AV.int .u8 80), (AV.int .i64 1), (AV.int .i64 0)]), (AV.agg [(AV.int .u8 81), (AV.int .i64 1), (AV.int .i64 1)]), (AV.agg [(AV.int .u8 82), (AV.int .i64 2), (AV.int .i64 0)]), (AV.agg [(AV.int .u8 83), (AV.int .i64 2), (AV.int .i64 0)]), (AV.agg [(AV.int .u8 84), (AV.int .i64 1), (AV.int .i64 1)]), (AV.agg [(AV.int .u8 85), (AV.int .i64 2), (AV.int .i64 0)]), (AV.agg [(AV.int .u8 86), (AV.int .i64 1), (AV.int .i64 0)]), (AV.agg [(AV.int .u8 87), (AV.int .i64 2), (AV.int .i64 0)]), (AV.agg [(AV.int .u8 88), (AV.int .i64 0), (AV.int .i64 1)]), (AV.agg [(AV.int .u8 89), (AV.int .i64 0), (AV.int .i64 1)]), (AV.agg [(AV.int .u8 90), (AV.int .i64 0), (AV.int .i64 1)]), (AV.agg [(AV.int .u8 91), (AV.int .i64 0), (AV.int .i64 0)]), (AV.agg [(AV.int .u8 240), (AV.int .i64 3), (AV.int .i64 1)]), (AV.agg [(AV.int .u8 241), (AV.int .i64 7), (AV.int .i64 1)]), (AV.agg [(AV.int .u8 242), (AV.int .i64 7), (AV.int .i64 1)]), (AV.agg [(AV.int .u8 243), (AV.int .i64 2), (AV.int .i64 0)]), (AV.agg [(AV.int .u8 244), (AV.int .i64 6), (AV.int .i64 1)]), (AV.agg [(AV.int .u8 245), (AV.int .i64 4), (AV.int .i64 1)]), (AV.agg [(AV.int .u8 250), (AV.int .i64 6), (AV.int .i64 1)]), (AV.agg [(AV.int .u8 253), (AV.int .i64 2), (AV.int .i64 0)]), (AV.agg [(AV.int .u8 255), (AV.int .i64 1), (AV.int .i64 0)])])
def q08_rows.m (n : Nat) (t : Unit) : Option (List AV) := q08_rows.g (fun a0 => a0) n 
def q08_rows.pat : List AV → Blks → Option Unit
 | [], [] => some ()
 | _, _ => none
def q08_rows.shape (t : Unit) : List AV × Blks := ([], [])
def q08_rows.res : (List AV) → AV × Blks
 | u => (Prod.mk (.own 0 3) [(some (.objs 65 3 u))])
def q08_rows.resK {R : Type} (u : (List AV)) (K : AV → Blks → Option R) : Option R := (fun p : AV × Blks => K p.1 p.2) (Prod.mk (.own 0 3) [(some (.objs 65 3 u))])
def q08_rows.c (n : Nat) : Abs.Callee := .mk' [] [] q08_rows.pat (q08_rows.m n) q08_rows.resK
end
end
section
noncomputable section
noncomputable def q08_Info.C (n : Nat) : Ctx := ⟨Try.prog, (fun _ => .any), fun f => match f with
 | 50 => some (q08_rows.c n)
 | _ => none⟩
def q08_Info.live : Nat → List Nat × List Nat := fun k => match k with
 | 12 => ([7, 6, 0], [2, 3, 4])
 | _ => ([], [])
def q08_Info.jlive : Nat → List Nat × List Nat := fun k => match k with
 | 10000 => ([5, 0], [0, 2, 3, 4])
 | _ => ([], [])
noncomputable def q08_Info.jc0 : Code := ((seqsIn (Try.f20.body.getD .skip)).filter fun a => jkey a == 10000).getD 0 .skip
def q08_Info.l12_0.r {α : Type} (mk0 : Int → Int → Bool → α) (mk1 : α) (n : Nat) (rc : Int → Int → (List AV) → Option α)  (x0 : Int) (x1 : Int) (x2 : (List AV)) : Option α :=
  if (decide (x0 < (((List.length x2) : Nat) : Int))) = true then
   if 0 ≤ x0 then
    if x0 < (((List.length x2) : Nat) : Int) then
     bindO (tkAgg 3 (List.getD x2 (Int.toNat x0) AV.any)) fun r10 =>
      bindO (tkInt .u8 (List.getD r10 0 AV.any)) fun r12 =>
       bindO (tkInt .i64 (List.getD r10 1 AV.any)) fun r14 =>
        bindO (tkInt .i64 (List.getD r10 2 AV.any)) fun r16 =>
         bindO (tkAgg 3 (List.getD x2 (Int.toNat x0) AV.any)) fun r18 =>
          bindO (tkInt .u8 (List.getD r18 0 AV.any)) fun r20 =>
           bindO (tkInt .i64 (List.getD r18 1 AV.any)) fun r22 =>
            bindO (tkInt .i64 (List.getD r18 2 AV.any)) fun r24 =>
             if (r20 == x1) = true then
              if 0 ≤ x0 then
               if x0 < (((List.length x2) : Nat) : Int) then
                bindO (tkAgg 3 (List.getD x2 (Int.toNat x0) AV.any)) fun r32 =>
                 bindO (tkInt .u8 (List.getD r32 0 AV.any)) fun r34 =>
                  bindO (tkInt .i64 (List.getD r32 1 AV.any)) fun r36 =>
                   bindO (tkInt .i64 (List.getD r32 2 AV.any)) fun r38 =>
                    bindO (tkAgg 3 (List.getD x2 (Int.toNat x0) AV.any)) fun r40 =>
                     bindO (tkInt .u8 (List.getD r40 0 AV.any)) fun r42 =>
                      bindO (tkInt .i64 (List.getD r40 1 AV.any)) fun r44 =>
                       bindO (tkInt .i64 (List.getD r40 2 AV.any)) fun r46 =>
                        if 0 ≤ x0 then
                         if x0 < (((List.length x2) : Nat) : Int) then
                          bindO (tkAgg 3 (List.getD x2 (Int.toNat x0) AV.any)) fun r52 =>
                           bindO (tkInt .u8 (List.getD r52 0 AV.any)) fun r54 =>
                            bindO (tkInt .i64 (List.getD r52 1 AV.any)) fun r56 =>
                             bindO (tkInt .i64 (List.getD r52 2 AV.any)) fun r58 =>
                              bindO (tkAgg 3 (List.getD x2 (Int.toNat x0) AV.any)) fun r60 =>
                               bindO (tkInt .u8 (List.getD r60 0 AV.any)) fun r62 =>
                                bindO (tkInt .i64 (List.getD r60 1 AV.any)) fun r64 =>
                                 bindO (tkInt .i64 (List.getD r60 2 AV.any)) fun r66 =>
                                  some (mk0 r44 r66 true)
                         else
                          none
                        else
                         none
               else
                none
              else
               none
             else
              rc (IntKind.wrap .i64 (x0 + 1)) x1 x2
    else
     none
   else
    none
  else
   some (mk1)
def q08_Info.l12_0.g {α : Type} (mk0 : Int → Int → Bool → α) (mk1 : α) (n : Nat) : Nat → Int → Int → (List AV) → Option α
 | 0, _, _, _ => none
 | m + 1, x0, x1, x2 => q08_Info.l12_0.r mk0 mk1 n (fun y0 y1 y2 => q08_Info.l12_0.g mk0 mk1 n m y0 y1 y2)  x0 x1 x2
def q08_Info.l12_0.m (n m : Nat) (t : (Int × (Int × (List AV)))) : Option ((Int × (Int × Bool)) ⊕ Unit) := q08_Info.l12_0.g (fun a0 a1 a2 => (.inl (a0, a1, a2))) (.inr ()) n m t.1 t.2.1 t.2.2
def q08_Info.l12_0.pat : St → Option (Int × (Int × (List AV)))
 | (St.mk [(.int .i64 x0), (.own 0 3), (.int .u8 x1)] [(some (.objs 65 3 x2))]) => some (x0, x1, x2)
 | _ => none
def q08_Info.l12_0.shape (t : (Int × (Int × (List AV)))) : St := (St.mk [(.int .i64 t.1), (.own 0 3), (.int .u8 t.2.1)] [(some (.objs 65 3 t.2.2))])
def q08_Info.l12_0.res : ((Int × (Int × Bool)) ⊕ Unit) → Ex × St
 | (.inl u) => (Prod.mk .ret (St.mk [(.int .i64 u.1), (.int .i64 u.2.1), (.bool u.2.2)] []))
 | (.inr u) => (Prod.mk (.exit 1) (St.mk [.any, .any, .any] []))
def q08_Info.l12_0.resK {R : Type} (u : ((Int × (Int × Bool)) ⊕ Unit)) (K : Ex → St → Option R) : Option R := match u with
 | (.inl u) => (fun p : Ex × St => K p.1 p.2) (Prod.mk .ret (St.mk [(.int .i64 u.1), (.int .i64 u.2.1), (.bool u.2.2)] []))
 | (.inr u) => (fun p : Ex × St => K p.1 p.2) (Prod.mk (.exit 1) (St.mk [.any, .any, .any] []))
def q08_Info.j10000.g {α : Type} (mk0 : Int → Int → Int → Bool → α) (mk1 : Int → α) (n : Nat) (x0 : Int) (x1 : Int) : Option α :=
  if (decide (x0 ≥ 95)) = true then
   if (decide (x0 ≤ 127)) = true then
    some (mk0 x1 0 1 true)
   else
    if (decide (x0 ≥ 128)) = true then
     if (decide (x0 ≤ 143)) = true then
      some (mk0 x1 (IntKind.wrap .i64 (x0 - 127)) (IntKind.wrap .i64 (x0 - 126)) true)
     else
      if (decide (x0 ≥ 144)) = true then
       if (decide (x0 ≤ 159)) = true then
        some (mk0 x1 (IntKind.wrap .i64 (x0 - 142)) (IntKind.wrap .i64 (x0 - 142)) true)
       else
        if (decide (x0 ≥ 160)) = true then
         if (decide (x0 ≤ 164)) = true then
          some (mk0 x1 (IntKind.wrap .i64 (x0 - 158)) 0 true)
         else
          some (mk1 x1)
        else
         some (mk1 x1)
      else
       if (decide (x0 ≥ 160)) = true then
        if (decide (x0 ≤ 164)) = true then
         some (mk0 x1 (IntKind.wrap .i64 (x0 - 158)) 0 true)
        else
         some (mk1 x1)
       else
        some (mk1 x1)
    else
     if (decide (x0 ≥ 144)) = true then
      if (decide (x0 ≤ 159)) = true then
       some (mk0 x1 (IntKind.wrap .i64 (x0 - 142)) (IntKind.wrap .i64 (x0 - 142)) true)
      else
       if (decide (x0 ≥ 160)) = true then
        if (decide (x0 ≤ 164)) = true then
         some (mk0 x1 (IntKind.wrap .i64 (x0 - 158)) 0 true)
        else
         some (mk1 x1)
       else
        some (mk1 x1)
     else
      if (decide (x0 ≥ 160)) = true then
       if (decide (x0 ≤ 164)) = true then
        some (mk0 x1 (IntKind.wrap .i64 (x0 - 158)) 0 true)
       else
        some (mk1 x1)
      else
       some (mk1 x1)
  else
   if (decide (x0 ≥ 128)) = true then
    if (decide (x0 ≤ 143)) = true then
     some (mk0 x1 (IntKind.wrap .i64 (x0 - 127)) (IntKind.wrap .i64 (x0 - 126)) true)
    else
     if (decide (x0 ≥ 144)) = true then
      if (decide (x0 ≤ 159)) = true then
       some (mk0 x1 (IntKind.wrap .i64 (x0 - 142)) (IntKind.wrap .i64 (x0 - 142)) true)
      else
       if (decide (x0 ≥ 160)) = true then
        if (decide (x0 ≤ 164)) = true then
         some (mk0 x1 (IntKind.wrap .i64 (x0 - 158)) 0 true)
        else
         some (mk1 x1)
       else
        some (mk1 x1)
     else
      if (decide (x0 ≥ 160)) = true then
       if (decide (x0 ≤ 164)) = true then
        some (mk0 x1 (IntKind.wrap .i64 (x0 - 158)) 0 true)
       else
        some (mk1 x1)
      else
       some (mk1 x1)
   else
    if (decide (x0 ≥ 144)) = true then
     if (decide (x0 ≤ 159)) = true then
      some (mk0 x1 (IntKind.wrap .i64 (x0 - 142)) (IntKind.wrap .i64 (x0 - 142)) true)
     else
      if (decide (x0 ≥ 160)) = true then
       if (decide (x0 ≤ 164)) = true then
        some (mk0 x1 (IntKind.wrap .i64 (x0 - 158)) 0 true)
       else
        some (mk1 x1)
      else
       some (mk1 x1)
    else
     if (decide (x0 ≥ 160)) = true then
      if (decide (x0 ≤ 164)) = true then
       some (mk0 x1 (IntKind.wrap .i64 (x0 - 158)) 0 true)
      else
       some (mk1 x1)
     else
      some (mk1 x1)
def q08_Info.j10000.m (n : Nat) (t : (Int × Int)) : Option ((Int × (Int × (Int × Bool))) ⊕ Int) := q08_Info.j10000.g (fun a0 a1 a2 a3 => (.inl (a0, a1, a2, a3))) (fun a0 => (.inr a0)) n t.1 t.2
def q08_Info.j10000.pat : St → Option (Int × Int)
 | (St.mk [(.int .i64 x0), (.int .u8 x1)] []) => some (x0, x1)
 | _ => none
def q08_Info.j10000.shape (t : (Int × Int)) : St := (St.mk [(.int .i64 t.1), (.int .u8 t.2)] [])
def q08_Info.j10000.res : ((Int × (Int × (Int × Bool))) ⊕ Int) → Ex × St
 | (.inl u) => (Prod.mk .ret (St.mk [(.int .u8 u.1), (.int .i64 u.2.1), (.int .i64 u.2.2.1), (.bool u.2.2.2)] []))
 | (.inr u) => (Prod.mk .normal (St.mk [(.int .u8 u), .any, .any, .any] []))
def q08_Info.j10000.resK {R : Type} (u : ((Int × (Int × (Int × Bool))) ⊕ Int)) (K : Ex → St → Option R) : Option R := match u with
 | (.inl u) => (fun p : Ex × St => K p.1 p.2) (Prod.mk .ret (St.mk [(.int .u8 u.1), (.int .i64 u.2.1), (.int .i64 u.2.2.1), (.bool u.2.2.2)] []))
 | (.inr u) => (fun p : Ex × St => K p.1 p.2) (Prod.mk .normal (St.mk [(.int .u8 u), .any, .any, .any] []))
noncomputable def q08_Info.A (n : Nat) : Ann := ⟨Try.f20.ntmps, 0, q08_Info.live, [(6, (.objs 65 3))], [none, none, none], fun k => match k with
 | 12 => some (.mk' q08_Info.l12_0.pat (q08_Info.l12_0.m n n) q08_Info.l12_0.resK)
 | _ => none, q08_Info.jlive, lookJ [(10000, .mk' q08_Info.j10000.pat (q08_Info.j10000.m n) q08_Info.j10000.resK)]⟩
noncomputable def q08_Info.b0 : Code := (loopsIn (Try.f20.body.getD .skip)).getD 0 .skip
def q08_Info.g {α : Type} (mk0 : Int → Int → Bool → α) (n : Nat) (a0 : Int) : Option α :=
 bindO (q08_Info.j10000.m n ((IntKind.wrap .i64 a0), a0)) fun r2 => match r2 with
  | (.inl r2) =>
   some (mk0 (Prod.fst (Prod.snd r2)) (Prod.fst (Prod.snd (Prod.snd r2))) (Prod.snd (Prod.snd (Prod.snd r2))))
  | (.inr r2) =>
   bindO (q08_rows.m n Unit.unit) fun r6 =>
    bindO (q08_Info.l12_0.m n n (0, r2, r6)) fun r8 => match r8 with
     | (.inl r8) =>
      some (mk0 (Prod.fst r8) (Prod.fst (Prod.snd r8)) (Prod.snd (Prod.snd r8)))
     | (.inr r8) =>
      some (mk0 0 0 false)
def q08_Info.m (n : Nat) (t : Int) : Option (Int × (Int × Bool)) := q08_Info.g (fun a0 a1 a2 => (a0, a1, a2)) n t
def q08_Info.pat : List AV → Blks → Option Int
 | [(.int .u8 a0)], [] => some a0
 | _, _ => none
def q08_Info.shape (t : Int) : List AV × Blks := ([(.int .u8 t)], [])
def q08_Info.res : (Int × (Int × Bool)) → AV × Blks
 | u => (Prod.mk (.tup [(.int .i64 u.1), (.int .i64 u.2.1), (.bool u.2.2)]) [])
def q08_Info.resK {R : Type} (u : (Int × (Int × Bool))) (K : AV → Blks → Option R) : Option R := (fun p : AV × Blks => K p.1 p.2) (Prod.mk (.tup [(.int .i64 u.1), (.int .i64 u.2.1), (.bool u.2.2)]) [])
def q08_Info.c (n : Nat) : Abs.Callee := .mk' [] [none] q08_Info.pat (q08_Info.m n) q08_Info.resK
end
end
section
theorem q08_rows.gmap {α β : Type} (h : β → α) (mk0 : (List AV) → β) (n : Nat)  : q08_rows.g (fun a0 => (h (mk0 a0))) n  = (q08_rows.g mk0 n ).map h := by
  unfold q08_rows.g
  exact rfl
theorem q08_rows.run (n : Nat)  : runF (q08_rows.C n) (q08_rows.A n) n Try.f50 [] [] (fun v o => some (v, o)) = q08_rows.g (fun a0 => ((Prod.mk (.own 0 3) [(some (.objs 65 3 a0))]) : AV × Blks)) n  := by kernel_rfl
theorem q08_rows.call (hmix : Try.prog.follows .mixedOrders = true) (n : Nat) (t : Unit) (u) (h : q08_rows.m n t = some u) : FnC Try.prog (fun _ => .any) 50 (q08_rows.shape t).1 (q08_rows.shape t).2 (q08_rows.res u).1 (q08_rows.res u).2 := by
  have hg : ∀ f m, (q08_rows.C n).Γ f = some m → CalleeS Try.prog (fun _ => .any) f m := by
    intro f m hm
    unfold q08_rows.C at hm
    simp only at hm
    first
    | (cases hm; done)
    | (split at hm <;> first
    | (cases hm; done))
  have hb : Try.f50.body = some (Try.f50.body.getD .skip) := by kernel_rfl
  refine runF_calls (C := q08_rows.C n) (A := q08_rows.A n) (n := n) (fn := Try.f50) hg hmix Try.func50 hb ?_ ?_ (by decide) rfl rfl (by show 0 ≤ Try.f50.ntmps; decide) ?_
  · rw [show loopsIn (Try.f50.body.getD .skip) = [] by kernel_rfl]
    intro b hb
    cases hb
  · intro a ha m hm
    cases (show none = some m from hm)
  · rw [show runF (q08_rows.C n) (q08_rows.A n) n Try.f50 (q08_rows.shape t).1 (q08_rows.shape t).2 (fun v o => some (v, o)) = _ from q08_rows.run n ]
    have e := q08_rows.gmap q08_rows.res (fun a0 => a0) n 
    unfold q08_rows.m at h
    rw [h] at e
    exact e
theorem q08_rows.s (hmix : Try.prog.follows .mixedOrders = true) (n : Nat) : CalleeS Try.prog (fun _ => .any) 50 (q08_rows.c n) :=
  CalleeS.of (res := q08_rows.res) (shape := q08_rows.shape) (fun R u K => rfl) (fun args lent t h => by
    unfold q08_rows.pat at h
    split at h
    · cases h; rfl
    · cases h) fun t u h => (q08_rows.call hmix n t u h).ok Try.func50 (by decide) (by kernel_rfl)
end
section
theorem q08_Info.l12_0.rmap {α β : Type} (h : β → α) (mk0 : Int → Int → Bool → β) (mk1 : β) (n : Nat) (f : Int → Int → (List AV) → Option β)  (x0 : Int) (x1 : Int) (x2 : (List AV)) : q08_Info.l12_0.r (fun a0 a1 a2 => (h (mk0 a0 a1 a2))) (h mk1) n (fun y0 y1 y2 => (f y0 y1 y2).map h) x0 x1 x2 = (q08_Info.l12_0.r mk0 mk1 n f x0 x1 x2).map h := by
  unfold q08_Info.l12_0.r
  exact (ite_map (ite_map (ite_map (bindO_map fun r10 => (bindO_map fun r12 => (bindO_map fun r14 => (bindO_map fun r16 => (bindO_map fun r18 => (bindO_map fun r20 => (bindO_map fun r22 => (bindO_map fun r24 => (ite_map (ite_map (ite_map (bindO_map fun r32 => (bindO_map fun r34 => (bindO_map fun r36 => (bindO_map fun r38 => (bindO_map fun r40 => (bindO_map fun r42 => (bindO_map fun r44 => (bindO_map fun r46 => (ite_map (ite_map (bindO_map fun r52 => (bindO_map fun r54 => (bindO_map fun r56 => (bindO_map fun r58 => (bindO_map fun r60 => (bindO_map fun r62 => (bindO_map fun r64 => (bindO_map fun r66 => rfl)))))))) rfl) rfl))))))))) rfl) rfl) rfl))))))))) rfl) rfl) rfl)
theorem q08_Info.l12_0.gmap {α β : Type} (h : β → α) (mk0 : Int → Int → Bool → β) (mk1 : β) (n : Nat) : ∀ (m : Nat) (x0 : Int) (x1 : Int) (x2 : (List AV)), q08_Info.l12_0.g (fun a0 a1 a2 => (h (mk0 a0 a1 a2))) (h mk1) n m x0 x1 x2 = (q08_Info.l12_0.g mk0 mk1 n m x0 x1 x2).map h
  | 0, _, _, _ => rfl
  | m + 1, x0, x1, x2 => by
    unfold q08_Info.l12_0.g
    rw [← q08_Info.l12_0.rmap]
    congr
    · funext y0 y1 y2; exact q08_Info.l12_0.gmap h mk0 mk1 n m y0 y1 y2
theorem q08_Info.l12_0.pat_shape : ∀ st t, q08_Info.l12_0.pat st = some t → st = q08_Info.l12_0.shape t := by
  intro st t h
  unfold q08_Info.l12_0.pat at h
  split at h
  · cases h; rfl
  · cases h
theorem q08_Info.l12_0.round (n : Nat) (rc : St → Option (Ex × St)) (x0 : Int) (x1 : Int) (x2 : (List AV)) : roundOf (q08_Info.C n) (q08_Info.A n) n q08_Info.b0 rc ((St.mk [(.int .i64 x0), (.own 0 3), (.int .u8 x1)] [(some (.objs 65 3 x2))])) = q08_Info.l12_0.r (fun a0 a1 a2 => ((Prod.mk .ret (St.mk [(.int .i64 a0), (.int .i64 a1), (.bool a2)] [])) : Ex × St)) ((Prod.mk (.exit 1) (St.mk [.any, .any, .any] [])) : Ex × St) n (fun y0 y1 y2 => rc ((St.mk [(.int .i64 y0), (.own 0 3), (.int .u8 y1)] [(some (.objs 65 3 y2))]))) x0 x1 x2 := by kernel_rfl
theorem q08_Info.l12_0.loop' (n : Nat) : ∀ (m : Nat) (t : (Int × (Int × (List AV)))), loopOf (roundOf (q08_Info.C n) (q08_Info.A n) n q08_Info.b0) m (q08_Info.l12_0.shape t) = q08_Info.l12_0.g (fun a0 a1 a2 => ((Prod.mk .ret (St.mk [(.int .i64 a0), (.int .i64 a1), (.bool a2)] [])) : Ex × St)) ((Prod.mk (.exit 1) (St.mk [.any, .any, .any] [])) : Ex × St) n m t.1 t.2.1 t.2.2 :=
  loop_of_round (shape := q08_Info.l12_0.shape) (body := roundOf (q08_Info.C n) (q08_Info.A n) n q08_Info.b0) (g := fun m t => q08_Info.l12_0.g (fun a0 a1 a2 => ((Prod.mk .ret (St.mk [(.int .i64 a0), (.int .i64 a1), (.bool a2)] [])) : Ex × St)) ((Prod.mk (.exit 1) (St.mk [.any, .any, .any] [])) : Ex × St) n m t.1 t.2.1 t.2.2) (fun t => rfl)
    fun m t ih => (q08_Info.l12_0.round n (loopOf (roundOf (q08_Info.C n) (q08_Info.A n) n q08_Info.b0) m) t.1 t.2.1 t.2.2).trans (congrFun (congrFun (congrFun (congrArg (q08_Info.l12_0.r (fun a0 a1 a2 => ((Prod.mk .ret (St.mk [(.int .i64 a0), (.int .i64 a1), (.bool a2)] [])) : Ex × St)) ((Prod.mk (.exit 1) (St.mk [.any, .any, .any] [])) : Ex × St) n) (funext fun y0 => funext fun y1 => funext fun y2 => ih (y0, y1, y2))) t.1) t.2.1) t.2.2)
theorem q08_Info.l12_0.loop (n m : Nat) (t : (Int × (Int × (List AV)))) : loopOf (roundOf (q08_Info.C n) (q08_Info.A n) n q08_Info.b0) m (q08_Info.l12_0.shape t) = (q08_Info.l12_0.m n m t).map q08_Info.l12_0.res :=
  (q08_Info.l12_0.loop' n m t).trans (q08_Info.l12_0.gmap q08_Info.l12_0.res (fun a0 a1 a2 => (.inl (a0, a1, a2))) (.inr ()) n m t.1 t.2.1 t.2.2)
theorem q08_Info.j10000.gmap {α β : Type} (h : β → α) (mk0 : Int → Int → Int → Bool → β) (mk1 : Int → β) (n : Nat) (x0 : Int) (x1 : Int) : q08_Info.j10000.g (fun a0 a1 a2 a3 => (h (mk0 a0 a1 a2 a3))) (fun a0 => (h (mk1 a0))) n x0 x1 = (q08_Info.j10000.g mk0 mk1 n x0 x1).map h := by
  unfold q08_Info.j10000.g
  exact (ite_map (ite_map rfl (ite_map (ite_map rfl (ite_map (ite_map rfl (ite_map (ite_map rfl rfl) rfl)) (ite_map (ite_map rfl rfl) rfl))) (ite_map (ite_map rfl (ite_map (ite_map rfl rfl) rfl)) (ite_map (ite_map rfl rfl) rfl)))) (ite_map (ite_map rfl (ite_map (ite_map rfl (ite_map (ite_map rfl rfl) rfl)) (ite_map (ite_map rfl rfl) rfl))) (ite_map (ite_map rfl (ite_map (ite_map rfl rfl) rfl)) (ite_map (ite_map rfl rfl) rfl))))
theorem q08_Info.j10000.pat_shape : ∀ st t, q08_Info.j10000.pat st = some t → st = q08_Info.j10000.shape t := by
  intro st t h
  unfold q08_Info.j10000.pat at h
  split at h
  · cases h; rfl
  · cases h
theorem q08_Info.j10000.run (n : Nat) (x0 : Int) (x1 : Int) : joinOf (q08_Info.C n) (q08_Info.A n) n q08_Info.jc0 ((St.mk [(.int .i64 x0), (.int .u8 x1)] [])) = q08_Info.j10000.g (fun a0 a1 a2 a3 => ((Prod.mk .ret (St.mk [(.int .u8 a0), (.int .i64 a1), (.int .i64 a2), (.bool a3)] [])) : Ex × St)) (fun a0 => ((Prod.mk .normal (St.mk [(.int .u8 a0), .any, .any, .any] [])) : Ex × St)) n x0 x1 := by kernel_rfl
theorem q08_Info.j10000.join (n : Nat) (t : (Int × Int)) : joinOf (q08_Info.C n) (q08_Info.A n) n q08_Info.jc0 (q08_Info.j10000.shape t) = (q08_Info.j10000.m n t).map q08_Info.j10000.res :=
  (q08_Info.j10000.run n t.1 t.2).trans (q08_Info.j10000.gmap q08_Info.j10000.res (fun a0 a1 a2 a3 => (.inl (a0, a1, a2, a3))) (fun a0 => (.inr a0)) n t.1 t.2)
theorem q08_Info.gmap {α β : Type} (h : β → α) (mk0 : Int → Int → Bool → β) (n : Nat) (a0 : Int) : q08_Info.g (fun a0 a1 a2 => (h (mk0 a0 a1 a2))) n a0 = (q08_Info.g mk0 n a0).map h := by
  unfold q08_Info.g
  exact (bindO_map fun r2 => match r2 with | (.inl r2) => rfl | (.inr r2) => (bindO_map fun r6 => (bindO_map fun r8 => match r8 with | (.inl r8) => rfl | (.inr r8) => rfl)))
theorem q08_Info.run (n : Nat) (a0 : Int) : runF (q08_Info.C n) (q08_Info.A n) n Try.f20 [(.int .u8 a0)] [] (fun v o => some (v, o)) = q08_Info.g (fun a0 a1 a2 => ((Prod.mk (.tup [(.int .i64 a0), (.int .i64 a1), (.bool a2)]) []) : AV × Blks)) n a0 := by kernel_rfl
theorem q08_Info.call (hmix : Try.prog.follows .mixedOrders = true) (n : Nat) (t : Int) (u) (h : q08_Info.m n t = some u) : FnC Try.prog (fun _ => .any) 20 (q08_Info.shape t).1 (q08_Info.shape t).2 (q08_Info.res u).1 (q08_Info.res u).2 := by
  have hg : ∀ f m, (q08_Info.C n).Γ f = some m → CalleeS Try.prog (fun _ => .any) f m := by
    intro f m hm
    unfold q08_Info.C at hm
    simp only at hm
    first
    | (cases hm; done)
    | (split at hm <;> first
    | (cases hm; exact q08_rows.s hmix n)
    | (cases hm; done))
  have hb : Try.f20.body = some (Try.f20.body.getD .skip) := by kernel_rfl
  refine runF_calls (C := q08_Info.C n) (A := q08_Info.A n) (n := n) (fn := Try.f20) hg hmix Try.func20 hb ?_ ?_ (by decide) rfl rfl (by show 1 ≤ Try.f20.ntmps; decide) ?_
  · rw [show loopsIn (Try.f20.body.getD .skip) = [q08_Info.b0] by kernel_rfl]
    intro b hb m hm
    simp only [List.mem_cons, List.not_mem_nil, or_false] at hb
    rcases hb with rfl
    · have e : (q08_Info.A n).loop (key q08_Info.b0) = some (.mk' q08_Info.l12_0.pat (q08_Info.l12_0.m n n) q08_Info.l12_0.resK) := by rw [show key q08_Info.b0 = 12 by kernel_rfl]; rfl
      rw [e] at hm
      cases hm
      exact LoopS.of (res := q08_Info.l12_0.res) (fun R u K => by rcases u with u | u <;> rfl) q08_Info.l12_0.pat_shape fun t => q08_Info.l12_0.loop n n t
  · intro a ha m hm
    have hm' := lookJ_mem (show lookJ [(10000, .mk' q08_Info.j10000.pat (q08_Info.j10000.m n) q08_Info.j10000.resK)] (jkey a) = some m from hm)
    simp only [List.mem_cons, List.not_mem_nil, or_false, Prod.mk.injEq] at hm'
    rcases hm' with ⟨hk, rfl⟩
    · obtain rfl := only ha hk (c := q08_Info.jc0) (by kernel_rfl)
      exact JoinS.of (res := q08_Info.j10000.res) (fun R u K => by rcases u with u | u <;> rfl) q08_Info.j10000.pat_shape fun t => q08_Info.j10000.join n t
  · rw [show runF (q08_Info.C n) (q08_Info.A n) n Try.f20 (q08_Info.shape t).1 (q08_Info.shape t).2 (fun v o => some (v, o)) = _ from q08_Info.run n t]
    have e := q08_Info.gmap q08_Info.res (fun a0 a1 a2 => (a0, a1, a2)) n t
    unfold q08_Info.m at h
    rw [h] at e
    exact e
theorem q08_Info.s (hmix : Try.prog.follows .mixedOrders = true) (n : Nat) : CalleeS Try.prog (fun _ => .any) 20 (q08_Info.c n) :=
  CalleeS.of (res := q08_Info.res) (shape := q08_Info.shape) (fun R u K => rfl) (fun args lent t h => by
    unfold q08_Info.pat at h
    split at h
    · cases h; rfl
    · cases h) fun t u h => (q08_Info.call hmix n t u h).ok Try.func20 (by decide) (by kernel_rfl)
end
section
noncomputable section
noncomputable def calc_compare.C (n : Nat) : Ctx := ⟨Try.prog, (fun _ => .any), fun f => match f with
 | 83 => some (word_Cmp.c n)
 | 84 => some (word_Scmp.c n)
 | _ => none⟩
def calc_compare.live : Nat → List Nat × List Nat := fun k => match k with
 | _ => ([], [])
def calc_compare.jlive : Nat → List Nat × List Nat := fun k => match k with
 | _ => ([], [])
noncomputable def calc_compare.A (n : Nat) : Ann := ⟨Try.f61.ntmps, 0, calc_compare.live, [], [none], fun k => match k with
 | _ => none, calc_compare.jlive, lookJ []⟩
def calc_compare.g {α : Type} (mk0 : Bool → α) (n : Nat) (a0 : Int) (a1 : (List Int)) (a2 : (List Int)) : Option α :=
 if (a0 == 17) = true then
  bindO (word_Cmp.m n (Prod.mk a2 a1)) fun r4 =>
   some (mk0 (decide (r4 < 0)))
 else
  if (a0 == 16) = true then
   bindO (word_Cmp.m n (Prod.mk a1 a2)) fun r6 =>
    some (mk0 (decide (r6 < 0)))
  else
   if (a0 == 19) = true then
    bindO (word_Scmp.m n (Prod.mk a2 a1)) fun r8 =>
     some (mk0 (decide (r8 < 0)))
   else
    if (a0 == 18) = true then
     bindO (word_Scmp.m n (Prod.mk a1 a2)) fun r10 =>
      some (mk0 (decide (r10 < 0)))
    else
     some (mk0 (a1 == a2))
def calc_compare.m (n : Nat) (t : (Int × ((List Int) × (List Int)))) : Option Bool := calc_compare.g (fun a0 => a0) n t.1 t.2.1 t.2.2
def calc_compare.pat : List AV → Blks → Option (Int × ((List Int) × (List Int)))
 | [(.int .u8 a0), (.ints .u64 4 a1), (.ints .u64 4 a2)], [] => some (a0, a1, a2)
 | _, _ => none
def calc_compare.shape (t : (Int × ((List Int) × (List Int)))) : List AV × Blks := ([(.int .u8 t.1), (.ints .u64 4 t.2.1), (.ints .u64 4 t.2.2)], [])
def calc_compare.res : Bool → AV × Blks
 | u => (Prod.mk (.bool u) [])
def calc_compare.resK {R : Type} (u : Bool) (K : AV → Blks → Option R) : Option R := (fun p : AV × Blks => K p.1 p.2) (Prod.mk (.bool u) [])
def calc_compare.c (n : Nat) : Abs.Callee := .mk' [] [none, none, none] calc_compare.pat (calc_compare.m n) calc_compare.resK
end
end
section
noncomputable section
noncomputable def calc_truth.C (n : Nat) : Ctx := ⟨Try.prog, (fun _ => .any), fun f => match f with
 | 82 => some (word_From.c n)
 | _ => none⟩
def calc_truth.live : Nat → List Nat × List Nat := fun k => match k with
 | _ => ([], [])
def calc_truth.jlive : Nat → List Nat × List Nat := fun k => match k with
 | _ => ([], [])
noncomputable def calc_truth.A (n : Nat) : Ann := ⟨Try.f60.ntmps, 0, calc_truth.live, [], [none], fun k => match k with
 | _ => none, calc_truth.jlive, lookJ []⟩
def calc_truth.g {α : Type} (mk0 : (List Int) → α) (n : Nat) (a0 : Bool) : Option α :=
 if a0 = true then
  bindO (word_From.m n 1) fun r4 =>
   some (mk0 r4)
 else
  some (mk0 [0, 0, 0, 0])
def calc_truth.m (n : Nat) (t : Bool) : Option (List Int) := calc_truth.g (fun a0 => a0) n t
def calc_truth.pat : List AV → Blks → Option Bool
 | [(.bool a0)], [] => some a0
 | _, _ => none
def calc_truth.shape (t : Bool) : List AV × Blks := ([(.bool t)], [])
def calc_truth.res : (List Int) → AV × Blks
 | u => (Prod.mk (.ints .u64 4 u) [])
def calc_truth.resK {R : Type} (u : (List Int)) (K : AV → Blks → Option R) : Option R := (fun p : AV × Blks => K p.1 p.2) (Prod.mk (.ints .u64 4 u) [])
def calc_truth.c (n : Nat) : Abs.Callee := .mk' [] [none] calc_truth.pat (calc_truth.m n) calc_truth.resK
end
end
section
noncomputable section
noncomputable def calc_and.C (n : Nat) : Ctx := ⟨Try.prog, (fun _ => .any), fun f => match f with
 | _ => none⟩
def calc_and.live : Nat → List Nat × List Nat := fun k => match k with
 | _ => ([], [])
def calc_and.jlive : Nat → List Nat × List Nat := fun k => match k with
 | _ => ([], [])
noncomputable def calc_and.A (n : Nat) : Ann := ⟨Try.f63.ntmps, 0, calc_and.live, [], [none], fun k => match k with
 | _ => none, calc_and.jlive, lookJ []⟩
def calc_and.g {α : Type} (mk0 : Int → α) (n : Nat) (a0 : Int) (a1 : Int) : Option α :=
 some (mk0 (ibits BinOp.and .u64 a0 a1))
def calc_and.m (n : Nat) (t : (Int × Int)) : Option Int := calc_and.g (fun a0 => a0) n t.1 t.2
def calc_and.pat : List AV → Blks → Option (Int × Int)
 | [(.int .u64 a0), (.int .u64 a1)], [] => some (a0, a1)
 | _, _ => none
def calc_and.shape (t : (Int × Int)) : List AV × Blks := ([(.int .u64 t.1), (.int .u64 t.2)], [])
def calc_and.res : Int → AV × Blks
 | u => (Prod.mk (.int .u64 u) [])
def calc_and.resK {R : Type} (u : Int) (K : AV → Blks → Option R) : Option R := (fun p : AV × Blks => K p.1 p.2) (Prod.mk (.int .u64 u) [])
def calc_and.c (n : Nat) : Abs.Callee := .mk' [] [none, none] calc_and.pat (calc_and.m n) calc_and.resK
end
end
section
noncomputable section
noncomputable def calc_or.C (n : Nat) : Ctx := ⟨Try.prog, (fun _ => .any), fun f => match f with
 | _ => none⟩
def calc_or.live : Nat → List Nat × List Nat := fun k => match k with
 | _ => ([], [])
def calc_or.jlive : Nat → List Nat × List Nat := fun k => match k with
 | _ => ([], [])
noncomputable def calc_or.A (n : Nat) : Ann := ⟨Try.f64.ntmps, 0, calc_or.live, [], [none], fun k => match k with
 | _ => none, calc_or.jlive, lookJ []⟩
def calc_or.g {α : Type} (mk0 : Int → α) (n : Nat) (a0 : Int) (a1 : Int) : Option α :=
 some (mk0 (ibits BinOp.or .u64 a0 a1))
def calc_or.m (n : Nat) (t : (Int × Int)) : Option Int := calc_or.g (fun a0 => a0) n t.1 t.2
def calc_or.pat : List AV → Blks → Option (Int × Int)
 | [(.int .u64 a0), (.int .u64 a1)], [] => some (a0, a1)
 | _, _ => none
def calc_or.shape (t : (Int × Int)) : List AV × Blks := ([(.int .u64 t.1), (.int .u64 t.2)], [])
def calc_or.res : Int → AV × Blks
 | u => (Prod.mk (.int .u64 u) [])
def calc_or.resK {R : Type} (u : Int) (K : AV → Blks → Option R) : Option R := (fun p : AV × Blks => K p.1 p.2) (Prod.mk (.int .u64 u) [])
def calc_or.c (n : Nat) : Abs.Callee := .mk' [] [none, none] calc_or.pat (calc_or.m n) calc_or.resK
end
end
section
noncomputable section
noncomputable def calc_xor.C (n : Nat) : Ctx := ⟨Try.prog, (fun _ => .any), fun f => match f with
 | _ => none⟩
def calc_xor.live : Nat → List Nat × List Nat := fun k => match k with
 | _ => ([], [])
def calc_xor.jlive : Nat → List Nat × List Nat := fun k => match k with
 | _ => ([], [])
noncomputable def calc_xor.A (n : Nat) : Ann := ⟨Try.f65.ntmps, 0, calc_xor.live, [], [none], fun k => match k with
 | _ => none, calc_xor.jlive, lookJ []⟩
def calc_xor.g {α : Type} (mk0 : Int → α) (n : Nat) (a0 : Int) (a1 : Int) : Option α :=
 some (mk0 (ibits BinOp.xor .u64 a0 a1))
def calc_xor.m (n : Nat) (t : (Int × Int)) : Option Int := calc_xor.g (fun a0 => a0) n t.1 t.2
def calc_xor.pat : List AV → Blks → Option (Int × Int)
 | [(.int .u64 a0), (.int .u64 a1)], [] => some (a0, a1)
 | _, _ => none
def calc_xor.shape (t : (Int × Int)) : List AV × Blks := ([(.int .u64 t.1), (.int .u64 t.2)], [])
def calc_xor.res : Int → AV × Blks
 | u => (Prod.mk (.int .u64 u) [])
def calc_xor.resK {R : Type} (u : Int) (K : AV → Blks → Option R) : Option R := (fun p : AV × Blks => K p.1 p.2) (Prod.mk (.int .u64 u) [])
def calc_xor.c (n : Nat) : Abs.Callee := .mk' [] [none, none] calc_xor.pat (calc_xor.m n) calc_xor.resK
end
end
section
noncomputable section
noncomputable def calc_nor.C (n : Nat) : Ctx := ⟨Try.prog, (fun _ => .any), fun f => match f with
 | _ => none⟩
def calc_nor.live : Nat → List Nat × List Nat := fun k => match k with
 | _ => ([], [])
def calc_nor.jlive : Nat → List Nat × List Nat := fun k => match k with
 | _ => ([], [])
noncomputable def calc_nor.A (n : Nat) : Ann := ⟨Try.f66.ntmps, 0, calc_nor.live, [], [none], fun k => match k with
 | _ => none, calc_nor.jlive, lookJ []⟩
def calc_nor.g {α : Type} (mk0 : Int → α) (n : Nat) (a0 : Int) (a1 : Int) : Option α :=
 some (mk0 (ibits BinOp.xor .u64 (if false = true then (-1) else 18446744073709551615) (ibits BinOp.or .u64 a0 a1)))
def calc_nor.m (n : Nat) (t : (Int × Int)) : Option Int := calc_nor.g (fun a0 => a0) n t.1 t.2
def calc_nor.pat : List AV → Blks → Option (Int × Int)
 | [(.int .u64 a0), (.int .u64 a1)], [] => some (a0, a1)
 | _, _ => none
def calc_nor.shape (t : (Int × Int)) : List AV × Blks := ([(.int .u64 t.1), (.int .u64 t.2)], [])
def calc_nor.res : Int → AV × Blks
 | u => (Prod.mk (.int .u64 u) [])
def calc_nor.resK {R : Type} (u : Int) (K : AV → Blks → Option R) : Option R := (fun p : AV × Blks => K p.1 p.2) (Prod.mk (.int .u64 u) [])
def calc_nor.c (n : Nat) : Abs.Callee := .mk' [] [none, none] calc_nor.pat (calc_nor.m n) calc_nor.resK
end
end
section
noncomputable section
noncomputable def calc_each_and.C (n : Nat) : Ctx := ⟨Try.prog, (fun _ => .any), fun f => match f with
 | 63 => some (calc_and.c n)
 | 64 => some (calc_or.c n)
 | 65 => some (calc_xor.c n)
 | 66 => some (calc_nor.c n)
 | _ => none⟩
def calc_each_and.live : Nat → List Nat × List Nat := fun k => match k with
 | 3 => ([9, 2, 3, 4, 7, 6], [7, 6])
 | _ => ([], [])
def calc_each_and.jlive : Nat → List Nat × List Nat := fun k => match k with
 | _ => ([], [])
def calc_each_and.l3_0.r {α : Type} (mk0 : (List Int) → (List Int) → α) (n : Nat) (rc : Int → (List Int) → (List Int) → (List Int) → (List Int) → Option α)  (x0 : Int) (x1 : (List Int)) (x2 : (List Int)) (x3 : (List Int)) (x4 : (List Int)) : Option α :=
  if (decide (x0 < 4)) = true then
   if 0 ≤ x0 then
    if x0 < 4 then
     if 0 ≤ x0 then
      if x0 < 4 then
       bindO (calc_and.m n (Prod.mk (List.getD x1 (Int.toNat x0) 0) (List.getD x2 (Int.toNat x0) 0))) fun r14 =>
        if 0 ≤ x0 then
         if x0 < 4 then
          rc (IntKind.wrap .i64 (x0 + 1)) x1 x2 (List.set x3 (Int.toNat x0) r14) x4
         else
          none
        else
         none
      else
       none
     else
      none
    else
     none
   else
    none
  else
   some (mk0 x3 x4)
def calc_each_and.l3_0.g {α : Type} (mk0 : (List Int) → (List Int) → α) (n : Nat) : Nat → Int → (List Int) → (List Int) → (List Int) → (List Int) → Option α
 | 0, _, _, _, _, _ => none
 | m + 1, x0, x1, x2, x3, x4 => calc_each_and.l3_0.r mk0 n (fun y0 y1 y2 y3 y4 => calc_each_and.l3_0.g mk0 n m y0 y1 y2 y3 y4)  x0 x1 x2 x3 x4
def calc_each_and.l3_0.m (n m : Nat) (t : (Int × ((List Int) × ((List Int) × ((List Int) × (List Int)))))) : Option ((List Int) × (List Int)) := calc_each_and.l3_0.g (fun a0 a1 => (a0, a1)) n m t.1 t.2.1 t.2.2.1 t.2.2.2.1 t.2.2.2.2
def calc_each_and.l3_0.pat : St → Option (Int × ((List Int) × ((List Int) × ((List Int) × (List Int)))))
 | (St.mk [(.int .i64 x0), (.fn (.func 63) [] []), (.ptr 0 []), (.ptr 1 []), (.ptr 2 []), (.ptr 3 [])] [(some (.var (.ints .u64 4 x1))), (some (.var (.ints .u64 4 x2))), (some (.var (.ints .u64 4 x3))), (some (.var (.ints .u64 4 x4)))]) => some (x0, x1, x2, x3, x4)
 | _ => none
def calc_each_and.l3_0.shape (t : (Int × ((List Int) × ((List Int) × ((List Int) × (List Int)))))) : St := (St.mk [(.int .i64 t.1), (.fn (.func 63) [] []), (.ptr 0 []), (.ptr 1 []), (.ptr 2 []), (.ptr 3 [])] [(some (.var (.ints .u64 4 t.2.1))), (some (.var (.ints .u64 4 t.2.2.1))), (some (.var (.ints .u64 4 t.2.2.2.1))), (some (.var (.ints .u64 4 t.2.2.2.2)))])
def calc_each_and.l3_0.res : ((List Int) × (List Int)) → Ex × St
 | u => (Prod.mk (.exit 0) (St.mk [(.ptr 0 []), (.ptr 1 [])] [(some (.var (.ints .u64 4 u.1))), (some (.var (.ints .u64 4 u.2)))]))
def calc_each_and.l3_0.resK {R : Type} (u : ((List Int) × (List Int))) (K : Ex → St → Option R) : Option R := (fun p : Ex × St => K p.1 p.2) (Prod.mk (.exit 0) (St.mk [(.ptr 0 []), (.ptr 1 [])] [(some (.var (.ints .u64 4 u.1))), (some (.var (.ints .u64 4 u.2)))]))
noncomputable def calc_each_and.A (n : Nat) : Ann := ⟨Try.f62.ntmps, 0, calc_each_and.live, [], [none], fun k => match k with
 | 3 => some (.mk' calc_each_and.l3_0.pat (calc_each_and.l3_0.m n n) calc_each_and.l3_0.resK)
 | _ => none, calc_each_and.jlive, lookJ []⟩
noncomputable def calc_each_and.b0 : Code := (loopsIn (Try.f62.body.getD .skip)).getD 0 .skip
def calc_each_and.g {α : Type} (mk0 : (List Int) → α) (n : Nat) (a : (List Int)) (b : (List Int)) : Option α :=
 bindO (calc_each_and.l3_0.m n n (0, a, b, [0, 0, 0, 0], [0, 0, 0, 0])) fun r2 =>
  some (mk0 (Prod.fst r2))
def calc_each_and.m (n : Nat) (t : ((List Int) × (List Int))) : Option (List Int) := calc_each_and.g (fun a0 => a0) n t.1 t.2
def calc_each_and.pat : List AV → Blks → Option ((List Int) × (List Int))
 | [(.ints .u64 4 a), (.ints .u64 4 b), (.fn (.func 63) [] [])], [] => some (a, b)
 | _, _ => none
def calc_each_and.shape (t : ((List Int) × (List Int))) : List AV × Blks := ([(.ints .u64 4 t.1), (.ints .u64 4 t.2), (.fn (.func 63) [] [])], [])
def calc_each_and.res : (List Int) → AV × Blks
 | u => (Prod.mk (.ints .u64 4 u) [])
def calc_each_and.resK {R : Type} (u : (List Int)) (K : AV → Blks → Option R) : Option R := (fun p : AV × Blks => K p.1 p.2) (Prod.mk (.ints .u64 4 u) [])
def calc_each_and.c (n : Nat) : Abs.Callee := .mk' [] [none, none, none] calc_each_and.pat (calc_each_and.m n) calc_each_and.resK
end
end
section
noncomputable section
noncomputable def calc_each_or.C (n : Nat) : Ctx := ⟨Try.prog, (fun _ => .any), fun f => match f with
 | 63 => some (calc_and.c n)
 | 64 => some (calc_or.c n)
 | 65 => some (calc_xor.c n)
 | 66 => some (calc_nor.c n)
 | _ => none⟩
def calc_each_or.live : Nat → List Nat × List Nat := fun k => match k with
 | 3 => ([9, 2, 3, 4, 7, 6], [7, 6])
 | _ => ([], [])
def calc_each_or.jlive : Nat → List Nat × List Nat := fun k => match k with
 | _ => ([], [])
def calc_each_or.l3_0.r {α : Type} (mk0 : (List Int) → (List Int) → α) (n : Nat) (rc : Int → (List Int) → (List Int) → (List Int) → (List Int) → Option α)  (x0 : Int) (x1 : (List Int)) (x2 : (List Int)) (x3 : (List Int)) (x4 : (List Int)) : Option α :=
  if (decide (x0 < 4)) = true then
   if 0 ≤ x0 then
    if x0 < 4 then
     if 0 ≤ x0 then
      if x0 < 4 then
       bindO (calc_or.m n (Prod.mk (List.getD x1 (Int.toNat x0) 0) (List.getD x2 (Int.toNat x0) 0))) fun r14 =>
        if 0 ≤ x0 then
         if x0 < 4 then
          rc (IntKind.wrap .i64 (x0 + 1)) x1 x2 (List.set x3 (Int.toNat x0) r14) x4
         else
          none
        else
         none
      else
       none
     else
      none
    else
     none
   else
    none
  else
   some (mk0 x3 x4)
def calc_each_or.l3_0.g {α : Type} (mk0 : (List Int) → (List Int) → α) (n : Nat) : Nat → Int → (List Int) → (List Int) → (List Int) → (List Int) → Option α
 | 0, _, _, _, _, _ => none
 | m + 1, x0, x1, x2, x3, x4 => calc_each_or.l3_0.r mk0 n (fun y0 y1 y2 y3 y4 => calc_each_or.l3_0.g mk0 n m y0 y1 y2 y3 y4)  x0 x1 x2 x3 x4
def calc_each_or.l3_0.m (n m : Nat) (t : (Int × ((List Int) × ((List Int) × ((List Int) × (List Int)))))) : Option ((List Int) × (List Int)) := calc_each_or.l3_0.g (fun a0 a1 => (a0, a1)) n m t.1 t.2.1 t.2.2.1 t.2.2.2.1 t.2.2.2.2
def calc_each_or.l3_0.pat : St → Option (Int × ((List Int) × ((List Int) × ((List Int) × (List Int)))))
 | (St.mk [(.int .i64 x0), (.fn (.func 64) [] []), (.ptr 0 []), (.ptr 1 []), (.ptr 2 []), (.ptr 3 [])] [(some (.var (.ints .u64 4 x1))), (some (.var (.ints .u64 4 x2))), (some (.var (.ints .u64 4 x3))), (some (.var (.ints .u64 4 x4)))]) => some (x0, x1, x2, x3, x4)
 | _ => none
def calc_each_or.l3_0.shape (t : (Int × ((List Int) × ((List Int) × ((List Int) × (List Int)))))) : St := (St.mk [(.int .i64 t.1), (.fn (.func 64) [] []), (.ptr 0 []), (.ptr 1 []), (.ptr 2 []), (.ptr 3 [])] [(some (.var (.ints .u64 4 t.2.1))), (some (.var (.ints .u64 4 t.2.2.1))), (some (.var (.ints .u64 4 t.2.2.2.1))), (some (.var (.ints .u64 4 t.2.2.2.2)))])
def calc_each_or.l3_0.res : ((List Int) × (List Int)) → Ex × St
 | u => (Prod.mk (.exit 0) (St.mk [(.ptr 0 []), (.ptr 1 [])] [(some (.var (.ints .u64 4 u.1))), (some (.var (.ints .u64 4 u.2)))]))
def calc_each_or.l3_0.resK {R : Type} (u : ((List Int) × (List Int))) (K : Ex → St → Option R) : Option R := (fun p : Ex × St => K p.1 p.2) (Prod.mk (.exit 0) (St.mk [(.ptr 0 []), (.ptr 1 [])] [(some (.var (.ints .u64 4 u.1))), (some (.var (.ints .u64 4 u.2)))]))
noncomputable def calc_each_or.A (n : Nat) : Ann := ⟨Try.f62.ntmps, 0, calc_each_or.live, [], [none], fun k => match k with
 | 3 => some (.mk' calc_each_or.l3_0.pat (calc_each_or.l3_0.m n n) calc_each_or.l3_0.resK)
 | _ => none, calc_each_or.jlive, lookJ []⟩
noncomputable def calc_each_or.b0 : Code := (loopsIn (Try.f62.body.getD .skip)).getD 0 .skip
def calc_each_or.g {α : Type} (mk0 : (List Int) → α) (n : Nat) (a : (List Int)) (b : (List Int)) : Option α :=
 bindO (calc_each_or.l3_0.m n n (0, a, b, [0, 0, 0, 0], [0, 0, 0, 0])) fun r2 =>
  some (mk0 (Prod.fst r2))
def calc_each_or.m (n : Nat) (t : ((List Int) × (List Int))) : Option (List Int) := calc_each_or.g (fun a0 => a0) n t.1 t.2
def calc_each_or.pat : List AV → Blks → Option ((List Int) × (List Int))
 | [(.ints .u64 4 a), (.ints .u64 4 b), (.fn (.func 64) [] [])], [] => some (a, b)
 | _, _ => none
def calc_each_or.shape (t : ((List Int) × (List Int))) : List AV × Blks := ([(.ints .u64 4 t.1), (.ints .u64 4 t.2), (.fn (.func 64) [] [])], [])
def calc_each_or.res : (List Int) → AV × Blks
 | u => (Prod.mk (.ints .u64 4 u) [])
def calc_each_or.resK {R : Type} (u : (List Int)) (K : AV → Blks → Option R) : Option R := (fun p : AV × Blks => K p.1 p.2) (Prod.mk (.ints .u64 4 u) [])
def calc_each_or.c (n : Nat) : Abs.Callee := .mk' [] [none, none, none] calc_each_or.pat (calc_each_or.m n) calc_each_or.resK
end
end
section
noncomputable section
noncomputable def calc_each_xor.C (n : Nat) : Ctx := ⟨Try.prog, (fun _ => .any), fun f => match f with
 | 63 => some (calc_and.c n)
 | 64 => some (calc_or.c n)
 | 65 => some (calc_xor.c n)
 | 66 => some (calc_nor.c n)
 | _ => none⟩
def calc_each_xor.live : Nat → List Nat × List Nat := fun k => match k with
 | 3 => ([9, 2, 3, 4, 7, 6], [7, 6])
 | _ => ([], [])
def calc_each_xor.jlive : Nat → List Nat × List Nat := fun k => match k with
 | _ => ([], [])
def calc_each_xor.l3_0.r {α : Type} (mk0 : (List Int) → (List Int) → α) (n : Nat) (rc : Int → (List Int) → (List Int) → (List Int) → (List Int) → Option α)  (x0 : Int) (x1 : (List Int)) (x2 : (List Int)) (x3 : (List Int)) (x4 : (List Int)) : Option α :=
  if (decide (x0 < 4)) = true then
   if 0 ≤ x0 then
    if x0 < 4 then
     if 0 ≤ x0 then
      if x0 < 4 then
       bindO (calc_xor.m n (Prod.mk (List.getD x1 (Int.toNat x0) 0) (List.getD x2 (Int.toNat x0) 0))) fun r14 =>
        if 0 ≤ x0 then
         if x0 < 4 then
          rc (IntKind.wrap .i64 (x0 + 1)) x1 x2 (List.set x3 (Int.toNat x0) r14) x4
         else
          none
        else
         none
      else
       none
     else
      none
    else
     none
   else
    none
  else
   some (mk0 x3 x4)
def calc_each_xor.l3_0.g {α : Type} (mk0 : (List Int) → (List Int) → α) (n : Nat) : Nat → Int → (List Int) → (List Int) → (List Int) → (List Int) → Option α
 | 0, _, _, _, _, _ => none
 | m + 1, x0, x1, x2, x3, x4 => calc_each_xor.l3_0.r mk0 n (fun y0 y1 y2 y3 y4 => calc_each_xor.l3_0.g mk0 n m y0 y1 y2 y3 y4)  x0 x1 x2 x3 x4
def calc_each_xor.l3_0.m (n m : Nat) (t : (Int × ((List Int) × ((List Int) × ((List Int) × (List Int)))))) : Option ((List Int) × (List Int)) := calc_each_xor.l3_0.g (fun a0 a1 => (a0, a1)) n m t.1 t.2.1 t.2.2.1 t.2.2.2.1 t.2.2.2.2
def calc_each_xor.l3_0.pat : St → Option (Int × ((List Int) × ((List Int) × ((List Int) × (List Int)))))
 | (St.mk [(.int .i64 x0), (.fn (.func 65) [] []), (.ptr 0 []), (.ptr 1 []), (.ptr 2 []), (.ptr 3 [])] [(some (.var (.ints .u64 4 x1))), (some (.var (.ints .u64 4 x2))), (some (.var (.ints .u64 4 x3))), (some (.var (.ints .u64 4 x4)))]) => some (x0, x1, x2, x3, x4)
 | _ => none
def calc_each_xor.l3_0.shape (t : (Int × ((List Int) × ((List Int) × ((List Int) × (List Int)))))) : St := (St.mk [(.int .i64 t.1), (.fn (.func 65) [] []), (.ptr 0 []), (.ptr 1 []), (.ptr 2 []), (.ptr 3 [])] [(some (.var (.ints .u64 4 t.2.1))), (some (.var (.ints .u64 4 t.2.2.1))), (some (.var (.ints .u64 4 t.2.2.2.1))), (some (.var (.ints .u64 4 t.2.2.2.2)))])
def calc_each_xor.l3_0.res : ((List Int) × (List Int)) → Ex × St
 | u => (Prod.mk (.exit 0) (St.mk [(.ptr 0 []), (.ptr 1 [])] [(some (.var (.ints .u64 4 u.1))), (some (.var (.ints .u64 4 u.2)))]))
def calc_each_xor.l3_0.resK {R : Type} (u : ((List Int) × (List Int))) (K : Ex → St → Option R) : Option R := (fun p : Ex × St => K p.1 p.2) (Prod.mk (.exit 0) (St.mk [(.ptr 0 []), (.ptr 1 [])] [(some (.var (.ints .u64 4 u.1))), (some (.var (.ints .u64 4 u.2)))]))
noncomputable def calc_each_xor.A (n : Nat) : Ann := ⟨Try.f62.ntmps, 0, calc_each_xor.live, [], [none], fun k => match k with
 | 3 => some (.mk' calc_each_xor.l3_0.pat (calc_each_xor.l3_0.m n n) calc_each_xor.l3_0.resK)
 | _ => none, calc_each_xor.jlive, lookJ []⟩
noncomputable def calc_each_xor.b0 : Code := (loopsIn (Try.f62.body.getD .skip)).getD 0 .skip
def calc_each_xor.g {α : Type} (mk0 : (List Int) → α) (n : Nat) (a : (List Int)) (b : (List Int)) : Option α :=
 bindO (calc_each_xor.l3_0.m n n (0, a, b, [0, 0, 0, 0], [0, 0, 0, 0])) fun r2 =>
  some (mk0 (Prod.fst r2))
def calc_each_xor.m (n : Nat) (t : ((List Int) × (List Int))) : Option (List Int) := calc_each_xor.g (fun a0 => a0) n t.1 t.2
def calc_each_xor.pat : List AV → Blks → Option ((List Int) × (List Int))
 | [(.ints .u64 4 a), (.ints .u64 4 b), (.fn (.func 65) [] [])], [] => some (a, b)
 | _, _ => none
def calc_each_xor.shape (t : ((List Int) × (List Int))) : List AV × Blks := ([(.ints .u64 4 t.1), (.ints .u64 4 t.2), (.fn (.func 65) [] [])], [])
def calc_each_xor.res : (List Int) → AV × Blks
 | u => (Prod.mk (.ints .u64 4 u) [])
def calc_each_xor.resK {R : Type} (u : (List Int)) (K : AV → Blks → Option R) : Option R := (fun p : AV × Blks => K p.1 p.2) (Prod.mk (.ints .u64 4 u) [])
def calc_each_xor.c (n : Nat) : Abs.Callee := .mk' [] [none, none, none] calc_each_xor.pat (calc_each_xor.m n) calc_each_xor.resK
end
end
section
noncomputable section
noncomputable def calc_each_nor.C (n : Nat) : Ctx := ⟨Try.prog, (fun _ => .any), fun f => match f with
 | 63 => some (calc_and.c n)
 | 64 => some (calc_or.c n)
 | 65 => some (calc_xor.c n)
 | 66 => some (calc_nor.c n)
 | _ => none⟩
def calc_each_nor.live : Nat → List Nat × List Nat := fun k => match k with
 | 3 => ([9, 2, 3, 4, 7, 6], [7, 6])
 | _ => ([], [])
def calc_each_nor.jlive : Nat → List Nat × List Nat := fun k => match k with
 | _ => ([], [])
def calc_each_nor.l3_0.r {α : Type} (mk0 : (List Int) → (List Int) → α) (n : Nat) (rc : Int → (List Int) → (List Int) → (List Int) → (List Int) → Option α)  (x0 : Int) (x1 : (List Int)) (x2 : (List Int)) (x3 : (List Int)) (x4 : (List Int)) : Option α :=
  if (decide (x0 < 4)) = true then
   if 0 ≤ x0 then
    if x0 < 4 then
     if 0 ≤ x0 then
      if x0 < 4 then
       bindO (calc_nor.m n (Prod.mk (List.getD x1 (Int.toNat x0) 0) (List.getD x2 (Int.toNat x0) 0))) fun r14 =>
        if 0 ≤ x0 then
         if x0 < 4 then
          rc (IntKind.wrap .i64 (x0 + 1)) x1 x2 (List.set x3 (Int.toNat x0) r14) x4
         else
          none
        else
         none
      else
       none
     else
      none
    else
     none
   else
    none
  else
   some (mk0 x3 x4)
def calc_each_nor.l3_0.g {α : Type} (mk0 : (List Int) → (List Int) → α) (n : Nat) : Nat → Int → (List Int) → (List Int) → (List Int) → (List Int) → Option α
 | 0, _, _, _, _, _ => none
 | m + 1, x0, x1, x2, x3, x4 => calc_each_nor.l3_0.r mk0 n (fun y0 y1 y2 y3 y4 => calc_each_nor.l3_0.g mk0 n m y0 y1 y2 y3 y4)  x0 x1 x2 x3 x4
def calc_each_nor.l3_0.m (n m : Nat) (t : (Int × ((List Int) × ((List Int) × ((List Int) × (List Int)))))) : Option ((List Int) × (List Int)) := calc_each_nor.l3_0.g (fun a0 a1 => (a0, a1)) n m t.1 t.2.1 t.2.2.1 t.2.2.2.1 t.2.2.2.2
def calc_each_nor.l3_0.pat : St → Option (Int × ((List Int) × ((List Int) × ((List Int) × (List Int)))))
 | (St.mk [(.int .i64 x0), (.fn (.func 66) [] []), (.ptr 0 []), (.ptr 1 []), (.ptr 2 []), (.ptr 3 [])] [(some (.var (.ints .u64 4 x1))), (some (.var (.ints .u64 4 x2))), (some (.var (.ints .u64 4 x3))), (some (.var (.ints .u64 4 x4)))]) => some (x0, x1, x2, x3, x4)
 | _ => none
def calc_each_nor.l3_0.shape (t : (Int × ((List Int) × ((List Int) × ((List Int) × (List Int)))))) : St := (St.mk [(.int .i64 t.1), (.fn (.func 66) [] []), (.ptr 0 []), (.ptr 1 []), (.ptr 2 []), (.ptr 3 [])] [(some (.var (.ints .u64 4 t.2.1))), (some (.var (.ints .u64 4 t.2.2.1))), (some (.var (.ints .u64 4 t.2.2.2.1))), (some (.var (.ints .u64 4 t.2.2.2.2)))])
def calc_each_nor.l3_0.res : ((List Int) × (List Int)) → Ex × St
 | u => (Prod.mk (.exit 0) (St.mk [(.ptr 0 []), (.ptr 1 [])] [(some (.var (.ints .u64 4 u.1))), (some (.var (.ints .u64 4 u.2)))]))
def calc_each_nor.l3_0.resK {R : Type} (u : ((List Int) × (List Int))) (K : Ex → St → Option R) : Option R := (fun p : Ex × St => K p.1 p.2) (Prod.mk (.exit 0) (St.mk [(.ptr 0 []), (.ptr 1 [])] [(some (.var (.ints .u64 4 u.1))), (some (.var (.ints .u64 4 u.2)))]))
noncomputable def calc_each_nor.A (n : Nat) : Ann := ⟨Try.f62.ntmps, 0, calc_each_nor.live, [], [none], fun k => match k with
 | 3 => some (.mk' calc_each_nor.l3_0.pat (calc_each_nor.l3_0.m n n) calc_each_nor.l3_0.resK)
 | _ => none, calc_each_nor.jlive, lookJ []⟩
noncomputable def calc_each_nor.b0 : Code := (loopsIn (Try.f62.body.getD .skip)).getD 0 .skip
def calc_each_nor.g {α : Type} (mk0 : (List Int) → α) (n : Nat) (a : (List Int)) (b : (List Int)) : Option α :=
 bindO (calc_each_nor.l3_0.m n n (0, a, b, [0, 0, 0, 0], [0, 0, 0, 0])) fun r2 =>
  some (mk0 (Prod.fst r2))
def calc_each_nor.m (n : Nat) (t : ((List Int) × (List Int))) : Option (List Int) := calc_each_nor.g (fun a0 => a0) n t.1 t.2
def calc_each_nor.pat : List AV → Blks → Option ((List Int) × (List Int))
 | [(.ints .u64 4 a), (.ints .u64 4 b), (.fn (.func 66) [] [])], [] => some (a, b)
 | _, _ => none
def calc_each_nor.shape (t : ((List Int) × (List Int))) : List AV × Blks := ([(.ints .u64 4 t.1), (.ints .u64 4 t.2), (.fn (.func 66) [] [])], [])
def calc_each_nor.res : (List Int) → AV × Blks
 | u => (Prod.mk (.ints .u64 4 u) [])
def calc_each_nor.resK {R : Type} (u : (List Int)) (K : AV → Blks → Option R) : Option R := (fun p : AV × Blks => K p.1 p.2) (Prod.mk (.ints .u64 4 u) [])
def calc_each_nor.c (n : Nat) : Abs.Callee := .mk' [] [none, none, none] calc_each_nor.pat (calc_each_nor.m n) calc_each_nor.resK
end
end
section
noncomputable section
def calc_each.c (n : Nat) : Abs.Callee := .pick (fun args => match args with | [_, _, .fn (.func 63) _ _] => true | _ => false) (calc_each_and.c n) (.pick (fun args => match args with | [_, _, .fn (.func 64) _ _] => true | _ => false) (calc_each_or.c n) (.pick (fun args => match args with | [_, _, .fn (.func 65) _ _] => true | _ => false) (calc_each_xor.c n) (calc_each_nor.c n)))
end
end
