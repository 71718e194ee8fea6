/- What the program's functions compute, as plain functions, each with its proof: the function does just that. Condition: the plain function has an answer. -/
import Derived.Test.YtehhocoldpdijaaDoorAbsF6
import Derived.Test.YtehhocoldpdijaaDoorProg
import Derived.Test.YtehhocoldpdijaaDoorFnUseropSpans1
set_option linter.unusedVariables false
set_option linter.unusedSimpArgs false
set_option maxRecDepth 100000
open Go Go.Abs Go.Proofs
section
noncomputable section
noncomputable def word_Shl.C (n : Nat) : Ctx := ⟨Tryd.prog, abiG, fun f => match f with
 | 113 => some (word_far.c n)
 | _ => none, fun _ => false⟩
def word_Shl.live : Nat → List Nat × List Nat := fun k => match k with
 | 4 => ([11, 5, 3, 6, 4], [6, 4])
 | _ => ([], [])
def word_Shl.jlive : Nat → List Nat × List Nat := fun k => match k with
 | _ => ([], [])
def word_Shl.l4_0.r {α : Type} (mk0 : (List Int) → (List Int) → α) (n : Nat) (rc : Int → Int → (List Int) → (List Int) → (List Int) → Option α)  (x0 : Int) (x1 : Int) (x2 : (List Int)) (x3 : (List Int)) (x4 : (List Int)) : Option α :=
  if (decide (x0 < 4)) = true then
   if (decide ((IntKind.wrap .i64 (x0 - (IntKind.wrap .i64 (IntKind.wrap .u64 (Int.tdiv x1 64))))) ≥ 0)) = true then
    if 0 ≤ (IntKind.wrap .i64 (x0 - (IntKind.wrap .i64 (IntKind.wrap .u64 (Int.tdiv x1 64))))) then
     if (IntKind.wrap .i64 (x0 - (IntKind.wrap .i64 (IntKind.wrap .u64 (Int.tdiv x1 64))))) < 4 then
      if 0 ≤ (Int.tmod x1 64) then
       if 0 ≤ x0 then
        if x0 < 4 then
         if (decide ((IntKind.wrap .i64 (x0 - (IntKind.wrap .i64 (IntKind.wrap .u64 (Int.tdiv x1 64))))) > 0)) = true then
          if ((Int.tmod x1 64) != 0) = true then
           if 0 ≤ x0 then
            if x0 < 4 then
             if 0 ≤ (IntKind.wrap .i64 ((IntKind.wrap .i64 (x0 - (IntKind.wrap .i64 (IntKind.wrap .u64 (Int.tdiv x1 64))))) - 1)) then
              if (IntKind.wrap .i64 ((IntKind.wrap .i64 (x0 - (IntKind.wrap .i64 (IntKind.wrap .u64 (Int.tdiv x1 64))))) - 1)) < 4 then
               if 0 ≤ (IntKind.wrap .u64 (64 - (Int.tmod x1 64))) then
                if 0 ≤ x0 then
                 if x0 < 4 then
                  rc (IntKind.wrap .i64 (x0 + 1)) x1 x2 (List.set (List.set x3 (Int.toNat x0) (ishl .u64 (List.getD x2 (Int.toNat (IntKind.wrap .i64 (x0 - (IntKind.wrap .i64 (IntKind.wrap .u64 (Int.tdiv x1 64)))))) 0) (Int.tmod x1 64))) (Int.toNat x0) (ibits BinOp.or .u64 (List.getD (List.set x3 (Int.toNat x0) (ishl .u64 (List.getD x2 (Int.toNat (IntKind.wrap .i64 (x0 - (IntKind.wrap .i64 (IntKind.wrap .u64 (Int.tdiv x1 64)))))) 0) (Int.tmod x1 64))) (Int.toNat x0) 0) (ishr .u64 (List.getD x2 (Int.toNat (IntKind.wrap .i64 ((IntKind.wrap .i64 (x0 - (IntKind.wrap .i64 (IntKind.wrap .u64 (Int.tdiv x1 64))))) - 1))) 0) (IntKind.wrap .u64 (64 - (Int.tmod x1 64)))))) x4
                 else
                  none
                else
                 none
               else
                none
              else
               none
             else
              none
            else
             none
           else
            none
          else
           rc (IntKind.wrap .i64 (x0 + 1)) x1 x2 (List.set x3 (Int.toNat x0) (ishl .u64 (List.getD x2 (Int.toNat (IntKind.wrap .i64 (x0 - (IntKind.wrap .i64 (IntKind.wrap .u64 (Int.tdiv x1 64)))))) 0) (Int.tmod x1 64))) x4
         else
          rc (IntKind.wrap .i64 (x0 + 1)) x1 x2 (List.set x3 (Int.toNat x0) (ishl .u64 (List.getD x2 (Int.toNat (IntKind.wrap .i64 (x0 - (IntKind.wrap .i64 (IntKind.wrap .u64 (Int.tdiv x1 64)))))) 0) (Int.tmod x1 64))) x4
        else
         none
       else
        none
      else
       none
     else
      none
    else
     none
   else
    if (decide ((IntKind.wrap .i64 (x0 - (IntKind.wrap .i64 (IntKind.wrap .u64 (Int.tdiv x1 64))))) > 0)) = true then
     if ((Int.tmod x1 64) != 0) = true then
      if 0 ≤ x0 then
       if x0 < 4 then
        if 0 ≤ (IntKind.wrap .i64 ((IntKind.wrap .i64 (x0 - (IntKind.wrap .i64 (IntKind.wrap .u64 (Int.tdiv x1 64))))) - 1)) then
         if (IntKind.wrap .i64 ((IntKind.wrap .i64 (x0 - (IntKind.wrap .i64 (IntKind.wrap .u64 (Int.tdiv x1 64))))) - 1)) < 4 then
          if 0 ≤ (IntKind.wrap .u64 (64 - (Int.tmod x1 64))) then
           if 0 ≤ x0 then
            if x0 < 4 then
             rc (IntKind.wrap .i64 (x0 + 1)) x1 x2 (List.set x3 (Int.toNat x0) (ibits BinOp.or .u64 (List.getD x3 (Int.toNat x0) 0) (ishr .u64 (List.getD x2 (Int.toNat (IntKind.wrap .i64 ((IntKind.wrap .i64 (x0 - (IntKind.wrap .i64 (IntKind.wrap .u64 (Int.tdiv x1 64))))) - 1))) 0) (IntKind.wrap .u64 (64 - (Int.tmod x1 64)))))) x4
            else
             none
           else
            none
          else
           none
         else
          none
        else
         none
       else
        none
      else
       none
     else
      rc (IntKind.wrap .i64 (x0 + 1)) x1 x2 x3 x4
    else
     rc (IntKind.wrap .i64 (x0 + 1)) x1 x2 x3 x4
  else
   some (mk0 x3 x4)
def word_Shl.l4_0.g {α : Type} (mk0 : (List Int) → (List Int) → α) (n : Nat) : Nat → Int → Int → (List Int) → (List Int) → (List Int) → Option α
 | 0, _, _, _, _, _ => none
 | m + 1, x0, x1, x2, x3, x4 => word_Shl.l4_0.r mk0 n (fun y0 y1 y2 y3 y4 => word_Shl.l4_0.g mk0 n m y0 y1 y2 y3 y4)  x0 x1 x2 x3 x4
def word_Shl.l4_0.m (n m : Nat) (t : (Int × (Int × ((List Int) × ((List Int) × (List Int)))))) : Option ((List Int) × (List Int)) := word_Shl.l4_0.g (fun a0 a1 => (a0, a1)) n m t.1 t.2.1 t.2.2.1 t.2.2.2.1 t.2.2.2.2
def word_Shl.l4_0.pat : St → Option (Int × (Int × ((List Int) × ((List Int) × (List Int)))))
 | (St.mk [(.int .i64 x0), (.int .u64 x1), (.ptr 0 []), (.ptr 1 []), (.ptr 2 [])] [(some (.var (.ints .u64 4 x2))), (some (.var (.ints .u64 4 x3))), (some (.var (.ints .u64 4 x4)))]) => some (x0, x1, x2, x3, x4)
 | _ => none
def word_Shl.l4_0.shape (t : (Int × (Int × ((List Int) × ((List Int) × (List Int)))))) : St := (St.mk [(.int .i64 t.1), (.int .u64 t.2.1), (.ptr 0 []), (.ptr 1 []), (.ptr 2 [])] [(some (.var (.ints .u64 4 t.2.2.1))), (some (.var (.ints .u64 4 t.2.2.2.1))), (some (.var (.ints .u64 4 t.2.2.2.2)))])
def word_Shl.l4_0.res : ((List Int) × (List Int)) → Ex × St
 | u => (Prod.mk (.exit 0) (St.mk [(.ptr 0 []), (.ptr 1 [])] [(some (.var (.ints .u64 4 u.1))), (some (.var (.ints .u64 4 u.2)))]))
def word_Shl.l4_0.resK {R : Type} (u : ((List Int) × (List Int))) (K : Ex → St → Option R) : Option R := (fun p : Ex × St => K p.1 p.2) (Prod.mk (.exit 0) (St.mk [(.ptr 0 []), (.ptr 1 [])] [(some (.var (.ints .u64 4 u.1))), (some (.var (.ints .u64 4 u.2)))]))
noncomputable def word_Shl.A (n : Nat) : Ann := ⟨Tryd.f100.ntmps, 0, word_Shl.live, [], [none], fun k => match k with
 | 4 => some (.mk' word_Shl.l4_0.pat (word_Shl.l4_0.m n n) word_Shl.l4_0.resK)
 | _ => none, word_Shl.jlive, lookJ []⟩
noncomputable def word_Shl.b0 : Code := (loopsIn (Tryd.f100.body.getD .skip)).getD 0 .skip
def word_Shl.g {α : Type} (mk0 : (List Int) → α) (n : Nat) (a0 : (List Int)) (a1 : (List Int)) : Option α :=
 bindO (word_far.m n a0) fun r2 =>
  bindO (word_Shl.l4_0.m n n (0, r2, a1, [0, 0, 0, 0], [0, 0, 0, 0])) fun r4 =>
   some (mk0 (Prod.fst r4))
def word_Shl.m (n : Nat) (t : ((List Int) × (List Int))) : Option (List Int) := word_Shl.g (fun a0 => a0) n t.1 t.2
def word_Shl.pat : List AV → Blks → Option ((List Int) × (List Int))
 | [(.ints .u64 4 a0), (.ints .u64 4 a1)], [] => some (a0, a1)
 | _, _ => none
def word_Shl.shape (t : ((List Int) × (List Int))) : List AV × Blks := ([(.ints .u64 4 t.1), (.ints .u64 4 t.2)], [])
def word_Shl.res : (List Int) → AV × Blks
 | u => (Prod.mk (.ints .u64 4 u) [])
def word_Shl.resK {R : Type} (u : (List Int)) (K : AV → Blks → Option R) : Option R := (fun p : AV × Blks => K p.1 p.2) (Prod.mk (.ints .u64 4 u) [])
def word_Shl.c (n : Nat) : Abs.Callee := .mk' [] [none, none] word_Shl.pat (word_Shl.m n) word_Shl.resK
end
end
section
theorem word_Shl.l4_0.rmap {α β : Type} (h : β → α) (mk0 : (List Int) → (List Int) → β) (n : Nat) (f : Int → Int → (List Int) → (List Int) → (List Int) → Option β)  (x0 : Int) (x1 : Int) (x2 : (List Int)) (x3 : (List Int)) (x4 : (List Int)) : word_Shl.l4_0.r (fun a0 a1 => (h (mk0 a0 a1))) n (fun y0 y1 y2 y3 y4 => (f y0 y1 y2 y3 y4).map h) x0 x1 x2 x3 x4 = (word_Shl.l4_0.r mk0 n f x0 x1 x2 x3 x4).map h := by
  unfold word_Shl.l4_0.r
  exact (ite_map (ite_map (ite_map (ite_map (ite_map (ite_map (ite_map (ite_map (ite_map (ite_map (ite_map (ite_map (ite_map (ite_map (ite_map (ite_map rfl rfl) rfl) rfl) rfl) rfl) rfl) rfl) rfl) rfl) rfl) rfl) rfl) rfl) rfl) (ite_map (ite_map (ite_map (ite_map (ite_map (ite_map (ite_map (ite_map (ite_map rfl rfl) rfl) rfl) rfl) rfl) rfl) rfl) rfl) rfl)) rfl)
theorem word_Shl.l4_0.gmap {α β : Type} (h : β → α) (mk0 : (List Int) → (List Int) → β) (n : Nat) : ∀ (m : Nat) (x0 : Int) (x1 : Int) (x2 : (List Int)) (x3 : (List Int)) (x4 : (List Int)), word_Shl.l4_0.g (fun a0 a1 => (h (mk0 a0 a1))) n m x0 x1 x2 x3 x4 = (word_Shl.l4_0.g mk0 n m x0 x1 x2 x3 x4).map h
  | 0, _, _, _, _, _ => rfl
  | m + 1, x0, x1, x2, x3, x4 => by
    unfold word_Shl.l4_0.g
    rw [← word_Shl.l4_0.rmap]
    congr
    · funext y0 y1 y2 y3 y4; exact word_Shl.l4_0.gmap h mk0 n m y0 y1 y2 y3 y4
theorem word_Shl.l4_0.pat_shape : ∀ st t, word_Shl.l4_0.pat st = some t → st = word_Shl.l4_0.shape t := by
  intro st t h
  unfold word_Shl.l4_0.pat at h
  split at h
  · cases h; rfl
  · cases h
theorem word_Shl.l4_0.round (n : Nat) (rc : St → Option (Ex × St)) (x0 : Int) (x1 : Int) (x2 : (List Int)) (x3 : (List Int)) (x4 : (List Int)) : roundOf (word_Shl.C n) (word_Shl.A n) n word_Shl.b0 rc ((St.mk [(.int .i64 x0), (.int .u64 x1), (.ptr 0 []), (.ptr 1 []), (.ptr 2 [])] [(some (.var (.ints .u64 4 x2))), (some (.var (.ints .u64 4 x3))), (some (.var (.ints .u64 4 x4)))])) = word_Shl.l4_0.r (fun a0 a1 => ((Prod.mk (.exit 0) (St.mk [(.ptr 0 []), (.ptr 1 [])] [(some (.var (.ints .u64 4 a0))), (some (.var (.ints .u64 4 a1)))])) : Ex × St)) n (fun y0 y1 y2 y3 y4 => rc ((St.mk [(.int .i64 y0), (.int .u64 y1), (.ptr 0 []), (.ptr 1 []), (.ptr 2 [])] [(some (.var (.ints .u64 4 y2))), (some (.var (.ints .u64 4 y3))), (some (.var (.ints .u64 4 y4)))]))) x0 x1 x2 x3 x4 := by kernel_rfl
theorem word_Shl.l4_0.loop' (n : Nat) : ∀ (m : Nat) (t : (Int × (Int × ((List Int) × ((List Int) × (List Int)))))), loopOf (roundOf (word_Shl.C n) (word_Shl.A n) n word_Shl.b0) m (word_Shl.l4_0.shape t) = word_Shl.l4_0.g (fun a0 a1 => ((Prod.mk (.exit 0) (St.mk [(.ptr 0 []), (.ptr 1 [])] [(some (.var (.ints .u64 4 a0))), (some (.var (.ints .u64 4 a1)))])) : Ex × St)) n m t.1 t.2.1 t.2.2.1 t.2.2.2.1 t.2.2.2.2 :=
  loop_of_round (shape := word_Shl.l4_0.shape) (body := roundOf (word_Shl.C n) (word_Shl.A n) n word_Shl.b0) (g := fun m t => word_Shl.l4_0.g (fun a0 a1 => ((Prod.mk (.exit 0) (St.mk [(.ptr 0 []), (.ptr 1 [])] [(some (.var (.ints .u64 4 a0))), (some (.var (.ints .u64 4 a1)))])) : Ex × St)) n m t.1 t.2.1 t.2.2.1 t.2.2.2.1 t.2.2.2.2) (fun t => rfl)
    fun m t ih => (word_Shl.l4_0.round n (loopOf (roundOf (word_Shl.C n) (word_Shl.A n) n word_Shl.b0) m) t.1 t.2.1 t.2.2.1 t.2.2.2.1 t.2.2.2.2).trans (congrFun (congrFun (congrFun (congrFun (congrFun (congrArg (word_Shl.l4_0.r (fun a0 a1 => ((Prod.mk (.exit 0) (St.mk [(.ptr 0 []), (.ptr 1 [])] [(some (.var (.ints .u64 4 a0))), (some (.var (.ints .u64 4 a1)))])) : Ex × St)) n) (funext fun y0 => funext fun y1 => funext fun y2 => funext fun y3 => funext fun y4 => ih (y0, y1, y2, y3, y4))) t.1) t.2.1) t.2.2.1) t.2.2.2.1) t.2.2.2.2)
theorem word_Shl.l4_0.loop (n m : Nat) (t : (Int × (Int × ((List Int) × ((List Int) × (List Int)))))) : loopOf (roundOf (word_Shl.C n) (word_Shl.A n) n word_Shl.b0) m (word_Shl.l4_0.shape t) = (word_Shl.l4_0.m n m t).map word_Shl.l4_0.res :=
  (word_Shl.l4_0.loop' n m t).trans (word_Shl.l4_0.gmap word_Shl.l4_0.res (fun a0 a1 => (a0, a1)) n m t.1 t.2.1 t.2.2.1 t.2.2.2.1 t.2.2.2.2)
theorem word_Shl.gmap {α β : Type} (h : β → α) (mk0 : (List Int) → β) (n : Nat) (a0 : (List Int)) (a1 : (List Int)) : word_Shl.g (fun a0 => (h (mk0 a0))) n a0 a1 = (word_Shl.g mk0 n a0 a1).map h := by
  unfold word_Shl.g
  exact (bindO_map fun r2 => (bindO_map fun r4 => rfl))
theorem word_Shl.run (n : Nat) (a0 : (List Int)) (a1 : (List Int)) : runF (word_Shl.C n) (word_Shl.A n) n Tryd.f100 [(.ints .u64 4 a0), (.ints .u64 4 a1)] [] (fun v o => some (v, o)) = word_Shl.g (fun a0 => ((Prod.mk (.ints .u64 4 a0) []) : AV × Blks)) n a0 a1 := by kernel_rfl
theorem word_Shl.call (hmix : Tryd.prog.follows .mixedOrders = true) (n : Nat) (t : ((List Int) × (List Int))) (u) (h : word_Shl.m n t = some u) : FnC Tryd.prog abiG 100 (word_Shl.shape t).1 (word_Shl.shape t).2 (word_Shl.res u).1 (word_Shl.res u).2 := by
  have hg : ∀ f m, (word_Shl.C n).Γ f = some m → CalleeS Tryd.prog abiG f m := by
    intro f m hm
    unfold word_Shl.C at hm
    simp only at hm
    first
    | (cases hm; done)
    | (split at hm <;> first
    | (cases hm; exact word_far.s hmix n)
    | (cases hm; done))
  have hb : Tryd.f100.body = some (Tryd.f100.body.getD .skip) := by kernel_rfl
  refine runF_calls (C := word_Shl.C n) (A := word_Shl.A n) (n := n) (fn := Tryd.f100) hg hmix Tryd.func100 hb ?_ ?_ (by decide) rfl rfl (by show 2 ≤ Tryd.f100.ntmps; decide) ?_
  · rw [show loopsIn (Tryd.f100.body.getD .skip) = [word_Shl.b0] by kernel_rfl]
    intro b hb m hm
    simp only [List.mem_cons, List.not_mem_nil, or_false] at hb
    rcases hb with rfl
    · have e : (word_Shl.A n).loop (key word_Shl.b0) = some (.mk' word_Shl.l4_0.pat (word_Shl.l4_0.m n n) word_Shl.l4_0.resK) := by rw [show key word_Shl.b0 = 4 by kernel_rfl]; rfl
      rw [e] at hm
      cases hm
      exact (LoopS.of (res := word_Shl.l4_0.res) (fun R u K => rfl) word_Shl.l4_0.pat_shape fun t => word_Shl.l4_0.loop n n t)
  · intro a ha m hm
    cases (show none = some m from hm)
  · rw [show runF (word_Shl.C n) (word_Shl.A n) n Tryd.f100 (word_Shl.shape t).1 (word_Shl.shape t).2 (fun v o => some (v, o)) = _ from word_Shl.run n t.1 t.2]
    have e := word_Shl.gmap word_Shl.res (fun a0 => a0) n t.1 t.2
    unfold word_Shl.m at h
    rw [h] at e
    exact e
theorem word_Shl.s (hmix : Tryd.prog.follows .mixedOrders = true) (n : Nat) : CalleeS Tryd.prog abiG 100 (word_Shl.c n) :=
  CalleeS.of (res := word_Shl.res) (shape := word_Shl.shape) (fun R u K => rfl) (fun args lent t h => by
    unfold word_Shl.pat at h
    split at h
    · cases h; rfl
    · cases h) fun t u h => (word_Shl.call hmix n t u h).ok Tryd.func100 (by decide) (by kernel_rfl)
end
section
noncomputable section
noncomputable def word_rightS1.C (n : Nat) : Ctx := ⟨Tryd.prog, abiG, fun f => match f with
 | _ => none, fun _ => false⟩
def word_rightS1.live : Nat → List Nat × List Nat := fun k => match k with
 | _ => ([], [])
def word_rightS1.jlive : Nat → List Nat × List Nat := fun k => match k with
 | _ => ([], [])
noncomputable def word_rightS1.A (n : Nat) : Ann := ⟨Tryd.f127.ntmps, 0, word_rightS1.live, [], [none], fun k => match k with
 | _ => none, word_rightS1.jlive, lookJ []⟩
def word_rightS1.g {α : Type} (mk0 : Int → α) (n : Nat) (i : Int) (f : Int) (a : (List Int)) : Option α :=
 if (decide (i > 3)) = true then
  some (mk0 f)
 else
  if 0 ≤ i then
   if i < 4 then
    some (mk0 (List.getD a (Int.toNat i) 0))
   else
    none
  else
   none
def word_rightS1.m (n : Nat) (t : (Int × (Int × (List Int)))) : Option Int := word_rightS1.g (fun a0 => a0) n t.1 t.2.1 t.2.2
def word_rightS1.pat : List AV → Blks → Option (Int × (Int × (List Int)))
 | [(.int .i64 i), (.rptr (.int .u64 f)), (.rptr (.ints .u64 4 a))], [] => some (i, f, a)
 | _, _ => none
def word_rightS1.shape (t : (Int × (Int × (List Int)))) : List AV × Blks := ([(.int .i64 t.1), (.rptr (.int .u64 t.2.1)), (.rptr (.ints .u64 4 t.2.2))], [])
def word_rightS1.res : Int → AV × Blks
 | u => (Prod.mk (.int .u64 u) [])
def word_rightS1.resK {R : Type} (u : Int) (K : AV → Blks → Option R) : Option R := (fun p : AV × Blks => K p.1 p.2) (Prod.mk (.int .u64 u) [])
def word_rightS1.c (n : Nat) : Abs.Callee := .mk' [] [none] word_rightS1.pat (word_rightS1.m n) word_rightS1.resK
end
end
section
noncomputable section
noncomputable def word_right.C (n : Nat) : Ctx := ⟨Tryd.prog, abiG, fun f => match f with
 | 127 => some (word_rightS1.c n)
 | _ => none, fun _ => false⟩
def word_right.live : Nat → List Nat × List Nat := fun k => match k with
 | 4 => ([12, 0, 7, 8, 6], [8, 6])
 | _ => ([], [])
def word_right.jlive : Nat → List Nat × List Nat := fun k => match k with
 | _ => ([], [])
def word_right.l4_0.r {α : Type} (mk0 : (List Int) → (List Int) → α) (n : Nat) (rc : Int → Int → Int → (List Int) → (List Int) → (List Int) → Option α)  (x0 : Int) (x1 : Int) (x2 : Int) (x3 : (List Int)) (x4 : (List Int)) (x5 : (List Int)) : Option α :=
  if (decide (x0 < 4)) = true then
   bindO (word_rightS1.m n (Prod.mk (IntKind.wrap .i64 (x0 + (IntKind.wrap .i64 (IntKind.wrap .u64 (Int.tdiv x1 64))))) (Prod.mk x2 x3))) fun r6 =>
    if 0 ≤ (Int.tmod x1 64) then
     if 0 ≤ x0 then
      if x0 < 4 then
       if ((Int.tmod x1 64) != 0) = true then
        if 0 ≤ x0 then
         if x0 < 4 then
          bindO (word_rightS1.m n (Prod.mk (IntKind.wrap .i64 ((IntKind.wrap .i64 (x0 + (IntKind.wrap .i64 (IntKind.wrap .u64 (Int.tdiv x1 64))))) + 1)) (Prod.mk x2 x3))) fun r20 =>
           if 0 ≤ (IntKind.wrap .u64 (64 - (Int.tmod x1 64))) then
            if 0 ≤ x0 then
             if x0 < 4 then
              rc (IntKind.wrap .i64 (x0 + 1)) x1 x2 x3 (List.set (List.set x4 (Int.toNat x0) (ishr .u64 r6 (Int.tmod x1 64))) (Int.toNat x0) (ibits BinOp.or .u64 (List.getD (List.set x4 (Int.toNat x0) (ishr .u64 r6 (Int.tmod x1 64))) (Int.toNat x0) 0) (ishl .u64 r20 (IntKind.wrap .u64 (64 - (Int.tmod x1 64)))))) x5
             else
              none
            else
             none
           else
            none
         else
          none
        else
         none
       else
        rc (IntKind.wrap .i64 (x0 + 1)) x1 x2 x3 (List.set x4 (Int.toNat x0) (ishr .u64 r6 (Int.tmod x1 64))) x5
      else
       none
     else
      none
    else
     none
  else
   some (mk0 x4 x5)
def word_right.l4_0.g {α : Type} (mk0 : (List Int) → (List Int) → α) (n : Nat) : Nat → Int → Int → Int → (List Int) → (List Int) → (List Int) → Option α
 | 0, _, _, _, _, _, _ => none
 | m + 1, x0, x1, x2, x3, x4, x5 => word_right.l4_0.r mk0 n (fun y0 y1 y2 y3 y4 y5 => word_right.l4_0.g mk0 n m y0 y1 y2 y3 y4 y5)  x0 x1 x2 x3 x4 x5
def word_right.l4_0.m (n m : Nat) (t : (Int × (Int × (Int × ((List Int) × ((List Int) × (List Int))))))) : Option ((List Int) × (List Int)) := word_right.l4_0.g (fun a0 a1 => (a0, a1)) n m t.1 t.2.1 t.2.2.1 t.2.2.2.1 t.2.2.2.2.1 t.2.2.2.2.2
def word_right.l4_0.pat : St → Option (Int × (Int × (Int × ((List Int) × ((List Int) × (List Int))))))
 | (St.mk [(.int .i64 x0), (.int .u64 x1), (.fn (.func 127) [] [(.ptr 0 []), (.ptr 1 [])]), (.ptr 2 []), (.ptr 3 [])] [(some (.var (.int .u64 x2))), (some (.var (.ints .u64 4 x3))), (some (.var (.ints .u64 4 x4))), (some (.var (.ints .u64 4 x5)))]) => some (x0, x1, x2, x3, x4, x5)
 | _ => none
def word_right.l4_0.shape (t : (Int × (Int × (Int × ((List Int) × ((List Int) × (List Int))))))) : St := (St.mk [(.int .i64 t.1), (.int .u64 t.2.1), (.fn (.func 127) [] [(.ptr 0 []), (.ptr 1 [])]), (.ptr 2 []), (.ptr 3 [])] [(some (.var (.int .u64 t.2.2.1))), (some (.var (.ints .u64 4 t.2.2.2.1))), (some (.var (.ints .u64 4 t.2.2.2.2.1))), (some (.var (.ints .u64 4 t.2.2.2.2.2)))])
def word_right.l4_0.res : ((List Int) × (List Int)) → Ex × St
 | u => (Prod.mk (.exit 0) (St.mk [(.ptr 0 []), (.ptr 1 [])] [(some (.var (.ints .u64 4 u.1))), (some (.var (.ints .u64 4 u.2)))]))
def word_right.l4_0.resK {R : Type} (u : ((List Int) × (List Int))) (K : Ex → St → Option R) : Option R := (fun p : Ex × St => K p.1 p.2) (Prod.mk (.exit 0) (St.mk [(.ptr 0 []), (.ptr 1 [])] [(some (.var (.ints .u64 4 u.1))), (some (.var (.ints .u64 4 u.2)))]))
noncomputable def word_right.A (n : Nat) : Ann := ⟨Tryd.f112.ntmps, 0, word_right.live, [], [none], fun k => match k with
 | 4 => some (.mk' word_right.l4_0.pat (word_right.l4_0.m n n) word_right.l4_0.resK)
 | _ => none, word_right.jlive, lookJ []⟩
noncomputable def word_right.b0 : Code := (loopsIn (Tryd.f112.body.getD .skip)).getD 0 .skip
def word_right.g {α : Type} (mk0 : (List Int) → α) (n : Nat) (a0 : Int) (a1 : (List Int)) (a2 : Int) : Option α :=
 bindO (word_right.l4_0.m n n (0, a0, a2, a1, [0, 0, 0, 0], [0, 0, 0, 0])) fun r2 =>
  some (mk0 (Prod.fst r2))
def word_right.m (n : Nat) (t : (Int × ((List Int) × Int))) : Option (List Int) := word_right.g (fun a0 => a0) n t.1 t.2.1 t.2.2
def word_right.pat : List AV → Blks → Option (Int × ((List Int) × Int))
 | [(.int .u64 a0), (.ints .u64 4 a1), (.int .u64 a2)], [] => some (a0, a1, a2)
 | _, _ => none
def word_right.shape (t : (Int × ((List Int) × Int))) : List AV × Blks := ([(.int .u64 t.1), (.ints .u64 4 t.2.1), (.int .u64 t.2.2)], [])
def word_right.res : (List Int) → AV × Blks
 | u => (Prod.mk (.ints .u64 4 u) [])
def word_right.resK {R : Type} (u : (List Int)) (K : AV → Blks → Option R) : Option R := (fun p : AV × Blks => K p.1 p.2) (Prod.mk (.ints .u64 4 u) [])
def word_right.c (n : Nat) : Abs.Callee := .mk' [] [none, none, none] word_right.pat (word_right.m n) word_right.resK
end
end
section
noncomputable section
noncomputable def word_Shr.C (n : Nat) : Ctx := ⟨Tryd.prog, abiG, fun f => match f with
 | 113 => some (word_far.c n)
 | 112 => some (word_right.c n)
 | _ => none, fun _ => false⟩
def word_Shr.live : Nat → List Nat × List Nat := fun k => match k with
 | _ => ([], [])
def word_Shr.jlive : Nat → List Nat × List Nat := fun k => match k with
 | _ => ([], [])
noncomputable def word_Shr.A (n : Nat) : Ann := ⟨Tryd.f94.ntmps, 0, word_Shr.live, [], [none], fun k => match k with
 | _ => none, word_Shr.jlive, lookJ []⟩
def word_Shr.g {α : Type} (mk0 : (List Int) → α) (n : Nat) (a0 : (List Int)) (a1 : (List Int)) : Option α :=
 bindO (word_far.m n a0) fun r2 =>
  bindO (word_right.m n (Prod.mk r2 (Prod.mk a1 0))) fun r4 =>
   some (mk0 r4)
def word_Shr.m (n : Nat) (t : ((List Int) × (List Int))) : Option (List Int) := word_Shr.g (fun a0 => a0) n t.1 t.2
def word_Shr.pat : List AV → Blks → Option ((List Int) × (List Int))
 | [(.ints .u64 4 a0), (.ints .u64 4 a1)], [] => some (a0, a1)
 | _, _ => none
def word_Shr.shape (t : ((List Int) × (List Int))) : List AV × Blks := ([(.ints .u64 4 t.1), (.ints .u64 4 t.2)], [])
def word_Shr.res : (List Int) → AV × Blks
 | u => (Prod.mk (.ints .u64 4 u) [])
def word_Shr.resK {R : Type} (u : (List Int)) (K : AV → Blks → Option R) : Option R := (fun p : AV × Blks => K p.1 p.2) (Prod.mk (.ints .u64 4 u) [])
def word_Shr.c (n : Nat) : Abs.Callee := .mk' [] [none, none] word_Shr.pat (word_Shr.m n) word_Shr.resK
end
end
section
theorem word_rightS1.gmap {α β : Type} (h : β → α) (mk0 : Int → β) (n : Nat) (i : Int) (f : Int) (a : (List Int)) : word_rightS1.g (fun a0 => (h (mk0 a0))) n i f a = (word_rightS1.g mk0 n i f a).map h := by
  unfold word_rightS1.g
  exact (ite_map rfl (ite_map (ite_map rfl rfl) rfl))
theorem word_rightS1.run (n : Nat) (i : Int) (f : Int) (a : (List Int)) : runF (word_rightS1.C n) (word_rightS1.A n) n Tryd.f127 [(.int .i64 i), (.rptr (.int .u64 f)), (.rptr (.ints .u64 4 a))] [] (fun v o => some (v, o)) = word_rightS1.g (fun a0 => ((Prod.mk (.int .u64 a0) []) : AV × Blks)) n i f a := by kernel_rfl
theorem word_rightS1.call (hmix : Tryd.prog.follows .mixedOrders = true) (n : Nat) (t : (Int × (Int × (List Int)))) (u) (h : word_rightS1.m n t = some u) : FnC Tryd.prog abiG 127 (word_rightS1.shape t).1 (word_rightS1.shape t).2 (word_rightS1.res u).1 (word_rightS1.res u).2 := by
  have hg : ∀ f m, (word_rightS1.C n).Γ f = some m → CalleeS Tryd.prog abiG f m := by
    intro f m hm
    unfold word_rightS1.C at hm
    simp only at hm
    first
    | (cases hm; done)
    | (split at hm <;> first
    | (cases hm; done))
  have hb : Tryd.f127.body = some (Tryd.f127.body.getD .skip) := by kernel_rfl
  refine runF_calls (C := word_rightS1.C n) (A := word_rightS1.A n) (n := n) (fn := Tryd.f127) hg hmix Tryd.func127 hb ?_ ?_ (by decide) rfl rfl (by show 3 ≤ Tryd.f127.ntmps; decide) ?_
  · rw [show loopsIn (Tryd.f127.body.getD .skip) = [] by kernel_rfl]
    intro b hb
    cases hb
  · intro a ha m hm
    cases (show none = some m from hm)
  · rw [show runF (word_rightS1.C n) (word_rightS1.A n) n Tryd.f127 (word_rightS1.shape t).1 (word_rightS1.shape t).2 (fun v o => some (v, o)) = _ from word_rightS1.run n t.1 t.2.1 t.2.2]
    have e := word_rightS1.gmap word_rightS1.res (fun a0 => a0) n t.1 t.2.1 t.2.2
    unfold word_rightS1.m at h
    rw [h] at e
    exact e
theorem word_rightS1.s (hmix : Tryd.prog.follows .mixedOrders = true) (n : Nat) : CalleeS Tryd.prog abiG 127 (word_rightS1.c n) :=
  CalleeS.of (res := word_rightS1.res) (shape := word_rightS1.shape) (fun R u K => rfl) (fun args lent t h => by
    unfold word_rightS1.pat at h
    split at h
    · cases h; rfl
    · cases h) fun t u h => (word_rightS1.call hmix n t u h).ok Tryd.func127 (by decide) (by kernel_rfl)
end
section
theorem word_right.l4_0.rmap {α β : Type} (h : β → α) (mk0 : (List Int) → (List Int) → β) (n : Nat) (f : Int → Int → Int → (List Int) → (List Int) → (List Int) → Option β)  (x0 : Int) (x1 : Int) (x2 : Int) (x3 : (List Int)) (x4 : (List Int)) (x5 : (List Int)) : word_right.l4_0.r (fun a0 a1 => (h (mk0 a0 a1))) n (fun y0 y1 y2 y3 y4 y5 => (f y0 y1 y2 y3 y4 y5).map h) x0 x1 x2 x3 x4 x5 = (word_right.l4_0.r mk0 n f x0 x1 x2 x3 x4 x5).map h := by
  unfold word_right.l4_0.r
  exact (ite_map (bindO_map fun r6 => (ite_map (ite_map (ite_map (ite_map (ite_map (ite_map (bindO_map fun r20 => (ite_map (ite_map (ite_map rfl rfl) rfl) rfl)) rfl) rfl) rfl) rfl) rfl) rfl)) rfl)
theorem word_right.l4_0.gmap {α β : Type} (h : β → α) (mk0 : (List Int) → (List Int) → β) (n : Nat) : ∀ (m : Nat) (x0 : Int) (x1 : Int) (x2 : Int) (x3 : (List Int)) (x4 : (List Int)) (x5 : (List Int)), word_right.l4_0.g (fun a0 a1 => (h (mk0 a0 a1))) n m x0 x1 x2 x3 x4 x5 = (word_right.l4_0.g mk0 n m x0 x1 x2 x3 x4 x5).map h
  | 0, _, _, _, _, _, _ => rfl
  | m + 1, x0, x1, x2, x3, x4, x5 => by
    unfold word_right.l4_0.g
    rw [← word_right.l4_0.rmap]
    congr
    · funext y0 y1 y2 y3 y4 y5; exact word_right.l4_0.gmap h mk0 n m y0 y1 y2 y3 y4 y5
theorem word_right.l4_0.pat_shape : ∀ st t, word_right.l4_0.pat st = some t → st = word_right.l4_0.shape t := by
  intro st t h
  unfold word_right.l4_0.pat at h
  split at h
  · cases h; rfl
  · cases h
theorem word_right.l4_0.round (n : Nat) (rc : St → Option (Ex × St)) (x0 : Int) (x1 : Int) (x2 : Int) (x3 : (List Int)) (x4 : (List Int)) (x5 : (List Int)) : roundOf (word_right.C n) (word_right.A n) n word_right.b0 rc ((St.mk [(.int .i64 x0), (.int .u64 x1), (.fn (.func 127) [] [(.ptr 0 []), (.ptr 1 [])]), (.ptr 2 []), (.ptr 3 [])] [(some (.var (.int .u64 x2))), (some (.var (.ints .u64 4 x3))), (some (.var (.ints .u64 4 x4))), (some (.var (.ints .u64 4 x5)))])) = word_right.l4_0.r (fun a0 a1 => ((Prod.mk (.exit 0) (St.mk [(.ptr 0 []), (.ptr 1 [])] [(some (.var (.ints .u64 4 a0))), (some (.var (.ints .u64 4 a1)))])) : Ex × St)) n (fun y0 y1 y2 y3 y4 y5 => rc ((St.mk [(.int .i64 y0), (.int .u64 y1), (.fn (.func 127) [] [(.ptr 0 []), (.ptr 1 [])]), (.ptr 2 []), (.ptr 3 [])] [(some (.var (.int .u64 y2))), (some (.var (.ints .u64 4 y3))), (some (.var (.ints .u64 4 y4))), (some (.var (.ints .u64 4 y5)))]))) x0 x1 x2 x3 x4 x5 := by kernel_rfl
theorem word_right.l4_0.loop' (n : Nat) : ∀ (m : Nat) (t : (Int × (Int × (Int × ((List Int) × ((List Int) × (List Int))))))), loopOf (roundOf (word_right.C n) (word_right.A n) n word_right.b0) m (word_right.l4_0.shape t) = word_right.l4_0.g (fun a0 a1 => ((Prod.mk (.exit 0) (St.mk [(.ptr 0 []), (.ptr 1 [])] [(some (.var (.ints .u64 4 a0))), (some (.var (.ints .u64 4 a1)))])) : Ex × St)) n m t.1 t.2.1 t.2.2.1 t.2.2.2.1 t.2.2.2.2.1 t.2.2.2.2.2 :=
  loop_of_round (shape := word_right.l4_0.shape) (body := roundOf (word_right.C n) (word_right.A n) n word_right.b0) (g := fun m t => word_right.l4_0.g (fun a0 a1 => ((Prod.mk (.exit 0) (St.mk [(.ptr 0 []), (.ptr 1 [])] [(some (.var (.ints .u64 4 a0))), (some (.var (.ints .u64 4 a1)))])) : Ex × St)) n m t.1 t.2.1 t.2.2.1 t.2.2.2.1 t.2.2.2.2.1 t.2.2.2.2.2) (fun t => rfl)
    fun m t ih => (word_right.l4_0.round n (loopOf (roundOf (word_right.C n) (word_right.A n) n word_right.b0) m) t.1 t.2.1 t.2.2.1 t.2.2.2.1 t.2.2.2.2.1 t.2.2.2.2.2).trans (congrFun (congrFun (congrFun (congrFun (congrFun (congrFun (congrArg (word_right.l4_0.r (fun a0 a1 => ((Prod.mk (.exit 0) (St.mk [(.ptr 0 []), (.ptr 1 [])] [(some (.var (.ints .u64 4 a0))), (some (.var (.ints .u64 4 a1)))])) : Ex × St)) n) (funext fun y0 => funext fun y1 => funext fun y2 => funext fun y3 => funext fun y4 => funext fun y5 => ih (y0, y1, y2, y3, y4, y5))) t.1) t.2.1) t.2.2.1) t.2.2.2.1) t.2.2.2.2.1) t.2.2.2.2.2)
theorem word_right.l4_0.loop (n m : Nat) (t : (Int × (Int × (Int × ((List Int) × ((List Int) × (List Int))))))) : loopOf (roundOf (word_right.C n) (word_right.A n) n word_right.b0) m (word_right.l4_0.shape t) = (word_right.l4_0.m n m t).map word_right.l4_0.res :=
  (word_right.l4_0.loop' n m t).trans (word_right.l4_0.gmap word_right.l4_0.res (fun a0 a1 => (a0, a1)) n m t.1 t.2.1 t.2.2.1 t.2.2.2.1 t.2.2.2.2.1 t.2.2.2.2.2)
theorem word_right.gmap {α β : Type} (h : β → α) (mk0 : (List Int) → β) (n : Nat) (a0 : Int) (a1 : (List Int)) (a2 : Int) : word_right.g (fun a0 => (h (mk0 a0))) n a0 a1 a2 = (word_right.g mk0 n a0 a1 a2).map h := by
  unfold word_right.g
  exact (bindO_map fun r2 => rfl)
theorem word_right.run (n : Nat) (a0 : Int) (a1 : (List Int)) (a2 : Int) : runF (word_right.C n) (word_right.A n) n Tryd.f112 [(.int .u64 a0), (.ints .u64 4 a1), (.int .u64 a2)] [] (fun v o => some (v, o)) = word_right.g (fun a0 => ((Prod.mk (.ints .u64 4 a0) []) : AV × Blks)) n a0 a1 a2 := by kernel_rfl
theorem word_right.call (hmix : Tryd.prog.follows .mixedOrders = true) (n : Nat) (t : (Int × ((List Int) × Int))) (u) (h : word_right.m n t = some u) : FnC Tryd.prog abiG 112 (word_right.shape t).1 (word_right.shape t).2 (word_right.res u).1 (word_right.res u).2 := by
  have hg : ∀ f m, (word_right.C n).Γ f = some m → CalleeS Tryd.prog abiG f m := by
    intro f m hm
    unfold word_right.C at hm
    simp only at hm
    first
    | (cases hm; done)
    | (split at hm <;> first
    | (cases hm; exact word_rightS1.s hmix n)
    | (cases hm; done))
  have hb : Tryd.f112.body = some (Tryd.f112.body.getD .skip) := by kernel_rfl
  refine runF_calls (C := word_right.C n) (A := word_right.A n) (n := n) (fn := Tryd.f112) hg hmix Tryd.func112 hb ?_ ?_ (by decide) rfl rfl (by show 3 ≤ Tryd.f112.ntmps; decide) ?_
  · rw [show loopsIn (Tryd.f112.body.getD .skip) = [word_right.b0] by kernel_rfl]
    intro b hb m hm
    simp only [List.mem_cons, List.not_mem_nil, or_false] at hb
    rcases hb with rfl
    · have e : (word_right.A n).loop (key word_right.b0) = some (.mk' word_right.l4_0.pat (word_right.l4_0.m n n) word_right.l4_0.resK) := by rw [show key word_right.b0 = 4 by kernel_rfl]; rfl
      rw [e] at hm
      cases hm
      exact (LoopS.of (res := word_right.l4_0.res) (fun R u K => rfl) word_right.l4_0.pat_shape fun t => word_right.l4_0.loop n n t)
  · intro a ha m hm
    cases (show none = some m from hm)
  · rw [show runF (word_right.C n) (word_right.A n) n Tryd.f112 (word_right.shape t).1 (word_right.shape t).2 (fun v o => some (v, o)) = _ from word_right.run n t.1 t.2.1 t.2.2]
    have e := word_right.gmap word_right.res (fun a0 => a0) n t.1 t.2.1 t.2.2
    unfold word_right.m at h
    rw [h] at e
    exact e
theorem word_right.s (hmix : Tryd.prog.follows .mixedOrders = true) (n : Nat) : CalleeS Tryd.prog abiG 112 (word_right.c n) :=
  CalleeS.of (res := word_right.res) (shape := word_right.shape) (fun R u K => rfl) (fun args lent t h => by
    unfold word_right.pat at h
    split at h
    · cases h; rfl
    · cases h) fun t u h => (word_right.call hmix n t u h).ok Tryd.func112 (by decide) (by kernel_rfl)
end
section
theorem word_Shr.gmap {α β : Type} (h : β → α) (mk0 : (List Int) → β) (n : Nat) (a0 : (List Int)) (a1 : (List Int)) : word_Shr.g (fun a0 => (h (mk0 a0))) n a0 a1 = (word_Shr.g mk0 n a0 a1).map h := by
  unfold word_Shr.g
  exact (bindO_map fun r2 => (bindO_map fun r4 => rfl))
theorem word_Shr.run (n : Nat) (a0 : (List Int)) (a1 : (List Int)) : runF (word_Shr.C n) (word_Shr.A n) n Tryd.f94 [(.ints .u64 4 a0), (.ints .u64 4 a1)] [] (fun v o => some (v, o)) = word_Shr.g (fun a0 => ((Prod.mk (.ints .u64 4 a0) []) : AV × Blks)) n a0 a1 := by kernel_rfl
theorem word_Shr.call (hmix : Tryd.prog.follows .mixedOrders = true) (n : Nat) (t : ((List Int) × (List Int))) (u) (h : word_Shr.m n t = some u) : FnC Tryd.prog abiG 94 (word_Shr.shape t).1 (word_Shr.shape t).2 (word_Shr.res u).1 (word_Shr.res u).2 := by
  have hg : ∀ f m, (word_Shr.C n).Γ f = some m → CalleeS Tryd.prog abiG f m := by
    intro f m hm
    unfold word_Shr.C at hm
    simp only at hm
    first
    | (cases hm; done)
    | (split at hm <;> first
    | (cases hm; exact word_far.s hmix n)
    | (cases hm; exact word_right.s hmix n)
    | (cases hm; done))
  have hb : Tryd.f94.body = some (Tryd.f94.body.getD .skip) := by kernel_rfl
  refine runF_calls (C := word_Shr.C n) (A := word_Shr.A n) (n := n) (fn := Tryd.f94) hg hmix Tryd.func94 hb ?_ ?_ (by decide) rfl rfl (by show 2 ≤ Tryd.f94.ntmps; decide) ?_
  · rw [show loopsIn (Tryd.f94.body.getD .skip) = [] by kernel_rfl]
    intro b hb
    cases hb
  · intro a ha m hm
    cases (show none = some m from hm)
  · rw [show runF (word_Shr.C n) (word_Shr.A n) n Tryd.f94 (word_Shr.shape t).1 (word_Shr.shape t).2 (fun v o => some (v, o)) = _ from word_Shr.run n t.1 t.2]
    have e := word_Shr.gmap word_Shr.res (fun a0 => a0) n t.1 t.2
    unfold word_Shr.m at h
    rw [h] at e
    exact e
theorem word_Shr.s (hmix : Tryd.prog.follows .mixedOrders = true) (n : Nat) : CalleeS Tryd.prog abiG 94 (word_Shr.c n) :=
  CalleeS.of (res := word_Shr.res) (shape := word_Shr.shape) (fun R u K => rfl) (fun args lent t h => by
    unfold word_Shr.pat at h
    split at h
    · cases h; rfl
    · cases h) fun t u h => (word_Shr.call hmix n t u h).ok Tryd.func94 (by decide) (by kernel_rfl)
end
section
noncomputable section
noncomputable def word_Bytes.C (n : Nat) : Ctx := ⟨Tryd.prog, abiG, fun f => match f with
 | _ => none, fun _ => false⟩
def word_Bytes.live : Nat → List Nat × List Nat := fun k => match k with
 | 3 => ([6, 3, 1], [3])
 | _ => ([], [])
def word_Bytes.jlive : Nat → List Nat × List Nat := fun k => match k with
 | _ => ([], [])
def word_Bytes.l3_0.r {α : Type} (mk0 : (List Int) → α) (n : Nat) (rc : Int → (List Int) → (List Int) → Option α)  (x0 : Int) (x1 : (List Int)) (x2 : (List Int)) : Option α :=
  if (decide (x0 < 32)) = true then
   if 0 ≤ (IntKind.wrap .i64 (Int.tdiv x0 8)) then
    if (IntKind.wrap .i64 (Int.tdiv x0 8)) < 4 then
     if 0 ≤ (IntKind.wrap .i64 ((Int.tmod x0 8) * 8)) then
      if 0 ≤ (IntKind.wrap .i64 (31 - x0)) then
       if (IntKind.wrap .i64 (31 - x0)) < (((List.length x1) : Nat) : Int) then
        rc (IntKind.wrap .i64 (x0 + 1)) (List.set x1 (Int.toNat (IntKind.wrap .i64 (31 - x0))) (IntKind.wrap .u8 (ishr .u64 (List.getD x2 (Int.toNat (IntKind.wrap .i64 (Int.tdiv x0 8))) 0) (IntKind.wrap .i64 ((Int.tmod x0 8) * 8))))) x2
       else
        none
      else
       none
     else
      none
    else
     none
   else
    none
  else
   some (mk0 x1)
def word_Bytes.l3_0.g {α : Type} (mk0 : (List Int) → α) (n : Nat) : Nat → Int → (List Int) → (List Int) → Option α
 | 0, _, _, _ => none
 | m + 1, x0, x1, x2 => word_Bytes.l3_0.r mk0 n (fun y0 y1 y2 => word_Bytes.l3_0.g mk0 n m y0 y1 y2)  x0 x1 x2
def word_Bytes.l3_0.m (n m : Nat) (t : (Int × ((List Int) × (List Int)))) : Option (List Int) := word_Bytes.l3_0.g (fun a0 => a0) n m t.1 t.2.1 t.2.2
def word_Bytes.l3_0.pat : St → Option (Int × ((List Int) × (List Int)))
 | (St.mk [(.int .i64 x0), (.own 0 1), (.ptr 1 [])] [(some (.ints .u8 x1)), (some (.var (.ints .u64 4 x2)))]) => some (x0, x1, x2)
 | _ => none
def word_Bytes.l3_0.shape (t : (Int × ((List Int) × (List Int)))) : St := (St.mk [(.int .i64 t.1), (.own 0 1), (.ptr 1 [])] [(some (.ints .u8 t.2.1)), (some (.var (.ints .u64 4 t.2.2)))])
def word_Bytes.l3_0.res : (List Int) → Ex × St
 | u => (Prod.mk (.exit 0) (St.mk [(.own 0 1)] [(some (.ints .u8 u))]))
def word_Bytes.l3_0.resK {R : Type} (u : (List Int)) (K : Ex → St → Option R) : Option R := (fun p : Ex × St => K p.1 p.2) (Prod.mk (.exit 0) (St.mk [(.own 0 1)] [(some (.ints .u8 u))]))
noncomputable def word_Bytes.A (n : Nat) : Ann := ⟨Tryd.f56.ntmps, 0, word_Bytes.live, [(3, (.ints .u8))], [(some (.ints .u8))], fun k => match k with
 | 3 => some (.mk' word_Bytes.l3_0.pat (word_Bytes.l3_0.m n n) word_Bytes.l3_0.resK)
 | _ => none, word_Bytes.jlive, lookJ []⟩
noncomputable def word_Bytes.b0 : Code := (loopsIn (Tryd.f56.body.getD .skip)).getD 0 .skip
def word_Bytes.g {α : Type} (mk0 : (List Int) → α) (n : Nat) (a0 : (List Int)) : Option α :=
 bindO (word_Bytes.l3_0.m n n (0, ([0, 0, 0, 0, 0, 0, 0, 0, 0, 0, 0, 0, 0, 0, 0, 0, 0, 0, 0, 0, 0, 0, 0, 0, 0, 0, 0, 0, 0, 0, 0, 0] : List Int), a0)) fun r2 =>
  some (mk0 r2)
def word_Bytes.m (n : Nat) (t : (List Int)) : Option (List Int) := word_Bytes.g (fun a0 => a0) n t
def word_Bytes.pat : List AV → Blks → Option (List Int)
 | [(.ints .u64 4 a0)], [] => some a0
 | _, _ => none
def word_Bytes.shape (t : (List Int)) : List AV × Blks := ([(.ints .u64 4 t)], [])
def word_Bytes.res : (List Int) → AV × Blks
 | u => (Prod.mk (.own 0 1) [(some (.ints .u8 u))])
def word_Bytes.resK {R : Type} (u : (List Int)) (K : AV → Blks → Option R) : Option R := (fun p : AV × Blks => K p.1 p.2) (Prod.mk (.own 0 1) [(some (.ints .u8 u))])
def word_Bytes.c (n : Nat) : Abs.Callee := .mk' [] [none] word_Bytes.pat (word_Bytes.m n) word_Bytes.resK
end
end
section
theorem word_Bytes.l3_0.rmap {α β : Type} (h : β → α) (mk0 : (List Int) → β) (n : Nat) (f : Int → (List Int) → (List Int) → Option β)  (x0 : Int) (x1 : (List Int)) (x2 : (List Int)) : word_Bytes.l3_0.r (fun a0 => (h (mk0 a0))) n (fun y0 y1 y2 => (f y0 y1 y2).map h) x0 x1 x2 = (word_Bytes.l3_0.r mk0 n f x0 x1 x2).map h := by
  unfold word_Bytes.l3_0.r
  exact (ite_map (ite_map (ite_map (ite_map (ite_map (ite_map rfl rfl) rfl) rfl) rfl) rfl) rfl)
theorem word_Bytes.l3_0.gmap {α β : Type} (h : β → α) (mk0 : (List Int) → β) (n : Nat) : ∀ (m : Nat) (x0 : Int) (x1 : (List Int)) (x2 : (List Int)), word_Bytes.l3_0.g (fun a0 => (h (mk0 a0))) n m x0 x1 x2 = (word_Bytes.l3_0.g mk0 n m x0 x1 x2).map h
  | 0, _, _, _ => rfl
  | m + 1, x0, x1, x2 => by
    unfold word_Bytes.l3_0.g
    rw [← word_Bytes.l3_0.rmap]
    congr
    · funext y0 y1 y2; exact word_Bytes.l3_0.gmap h mk0 n m y0 y1 y2
theorem word_Bytes.l3_0.pat_shape : ∀ st t, word_Bytes.l3_0.pat st = some t → st = word_Bytes.l3_0.shape t := by
  intro st t h
  unfold word_Bytes.l3_0.pat at h
  split at h
  · cases h; rfl
  · cases h
theorem word_Bytes.l3_0.round (n : Nat) (rc : St → Option (Ex × St)) (x0 : Int) (x1 : (List Int)) (x2 : (List Int)) : roundOf (word_Bytes.C n) (word_Bytes.A n) n word_Bytes.b0 rc ((St.mk [(.int .i64 x0), (.own 0 1), (.ptr 1 [])] [(some (.ints .u8 x1)), (some (.var (.ints .u64 4 x2)))])) = word_Bytes.l3_0.r (fun a0 => ((Prod.mk (.exit 0) (St.mk [(.own 0 1)] [(some (.ints .u8 a0))])) : Ex × St)) n (fun y0 y1 y2 => rc ((St.mk [(.int .i64 y0), (.own 0 1), (.ptr 1 [])] [(some (.ints .u8 y1)), (some (.var (.ints .u64 4 y2)))]))) x0 x1 x2 := by kernel_rfl
theorem word_Bytes.l3_0.loop' (n : Nat) : ∀ (m : Nat) (t : (Int × ((List Int) × (List Int)))), loopOf (roundOf (word_Bytes.C n) (word_Bytes.A n) n word_Bytes.b0) m (word_Bytes.l3_0.shape t) = word_Bytes.l3_0.g (fun a0 => ((Prod.mk (.exit 0) (St.mk [(.own 0 1)] [(some (.ints .u8 a0))])) : Ex × St)) n m t.1 t.2.1 t.2.2 :=
  loop_of_round (shape := word_Bytes.l3_0.shape) (body := roundOf (word_Bytes.C n) (word_Bytes.A n) n word_Bytes.b0) (g := fun m t => word_Bytes.l3_0.g (fun a0 => ((Prod.mk (.exit 0) (St.mk [(.own 0 1)] [(some (.ints .u8 a0))])) : Ex × St)) n m t.1 t.2.1 t.2.2) (fun t => rfl)
    fun m t ih => (word_Bytes.l3_0.round n (loopOf (roundOf (word_Bytes.C n) (word_Bytes.A n) n word_Bytes.b0) m) t.1 t.2.1 t.2.2).trans (congrFun (congrFun (congrFun (congrArg (word_Bytes.l3_0.r (fun a0 => ((Prod.mk (.exit 0) (St.mk [(.own 0 1)] [(some (.ints .u8 a0))])) : Ex × St)) n) (funext fun y0 => funext fun y1 => funext fun y2 => ih (y0, y1, y2))) t.1) t.2.1) t.2.2)
theorem word_Bytes.l3_0.loop (n m : Nat) (t : (Int × ((List Int) × (List Int)))) : loopOf (roundOf (word_Bytes.C n) (word_Bytes.A n) n word_Bytes.b0) m (word_Bytes.l3_0.shape t) = (word_Bytes.l3_0.m n m t).map word_Bytes.l3_0.res :=
  (word_Bytes.l3_0.loop' n m t).trans (word_Bytes.l3_0.gmap word_Bytes.l3_0.res (fun a0 => a0) n m t.1 t.2.1 t.2.2)
theorem word_Bytes.gmap {α β : Type} (h : β → α) (mk0 : (List Int) → β) (n : Nat) (a0 : (List Int)) : word_Bytes.g (fun a0 => (h (mk0 a0))) n a0 = (word_Bytes.g mk0 n a0).map h := by
  unfold word_Bytes.g
  exact (bindO_map fun r2 => rfl)
theorem word_Bytes.run (n : Nat) (a0 : (List Int)) : runF (word_Bytes.C n) (word_Bytes.A n) n Tryd.f56 [(.ints .u64 4 a0)] [] (fun v o => some (v, o)) = word_Bytes.g (fun a0 => ((Prod.mk (.own 0 1) [(some (.ints .u8 a0))]) : AV × Blks)) n a0 := by kernel_rfl
theorem word_Bytes.call (hmix : Tryd.prog.follows .mixedOrders = true) (n : Nat) (t : (List Int)) (u) (h : word_Bytes.m n t = some u) : FnC Tryd.prog abiG 56 (word_Bytes.shape t).1 (word_Bytes.shape t).2 (word_Bytes.res u).1 (word_Bytes.res u).2 := by
  have hg : ∀ f m, (word_Bytes.C n).Γ f = some m → CalleeS Tryd.prog abiG f m := by
    intro f m hm
    unfold word_Bytes.C at hm
    simp only at hm
    first
    | (cases hm; done)
    | (split at hm <;> first
    | (cases hm; done))
  have hb : Tryd.f56.body = some (Tryd.f56.body.getD .skip) := by kernel_rfl
  refine runF_calls (C := word_Bytes.C n) (A := word_Bytes.A n) (n := n) (fn := Tryd.f56) hg hmix Tryd.func56 hb ?_ ?_ (by decide) rfl rfl (by show 1 ≤ Tryd.f56.ntmps; decide) ?_
  · rw [show loopsIn (Tryd.f56.body.getD .skip) = [word_Bytes.b0] by kernel_rfl]
    intro b hb m hm
    simp only [List.mem_cons, List.not_mem_nil, or_false] at hb
    rcases hb with rfl
    · have e : (word_Bytes.A n).loop (key word_Bytes.b0) = some (.mk' word_Bytes.l3_0.pat (word_Bytes.l3_0.m n n) word_Bytes.l3_0.resK) := by rw [show key word_Bytes.b0 = 3 by kernel_rfl]; rfl
      rw [e] at hm
      cases hm
      exact (LoopS.of (res := word_Bytes.l3_0.res) (fun R u K => rfl) word_Bytes.l3_0.pat_shape fun t => word_Bytes.l3_0.loop n n t)
  · intro a ha m hm
    cases (show none = some m from hm)
  · rw [show runF (word_Bytes.C n) (word_Bytes.A n) n Tryd.f56 (word_Bytes.shape t).1 (word_Bytes.shape t).2 (fun v o => some (v, o)) = _ from word_Bytes.run n t]
    have e := word_Bytes.gmap word_Bytes.res (fun a0 => a0) n t
    unfold word_Bytes.m at h
    rw [h] at e
    exact e
theorem word_Bytes.s (hmix : Tryd.prog.follows .mixedOrders = true) (n : Nat) : CalleeS Tryd.prog abiG 56 (word_Bytes.c n) :=
  CalleeS.of (res := word_Bytes.res) (shape := word_Bytes.shape) (fun R u K => rfl) (fun args lent t h => by
    unfold word_Bytes.pat at h
    split at h
    · cases h; rfl
    · cases h) fun t u h => (word_Bytes.call hmix n t u h).ok Tryd.func56 (by decide) (by kernel_rfl)
end
section
noncomputable section
noncomputable def word_Read.C (n : Nat) : Ctx := ⟨Tryd.prog, abiG, fun f => match f with
 | _ => none, fun _ => false⟩
def word_Read.live : Nat → List Nat × List Nat := fun k => match k with
 | 4 => ([13, 12, 3, 0, 2], [3, 2])
 | _ => ([], [])
def word_Read.jlive : Nat → List Nat × List Nat := fun k => match k with
 | _ => ([], [])
def word_Read.l4_0.r {α : Type} (mk0 : (List Int) → (List Int) → α) (n : Nat) (rc : Int → Int → (List Int) → (List Int) → (List Int) → Option α)  (x0 : Int) (x1 : Int) (x2 : (List Int)) (x3 : (List Int)) (x4 : (List Int)) : Option α :=
  if (decide (x0 < x1)) = true then
   if 0 ≤ (IntKind.wrap .i64 (Int.tdiv x0 8)) then
    if (IntKind.wrap .i64 (Int.tdiv x0 8)) < 4 then
     if 0 ≤ (IntKind.wrap .i64 ((IntKind.wrap .i64 ((((List.length x2) : Nat) : Int) - 1)) - x0)) then
      if (IntKind.wrap .i64 ((IntKind.wrap .i64 ((((List.length x2) : Nat) : Int) - 1)) - x0)) < (((List.length x2) : Nat) : Int) then
       if 0 ≤ (IntKind.wrap .i64 ((Int.tmod x0 8) * 8)) then
        if 0 ≤ (IntKind.wrap .i64 (Int.tdiv x0 8)) then
         if (IntKind.wrap .i64 (Int.tdiv x0 8)) < 4 then
          rc (IntKind.wrap .i64 (x0 + 1)) x1 x2 (List.set x3 (Int.toNat (IntKind.wrap .i64 (Int.tdiv x0 8))) (ibits BinOp.or .u64 (List.getD x3 (Int.toNat (IntKind.wrap .i64 (Int.tdiv x0 8))) 0) (ishl .u64 (IntKind.wrap .u64 (List.getD x2 (Int.toNat (IntKind.wrap .i64 ((IntKind.wrap .i64 ((((List.length x2) : Nat) : Int) - 1)) - x0))) 0)) (IntKind.wrap .i64 ((Int.tmod x0 8) * 8))))) x4
         else
          none
        else
         none
       else
        none
      else
       none
     else
      none
    else
     none
   else
    none
  else
   some (mk0 x3 x4)
def word_Read.l4_0.g {α : Type} (mk0 : (List Int) → (List Int) → α) (n : Nat) : Nat → Int → Int → (List Int) → (List Int) → (List Int) → Option α
 | 0, _, _, _, _, _ => none
 | m + 1, x0, x1, x2, x3, x4 => word_Read.l4_0.r mk0 n (fun y0 y1 y2 y3 y4 => word_Read.l4_0.g mk0 n m y0 y1 y2 y3 y4)  x0 x1 x2 x3 x4
def word_Read.l4_0.m (n m : Nat) (t : (Int × (Int × ((List Int) × ((List Int) × (List Int)))))) : Option ((List Int) × (List Int)) := word_Read.l4_0.g (fun a0 a1 => (a0, a1)) n m t.1 t.2.1 t.2.2.1 t.2.2.2.1 t.2.2.2.2
def word_Read.l4_0.pat : St → Option (Int × (Int × ((List Int) × ((List Int) × (List Int)))))
 | (St.mk [(.int .i64 x0), (.int .i64 x1), (.ptr 0 []), (.rints .u8 x2), (.ptr 1 [])] [(some (.var (.ints .u64 4 x3))), (some (.var (.ints .u64 4 x4)))]) => some (x0, x1, x2, x3, x4)
 | _ => none
def word_Read.l4_0.shape (t : (Int × (Int × ((List Int) × ((List Int) × (List Int)))))) : St := (St.mk [(.int .i64 t.1), (.int .i64 t.2.1), (.ptr 0 []), (.rints .u8 t.2.2.1), (.ptr 1 [])] [(some (.var (.ints .u64 4 t.2.2.2.1))), (some (.var (.ints .u64 4 t.2.2.2.2)))])
def word_Read.l4_0.res : ((List Int) × (List Int)) → Ex × St
 | u => (Prod.mk (.exit 0) (St.mk [(.ptr 0 []), (.ptr 1 [])] [(some (.var (.ints .u64 4 u.1))), (some (.var (.ints .u64 4 u.2)))]))
def word_Read.l4_0.resK {R : Type} (u : ((List Int) × (List Int))) (K : Ex → St → Option R) : Option R := (fun p : Ex × St => K p.1 p.2) (Prod.mk (.exit 0) (St.mk [(.ptr 0 []), (.ptr 1 [])] [(some (.var (.ints .u64 4 u.1))), (some (.var (.ints .u64 4 u.2)))]))
noncomputable def word_Read.A (n : Nat) : Ann := ⟨Tryd.f89.ntmps, 0, word_Read.live, [(0, (.ints .u8))], [none], fun k => match k with
 | 4 => some (.mk' word_Read.l4_0.pat (word_Read.l4_0.m n n) word_Read.l4_0.resK)
 | _ => none, word_Read.jlive, lookJ []⟩
noncomputable def word_Read.b0 : Code := (loopsIn (Tryd.f89.body.getD .skip)).getD 0 .skip
def word_Read.g {α : Type} (mk0 : (List Int) → α) (n : Nat) (a0 : (List Int)) : Option α :=
 if 0 ≤ (if 0 > (IntKind.wrap .i64 ((((List.length a0) : Nat) : Int) - 32)) then 0 else (IntKind.wrap .i64 ((((List.length a0) : Nat) : Int) - 32))) then
  if (if 0 > (IntKind.wrap .i64 ((((List.length a0) : Nat) : Int) - 32)) then 0 else (IntKind.wrap .i64 ((((List.length a0) : Nat) : Int) - 32))) ≤ (((List.length a0) : Nat) : Int) then
   bindO (word_Read.l4_0.m n n (0, (((List.length (Go.Abs.cut a0 (Int.toNat (if 0 > (IntKind.wrap .i64 ((((List.length a0) : Nat) : Int) - 32)) then 0 else (IntKind.wrap .i64 ((((List.length a0) : Nat) : Int) - 32)))) (Option.none))) : Nat) : Int), (Go.Abs.cut a0 (Int.toNat (if 0 > (IntKind.wrap .i64 ((((List.length a0) : Nat) : Int) - 32)) then 0 else (IntKind.wrap .i64 ((((List.length a0) : Nat) : Int) - 32)))) (Option.none)), [0, 0, 0, 0], [0, 0, 0, 0])) fun r6 =>
    some (mk0 (Prod.fst r6))
  else
   none
 else
  none
def word_Read.m (n : Nat) (t : (List Int)) : Option (List Int) := word_Read.g (fun a0 => a0) n t
def word_Read.pat : List AV → Blks → Option (List Int)
 | [(.rints .u8 a0)], [] => some a0
 | _, _ => none
def word_Read.shape (t : (List Int)) : List AV × Blks := ([(.rints .u8 t)], [])
def word_Read.res : (List Int) → AV × Blks
 | u => (Prod.mk (.ints .u64 4 u) [])
def word_Read.resK {R : Type} (u : (List Int)) (K : AV → Blks → Option R) : Option R := (fun p : AV × Blks => K p.1 p.2) (Prod.mk (.ints .u64 4 u) [])
def word_Read.c (n : Nat) : Abs.Callee := .mk' [] [(some (.ints .u8))] word_Read.pat (word_Read.m n) word_Read.resK
end
end
section
theorem word_Read.l4_0.rmap {α β : Type} (h : β → α) (mk0 : (List Int) → (List Int) → β) (n : Nat) (f : Int → Int → (List Int) → (List Int) → (List Int) → Option β)  (x0 : Int) (x1 : Int) (x2 : (List Int)) (x3 : (List Int)) (x4 : (List Int)) : word_Read.l4_0.r (fun a0 a1 => (h (mk0 a0 a1))) n (fun y0 y1 y2 y3 y4 => (f y0 y1 y2 y3 y4).map h) x0 x1 x2 x3 x4 = (word_Read.l4_0.r mk0 n f x0 x1 x2 x3 x4).map h := by
  unfold word_Read.l4_0.r
  exact (ite_map (ite_map (ite_map (ite_map (ite_map (ite_map (ite_map (ite_map rfl rfl) rfl) rfl) rfl) rfl) rfl) rfl) rfl)
theorem word_Read.l4_0.gmap {α β : Type} (h : β → α) (mk0 : (List Int) → (List Int) → β) (n : Nat) : ∀ (m : Nat) (x0 : Int) (x1 : Int) (x2 : (List Int)) (x3 : (List Int)) (x4 : (List Int)), word_Read.l4_0.g (fun a0 a1 => (h (mk0 a0 a1))) n m x0 x1 x2 x3 x4 = (word_Read.l4_0.g mk0 n m x0 x1 x2 x3 x4).map h
  | 0, _, _, _, _, _ => rfl
  | m + 1, x0, x1, x2, x3, x4 => by
    unfold word_Read.l4_0.g
    rw [← word_Read.l4_0.rmap]
    congr
    · funext y0 y1 y2 y3 y4; exact word_Read.l4_0.gmap h mk0 n m y0 y1 y2 y3 y4
theorem word_Read.l4_0.pat_shape : ∀ st t, word_Read.l4_0.pat st = some t → st = word_Read.l4_0.shape t := by
  intro st t h
  unfold word_Read.l4_0.pat at h
  split at h
  · cases h; rfl
  · cases h
theorem word_Read.l4_0.round (n : Nat) (rc : St → Option (Ex × St)) (x0 : Int) (x1 : Int) (x2 : (List Int)) (x3 : (List Int)) (x4 : (List Int)) : roundOf (word_Read.C n) (word_Read.A n) n word_Read.b0 rc ((St.mk [(.int .i64 x0), (.int .i64 x1), (.ptr 0 []), (.rints .u8 x2), (.ptr 1 [])] [(some (.var (.ints .u64 4 x3))), (some (.var (.ints .u64 4 x4)))])) = word_Read.l4_0.r (fun a0 a1 => ((Prod.mk (.exit 0) (St.mk [(.ptr 0 []), (.ptr 1 [])] [(some (.var (.ints .u64 4 a0))), (some (.var (.ints .u64 4 a1)))])) : Ex × St)) n (fun y0 y1 y2 y3 y4 => rc ((St.mk [(.int .i64 y0), (.int .i64 y1), (.ptr 0 []), (.rints .u8 y2), (.ptr 1 [])] [(some (.var (.ints .u64 4 y3))), (some (.var (.ints .u64 4 y4)))]))) x0 x1 x2 x3 x4 := by kernel_rfl
theorem word_Read.l4_0.loop' (n : Nat) : ∀ (m : Nat) (t : (Int × (Int × ((List Int) × ((List Int) × (List Int)))))), loopOf (roundOf (word_Read.C n) (word_Read.A n) n word_Read.b0) m (word_Read.l4_0.shape t) = word_Read.l4_0.g (fun a0 a1 => ((Prod.mk (.exit 0) (St.mk [(.ptr 0 []), (.ptr 1 [])] [(some (.var (.ints .u64 4 a0))), (some (.var (.ints .u64 4 a1)))])) : Ex × St)) n m t.1 t.2.1 t.2.2.1 t.2.2.2.1 t.2.2.2.2 :=
  loop_of_round (shape := word_Read.l4_0.shape) (body := roundOf (word_Read.C n) (word_Read.A n) n word_Read.b0) (g := fun m t => word_Read.l4_0.g (fun a0 a1 => ((Prod.mk (.exit 0) (St.mk [(.ptr 0 []), (.ptr 1 [])] [(some (.var (.ints .u64 4 a0))), (some (.var (.ints .u64 4 a1)))])) : Ex × St)) n m t.1 t.2.1 t.2.2.1 t.2.2.2.1 t.2.2.2.2) (fun t => rfl)
    fun m t ih => (word_Read.l4_0.round n (loopOf (roundOf (word_Read.C n) (word_Read.A n) n word_Read.b0) m) t.1 t.2.1 t.2.2.1 t.2.2.2.1 t.2.2.2.2).trans (congrFun (congrFun (congrFun (congrFun (congrFun (congrArg (word_Read.l4_0.r (fun a0 a1 => ((Prod.mk (.exit 0) (St.mk [(.ptr 0 []), (.ptr 1 [])] [(some (.var (.ints .u64 4 a0))), (some (.var (.ints .u64 4 a1)))])) : Ex × St)) n) (funext fun y0 => funext fun y1 => funext fun y2 => funext fun y3 => funext fun y4 => ih (y0, y1, y2, y3, y4))) t.1) t.2.1) t.2.2.1) t.2.2.2.1) t.2.2.2.2)
theorem word_Read.l4_0.loop (n m : Nat) (t : (Int × (Int × ((List Int) × ((List Int) × (List Int)))))) : loopOf (roundOf (word_Read.C n) (word_Read.A n) n word_Read.b0) m (word_Read.l4_0.shape t) = (word_Read.l4_0.m n m t).map word_Read.l4_0.res :=
  (word_Read.l4_0.loop' n m t).trans (word_Read.l4_0.gmap word_Read.l4_0.res (fun a0 a1 => (a0, a1)) n m t.1 t.2.1 t.2.2.1 t.2.2.2.1 t.2.2.2.2)
theorem word_Read.gmap {α β : Type} (h : β → α) (mk0 : (List Int) → β) (n : Nat) (a0 : (List Int)) : word_Read.g (fun a0 => (h (mk0 a0))) n a0 = (word_Read.g mk0 n a0).map h := by
  unfold word_Read.g
  exact (ite_map (ite_map (bindO_map fun r6 => rfl) rfl) rfl)
theorem word_Read.run (n : Nat) (a0 : (List Int)) : runF (word_Read.C n) (word_Read.A n) n Tryd.f89 [(.rints .u8 a0)] [] (fun v o => some (v, o)) = word_Read.g (fun a0 => ((Prod.mk (.ints .u64 4 a0) []) : AV × Blks)) n a0 := by kernel_rfl
theorem word_Read.call (hmix : Tryd.prog.follows .mixedOrders = true) (n : Nat) (t : (List Int)) (u) (h : word_Read.m n t = some u) : FnC Tryd.prog abiG 89 (word_Read.shape t).1 (word_Read.shape t).2 (word_Read.res u).1 (word_Read.res u).2 := by
  have hg : ∀ f m, (word_Read.C n).Γ f = some m → CalleeS Tryd.prog abiG f m := by
    intro f m hm
    unfold word_Read.C at hm
    simp only at hm
    first
    | (cases hm; done)
    | (split at hm <;> first
    | (cases hm; done))
  have hb : Tryd.f89.body = some (Tryd.f89.body.getD .skip) := by kernel_rfl
  refine runF_calls (C := word_Read.C n) (A := word_Read.A n) (n := n) (fn := Tryd.f89) hg hmix Tryd.func89 hb ?_ ?_ (by decide) rfl rfl (by show 1 ≤ Tryd.f89.ntmps; decide) ?_
  · rw [show loopsIn (Tryd.f89.body.getD .skip) = [word_Read.b0] by kernel_rfl]
    intro b hb m hm
    simp only [List.mem_cons, List.not_mem_nil, or_false] at hb
    rcases hb with rfl
    · have e : (word_Read.A n).loop (key word_Read.b0) = some (.mk' word_Read.l4_0.pat (word_Read.l4_0.m n n) word_Read.l4_0.resK) := by rw [show key word_Read.b0 = 4 by kernel_rfl]; rfl
      rw [e] at hm
      cases hm
      exact (LoopS.of (res := word_Read.l4_0.res) (fun R u K => rfl) word_Read.l4_0.pat_shape fun t => word_Read.l4_0.loop n n t)
  · intro a ha m hm
    cases (show none = some m from hm)
  · rw [show runF (word_Read.C n) (word_Read.A n) n Tryd.f89 (word_Read.shape t).1 (word_Read.shape t).2 (fun v o => some (v, o)) = _ from word_Read.run n t]
    have e := word_Read.gmap word_Read.res (fun a0 => a0) n t
    unfold word_Read.m at h
    rw [h] at e
    exact e
theorem word_Read.s (hmix : Tryd.prog.follows .mixedOrders = true) (n : Nat) : CalleeS Tryd.prog abiG 89 (word_Read.c n) :=
  CalleeS.of (res := word_Read.res) (shape := word_Read.shape) (fun R u K => rfl) (fun args lent t h => by
    unfold word_Read.pat at h
    split at h
    · cases h; rfl
    · cases h) fun t u h => (word_Read.call hmix n t u h).ok Tryd.func89 (by decide) (by kernel_rfl)
end
section
noncomputable section
noncomputable def q01_Read.C (n : Nat) : Ctx := ⟨Tryd.prog, abiG, fun f => match f with
 | _ => none, fun _ => false⟩
def q01_Read.live : Nat → List Nat × List Nat := fun k => match k with
 | 4 => ([5, 4, 3, 0, 2], [3, 2])
 | _ => ([], [])
def q01_Read.jlive : Nat → List Nat × List Nat := fun k => match k with
 | _ => ([], [])
def q01_Read.l4_0.r {α : Type} (mk0 : (List Int) → (List Int) → α) (n : Nat) (rc : Int → Int → (List Int) → (List Int) → (List Int) → Option α)  (x0 : Int) (x1 : Int) (x2 : (List Int)) (x3 : (List Int)) (x4 : (List Int)) : Option α :=
  if (decide (x0 < 32)) = true then
   if (decide (x0 < x1)) = true then
    if 0 ≤ (IntKind.wrap .i64 (Int.tdiv x0 8)) then
     if (IntKind.wrap .i64 (Int.tdiv x0 8)) < 4 then
      if 0 ≤ (IntKind.wrap .i64 ((IntKind.wrap .i64 (x1 - 1)) - x0)) then
       if (IntKind.wrap .i64 ((IntKind.wrap .i64 (x1 - 1)) - x0)) < (((List.length x2) : Nat) : Int) then
        if 0 ≤ (IntKind.wrap .u64 (IntKind.wrap .i64 ((Int.tmod x0 8) * 8))) then
         if 0 ≤ (IntKind.wrap .i64 (Int.tdiv x0 8)) then
          if (IntKind.wrap .i64 (Int.tdiv x0 8)) < 4 then
           rc (IntKind.wrap .i64 (x0 + 1)) x1 x2 (List.set x3 (Int.toNat (IntKind.wrap .i64 (Int.tdiv x0 8))) (ibits BinOp.or .u64 (List.getD x3 (Int.toNat (IntKind.wrap .i64 (Int.tdiv x0 8))) 0) (ishl .u64 (IntKind.wrap .u64 (List.getD x2 (Int.toNat (IntKind.wrap .i64 ((IntKind.wrap .i64 (x1 - 1)) - x0))) 0)) (IntKind.wrap .u64 (IntKind.wrap .i64 ((Int.tmod x0 8) * 8)))))) x4
          else
           none
         else
          none
        else
         none
       else
        none
      else
       none
     else
      none
    else
     none
   else
    some (mk0 x3 x4)
  else
   some (mk0 x3 x4)
def q01_Read.l4_0.g {α : Type} (mk0 : (List Int) → (List Int) → α) (n : Nat) : Nat → Int → Int → (List Int) → (List Int) → (List Int) → Option α
 | 0, _, _, _, _, _ => none
 | m + 1, x0, x1, x2, x3, x4 => q01_Read.l4_0.r mk0 n (fun y0 y1 y2 y3 y4 => q01_Read.l4_0.g mk0 n m y0 y1 y2 y3 y4)  x0 x1 x2 x3 x4
def q01_Read.l4_0.m (n m : Nat) (t : (Int × (Int × ((List Int) × ((List Int) × (List Int)))))) : Option ((List Int) × (List Int)) := q01_Read.l4_0.g (fun a0 a1 => (a0, a1)) n m t.1 t.2.1 t.2.2.1 t.2.2.2.1 t.2.2.2.2
def q01_Read.l4_0.pat : St → Option (Int × (Int × ((List Int) × ((List Int) × (List Int)))))
 | (St.mk [(.int .i64 x0), (.int .i64 x1), (.ptr 0 []), (.rints .u8 x2), (.ptr 1 [])] [(some (.var (.ints .u64 4 x3))), (some (.var (.ints .u64 4 x4)))]) => some (x0, x1, x2, x3, x4)
 | _ => none
def q01_Read.l4_0.shape (t : (Int × (Int × ((List Int) × ((List Int) × (List Int)))))) : St := (St.mk [(.int .i64 t.1), (.int .i64 t.2.1), (.ptr 0 []), (.rints .u8 t.2.2.1), (.ptr 1 [])] [(some (.var (.ints .u64 4 t.2.2.2.1))), (some (.var (.ints .u64 4 t.2.2.2.2)))])
def q01_Read.l4_0.res : ((List Int) × (List Int)) → Ex × St
 | u => (Prod.mk (.exit 0) (St.mk [(.ptr 0 []), (.ptr 1 [])] [(some (.var (.ints .u64 4 u.1))), (some (.var (.ints .u64 4 u.2)))]))
def q01_Read.l4_0.resK {R : Type} (u : ((List Int) × (List Int))) (K : Ex → St → Option R) : Option R := (fun p : Ex × St => K p.1 p.2) (Prod.mk (.exit 0) (St.mk [(.ptr 0 []), (.ptr 1 [])] [(some (.var (.ints .u64 4 u.1))), (some (.var (.ints .u64 4 u.2)))]))
noncomputable def q01_Read.A (n : Nat) : Ann := ⟨Tryd.f65.ntmps, 0, q01_Read.live, [(0, (.ints .u8))], [none], fun k => match k with
 | 4 => some (.mk' q01_Read.l4_0.pat (q01_Read.l4_0.m n n) q01_Read.l4_0.resK)
 | _ => none, q01_Read.jlive, lookJ []⟩
noncomputable def q01_Read.b0 : Code := (loopsIn (Tryd.f65.body.getD .skip)).getD 0 .skip
def q01_Read.g {α : Type} (mk0 : (List Int) → α) (n : Nat) (a0 : (List Int)) : Option α :=
 bindO (q01_Read.l4_0.m n n (0, (((List.length a0) : Nat) : Int), a0, [0, 0, 0, 0], [0, 0, 0, 0])) fun r2 =>
  some (mk0 (Prod.fst r2))
def q01_Read.m (n : Nat) (t : (List Int)) : Option (List Int) := q01_Read.g (fun a0 => a0) n t
def q01_Read.pat : List AV → Blks → Option (List Int)
 | [(.rints .u8 a0)], [] => some a0
 | _, _ => none
def q01_Read.shape (t : (List Int)) : List AV × Blks := ([(.rints .u8 t)], [])
def q01_Read.res : (List Int) → AV × Blks
 | u => (Prod.mk (.ints .u64 4 u) [])
def q01_Read.resK {R : Type} (u : (List Int)) (K : AV → Blks → Option R) : Option R := (fun p : AV × Blks => K p.1 p.2) (Prod.mk (.ints .u64 4 u) [])
def q01_Read.c (n : Nat) : Abs.Callee := .mk' [] [(some (.ints .u8))] q01_Read.pat (q01_Read.m n) q01_Read.resK
end
end
section
theorem q01_Read.l4_0.rmap {α β : Type} (h : β → α) (mk0 : (List Int) → (List Int) → β) (n : Nat) (f : Int → Int → (List Int) → (List Int) → (List Int) → Option β)  (x0 : Int) (x1 : Int) (x2 : (List Int)) (x3 : (List Int)) (x4 : (List Int)) : q01_Read.l4_0.r (fun a0 a1 => (h (mk0 a0 a1))) n (fun y0 y1 y2 y3 y4 => (f y0 y1 y2 y3 y4).map h) x0 x1 x2 x3 x4 = (q01_Read.l4_0.r mk0 n f x0 x1 x2 x3 x4).map h := by
  unfold q01_Read.l4_0.r
  exact (ite_map (ite_map (ite_map (ite_map (ite_map (ite_map (ite_map (ite_map (ite_map rfl rfl) rfl) rfl) rfl) rfl) rfl) rfl) rfl) rfl)
theorem q01_Read.l4_0.gmap {α β : Type} (h : β → α) (mk0 : (List Int) → (List Int) → β) (n : Nat) : ∀ (m : Nat) (x0 : Int) (x1 : Int) (x2 : (List Int)) (x3 : (List Int)) (x4 : (List Int)), q01_Read.l4_0.g (fun a0 a1 => (h (mk0 a0 a1))) n m x0 x1 x2 x3 x4 = (q01_Read.l4_0.g mk0 n m x0 x1 x2 x3 x4).map h
  | 0, _, _, _, _, _ => rfl
  | m + 1, x0, x1, x2, x3, x4 => by
    unfold q01_Read.l4_0.g
    rw [← q01_Read.l4_0.rmap]
    congr
    · funext y0 y1 y2 y3 y4; exact q01_Read.l4_0.gmap h mk0 n m y0 y1 y2 y3 y4
theorem q01_Read.l4_0.pat_shape : ∀ st t, q01_Read.l4_0.pat st = some t → st = q01_Read.l4_0.shape t := by
  intro st t h
  unfold q01_Read.l4_0.pat at h
  split at h
  · cases h; rfl
  · cases h
theorem q01_Read.l4_0.round (n : Nat) (rc : St → Option (Ex × St)) (x0 : Int) (x1 : Int) (x2 : (List Int)) (x3 : (List Int)) (x4 : (List Int)) : roundOf (q01_Read.C n) (q01_Read.A n) n q01_Read.b0 rc ((St.mk [(.int .i64 x0), (.int .i64 x1), (.ptr 0 []), (.rints .u8 x2), (.ptr 1 [])] [(some (.var (.ints .u64 4 x3))), (some (.var (.ints .u64 4 x4)))])) = q01_Read.l4_0.r (fun a0 a1 => ((Prod.mk (.exit 0) (St.mk [(.ptr 0 []), (.ptr 1 [])] [(some (.var (.ints .u64 4 a0))), (some (.var (.ints .u64 4 a1)))])) : Ex × St)) n (fun y0 y1 y2 y3 y4 => rc ((St.mk [(.int .i64 y0), (.int .i64 y1), (.ptr 0 []), (.rints .u8 y2), (.ptr 1 [])] [(some (.var (.ints .u64 4 y3))), (some (.var (.ints .u64 4 y4)))]))) x0 x1 x2 x3 x4 := by kernel_rfl
theorem q01_Read.l4_0.loop' (n : Nat) : ∀ (m : Nat) (t : (Int × (Int × ((List Int) × ((List Int) × (List Int)))))), loopOf (roundOf (q01_Read.C n) (q01_Read.A n) n q01_Read.b0) m (q01_Read.l4_0.shape t) = q01_Read.l4_0.g (fun a0 a1 => ((Prod.mk (.exit 0) (St.mk [(.ptr 0 []), (.ptr 1 [])] [(some (.var (.ints .u64 4 a0))), (some (.var (.ints .u64 4 a1)))])) : Ex × St)) n m t.1 t.2.1 t.2.2.1 t.2.2.2.1 t.2.2.2.2 :=
  loop_of_round (shape := q01_Read.l4_0.shape) (body := roundOf (q01_Read.C n) (q01_Read.A n) n q01_Read.b0) (g := fun m t => q01_Read.l4_0.g (fun a0 a1 => ((Prod.mk (.exit 0) (St.mk [(.ptr 0 []), (.ptr 1 [])] [(some (.var (.ints .u64 4 a0))), (some (.var (.ints .u64 4 a1)))])) : Ex × St)) n m t.1 t.2.1 t.2.2.1 t.2.2.2.1 t.2.2.2.2) (fun t => rfl)
    fun m t ih => (q01_Read.l4_0.round n (loopOf (roundOf (q01_Read.C n) (q01_Read.A n) n q01_Read.b0) m) t.1 t.2.1 t.2.2.1 t.2.2.2.1 t.2.2.2.2).trans (congrFun (congrFun (congrFun (congrFun (congrFun (congrArg (q01_Read.l4_0.r (fun a0 a1 => ((Prod.mk (.exit 0) (St.mk [(.ptr 0 []), (.ptr 1 [])] [(some (.var (.ints .u64 4 a0))), (some (.var (.ints .u64 4 a1)))])) : Ex × St)) n) (funext fun y0 => funext fun y1 => funext fun y2 => funext fun y3 => funext fun y4 => ih (y0, y1, y2, y3, y4))) t.1) t.2.1) t.2.2.1) t.2.2.2.1) t.2.2.2.2)
theorem q01_Read.l4_0.loop (n m : Nat) (t : (Int × (Int × ((List Int) × ((List Int) × (List Int)))))) : loopOf (roundOf (q01_Read.C n) (q01_Read.A n) n q01_Read.b0) m (q01_Read.l4_0.shape t) = (q01_Read.l4_0.m n m t).map q01_Read.l4_0.res :=
  (q01_Read.l4_0.loop' n m t).trans (q01_Read.l4_0.gmap q01_Read.l4_0.res (fun a0 a1 => (a0, a1)) n m t.1 t.2.1 t.2.2.1 t.2.2.2.1 t.2.2.2.2)
theorem q01_Read.gmap {α β : Type} (h : β → α) (mk0 : (List Int) → β) (n : Nat) (a0 : (List Int)) : q01_Read.g (fun a0 => (h (mk0 a0))) n a0 = (q01_Read.g mk0 n a0).map h := by
  unfold q01_Read.g
  exact (bindO_map fun r2 => rfl)
theorem q01_Read.run (n : Nat) (a0 : (List Int)) : runF (q01_Read.C n) (q01_Read.A n) n Tryd.f65 [(.rints .u8 a0)] [] (fun v o => some (v, o)) = q01_Read.g (fun a0 => ((Prod.mk (.ints .u64 4 a0) []) : AV × Blks)) n a0 := by kernel_rfl
theorem q01_Read.call (hmix : Tryd.prog.follows .mixedOrders = true) (n : Nat) (t : (List Int)) (u) (h : q01_Read.m n t = some u) : FnC Tryd.prog abiG 65 (q01_Read.shape t).1 (q01_Read.shape t).2 (q01_Read.res u).1 (q01_Read.res u).2 := by
  have hg : ∀ f m, (q01_Read.C n).Γ f = some m → CalleeS Tryd.prog abiG f m := by
    intro f m hm
    unfold q01_Read.C at hm
    simp only at hm
    first
    | (cases hm; done)
    | (split at hm <;> first
    | (cases hm; done))
  have hb : Tryd.f65.body = some (Tryd.f65.body.getD .skip) := by kernel_rfl
  refine runF_calls (C := q01_Read.C n) (A := q01_Read.A n) (n := n) (fn := Tryd.f65) hg hmix Tryd.func65 hb ?_ ?_ (by decide) rfl rfl (by show 1 ≤ Tryd.f65.ntmps; decide) ?_
  · rw [show loopsIn (Tryd.f65.body.getD .skip) = [q01_Read.b0] by kernel_rfl]
    intro b hb m hm
    simp only [List.mem_cons, List.not_mem_nil, or_false] at hb
    rcases hb with rfl
    · have e : (q01_Read.A n).loop (key q01_Read.b0) = some (.mk' q01_Read.l4_0.pat (q01_Read.l4_0.m n n) q01_Read.l4_0.resK) := by rw [show key q01_Read.b0 = 4 by kernel_rfl]; rfl
      rw [e] at hm
      cases hm
      exact (LoopS.of (res := q01_Read.l4_0.res) (fun R u K => rfl) q01_Read.l4_0.pat_shape fun t => q01_Read.l4_0.loop n n t)
  · intro a ha m hm
    cases (show none = some m from hm)
  · rw [show runF (q01_Read.C n) (q01_Read.A n) n Tryd.f65 (q01_Read.shape t).1 (q01_Read.shape t).2 (fun v o => some (v, o)) = _ from q01_Read.run n t]
    have e := q01_Read.gmap q01_Read.res (fun a0 => a0) n t
    unfold q01_Read.m at h
    rw [h] at e
    exact e
theorem q01_Read.s (hmix : Tryd.prog.follows .mixedOrders = true) (n : Nat) : CalleeS Tryd.prog abiG 65 (q01_Read.c n) :=
  CalleeS.of (res := q01_Read.res) (shape := q01_Read.shape) (fun R u K => rfl) (fun args lent t h => by
    unfold q01_Read.pat at h
    split at h
    · cases h; rfl
    · cases h) fun t u h => (q01_Read.call hmix n t u h).ok Tryd.func65 (by decide) (by kernel_rfl)
end
section
noncomputable section
noncomputable def word_Addr.C (n : Nat) : Ctx := ⟨Tryd.prog, abiG, fun f => match f with
 | 56 => some (word_Bytes.c n)
 | _ => none, fun _ => false⟩
def word_Addr.live : Nat → List Nat × List Nat := fun k => match k with
 | _ => ([], [])
def word_Addr.jlive : Nat → List Nat × List Nat := fun k => match k with
 | _ => ([], [])
noncomputable def word_Addr.A (n : Nat) : Ann := ⟨Tryd.f63.ntmps, 0, word_Addr.live, [], [none], fun k => match k with
 | _ => none, word_Addr.jlive, lookJ []⟩
def word_Addr.g {α : Type} (mk0 : (List Int) → α) (n : Nat) (a0 : (List Int)) : Option α :=
 bindO (word_Bytes.m n a0) fun r2 =>
  if 12 ≤ (((List.length r2) : Nat) : Int) then
   if 20 ≤ (Go.Abs.span (List.length r2) 12 (Option.none)) then
    some (mk0 (List.take 20 (List.drop 12 r2)))
   else
    none
  else
   none
def word_Addr.m (n : Nat) (t : (List Int)) : Option (List Int) := word_Addr.g (fun a0 => a0) n t
def word_Addr.pat : List AV → Blks → Option (List Int)
 | [(.ints .u64 4 a0)], [] => some a0
 | _, _ => none
def word_Addr.shape (t : (List Int)) : List AV × Blks := ([(.ints .u64 4 t)], [])
def word_Addr.res : (List Int) → AV × Blks
 | u => (Prod.mk (.ints .u8 20 u) [])
def word_Addr.resK {R : Type} (u : (List Int)) (K : AV → Blks → Option R) : Option R := (fun p : AV × Blks => K p.1 p.2) (Prod.mk (.ints .u8 20 u) [])
def word_Addr.c (n : Nat) : Abs.Callee := .mk' [] [none] word_Addr.pat (word_Addr.m n) word_Addr.resK
end
end
section
theorem word_Addr.gmap {α β : Type} (h : β → α) (mk0 : (List Int) → β) (n : Nat) (a0 : (List Int)) : word_Addr.g (fun a0 => (h (mk0 a0))) n a0 = (word_Addr.g mk0 n a0).map h := by
  unfold word_Addr.g
  exact (bindO_map fun r2 => (ite_map (ite_map rfl rfl) rfl))
theorem word_Addr.run (n : Nat) (a0 : (List Int)) : runF (word_Addr.C n) (word_Addr.A n) n Tryd.f63 [(.ints .u64 4 a0)] [] (fun v o => some (v, o)) = word_Addr.g (fun a0 => ((Prod.mk (.ints .u8 20 a0) []) : AV × Blks)) n a0 := by kernel_rfl
theorem word_Addr.call (hmix : Tryd.prog.follows .mixedOrders = true) (n : Nat) (t : (List Int)) (u) (h : word_Addr.m n t = some u) : FnC Tryd.prog abiG 63 (word_Addr.shape t).1 (word_Addr.shape t).2 (word_Addr.res u).1 (word_Addr.res u).2 := by
  have hg : ∀ f m, (word_Addr.C n).Γ f = some m → CalleeS Tryd.prog abiG f m := by
    intro f m hm
    unfold word_Addr.C at hm
    simp only at hm
    first
    | (cases hm; done)
    | (split at hm <;> first
    | (cases hm; exact word_Bytes.s hmix n)
    | (cases hm; done))
  have hb : Tryd.f63.body = some (Tryd.f63.body.getD .skip) := by kernel_rfl
  refine runF_calls (C := word_Addr.C n) (A := word_Addr.A n) (n := n) (fn := Tryd.f63) hg hmix Tryd.func63 hb ?_ ?_ (by decide) rfl rfl (by show 1 ≤ Tryd.f63.ntmps; decide) ?_
  · rw [show loopsIn (Tryd.f63.body.getD .skip) = [] by kernel_rfl]
    intro b hb
    cases hb
  · intro a ha m hm
    cases (show none = some m from hm)
  · rw [show runF (word_Addr.C n) (word_Addr.A n) n Tryd.f63 (word_Addr.shape t).1 (word_Addr.shape t).2 (fun v o => some (v, o)) = _ from word_Addr.run n t]
    have e := word_Addr.gmap word_Addr.res (fun a0 => a0) n t
    unfold word_Addr.m at h
    rw [h] at e
    exact e
theorem word_Addr.s (hmix : Tryd.prog.follows .mixedOrders = true) (n : Nat) : CalleeS Tryd.prog abiG 63 (word_Addr.c n) :=
  CalleeS.of (res := word_Addr.res) (shape := word_Addr.shape) (fun R u K => rfl) (fun args lent t h => by
    unfold word_Addr.pat at h
    split at h
    · cases h; rfl
    · cases h) fun t u h => (word_Addr.call hmix n t u h).ok Tryd.func63 (by decide) (by kernel_rfl)
end
section
noncomputable section
noncomputable def word_Wide.C (n : Nat) : Ctx := ⟨Tryd.prog, abiG, fun f => match f with
 | 89 => some (word_Read.c n)
 | _ => none, fun _ => false⟩
def word_Wide.live : Nat → List Nat × List Nat := fun k => match k with
 | _ => ([], [])
def word_Wide.jlive : Nat → List Nat × List Nat := fun k => match k with
 | _ => ([], [])
noncomputable def word_Wide.A (n : Nat) : Ann := ⟨Tryd.f75.ntmps, 0, word_Wide.live, [], [none], fun k => match k with
 | _ => none, word_Wide.jlive, lookJ []⟩
def word_Wide.g {α : Type} (mk0 : (List Int) → α) (n : Nat) (a0 : (List Int)) : Option α :=
 bindO (word_Read.m n (List.take 20 (List.drop 0 a0))) fun r2 =>
  some (mk0 r2)
def word_Wide.m (n : Nat) (t : (List Int)) : Option (List Int) := word_Wide.g (fun a0 => a0) n t
def word_Wide.pat : List AV → Blks → Option (List Int)
 | [(.ints .u8 20 a0)], [] => some a0
 | _, _ => none
def word_Wide.shape (t : (List Int)) : List AV × Blks := ([(.ints .u8 20 t)], [])
def word_Wide.res : (List Int) → AV × Blks
 | u => (Prod.mk (.ints .u64 4 u) [])
def word_Wide.resK {R : Type} (u : (List Int)) (K : AV → Blks → Option R) : Option R := (fun p : AV × Blks => K p.1 p.2) (Prod.mk (.ints .u64 4 u) [])
def word_Wide.c (n : Nat) : Abs.Callee := .mk' [] [none] word_Wide.pat (word_Wide.m n) word_Wide.resK
end
end
section
theorem word_Wide.gmap {α β : Type} (h : β → α) (mk0 : (List Int) → β) (n : Nat) (a0 : (List Int)) : word_Wide.g (fun a0 => (h (mk0 a0))) n a0 = (word_Wide.g mk0 n a0).map h := by
  unfold word_Wide.g
  exact (bindO_map fun r2 => rfl)
theorem word_Wide.run (n : Nat) (a0 : (List Int)) : runF (word_Wide.C n) (word_Wide.A n) n Tryd.f75 [(.ints .u8 20 a0)] [] (fun v o => some (v, o)) = word_Wide.g (fun a0 => ((Prod.mk (.ints .u64 4 a0) []) : AV × Blks)) n a0 := by kernel_rfl
theorem word_Wide.call (hmix : Tryd.prog.follows .mixedOrders = true) (n : Nat) (t : (List Int)) (u) (h : word_Wide.m n t = some u) : FnC Tryd.prog abiG 75 (word_Wide.shape t).1 (word_Wide.shape t).2 (word_Wide.res u).1 (word_Wide.res u).2 := by
  have hg : ∀ f m, (word_Wide.C n).Γ f = some m → CalleeS Tryd.prog abiG f m := by
    intro f m hm
    unfold word_Wide.C at hm
    simp only at hm
    first
    | (cases hm; done)
    | (split at hm <;> first
    | (cases hm; exact word_Read.s hmix n)
    | (cases hm; done))
  have hb : Tryd.f75.body = some (Tryd.f75.body.getD .skip) := by kernel_rfl
  refine runF_calls (C := word_Wide.C n) (A := word_Wide.A n) (n := n) (fn := Tryd.f75) hg hmix Tryd.func75 hb ?_ ?_ (by decide) rfl rfl (by show 1 ≤ Tryd.f75.ntmps; decide) ?_
  · rw [show loopsIn (Tryd.f75.body.getD .skip) = [] by kernel_rfl]
    intro b hb
    cases hb
  · intro a ha m hm
    cases (show none = some m from hm)
  · rw [show runF (word_Wide.C n) (word_Wide.A n) n Tryd.f75 (word_Wide.shape t).1 (word_Wide.shape t).2 (fun v o => some (v, o)) = _ from word_Wide.run n t]
    have e := word_Wide.gmap word_Wide.res (fun a0 => a0) n t
    unfold word_Wide.m at h
    rw [h] at e
    exact e
theorem word_Wide.s (hmix : Tryd.prog.follows .mixedOrders = true) (n : Nat) : CalleeS Tryd.prog abiG 75 (word_Wide.c n) :=
  CalleeS.of (res := word_Wide.res) (shape := word_Wide.shape) (fun R u K => rfl) (fun args lent t h => by
    unfold word_Wide.pat at h
    split at h
    · cases h; rfl
    · cases h) fun t u h => (word_Wide.call hmix n t u h).ok Tryd.func75 (by decide) (by kernel_rfl)
end
section
noncomputable section
noncomputable def q01_Wide.C (n : Nat) : Ctx := ⟨Tryd.prog, abiG, fun f => match f with
 | 65 => some (q01_Read.c n)
 | _ => none, fun _ => false⟩
def q01_Wide.live : Nat → List Nat × List Nat := fun k => match k with
 | 3 => ([4, 3, 1, 2], [3, 2])
 | _ => ([], [])
def q01_Wide.jlive : Nat → List Nat × List Nat := fun k => match k with
 | _ => ([], [])
def q01_Wide.l3_0.r {α : Type} (mk0 : (List Int) → (List Int) → α) (n : Nat) (rc : Int → (List Int) → (List Int) → (List Int) → Option α)  (x0 : Int) (x1 : (List Int)) (x2 : (List Int)) (x3 : (List Int)) : Option α :=
  if (decide (x0 < 20)) = true then
   if 0 ≤ x0 then
    if x0 < 20 then
     if ((((List.length x1) + 1) * 1) ≤ 70368744177664 ∧ ((List.length x1) + 1) ≤ 9223372036854775807) then
      rc (IntKind.wrap .i64 (x0 + 1)) (x1 ++ [(List.getD x2 (Int.toNat x0) 0)]) x2 x3
     else
      none
    else
     none
   else
    none
  else
   some (mk0 x1 x3)
def q01_Wide.l3_0.g {α : Type} (mk0 : (List Int) → (List Int) → α) (n : Nat) : Nat → Int → (List Int) → (List Int) → (List Int) → Option α
 | 0, _, _, _, _ => none
 | m + 1, x0, x1, x2, x3 => q01_Wide.l3_0.r mk0 n (fun y0 y1 y2 y3 => q01_Wide.l3_0.g mk0 n m y0 y1 y2 y3)  x0 x1 x2 x3
def q01_Wide.l3_0.m (n m : Nat) (t : (Int × ((List Int) × ((List Int) × (List Int))))) : Option ((List Int) × (List Int)) := q01_Wide.l3_0.g (fun a0 a1 => (a0, a1)) n m t.1 t.2.1 t.2.2.1 t.2.2.2
def q01_Wide.l3_0.pat : St → Option (Int × ((List Int) × ((List Int) × (List Int))))
 | (St.mk [(.int .i64 x0), (.own 0 1), (.ptr 1 []), (.ptr 2 [])] [(some (.ints .u8 x1)), (some (.var (.ints .u8 20 x2))), (some (.var (.ints .u64 4 x3)))]) => some (x0, x1, x2, x3)
 | _ => none
def q01_Wide.l3_0.shape (t : (Int × ((List Int) × ((List Int) × (List Int))))) : St := (St.mk [(.int .i64 t.1), (.own 0 1), (.ptr 1 []), (.ptr 2 [])] [(some (.ints .u8 t.2.1)), (some (.var (.ints .u8 20 t.2.2.1))), (some (.var (.ints .u64 4 t.2.2.2)))])
def q01_Wide.l3_0.res : ((List Int) × (List Int)) → Ex × St
 | u => (Prod.mk (.exit 0) (St.mk [(.own 0 1), (.ptr 1 [])] [(some (.ints .u8 u.1)), (some (.var (.ints .u64 4 u.2)))]))
def q01_Wide.l3_0.resK {R : Type} (u : ((List Int) × (List Int))) (K : Ex → St → Option R) : Option R := (fun p : Ex × St => K p.1 p.2) (Prod.mk (.exit 0) (St.mk [(.own 0 1), (.ptr 1 [])] [(some (.ints .u8 u.1)), (some (.var (.ints .u64 4 u.2)))]))
noncomputable def q01_Wide.A (n : Nat) : Ann := ⟨Tryd.f78.ntmps, 0, q01_Wide.live, [(3, (.ints .u8))], [none], fun k => match k with
 | 3 => some (.mk' q01_Wide.l3_0.pat (q01_Wide.l3_0.m n n) q01_Wide.l3_0.resK)
 | _ => none, q01_Wide.jlive, lookJ []⟩
noncomputable def q01_Wide.b0 : Code := (loopsIn (Tryd.f78.body.getD .skip)).getD 0 .skip
def q01_Wide.g {α : Type} (mk0 : (List Int) → α) (n : Nat) (a0 : (List Int)) : Option α :=
 bindO (q01_Wide.l3_0.m n n (0, [], a0, [0, 0, 0, 0])) fun r2 =>
  bindO (q01_Read.m n (Prod.fst r2)) fun r4 =>
   some (mk0 r4)
def q01_Wide.m (n : Nat) (t : (List Int)) : Option (List Int) := q01_Wide.g (fun a0 => a0) n t
def q01_Wide.pat : List AV → Blks → Option (List Int)
 | [(.ints .u8 20 a0)], [] => some a0
 | _, _ => none
def q01_Wide.shape (t : (List Int)) : List AV × Blks := ([(.ints .u8 20 t)], [])
def q01_Wide.res : (List Int) → AV × Blks
 | u => (Prod.mk (.ints .u64 4 u) [])
def q01_Wide.resK {R : Type} (u : (List Int)) (K : AV → Blks → Option R) : Option R := (fun p : AV × Blks => K p.1 p.2) (Prod.mk (.ints .u64 4 u) [])
def q01_Wide.c (n : Nat) : Abs.Callee := .mk' [] [none] q01_Wide.pat (q01_Wide.m n) q01_Wide.resK
end
end
section
theorem q01_Wide.l3_0.rmap {α β : Type} (h : β → α) (mk0 : (List Int) → (List Int) → β) (n : Nat) (f : Int → (List Int) → (List Int) → (List Int) → Option β)  (x0 : Int) (x1 : (List Int)) (x2 : (List Int)) (x3 : (List Int)) : q01_Wide.l3_0.r (fun a0 a1 => (h (mk0 a0 a1))) n (fun y0 y1 y2 y3 => (f y0 y1 y2 y3).map h) x0 x1 x2 x3 = (q01_Wide.l3_0.r mk0 n f x0 x1 x2 x3).map h := by
  unfold q01_Wide.l3_0.r
  exact (ite_map (ite_map (ite_map (ite_map rfl rfl) rfl) rfl) rfl)
theorem q01_Wide.l3_0.gmap {α β : Type} (h : β → α) (mk0 : (List Int) → (List Int) → β) (n : Nat) : ∀ (m : Nat) (x0 : Int) (x1 : (List Int)) (x2 : (List Int)) (x3 : (List Int)), q01_Wide.l3_0.g (fun a0 a1 => (h (mk0 a0 a1))) n m x0 x1 x2 x3 = (q01_Wide.l3_0.g mk0 n m x0 x1 x2 x3).map h
  | 0, _, _, _, _ => rfl
  | m + 1, x0, x1, x2, x3 => by
    unfold q01_Wide.l3_0.g
    rw [← q01_Wide.l3_0.rmap]
    congr
    · funext y0 y1 y2 y3; exact q01_Wide.l3_0.gmap h mk0 n m y0 y1 y2 y3
theorem q01_Wide.l3_0.pat_shape : ∀ st t, q01_Wide.l3_0.pat st = some t → st = q01_Wide.l3_0.shape t := by
  intro st t h
  unfold q01_Wide.l3_0.pat at h
  split at h
  · cases h; rfl
  · cases h
theorem q01_Wide.l3_0.round (n : Nat) (rc : St → Option (Ex × St)) (x0 : Int) (x1 : (List Int)) (x2 : (List Int)) (x3 : (List Int)) : roundOf (q01_Wide.C n) (q01_Wide.A n) n q01_Wide.b0 rc ((St.mk [(.int .i64 x0), (.own 0 1), (.ptr 1 []), (.ptr 2 [])] [(some (.ints .u8 x1)), (some (.var (.ints .u8 20 x2))), (some (.var (.ints .u64 4 x3)))])) = q01_Wide.l3_0.r (fun a0 a1 => ((Prod.mk (.exit 0) (St.mk [(.own 0 1), (.ptr 1 [])] [(some (.ints .u8 a0)), (some (.var (.ints .u64 4 a1)))])) : Ex × St)) n (fun y0 y1 y2 y3 => rc ((St.mk [(.int .i64 y0), (.own 0 1), (.ptr 1 []), (.ptr 2 [])] [(some (.ints .u8 y1)), (some (.var (.ints .u8 20 y2))), (some (.var (.ints .u64 4 y3)))]))) x0 x1 x2 x3 := by kernel_rfl
theorem q01_Wide.l3_0.loop' (n : Nat) : ∀ (m : Nat) (t : (Int × ((List Int) × ((List Int) × (List Int))))), loopOf (roundOf (q01_Wide.C n) (q01_Wide.A n) n q01_Wide.b0) m (q01_Wide.l3_0.shape t) = q01_Wide.l3_0.g (fun a0 a1 => ((Prod.mk (.exit 0) (St.mk [(.own 0 1), (.ptr 1 [])] [(some (.ints .u8 a0)), (some (.var (.ints .u64 4 a1)))])) : Ex × St)) n m t.1 t.2.1 t.2.2.1 t.2.2.2 :=
  loop_of_round (shape := q01_Wide.l3_0.shape) (body := roundOf (q01_Wide.C n) (q01_Wide.A n) n q01_Wide.b0) (g := fun m t => q01_Wide.l3_0.g (fun a0 a1 => ((Prod.mk (.exit 0) (St.mk [(.own 0 1), (.ptr 1 [])] [(some (.ints .u8 a0)), (some (.var (.ints .u64 4 a1)))])) : Ex × St)) n m t.1 t.2.1 t.2.2.1 t.2.2.2) (fun t => rfl)
    fun m t ih => (q01_Wide.l3_0.round n (loopOf (roundOf (q01_Wide.C n) (q01_Wide.A n) n q01_Wide.b0) m) t.1 t.2.1 t.2.2.1 t.2.2.2).trans (congrFun (congrFun (congrFun (congrFun (congrArg (q01_Wide.l3_0.r (fun a0 a1 => ((Prod.mk (.exit 0) (St.mk [(.own 0 1), (.ptr 1 [])] [(some (.ints .u8 a0)), (some (.var (.ints .u64 4 a1)))])) : Ex × St)) n) (funext fun y0 => funext fun y1 => funext fun y2 => funext fun y3 => ih (y0, y1, y2, y3))) t.1) t.2.1) t.2.2.1) t.2.2.2)
theorem q01_Wide.l3_0.loop (n m : Nat) (t : (Int × ((List Int) × ((List Int) × (List Int))))) : loopOf (roundOf (q01_Wide.C n) (q01_Wide.A n) n q01_Wide.b0) m (q01_Wide.l3_0.shape t) = (q01_Wide.l3_0.m n m t).map q01_Wide.l3_0.res :=
  (q01_Wide.l3_0.loop' n m t).trans (q01_Wide.l3_0.gmap q01_Wide.l3_0.res (fun a0 a1 => (a0, a1)) n m t.1 t.2.1 t.2.2.1 t.2.2.2)
theorem q01_Wide.gmap {α β : Type} (h : β → α) (mk0 : (List Int) → β) (n : Nat) (a0 : (List Int)) : q01_Wide.g (fun a0 => (h (mk0 a0))) n a0 = (q01_Wide.g mk0 n a0).map h := by
  unfold q01_Wide.g
  exact (bindO_map fun r2 => (bindO_map fun r4 => rfl))
theorem q01_Wide.run (n : Nat) (a0 : (List Int)) : runF (q01_Wide.C n) (q01_Wide.A n) n Tryd.f78 [(.ints .u8 20 a0)] [] (fun v o => some (v, o)) = q01_Wide.g (fun a0 => ((Prod.mk (.ints .u64 4 a0) []) : AV × Blks)) n a0 := by kernel_rfl
theorem q01_Wide.call (hmix : Tryd.prog.follows .mixedOrders = true) (n : Nat) (t : (List Int)) (u) (h : q01_Wide.m n t = some u) : FnC Tryd.prog abiG 78 (q01_Wide.shape t).1 (q01_Wide.shape t).2 (q01_Wide.res u).1 (q01_Wide.res u).2 := by
  have hg : ∀ f m, (q01_Wide.C n).Γ f = some m → CalleeS Tryd.prog abiG f m := by
    intro f m hm
    unfold q01_Wide.C at hm
    simp only at hm
    first
    | (cases hm; done)
    | (split at hm <;> first
    | (cases hm; exact q01_Read.s hmix n)
    | (cases hm; done))
  have hb : Tryd.f78.body = some (Tryd.f78.body.getD .skip) := by kernel_rfl
  refine runF_calls (C := q01_Wide.C n) (A := q01_Wide.A n) (n := n) (fn := Tryd.f78) hg hmix Tryd.func78 hb ?_ ?_ (by decide) rfl rfl (by show 1 ≤ Tryd.f78.ntmps; decide) ?_
  · rw [show loopsIn (Tryd.f78.body.getD .skip) = [q01_Wide.b0] by kernel_rfl]
    intro b hb m hm
    simp only [List.mem_cons, List.not_mem_nil, or_false] at hb
    rcases hb with rfl
    · have e : (q01_Wide.A n).loop (key q01_Wide.b0) = some (.mk' q01_Wide.l3_0.pat (q01_Wide.l3_0.m n n) q01_Wide.l3_0.resK) := by rw [show key q01_Wide.b0 = 3 by kernel_rfl]; rfl
      rw [e] at hm
      cases hm
      exact (LoopS.of (res := q01_Wide.l3_0.res) (fun R u K => rfl) q01_Wide.l3_0.pat_shape fun t => q01_Wide.l3_0.loop n n t)
  · intro a ha m hm
    cases (show none = some m from hm)
  · rw [show runF (q01_Wide.C n) (q01_Wide.A n) n Tryd.f78 (q01_Wide.shape t).1 (q01_Wide.shape t).2 (fun v o => some (v, o)) = _ from q01_Wide.run n t]
    have e := q01_Wide.gmap q01_Wide.res (fun a0 => a0) n t
    unfold q01_Wide.m at h
    rw [h] at e
    exact e
theorem q01_Wide.s (hmix : Tryd.prog.follows .mixedOrders = true) (n : Nat) : CalleeS Tryd.prog abiG 78 (q01_Wide.c n) :=
  CalleeS.of (res := q01_Wide.res) (shape := q01_Wide.shape) (fun R u K => rfl) (fun args lent t h => by
    unfold q01_Wide.pat at h
    split at h
    · cases h; rfl
    · cases h) fun t u h => (q01_Wide.call hmix n t u h).ok Tryd.func78 (by decide) (by kernel_rfl)
end
section
noncomputable section
noncomputable def q00_SameBytes.C (n : Nat) : Ctx := ⟨Tryd.prog, abiG, fun f => match f with
 | _ => none, fun _ => false⟩
def q00_SameBytes.live : Nat → List Nat × List Nat := fun k => match k with
 | _ => ([], [])
def q00_SameBytes.jlive : Nat → List Nat × List Nat := fun k => match k with
 | _ => ([], [])
noncomputable def q00_SameBytes.A (n : Nat) : Ann := ⟨Tryd.f19.ntmps, 0, q00_SameBytes.live, [], [none], fun k => match k with
 | _ => none, q00_SameBytes.jlive, lookJ []⟩
def q00_SameBytes.g {α : Type} (mk0 : Bool → α) (n : Nat) (a0 : (List Int)) (a1 : (List Int)) : Option α :=
 some (mk0 ((ByteArray.toList (Go.Abs.strOf a0)) == (ByteArray.toList (Go.Abs.strOf a1))))
def q00_SameBytes.m (n : Nat) (t : ((List Int) × (List Int))) : Option Bool := q00_SameBytes.g (fun a0 => a0) n t.1 t.2
def q00_SameBytes.pat : List AV → Blks → Option ((List Int) × (List Int))
 | [(.rints .u8 a0), (.rints .u8 a1)], [] => some (a0, a1)
 | _, _ => none
def q00_SameBytes.shape (t : ((List Int) × (List Int))) : List AV × Blks := ([(.rints .u8 t.1), (.rints .u8 t.2)], [])
def q00_SameBytes.res : Bool → AV × Blks
 | u => (Prod.mk (.bool u) [])
def q00_SameBytes.resK {R : Type} (u : Bool) (K : AV → Blks → Option R) : Option R := (fun p : AV × Blks => K p.1 p.2) (Prod.mk (.bool u) [])
def q00_SameBytes.c (n : Nat) : Abs.Callee := .mk' [] [(some (.ints .u8)), (some (.ints .u8))] q00_SameBytes.pat (q00_SameBytes.m n) q00_SameBytes.resK
end
end
section
theorem q00_SameBytes.gmap {α β : Type} (h : β → α) (mk0 : Bool → β) (n : Nat) (a0 : (List Int)) (a1 : (List Int)) : q00_SameBytes.g (fun a0 => (h (mk0 a0))) n a0 a1 = (q00_SameBytes.g mk0 n a0 a1).map h := by
  unfold q00_SameBytes.g
  exact rfl
theorem q00_SameBytes.run (n : Nat) (a0 : (List Int)) (a1 : (List Int)) : runF (q00_SameBytes.C n) (q00_SameBytes.A n) n Tryd.f19 [(.rints .u8 a0), (.rints .u8 a1)] [] (fun v o => some (v, o)) = q00_SameBytes.g (fun a0 => ((Prod.mk (.bool a0) []) : AV × Blks)) n a0 a1 := by kernel_rfl
theorem q00_SameBytes.call (hmix : Tryd.prog.follows .mixedOrders = true) (n : Nat) (t : ((List Int) × (List Int))) (u) (h : q00_SameBytes.m n t = some u) : FnC Tryd.prog abiG 19 (q00_SameBytes.shape t).1 (q00_SameBytes.shape t).2 (q00_SameBytes.res u).1 (q00_SameBytes.res u).2 := by
  have hg : ∀ f m, (q00_SameBytes.C n).Γ f = some m → CalleeS Tryd.prog abiG f m := by
    intro f m hm
    unfold q00_SameBytes.C at hm
    simp only at hm
    first
    | (cases hm; done)
    | (split at hm <;> first
    | (cases hm; done))
  have hb : Tryd.f19.body = some (Tryd.f19.body.getD .skip) := by kernel_rfl
  refine runF_calls (C := q00_SameBytes.C n) (A := q00_SameBytes.A n) (n := n) (fn := Tryd.f19) hg hmix Tryd.func19 hb ?_ ?_ (by decide) rfl rfl (by show 2 ≤ Tryd.f19.ntmps; decide) ?_
  · rw [show loopsIn (Tryd.f19.body.getD .skip) = [] by kernel_rfl]
    intro b hb
    cases hb
  · intro a ha m hm
    cases (show none = some m from hm)
  · rw [show runF (q00_SameBytes.C n) (q00_SameBytes.A n) n Tryd.f19 (q00_SameBytes.shape t).1 (q00_SameBytes.shape t).2 (fun v o => some (v, o)) = _ from q00_SameBytes.run n t.1 t.2]
    have e := q00_SameBytes.gmap q00_SameBytes.res (fun a0 => a0) n t.1 t.2
    unfold q00_SameBytes.m at h
    rw [h] at e
    exact e
theorem q00_SameBytes.s (hmix : Tryd.prog.follows .mixedOrders = true) (n : Nat) : CalleeS Tryd.prog abiG 19 (q00_SameBytes.c n) :=
  CalleeS.of (res := q00_SameBytes.res) (shape := q00_SameBytes.shape) (fun R u K => rfl) (fun args lent t h => by
    unfold q00_SameBytes.pat at h
    split at h
    · cases h; rfl
    · cases h) fun t u h => (q00_SameBytes.call hmix n t u h).ok Tryd.func19 (by decide) (by kernel_rfl)
end
section
noncomputable section
noncomputable def userop_Spans.C (n : Nat) : Ctx := ⟨Tryd.prog, abiG, fun f => match f with
 | 63 => some (word_Addr.c n)
 | _ => none, fun _ => false⟩
def userop_Spans.live : Nat → List Nat × List Nat := fun k => match k with
 | _ => ([], [])
def userop_Spans.jlive : Nat → List Nat × List Nat := fun k => match k with
 | _ => ([], [])
noncomputable def userop_Spans.A (n : Nat) : Ann := ⟨Tryd.f24.ntmps, 0, userop_Spans.live, [], [none], fun k => match k with
 | _ => none, userop_Spans.jlive, lookJ []⟩
def userop_Spans.g {α : Type} (mk0 : Bool → Int → Int → α) (n : Nat) (a0 : (List Int)) : Option α :=
 bindO (word_Addr.m n a0) fun r2 =>
  some (mk0 (!(r2 == ([0, 0, 0, 0, 0, 0, 0, 0, 0, 0, 0, 0, 0, 0, 0, 0, 0, 0, 0, 0] : List Int))) (ibits BinOp.and .u64 (ishr .u64 (List.getD a0 3 0) 16) 281474976710655) (ibits BinOp.or .u64 (ishr .u64 (List.getD a0 2 0) 32) (ishl .u64 (ibits BinOp.and .u64 (List.getD a0 3 0) 65535) 32)))
def userop_Spans.m (n : Nat) (t : (List Int)) : Option (Bool × (Int × Int)) := userop_Spans.g (fun a0 a1 a2 => (a0, a1, a2)) n t
def userop_Spans.pat : List AV → Blks → Option (List Int)
 | [(.ints .u64 4 a0)], [] => some a0
 | _, _ => none
def userop_Spans.shape (t : (List Int)) : List AV × Blks := ([(.ints .u64 4 t)], [])
def userop_Spans.res : (Bool × (Int × Int)) → AV × Blks
 | u => (Prod.mk (.agg [(.bool u.1), (.int .u64 u.2.1), (.int .u64 u.2.2)]) [])
def userop_Spans.resK {R : Type} (u : (Bool × (Int × Int))) (K : AV → Blks → Option R) : Option R := (fun p : AV × Blks => K p.1 p.2) (Prod.mk (.agg [(.bool u.1), (.int .u64 u.2.1), (.int .u64 u.2.2)]) [])
def userop_Spans.c (n : Nat) : Abs.Callee := .mk' [] [none] userop_Spans.pat (userop_Spans.m n) userop_Spans.resK
end
end
section
theorem userop_Spans.gmap {α β : Type} (h : β → α) (mk0 : Bool → Int → Int → β) (n : Nat) (a0 : (List Int)) : userop_Spans.g (fun a0 a1 a2 => (h (mk0 a0 a1 a2))) n a0 = (userop_Spans.g mk0 n a0).map h := by
  unfold userop_Spans.g
  exact (bindO_map fun r2 => rfl)
theorem userop_Spans.run (n : Nat) (a0 : (List Int)) : runF (userop_Spans.C n) (userop_Spans.A n) n Tryd.f24 [(.ints .u64 4 a0)] [] (fun v o => some (v, o)) = userop_Spans.g (fun a0 a1 a2 => ((Prod.mk (.agg [(.bool a0), (.int .u64 a1), (.int .u64 a2)]) []) : AV × Blks)) n a0 := by kernel_rfl
theorem userop_Spans.call (hmix : Tryd.prog.follows .mixedOrders = true) (n : Nat) (t : (List Int)) (u) (h : userop_Spans.m n t = some u) : FnC Tryd.prog abiG 24 (userop_Spans.shape t).1 (userop_Spans.shape t).2 (userop_Spans.res u).1 (userop_Spans.res u).2 := by
  have hg : ∀ f m, (userop_Spans.C n).Γ f = some m → CalleeS Tryd.prog abiG f m := by
    intro f m hm
    unfold userop_Spans.C at hm
    simp only at hm
    first
    | (cases hm; done)
    | (split at hm <;> first
    | (cases hm; exact word_Addr.s hmix n)
    | (cases hm; done))
  have hb : Tryd.f24.body = some (Tryd.f24.body.getD .skip) := by kernel_rfl
  refine runF_calls (C := userop_Spans.C n) (A := userop_Spans.A n) (n := n) (fn := Tryd.f24) hg hmix Tryd.func24 hb ?_ ?_ (by decide) rfl rfl (by show 1 ≤ Tryd.f24.ntmps; decide) ?_
  · rw [show loopsIn (Tryd.f24.body.getD .skip) = [] by kernel_rfl]
    intro b hb
    cases hb
  · intro a ha m hm
    cases (show none = some m from hm)
  · rw [show runF (userop_Spans.C n) (userop_Spans.A n) n Tryd.f24 (userop_Spans.shape t).1 (userop_Spans.shape t).2 (fun v o => some (v, o)) = _ from userop_Spans.run n t]
    have e := userop_Spans.gmap userop_Spans.res (fun a0 a1 a2 => (a0, a1, a2)) n t
    unfold userop_Spans.m at h
    rw [h] at e
    exact e
theorem userop_Spans.s (hmix : Tryd.prog.follows .mixedOrders = true) (n : Nat) : CalleeS Tryd.prog abiG 24 (userop_Spans.c n) :=
  CalleeS.of (res := userop_Spans.res) (shape := userop_Spans.shape) (fun R u K => rfl) (fun args lent t h => by
    unfold userop_Spans.pat at h
    split at h
    · cases h; rfl
    · cases h) fun t u h => (userop_Spans.call hmix n t u h).ok Tryd.func24 (by decide) (by kernel_rfl)
end
section
noncomputable section
noncomputable def q15_Spans.C (n : Nat) : Ctx := ⟨Tryd.prog, abiG, fun f => match f with
 | 55 => some (q01_Bytes.c n)
 | 65 => some (q01_Read.c n)
 | 64 => some (q01_Small.c n)
 | _ => none, fun _ => false⟩
def q15_Spans.live : Nat → List Nat × List Nat := fun k => match k with
 | _ => ([], [])
def q15_Spans.jlive : Nat → List Nat × List Nat := fun k => match k with
 | _ => ([], [])
noncomputable def q15_Spans.A (n : Nat) : Ann := ⟨Tryd.f26.ntmps, 0, q15_Spans.live, [], [none], fun k => match k with
 | _ => none, q15_Spans.jlive, lookJ []⟩
def q15_Spans.g {α : Type} (mk0 : Bool → Int → Int → α) (n : Nat) (a0 : (List Int)) : Option α :=
 bindO (q01_Bytes.m n a0) fun r2 =>
  if 6 ≤ (((List.length r2) : Nat) : Int) then
   bindO (q01_Read.m n (List.take (Go.Abs.span (List.length r2) 0 (Option.some 6)) (List.drop 0 r2))) fun r6 =>
    bindO (q01_Small.m n r6) fun r8 =>
     if 12 ≤ (((List.length r2) : Nat) : Int) then
      bindO (q01_Read.m n (List.take (Go.Abs.span (List.length r2) 6 (Option.some 12)) (List.drop 6 r2))) fun r12 =>
       bindO (q01_Small.m n r12) fun r14 =>
        if 12 ≤ (((List.length r2) : Nat) : Int) then
         bindO (q01_Read.m n (List.take (Go.Abs.span (List.length r2) 12 (Option.none)) (List.drop 12 r2))) fun r18 =>
          some (mk0 (!(r18 == [0, 0, 0, 0])) (Prod.fst r8) (Prod.fst r14))
        else
         none
     else
      none
  else
   none
def q15_Spans.m (n : Nat) (t : (List Int)) : Option (Bool × (Int × Int)) := q15_Spans.g (fun a0 a1 a2 => (a0, a1, a2)) n t
def q15_Spans.pat : List AV → Blks → Option (List Int)
 | [(.ints .u64 4 a0)], [] => some a0
 | _, _ => none
def q15_Spans.shape (t : (List Int)) : List AV × Blks := ([(.ints .u64 4 t)], [])
def q15_Spans.res : (Bool × (Int × Int)) → AV × Blks
 | u => (Prod.mk (.agg [(.bool u.1), (.int .u64 u.2.1), (.int .u64 u.2.2)]) [])
def q15_Spans.resK {R : Type} (u : (Bool × (Int × Int))) (K : AV → Blks → Option R) : Option R := (fun p : AV × Blks => K p.1 p.2) (Prod.mk (.agg [(.bool u.1), (.int .u64 u.2.1), (.int .u64 u.2.2)]) [])
def q15_Spans.c (n : Nat) : Abs.Callee := .mk' [] [none] q15_Spans.pat (q15_Spans.m n) q15_Spans.resK
end
end
section
theorem q15_Spans.gmap {α β : Type} (h : β → α) (mk0 : Bool → Int → Int → β) (n : Nat) (a0 : (List Int)) : q15_Spans.g (fun a0 a1 a2 => (h (mk0 a0 a1 a2))) n a0 = (q15_Spans.g mk0 n a0).map h := by
  unfold q15_Spans.g
  exact (bindO_map fun r2 => (ite_map (bindO_map fun r6 => (bindO_map fun r8 => (ite_map (bindO_map fun r12 => (bindO_map fun r14 => (ite_map (bindO_map fun r18 => rfl) rfl))) rfl))) rfl))
theorem q15_Spans.run (n : Nat) (a0 : (List Int)) : runF (q15_Spans.C n) (q15_Spans.A n) n Tryd.f26 [(.ints .u64 4 a0)] [] (fun v o => some (v, o)) = q15_Spans.g (fun a0 a1 a2 => ((Prod.mk (.agg [(.bool a0), (.int .u64 a1), (.int .u64 a2)]) []) : AV × Blks)) n a0 := by kernel_rfl
theorem q15_Spans.call (hmix : Tryd.prog.follows .mixedOrders = true) (n : Nat) (t : (List Int)) (u) (h : q15_Spans.m n t = some u) : FnC Tryd.prog abiG 26 (q15_Spans.shape t).1 (q15_Spans.shape t).2 (q15_Spans.res u).1 (q15_Spans.res u).2 := by
  have hg : ∀ f m, (q15_Spans.C n).Γ f = some m → CalleeS Tryd.prog abiG f m := by
    intro f m hm
    unfold q15_Spans.C at hm
    simp only at hm
    first
    | (cases hm; done)
    | (split at hm <;> first
    | (cases hm; exact q01_Bytes.s hmix n)
    | (cases hm; exact q01_Read.s hmix n)
    | (cases hm; exact q01_Small.s hmix n)
    | (cases hm; done))
  have hb : Tryd.f26.body = some (Tryd.f26.body.getD .skip) := by kernel_rfl
  refine runF_calls (C := q15_Spans.C n) (A := q15_Spans.A n) (n := n) (fn := Tryd.f26) hg hmix Tryd.func26 hb ?_ ?_ (by decide) rfl rfl (by show 1 ≤ Tryd.f26.ntmps; decide) ?_
  · rw [show loopsIn (Tryd.f26.body.getD .skip) = [] by kernel_rfl]
    intro b hb
    cases hb
  · intro a ha m hm
    cases (show none = some m from hm)
  · rw [show runF (q15_Spans.C n) (q15_Spans.A n) n Tryd.f26 (q15_Spans.shape t).1 (q15_Spans.shape t).2 (fun v o => some (v, o)) = _ from q15_Spans.run n t]
    have e := q15_Spans.gmap q15_Spans.res (fun a0 a1 a2 => (a0, a1, a2)) n t
    unfold q15_Spans.m at h
    rw [h] at e
    exact e
theorem q15_Spans.s (hmix : Tryd.prog.follows .mixedOrders = true) (n : Nat) : CalleeS Tryd.prog abiG 26 (q15_Spans.c n) :=
  CalleeS.of (res := q15_Spans.res) (shape := q15_Spans.shape) (fun R u K => rfl) (fun args lent t h => by
    unfold q15_Spans.pat at h
    split at h
    · cases h; rfl
    · cases h) fun t u h => (q15_Spans.call hmix n t u h).ok Tryd.func26 (by decide) (by kernel_rfl)
end
section
noncomputable section
noncomputable def userop_Now.C (n : Nat) : Ctx := ⟨Tryd.prog, abiG, fun f => match f with
 | _ => none, fun _ => false⟩
def userop_Now.live : Nat → List Nat × List Nat := fun k => match k with
 | _ => ([], [])
def userop_Now.jlive : Nat → List Nat × List Nat := fun k => match k with
 | _ => ([], [])
noncomputable def userop_Now.A (n : Nat) : Ann := ⟨Tryd.f27.ntmps, 0, userop_Now.live, [], [none], fun k => match k with
 | _ => none, userop_Now.jlive, lookJ []⟩
def userop_Now.g {α : Type} (mk0 : Bool → α) (n : Nat) (a0_0 : Bool) (a0_1 : Int) (a0_2 : Int) (a1 : Int) : Option α :=
 if (!a0_0) = true then
  if (decide (a1 ≥ a0_1)) = true then
   if (a0_2 == 0) = true then
    some (mk0 true)
   else
    some (mk0 (decide (a1 ≤ a0_2)))
  else
   some (mk0 false)
 else
  some (mk0 false)
def userop_Now.m (n : Nat) (t : (Bool × (Int × (Int × Int)))) : Option Bool := userop_Now.g (fun a0 => a0) n t.1 t.2.1 t.2.2.1 t.2.2.2
def userop_Now.pat : List AV → Blks → Option (Bool × (Int × (Int × Int)))
 | [(.agg [(.bool a0_0), (.int .u64 a0_1), (.int .u64 a0_2)]), (.int .u64 a1)], [] => some (a0_0, a0_1, a0_2, a1)
 | _, _ => none
def userop_Now.shape (t : (Bool × (Int × (Int × Int)))) : List AV × Blks := ([(.agg [(.bool t.1), (.int .u64 t.2.1), (.int .u64 t.2.2.1)]), (.int .u64 t.2.2.2)], [])
def userop_Now.res : Bool → AV × Blks
 | u => (Prod.mk (.bool u) [])
def userop_Now.resK {R : Type} (u : Bool) (K : AV → Blks → Option R) : Option R := (fun p : AV × Blks => K p.1 p.2) (Prod.mk (.bool u) [])
def userop_Now.c (n : Nat) : Abs.Callee := .mk' [] [none, none] userop_Now.pat (userop_Now.m n) userop_Now.resK
end
end
section
theorem userop_Now.gmap {α β : Type} (h : β → α) (mk0 : Bool → β) (n : Nat) (a0_0 : Bool) (a0_1 : Int) (a0_2 : Int) (a1 : Int) : userop_Now.g (fun a0 => (h (mk0 a0))) n a0_0 a0_1 a0_2 a1 = (userop_Now.g mk0 n a0_0 a0_1 a0_2 a1).map h := by
  unfold userop_Now.g
  exact (ite_map (ite_map (ite_map rfl rfl) rfl) rfl)
theorem userop_Now.run (n : Nat) (a0_0 : Bool) (a0_1 : Int) (a0_2 : Int) (a1 : Int) : runF (userop_Now.C n) (userop_Now.A n) n Tryd.f27 [(.agg [(.bool a0_0), (.int .u64 a0_1), (.int .u64 a0_2)]), (.int .u64 a1)] [] (fun v o => some (v, o)) = userop_Now.g (fun a0 => ((Prod.mk (.bool a0) []) : AV × Blks)) n a0_0 a0_1 a0_2 a1 := by kernel_rfl
theorem userop_Now.call (hmix : Tryd.prog.follows .mixedOrders = true) (n : Nat) (t : (Bool × (Int × (Int × Int)))) (u) (h : userop_Now.m n t = some u) : FnC Tryd.prog abiG 27 (userop_Now.shape t).1 (userop_Now.shape t).2 (userop_Now.res u).1 (userop_Now.res u).2 := by
  have hg : ∀ f m, (userop_Now.C n).Γ f = some m → CalleeS Tryd.prog abiG f m := by
    intro f m hm
    unfold userop_Now.C at hm
    simp only at hm
    first
    | (cases hm; done)
    | (split at hm <;> first
    | (cases hm; done))
  have hb : Tryd.f27.body = some (Tryd.f27.body.getD .skip) := by kernel_rfl
  refine runF_calls (C := userop_Now.C n) (A := userop_Now.A n) (n := n) (fn := Tryd.f27) hg hmix Tryd.func27 hb ?_ ?_ (by decide) rfl rfl (by show 2 ≤ Tryd.f27.ntmps; decide) ?_
  · rw [show loopsIn (Tryd.f27.body.getD .skip) = [] by kernel_rfl]
    intro b hb
    cases hb
  · intro a ha m hm
    cases (show none = some m from hm)
  · rw [show runF (userop_Now.C n) (userop_Now.A n) n Tryd.f27 (userop_Now.shape t).1 (userop_Now.shape t).2 (fun v o => some (v, o)) = _ from userop_Now.run n t.1 t.2.1 t.2.2.1 t.2.2.2]
    have e := userop_Now.gmap userop_Now.res (fun a0 => a0) n t.1 t.2.1 t.2.2.1 t.2.2.2
    unfold userop_Now.m at h
    rw [h] at e
    exact e
theorem userop_Now.s (hmix : Tryd.prog.follows .mixedOrders = true) (n : Nat) : CalleeS Tryd.prog abiG 27 (userop_Now.c n) :=
  CalleeS.of (res := userop_Now.res) (shape := userop_Now.shape) (fun R u K => rfl) (fun args lent t h => by
    unfold userop_Now.pat at h
    split at h
    · cases h; rfl
    · cases h) fun t u h => (userop_Now.call hmix n t u h).ok Tryd.func27 (by decide) (by kernel_rfl)
end
section
noncomputable section
noncomputable def q15_Now.C (n : Nat) : Ctx := ⟨Tryd.prog, abiG, fun f => match f with
 | _ => none, fun _ => false⟩
def q15_Now.live : Nat → List Nat × List Nat := fun k => match k with
 | _ => ([], [])
def q15_Now.jlive : Nat → List Nat × List Nat := fun k => match k with
 | _ => ([], [])
noncomputable def q15_Now.A (n : Nat) : Ann := ⟨Tryd.f28.ntmps, 0, q15_Now.live, [], [none], fun k => match k with
 | _ => none, q15_Now.jlive, lookJ []⟩
def q15_Now.g {α : Type} (mk0 : Bool → α) (n : Nat) (a0_0 : Bool) (a0_1 : Int) (a0_2 : Int) (a1 : Int) : Option α :=
 if (!a0_0) = true then
  if (decide (a0_1 ≤ a1)) = true then
   if (a0_2 == 0) = true then
    some (mk0 true)
   else
    some (mk0 (decide (a1 ≤ a0_2)))
  else
   some (mk0 false)
 else
  some (mk0 false)
def q15_Now.m (n : Nat) (t : (Bool × (Int × (Int × Int)))) : Option Bool := q15_Now.g (fun a0 => a0) n t.1 t.2.1 t.2.2.1 t.2.2.2
def q15_Now.pat : List AV → Blks → Option (Bool × (Int × (Int × Int)))
 | [(.agg [(.bool a0_0), (.int .u64 a0_1), (.int .u64 a0_2)]), (.int .u64 a1)], [] => some (a0_0, a0_1, a0_2, a1)
 | _, _ => none
def q15_Now.shape (t : (Bool × (Int × (Int × Int)))) : List AV × Blks := ([(.agg [(.bool t.1), (.int .u64 t.2.1), (.int .u64 t.2.2.1)]), (.int .u64 t.2.2.2)], [])
def q15_Now.res : Bool → AV × Blks
 | u => (Prod.mk (.bool u) [])
def q15_Now.resK {R : Type} (u : Bool) (K : AV → Blks → Option R) : Option R := (fun p : AV × Blks => K p.1 p.2) (Prod.mk (.bool u) [])
def q15_Now.c (n : Nat) : Abs.Callee := .mk' [] [none, none] q15_Now.pat (q15_Now.m n) q15_Now.resK
end
end
section
theorem q15_Now.gmap {α β : Type} (h : β → α) (mk0 : Bool → β) (n : Nat) (a0_0 : Bool) (a0_1 : Int) (a0_2 : Int) (a1 : Int) : q15_Now.g (fun a0 => (h (mk0 a0))) n a0_0 a0_1 a0_2 a1 = (q15_Now.g mk0 n a0_0 a0_1 a0_2 a1).map h := by
  unfold q15_Now.g
  exact (ite_map (ite_map (ite_map rfl rfl) rfl) rfl)
theorem q15_Now.run (n : Nat) (a0_0 : Bool) (a0_1 : Int) (a0_2 : Int) (a1 : Int) : runF (q15_Now.C n) (q15_Now.A n) n Tryd.f28 [(.agg [(.bool a0_0), (.int .u64 a0_1), (.int .u64 a0_2)]), (.int .u64 a1)] [] (fun v o => some (v, o)) = q15_Now.g (fun a0 => ((Prod.mk (.bool a0) []) : AV × Blks)) n a0_0 a0_1 a0_2 a1 := by kernel_rfl
theorem q15_Now.call (hmix : Tryd.prog.follows .mixedOrders = true) (n : Nat) (t : (Bool × (Int × (Int × Int)))) (u) (h : q15_Now.m n t = some u) : FnC Tryd.prog abiG 28 (q15_Now.shape t).1 (q15_Now.shape t).2 (q15_Now.res u).1 (q15_Now.res u).2 := by
  have hg : ∀ f m, (q15_Now.C n).Γ f = some m → CalleeS Tryd.prog abiG f m := by
    intro f m hm
    unfold q15_Now.C at hm
    simp only at hm
    first
    | (cases hm; done)
    | (split at hm <;> first
    | (cases hm; done))
  have hb : Tryd.f28.body = some (Tryd.f28.body.getD .skip) := by kernel_rfl
  refine runF_calls (C := q15_Now.C n) (A := q15_Now.A n) (n := n) (fn := Tryd.f28) hg hmix Tryd.func28 hb ?_ ?_ (by decide) rfl rfl (by show 2 ≤ Tryd.f28.ntmps; decide) ?_
  · rw [show loopsIn (Tryd.f28.body.getD .skip) = [] by kernel_rfl]
    intro b hb
    cases hb
  · intro a ha m hm
    cases (show none = some m from hm)
  · rw [show runF (q15_Now.C n) (q15_Now.A n) n Tryd.f28 (q15_Now.shape t).1 (q15_Now.shape t).2 (fun v o => some (v, o)) = _ from q15_Now.run n t.1 t.2.1 t.2.2.1 t.2.2.2]
    have e := q15_Now.gmap q15_Now.res (fun a0 => a0) n t.1 t.2.1 t.2.2.1 t.2.2.2
    unfold q15_Now.m at h
    rw [h] at e
    exact e
theorem q15_Now.s (hmix : Tryd.prog.follows .mixedOrders = true) (n : Nat) : CalleeS Tryd.prog abiG 28 (q15_Now.c n) :=
  CalleeS.of (res := q15_Now.res) (shape := q15_Now.shape) (fun R u K => rfl) (fun args lent t h => by
    unfold q15_Now.pat at h
    split at h
    · cases h; rfl
    · cases h) fun t u h => (q15_Now.call hmix n t u h).ok Tryd.func28 (by decide) (by kernel_rfl)
end
section
noncomputable section
noncomputable def bits_RotateLeft64.C (n : Nat) : Ctx := ⟨Tryd.prog, abiG, fun f => match f with
 | _ => none, fun _ => false⟩
def bits_RotateLeft64.live : Nat → List Nat × List Nat := fun k => match k with
 | _ => ([], [])
def bits_RotateLeft64.jlive : Nat → List Nat × List Nat := fun k => match k with
 | _ => ([], [])
noncomputable def bits_RotateLeft64.A (n : Nat) : Ann := ⟨Tryd.f130.ntmps, 0, bits_RotateLeft64.live, [], [none], fun k => match k with
 | _ => none, bits_RotateLeft64.jlive, lookJ []⟩
def bits_RotateLeft64.g {α : Type} (mk0 : Int → α) (n : Nat) (a0 : Int) (a1 : Int) : Option α :=
 if 0 ≤ (IntKind.wrap .u64 (64 - (ibits BinOp.and .u64 (IntKind.wrap .u64 a1) 63))) then
  some (mk0 (ibits BinOp.or .u64 (ishl .u64 a0 (ibits BinOp.and .u64 (IntKind.wrap .u64 a1) 63)) (ishr .u64 a0 (IntKind.wrap .u64 (64 - (ibits BinOp.and .u64 (IntKind.wrap .u64 a1) 63))))))
 else
  none
def bits_RotateLeft64.m (n : Nat) (t : (Int × Int)) : Option Int := bits_RotateLeft64.g (fun a0 => a0) n t.1 t.2
def bits_RotateLeft64.pat : List AV → Blks → Option (Int × Int)
 | [(.int .u64 a0), (.int .i64 a1)], [] => some (a0, a1)
 | _, _ => none
def bits_RotateLeft64.shape (t : (Int × Int)) : List AV × Blks := ([(.int .u64 t.1), (.int .i64 t.2)], [])
def bits_RotateLeft64.res : Int → AV × Blks
 | u => (Prod.mk (.int .u64 u) [])
def bits_RotateLeft64.resK {R : Type} (u : Int) (K : AV → Blks → Option R) : Option R := (fun p : AV × Blks => K p.1 p.2) (Prod.mk (.int .u64 u) [])
def bits_RotateLeft64.c (n : Nat) : Abs.Callee := .mk' [] [none, none] bits_RotateLeft64.pat (bits_RotateLeft64.m n) bits_RotateLeft64.resK
end
end
section
noncomputable section
noncomputable def keccak_state_spread.C (n : Nat) : Ctx := ⟨Tryd.prog, abiG, fun f => match f with
 | 130 => some (bits_RotateLeft64.c n)
 | _ => none, fun _ => false⟩
def keccak_state_spread.live : Nat → List Nat × List Nat := fun k => match k with
 | 2 => ([7, 6, 2, 0], [0, 2])
 | 7 => ([21, 0, 2], [])
 | _ => ([], [])
def keccak_state_spread.jlive : Nat → List Nat × List Nat := fun k => match k with
 | _ => ([], [])
def keccak_state_spread.l2_0.r {α : Type} (mk0 : (List Int) → (List Int) → α) (n : Nat) (rc : Int → (List Int) → (List Int) → Option α)  (x0 : Int) (x1 : (List Int)) (x2 : (List Int)) : Option α :=
  if (decide (x0 < 25)) = true then
   if 0 ≤ x0 then
    if x0 < 25 then
     if 0 ≤ (Int.tmod x0 5) then
      if (Int.tmod x0 5) < 5 then
       if 0 ≤ (Int.tmod x0 5) then
        if (Int.tmod x0 5) < 5 then
         rc (IntKind.wrap .i64 (x0 + 1)) x1 (List.set x2 (Int.toNat (Int.tmod x0 5)) (ibits BinOp.xor .u64 (List.getD x2 (Int.toNat (Int.tmod x0 5)) 0) (List.getD x1 (Int.toNat x0) 0)))
        else
         none
       else
        none
      else
       none
     else
      none
    else
     none
   else
    none
  else
   some (mk0 x1 x2)
def keccak_state_spread.l2_0.g {α : Type} (mk0 : (List Int) → (List Int) → α) (n : Nat) : Nat → Int → (List Int) → (List Int) → Option α
 | 0, _, _, _ => none
 | m + 1, x0, x1, x2 => keccak_state_spread.l2_0.r mk0 n (fun y0 y1 y2 => keccak_state_spread.l2_0.g mk0 n m y0 y1 y2)  x0 x1 x2
def keccak_state_spread.l2_0.m (n m : Nat) (t : (Int × ((List Int) × (List Int)))) : Option ((List Int) × (List Int)) := keccak_state_spread.l2_0.g (fun a0 a1 => (a0, a1)) n m t.1 t.2.1 t.2.2
def keccak_state_spread.l2_0.pat : St → Option (Int × ((List Int) × (List Int)))
 | (St.mk [(.int .i64 x0), (.ptr 0 []), (.ptr 1 []), (.ptr 0 [])] [(some (.var (.ints .u64 25 x1))), (some (.var (.ints .u64 5 x2)))]) => some (x0, x1, x2)
 | _ => none
def keccak_state_spread.l2_0.shape (t : (Int × ((List Int) × (List Int)))) : St := (St.mk [(.int .i64 t.1), (.ptr 0 []), (.ptr 1 []), (.ptr 0 [])] [(some (.var (.ints .u64 25 t.2.1))), (some (.var (.ints .u64 5 t.2.2)))])
def keccak_state_spread.l2_0.res : ((List Int) × (List Int)) → Ex × St
 | u => (Prod.mk (.exit 0) (St.mk [(.ptr 0 []), (.ptr 1 [])] [(some (.var (.ints .u64 25 u.1))), (some (.var (.ints .u64 5 u.2)))]))
def keccak_state_spread.l2_0.resK {R : Type} (u : ((List Int) × (List Int))) (K : Ex → St → Option R) : Option R := (fun p : Ex × St => K p.1 p.2) (Prod.mk (.exit 0) (St.mk [(.ptr 0 []), (.ptr 1 [])] [(some (.var (.ints .u64 25 u.1))), (some (.var (.ints .u64 5 u.2)))]))
def keccak_state_spread.l7_0.r {α : Type} (mk0 : (List Int) → α) (n : Nat) (rc : Int → (List Int) → (List Int) → Option α)  (x0 : Int) (x1 : (List Int)) (x2 : (List Int)) : Option α :=
  if (decide (x0 < 25)) = true then
   if 0 ≤ x0 then
    if x0 < 25 then
     if 0 ≤ (Int.tmod (IntKind.wrap .i64 (x0 + 4)) 5) then
      if (Int.tmod (IntKind.wrap .i64 (x0 + 4)) 5) < 5 then
       if 0 ≤ (Int.tmod (IntKind.wrap .i64 (x0 + 1)) 5) then
        if (Int.tmod (IntKind.wrap .i64 (x0 + 1)) 5) < 5 then
         bindO (bits_RotateLeft64.m n (Prod.mk (List.getD x2 (Int.toNat (Int.tmod (IntKind.wrap .i64 (x0 + 1)) 5)) 0) 1)) fun r18 =>
          if 0 ≤ x0 then
           if x0 < 25 then
            rc (IntKind.wrap .i64 (x0 + 1)) (List.set x1 (Int.toNat x0) (ibits BinOp.xor .u64 (List.getD x1 (Int.toNat x0) 0) (ibits BinOp.xor .u64 (List.getD x2 (Int.toNat (Int.tmod (IntKind.wrap .i64 (x0 + 4)) 5)) 0) r18))) x2
           else
            none
          else
           none
        else
         none
       else
        none
      else
       none
     else
      none
    else
     none
   else
    none
  else
   some (mk0 x1)
def keccak_state_spread.l7_0.g {α : Type} (mk0 : (List Int) → α) (n : Nat) : Nat → Int → (List Int) → (List Int) → Option α
 | 0, _, _, _ => none
 | m + 1, x0, x1, x2 => keccak_state_spread.l7_0.r mk0 n (fun y0 y1 y2 => keccak_state_spread.l7_0.g mk0 n m y0 y1 y2)  x0 x1 x2
def keccak_state_spread.l7_0.m (n m : Nat) (t : (Int × ((List Int) × (List Int)))) : Option (List Int) := keccak_state_spread.l7_0.g (fun a0 => a0) n m t.1 t.2.1 t.2.2
def keccak_state_spread.l7_0.pat : St → Option (Int × ((List Int) × (List Int)))
 | (St.mk [(.int .i64 x0), (.ptr 0 []), (.ptr 1 [])] [(some (.var (.ints .u64 25 x1))), (some (.var (.ints .u64 5 x2)))]) => some (x0, x1, x2)
 | _ => none
def keccak_state_spread.l7_0.shape (t : (Int × ((List Int) × (List Int)))) : St := (St.mk [(.int .i64 t.1), (.ptr 0 []), (.ptr 1 [])] [(some (.var (.ints .u64 25 t.2.1))), (some (.var (.ints .u64 5 t.2.2)))])
def keccak_state_spread.l7_0.res : (List Int) → Ex × St
 | u => (Prod.mk (.exit 2) (St.mk [] [(some (.var (.ints .u64 25 u)))]))
def keccak_state_spread.l7_0.resK {R : Type} (u : (List Int)) (K : Ex → St → Option R) : Option R := (fun p : Ex × St => K p.1 p.2) (Prod.mk (.exit 2) (St.mk [] [(some (.var (.ints .u64 25 u)))]))
noncomputable def keccak_state_spread.A (n : Nat) : Ann := ⟨Tryd.f124.ntmps, 1, keccak_state_spread.live, [], [], fun k => match k with
 | 2 => some (.mk' keccak_state_spread.l2_0.pat (keccak_state_spread.l2_0.m n n) keccak_state_spread.l2_0.resK)
 | 7 => some (.mk' keccak_state_spread.l7_0.pat (keccak_state_spread.l7_0.m n n) keccak_state_spread.l7_0.resK)
 | _ => none, keccak_state_spread.jlive, lookJ []⟩
noncomputable def keccak_state_spread.b0 : Code := (loopsIn (Tryd.f124.body.getD .skip)).getD 0 .skip
noncomputable def keccak_state_spread.b1 : Code := (loopsIn (Tryd.f124.body.getD .skip)).getD 1 .skip
def keccak_state_spread.g {α : Type} (mk0 : (List Int) → α) (n : Nat) (s : (List Int)) : Option α :=
 bindO (keccak_state_spread.l2_0.m n n (0, s, [0, 0, 0, 0, 0])) fun r2 =>
  bindO (keccak_state_spread.l7_0.m n n (0, (Prod.fst r2), (Prod.snd r2))) fun r4 =>
   some (mk0 r4)
def keccak_state_spread.m (n : Nat) (t : (List Int)) : Option (List Int) := keccak_state_spread.g (fun a0 => a0) n t
def keccak_state_spread.pat : List AV → Blks → Option (List Int)
 | [(.ptr 0 [])], [(some (.var (.ints .u64 25 s)))] => some s
 | _, _ => none
def keccak_state_spread.shape (t : (List Int)) : List AV × Blks := ([(.ptr 0 [])], [(some (.var (.ints .u64 25 t)))])
def keccak_state_spread.res : (List Int) → AV × Blks
 | u => (Prod.mk (.tup []) [(some (.var (.ints .u64 25 u)))])
def keccak_state_spread.resK {R : Type} (u : (List Int)) (K : AV → Blks → Option R) : Option R := (fun p : AV × Blks => K p.1 p.2) (Prod.mk (.tup []) [(some (.var (.ints .u64 25 u)))])
def keccak_state_spread.c (n : Nat) : Abs.Callee := .mk' [true] [none] keccak_state_spread.pat (keccak_state_spread.m n) keccak_state_spread.resK
end
end
section
noncomputable section
noncomputable def keccak_state_turn.C (n : Nat) : Ctx := ⟨Tryd.prog, abiG, fun f => match f with
 | 130 => some (bits_RotateLeft64.c n)
 | _ => none, fun _ => false⟩
def keccak_state_turn.live : Nat → List Nat × List Nat := fun k => match k with
 | 2 => ([9, 0, 2], [])
 | _ => ([], [])
def keccak_state_turn.jlive : Nat → List Nat × List Nat := fun k => match k with
 | _ => ([], [])
def keccak_state_turn.l2_0.r {α : Type} (mk0 : (List Int) → α) (n : Nat) (rc : Int → Int → (List Int) → Option α)  (x0 : Int) (x1 : Int) (x2 : (List Int)) : Option α :=
  if (decide (x0 < 24)) = true then
   if 0 ≤ x0 then
    if x0 < 24 then
     if 0 ≤ (List.getD ([10, 7, 11, 17, 18, 3, 5, 16, 8, 21, 24, 4, 15, 23, 19, 13, 12, 2, 20, 14, 22, 9, 6, 1] : List Int) (Int.toNat x0) 0) then
      if (List.getD ([10, 7, 11, 17, 18, 3, 5, 16, 8, 21, 24, 4, 15, 23, 19, 13, 12, 2, 20, 14, 22, 9, 6, 1] : List Int) (Int.toNat x0) 0) < 25 then
       if 0 ≤ x0 then
        if x0 < 24 then
         if 0 ≤ x0 then
          if x0 < 24 then
           bindO (bits_RotateLeft64.m n (Prod.mk x1 (List.getD ([1, 3, 6, 10, 15, 21, 28, 36, 45, 55, 2, 14, 27, 41, 56, 8, 25, 43, 62, 18, 39, 61, 20, 44] : List Int) (Int.toNat x0) 0))) fun r22 =>
            if 0 ≤ (List.getD ([10, 7, 11, 17, 18, 3, 5, 16, 8, 21, 24, 4, 15, 23, 19, 13, 12, 2, 20, 14, 22, 9, 6, 1] : List Int) (Int.toNat x0) 0) then
             if (List.getD ([10, 7, 11, 17, 18, 3, 5, 16, 8, 21, 24, 4, 15, 23, 19, 13, 12, 2, 20, 14, 22, 9, 6, 1] : List Int) (Int.toNat x0) 0) < 25 then
              rc (IntKind.wrap .i64 (x0 + 1)) (List.getD x2 (Int.toNat (List.getD ([10, 7, 11, 17, 18, 3, 5, 16, 8, 21, 24, 4, 15, 23, 19, 13, 12, 2, 20, 14, 22, 9, 6, 1] : List Int) (Int.toNat x0) 0)) 0) (List.set x2 (Int.toNat (List.getD ([10, 7, 11, 17, 18, 3, 5, 16, 8, 21, 24, 4, 15, 23, 19, 13, 12, 2, 20, 14, 22, 9, 6, 1] : List Int) (Int.toNat x0) 0)) r22)
             else
              none
            else
             none
          else
           none
         else
          none
        else
         none
       else
        none
      else
       none
     else
      none
    else
     none
   else
    none
  else
   some (mk0 x2)
def keccak_state_turn.l2_0.g {α : Type} (mk0 : (List Int) → α) (n : Nat) : Nat → Int → Int → (List Int) → Option α
 | 0, _, _, _ => none
 | m + 1, x0, x1, x2 => keccak_state_turn.l2_0.r mk0 n (fun y0 y1 y2 => keccak_state_turn.l2_0.g mk0 n m y0 y1 y2)  x0 x1 x2
def keccak_state_turn.l2_0.m (n m : Nat) (t : (Int × (Int × (List Int)))) : Option (List Int) := keccak_state_turn.l2_0.g (fun a0 => a0) n m t.1 t.2.1 t.2.2
def keccak_state_turn.l2_0.pat : St → Option (Int × (Int × (List Int)))
 | (St.mk [(.int .i64 x0), (.ptr 0 []), (.int .u64 x1)] [(some (.var (.ints .u64 25 x2)))]) => some (x0, x1, x2)
 | _ => none
def keccak_state_turn.l2_0.shape (t : (Int × (Int × (List Int)))) : St := (St.mk [(.int .i64 t.1), (.ptr 0 []), (.int .u64 t.2.1)] [(some (.var (.ints .u64 25 t.2.2)))])
def keccak_state_turn.l2_0.res : (List Int) → Ex × St
 | u => (Prod.mk (.exit 0) (St.mk [] [(some (.var (.ints .u64 25 u)))]))
def keccak_state_turn.l2_0.resK {R : Type} (u : (List Int)) (K : Ex → St → Option R) : Option R := (fun p : Ex × St => K p.1 p.2) (Prod.mk (.exit 0) (St.mk [] [(some (.var (.ints .u64 25 u)))]))
noncomputable def keccak_state_turn.A (n : Nat) : Ann := ⟨Tryd.f125.ntmps, 1, keccak_state_turn.live, [], [], fun k => match k with
 | 2 => some (.mk' keccak_state_turn.l2_0.pat (keccak_state_turn.l2_0.m n n) keccak_state_turn.l2_0.resK)
 | _ => none, keccak_state_turn.jlive, lookJ []⟩
noncomputable def keccak_state_turn.b0 : Code := (loopsIn (Tryd.f125.body.getD .skip)).getD 0 .skip
def keccak_state_turn.g {α : Type} (mk0 : (List Int) → α) (n : Nat) (s : (List Int)) : Option α :=
 bindO (keccak_state_turn.l2_0.m n n (0, (List.getD s 1 0), s)) fun r2 =>
  some (mk0 r2)
def keccak_state_turn.m (n : Nat) (t : (List Int)) : Option (List Int) := keccak_state_turn.g (fun a0 => a0) n t
def keccak_state_turn.pat : List AV → Blks → Option (List Int)
 | [(.ptr 0 [])], [(some (.var (.ints .u64 25 s)))] => some s
 | _, _ => none
def keccak_state_turn.shape (t : (List Int)) : List AV × Blks := ([(.ptr 0 [])], [(some (.var (.ints .u64 25 t)))])
def keccak_state_turn.res : (List Int) → AV × Blks
 | u => (Prod.mk (.tup []) [(some (.var (.ints .u64 25 u)))])
def keccak_state_turn.resK {R : Type} (u : (List Int)) (K : AV → Blks → Option R) : Option R := (fun p : AV × Blks => K p.1 p.2) (Prod.mk (.tup []) [(some (.var (.ints .u64 25 u)))])
def keccak_state_turn.c (n : Nat) : Abs.Callee := .mk' [true] [none] keccak_state_turn.pat (keccak_state_turn.m n) keccak_state_turn.resK
end
end
section
noncomputable section
noncomputable def keccak_state_row.C (n : Nat) : Ctx := ⟨Tryd.prog, abiG, fun f => match f with
 | _ => none, fun _ => false⟩
def keccak_state_row.live : Nat → List Nat × List Nat := fun k => match k with
 | 1 => ([2, 0], [])
 | 5 => ([17, 0, 2, 3], [2, 0])
 | _ => ([], [])
def keccak_state_row.jlive : Nat → List Nat × List Nat := fun k => match k with
 | _ => ([], [])
def keccak_state_row.l5_0.r {α : Type} (mk0 : Int → (List Int) → α) (n : Nat) (rc : Int → Int → (List Int) → (List Int) → Option α)  (x0 : Int) (x1 : Int) (x2 : (List Int)) (x3 : (List Int)) : Option α :=
  if (decide (x0 < 5)) = true then
   if 0 ≤ x0 then
    if x0 < 5 then
     if 0 ≤ (Int.tmod (IntKind.wrap .i64 (x0 + 1)) 5) then
      if (Int.tmod (IntKind.wrap .i64 (x0 + 1)) 5) < 5 then
       if 0 ≤ (Int.tmod (IntKind.wrap .i64 (x0 + 2)) 5) then
        if (Int.tmod (IntKind.wrap .i64 (x0 + 2)) 5) < 5 then
         if 0 ≤ (IntKind.wrap .i64 (x1 + x0)) then
          if (IntKind.wrap .i64 (x1 + x0)) < 25 then
           rc (IntKind.wrap .i64 (x0 + 1)) x1 (List.set x2 (Int.toNat (IntKind.wrap .i64 (x1 + x0))) (ibits BinOp.xor .u64 (List.getD x3 (Int.toNat x0) 0) (ibits BinOp.and .u64 (ibits BinOp.xor .u64 (if false = true then (-1) else 18446744073709551615) (List.getD x3 (Int.toNat (Int.tmod (IntKind.wrap .i64 (x0 + 1)) 5)) 0)) (List.getD x3 (Int.toNat (Int.tmod (IntKind.wrap .i64 (x0 + 2)) 5)) 0)))) x3
          else
           none
         else
          none
        else
         none
       else
        none
      else
       none
     else
      none
    else
     none
   else
    none
  else
   some (mk0 x1 x2)
def keccak_state_row.l5_0.g {α : Type} (mk0 : Int → (List Int) → α) (n : Nat) : Nat → Int → Int → (List Int) → (List Int) → Option α
 | 0, _, _, _, _ => none
 | m + 1, x0, x1, x2, x3 => keccak_state_row.l5_0.r mk0 n (fun y0 y1 y2 y3 => keccak_state_row.l5_0.g mk0 n m y0 y1 y2 y3)  x0 x1 x2 x3
def keccak_state_row.l5_0.m (n m : Nat) (t : (Int × (Int × ((List Int) × (List Int))))) : Option (Int × (List Int)) := keccak_state_row.l5_0.g (fun a0 a1 => (a0, a1)) n m t.1 t.2.1 t.2.2.1 t.2.2.2
def keccak_state_row.l5_0.pat : St → Option (Int × (Int × ((List Int) × (List Int))))
 | (St.mk [(.int .i64 x0), (.ptr 0 []), (.int .i64 x1), (.ptr 1 [])] [(some (.var (.ints .u64 25 x2))), (some (.var (.ints .u64 5 x3)))]) => some (x0, x1, x2, x3)
 | _ => none
def keccak_state_row.l5_0.shape (t : (Int × (Int × ((List Int) × (List Int))))) : St := (St.mk [(.int .i64 t.1), (.ptr 0 []), (.int .i64 t.2.1), (.ptr 1 [])] [(some (.var (.ints .u64 25 t.2.2.1))), (some (.var (.ints .u64 5 t.2.2.2)))])
def keccak_state_row.l5_0.res : (Int × (List Int)) → Ex × St
 | u => (Prod.mk (.exit 2) (St.mk [(.int .i64 u.1), (.ptr 0 [])] [(some (.var (.ints .u64 25 u.2)))]))
def keccak_state_row.l5_0.resK {R : Type} (u : (Int × (List Int))) (K : Ex → St → Option R) : Option R := (fun p : Ex × St => K p.1 p.2) (Prod.mk (.exit 2) (St.mk [(.int .i64 u.1), (.ptr 0 [])] [(some (.var (.ints .u64 25 u.2)))]))
def keccak_state_row.l1_0.r {α : Type} (mk0 : (List Int) → α) (n : Nat) (rc : Int → (List Int) → Option α)  (x0 : Int) (x1 : (List Int)) : Option α :=
  if (decide (x0 < 25)) = true then
   if 0 ≤ (IntKind.wrap .i64 (x0 + 5)) then
    if (IntKind.wrap .i64 (x0 + 5)) ≤ 25 then
     if 0 ≤ x0 then
      if x0 ≤ (IntKind.wrap .i64 (x0 + 5)) then
       if 5 ≤ (Go.Abs.span 25 (Int.toNat x0) (Option.some (Int.toNat (IntKind.wrap .i64 (x0 + 5))))) then
        bindO (keccak_state_row.l5_0.m n n (0, x0, x1, (List.take 5 (List.drop (Int.toNat x0) x1)))) fun r16 =>
         rc (IntKind.wrap .i64 ((Prod.fst r16) + 5)) (Prod.snd r16)
       else
        none
      else
       none
     else
      none
    else
     none
   else
    none
  else
   some (mk0 x1)
def keccak_state_row.l1_0.g {α : Type} (mk0 : (List Int) → α) (n : Nat) : Nat → Int → (List Int) → Option α
 | 0, _, _ => none
 | m + 1, x0, x1 => keccak_state_row.l1_0.r mk0 n (fun y0 y1 => keccak_state_row.l1_0.g mk0 n m y0 y1)  x0 x1
def keccak_state_row.l1_0.m (n m : Nat) (t : (Int × (List Int))) : Option (List Int) := keccak_state_row.l1_0.g (fun a0 => a0) n m t.1 t.2
def keccak_state_row.l1_0.pat : St → Option (Int × (List Int))
 | (St.mk [(.int .i64 x0), (.ptr 0 [])] [(some (.var (.ints .u64 25 x1)))]) => some (x0, x1)
 | _ => none
def keccak_state_row.l1_0.shape (t : (Int × (List Int))) : St := (St.mk [(.int .i64 t.1), (.ptr 0 [])] [(some (.var (.ints .u64 25 t.2)))])
def keccak_state_row.l1_0.res : (List Int) → Ex × St
 | u => (Prod.mk (.exit 0) (St.mk [] [(some (.var (.ints .u64 25 u)))]))
def keccak_state_row.l1_0.resK {R : Type} (u : (List Int)) (K : Ex → St → Option R) : Option R := (fun p : Ex × St => K p.1 p.2) (Prod.mk (.exit 0) (St.mk [] [(some (.var (.ints .u64 25 u)))]))
noncomputable def keccak_state_row.A (n : Nat) : Ann := ⟨Tryd.f126.ntmps, 1, keccak_state_row.live, [], [], fun k => match k with
 | 5 => some (.mk' keccak_state_row.l5_0.pat (keccak_state_row.l5_0.m n n) keccak_state_row.l5_0.resK)
 | 1 => some (.mk' keccak_state_row.l1_0.pat (keccak_state_row.l1_0.m n n) keccak_state_row.l1_0.resK)
 | _ => none, keccak_state_row.jlive, lookJ []⟩
noncomputable def keccak_state_row.b0 : Code := (loopsIn (Tryd.f126.body.getD .skip)).getD 0 .skip
noncomputable def keccak_state_row.b1 : Code := (loopsIn (Tryd.f126.body.getD .skip)).getD 1 .skip
def keccak_state_row.g {α : Type} (mk0 : (List Int) → α) (n : Nat) (s : (List Int)) : Option α :=
 bindO (keccak_state_row.l1_0.m n n (0, s)) fun r2 =>
  some (mk0 r2)
def keccak_state_row.m (n : Nat) (t : (List Int)) : Option (List Int) := keccak_state_row.g (fun a0 => a0) n t
def keccak_state_row.pat : List AV → Blks → Option (List Int)
 | [(.ptr 0 [])], [(some (.var (.ints .u64 25 s)))] => some s
 | _, _ => none
def keccak_state_row.shape (t : (List Int)) : List AV × Blks := ([(.ptr 0 [])], [(some (.var (.ints .u64 25 t)))])
def keccak_state_row.res : (List Int) → AV × Blks
 | u => (Prod.mk (.tup []) [(some (.var (.ints .u64 25 u)))])
def keccak_state_row.resK {R : Type} (u : (List Int)) (K : AV → Blks → Option R) : Option R := (fun p : AV × Blks => K p.1 p.2) (Prod.mk (.tup []) [(some (.var (.ints .u64 25 u)))])
def keccak_state_row.c (n : Nat) : Abs.Callee := .mk' [true] [none] keccak_state_row.pat (keccak_state_row.m n) keccak_state_row.resK
end
end
section
noncomputable section
noncomputable def keccak_state_mix.C (n : Nat) : Ctx := ⟨Tryd.prog, abiG, fun f => match f with
 | 124 => some (keccak_state_spread.c n)
 | 125 => some (keccak_state_turn.c n)
 | 126 => some (keccak_state_row.c n)
 | _ => none, fun _ => false⟩
def keccak_state_mix.live : Nat → List Nat × List Nat := fun k => match k with
 | 1 => ([3, 0], [])
 | _ => ([], [])
def keccak_state_mix.jlive : Nat → List Nat × List Nat := fun k => match k with
 | _ => ([], [])
def keccak_state_mix.l1_0.r {α : Type} (mk0 : (List Int) → α) (n : Nat) (rc : Int → (List Int) → Option α)  (x0 : Int) (x1 : (List Int)) : Option α :=
  if (decide (x0 < 24)) = true then
   bindO (keccak_state_spread.m n x1) fun r6 =>
    bindO (keccak_state_turn.m n r6) fun r8 =>
     bindO (keccak_state_row.m n r8) fun r10 =>
      if 0 ≤ x0 then
       if x0 < 24 then
        rc (IntKind.wrap .i64 (x0 + 1)) (List.set r10 0 (ibits BinOp.xor .u64 (List.getD r10 0 0) (List.getD ([1, 32898, 9223372036854808714, 9223372039002292224, 32907, 2147483649, 9223372039002292353, 9223372036854808585, 138, 136, 2147516425, 2147483658, 2147516555, 9223372036854775947, 9223372036854808713, 9223372036854808579, 9223372036854808578, 9223372036854775936, 32778, 9223372039002259466, 9223372039002292353, 9223372036854808704, 2147483649, 9223372039002292232] : List Int) (Int.toNat x0) 0)))
       else
        none
      else
       none
  else
   some (mk0 x1)
def keccak_state_mix.l1_0.g {α : Type} (mk0 : (List Int) → α) (n : Nat) : Nat → Int → (List Int) → Option α
 | 0, _, _ => none
 | m + 1, x0, x1 => keccak_state_mix.l1_0.r mk0 n (fun y0 y1 => keccak_state_mix.l1_0.g mk0 n m y0 y1)  x0 x1
def keccak_state_mix.l1_0.m (n m : Nat) (t : (Int × (List Int))) : Option (List Int) := keccak_state_mix.l1_0.g (fun a0 => a0) n m t.1 t.2
def keccak_state_mix.l1_0.pat : St → Option (Int × (List Int))
 | (St.mk [(.int .i64 x0), (.ptr 0 [])] [(some (.var (.ints .u64 25 x1)))]) => some (x0, x1)
 | _ => none
def keccak_state_mix.l1_0.shape (t : (Int × (List Int))) : St := (St.mk [(.int .i64 t.1), (.ptr 0 [])] [(some (.var (.ints .u64 25 t.2)))])
def keccak_state_mix.l1_0.res : (List Int) → Ex × St
 | u => (Prod.mk (.exit 0) (St.mk [] [(some (.var (.ints .u64 25 u)))]))
def keccak_state_mix.l1_0.resK {R : Type} (u : (List Int)) (K : Ex → St → Option R) : Option R := (fun p : Ex × St => K p.1 p.2) (Prod.mk (.exit 0) (St.mk [] [(some (.var (.ints .u64 25 u)))]))
noncomputable def keccak_state_mix.A (n : Nat) : Ann := ⟨Tryd.f111.ntmps, 1, keccak_state_mix.live, [], [], fun k => match k with
 | 1 => some (.mk' keccak_state_mix.l1_0.pat (keccak_state_mix.l1_0.m n n) keccak_state_mix.l1_0.resK)
 | _ => none, keccak_state_mix.jlive, lookJ []⟩
noncomputable def keccak_state_mix.b0 : Code := (loopsIn (Tryd.f111.body.getD .skip)).getD 0 .skip
def keccak_state_mix.g {α : Type} (mk0 : (List Int) → α) (n : Nat) (s : (List Int)) : Option α :=
 bindO (keccak_state_mix.l1_0.m n n (0, s)) fun r2 =>
  some (mk0 r2)
def keccak_state_mix.m (n : Nat) (t : (List Int)) : Option (List Int) := keccak_state_mix.g (fun a0 => a0) n t
def keccak_state_mix.pat : List AV → Blks → Option (List Int)
 | [(.ptr 0 [])], [(some (.var (.ints .u64 25 s)))] => some s
 | _, _ => none
def keccak_state_mix.shape (t : (List Int)) : List AV × Blks := ([(.ptr 0 [])], [(some (.var (.ints .u64 25 t)))])
def keccak_state_mix.res : (List Int) → AV × Blks
 | u => (Prod.mk (.tup []) [(some (.var (.ints .u64 25 u)))])
def keccak_state_mix.resK {R : Type} (u : (List Int)) (K : AV → Blks → Option R) : Option R := (fun p : AV × Blks => K p.1 p.2) (Prod.mk (.tup []) [(some (.var (.ints .u64 25 u)))])
def keccak_state_mix.c (n : Nat) : Abs.Callee := .mk' [true] [none] keccak_state_mix.pat (keccak_state_mix.m n) keccak_state_mix.resK
end
end
section
noncomputable section
noncomputable def keccak_state_take.C (n : Nat) : Ctx := ⟨Tryd.prog, abiG, fun f => match f with
 | 111 => some (keccak_state_mix.c n)
 | _ => none, fun _ => false⟩
def keccak_state_take.live : Nat → List Nat × List Nat := fun k => match k with
 | 1 => ([8, 7, 6, 0], [0])
 | _ => ([], [])
def keccak_state_take.jlive : Nat → List Nat × List Nat := fun k => match k with
 | _ => ([], [])
def keccak_state_take.l1_0.r {α : Type} (mk0 : (List Int) → α) (n : Nat) (rc : Int → Int → (List Int) → (List Int) → Option α)  (x0 : Int) (x1 : Int) (x2 : (List Int)) (x3 : (List Int)) : Option α :=
  if (decide (x0 < x1)) = true then
   if 0 ≤ x0 then
    if x0 < (((List.length x2) : Nat) : Int) then
     if 0 ≤ (IntKind.wrap .i64 (Int.tdiv x0 8)) then
      if (IntKind.wrap .i64 (Int.tdiv x0 8)) < 25 then
       if 0 ≤ (IntKind.wrap .i64 ((Int.tmod x0 8) * 8)) then
        if 0 ≤ (IntKind.wrap .i64 (Int.tdiv x0 8)) then
         if (IntKind.wrap .i64 (Int.tdiv x0 8)) < 25 then
          rc (IntKind.wrap .i64 (x0 + 1)) x1 x2 (List.set x3 (Int.toNat (IntKind.wrap .i64 (Int.tdiv x0 8))) (ibits BinOp.xor .u64 (List.getD x3 (Int.toNat (IntKind.wrap .i64 (Int.tdiv x0 8))) 0) (ishl .u64 (IntKind.wrap .u64 (List.getD x2 (Int.toNat x0) 0)) (IntKind.wrap .i64 ((Int.tmod x0 8) * 8)))))
         else
          none
        else
         none
       else
        none
      else
       none
     else
      none
    else
     none
   else
    none
  else
   some (mk0 x3)
def keccak_state_take.l1_0.g {α : Type} (mk0 : (List Int) → α) (n : Nat) : Nat → Int → Int → (List Int) → (List Int) → Option α
 | 0, _, _, _, _ => none
 | m + 1, x0, x1, x2, x3 => keccak_state_take.l1_0.r mk0 n (fun y0 y1 y2 y3 => keccak_state_take.l1_0.g mk0 n m y0 y1 y2 y3)  x0 x1 x2 x3
def keccak_state_take.l1_0.m (n m : Nat) (t : (Int × (Int × ((List Int) × (List Int))))) : Option (List Int) := keccak_state_take.l1_0.g (fun a0 => a0) n m t.1 t.2.1 t.2.2.1 t.2.2.2
def keccak_state_take.l1_0.pat : St → Option (Int × (Int × ((List Int) × (List Int))))
 | (St.mk [(.int .i64 x0), (.int .i64 x1), (.rints .u8 x2), (.ptr 0 [])] [(some (.var (.ints .u64 25 x3)))]) => some (x0, x1, x2, x3)
 | _ => none
def keccak_state_take.l1_0.shape (t : (Int × (Int × ((List Int) × (List Int))))) : St := (St.mk [(.int .i64 t.1), (.int .i64 t.2.1), (.rints .u8 t.2.2.1), (.ptr 0 [])] [(some (.var (.ints .u64 25 t.2.2.2)))])
def keccak_state_take.l1_0.res : (List Int) → Ex × St
 | u => (Prod.mk (.exit 0) (St.mk [(.ptr 0 [])] [(some (.var (.ints .u64 25 u)))]))
def keccak_state_take.l1_0.resK {R : Type} (u : (List Int)) (K : Ex → St → Option R) : Option R := (fun p : Ex × St => K p.1 p.2) (Prod.mk (.exit 0) (St.mk [(.ptr 0 [])] [(some (.var (.ints .u64 25 u)))]))
noncomputable def keccak_state_take.A (n : Nat) : Ann := ⟨Tryd.f93.ntmps, 1, keccak_state_take.live, [(6, (.ints .u8))], [], fun k => match k with
 | 1 => some (.mk' keccak_state_take.l1_0.pat (keccak_state_take.l1_0.m n n) keccak_state_take.l1_0.resK)
 | _ => none, keccak_state_take.jlive, lookJ []⟩
noncomputable def keccak_state_take.b0 : Code := (loopsIn (Tryd.f93.body.getD .skip)).getD 0 .skip
def keccak_state_take.g {α : Type} (mk0 : (List Int) → α) (n : Nat) (b : (List Int)) (s : (List Int)) : Option α :=
 bindO (keccak_state_take.l1_0.m n n (0, (((List.length b) : Nat) : Int), b, s)) fun r2 =>
  bindO (keccak_state_mix.m n r2) fun r4 =>
   some (mk0 r4)
def keccak_state_take.m (n : Nat) (t : ((List Int) × (List Int))) : Option (List Int) := keccak_state_take.g (fun a0 => a0) n t.1 t.2
def keccak_state_take.pat : List AV → Blks → Option ((List Int) × (List Int))
 | [(.ptr 0 []), (.rints .u8 b)], [(some (.var (.ints .u64 25 s)))] => some (b, s)
 | _, _ => none
def keccak_state_take.shape (t : ((List Int) × (List Int))) : List AV × Blks := ([(.ptr 0 []), (.rints .u8 t.1)], [(some (.var (.ints .u64 25 t.2)))])
def keccak_state_take.res : (List Int) → AV × Blks
 | u => (Prod.mk (.tup []) [(some (.var (.ints .u64 25 u)))])
def keccak_state_take.resK {R : Type} (u : (List Int)) (K : AV → Blks → Option R) : Option R := (fun p : AV × Blks => K p.1 p.2) (Prod.mk (.tup []) [(some (.var (.ints .u64 25 u)))])
def keccak_state_take.c (n : Nat) : Abs.Callee := .mk' [true, false] [none, (some (.ints .u8))] keccak_state_take.pat (keccak_state_take.m n) keccak_state_take.resK
end
end
section
noncomputable section
noncomputable def keccak_Sum.C (n : Nat) : Ctx := ⟨Tryd.prog, abiG, fun f => match f with
 | 93 => some (keccak_state_take.c n)
 | 89 => some (word_Read.c n)
 | _ => none, fun _ => false⟩
def keccak_Sum.live : Nat → List Nat × List Nat := fun k => match k with
 | 2 => ([0, 3, 2], [0, 3, 2])
 | 12 => ([30, 3, 5, 2], [5, 2])
 | _ => ([], [])
def keccak_Sum.jlive : Nat → List Nat × List Nat := fun k => match k with
 | _ => ([], [])
def keccak_Sum.l2_0.r {α : Type} (mk0 : (List Int) → (List Int) → (List Int) → α) (n : Nat) (rc : (List Int) → (List Int) → (List Int) → Option α)  (x0 : (List Int)) (x1 : (List Int)) (x2 : (List Int)) : Option α :=
  if (decide ((((List.length x0) : Nat) : Int) ≥ 136)) = true then
   if 136 ≤ (((List.length x0) : Nat) : Int) then
    bindO (keccak_state_take.m n (Prod.mk (Go.Abs.cut x0 0 (Option.some 136)) x1)) fun r8 =>
     if 136 ≤ (((List.length x0) : Nat) : Int) then
      rc (Go.Abs.cut x0 136 (Option.none)) r8 x2
     else
      none
   else
    none
  else
   some (mk0 x0 x1 x2)
def keccak_Sum.l2_0.g {α : Type} (mk0 : (List Int) → (List Int) → (List Int) → α) (n : Nat) : Nat → (List Int) → (List Int) → (List Int) → Option α
 | 0, _, _, _ => none
 | m + 1, x0, x1, x2 => keccak_Sum.l2_0.r mk0 n (fun y0 y1 y2 => keccak_Sum.l2_0.g mk0 n m y0 y1 y2)  x0 x1 x2
def keccak_Sum.l2_0.m (n m : Nat) (t : ((List Int) × ((List Int) × (List Int)))) : Option ((List Int) × ((List Int) × (List Int))) := keccak_Sum.l2_0.g (fun a0 a1 a2 => (a0, a1, a2)) n m t.1 t.2.1 t.2.2
def keccak_Sum.l2_0.pat : St → Option ((List Int) × ((List Int) × (List Int)))
 | (St.mk [(.rints .u8 x0), (.ptr 0 []), (.ptr 1 [])] [(some (.var (.ints .u64 25 x1))), (some (.var (.ints .u64 4 x2)))]) => some (x0, x1, x2)
 | _ => none
def keccak_Sum.l2_0.shape (t : ((List Int) × ((List Int) × (List Int)))) : St := (St.mk [(.rints .u8 t.1), (.ptr 0 []), (.ptr 1 [])] [(some (.var (.ints .u64 25 t.2.1))), (some (.var (.ints .u64 4 t.2.2)))])
def keccak_Sum.l2_0.res : ((List Int) × ((List Int) × (List Int))) → Ex × St
 | u => (Prod.mk (.exit 0) (St.mk [(.rints .u8 u.1), (.ptr 0 []), (.ptr 1 [])] [(some (.var (.ints .u64 25 u.2.1))), (some (.var (.ints .u64 4 u.2.2)))]))
def keccak_Sum.l2_0.resK {R : Type} (u : ((List Int) × ((List Int) × (List Int)))) (K : Ex → St → Option R) : Option R := (fun p : Ex × St => K p.1 p.2) (Prod.mk (.exit 0) (St.mk [(.rints .u8 u.1), (.ptr 0 []), (.ptr 1 [])] [(some (.var (.ints .u64 25 u.2.1))), (some (.var (.ints .u64 4 u.2.2)))]))
def keccak_Sum.l12_0.r {α : Type} (mk0 : (List Int) → (List Int) → α) (n : Nat) (rc : Int → (List Int) → (List Int) → (List Int) → Option α)  (x0 : Int) (x1 : (List Int)) (x2 : (List Int)) (x3 : (List Int)) : Option α :=
  if (decide (x0 < 32)) = true then
   if 0 ≤ (IntKind.wrap .i64 (Int.tdiv x0 8)) then
    if (IntKind.wrap .i64 (Int.tdiv x0 8)) < 25 then
     if 0 ≤ (IntKind.wrap .i64 ((Int.tmod x0 8) * 8)) then
      if 0 ≤ x0 then
       if x0 < 32 then
        rc (IntKind.wrap .i64 (x0 + 1)) x1 (List.set x2 (Int.toNat x0) (IntKind.wrap .u8 (ishr .u64 (List.getD x1 (Int.toNat (IntKind.wrap .i64 (Int.tdiv x0 8))) 0) (IntKind.wrap .i64 ((Int.tmod x0 8) * 8))))) x3
       else
        none
      else
       none
     else
      none
    else
     none
   else
    none
  else
   some (mk0 x2 x3)
def keccak_Sum.l12_0.g {α : Type} (mk0 : (List Int) → (List Int) → α) (n : Nat) : Nat → Int → (List Int) → (List Int) → (List Int) → Option α
 | 0, _, _, _, _ => none
 | m + 1, x0, x1, x2, x3 => keccak_Sum.l12_0.r mk0 n (fun y0 y1 y2 y3 => keccak_Sum.l12_0.g mk0 n m y0 y1 y2 y3)  x0 x1 x2 x3
def keccak_Sum.l12_0.m (n m : Nat) (t : (Int × ((List Int) × ((List Int) × (List Int))))) : Option ((List Int) × (List Int)) := keccak_Sum.l12_0.g (fun a0 a1 => (a0, a1)) n m t.1 t.2.1 t.2.2.1 t.2.2.2
def keccak_Sum.l12_0.pat : St → Option (Int × ((List Int) × ((List Int) × (List Int))))
 | (St.mk [(.int .i64 x0), (.ptr 0 []), (.ptr 1 []), (.ptr 2 [])] [(some (.var (.ints .u64 25 x1))), (some (.var (.ints .u8 32 x2))), (some (.var (.ints .u64 4 x3)))]) => some (x0, x1, x2, x3)
 | _ => none
def keccak_Sum.l12_0.shape (t : (Int × ((List Int) × ((List Int) × (List Int))))) : St := (St.mk [(.int .i64 t.1), (.ptr 0 []), (.ptr 1 []), (.ptr 2 [])] [(some (.var (.ints .u64 25 t.2.1))), (some (.var (.ints .u8 32 t.2.2.1))), (some (.var (.ints .u64 4 t.2.2.2)))])
def keccak_Sum.l12_0.res : ((List Int) × (List Int)) → Ex × St
 | u => (Prod.mk (.exit 2) (St.mk [(.ptr 0 []), (.ptr 1 [])] [(some (.var (.ints .u8 32 u.1))), (some (.var (.ints .u64 4 u.2)))]))
def keccak_Sum.l12_0.resK {R : Type} (u : ((List Int) × (List Int))) (K : Ex → St → Option R) : Option R := (fun p : Ex × St => K p.1 p.2) (Prod.mk (.exit 2) (St.mk [(.ptr 0 []), (.ptr 1 [])] [(some (.var (.ints .u8 32 u.1))), (some (.var (.ints .u64 4 u.2)))]))
noncomputable def keccak_Sum.A (n : Nat) : Ann := ⟨Tryd.f57.ntmps, 0, keccak_Sum.live, [(0, (.ints .u8))], [none], fun k => match k with
 | 2 => some (.mk' keccak_Sum.l2_0.pat (keccak_Sum.l2_0.m n n) keccak_Sum.l2_0.resK)
 | 12 => some (.mk' keccak_Sum.l12_0.pat (keccak_Sum.l12_0.m n n) keccak_Sum.l12_0.resK)
 | _ => none, keccak_Sum.jlive, lookJ []⟩
noncomputable def keccak_Sum.b0 : Code := (loopsIn (Tryd.f57.body.getD .skip)).getD 0 .skip
noncomputable def keccak_Sum.b1 : Code := (loopsIn (Tryd.f57.body.getD .skip)).getD 1 .skip
def keccak_Sum.g {α : Type} (mk0 : (List Int) → α) (n : Nat) (a0 : (List Int)) : Option α :=
 bindO (keccak_Sum.l2_0.m n n (a0, ([0, 0, 0, 0, 0, 0, 0, 0, 0, 0, 0, 0, 0, 0, 0, 0, 0, 0, 0, 0, 0, 0, 0, 0, 0] : List Int), [0, 0, 0, 0])) fun r2 =>
  if (((List.length (Prod.fst r2)) : Nat) : Int) < 136 then
   if (((List.length (Prod.fst r2)) : Nat) : Int) < 136 then
    bindO (keccak_state_take.m n (Prod.mk (List.take 136 (List.drop 0 (List.set (List.set ([] ++ ((List.take 136 (Prod.fst r2)) ++ (List.drop (0 + (Min.min (List.length (Prod.fst r2)) 136)) ([0, 0, 0, 0, 0, 0, 0, 0, 0, 0, 0, 0, 0, 0, 0, 0, 0, 0, 0, 0, 0, 0, 0, 0, 0, 0, 0, 0, 0, 0, 0, 0, 0, 0, 0, 0, 0, 0, 0, 0, 0, 0, 0, 0, 0, 0, 0, 0, 0, 0, 0, 0, 0, 0, 0, 0, 0, 0, 0, 0, 0, 0, 0, 0, 0, 0, 0, 0, 0, 0, 0, 0, 0, 0, 0, 0, 0, 0, 0, 0, 0, 0, 0, 0, 0, 0, 0, 0, 0, 0, 0, 0, 0, 0, 0, 0, 0, 0, 0, 0, 0, 0, 0, 0, 0, 0, 0, 0, 0, 0, 0, 0, 0, 0, 0, 0, 0, 0, 0, 0, 0, 0, 0, 0, 0, 0, 0, 0, 0, 0, 0, 0, 0, 0, 0, 0] : List Int)))) (Int.toNat (((List.length (Prod.fst r2)) : Nat) : Int)) (ibits BinOp.xor .u8 (List.getD ([] ++ ((List.take 136 (Prod.fst r2)) ++ (List.drop (0 + (Min.min (List.length (Prod.fst r2)) 136)) ([0, 0, 0, 0, 0, 0, 0, 0, 0, 0, 0, 0, 0, 0, 0, 0, 0, 0, 0, 0, 0, 0, 0, 0, 0, 0, 0, 0, 0, 0, 0, 0, 0, 0, 0, 0, 0, 0, 0, 0, 0, 0, 0, 0, 0, 0, 0, 0, 0, 0, 0, 0, 0, 0, 0, 0, 0, 0, 0, 0, 0, 0, 0, 0, 0, 0, 0, 0, 0, 0, 0, 0, 0, 0, 0, 0, 0, 0, 0, 0, 0, 0, 0, 0, 0, 0, 0, 0, 0, 0, 0, 0, 0, 0, 0, 0, 0, 0, 0, 0, 0, 0, 0, 0, 0, 0, 0, 0, 0, 0, 0, 0, 0, 0, 0, 0, 0, 0, 0, 0, 0, 0, 0, 0, 0, 0, 0, 0, 0, 0, 0, 0, 0, 0, 0, 0] : List Int)))) (Int.toNat (((List.length (Prod.fst r2)) : Nat) : Int)) 0) 1)) 135 (ibits BinOp.xor .u8 (List.getD (List.set ([] ++ ((List.take 136 (Prod.fst r2)) ++ (List.drop (0 + (Min.min (List.length (Prod.fst r2)) 136)) ([0, 0, 0, 0, 0, 0, 0, 0, 0, 0, 0, 0, 0, 0, 0, 0, 0, 0, 0, 0, 0, 0, 0, 0, 0, 0, 0, 0, 0, 0, 0, 0, 0, 0, 0, 0, 0, 0, 0, 0, 0, 0, 0, 0, 0, 0, 0, 0, 0, 0, 0, 0, 0, 0, 0, 0, 0, 0, 0, 0, 0, 0, 0, 0, 0, 0, 0, 0, 0, 0, 0, 0, 0, 0, 0, 0, 0, 0, 0, 0, 0, 0, 0, 0, 0, 0, 0, 0, 0, 0, 0, 0, 0, 0, 0, 0, 0, 0, 0, 0, 0, 0, 0, 0, 0, 0, 0, 0, 0, 0, 0, 0, 0, 0, 0, 0, 0, 0, 0, 0, 0, 0, 0, 0, 0, 0, 0, 0, 0, 0, 0, 0, 0, 0, 0, 0] : List Int)))) (Int.toNat (((List.length (Prod.fst r2)) : Nat) : Int)) (ibits BinOp.xor .u8 (List.getD ([] ++ ((List.take 136 (Prod.fst r2)) ++ (List.drop (0 + (Min.min (List.length (Prod.fst r2)) 136)) ([0, 0, 0, 0, 0, 0, 0, 0, 0, 0, 0, 0, 0, 0, 0, 0, 0, 0, 0, 0, 0, 0, 0, 0, 0, 0, 0, 0, 0, 0, 0, 0, 0, 0, 0, 0, 0, 0, 0, 0, 0, 0, 0, 0, 0, 0, 0, 0, 0, 0, 0, 0, 0, 0, 0, 0, 0, 0, 0, 0, 0, 0, 0, 0, 0, 0, 0, 0, 0, 0, 0, 0, 0, 0, 0, 0, 0, 0, 0, 0, 0, 0, 0, 0, 0, 0, 0, 0, 0, 0, 0, 0, 0, 0, 0, 0, 0, 0, 0, 0, 0, 0, 0, 0, 0, 0, 0, 0, 0, 0, 0, 0, 0, 0, 0, 0, 0, 0, 0, 0, 0, 0, 0, 0, 0, 0, 0, 0, 0, 0, 0, 0, 0, 0, 0, 0] : List Int)))) (Int.toNat (((List.length (Prod.fst r2)) : Nat) : Int)) 0) 1)) 135 0) 128)))) (Prod.fst r2.2))) fun r8 =>
     bindO (keccak_Sum.l12_0.m n n (0, r8, ([0, 0, 0, 0, 0, 0, 0, 0, 0, 0, 0, 0, 0, 0, 0, 0, 0, 0, 0, 0, 0, 0, 0, 0, 0, 0, 0, 0, 0, 0, 0, 0] : List Int), (Prod.snd r2.2))) fun r10 =>
      bindO (word_Read.m n (List.take 32 (List.drop 0 (Prod.fst r10)))) fun r12 =>
       some (mk0 r12)
   else
    none
  else
   none
def keccak_Sum.m (n : Nat) (t : (List Int)) : Option (List Int) := keccak_Sum.g (fun a0 => a0) n t
def keccak_Sum.pat : List AV → Blks → Option (List Int)
 | [(.rints .u8 a0)], [] => some a0
 | _, _ => none
def keccak_Sum.shape (t : (List Int)) : List AV × Blks := ([(.rints .u8 t)], [])
def keccak_Sum.res : (List Int) → AV × Blks
 | u => (Prod.mk (.ints .u64 4 u) [])
def keccak_Sum.resK {R : Type} (u : (List Int)) (K : AV → Blks → Option R) : Option R := (fun p : AV × Blks => K p.1 p.2) (Prod.mk (.ints .u64 4 u) [])
def keccak_Sum.c (n : Nat) : Abs.Callee := .mk' [] [(some (.ints .u8))] keccak_Sum.pat (keccak_Sum.m n) keccak_Sum.resK
end
end
section
noncomputable section
noncomputable def abi_Selector.C (n : Nat) : Ctx := ⟨Tryd.prog, abiG, fun f => match f with
 | 57 => some (keccak_Sum.c n)
 | 56 => some (word_Bytes.c n)
 | _ => none, fun _ => false⟩
def abi_Selector.live : Nat → List Nat × List Nat := fun k => match k with
 | _ => ([], [])
def abi_Selector.jlive : Nat → List Nat × List Nat := fun k => match k with
 | _ => ([], [])
noncomputable def abi_Selector.A (n : Nat) : Ann := ⟨Tryd.f22.ntmps, 0, abi_Selector.live, [], [(some (.ints .u8))], fun k => match k with
 | _ => none, abi_Selector.jlive, lookJ []⟩
def abi_Selector.g {α : Type} (mk0 : (List Int) → α) (n : Nat) (a0 : ByteArray) : Option α :=
 bindO (keccak_Sum.m n (Go.Abs.bytesOf a0)) fun r2 =>
  bindO (word_Bytes.m n r2) fun r4 =>
   if 4 ≤ (((List.length r4) : Nat) : Int) then
    some (mk0 (List.take (Go.Abs.span (List.length r4) 0 (Option.some 4)) r4))
   else
    none
def abi_Selector.m (n : Nat) (t : ByteArray) : Option (List Int) := abi_Selector.g (fun a0 => a0) n t
def abi_Selector.pat : List AV → Blks → Option ByteArray
 | [(.str a0)], [] => some a0
 | _, _ => none
def abi_Selector.shape (t : ByteArray) : List AV × Blks := ([(.str t)], [])
def abi_Selector.res : (List Int) → AV × Blks
 | u => (Prod.mk (.own 0 1) [(some (.ints .u8 u))])
def abi_Selector.resK {R : Type} (u : (List Int)) (K : AV → Blks → Option R) : Option R := (fun p : AV × Blks => K p.1 p.2) (Prod.mk (.own 0 1) [(some (.ints .u8 u))])
def abi_Selector.c (n : Nat) : Abs.Callee := .mk' [] [none] abi_Selector.pat (abi_Selector.m n) abi_Selector.resK
end
end
section
noncomputable section
noncomputable def word_From.C (n : Nat) : Ctx := ⟨Tryd.prog, abiG, fun f => match f with
 | _ => none, fun _ => false⟩
def word_From.live : Nat → List Nat × List Nat := fun k => match k with
 | _ => ([], [])
def word_From.jlive : Nat → List Nat × List Nat := fun k => match k with
 | _ => ([], [])
noncomputable def word_From.A (n : Nat) : Ann := ⟨Tryd.f69.ntmps, 0, word_From.live, [], [none], fun k => match k with
 | _ => none, word_From.jlive, lookJ []⟩
def word_From.g {α : Type} (mk0 : (List Int) → α) (n : Nat) (a0 : Int) : Option α :=
 some (mk0 [a0, 0, 0, 0])
def word_From.m (n : Nat) (t : Int) : Option (List Int) := word_From.g (fun a0 => a0) n t
def word_From.pat : List AV → Blks → Option Int
 | [(.int .u64 a0)], [] => some a0
 | _, _ => none
def word_From.shape (t : Int) : List AV × Blks := ([(.int .u64 t)], [])
def word_From.res : (List Int) → AV × Blks
 | u => (Prod.mk (.ints .u64 4 u) [])
def word_From.resK {R : Type} (u : (List Int)) (K : AV → Blks → Option R) : Option R := (fun p : AV × Blks => K p.1 p.2) (Prod.mk (.ints .u64 4 u) [])
def word_From.c (n : Nat) : Abs.Callee := .mk' [] [none] word_From.pat (word_From.m n) word_From.resK
end
end
section
noncomputable section
noncomputable def zslicesGrowbytebyte.C (n : Nat) : Ctx := ⟨Tryd.prog, abiG, fun f => match f with
 | _ => none, fun _ => false⟩
def zslicesGrowbytebyte.live : Nat → List Nat × List Nat := fun k => match k with
 | _ => ([], [])
def zslicesGrowbytebyte.jlive : Nat → List Nat × List Nat := fun k => match k with
 | _ => ([], [])
noncomputable def zslicesGrowbytebyte.A (n : Nat) : Ann := ⟨Tryd.f117.ntmps, 0, zslicesGrowbytebyte.live, [], [(some (.ints .u8))], fun k => match k with
 | _ => none, zslicesGrowbytebyte.jlive, lookJ []⟩
def zslicesGrowbytebyte.g {α : Type} (mk0 : (List Int) → α) (n : Nat) (sz : Int) : Option α :=
 if (decide (sz < 0)) = true then
  none
 else
  if (decide ((IntKind.wrap .i64 (sz - 0)) > 0)) = true then
   if 0 ≤ (IntKind.wrap .i64 (sz - 0)) then
    if (((List.length (List.replicate (Int.toNat (IntKind.wrap .i64 (sz - 0))) (0 : Int))) * 1) ≤ 70368744177664 ∧ (List.length (List.replicate (Int.toNat (IntKind.wrap .i64 (sz - 0))) (0 : Int))) ≤ 9223372036854775807) then
     some (mk0 [])
    else
     none
   else
    none
  else
   some (mk0 [])
def zslicesGrowbytebyte.m (n : Nat) (t : Int) : Option (List Int) := zslicesGrowbytebyte.g (fun a0 => a0) n t
def zslicesGrowbytebyte.pat : List AV → Blks → Option Int
 | [.snil, (.int .i64 sz)], [] => some sz
 | _, _ => none
def zslicesGrowbytebyte.shape (t : Int) : List AV × Blks := ([.snil, (.int .i64 t)], [])
def zslicesGrowbytebyte.res : (List Int) → AV × Blks
 | u => (Prod.mk (.own 0 1) [(some (.ints .u8 u))])
def zslicesGrowbytebyte.resK {R : Type} (u : (List Int)) (K : AV → Blks → Option R) : Option R := (fun p : AV × Blks => K p.1 p.2) (Prod.mk (.own 0 1) [(some (.ints .u8 u))])
def zslicesGrowbytebyte.c (n : Nat) : Abs.Callee := .mk' [] [none, none] zslicesGrowbytebyte.pat (zslicesGrowbytebyte.m n) zslicesGrowbytebyte.resK
end
end
section
noncomputable section
noncomputable def zslicesConcatbytebyte.C (n : Nat) : Ctx := ⟨Tryd.prog, abiG, fun f => match f with
 | 117 => some (zslicesGrowbytebyte.c n)
 | _ => none, fun _ => false⟩
def zslicesConcatbytebyte.live : Nat → List Nat × List Nat := fun k => match k with
 | 3 => ([11, 10, 9, 3, 0], [3, 0])
 | 11 => ([27, 26, 25, 6], [6])
 | _ => ([], [])
def zslicesConcatbytebyte.jlive : Nat → List Nat × List Nat := fun k => match k with
 | _ => ([], [])
def zslicesConcatbytebyte.l3_0.r {α : Type} (mk0 : Int → (List AV) → α) (n : Nat) (rc : Int → Int → (List AV) → Int → (List AV) → Option α)  (x0 : Int) (x1 : Int) (x2 : (List AV)) (x3 : Int) (x4 : (List AV)) : Option α :=
  if (decide (x0 < x1)) = true then
   if 0 ≤ x0 then
    if x0 < (((List.length x2) : Nat) : Int) then
     bindO (tkRints .u8 (List.getD x2 (Int.toNat x0) AV.any)) fun r10 =>
      if (decide ((IntKind.wrap .i64 (x3 + (((List.length r10) : Nat) : Int))) < 0)) = true then
       none
      else
       rc (IntKind.wrap .i64 (x0 + 1)) x1 x2 (IntKind.wrap .i64 (x3 + (((List.length r10) : Nat) : Int))) x4
    else
     none
   else
    none
  else
   some (mk0 x3 x4)
def zslicesConcatbytebyte.l3_0.g {α : Type} (mk0 : Int → (List AV) → α) (n : Nat) : Nat → Int → Int → (List AV) → Int → (List AV) → Option α
 | 0, _, _, _, _, _ => none
 | m + 1, x0, x1, x2, x3, x4 => zslicesConcatbytebyte.l3_0.r mk0 n (fun y0 y1 y2 y3 y4 => zslicesConcatbytebyte.l3_0.g mk0 n m y0 y1 y2 y3 y4)  x0 x1 x2 x3 x4
def zslicesConcatbytebyte.l3_0.m (n m : Nat) (t : (Int × (Int × ((List AV) × (Int × (List AV)))))) : Option (Int × (List AV)) := zslicesConcatbytebyte.l3_0.g (fun a0 a1 => (a0, a1)) n m t.1 t.2.1 t.2.2.1 t.2.2.2.1 t.2.2.2.2
def zslicesConcatbytebyte.l3_0.pat : St → Option (Int × (Int × ((List AV) × (Int × (List AV)))))
 | (St.mk [(.int .i64 x0), (.int .i64 x1), (.robjs 26 1 x2), (.int .i64 x3), (.robjs 26 1 x4)] []) => some (x0, x1, x2, x3, x4)
 | _ => none
def zslicesConcatbytebyte.l3_0.shape (t : (Int × (Int × ((List AV) × (Int × (List AV)))))) : St := (St.mk [(.int .i64 t.1), (.int .i64 t.2.1), (.robjs 26 1 t.2.2.1), (.int .i64 t.2.2.2.1), (.robjs 26 1 t.2.2.2.2)] [])
def zslicesConcatbytebyte.l3_0.res : (Int × (List AV)) → Ex × St
 | u => (Prod.mk (.exit 0) (St.mk [(.int .i64 u.1), (.robjs 26 1 u.2)] []))
def zslicesConcatbytebyte.l3_0.resK {R : Type} (u : (Int × (List AV))) (K : Ex → St → Option R) : Option R := (fun p : Ex × St => K p.1 p.2) (Prod.mk (.exit 0) (St.mk [(.int .i64 u.1), (.robjs 26 1 u.2)] []))
def zslicesConcatbytebyte.l11_0.r {α : Type} (mk0 : (List Int) → α) (n : Nat) (rc : Int → Int → (List AV) → (List Int) → Option α)  (x0 : Int) (x1 : Int) (x2 : (List AV)) (x3 : (List Int)) : Option α :=
  if (decide (x0 < x1)) = true then
   if 0 ≤ x0 then
    if x0 < (((List.length x2) : Nat) : Int) then
     bindO (tkRints .u8 (List.getD x2 (Int.toNat x0) AV.any)) fun r10 =>
      if ((((List.length x3) + (List.length r10)) * 1) ≤ 70368744177664 ∧ ((List.length x3) + (List.length r10)) ≤ 9223372036854775807) then
       rc (IntKind.wrap .i64 (x0 + 1)) x1 x2 (x3 ++ r10)
      else
       none
    else
     none
   else
    none
  else
   some (mk0 x3)
def zslicesConcatbytebyte.l11_0.g {α : Type} (mk0 : (List Int) → α) (n : Nat) : Nat → Int → Int → (List AV) → (List Int) → Option α
 | 0, _, _, _, _ => none
 | m + 1, x0, x1, x2, x3 => zslicesConcatbytebyte.l11_0.r mk0 n (fun y0 y1 y2 y3 => zslicesConcatbytebyte.l11_0.g mk0 n m y0 y1 y2 y3)  x0 x1 x2 x3
def zslicesConcatbytebyte.l11_0.m (n m : Nat) (t : (Int × (Int × ((List AV) × (List Int))))) : Option (List Int) := zslicesConcatbytebyte.l11_0.g (fun a0 => a0) n m t.1 t.2.1 t.2.2.1 t.2.2.2
def zslicesConcatbytebyte.l11_0.pat : St → Option (Int × (Int × ((List AV) × (List Int))))
 | (St.mk [(.int .i64 x0), (.int .i64 x1), (.robjs 26 1 x2), (.own 0 1)] [(some (.ints .u8 x3))]) => some (x0, x1, x2, x3)
 | _ => none
def zslicesConcatbytebyte.l11_0.shape (t : (Int × (Int × ((List AV) × (List Int))))) : St := (St.mk [(.int .i64 t.1), (.int .i64 t.2.1), (.robjs 26 1 t.2.2.1), (.own 0 1)] [(some (.ints .u8 t.2.2.2))])
def zslicesConcatbytebyte.l11_0.res : (List Int) → Ex × St
 | u => (Prod.mk (.exit 2) (St.mk [(.own 0 1)] [(some (.ints .u8 u))]))
def zslicesConcatbytebyte.l11_0.resK {R : Type} (u : (List Int)) (K : Ex → St → Option R) : Option R := (fun p : Ex × St => K p.1 p.2) (Prod.mk (.exit 2) (St.mk [(.own 0 1)] [(some (.ints .u8 u))]))
noncomputable def zslicesConcatbytebyte.A (n : Nat) : Ann := ⟨Tryd.f99.ntmps, 0, zslicesConcatbytebyte.live, [(0, (.objs 26 1)), (9, (.objs 26 1)), (25, (.objs 26 1)), (6, (.ints .u8))], [(some (.ints .u8))], fun k => match k with
 | 3 => some (.mk' zslicesConcatbytebyte.l3_0.pat (zslicesConcatbytebyte.l3_0.m n n) zslicesConcatbytebyte.l3_0.resK)
 | 11 => some (.mk' zslicesConcatbytebyte.l11_0.pat (zslicesConcatbytebyte.l11_0.m n n) zslicesConcatbytebyte.l11_0.resK)
 | _ => none, zslicesConcatbytebyte.jlive, lookJ []⟩
noncomputable def zslicesConcatbytebyte.b0 : Code := (loopsIn (Tryd.f99.body.getD .skip)).getD 0 .skip
noncomputable def zslicesConcatbytebyte.b1 : Code := (loopsIn (Tryd.f99.body.getD .skip)).getD 1 .skip
def zslicesConcatbytebyte.g {α : Type} (mk0 : (List Int) → α) (n : Nat) (a0 : (List AV)) : Option α :=
 bindO (zslicesConcatbytebyte.l3_0.m n n (0, (((List.length a0) : Nat) : Int), a0, 0, a0)) fun r2 =>
  bindO (zslicesGrowbytebyte.m n (Prod.fst r2)) fun r4 =>
   bindO (zslicesConcatbytebyte.l11_0.m n n (0, (((List.length (Prod.snd r2)) : Nat) : Int), (Prod.snd r2), r4)) fun r6 =>
    some (mk0 r6)
def zslicesConcatbytebyte.m (n : Nat) (t : (List AV)) : Option (List Int) := zslicesConcatbytebyte.g (fun a0 => a0) n t
def zslicesConcatbytebyte.pat : List AV → Blks → Option (List AV)
 | [(.robjs 26 1 a0)], [] => some a0
 | _, _ => none
def zslicesConcatbytebyte.shape (t : (List AV)) : List AV × Blks := ([(.robjs 26 1 t)], [])
def zslicesConcatbytebyte.res : (List Int) → AV × Blks
 | u => (Prod.mk (.own 0 1) [(some (.ints .u8 u))])
def zslicesConcatbytebyte.resK {R : Type} (u : (List Int)) (K : AV → Blks → Option R) : Option R := (fun p : AV × Blks => K p.1 p.2) (Prod.mk (.own 0 1) [(some (.ints .u8 u))])
def zslicesConcatbytebyte.c (n : Nat) : Abs.Callee := .mk' [] [(some (.objs 26 1))] zslicesConcatbytebyte.pat (zslicesConcatbytebyte.m n) zslicesConcatbytebyte.resK
end
end
section
noncomputable section
noncomputable def userop_piece.C (n : Nat) : Ctx := ⟨Tryd.prog, abiG, fun f => match f with
 | 99 => some (zslicesConcatbytebyte.c n)
 | _ => none, fun _ => false⟩
def userop_piece.live : Nat → List Nat × List Nat := fun k => match k with
 | _ => ([], [])
def userop_piece.jlive : Nat → List Nat × List Nat := fun k => match k with
 | _ => ([], [])
noncomputable def userop_piece.A (n : Nat) : Ann := ⟨Tryd.f70.ntmps, 0, userop_piece.live, [], [none], fun k => match k with
 | _ => none, userop_piece.jlive, lookJ []⟩
def userop_piece.g {α : Type} (mk0 : Bool → (List Int) → (List Int) → α) (n : Nat) (a0 : (List AV)) : Option α :=
 bindO (zslicesConcatbytebyte.m n a0) fun r2 =>
  some (mk0 true [0, 0, 0, 0] r2)
def userop_piece.m (n : Nat) (t : (List AV)) : Option (Bool × ((List Int) × (List Int))) := userop_piece.g (fun a0 a1 a2 => (a0, a1, a2)) n t
def userop_piece.pat : List AV → Blks → Option (List AV)
 | [(.robjs 26 1 a0)], [] => some a0
 | _, _ => none
def userop_piece.shape (t : (List AV)) : List AV × Blks := ([(.robjs 26 1 t)], [])
def userop_piece.res : (Bool × ((List Int) × (List Int))) → AV × Blks
 | u => (Prod.mk (.agg [(.bool u.1), (.ints .u64 4 u.2.1), (.own 0 1)]) [(some (.ints .u8 u.2.2))])
def userop_piece.resK {R : Type} (u : (Bool × ((List Int) × (List Int)))) (K : AV → Blks → Option R) : Option R := (fun p : AV × Blks => K p.1 p.2) (Prod.mk (.agg [(.bool u.1), (.ints .u64 4 u.2.1), (.own 0 1)]) [(some (.ints .u8 u.2.2))])
def userop_piece.c (n : Nat) : Abs.Callee := .mk' [] [(some (.objs 26 1))] userop_piece.pat (userop_piece.m n) userop_piece.resK
end
end
section
noncomputable section
noncomputable def userop_half.C (n : Nat) : Ctx := ⟨Tryd.prog, abiG, fun f => match f with
 | 69 => some (word_From.c n)
 | 56 => some (word_Bytes.c n)
 | _ => none, fun _ => false⟩
def userop_half.live : Nat → List Nat × List Nat := fun k => match k with
 | _ => ([], [])
def userop_half.jlive : Nat → List Nat × List Nat := fun k => match k with
 | _ => ([], [])
noncomputable def userop_half.A (n : Nat) : Ann := ⟨Tryd.f73.ntmps, 0, userop_half.live, [], [(some (.ints .u8))], fun k => match k with
 | _ => none, userop_half.jlive, lookJ []⟩
def userop_half.g {α : Type} (mk0 : Nat → Nat → (List Int) → α) (n : Nat) (a0 : Int) : Option α :=
 bindO (word_From.m n a0) fun r2 =>
  bindO (word_Bytes.m n r2) fun r4 =>
   if 16 ≤ (((List.length r4) : Nat) : Int) then
    some (mk0 16 (Go.Abs.span (List.length r4) 16 (Option.none)) r4)
   else
    none
def userop_half.m (n : Nat) (t : Int) : Option (Nat × (Nat × (List Int))) := userop_half.g (fun a0 a1 a2 => (a0, a1, a2)) n t
def userop_half.pat : List AV → Blks → Option Int
 | [(.int .u64 a0)], [] => some a0
 | _, _ => none
def userop_half.shape (t : Int) : List AV × Blks := ([(.int .u64 t)], [])
def userop_half.res : (Nat × (Nat × (List Int))) → AV × Blks
 | u => (Prod.mk (.slice 0 [] u.1 u.2.1 1) [(some (.ints .u8 u.2.2))])
def userop_half.resK {R : Type} (u : (Nat × (Nat × (List Int)))) (K : AV → Blks → Option R) : Option R := (fun p : AV × Blks => K p.1 p.2) (Prod.mk (.slice 0 [] u.1 u.2.1 1) [(some (.ints .u8 u.2.2))])
def userop_half.c (n : Nat) : Abs.Callee := .mk' [] [none] userop_half.pat (userop_half.m n) userop_half.resK
end
end
section
noncomputable section
noncomputable def userop_halves.C (n : Nat) : Ctx := ⟨Tryd.prog, abiG, fun f => match f with
 | 69 => some (word_From.c n)
 | 100 => some (word_Shl.c n)
 | 85 => some (word_Add.c n)
 | _ => none, fun _ => false⟩
def userop_halves.live : Nat → List Nat × List Nat := fun k => match k with
 | _ => ([], [])
def userop_halves.jlive : Nat → List Nat × List Nat := fun k => match k with
 | _ => ([], [])
noncomputable def userop_halves.A (n : Nat) : Ann := ⟨Tryd.f74.ntmps, 0, userop_halves.live, [], [none], fun k => match k with
 | _ => none, userop_halves.jlive, lookJ []⟩
def userop_halves.g {α : Type} (mk0 : (List Int) → α) (n : Nat) (a0 : (List Int)) (a1 : (List Int)) : Option α :=
 bindO (word_From.m n 128) fun r2 =>
  bindO (word_Shl.m n (Prod.mk r2 a0)) fun r4 =>
   bindO (word_Add.m n (Prod.mk r4 a1)) fun r6 =>
    some (mk0 (Prod.fst r6))
def userop_halves.m (n : Nat) (t : ((List Int) × (List Int))) : Option (List Int) := userop_halves.g (fun a0 => a0) n t.1 t.2
def userop_halves.pat : List AV → Blks → Option ((List Int) × (List Int))
 | [(.ints .u64 4 a0), (.ints .u64 4 a1)], [] => some (a0, a1)
 | _, _ => none
def userop_halves.shape (t : ((List Int) × (List Int))) : List AV × Blks := ([(.ints .u64 4 t.1), (.ints .u64 4 t.2)], [])
def userop_halves.res : (List Int) → AV × Blks
 | u => (Prod.mk (.ints .u64 4 u) [])
def userop_halves.resK {R : Type} (u : (List Int)) (K : AV → Blks → Option R) : Option R := (fun p : AV × Blks => K p.1 p.2) (Prod.mk (.ints .u64 4 u) [])
def userop_halves.c (n : Nat) : Abs.Callee := .mk' [] [none, none] userop_halves.pat (userop_halves.m n) userop_halves.resK
end
end
section
noncomputable section
noncomputable def userop_part.C (n : Nat) : Ctx := ⟨Tryd.prog, abiG, fun f => match f with
 | _ => none, fun _ => false⟩
def userop_part.live : Nat → List Nat × List Nat := fun k => match k with
 | _ => ([], [])
def userop_part.jlive : Nat → List Nat × List Nat := fun k => match k with
 | _ => ([], [])
noncomputable def userop_part.A (n : Nat) : Ann := ⟨Tryd.f68.ntmps, 0, userop_part.live, [], [none], fun k => match k with
 | _ => none, userop_part.jlive, lookJ []⟩
def userop_part.g {α : Type} (mk0 : Bool → (List Int) → α) (n : Nat) (a0 : (List Int)) : Option α :=
 some (mk0 false a0)
def userop_part.m (n : Nat) (t : (List Int)) : Option (Bool × (List Int)) := userop_part.g (fun a0 a1 => (a0, a1)) n t
def userop_part.pat : List AV → Blks → Option (List Int)
 | [(.ints .u64 4 a0)], [] => some a0
 | _, _ => none
def userop_part.shape (t : (List Int)) : List AV × Blks := ([(.ints .u64 4 t)], [])
def userop_part.res : (Bool × (List Int)) → AV × Blks
 | u => (Prod.mk (.agg [(.bool u.1), (.ints .u64 4 u.2), .snil]) [])
def userop_part.resK {R : Type} (u : (Bool × (List Int))) (K : AV → Blks → Option R) : Option R := (fun p : AV × Blks => K p.1 p.2) (Prod.mk (.agg [(.bool u.1), (.ints .u64 4 u.2), .snil]) [])
def userop_part.c (n : Nat) : Abs.Callee := .mk' [] [none] userop_part.pat (userop_part.m n) userop_part.resK
end
end
section
noncomputable section
noncomputable def userop_Pack.C (n : Nat) : Ctx := ⟨Tryd.prog, abiG, fun f => match f with
 | 70 => some (userop_piece.c n)
 | 73 => some (userop_half.c n)
 | 69 => some (word_From.c n)
 | 74 => some (userop_halves.c n)
 | 75 => some (word_Wide.c n)
 | 68 => some (userop_part.c n)
 | _ => none, fun t => t == 41⟩
def userop_Pack.live : Nat → List Nat × List Nat := fun k => match k with
 | _ => ([], [])
def userop_Pack.jlive : Nat → List Nat × List Nat := fun k => match k with
 | _ => ([], [])
noncomputable def userop_Pack.A (n : Nat) : Ann := ⟨Tryd.f38.ntmps, 0, userop_Pack.live, [], [(some (.objs 69 6))], fun k => match k with
 | _ => none, userop_Pack.jlive, lookJ []⟩
def userop_Pack.g {α : Type} (mk0 : (List AV) → α) (n : Nat) (a0_0 : (List Int)) (a0_1 : (List Int)) (a0_2 : Bool) (a0_3 : (List Int)) (a0_4 : (List Int)) (a0_5 : (List Int)) (a0_6 : Int) (a0_7 : Int) (a0_8 : Int) (a0_9 : (List Int)) (a0_10 : (List Int)) (a0_11 : Bool) (a0_12 : (List Int)) (a0_13 : Int) (a0_14 : Int) (a0_15 : (List Int)) (a0_16 : (List Int)) : Option α :=
 bindO (userop_piece.m n []) fun r2 =>
  bindO (userop_piece.m n []) fun r4 =>
   if a0_2 = true then
    bindO (userop_piece.m n [(AV.rints .u8 (Go.Abs.cut a0_3 0 (Option.none))), (AV.rints .u8 a0_4)]) fun r8 =>
     if a0_11 = true then
      bindO (userop_half.m n a0_13) fun r12 =>
       bindO (userop_half.m n a0_14) fun r14 =>
        bindO (userop_piece.m n [(AV.rints .u8 (Go.Abs.cut a0_12 0 (Option.none))), (AV.rints .u8 (List.take (Prod.fst r12.2) (List.drop (Prod.fst r12) (Prod.snd r12.2)))), (AV.rints .u8 (List.take (Prod.fst r14.2) (List.drop (Prod.fst r14) (Prod.snd r14.2)))), (AV.rints .u8 a0_15)]) fun r16 =>
         bindO (word_From.m n a0_7) fun r18 =>
          bindO (word_From.m n a0_6) fun r20 =>
           bindO (userop_halves.m n (Prod.mk r18 r20)) fun r22 =>
            bindO (word_Wide.m n a0_0) fun r24 =>
             bindO (userop_part.m n r24) fun r26 =>
              bindO (userop_part.m n a0_1) fun r28 =>
               bindO (userop_piece.m n [(AV.rints .u8 a0_5)]) fun r30 =>
                bindO (userop_part.m n r22) fun r32 =>
                 bindO (word_From.m n a0_8) fun r34 =>
                  bindO (userop_part.m n r34) fun r36 =>
                   bindO (userop_halves.m n (Prod.mk a0_10 a0_9)) fun r38 =>
                    bindO (userop_part.m n r38) fun r40 =>
                     bindO (userop_piece.m n [(AV.rints .u8 a0_16)]) fun r42 =>
                      some (mk0 [(AV.agg [(AV.bool (Prod.fst r26)), (AV.ints .u64 4 (Prod.snd r26)), AV.snil]), (AV.agg [(AV.bool (Prod.fst r28)), (AV.ints .u64 4 (Prod.snd r28)), AV.snil]), (AV.agg [(AV.bool (Prod.fst r8)), (AV.ints .u64 4 (Prod.fst r8.2)), (AV.rints .u8 (Prod.snd r8.2))]), (AV.agg [(AV.bool (Prod.fst r30)), (AV.ints .u64 4 (Prod.fst r30.2)), (AV.rints .u8 (Prod.snd r30.2))]), (AV.agg [(AV.bool (Prod.fst r32)), (AV.ints .u64 4 (Prod.snd r32)), AV.snil]), (AV.agg [(AV.bool (Prod.fst r36)), (AV.ints .u64 4 (Prod.snd r36)), AV.snil]), (AV.agg [(AV.bool (Prod.fst r40)), (AV.ints .u64 4 (Prod.snd r40)), AV.snil]), (AV.agg [(AV.bool (Prod.fst r16)), (AV.ints .u64 4 (Prod.fst r16.2)), (AV.rints .u8 (Prod.snd r16.2))]), (AV.agg [(AV.bool (Prod.fst r42)), (AV.ints .u64 4 (Prod.fst r42.2)), (AV.rints .u8 (Prod.snd r42.2))])])
     else
      bindO (word_From.m n a0_7) fun r12 =>
       bindO (word_From.m n a0_6) fun r14 =>
        bindO (userop_halves.m n (Prod.mk r12 r14)) fun r16 =>
         bindO (word_Wide.m n a0_0) fun r18 =>
          bindO (userop_part.m n r18) fun r20 =>
           bindO (userop_part.m n a0_1) fun r22 =>
            bindO (userop_piece.m n [(AV.rints .u8 a0_5)]) fun r24 =>
             bindO (userop_part.m n r16) fun r26 =>
              bindO (word_From.m n a0_8) fun r28 =>
               bindO (userop_part.m n r28) fun r30 =>
                bindO (userop_halves.m n (Prod.mk a0_10 a0_9)) fun r32 =>
                 bindO (userop_part.m n r32) fun r34 =>
                  bindO (userop_piece.m n [(AV.rints .u8 a0_16)]) fun r36 =>
                   some (mk0 [(AV.agg [(AV.bool (Prod.fst r20)), (AV.ints .u64 4 (Prod.snd r20)), AV.snil]), (AV.agg [(AV.bool (Prod.fst r22)), (AV.ints .u64 4 (Prod.snd r22)), AV.snil]), (AV.agg [(AV.bool (Prod.fst r8)), (AV.ints .u64 4 (Prod.fst r8.2)), (AV.rints .u8 (Prod.snd r8.2))]), (AV.agg [(AV.bool (Prod.fst r24)), (AV.ints .u64 4 (Prod.fst r24.2)), (AV.rints .u8 (Prod.snd r24.2))]), (AV.agg [(AV.bool (Prod.fst r26)), (AV.ints .u64 4 (Prod.snd r26)), AV.snil]), (AV.agg [(AV.bool (Prod.fst r30)), (AV.ints .u64 4 (Prod.snd r30)), AV.snil]), (AV.agg [(AV.bool (Prod.fst r34)), (AV.ints .u64 4 (Prod.snd r34)), AV.snil]), (AV.agg [(AV.bool (Prod.fst r4)), (AV.ints .u64 4 (Prod.fst r4.2)), (AV.rints .u8 (Prod.snd r4.2))]), (AV.agg [(AV.bool (Prod.fst r36)), (AV.ints .u64 4 (Prod.fst r36.2)), (AV.rints .u8 (Prod.snd r36.2))])])
   else
    if a0_11 = true then
     bindO (userop_half.m n a0_13) fun r10 =>
      bindO (userop_half.m n a0_14) fun r12 =>
       bindO (userop_piece.m n [(AV.rints .u8 (Go.Abs.cut a0_12 0 (Option.none))), (AV.rints .u8 (List.take (Prod.fst r10.2) (List.drop (Prod.fst r10) (Prod.snd r10.2)))), (AV.rints .u8 (List.take (Prod.fst r12.2) (List.drop (Prod.fst r12) (Prod.snd r12.2)))), (AV.rints .u8 a0_15)]) fun r14 =>
        bindO (word_From.m n a0_7) fun r16 =>
         bindO (word_From.m n a0_6) fun r18 =>
          bindO (userop_halves.m n (Prod.mk r16 r18)) fun r20 =>
           bindO (word_Wide.m n a0_0) fun r22 =>
            bindO (userop_part.m n r22) fun r24 =>
             bindO (userop_part.m n a0_1) fun r26 =>
              bindO (userop_piece.m n [(AV.rints .u8 a0_5)]) fun r28 =>
               bindO (userop_part.m n r20) fun r30 =>
                bindO (word_From.m n a0_8) fun r32 =>
                 bindO (userop_part.m n r32) fun r34 =>
                  bindO (userop_halves.m n (Prod.mk a0_10 a0_9)) fun r36 =>
                   bindO (userop_part.m n r36) fun r38 =>
                    bindO (userop_piece.m n [(AV.rints .u8 a0_16)]) fun r40 =>
                     some (mk0 [(AV.agg [(AV.bool (Prod.fst r24)), (AV.ints .u64 4 (Prod.snd r24)), AV.snil]), (AV.agg [(AV.bool (Prod.fst r26)), (AV.ints .u64 4 (Prod.snd r26)), AV.snil]), (AV.agg [(AV.bool (Prod.fst r2)), (AV.ints .u64 4 (Prod.fst r2.2)), (AV.rints .u8 (Prod.snd r2.2))]), (AV.agg [(AV.bool (Prod.fst r28)), (AV.ints .u64 4 (Prod.fst r28.2)), (AV.rints .u8 (Prod.snd r28.2))]), (AV.agg [(AV.bool (Prod.fst r30)), (AV.ints .u64 4 (Prod.snd r30)), AV.snil]), (AV.agg [(AV.bool (Prod.fst r34)), (AV.ints .u64 4 (Prod.snd r34)), AV.snil]), (AV.agg [(AV.bool (Prod.fst r38)), (AV.ints .u64 4 (Prod.snd r38)), AV.snil]), (AV.agg [(AV.bool (Prod.fst r14)), (AV.ints .u64 4 (Prod.fst r14.2)), (AV.rints .u8 (Prod.snd r14.2))]), (AV.agg [(AV.bool (Prod.fst r40)), (AV.ints .u64 4 (Prod.fst r40.2)), (AV.rints .u8 (Prod.snd r40.2))])])
    else
     bindO (word_From.m n a0_7) fun r10 =>
      bindO (word_From.m n a0_6) fun r12 =>
       bindO (userop_halves.m n (Prod.mk r10 r12)) fun r14 =>
        bindO (word_Wide.m n a0_0) fun r16 =>
         bindO (userop_part.m n r16) fun r18 =>
          bindO (userop_part.m n a0_1) fun r20 =>
           bindO (userop_piece.m n [(AV.rints .u8 a0_5)]) fun r22 =>
            bindO (userop_part.m n r14) fun r24 =>
             bindO (word_From.m n a0_8) fun r26 =>
              bindO (userop_part.m n r26) fun r28 =>
               bindO (userop_halves.m n (Prod.mk a0_10 a0_9)) fun r30 =>
                bindO (userop_part.m n r30) fun r32 =>
                 bindO (userop_piece.m n [(AV.rints .u8 a0_16)]) fun r34 =>
                  some (mk0 [(AV.agg [(AV.bool (Prod.fst r18)), (AV.ints .u64 4 (Prod.snd r18)), AV.snil]), (AV.agg [(AV.bool (Prod.fst r20)), (AV.ints .u64 4 (Prod.snd r20)), AV.snil]), (AV.agg [(AV.bool (Prod.fst r2)), (AV.ints .u64 4 (Prod.fst r2.2)), (AV.rints .u8 (Prod.snd r2.2))]), (AV.agg [(AV.bool (Prod.fst r22)), (AV.ints .u64 4 (Prod.fst r22.2)), (AV.rints .u8 (Prod.snd r22.2))]), (AV.agg [(AV.bool (Prod.fst r24)), (AV.ints .u64 4 (Prod.snd r24)), AV.snil]), (AV.agg [(AV.bool (Prod.fst r28)), (AV.ints .u64 4 (Prod.snd r28)), AV.snil]), (AV.agg [(AV.bool (Prod.fst r32)), (AV.ints .u64 4 (Prod.snd r32)), AV.snil]), (AV.agg [(AV.bool (Prod.fst r4)), (AV.ints .u64 4 (Prod.fst r4.2)), (AV.rints .u8 (Prod.snd r4.2))]), (AV.agg [(AV.bool (Prod.fst r34)), (AV.ints .u64 4 (Prod.fst r34.2)), (AV.rints .u8 (Prod.snd r34.2))])])
def userop_Pack.m (n : Nat) (t : ((List Int) × ((List Int) × (Bool × ((List Int) × ((List Int) × ((List Int) × (Int × (Int × (Int × ((List Int) × ((List Int) × (Bool × ((List Int) × (Int × (Int × ((List Int) × (List Int)))))))))))))))))) : Option (List AV) := userop_Pack.g (fun a0 => a0) n t.1 t.2.1 t.2.2.1 t.2.2.2.1 t.2.2.2.2.1 t.2.2.2.2.2.1 t.2.2.2.2.2.2.1 t.2.2.2.2.2.2.2.1 t.2.2.2.2.2.2.2.2.1 t.2.2.2.2.2.2.2.2.2.1 t.2.2.2.2.2.2.2.2.2.2.1 t.2.2.2.2.2.2.2.2.2.2.2.1 t.2.2.2.2.2.2.2.2.2.2.2.2.1 t.2.2.2.2.2.2.2.2.2.2.2.2.2.1 t.2.2.2.2.2.2.2.2.2.2.2.2.2.2.1 t.2.2.2.2.2.2.2.2.2.2.2.2.2.2.2.1 t.2.2.2.2.2.2.2.2.2.2.2.2.2.2.2.2
def userop_Pack.pat : List AV → Blks → Option ((List Int) × ((List Int) × (Bool × ((List Int) × ((List Int) × ((List Int) × (Int × (Int × (Int × ((List Int) × ((List Int) × (Bool × ((List Int) × (Int × (Int × ((List Int) × (List Int)))))))))))))))))
 | [(.agg [(.ints .u8 20 a0_0), (.ints .u64 4 a0_1), (.bool a0_2), (.ints .u8 20 a0_3), (.rints .u8 a0_4), (.rints .u8 a0_5), (.int .u64 a0_6), (.int .u64 a0_7), (.int .u64 a0_8), (.ints .u64 4 a0_9), (.ints .u64 4 a0_10), (.bool a0_11), (.ints .u8 20 a0_12), (.int .u64 a0_13), (.int .u64 a0_14), (.rints .u8 a0_15), (.rints .u8 a0_16)])], [] => some (a0_0, a0_1, a0_2, a0_3, a0_4, a0_5, a0_6, a0_7, a0_8, a0_9, a0_10, a0_11, a0_12, a0_13, a0_14, a0_15, a0_16)
 | _, _ => none
def userop_Pack.shape (t : ((List Int) × ((List Int) × (Bool × ((List Int) × ((List Int) × ((List Int) × (Int × (Int × (Int × ((List Int) × ((List Int) × (Bool × ((List Int) × (Int × (Int × ((List Int) × (List Int)))))))))))))))))) : List AV × Blks := ([(.agg [(.ints .u8 20 t.1), (.ints .u64 4 t.2.1), (.bool t.2.2.1), (.ints .u8 20 t.2.2.2.1), (.rints .u8 t.2.2.2.2.1), (.rints .u8 t.2.2.2.2.2.1), (.int .u64 t.2.2.2.2.2.2.1), (.int .u64 t.2.2.2.2.2.2.2.1), (.int .u64 t.2.2.2.2.2.2.2.2.1), (.ints .u64 4 t.2.2.2.2.2.2.2.2.2.1), (.ints .u64 4 t.2.2.2.2.2.2.2.2.2.2.1), (.bool t.2.2.2.2.2.2.2.2.2.2.2.1), (.ints .u8 20 t.2.2.2.2.2.2.2.2.2.2.2.2.1), (.int .u64 t.2.2.2.2.2.2.2.2.2.2.2.2.2.1), (.int .u64 t.2.2.2.2.2.2.2.2.2.2.2.2.2.2.1), (.rints .u8 t.2.2.2.2.2.2.2.2.2.2.2.2.2.2.2.1), (.rints .u8 t.2.2.2.2.2.2.2.2.2.2.2.2.2.2.2.2)])], [])
def userop_Pack.res : (List AV) → AV × Blks
 | u => (Prod.mk (.robjs 69 6 u) [])
def userop_Pack.resK {R : Type} (u : (List AV)) (K : AV → Blks → Option R) : Option R := (fun p : AV × Blks => K p.1 p.2) (Prod.mk (.robjs 69 6 u) [])
def userop_Pack.c (n : Nat) : Abs.Callee := .mk' [] [(some (.agg [none, none, none, none, (some (.ints .u8)), (some (.ints .u8)), none, none, none, none, none, none, none, none, none, (some (.ints .u8)), (some (.ints .u8))]))] userop_Pack.pat (userop_Pack.m n) userop_Pack.resK
end
end
section
noncomputable section
noncomputable def abi_number.C (n : Nat) : Ctx := ⟨Tryd.prog, abiG, fun f => match f with
 | 69 => some (word_From.c n)
 | 56 => some (word_Bytes.c n)
 | _ => none, fun _ => false⟩
def abi_number.live : Nat → List Nat × List Nat := fun k => match k with
 | _ => ([], [])
def abi_number.jlive : Nat → List Nat × List Nat := fun k => match k with
 | _ => ([], [])
noncomputable def abi_number.A (n : Nat) : Ann := ⟨Tryd.f61.ntmps, 0, abi_number.live, [], [(some (.ints .u8))], fun k => match k with
 | _ => none, abi_number.jlive, lookJ []⟩
def abi_number.g {α : Type} (mk0 : (List Int) → α) (n : Nat) (a0 : Int) : Option α :=
 bindO (word_From.m n (IntKind.wrap .u64 a0)) fun r2 =>
  bindO (word_Bytes.m n r2) fun r4 =>
   some (mk0 r4)
def abi_number.m (n : Nat) (t : Int) : Option (List Int) := abi_number.g (fun a0 => a0) n t
def abi_number.pat : List AV → Blks → Option Int
 | [(.int .i64 a0)], [] => some a0
 | _, _ => none
def abi_number.shape (t : Int) : List AV × Blks := ([(.int .i64 t)], [])
def abi_number.res : (List Int) → AV × Blks
 | u => (Prod.mk (.own 0 1) [(some (.ints .u8 u))])
def abi_number.resK {R : Type} (u : (List Int)) (K : AV → Blks → Option R) : Option R := (fun p : AV × Blks => K p.1 p.2) (Prod.mk (.own 0 1) [(some (.ints .u8 u))])
def abi_number.c (n : Nat) : Abs.Callee := .mk' [] [none] abi_number.pat (abi_number.m n) abi_number.resK
end
end
