/- What the program's functions compute, as plain functions, each with its proof: the function does just that. Condition: the plain function has an answer. -/
import Derived.Test.YtehhocoldpdijaaDoorAbsF6
import Derived.Test.YtehhocoldpdijaaDoorProg
import Derived.Test.YtehhocoldpdijaaDoorFnUseropPrices1
set_option linter.unusedVariables false
set_option linter.unusedSimpArgs false
set_option maxRecDepth 100000
open Go Go.Abs Go.Proofs
section
noncomputable section
noncomputable def word_Shl.C (n : Nat) : Ctx := ⟨Tryd.prog, abiG, fun f => match f with
 | 113 => some (word_far.c n)
 | _ => none, fun _ => false⟩
def word_Shl.live : Nat → List Nat × List Nat := fun k => match k with
 | 4 => ([11, 5, 3, 6, 4], [6, 4])
 | _ => ([], [])
def word_Shl.jlive : Nat → List Nat × List Nat := fun k => match k with
 | _ => ([], [])
def word_Shl.l4_0.r {α : Type} (mk0 : (List Int) → (List Int) → α) (n : Nat) (rc : Int → Int → (List Int) → (List Int) → (List Int) → Option α)  (x0 : Int) (x1 : Int) (x2 : (List Int)) (x3 : (List Int)) (x4 : (List Int)) : Option α :=
  if (decide (x0 < 4)) = true then
   if (decide ((IntKind.wrap .i64 (x0 - (IntKind.wrap .i64 (IntKind.wrap .u64 (Int.tdiv x1 64))))) ≥ 0)) = true then
    if 0 ≤ (IntKind.wrap .i64 (x0 - (IntKind.wrap .i64 (IntKind.wrap .u64 (Int.tdiv x1 64))))) then
     if (IntKind.wrap .i64 (x0 - (IntKind.wrap .i64 (IntKind.wrap .u64 (Int.tdiv x1 64))))) < 4 then
      if 0 ≤ (Int.tmod x1 64) then
       if 0 ≤ x0 then
        if x0 < 4 then
         if (decide ((IntKind.wrap .i64 (x0 - (IntKind.wrap .i64 (IntKind.wrap .u64 (Int.tdiv x1 64))))) > 0)) = true then
          if ((Int.tmod x1 64) != 0) = true then
           if 0 ≤ x0 then
            if x0 < 4 then
             if 0 ≤ (IntKind.wrap .i64 ((IntKind.wrap .i64 (x0 - (IntKind.wrap .i64 (IntKind.wrap .u64 (Int.tdiv x1 64))))) - 1)) then
              if (IntKind.wrap .i64 ((IntKind.wrap .i64 (x0 - (IntKind.wrap .i64 (IntKind.wrap .u64 (Int.tdiv x1 64))))) - 1)) < 4 then
               if 0 ≤ (IntKind.wrap .u64 (64 - (Int.tmod x1 64))) then
                if 0 ≤ x0 then
                 if x0 < 4 then
                  rc (IntKind.wrap .i64 (x0 + 1)) x1 x2 (List.set (List.set x3 (Int.toNat x0) (ishl .u64 (List.getD x2 (Int.toNat (IntKind.wrap .i64 (x0 - (IntKind.wrap .i64 (IntKind.wrap .u64 (Int.tdiv x1 64)))))) 0) (Int.tmod x1 64))) (Int.toNat x0) (ibits BinOp.or .u64 (List.getD (List.set x3 (Int.toNat x0) (ishl .u64 (List.getD x2 (Int.toNat (IntKind.wrap .i64 (x0 - (IntKind.wrap .i64 (IntKind.wrap .u64 (Int.tdiv x1 64)))))) 0) (Int.tmod x1 64))) (Int.toNat x0) 0) (ishr .u64 (List.getD x2 (Int.toNat (IntKind.wrap .i64 ((IntKind.wrap .i64 (x0 - (IntKind.wrap .i64 (IntKind.wrap .u64 (Int.tdiv x1 64))))) - 1))) 0) (IntKind.wrap .u64 (64 - (Int.tmod x1 64)))))) x4
                 else
                  none
                else
                 none
               else
                none
              else
               none
             else
              none
            else
             none
           else
            none
          else
           rc (IntKind.wrap .i64 (x0 + 1)) x1 x2 (List.set x3 (Int.toNat x0) (ishl .u64 (List.getD x2 (Int.toNat (IntKind.wrap .i64 (x0 - (IntKind.wrap .i64 (IntKind.wrap .u64 (Int.tdiv x1 64)))))) 0) (Int.tmod x1 64))) x4
         else
          rc (IntKind.wrap .i64 (x0 + 1)) x1 x2 (List.set x3 (Int.toNat x0) (ishl .u64 (List.getD x2 (Int.toNat (IntKind.wrap .i64 (x0 - (IntKind.wrap .i64 (IntKind.wrap .u64 (Int.tdiv x1 64)))))) 0) (Int.tmod x1 64))) x4
        else
         none
       else
        none
      else
       none
     else
      none
    else
     none
   else
    if (decide ((IntKind.wrap .i64 (x0 - (IntKind.wrap .i64 (IntKind.wrap .u64 (Int.tdiv x1 64))))) > 0)) = true then
     if ((Int.tmod x1 64) != 0) = true then
      if 0 ≤ x0 then
       if x0 < 4 then
        if 0 ≤ (IntKind.wrap .i64 ((IntKind.wrap .i64 (x0 - (IntKind.wrap .i64 (IntKind.wrap .u64 (Int.tdiv x1 64))))) - 1)) then
         if (IntKind.wrap .i64 ((IntKind.wrap .i64 (x0 - (IntKind.wrap .i64 (IntKind.wrap .u64 (Int.tdiv x1 64))))) - 1)) < 4 then
          if 0 ≤ (IntKind.wrap .u64 (64 - (Int.tmod x1 64))) then
           if 0 ≤ x0 then
            if x0 < 4 then
             rc (IntKind.wrap .i64 (x0 + 1)) x1 x2 (List.set x3 (Int.toNat x0) (ibits BinOp.or .u64 (List.getD x3 (Int.toNat x0) 0) (ishr .u64 (List.getD x2 (Int.toNat (IntKind.wrap .i64 ((IntKind.wrap .i64 (x0 - (IntKind.wrap .i64 (IntKind.wrap .u64 (Int.tdiv x1 64))))) - 1))) 0) (IntKind.wrap .u64 (64 - (Int.tmod x1 64)))))) x4
            else
             none
           else
            none
          else
           none
         else
          none
        else
         none
       else
        none
      else
       none
     else
      rc (IntKind.wrap .i64 (x0 + 1)) x1 x2 x3 x4
    else
     rc (IntKind.wrap .i64 (x0 + 1)) x1 x2 x3 x4
  else
   some (mk0 x3 x4)
def word_Shl.l4_0.g {α : Type} (mk0 : (List Int) → (List Int) → α) (n : Nat) : Nat → Int → Int → (List Int) → (List Int) → (List Int) → Option α
 | 0, _, _, _, _, _ => none
 | m + 1, x0, x1, x2, x3, x4 => word_Shl.l4_0.r mk0 n (fun y0 y1 y2 y3 y4 => word_Shl.l4_0.g mk0 n m y0 y1 y2 y3 y4)  x0 x1 x2 x3 x4
def word_Shl.l4_0.m (n m : Nat) (t : (Int × (Int × ((List Int) × ((List Int) × (List Int)))))) : Option ((List Int) × (List Int)) := word_Shl.l4_0.g (fun a0 a1 => (a0, a1)) n m t.1 t.2.1 t.2.2.1 t.2.2.2.1 t.2.2.2.2
def word_Shl.l4_0.pat : St → Option (Int × (Int × ((List Int) × ((List Int) × (List Int)))))
 | (St.mk [(.int .i64 x0), (.int .u64 x1), (.ptr 0 []), (.ptr 1 []), (.ptr 2 [])] [(some (.var (.ints .u64 4 x2))), (some (.var (.ints .u64 4 x3))), (some (.var (.ints .u64 4 x4)))]) => some (x0, x1, x2, x3, x4)
 | _ => none
def word_Shl.l4_0.shape (t : (Int × (Int × ((List Int) × ((List Int) × (List Int)))))) : St := (St.mk [(.int .i64 t.1), (.int .u64 t.2.1), (.ptr 0 []), (.ptr 1 []), (.ptr 2 [])] [(some (.var (.ints .u64 4 t.2.2.1))), (some (.var (.ints .u64 4 t.2.2.2.1))), (some (.var (.ints .u64 4 t.2.2.2.2)))])
def word_Shl.l4_0.res : ((List Int) × (List Int)) → Ex × St
 | u => (Prod.mk (.exit 0) (St.mk [(.ptr 0 []), (.ptr 1 [])] [(some (.var (.ints .u64 4 u.1))), (some (.var (.ints .u64 4 u.2)))]))
def word_Shl.l4_0.resK {R : Type} (u : ((List Int) × (List Int))) (K : Ex → St → Option R) : Option R := (fun p : Ex × St => K p.1 p.2) (Prod.mk (.exit 0) (St.mk [(.ptr 0 []), (.ptr 1 [])] [(some (.var (.ints .u64 4 u.1))), (some (.var (.ints .u64 4 u.2)))]))
noncomputable def word_Shl.A (n : Nat) : Ann := ⟨Tryd.f100.ntmps, 0, word_Shl.live, [], [none], fun k => match k with
 | 4 => some (.mk' word_Shl.l4_0.pat (word_Shl.l4_0.m n n) word_Shl.l4_0.resK)
 | _ => none, word_Shl.jlive, lookJ []⟩
noncomputable def word_Shl.b0 : Code := (loopsIn (Tryd.f100.body.getD .skip)).getD 0 .skip
def word_Shl.g {α : Type} (mk0 : (List Int) → α) (n : Nat) (a0 : (List Int)) (a1 : (List Int)) : Option α :=
 bindO (word_far.m n a0) fun r2 =>
  bindO (word_Shl.l4_0.m n n (0, r2, a1, [0, 0, 0, 0], [0, 0, 0, 0])) fun r4 =>
   some (mk0 (Prod.fst r4))
def word_Shl.m (n : Nat) (t : ((List Int) × (List Int))) : Option (List Int) := word_Shl.g (fun a0 => a0) n t.1 t.2
def word_Shl.pat : List AV → Blks → Option ((List Int) × (List Int))
 | [(.ints .u64 4 a0), (.ints .u64 4 a1)], [] => some (a0, a1)
 | _, _ => none
def word_Shl.shape (t : ((List Int) × (List Int))) : List AV × Blks := ([(.ints .u64 4 t.1), (.ints .u64 4 t.2)], [])
def word_Shl.res : (List Int) → AV × Blks
 | u => (Prod.mk (.ints .u64 4 u) [])
def word_Shl.resK {R : Type} (u : (List Int)) (K : AV → Blks → Option R) : Option R := (fun p : AV × Blks => K p.1 p.2) (Prod.mk (.ints .u64 4 u) [])
def word_Shl.c (n : Nat) : Abs.Callee := .mk' [] [none, none] word_Shl.pat (word_Shl.m n) word_Shl.resK
end
end
section
theorem word_Shl.l4_0.rmap {α β : Type} (h : β → α) (mk0 : (List Int) → (List Int) → β) (n : Nat) (f : Int → Int → (List Int) → (List Int) → (List Int) → Option β)  (x0 : Int) (x1 : Int) (x2 : (List Int)) (x3 : (List Int)) (x4 : (List Int)) : word_Shl.l4_0.r (fun a0 a1 => (h (mk0 a0 a1))) n (fun y0 y1 y2 y3 y4 => (f y0 y1 y2 y3 y4).map h) x0 x1 x2 x3 x4 = (word_Shl.l4_0.r mk0 n f x0 x1 x2 x3 x4).map h := by
  unfold word_Shl.l4_0.r
  exact (ite_map (ite_map (ite_map (ite_map (ite_map (ite_map (ite_map (ite_map (ite_map (ite_map (ite_map (ite_map (ite_map (ite_map (ite_map (ite_map rfl rfl) rfl) rfl) rfl) rfl) rfl) rfl) rfl) rfl) rfl) rfl) rfl) rfl) rfl) (ite_map (ite_map (ite_map (ite_map (ite_map (ite_map (ite_map (ite_map (ite_map rfl rfl) rfl) rfl) rfl) rfl) rfl) rfl) rfl) rfl)) rfl)
theorem word_Shl.l4_0.gmap {α β : Type} (h : β → α) (mk0 : (List Int) → (List Int) → β) (n : Nat) : ∀ (m : Nat) (x0 : Int) (x1 : Int) (x2 : (List Int)) (x3 : (List Int)) (x4 : (List Int)), word_Shl.l4_0.g (fun a0 a1 => (h (mk0 a0 a1))) n m x0 x1 x2 x3 x4 = (word_Shl.l4_0.g mk0 n m x0 x1 x2 x3 x4).map h
  | 0, _, _, _, _, _ => rfl
  | m + 1, x0, x1, x2, x3, x4 => by
    unfold word_Shl.l4_0.g
    rw [← word_Shl.l4_0.rmap]
    congr
    · funext y0 y1 y2 y3 y4; exact word_Shl.l4_0.gmap h mk0 n m y0 y1 y2 y3 y4
theorem word_Shl.l4_0.pat_shape : ∀ st t, word_Shl.l4_0.pat st = some t → st = word_Shl.l4_0.shape t := by
  intro st t h
  unfold word_Shl.l4_0.pat at h
  split at h
  · cases h; rfl
  · cases h
theorem word_Shl.l4_0.round (n : Nat) (rc : St → Option (Ex × St)) (x0 : Int) (x1 : Int) (x2 : (List Int)) (x3 : (List Int)) (x4 : (List Int)) : roundOf (word_Shl.C n) (word_Shl.A n) n word_Shl.b0 rc ((St.mk [(.int .i64 x0), (.int .u64 x1), (.ptr 0 []), (.ptr 1 []), (.ptr 2 [])] [(some (.var (.ints .u64 4 x2))), (some (.var (.ints .u64 4 x3))), (some (.var (.ints .u64 4 x4)))])) = word_Shl.l4_0.r (fun a0 a1 => ((Prod.mk (.exit 0) (St.mk [(.ptr 0 []), (.ptr 1 [])] [(some (.var (.ints .u64 4 a0))), (some (.var (.ints .u64 4 a1)))])) : Ex × St)) n (fun y0 y1 y2 y3 y4 => rc ((St.mk [(.int .i64 y0), (.int .u64 y1), (.ptr 0 []), (.ptr 1 []), (.ptr 2 [])] [(some (.var (.ints .u64 4 y2))), (some (.var (.ints .u64 4 y3))), (some (.var (.ints .u64 4 y4)))]))) x0 x1 x2 x3 x4 := by kernel_rfl
theorem word_Shl.l4_0.loop' (n : Nat) : ∀ (m : Nat) (t : (Int × (Int × ((List Int) × ((List Int) × (List Int)))))), loopOf (roundOf (word_Shl.C n) (word_Shl.A n) n word_Shl.b0) m (word_Shl.l4_0.shape t) = word_Shl.l4_0.g (fun a0 a1 => ((Prod.mk (.exit 0) (St.mk [(.ptr 0 []), (.ptr 1 [])] [(some (.var (.ints .u64 4 a0))), (some (.var (.ints .u64 4 a1)))])) : Ex × St)) n m t.1 t.2.1 t.2.2.1 t.2.2.2.1 t.2.2.2.2 :=
  loop_of_round (shape := word_Shl.l4_0.shape) (body := roundOf (word_Shl.C n) (word_Shl.A n) n word_Shl.b0) (g := fun m t => word_Shl.l4_0.g (fun a0 a1 => ((Prod.mk (.exit 0) (St.mk [(.ptr 0 []), (.ptr 1 [])] [(some (.var (.ints .u64 4 a0))), (some (.var (.ints .u64 4 a1)))])) : Ex × St)) n m t.1 t.2.1 t.2.2.1 t.2.2.2.1 t.2.2.2.2) (fun t => rfl)
    fun m t ih => (word_Shl.l4_0.round n (loopOf (roundOf (word_Shl.C n) (word_Shl.A n) n word_Shl.b0) m) t.1 t.2.1 t.2.2.1 t.2.2.2.1 t.2.2.2.2).trans (congrFun (congrFun (congrFun (congrFun (congrFun (congrArg (word_Shl.l4_0.r (fun a0 a1 => ((Prod.mk (.exit 0) (St.mk [(.ptr 0 []), (.ptr 1 [])] [(some (.var (.ints .u64 4 a0))), (some (.var (.ints .u64 4 a1)))])) : Ex × St)) n) (funext fun y0 => funext fun y1 => funext fun y2 => funext fun y3 => funext fun y4 => ih (y0, y1, y2, y3, y4))) t.1) t.2.1) t.2.2.1) t.2.2.2.1) t.2.2.2.2)
theorem word_Shl.l4_0.loop (n m : Nat) (t : (Int × (Int × ((List Int) × ((List Int) × (List Int)))))) : loopOf (roundOf (word_Shl.C n) (word_Shl.A n) n word_Shl.b0) m (word_Shl.l4_0.shape t) = (word_Shl.l4_0.m n m t).map word_Shl.l4_0.res :=
  (word_Shl.l4_0.loop' n m t).trans (word_Shl.l4_0.gmap word_Shl.l4_0.res (fun a0 a1 => (a0, a1)) n m t.1 t.2.1 t.2.2.1 t.2.2.2.1 t.2.2.2.2)
theorem word_Shl.gmap {α β : Type} (h : β → α) (mk0 : (List Int) → β) (n : Nat) (a0 : (List Int)) (a1 : (List Int)) : word_Shl.g (fun a0 => (h (mk0 a0))) n a0 a1 = (word_Shl.g mk0 n a0 a1).map h := by
  unfold word_Shl.g
  exact (bindO_map fun r2 => (bindO_map fun r4 => rfl))
theorem word_Shl.run (n : Nat) (a0 : (List Int)) (a1 : (List Int)) : runF (word_Shl.C n) (word_Shl.A n) n Tryd.f100 [(.ints .u64 4 a0), (.ints .u64 4 a1)] [] (fun v o => some (v, o)) = word_Shl.g (fun a0 => ((Prod.mk (.ints .u64 4 a0) []) : AV × Blks)) n a0 a1 := by kernel_rfl
theorem word_Shl.call (hmix : Tryd.prog.follows .mixedOrders = true) (n : Nat) (t : ((List Int) × (List Int))) (u) (h : word_Shl.m n t = some u) : FnC Tryd.prog abiG 100 (word_Shl.shape t).1 (word_Shl.shape t).2 (word_Shl.res u).1 (word_Shl.res u).2 := by
  have hg : ∀ f m, (word_Shl.C n).Γ f = some m → CalleeS Tryd.prog abiG f m := by
    intro f m hm
    unfold word_Shl.C at hm
    simp only at hm
    first
    | (cases hm; done)
    | (split at hm <;> first
    | (cases hm; exact word_far.s hmix n)
    | (cases hm; done))
  have hb : Tryd.f100.body = some (Tryd.f100.body.getD .skip) := by kernel_rfl
  refine runF_calls (C := word_Shl.C n) (A := word_Shl.A n) (n := n) (fn := Tryd.f100) hg hmix Tryd.func100 hb ?_ ?_ (by decide) rfl rfl (by show 2 ≤ Tryd.f100.ntmps; decide) ?_
  · rw [show loopsIn (Tryd.f100.body.getD .skip) = [word_Shl.b0] by kernel_rfl]
    intro b hb m hm
    simp only [List.mem_cons, List.not_mem_nil, or_false] at hb
    rcases hb with rfl
    · have e : (word_Shl.A n).loop (key word_Shl.b0) = some (.mk' word_Shl.l4_0.pat (word_Shl.l4_0.m n n) word_Shl.l4_0.resK) := by rw [show key word_Shl.b0 = 4 by kernel_rfl]; rfl
      rw [e] at hm
      cases hm
      exact (LoopS.of (res := word_Shl.l4_0.res) (fun R u K => rfl) word_Shl.l4_0.pat_shape fun t => word_Shl.l4_0.loop n n t)
  · intro a ha m hm
    cases (show none = some m from hm)
  · rw [show runF (word_Shl.C n) (word_Shl.A n) n Tryd.f100 (word_Shl.shape t).1 (word_Shl.shape t).2 (fun v o => some (v, o)) = _ from word_Shl.run n t.1 t.2]
    have e := word_Shl.gmap word_Shl.res (fun a0 => a0) n t.1 t.2
    unfold word_Shl.m at h
    rw [h] at e
    exact e
theorem word_Shl.s (hmix : Tryd.prog.follows .mixedOrders = true) (n : Nat) : CalleeS Tryd.prog abiG 100 (word_Shl.c n) :=
  CalleeS.of (res := word_Shl.res) (shape := word_Shl.shape) (fun R u K => rfl) (fun args lent t h => by
    unfold word_Shl.pat at h
    split at h
    · cases h; rfl
    · cases h) fun t u h => (word_Shl.call hmix n t u h).ok Tryd.func100 (by decide) (by kernel_rfl)
end
section
noncomputable section
noncomputable def word_rightS1.C (n : Nat) : Ctx := ⟨Tryd.prog, abiG, fun f => match f with
 | _ => none, fun _ => false⟩
def word_rightS1.live : Nat → List Nat × List Nat := fun k => match k with
 | _ => ([], [])
def word_rightS1.jlive : Nat → List Nat × List Nat := fun k => match k with
 | _ => ([], [])
noncomputable def word_rightS1.A (n : Nat) : Ann := ⟨Tryd.f127.ntmps, 0, word_rightS1.live, [], [none], fun k => match k with
 | _ => none, word_rightS1.jlive, lookJ []⟩
def word_rightS1.g {α : Type} (mk0 : Int → α) (n : Nat) (i : Int) (f : Int) (a : (List Int)) : Option α :=
 if (decide (i > 3)) = true then
  some (mk0 f)
 else
  if 0 ≤ i then
   if i < 4 then
    some (mk0 (List.getD a (Int.toNat i) 0))
   else
    none
  else
   none
def word_rightS1.m (n : Nat) (t : (Int × (Int × (List Int)))) : Option Int := word_rightS1.g (fun a0 => a0) n t.1 t.2.1 t.2.2
def word_rightS1.pat : List AV → Blks → Option (Int × (Int × (List Int)))
 | [(.int .i64 i), (.rptr (.int .u64 f)), (.rptr (.ints .u64 4 a))], [] => some (i, f, a)
 | _, _ => none
def word_rightS1.shape (t : (Int × (Int × (List Int)))) : List AV × Blks := ([(.int .i64 t.1), (.rptr (.int .u64 t.2.1)), (.rptr (.ints .u64 4 t.2.2))], [])
def word_rightS1.res : Int → AV × Blks
 | u => (Prod.mk (.int .u64 u) [])
def word_rightS1.resK {R : Type} (u : Int) (K : AV → Blks → Option R) : Option R := (fun p : AV × Blks => K p.1 p.2) (Prod.mk (.int .u64 u) [])
def word_rightS1.c (n : Nat) : Abs.Callee := .mk' [] [none] word_rightS1.pat (word_rightS1.m n) word_rightS1.resK
end
end
section
noncomputable section
noncomputable def word_right.C (n : Nat) : Ctx := ⟨Tryd.prog, abiG, fun f => match f with
 | 127 => some (word_rightS1.c n)
 | _ => none, fun _ => false⟩
def word_right.live : Nat → List Nat × List Nat := fun k => match k with
 | 4 => ([12, 0, 7, 8, 6], [8, 6])
 | _ => ([], [])
def word_right.jlive : Nat → List Nat × List Nat := fun k => match k with
 | _ => ([], [])
def word_right.l4_0.r {α : Type} (mk0 : (List Int) → (List Int) → α) (n : Nat) (rc : Int → Int → Int → (List Int) → (List Int) → (List Int) → Option α)  (x0 : Int) (x1 : Int) (x2 : Int) (x3 : (List Int)) (x4 : (List Int)) (x5 : (List Int)) : Option α :=
  if (decide (x0 < 4)) = true then
   bindO (word_rightS1.m n (Prod.mk (IntKind.wrap .i64 (x0 + (IntKind.wrap .i64 (IntKind.wrap .u64 (Int.tdiv x1 64))))) (Prod.mk x2 x3))) fun r6 =>
    if 0 ≤ (Int.tmod x1 64) then
     if 0 ≤ x0 then
      if x0 < 4 then
       if ((Int.tmod x1 64) != 0) = true then
        if 0 ≤ x0 then
         if x0 < 4 then
          bindO (word_rightS1.m n (Prod.mk (IntKind.wrap .i64 ((IntKind.wrap .i64 (x0 + (IntKind.wrap .i64 (IntKind.wrap .u64 (Int.tdiv x1 64))))) + 1)) (Prod.mk x2 x3))) fun r20 =>
           if 0 ≤ (IntKind.wrap .u64 (64 - (Int.tmod x1 64))) then
            if 0 ≤ x0 then
             if x0 < 4 then
              rc (IntKind.wrap .i64 (x0 + 1)) x1 x2 x3 (List.set (List.set x4 (Int.toNat x0) (ishr .u64 r6 (Int.tmod x1 64))) (Int.toNat x0) (ibits BinOp.or .u64 (List.getD (List.set x4 (Int.toNat x0) (ishr .u64 r6 (Int.tmod x1 64))) (Int.toNat x0) 0) (ishl .u64 r20 (IntKind.wrap .u64 (64 - (Int.tmod x1 64)))))) x5
             else
              none
            else
             none
           else
            none
         else
          none
        else
         none
       else
        rc (IntKind.wrap .i64 (x0 + 1)) x1 x2 x3 (List.set x4 (Int.toNat x0) (ishr .u64 r6 (Int.tmod x1 64))) x5
      else
       none
     else
      none
    else
     none
  else
   some (mk0 x4 x5)
def word_right.l4_0.g {α : Type} (mk0 : (List Int) → (List Int) → α) (n : Nat) : Nat → Int → Int → Int → (List Int) → (List Int) → (List Int) → Option α
 | 0, _, _, _, _, _, _ => none
 | m + 1, x0, x1, x2, x3, x4, x5 => word_right.l4_0.r mk0 n (fun y0 y1 y2 y3 y4 y5 => word_right.l4_0.g mk0 n m y0 y1 y2 y3 y4 y5)  x0 x1 x2 x3 x4 x5
def word_right.l4_0.m (n m : Nat) (t : (Int × (Int × (Int × ((List Int) × ((List Int) × (List Int))))))) : Option ((List Int) × (List Int)) := word_right.l4_0.g (fun a0 a1 => (a0, a1)) n m t.1 t.2.1 t.2.2.1 t.2.2.2.1 t.2.2.2.2.1 t.2.2.2.2.2
def word_right.l4_0.pat : St → Option (Int × (Int × (Int × ((List Int) × ((List Int) × (List Int))))))
 | (St.mk [(.int .i64 x0), (.int .u64 x1), (.fn (.func 127) [] [(.ptr 0 []), (.ptr 1 [])]), (.ptr 2 []), (.ptr 3 [])] [(some (.var (.int .u64 x2))), (some (.var (.ints .u64 4 x3))), (some (.var (.ints .u64 4 x4))), (some (.var (.ints .u64 4 x5)))]) => some (x0, x1, x2, x3, x4, x5)
 | _ => none
def word_right.l4_0.shape (t : (Int × (Int × (Int × ((List Int) × ((List Int) × (List Int))))))) : St := (St.mk [(.int .i64 t.1), (.int .u64 t.2.1), (.fn (.func 127) [] [(.ptr 0 []), (.ptr 1 [])]), (.ptr 2 []), (.ptr 3 [])] [(some (.var (.int .u64 t.2.2.1))), (some (.var (.ints .u64 4 t.2.2.2.1))), (some (.var (.ints .u64 4 t.2.2.2.2.1))), (some (.var (.ints .u64 4 t.2.2.2.2.2)))])
def word_right.l4_0.res : ((List Int) × (List Int)) → Ex × St
 | u => (Prod.mk (.exit 0) (St.mk [(.ptr 0 []), (.ptr 1 [])] [(some (.var (.ints .u64 4 u.1))), (some (.var (.ints .u64 4 u.2)))]))
def word_right.l4_0.resK {R : Type} (u : ((List Int) × (List Int))) (K : Ex → St → Option R) : Option R := (fun p : Ex × St => K p.1 p.2) (Prod.mk (.exit 0) (St.mk [(.ptr 0 []), (.ptr 1 [])] [(some (.var (.ints .u64 4 u.1))), (some (.var (.ints .u64 4 u.2)))]))
noncomputable def word_right.A (n : Nat) : Ann := ⟨Tryd.f112.ntmps, 0, word_right.live, [], [none], fun k => match k with
 | 4 => some (.mk' word_right.l4_0.pat (word_right.l4_0.m n n) word_right.l4_0.resK)
 | _ => none, word_right.jlive, lookJ []⟩
noncomputable def word_right.b0 : Code := (loopsIn (Tryd.f112.body.getD .skip)).getD 0 .skip
def word_right.g {α : Type} (mk0 : (List Int) → α) (n : Nat) (a0 : Int) (a1 : (List Int)) (a2 : Int) : Option α :=
 bindO (word_right.l4_0.m n n (0, a0, a2, a1, [0, 0, 0, 0], [0, 0, 0, 0])) fun r2 =>
  some (mk0 (Prod.fst r2))
def word_right.m (n : Nat) (t : (Int × ((List Int) × Int))) : Option (List Int) := word_right.g (fun a0 => a0) n t.1 t.2.1 t.2.2
def word_right.pat : List AV → Blks → Option (Int × ((List Int) × Int))
 | [(.int .u64 a0), (.ints .u64 4 a1), (.int .u64 a2)], [] => some (a0, a1, a2)
 | _, _ => none
def word_right.shape (t : (Int × ((List Int) × Int))) : List AV × Blks := ([(.int .u64 t.1), (.ints .u64 4 t.2.1), (.int .u64 t.2.2)], [])
def word_right.res : (List Int) → AV × Blks
 | u => (Prod.mk (.ints .u64 4 u) [])
def word_right.resK {R : Type} (u : (List Int)) (K : AV → Blks → Option R) : Option R := (fun p : AV × Blks => K p.1 p.2) (Prod.mk (.ints .u64 4 u) [])
def word_right.c (n : Nat) : Abs.Callee := .mk' [] [none, none, none] word_right.pat (word_right.m n) word_right.resK
end
end
section
noncomputable section
noncomputable def word_Shr.C (n : Nat) : Ctx := ⟨Tryd.prog, abiG, fun f => match f with
 | 113 => some (word_far.c n)
 | 112 => some (word_right.c n)
 | _ => none, fun _ => false⟩
def word_Shr.live : Nat → List Nat × List Nat := fun k => match k with
 | _ => ([], [])
def word_Shr.jlive : Nat → List Nat × List Nat := fun k => match k with
 | _ => ([], [])
noncomputable def word_Shr.A (n : Nat) : Ann := ⟨Tryd.f94.ntmps, 0, word_Shr.live, [], [none], fun k => match k with
 | _ => none, word_Shr.jlive, lookJ []⟩
def word_Shr.g {α : Type} (mk0 : (List Int) → α) (n : Nat) (a0 : (List Int)) (a1 : (List Int)) : Option α :=
 bindO (word_far.m n a0) fun r2 =>
  bindO (word_right.m n (Prod.mk r2 (Prod.mk a1 0))) fun r4 =>
   some (mk0 r4)
def word_Shr.m (n : Nat) (t : ((List Int) × (List Int))) : Option (List Int) := word_Shr.g (fun a0 => a0) n t.1 t.2
def word_Shr.pat : List AV → Blks → Option ((List Int) × (List Int))
 | [(.ints .u64 4 a0), (.ints .u64 4 a1)], [] => some (a0, a1)
 | _, _ => none
def word_Shr.shape (t : ((List Int) × (List Int))) : List AV × Blks := ([(.ints .u64 4 t.1), (.ints .u64 4 t.2)], [])
def word_Shr.res : (List Int) → AV × Blks
 | u => (Prod.mk (.ints .u64 4 u) [])
def word_Shr.resK {R : Type} (u : (List Int)) (K : AV → Blks → Option R) : Option R := (fun p : AV × Blks => K p.1 p.2) (Prod.mk (.ints .u64 4 u) [])
def word_Shr.c (n : Nat) : Abs.Callee := .mk' [] [none, none] word_Shr.pat (word_Shr.m n) word_Shr.resK
end
end
section
theorem word_rightS1.gmap {α β : Type} (h : β → α) (mk0 : Int → β) (n : Nat) (i : Int) (f : Int) (a : (List Int)) : word_rightS1.g (fun a0 => (h (mk0 a0))) n i f a = (word_rightS1.g mk0 n i f a).map h := by
  unfold word_rightS1.g
  exact (ite_map rfl (ite_map (ite_map rfl rfl) rfl))
theorem word_rightS1.run (n : Nat) (i : Int) (f : Int) (a : (List Int)) : runF (word_rightS1.C n) (word_rightS1.A n) n Tryd.f127 [(.int .i64 i), (.rptr (.int .u64 f)), (.rptr (.ints .u64 4 a))] [] (fun v o => some (v, o)) = word_rightS1.g (fun a0 => ((Prod.mk (.int .u64 a0) []) : AV × Blks)) n i f a := by kernel_rfl
theorem word_rightS1.call (hmix : Tryd.prog.follows .mixedOrders = true) (n : Nat) (t : (Int × (Int × (List Int)))) (u) (h : word_rightS1.m n t = some u) : FnC Tryd.prog abiG 127 (word_rightS1.shape t).1 (word_rightS1.shape t).2 (word_rightS1.res u).1 (word_rightS1.res u).2 := by
  have hg : ∀ f m, (word_rightS1.C n).Γ f = some m → CalleeS Tryd.prog abiG f m := by
    intro f m hm
    unfold word_rightS1.C at hm
    simp only at hm
    first
    | (cases hm; done)
    | (split at hm <;> first
    | (cases hm; done))
  have hb : Tryd.f127.body = some (Tryd.f127.body.getD .skip) := by kernel_rfl
  refine runF_calls (C := word_rightS1.C n) (A := word_rightS1.A n) (n := n) (fn := Tryd.f127) hg hmix Tryd.func127 hb ?_ ?_ (by decide) rfl rfl (by show 3 ≤ Tryd.f127.ntmps; decide) ?_
  · rw [show loopsIn (Tryd.f127.body.getD .skip) = [] by kernel_rfl]
    intro b hb
    cases hb
  · intro a ha m hm
    cases (show none = some m from hm)
  · rw [show runF (word_rightS1.C n) (word_rightS1.A n) n Tryd.f127 (word_rightS1.shape t).1 (word_rightS1.shape t).2 (fun v o => some (v, o)) = _ from word_rightS1.run n t.1 t.2.1 t.2.2]
    have e := word_rightS1.gmap word_rightS1.res (fun a0 => a0) n t.1 t.2.1 t.2.2
    unfold word_rightS1.m at h
    rw [h] at e
    exact e
theorem word_rightS1.s (hmix : Tryd.prog.follows .mixedOrders = true) (n : Nat) : CalleeS Tryd.prog abiG 127 (word_rightS1.c n) :=
  CalleeS.of (res := word_rightS1.res) (shape := word_rightS1.shape) (fun R u K => rfl) (fun args lent t h => by
    unfold word_rightS1.pat at h
    split at h
    · cases h; rfl
    · cases h) fun t u h => (word_rightS1.call hmix n t u h).ok Tryd.func127 (by decide) (by kernel_rfl)
end
section
theorem word_right.l4_0.rmap {α β : Type} (h : β → α) (mk0 : (List Int) → (List Int) → β) (n : Nat) (f : Int → Int → Int → (List Int) → (List Int) → (List Int) → Option β)  (x0 : Int) (x1 : Int) (x2 : Int) (x3 : (List Int)) (x4 : (List Int)) (x5 : (List Int)) : word_right.l4_0.r (fun a0 a1 => (h (mk0 a0 a1))) n (fun y0 y1 y2 y3 y4 y5 => (f y0 y1 y2 y3 y4 y5).map h) x0 x1 x2 x3 x4 x5 = (word_right.l4_0.r mk0 n f x0 x1 x2 x3 x4 x5).map h := by
  unfold word_right.l4_0.r
  exact (ite_map (bindO_map fun r6 => (ite_map (ite_map (ite_map (ite_map (ite_map (ite_map (bindO_map fun r20 => (ite_map (ite_map (ite_map rfl rfl) rfl) rfl)) rfl) rfl) rfl) rfl) rfl) rfl)) rfl)
theorem word_right.l4_0.gmap {α β : Type} (h : β → α) (mk0 : (List Int) → (List Int) → β) (n : Nat) : ∀ (m : Nat) (x0 : Int) (x1 : Int) (x2 : Int) (x3 : (List Int)) (x4 : (List Int)) (x5 : (List Int)), word_right.l4_0.g (fun a0 a1 => (h (mk0 a0 a1))) n m x0 x1 x2 x3 x4 x5 = (word_right.l4_0.g mk0 n m x0 x1 x2 x3 x4 x5).map h
  | 0, _, _, _, _, _, _ => rfl
  | m + 1, x0, x1, x2, x3, x4, x5 => by
    unfold word_right.l4_0.g
    rw [← word_right.l4_0.rmap]
    congr
    · funext y0 y1 y2 y3 y4 y5; exact word_right.l4_0.gmap h mk0 n m y0 y1 y2 y3 y4 y5
theorem word_right.l4_0.pat_shape : ∀ st t, word_right.l4_0.pat st = some t → st = word_right.l4_0.shape t := by
  intro st t h
  unfold word_right.l4_0.pat at h
  split at h
  · cases h; rfl
  · cases h
theorem word_right.l4_0.round (n : Nat) (rc : St → Option (Ex × St)) (x0 : Int) (x1 : Int) (x2 : Int) (x3 : (List Int)) (x4 : (List Int)) (x5 : (List Int)) : roundOf (word_right.C n) (word_right.A n) n word_right.b0 rc ((St.mk [(.int .i64 x0), (.int .u64 x1), (.fn (.func 127) [] [(.ptr 0 []), (.ptr 1 [])]), (.ptr 2 []), (.ptr 3 [])] [(some (.var (.int .u64 x2))), (some (.var (.ints .u64 4 x3))), (some (.var (.ints .u64 4 x4))), (some (.var (.ints .u64 4 x5)))])) = word_right.l4_0.r (fun a0 a1 => ((Prod.mk (.exit 0) (St.mk [(.ptr 0 []), (.ptr 1 [])] [(some (.var (.ints .u64 4 a0))), (some (.var (.ints .u64 4 a1)))])) : Ex × St)) n (fun y0 y1 y2 y3 y4 y5 => rc ((St.mk [(.int .i64 y0), (.int .u64 y1), (.fn (.func 127) [] [(.ptr 0 []), (.ptr 1 [])]), (.ptr 2 []), (.ptr 3 [])] [(some (.var (.int .u64 y2))), (some (.var (.ints .u64 4 y3))), (some (.var (.ints .u64 4 y4))), (some (.var (.ints .u64 4 y5)))]))) x0 x1 x2 x3 x4 x5 := by kernel_rfl
theorem word_right.l4_0.loop' (n : Nat) : ∀ (m : Nat) (t : (Int × (Int × (Int × ((List Int) × ((List Int) × (List Int))))))), loopOf (roundOf (word_right.C n) (word_right.A n) n word_right.b0) m (word_right.l4_0.shape t) = word_right.l4_0.g (fun a0 a1 => ((Prod.mk (.exit 0) (St.mk [(.ptr 0 []), (.ptr 1 [])] [(some (.var (.ints .u64 4 a0))), (some (.var (.ints .u64 4 a1)))])) : Ex × St)) n m t.1 t.2.1 t.2.2.1 t.2.2.2.1 t.2.2.2.2.1 t.2.2.2.2.2 :=
  loop_of_round (shape := word_right.l4_0.shape) (body := roundOf (word_right.C n) (word_right.A n) n word_right.b0) (g := fun m t => word_right.l4_0.g (fun a0 a1 => ((Prod.mk (.exit 0) (St.mk [(.ptr 0 []), (.ptr 1 [])] [(some (.var (.ints .u64 4 a0))), (some (.var (.ints .u64 4 a1)))])) : Ex × St)) n m t.1 t.2.1 t.2.2.1 t.2.2.2.1 t.2.2.2.2.1 t.2.2.2.2.2) (fun t => rfl)
    fun m t ih => (word_right.l4_0.round n (loopOf (roundOf (word_right.C n) (word_right.A n) n word_right.b0) m) t.1 t.2.1 t.2.2.1 t.2.2.2.1 t.2.2.2.2.1 t.2.2.2.2.2).trans (congrFun (congrFun (congrFun (congrFun (congrFun (congrFun (congrArg (word_right.l4_0.r (fun a0 a1 => ((Prod.mk (.exit 0) (St.mk [(.ptr 0 []), (.ptr 1 [])] [(some (.var (.ints .u64 4 a0))), (some (.var (.ints .u64 4 a1)))])) : Ex × St)) n) (funext fun y0 => funext fun y1 => funext fun y2 => funext fun y3 => funext fun y4 => funext fun y5 => ih (y0, y1, y2, y3, y4, y5))) t.1) t.2.1) t.2.2.1) t.2.2.2.1) t.2.2.2.2.1) t.2.2.2.2.2)
theorem word_right.l4_0.loop (n m : Nat) (t : (Int × (Int × (Int × ((List Int) × ((List Int) × (List Int))))))) : loopOf (roundOf (word_right.C n) (word_right.A n) n word_right.b0) m (word_right.l4_0.shape t) = (word_right.l4_0.m n m t).map word_right.l4_0.res :=
  (word_right.l4_0.loop' n m t).trans (word_right.l4_0.gmap word_right.l4_0.res (fun a0 a1 => (a0, a1)) n m t.1 t.2.1 t.2.2.1 t.2.2.2.1 t.2.2.2.2.1 t.2.2.2.2.2)
theorem word_right.gmap {α β : Type} (h : β → α) (mk0 : (List Int) → β) (n : Nat) (a0 : Int) (a1 : (List Int)) (a2 : Int) : word_right.g (fun a0 => (h (mk0 a0))) n a0 a1 a2 = (word_right.g mk0 n a0 a1 a2).map h := by
  unfold word_right.g
  exact (bindO_map fun r2 => rfl)
theorem word_right.run (n : Nat) (a0 : Int) (a1 : (List Int)) (a2 : Int) : runF (word_right.C n) (word_right.A n) n Tryd.f112 [(.int .u64 a0), (.ints .u64 4 a1), (.int .u64 a2)] [] (fun v o => some (v, o)) = word_right.g (fun a0 => ((Prod.mk (.ints .u64 4 a0) []) : AV × Blks)) n a0 a1 a2 := by kernel_rfl
theorem word_right.call (hmix : Tryd.prog.follows .mixedOrders = true) (n : Nat) (t : (Int × ((List Int) × Int))) (u) (h : word_right.m n t = some u) : FnC Tryd.prog abiG 112 (word_right.shape t).1 (word_right.shape t).2 (word_right.res u).1 (word_right.res u).2 := by
  have hg : ∀ f m, (word_right.C n).Γ f = some m → CalleeS Tryd.prog abiG f m := by
    intro f m hm
    unfold word_right.C at hm
    simp only at hm
    first
    | (cases hm; done)
    | (split at hm <;> first
    | (cases hm; exact word_rightS1.s hmix n)
    | (cases hm; done))
  have hb : Tryd.f112.body = some (Tryd.f112.body.getD .skip) := by kernel_rfl
  refine runF_calls (C := word_right.C n) (A := word_right.A n) (n := n) (fn := Tryd.f112) hg hmix Tryd.func112 hb ?_ ?_ (by decide) rfl rfl (by show 3 ≤ Tryd.f112.ntmps; decide) ?_
  · rw [show loopsIn (Tryd.f112.body.getD .skip) = [word_right.b0] by kernel_rfl]
    intro b hb m hm
    simp only [List.mem_cons, List.not_mem_nil, or_false] at hb
    rcases hb with rfl
    · have e : (word_right.A n).loop (key word_right.b0) = some (.mk' word_right.l4_0.pat (word_right.l4_0.m n n) word_right.l4_0.resK) := by rw [show key word_right.b0 = 4 by kernel_rfl]; rfl
      rw [e] at hm
      cases hm
      exact (LoopS.of (res := word_right.l4_0.res) (fun R u K => rfl) word_right.l4_0.pat_shape fun t => word_right.l4_0.loop n n t)
  · intro a ha m hm
    cases (show none = some m from hm)
  · rw [show runF (word_right.C n) (word_right.A n) n Tryd.f112 (word_right.shape t).1 (word_right.shape t).2 (fun v o => some (v, o)) = _ from word_right.run n t.1 t.2.1 t.2.2]
    have e := word_right.gmap word_right.res (fun a0 => a0) n t.1 t.2.1 t.2.2
    unfold word_right.m at h
    rw [h] at e
    exact e
theorem word_right.s (hmix : Tryd.prog.follows .mixedOrders = true) (n : Nat) : CalleeS Tryd.prog abiG 112 (word_right.c n) :=
  CalleeS.of (res := word_right.res) (shape := word_right.shape) (fun R u K => rfl) (fun args lent t h => by
    unfold word_right.pat at h
    split at h
    · cases h; rfl
    · cases h) fun t u h => (word_right.call hmix n t u h).ok Tryd.func112 (by decide) (by kernel_rfl)
end
section
theorem word_Shr.gmap {α β : Type} (h : β → α) (mk0 : (List Int) → β) (n : Nat) (a0 : (List Int)) (a1 : (List Int)) : word_Shr.g (fun a0 => (h (mk0 a0))) n a0 a1 = (word_Shr.g mk0 n a0 a1).map h := by
  unfold word_Shr.g
  exact (bindO_map fun r2 => (bindO_map fun r4 => rfl))
theorem word_Shr.run (n : Nat) (a0 : (List Int)) (a1 : (List Int)) : runF (word_Shr.C n) (word_Shr.A n) n Tryd.f94 [(.ints .u64 4 a0), (.ints .u64 4 a1)] [] (fun v o => some (v, o)) = word_Shr.g (fun a0 => ((Prod.mk (.ints .u64 4 a0) []) : AV × Blks)) n a0 a1 := by kernel_rfl
theorem word_Shr.call (hmix : Tryd.prog.follows .mixedOrders = true) (n : Nat) (t : ((List Int) × (List Int))) (u) (h : word_Shr.m n t = some u) : FnC Tryd.prog abiG 94 (word_Shr.shape t).1 (word_Shr.shape t).2 (word_Shr.res u).1 (word_Shr.res u).2 := by
  have hg : ∀ f m, (word_Shr.C n).Γ f = some m → CalleeS Tryd.prog abiG f m := by
    intro f m hm
    unfold word_Shr.C at hm
    simp only at hm
    first
    | (cases hm; done)
    | (split at hm <;> first
    | (cases hm; exact word_far.s hmix n)
    | (cases hm; exact word_right.s hmix n)
    | (cases hm; done))
  have hb : Tryd.f94.body = some (Tryd.f94.body.getD .skip) := by kernel_rfl
  refine runF_calls (C := word_Shr.C n) (A := word_Shr.A n) (n := n) (fn := Tryd.f94) hg hmix Tryd.func94 hb ?_ ?_ (by decide) rfl rfl (by show 2 ≤ Tryd.f94.ntmps; decide) ?_
  · rw [show loopsIn (Tryd.f94.body.getD .skip) = [] by kernel_rfl]
    intro b hb
    cases hb
  · intro a ha m hm
    cases (show none = some m from hm)
  · rw [show runF (word_Shr.C n) (word_Shr.A n) n Tryd.f94 (word_Shr.shape t).1 (word_Shr.shape t).2 (fun v o => some (v, o)) = _ from word_Shr.run n t.1 t.2]
    have e := word_Shr.gmap word_Shr.res (fun a0 => a0) n t.1 t.2
    unfold word_Shr.m at h
    rw [h] at e
    exact e
theorem word_Shr.s (hmix : Tryd.prog.follows .mixedOrders = true) (n : Nat) : CalleeS Tryd.prog abiG 94 (word_Shr.c n) :=
  CalleeS.of (res := word_Shr.res) (shape := word_Shr.shape) (fun R u K => rfl) (fun args lent t h => by
    unfold word_Shr.pat at h
    split at h
    · cases h; rfl
    · cases h) fun t u h => (word_Shr.call hmix n t u h).ok Tryd.func94 (by decide) (by kernel_rfl)
end
section
noncomputable section
noncomputable def word_Bytes.C (n : Nat) : Ctx := ⟨Tryd.prog, abiG, fun f => match f with
 | _ => none, fun _ => false⟩
def word_Bytes.live : Nat → List Nat × List Nat := fun k => match k with
 | 3 => ([6, 3, 1], [3])
 | _ => ([], [])
def word_Bytes.jlive : Nat → List Nat × List Nat := fun k => match k with
 | _ => ([], [])
def word_Bytes.l3_0.r {α : Type} (mk0 : (List Int) → α) (n : Nat) (rc : Int → (List Int) → (List Int) → Option α)  (x0 : Int) (x1 : (List Int)) (x2 : (List Int)) : Option α :=
  if (decide (x0 < 32)) = true then
   if 0 ≤ (IntKind.wrap .i64 (Int.tdiv x0 8)) then
    if (IntKind.wrap .i64 (Int.tdiv x0 8)) < 4 then
     if 0 ≤ (IntKind.wrap .i64 ((Int.tmod x0 8) * 8)) then
      if 0 ≤ (IntKind.wrap .i64 (31 - x0)) then
       if (IntKind.wrap .i64 (31 - x0)) < (((List.length x1) : Nat) : Int) then
        rc (IntKind.wrap .i64 (x0 + 1)) (List.set x1 (Int.toNat (IntKind.wrap .i64 (31 - x0))) (IntKind.wrap .u8 (ishr .u64 (List.getD x2 (Int.toNat (IntKind.wrap .i64 (Int.tdiv x0 8))) 0) (IntKind.wrap .i64 ((Int.tmod x0 8) * 8))))) x2
       else
        none
      else
       none
     else
      none
    else
     none
   else
    none
  else
   some (mk0 x1)
def word_Bytes.l3_0.g {α : Type} (mk0 : (List Int) → α) (n : Nat) : Nat → Int → (List Int) → (List Int) → Option α
 | 0, _, _, _ => none
 | m + 1, x0, x1, x2 => word_Bytes.l3_0.r mk0 n (fun y0 y1 y2 => word_Bytes.l3_0.g mk0 n m y0 y1 y2)  x0 x1 x2
def word_Bytes.l3_0.m (n m : Nat) (t : (Int × ((List Int) × (List Int)))) : Option (List Int) := word_Bytes.l3_0.g (fun a0 => a0) n m t.1 t.2.1 t.2.2
def word_Bytes.l3_0.pat : St → Option (Int × ((List Int) × (List Int)))
 | (St.mk [(.int .i64 x0), (.own 0 1), (.ptr 1 [])] [(some (.ints .u8 x1)), (some (.var (.ints .u64 4 x2)))]) => some (x0, x1, x2)
 | _ => none
def word_Bytes.l3_0.shape (t : (Int × ((List Int) × (List Int)))) : St := (St.mk [(.int .i64 t.1), (.own 0 1), (.ptr 1 [])] [(some (.ints .u8 t.2.1)), (some (.var (.ints .u64 4 t.2.2)))])
def word_Bytes.l3_0.res : (List Int) → Ex × St
 | u => (Prod.mk (.exit 0) (St.mk [(.own 0 1)] [(some (.ints .u8 u))]))
def word_Bytes.l3_0.resK {R : Type} (u : (List Int)) (K : Ex → St → Option R) : Option R := (fun p : Ex × St => K p.1 p.2) (Prod.mk (.exit 0) (St.mk [(.own 0 1)] [(some (.ints .u8 u))]))
noncomputable def word_Bytes.A (n : Nat) : Ann := ⟨Tryd.f56.ntmps, 0, word_Bytes.live, [(3, (.ints .u8))], [(some (.ints .u8))], fun k => match k with
 | 3 => some (.mk' word_Bytes.l3_0.pat (word_Bytes.l3_0.m n n) word_Bytes.l3_0.resK)
 | _ => none, word_Bytes.jlive, lookJ []⟩
noncomputable def word_Bytes.b0 : Code := (loopsIn (Tryd.f56.body.getD .skip)).getD 0 .skip
def word_Bytes.g {α : Type} (mk0 : (List Int) → α) (n : Nat) (a0 : (List Int)) : Option α :=
 bindO (word_Bytes.l3_0.m n n (0, ([0, 0, 0, 0, 0, 0, 0, 0, 0, 0, 0, 0, 0, 0, 0, 0, 0, 0, 0, 0, 0, 0, 0, 0, 0, 0, 0, 0, 0, 0, 0, 0] : List Int), a0)) fun r2 =>
  some (mk0 r2)
def word_Bytes.m (n : Nat) (t : (List Int)) : Option (List Int) := word_Bytes.g (fun a0 => a0) n t
def word_Bytes.pat : List AV → Blks → Option (List Int)
 | [(.ints .u64 4 a0)], [] => some a0
 | _, _ => none
def word_Bytes.shape (t : (List Int)) : List AV × Blks := ([(.ints .u64 4 t)], [])
def word_Bytes.res : (List Int) → AV × Blks
 | u => (Prod.mk (.own 0 1) [(some (.ints .u8 u))])
def word_Bytes.resK {R : Type} (u : (List Int)) (K : AV → Blks → Option R) : Option R := (fun p : AV × Blks => K p.1 p.2) (Prod.mk (.own 0 1) [(some (.ints .u8 u))])
def word_Bytes.c (n : Nat) : Abs.Callee := .mk' [] [none] word_Bytes.pat (word_Bytes.m n) word_Bytes.resK
end
end
section
theorem word_Bytes.l3_0.rmap {α β : Type} (h : β → α) (mk0 : (List Int) → β) (n : Nat) (f : Int → (List Int) → (List Int) → Option β)  (x0 : Int) (x1 : (List Int)) (x2 : (List Int)) : word_Bytes.l3_0.r (fun a0 => (h (mk0 a0))) n (fun y0 y1 y2 => (f y0 y1 y2).map h) x0 x1 x2 = (word_Bytes.l3_0.r mk0 n f x0 x1 x2).map h := by
  unfold word_Bytes.l3_0.r
  exact (ite_map (ite_map (ite_map (ite_map (ite_map (ite_map rfl rfl) rfl) rfl) rfl) rfl) rfl)
theorem word_Bytes.l3_0.gmap {α β : Type} (h : β → α) (mk0 : (List Int) → β) (n : Nat) : ∀ (m : Nat) (x0 : Int) (x1 : (List Int)) (x2 : (List Int)), word_Bytes.l3_0.g (fun a0 => (h (mk0 a0))) n m x0 x1 x2 = (word_Bytes.l3_0.g mk0 n m x0 x1 x2).map h
  | 0, _, _, _ => rfl
  | m + 1, x0, x1, x2 => by
    unfold word_Bytes.l3_0.g
    rw [← word_Bytes.l3_0.rmap]
    congr
    · funext y0 y1 y2; exact word_Bytes.l3_0.gmap h mk0 n m y0 y1 y2
theorem word_Bytes.l3_0.pat_shape : ∀ st t, word_Bytes.l3_0.pat st = some t → st = word_Bytes.l3_0.shape t := by
  intro st t h
  unfold word_Bytes.l3_0.pat at h
  split at h
  · cases h; rfl
  · cases h
theorem word_Bytes.l3_0.round (n : Nat) (rc : St → Option (Ex × St)) (x0 : Int) (x1 : (List Int)) (x2 : (List Int)) : roundOf (word_Bytes.C n) (word_Bytes.A n) n word_Bytes.b0 rc ((St.mk [(.int .i64 x0), (.own 0 1), (.ptr 1 [])] [(some (.ints .u8 x1)), (some (.var (.ints .u64 4 x2)))])) = word_Bytes.l3_0.r (fun a0 => ((Prod.mk (.exit 0) (St.mk [(.own 0 1)] [(some (.ints .u8 a0))])) : Ex × St)) n (fun y0 y1 y2 => rc ((St.mk [(.int .i64 y0), (.own 0 1), (.ptr 1 [])] [(some (.ints .u8 y1)), (some (.var (.ints .u64 4 y2)))]))) x0 x1 x2 := by kernel_rfl
theorem word_Bytes.l3_0.loop' (n : Nat) : ∀ (m : Nat) (t : (Int × ((List Int) × (List Int)))), loopOf (roundOf (word_Bytes.C n) (word_Bytes.A n) n word_Bytes.b0) m (word_Bytes.l3_0.shape t) = word_Bytes.l3_0.g (fun a0 => ((Prod.mk (.exit 0) (St.mk [(.own 0 1)] [(some (.ints .u8 a0))])) : Ex × St)) n m t.1 t.2.1 t.2.2 :=
  loop_of_round (shape := word_Bytes.l3_0.shape) (body := roundOf (word_Bytes.C n) (word_Bytes.A n) n word_Bytes.b0) (g := fun m t => word_Bytes.l3_0.g (fun a0 => ((Prod.mk (.exit 0) (St.mk [(.own 0 1)] [(some (.ints .u8 a0))])) : Ex × St)) n m t.1 t.2.1 t.2.2) (fun t => rfl)
    fun m t ih => (word_Bytes.l3_0.round n (loopOf (roundOf (word_Bytes.C n) (word_Bytes.A n) n word_Bytes.b0) m) t.1 t.2.1 t.2.2).trans (congrFun (congrFun (congrFun (congrArg (word_Bytes.l3_0.r (fun a0 => ((Prod.mk (.exit 0) (St.mk [(.own 0 1)] [(some (.ints .u8 a0))])) : Ex × St)) n) (funext fun y0 => funext fun y1 => funext fun y2 => ih (y0, y1, y2))) t.1) t.2.1) t.2.2)
theorem word_Bytes.l3_0.loop (n m : Nat) (t : (Int × ((List Int) × (List Int)))) : loopOf (roundOf (word_Bytes.C n) (word_Bytes.A n) n word_Bytes.b0) m (word_Bytes.l3_0.shape t) = (word_Bytes.l3_0.m n m t).map word_Bytes.l3_0.res :=
  (word_Bytes.l3_0.loop' n m t).trans (word_Bytes.l3_0.gmap word_Bytes.l3_0.res (fun a0 => a0) n m t.1 t.2.1 t.2.2)
theorem word_Bytes.gmap {α β : Type} (h : β → α) (mk0 : (List Int) → β) (n : Nat) (a0 : (List Int)) : word_Bytes.g (fun a0 => (h (mk0 a0))) n a0 = (word_Bytes.g mk0 n a0).map h := by
  unfold word_Bytes.g
  exact (bindO_map fun r2 => rfl)
theorem word_Bytes.run (n : Nat) (a0 : (List Int)) : runF (word_Bytes.C n) (word_Bytes.A n) n Tryd.f56 [(.ints .u64 4 a0)] [] (fun v o => some (v, o)) = word_Bytes.g (fun a0 => ((Prod.mk (.own 0 1) [(some (.ints .u8 a0))]) : AV × Blks)) n a0 := by kernel_rfl
theorem word_Bytes.call (hmix : Tryd.prog.follows .mixedOrders = true) (n : Nat) (t : (List Int)) (u) (h : word_Bytes.m n t = some u) : FnC Tryd.prog abiG 56 (word_Bytes.shape t).1 (word_Bytes.shape t).2 (word_Bytes.res u).1 (word_Bytes.res u).2 := by
  have hg : ∀ f m, (word_Bytes.C n).Γ f = some m → CalleeS Tryd.prog abiG f m := by
    intro f m hm
    unfold word_Bytes.C at hm
    simp only at hm
    first
    | (cases hm; done)
    | (split at hm <;> first
    | (cases hm; done))
  have hb : Tryd.f56.body = some (Tryd.f56.body.getD .skip) := by kernel_rfl
  refine runF_calls (C := word_Bytes.C n) (A := word_Bytes.A n) (n := n) (fn := Tryd.f56) hg hmix Tryd.func56 hb ?_ ?_ (by decide) rfl rfl (by show 1 ≤ Tryd.f56.ntmps; decide) ?_
  · rw [show loopsIn (Tryd.f56.body.getD .skip) = [word_Bytes.b0] by kernel_rfl]
    intro b hb m hm
    simp only [List.mem_cons, List.not_mem_nil, or_false] at hb
    rcases hb with rfl
    · have e : (word_Bytes.A n).loop (key word_Bytes.b0) = some (.mk' word_Bytes.l3_0.pat (word_Bytes.l3_0.m n n) word_Bytes.l3_0.resK) := by rw [show key word_Bytes.b0 = 3 by kernel_rfl]; rfl
      rw [e] at hm
      cases hm
      exact (LoopS.of (res := word_Bytes.l3_0.res) (fun R u K => rfl) word_Bytes.l3_0.pat_shape fun t => word_Bytes.l3_0.loop n n t)
  · intro a ha m hm
    cases (show none = some m from hm)
  · rw [show runF (word_Bytes.C n) (word_Bytes.A n) n Tryd.f56 (word_Bytes.shape t).1 (word_Bytes.shape t).2 (fun v o => some (v, o)) = _ from word_Bytes.run n t]
    have e := word_Bytes.gmap word_Bytes.res (fun a0 => a0) n t
    unfold word_Bytes.m at h
    rw [h] at e
    exact e
theorem word_Bytes.s (hmix : Tryd.prog.follows .mixedOrders = true) (n : Nat) : CalleeS Tryd.prog abiG 56 (word_Bytes.c n) :=
  CalleeS.of (res := word_Bytes.res) (shape := word_Bytes.shape) (fun R u K => rfl) (fun args lent t h => by
    unfold word_Bytes.pat at h
    split at h
    · cases h; rfl
    · cases h) fun t u h => (word_Bytes.call hmix n t u h).ok Tryd.func56 (by decide) (by kernel_rfl)
end
section
noncomputable section
noncomputable def word_Read.C (n : Nat) : Ctx := ⟨Tryd.prog, abiG, fun f => match f with
 | _ => none, fun _ => false⟩
def word_Read.live : Nat → List Nat × List Nat := fun k => match k with
 | 4 => ([13, 12, 3, 0, 2], [3, 2])
 | _ => ([], [])
def word_Read.jlive : Nat → List Nat × List Nat := fun k => match k with
 | _ => ([], [])
def word_Read.l4_0.r {α : Type} (mk0 : (List Int) → (List Int) → α) (n : Nat) (rc : Int → Int → (List Int) → (List Int) → (List Int) → Option α)  (x0 : Int) (x1 : Int) (x2 : (List Int)) (x3 : (List Int)) (x4 : (List Int)) : Option α :=
  if (decide (x0 < x1)) = true then
   if 0 ≤ (IntKind.wrap .i64 (Int.tdiv x0 8)) then
    if (IntKind.wrap .i64 (Int.tdiv x0 8)) < 4 then
     if 0 ≤ (IntKind.wrap .i64 ((IntKind.wrap .i64 ((((List.length x2) : Nat) : Int) - 1)) - x0)) then
      if (IntKind.wrap .i64 ((IntKind.wrap .i64 ((((List.length x2) : Nat) : Int) - 1)) - x0)) < (((List.length x2) : Nat) : Int) then
       if 0 ≤ (IntKind.wrap .i64 ((Int.tmod x0 8) * 8)) then
        if 0 ≤ (IntKind.wrap .i64 (Int.tdiv x0 8)) then
         if (IntKind.wrap .i64 (Int.tdiv x0 8)) < 4 then
          rc (IntKind.wrap .i64 (x0 + 1)) x1 x2 (List.set x3 (Int.toNat (IntKind.wrap .i64 (Int.tdiv x0 8))) (ibits BinOp.or .u64 (List.getD x3 (Int.toNat (IntKind.wrap .i64 (Int.tdiv x0 8))) 0) (ishl .u64 (IntKind.wrap .u64 (List.getD x2 (Int.toNat (IntKind.wrap .i64 ((IntKind.wrap .i64 ((((List.length x2) : Nat) : Int) - 1)) - x0))) 0)) (IntKind.wrap .i64 ((Int.tmod x0 8) * 8))))) x4
         else
          none
        else
         none
       else
        none
      else
       none
     else
      none
    else
     none
   else
    none
  else
   some (mk0 x3 x4)
def word_Read.l4_0.g {α : Type} (mk0 : (List Int) → (List Int) → α) (n : Nat) : Nat → Int → Int → (List Int) → (List Int) → (List Int) → Option α
 | 0, _, _, _, _, _ => none
 | m + 1, x0, x1, x2, x3, x4 => word_Read.l4_0.r mk0 n (fun y0 y1 y2 y3 y4 => word_Read.l4_0.g mk0 n m y0 y1 y2 y3 y4)  x0 x1 x2 x3 x4
def word_Read.l4_0.m (n m : Nat) (t : (Int × (Int × ((List Int) × ((List Int) × (List Int)))))) : Option ((List Int) × (List Int)) := word_Read.l4_0.g (fun a0 a1 => (a0, a1)) n m t.1 t.2.1 t.2.2.1 t.2.2.2.1 t.2.2.2.2
def word_Read.l4_0.pat : St → Option (Int × (Int × ((List Int) × ((List Int) × (List Int)))))
 | (St.mk [(.int .i64 x0), (.int .i64 x1), (.ptr 0 []), (.rints .u8 x2), (.ptr 1 [])] [(some (.var (.ints .u64 4 x3))), (some (.var (.ints .u64 4 x4)))]) => some (x0, x1, x2, x3, x4)
 | _ => none
def word_Read.l4_0.shape (t : (Int × (Int × ((List Int) × ((List Int) × (List Int)))))) : St := (St.mk [(.int .i64 t.1), (.int .i64 t.2.1), (.ptr 0 []), (.rints .u8 t.2.2.1), (.ptr 1 [])] [(some (.var (.ints .u64 4 t.2.2.2.1))), (some (.var (.ints .u64 4 t.2.2.2.2)))])
def word_Read.l4_0.res : ((List Int) × (List Int)) → Ex × St
 | u => (Prod.mk (.exit 0) (St.mk [(.ptr 0 []), (.ptr 1 [])] [(some (.var (.ints .u64 4 u.1))), (some (.var (.ints .u64 4 u.2)))]))
def word_Read.l4_0.resK {R : Type} (u : ((List Int) × (List Int))) (K : Ex → St → Option R) : Option R := (fun p : Ex × St => K p.1 p.2) (Prod.mk (.exit 0) (St.mk [(.ptr 0 []), (.ptr 1 [])] [(some (.var (.ints .u64 4 u.1))), (some (.var (.ints .u64 4 u.2)))]))
noncomputable def word_Read.A (n : Nat) : Ann := ⟨Tryd.f89.ntmps, 0, word_Read.live, [(0, (.ints .u8))], [none], fun k => match k with
 | 4 => some (.mk' word_Read.l4_0.pat (word_Read.l4_0.m n n) word_Read.l4_0.resK)
 | _ => none, word_Read.jlive, lookJ []⟩
noncomputable def word_Read.b0 : Code := (loopsIn (Tryd.f89.body.getD .skip)).getD 0 .skip
def word_Read.g {α : Type} (mk0 : (List Int) → α) (n : Nat) (a0 : (List Int)) : Option α :=
 if 0 ≤ (if 0 > (IntKind.wrap .i64 ((((List.length a0) : Nat) : Int) - 32)) then 0 else (IntKind.wrap .i64 ((((List.length a0) : Nat) : Int) - 32))) then
  if (if 0 > (IntKind.wrap .i64 ((((List.length a0) : Nat) : Int) - 32)) then 0 else (IntKind.wrap .i64 ((((List.length a0) : Nat) : Int) - 32))) ≤ (((List.length a0) : Nat) : Int) then
   bindO (word_Read.l4_0.m n n (0, (((List.length (Go.Abs.cut a0 (Int.toNat (if 0 > (IntKind.wrap .i64 ((((List.length a0) : Nat) : Int) - 32)) then 0 else (IntKind.wrap .i64 ((((List.length a0) : Nat) : Int) - 32)))) (Option.none))) : Nat) : Int), (Go.Abs.cut a0 (Int.toNat (if 0 > (IntKind.wrap .i64 ((((List.length a0) : Nat) : Int) - 32)) then 0 else (IntKind.wrap .i64 ((((List.length a0) : Nat) : Int) - 32)))) (Option.none)), [0, 0, 0, 0], [0, 0, 0, 0])) fun r6 =>
    some (mk0 (Prod.fst r6))
  else
   none
 else
  none
def word_Read.m (n : Nat) (t : (List Int)) : Option (List Int) := word_Read.g (fun a0 => a0) n t
def word_Read.pat : List AV → Blks → Option (List Int)
 | [(.rints .u8 a0)], [] => some a0
 | _, _ => none
def word_Read.shape (t : (List Int)) : List AV × Blks := ([(.rints .u8 t)], [])
def word_Read.res : (List Int) → AV × Blks
 | u => (Prod.mk (.ints .u64 4 u) [])
def word_Read.resK {R : Type} (u : (List Int)) (K : AV → Blks → Option R) : Option R := (fun p : AV × Blks => K p.1 p.2) (Prod.mk (.ints .u64 4 u) [])
def word_Read.c (n : Nat) : Abs.Callee := .mk' [] [(some (.ints .u8))] word_Read.pat (word_Read.m n) word_Read.resK
end
end
section
theorem word_Read.l4_0.rmap {α β : Type} (h : β → α) (mk0 : (List Int) → (List Int) → β) (n : Nat) (f : Int → Int → (List Int) → (List Int) → (List Int) → Option β)  (x0 : Int) (x1 : Int) (x2 : (List Int)) (x3 : (List Int)) (x4 : (List Int)) : word_Read.l4_0.r (fun a0 a1 => (h (mk0 a0 a1))) n (fun y0 y1 y2 y3 y4 => (f y0 y1 y2 y3 y4).map h) x0 x1 x2 x3 x4 = (word_Read.l4_0.r mk0 n f x0 x1 x2 x3 x4).map h := by
  unfold word_Read.l4_0.r
  exact (ite_map (ite_map (ite_map (ite_map (ite_map (ite_map (ite_map (ite_map rfl rfl) rfl) rfl) rfl) rfl) rfl) rfl) rfl)
theorem word_Read.l4_0.gmap {α β : Type} (h : β → α) (mk0 : (List Int) → (List Int) → β) (n : Nat) : ∀ (m : Nat) (x0 : Int) (x1 : Int) (x2 : (List Int)) (x3 : (List Int)) (x4 : (List Int)), word_Read.l4_0.g (fun a0 a1 => (h (mk0 a0 a1))) n m x0 x1 x2 x3 x4 = (word_Read.l4_0.g mk0 n m x0 x1 x2 x3 x4).map h
  | 0, _, _, _, _, _ => rfl
  | m + 1, x0, x1, x2, x3, x4 => by
    unfold word_Read.l4_0.g
    rw [← word_Read.l4_0.rmap]
    congr
    · funext y0 y1 y2 y3 y4; exact word_Read.l4_0.gmap h mk0 n m y0 y1 y2 y3 y4
theorem word_Read.l4_0.pat_shape : ∀ st t, word_Read.l4_0.pat st = some t → st = word_Read.l4_0.shape t := by
  intro st t h
  unfold word_Read.l4_0.pat at h
  split at h
  · cases h; rfl
  · cases h
theorem word_Read.l4_0.round (n : Nat) (rc : St → Option (Ex × St)) (x0 : Int) (x1 : Int) (x2 : (List Int)) (x3 : (List Int)) (x4 : (List Int)) : roundOf (word_Read.C n) (word_Read.A n) n word_Read.b0 rc ((St.mk [(.int .i64 x0), (.int .i64 x1), (.ptr 0 []), (.rints .u8 x2), (.ptr 1 [])] [(some (.var (.ints .u64 4 x3))), (some (.var (.ints .u64 4 x4)))])) = word_Read.l4_0.r (fun a0 a1 => ((Prod.mk (.exit 0) (St.mk [(.ptr 0 []), (.ptr 1 [])] [(some (.var (.ints .u64 4 a0))), (some (.var (.ints .u64 4 a1)))])) : Ex × St)) n (fun y0 y1 y2 y3 y4 => rc ((St.mk [(.int .i64 y0), (.int .i64 y1), (.ptr 0 []), (.rints .u8 y2), (.ptr 1 [])] [(some (.var (.ints .u64 4 y3))), (some (.var (.ints .u64 4 y4)))]))) x0 x1 x2 x3 x4 := by kernel_rfl
theorem word_Read.l4_0.loop' (n : Nat) : ∀ (m : Nat) (t : (Int × (Int × ((List Int) × ((List Int) × (List Int)))))), loopOf (roundOf (word_Read.C n) (word_Read.A n) n word_Read.b0) m (word_Read.l4_0.shape t) = word_Read.l4_0.g (fun a0 a1 => ((Prod.mk (.exit 0) (St.mk [(.ptr 0 []), (.ptr 1 [])] [(some (.var (.ints .u64 4 a0))), (some (.var (.ints .u64 4 a1)))])) : Ex × St)) n m t.1 t.2.1 t.2.2.1 t.2.2.2.1 t.2.2.2.2 :=
  loop_of_round (shape := word_Read.l4_0.shape) (body := roundOf (word_Read.C n) (word_Read.A n) n word_Read.b0) (g := fun m t => word_Read.l4_0.g (fun a0 a1 => ((Prod.mk (.exit 0) (St.mk [(.ptr 0 []), (.ptr 1 [])] [(some (.var (.ints .u64 4 a0))), (some (.var (.ints .u64 4 a1)))])) : Ex × St)) n m t.1 t.2.1 t.2.2.1 t.2.2.2.1 t.2.2.2.2) (fun t => rfl)
    fun m t ih => (word_Read.l4_0.round n (loopOf (roundOf (word_Read.C n) (word_Read.A n) n word_Read.b0) m) t.1 t.2.1 t.2.2.1 t.2.2.2.1 t.2.2.2.2).trans (congrFun (congrFun (congrFun (congrFun (congrFun (congrArg (word_Read.l4_0.r (fun a0 a1 => ((Prod.mk (.exit 0) (St.mk [(.ptr 0 []), (.ptr 1 [])] [(some (.var (.ints .u64 4 a0))), (some (.var (.ints .u64 4 a1)))])) : Ex × St)) n) (funext fun y0 => funext fun y1 => funext fun y2 => funext fun y3 => funext fun y4 => ih (y0, y1, y2, y3, y4))) t.1) t.2.1) t.2.2.1) t.2.2.2.1) t.2.2.2.2)
theorem word_Read.l4_0.loop (n m : Nat) (t : (Int × (Int × ((List Int) × ((List Int) × (List Int)))))) : loopOf (roundOf (word_Read.C n) (word_Read.A n) n word_Read.b0) m (word_Read.l4_0.shape t) = (word_Read.l4_0.m n m t).map word_Read.l4_0.res :=
  (word_Read.l4_0.loop' n m t).trans (word_Read.l4_0.gmap word_Read.l4_0.res (fun a0 a1 => (a0, a1)) n m t.1 t.2.1 t.2.2.1 t.2.2.2.1 t.2.2.2.2)
theorem word_Read.gmap {α β : Type} (h : β → α) (mk0 : (List Int) → β) (n : Nat) (a0 : (List Int)) : word_Read.g (fun a0 => (h (mk0 a0))) n a0 = (word_Read.g mk0 n a0).map h := by
  unfold word_Read.g
  exact (ite_map (ite_map (bindO_map fun r6 => rfl) rfl) rfl)
theorem word_Read.run (n : Nat) (a0 : (List Int)) : runF (word_Read.C n) (word_Read.A n) n Tryd.f89 [(.rints .u8 a0)] [] (fun v o => some (v, o)) = word_Read.g (fun a0 => ((Prod.mk (.ints .u64 4 a0) []) : AV × Blks)) n a0 := by kernel_rfl
theorem word_Read.call (hmix : Tryd.prog.follows .mixedOrders = true) (n : Nat) (t : (List Int)) (u) (h : word_Read.m n t = some u) : FnC Tryd.prog abiG 89 (word_Read.shape t).1 (word_Read.shape t).2 (word_Read.res u).1 (word_Read.res u).2 := by
  have hg : ∀ f m, (word_Read.C n).Γ f = some m → CalleeS Tryd.prog abiG f m := by
    intro f m hm
    unfold word_Read.C at hm
    simp only at hm
    first
    | (cases hm; done)
    | (split at hm <;> first
    | (cases hm; done))
  have hb : Tryd.f89.body = some (Tryd.f89.body.getD .skip) := by kernel_rfl
  refine runF_calls (C := word_Read.C n) (A := word_Read.A n) (n := n) (fn := Tryd.f89) hg hmix Tryd.func89 hb ?_ ?_ (by decide) rfl rfl (by show 1 ≤ Tryd.f89.ntmps; decide) ?_
  · rw [show loopsIn (Tryd.f89.body.getD .skip) = [word_Read.b0] by kernel_rfl]
    intro b hb m hm
    simp only [List.mem_cons, List.not_mem_nil, or_false] at hb
    rcases hb with rfl
    · have e : (word_Read.A n).loop (key word_Read.b0) = some (.mk' word_Read.l4_0.pat (word_Read.l4_0.m n n) word_Read.l4_0.resK) := by rw [show key word_Read.b0 = 4 by kernel_rfl]; rfl
      rw [e] at hm
      cases hm
      exact (LoopS.of (res := word_Read.l4_0.res) (fun R u K => rfl) word_Read.l4_0.pat_shape fun t => word_Read.l4_0.loop n n t)
  · intro a ha m hm
    cases (show none = some m from hm)
  · rw [show runF (word_Read.C n) (word_Read.A n) n Tryd.f89 (word_Read.shape t).1 (word_Read.shape t).2 (fun v o => some (v, o)) = _ from word_Read.run n t]
    have e := word_Read.gmap word_Read.res (fun a0 => a0) n t
    unfold word_Read.m at h
    rw [h] at e
    exact e
theorem word_Read.s (hmix : Tryd.prog.follows .mixedOrders = true) (n : Nat) : CalleeS Tryd.prog abiG 89 (word_Read.c n) :=
  CalleeS.of (res := word_Read.res) (shape := word_Read.shape) (fun R u K => rfl) (fun args lent t h => by
    unfold word_Read.pat at h
    split at h
    · cases h; rfl
    · cases h) fun t u h => (word_Read.call hmix n t u h).ok Tryd.func89 (by decide) (by kernel_rfl)
end
section
noncomputable section
noncomputable def q01_Read.C (n : Nat) : Ctx := ⟨Tryd.prog, abiG, fun f => match f with
 | _ => none, fun _ => false⟩
def q01_Read.live : Nat → List Nat × List Nat := fun k => match k with
 | 4 => ([5, 4, 3, 0, 2], [3, 2])
 | _ => ([], [])
def q01_Read.jlive : Nat → List Nat × List Nat := fun k => match k with
 | _ => ([], [])
def q01_Read.l4_0.r {α : Type} (mk0 : (List Int) → (List Int) → α) (n : Nat) (rc : Int → Int → (List Int) → (List Int) → (List Int) → Option α)  (x0 : Int) (x1 : Int) (x2 : (List Int)) (x3 : (List Int)) (x4 : (List Int)) : Option α :=
  if (decide (x0 < 32)) = true then
   if (decide (x0 < x1)) = true then
    if 0 ≤ (IntKind.wrap .i64 (Int.tdiv x0 8)) then
     if (IntKind.wrap .i64 (Int.tdiv x0 8)) < 4 then
      if 0 ≤ (IntKind.wrap .i64 ((IntKind.wrap .i64 (x1 - 1)) - x0)) then
       if (IntKind.wrap .i64 ((IntKind.wrap .i64 (x1 - 1)) - x0)) < (((List.length x2) : Nat) : Int) then
        if 0 ≤ (IntKind.wrap .u64 (IntKind.wrap .i64 ((Int.tmod x0 8) * 8))) then
         if 0 ≤ (IntKind.wrap .i64 (Int.tdiv x0 8)) then
          if (IntKind.wrap .i64 (Int.tdiv x0 8)) < 4 then
           rc (IntKind.wrap .i64 (x0 + 1)) x1 x2 (List.set x3 (Int.toNat (IntKind.wrap .i64 (Int.tdiv x0 8))) (ibits BinOp.or .u64 (List.getD x3 (Int.toNat (IntKind.wrap .i64 (Int.tdiv x0 8))) 0) (ishl .u64 (IntKind.wrap .u64 (List.getD x2 (Int.toNat (IntKind.wrap .i64 ((IntKind.wrap .i64 (x1 - 1)) - x0))) 0)) (IntKind.wrap .u64 (IntKind.wrap .i64 ((Int.tmod x0 8) * 8)))))) x4
          else
           none
         else
          none
        else
         none
       else
        none
      else
       none
     else
      none
    else
     none
   else
    some (mk0 x3 x4)
  else
   some (mk0 x3 x4)
def q01_Read.l4_0.g {α : Type} (mk0 : (List Int) → (List Int) → α) (n : Nat) : Nat → Int → Int → (List Int) → (List Int) → (List Int) → Option α
 | 0, _, _, _, _, _ => none
 | m + 1, x0, x1, x2, x3, x4 => q01_Read.l4_0.r mk0 n (fun y0 y1 y2 y3 y4 => q01_Read.l4_0.g mk0 n m y0 y1 y2 y3 y4)  x0 x1 x2 x3 x4
def q01_Read.l4_0.m (n m : Nat) (t : (Int × (Int × ((List Int) × ((List Int) × (List Int)))))) : Option ((List Int) × (List Int)) := q01_Read.l4_0.g (fun a0 a1 => (a0, a1)) n m t.1 t.2.1 t.2.2.1 t.2.2.2.1 t.2.2.2.2
def q01_Read.l4_0.pat : St → Option (Int × (Int × ((List Int) × ((List Int) × (List Int)))))
 | (St.mk [(.int .i64 x0), (.int .i64 x1), (.ptr 0 []), (.rints .u8 x2), (.ptr 1 [])] [(some (.var (.ints .u64 4 x3))), (some (.var (.ints .u64 4 x4)))]) => some (x0, x1, x2, x3, x4)
 | _ => none
def q01_Read.l4_0.shape (t : (Int × (Int × ((List Int) × ((List Int) × (List Int)))))) : St := (St.mk [(.int .i64 t.1), (.int .i64 t.2.1), (.ptr 0 []), (.rints .u8 t.2.2.1), (.ptr 1 [])] [(some (.var (.ints .u64 4 t.2.2.2.1))), (some (.var (.ints .u64 4 t.2.2.2.2)))])
def q01_Read.l4_0.res : ((List Int) × (List Int)) → Ex × St
 | u => (Prod.mk (.exit 0) (St.mk [(.ptr 0 []), (.ptr 1 [])] [(some (.var (.ints .u64 4 u.1))), (some (.var (.ints .u64 4 u.2)))]))
def q01_Read.l4_0.resK {R : Type} (u : ((List Int) × (List Int))) (K : Ex → St → Option R) : Option R := (fun p : Ex × St => K p.1 p.2) (Prod.mk (.exit 0) (St.mk [(.ptr 0 []), (.ptr 1 [])] [(some (.var (.ints .u64 4 u.1))), (some (.var (.ints .u64 4 u.2)))]))
noncomputable def q01_Read.A (n : Nat) : Ann := ⟨Tryd.f65.ntmps, 0, q01_Read.live, [(0, (.ints .u8))], [none], fun k => match k with
 | 4 => some (.mk' q01_Read.l4_0.pat (q01_Read.l4_0.m n n) q01_Read.l4_0.resK)
 | _ => none, q01_Read.jlive, lookJ []⟩
noncomputable def q01_Read.b0 : Code := (loopsIn (Tryd.f65.body.getD .skip)).getD 0 .skip
def q01_Read.g {α : Type} (mk0 : (List Int) → α) (n : Nat) (a0 : (List Int)) : Option α :=
 bindO (q01_Read.l4_0.m n n (0, (((List.length a0) : Nat) : Int), a0, [0, 0, 0, 0], [0, 0, 0, 0])) fun r2 =>
  some (mk0 (Prod.fst r2))
def q01_Read.m (n : Nat) (t : (List Int)) : Option (List Int) := q01_Read.g (fun a0 => a0) n t
def q01_Read.pat : List AV → Blks → Option (List Int)
 | [(.rints .u8 a0)], [] => some a0
 | _, _ => none
def q01_Read.shape (t : (List Int)) : List AV × Blks := ([(.rints .u8 t)], [])
def q01_Read.res : (List Int) → AV × Blks
 | u => (Prod.mk (.ints .u64 4 u) [])
def q01_Read.resK {R : Type} (u : (List Int)) (K : AV → Blks → Option R) : Option R := (fun p : AV × Blks => K p.1 p.2) (Prod.mk (.ints .u64 4 u) [])
def q01_Read.c (n : Nat) : Abs.Callee := .mk' [] [(some (.ints .u8))] q01_Read.pat (q01_Read.m n) q01_Read.resK
end
end
section
theorem q01_Read.l4_0.rmap {α β : Type} (h : β → α) (mk0 : (List Int) → (List Int) → β) (n : Nat) (f : Int → Int → (List Int) → (List Int) → (List Int) → Option β)  (x0 : Int) (x1 : Int) (x2 : (List Int)) (x3 : (List Int)) (x4 : (List Int)) : q01_Read.l4_0.r (fun a0 a1 => (h (mk0 a0 a1))) n (fun y0 y1 y2 y3 y4 => (f y0 y1 y2 y3 y4).map h) x0 x1 x2 x3 x4 = (q01_Read.l4_0.r mk0 n f x0 x1 x2 x3 x4).map h := by
  unfold q01_Read.l4_0.r
  exact (ite_map (ite_map (ite_map (ite_map (ite_map (ite_map (ite_map (ite_map (ite_map rfl rfl) rfl) rfl) rfl) rfl) rfl) rfl) rfl) rfl)
theorem q01_Read.l4_0.gmap {α β : Type} (h : β → α) (mk0 : (List Int) → (List Int) → β) (n : Nat) : ∀ (m : Nat) (x0 : Int) (x1 : Int) (x2 : (List Int)) (x3 : (List Int)) (x4 : (List Int)), q01_Read.l4_0.g (fun a0 a1 => (h (mk0 a0 a1))) n m x0 x1 x2 x3 x4 = (q01_Read.l4_0.g mk0 n m x0 x1 x2 x3 x4).map h
  | 0, _, _, _, _, _ => rfl
  | m + 1, x0, x1, x2, x3, x4 => by
    unfold q01_Read.l4_0.g
    rw [← q01_Read.l4_0.rmap]
    congr
    · funext y0 y1 y2 y3 y4; exact q01_Read.l4_0.gmap h mk0 n m y0 y1 y2 y3 y4
theorem q01_Read.l4_0.pat_shape : ∀ st t, q01_Read.l4_0.pat st = some t → st = q01_Read.l4_0.shape t := by
  intro st t h
  unfold q01_Read.l4_0.pat at h
  split at h
  · cases h; rfl
  · cases h
theorem q01_Read.l4_0.round (n : Nat) (rc : St → Option (Ex × St)) (x0 : Int) (x1 : Int) (x2 : (List Int)) (x3 : (List Int)) (x4 : (List Int)) : roundOf (q01_Read.C n) (q01_Read.A n) n q01_Read.b0 rc ((St.mk [(.int .i64 x0), (.int .i64 x1), (.ptr 0 []), (.rints .u8 x2), (.ptr 1 [])] [(some (.var (.ints .u64 4 x3))), (some (.var (.ints .u64 4 x4)))])) = q01_Read.l4_0.r (fun a0 a1 => ((Prod.mk (.exit 0) (St.mk [(.ptr 0 []), (.ptr 1 [])] [(some (.var (.ints .u64 4 a0))), (some (.var (.ints .u64 4 a1)))])) : Ex × St)) n (fun y0 y1 y2 y3 y4 => rc ((St.mk [(.int .i64 y0), (.int .i64 y1), (.ptr 0 []), (.rints .u8 y2), (.ptr 1 [])] [(some (.var (.ints .u64 4 y3))), (some (.var (.ints .u64 4 y4)))]))) x0 x1 x2 x3 x4 := by kernel_rfl
theorem q01_Read.l4_0.loop' (n : Nat) : ∀ (m : Nat) (t : (Int × (Int × ((List Int) × ((List Int) × (List Int)))))), loopOf (roundOf (q01_Read.C n) (q01_Read.A n) n q01_Read.b0) m (q01_Read.l4_0.shape t) = q01_Read.l4_0.g (fun a0 a1 => ((Prod.mk (.exit 0) (St.mk [(.ptr 0 []), (.ptr 1 [])] [(some (.var (.ints .u64 4 a0))), (some (.var (.ints .u64 4 a1)))])) : Ex × St)) n m t.1 t.2.1 t.2.2.1 t.2.2.2.1 t.2.2.2.2 :=
  loop_of_round (shape := q01_Read.l4_0.shape) (body := roundOf (q01_Read.C n) (q01_Read.A n) n q01_Read.b0) (g := fun m t => q01_Read.l4_0.g (fun a0 a1 => ((Prod.mk (.exit 0) (St.mk [(.ptr 0 []), (.ptr 1 [])] [(some (.var (.ints .u64 4 a0))), (some (.var (.ints .u64 4 a1)))])) : Ex × St)) n m t.1 t.2.1 t.2.2.1 t.2.2.2.1 t.2.2.2.2) (fun t => rfl)
    fun m t ih => (q01_Read.l4_0.round n (loopOf (roundOf (q01_Read.C n) (q01_Read.A n) n q01_Read.b0) m) t.1 t.2.1 t.2.2.1 t.2.2.2.1 t.2.2.2.2).trans (congrFun (congrFun (congrFun (congrFun (congrFun (congrArg (q01_Read.l4_0.r (fun a0 a1 => ((Prod.mk (.exit 0) (St.mk [(.ptr 0 []), (.ptr 1 [])] [(some (.var (.ints .u64 4 a0))), (some (.var (.ints .u64 4 a1)))])) : Ex × St)) n) (funext fun y0 => funext fun y1 => funext fun y2 => funext fun y3 => funext fun y4 => ih (y0, y1, y2, y3, y4))) t.1) t.2.1) t.2.2.1) t.2.2.2.1) t.2.2.2.2)
theorem q01_Read.l4_0.loop (n m : Nat) (t : (Int × (Int × ((List Int) × ((List Int) × (List Int)))))) : loopOf (roundOf (q01_Read.C n) (q01_Read.A n) n q01_Read.b0) m (q01_Read.l4_0.shape t) = (q01_Read.l4_0.m n m t).map q01_Read.l4_0.res :=
  (q01_Read.l4_0.loop' n m t).trans (q01_Read.l4_0.gmap q01_Read.l4_0.res (fun a0 a1 => (a0, a1)) n m t.1 t.2.1 t.2.2.1 t.2.2.2.1 t.2.2.2.2)
theorem q01_Read.gmap {α β : Type} (h : β → α) (mk0 : (List Int) → β) (n : Nat) (a0 : (List Int)) : q01_Read.g (fun a0 => (h (mk0 a0))) n a0 = (q01_Read.g mk0 n a0).map h := by
  unfold q01_Read.g
  exact (bindO_map fun r2 => rfl)
theorem q01_Read.run (n : Nat) (a0 : (List Int)) : runF (q01_Read.C n) (q01_Read.A n) n Tryd.f65 [(.rints .u8 a0)] [] (fun v o => some (v, o)) = q01_Read.g (fun a0 => ((Prod.mk (.ints .u64 4 a0) []) : AV × Blks)) n a0 := by kernel_rfl
theorem q01_Read.call (hmix : Tryd.prog.follows .mixedOrders = true) (n : Nat) (t : (List Int)) (u) (h : q01_Read.m n t = some u) : FnC Tryd.prog abiG 65 (q01_Read.shape t).1 (q01_Read.shape t).2 (q01_Read.res u).1 (q01_Read.res u).2 := by
  have hg : ∀ f m, (q01_Read.C n).Γ f = some m → CalleeS Tryd.prog abiG f m := by
    intro f m hm
    unfold q01_Read.C at hm
    simp only at hm
    first
    | (cases hm; done)
    | (split at hm <;> first
    | (cases hm; done))
  have hb : Tryd.f65.body = some (Tryd.f65.body.getD .skip) := by kernel_rfl
  refine runF_calls (C := q01_Read.C n) (A := q01_Read.A n) (n := n) (fn := Tryd.f65) hg hmix Tryd.func65 hb ?_ ?_ (by decide) rfl rfl (by show 1 ≤ Tryd.f65.ntmps; decide) ?_
  · rw [show loopsIn (Tryd.f65.body.getD .skip) = [q01_Read.b0] by kernel_rfl]
    intro b hb m hm
    simp only [List.mem_cons, List.not_mem_nil, or_false] at hb
    rcases hb with rfl
    · have e : (q01_Read.A n).loop (key q01_Read.b0) = some (.mk' q01_Read.l4_0.pat (q01_Read.l4_0.m n n) q01_Read.l4_0.resK) := by rw [show key q01_Read.b0 = 4 by kernel_rfl]; rfl
      rw [e] at hm
      cases hm
      exact (LoopS.of (res := q01_Read.l4_0.res) (fun R u K => rfl) q01_Read.l4_0.pat_shape fun t => q01_Read.l4_0.loop n n t)
  · intro a ha m hm
    cases (show none = some m from hm)
  · rw [show runF (q01_Read.C n) (q01_Read.A n) n Tryd.f65 (q01_Read.shape t).1 (q01_Read.shape t).2 (fun v o => some (v, o)) = _ from q01_Read.run n t]
    have e := q01_Read.gmap q01_Read.res (fun a0 => a0) n t
    unfold q01_Read.m at h
    rw [h] at e
    exact e
theorem q01_Read.s (hmix : Tryd.prog.follows .mixedOrders = true) (n : Nat) : CalleeS Tryd.prog abiG 65 (q01_Read.c n) :=
  CalleeS.of (res := q01_Read.res) (shape := q01_Read.shape) (fun R u K => rfl) (fun args lent t h => by
    unfold q01_Read.pat at h
    split at h
    · cases h; rfl
    · cases h) fun t u h => (q01_Read.call hmix n t u h).ok Tryd.func65 (by decide) (by kernel_rfl)
end
section
noncomputable section
noncomputable def word_Addr.C (n : Nat) : Ctx := ⟨Tryd.prog, abiG, fun f => match f with
 | 56 => some (word_Bytes.c n)
 | _ => none, fun _ => false⟩
def word_Addr.live : Nat → List Nat × List Nat := fun k => match k with
 | _ => ([], [])
def word_Addr.jlive : Nat → List Nat × List Nat := fun k => match k with
 | _ => ([], [])
noncomputable def word_Addr.A (n : Nat) : Ann := ⟨Tryd.f63.ntmps, 0, word_Addr.live, [], [none], fun k => match k with
 | _ => none, word_Addr.jlive, lookJ []⟩
def word_Addr.g {α : Type} (mk0 : (List Int) → α) (n : Nat) (a0 : (List Int)) : Option α :=
 bindO (word_Bytes.m n a0) fun r2 =>
  if 12 ≤ (((List.length r2) : Nat) : Int) then
   if 20 ≤ (Go.Abs.span (List.length r2) 12 (Option.none)) then
    some (mk0 (List.take 20 (List.drop 12 r2)))
   else
    none
  else
   none
def word_Addr.m (n : Nat) (t : (List Int)) : Option (List Int) := word_Addr.g (fun a0 => a0) n t
def word_Addr.pat : List AV → Blks → Option (List Int)
 | [(.ints .u64 4 a0)], [] => some a0
 | _, _ => none
def word_Addr.shape (t : (List Int)) : List AV × Blks := ([(.ints .u64 4 t)], [])
def word_Addr.res : (List Int) → AV × Blks
 | u => (Prod.mk (.ints .u8 20 u) [])
def word_Addr.resK {R : Type} (u : (List Int)) (K : AV → Blks → Option R) : Option R := (fun p : AV × Blks => K p.1 p.2) (Prod.mk (.ints .u8 20 u) [])
def word_Addr.c (n : Nat) : Abs.Callee := .mk' [] [none] word_Addr.pat (word_Addr.m n) word_Addr.resK
end
end
section
theorem word_Addr.gmap {α β : Type} (h : β → α) (mk0 : (List Int) → β) (n : Nat) (a0 : (List Int)) : word_Addr.g (fun a0 => (h (mk0 a0))) n a0 = (word_Addr.g mk0 n a0).map h := by
  unfold word_Addr.g
  exact (bindO_map fun r2 => (ite_map (ite_map rfl rfl) rfl))
theorem word_Addr.run (n : Nat) (a0 : (List Int)) : runF (word_Addr.C n) (word_Addr.A n) n Tryd.f63 [(.ints .u64 4 a0)] [] (fun v o => some (v, o)) = word_Addr.g (fun a0 => ((Prod.mk (.ints .u8 20 a0) []) : AV × Blks)) n a0 := by kernel_rfl
theorem word_Addr.call (hmix : Tryd.prog.follows .mixedOrders = true) (n : Nat) (t : (List Int)) (u) (h : word_Addr.m n t = some u) : FnC Tryd.prog abiG 63 (word_Addr.shape t).1 (word_Addr.shape t).2 (word_Addr.res u).1 (word_Addr.res u).2 := by
  have hg : ∀ f m, (word_Addr.C n).Γ f = some m → CalleeS Tryd.prog abiG f m := by
    intro f m hm
    unfold word_Addr.C at hm
    simp only at hm
    first
    | (cases hm; done)
    | (split at hm <;> first
    | (cases hm; exact word_Bytes.s hmix n)
    | (cases hm; done))
  have hb : Tryd.f63.body = some (Tryd.f63.body.getD .skip) := by kernel_rfl
  refine runF_calls (C := word_Addr.C n) (A := word_Addr.A n) (n := n) (fn := Tryd.f63) hg hmix Tryd.func63 hb ?_ ?_ (by decide) rfl rfl (by show 1 ≤ Tryd.f63.ntmps; decide) ?_
  · rw [show loopsIn (Tryd.f63.body.getD .skip) = [] by kernel_rfl]
    intro b hb
    cases hb
  · intro a ha m hm
    cases (show none = some m from hm)
  · rw [show runF (word_Addr.C n) (word_Addr.A n) n Tryd.f63 (word_Addr.shape t).1 (word_Addr.shape t).2 (fun v o => some (v, o)) = _ from word_Addr.run n t]
    have e := word_Addr.gmap word_Addr.res (fun a0 => a0) n t
    unfold word_Addr.m at h
    rw [h] at e
    exact e
theorem word_Addr.s (hmix : Tryd.prog.follows .mixedOrders = true) (n : Nat) : CalleeS Tryd.prog abiG 63 (word_Addr.c n) :=
  CalleeS.of (res := word_Addr.res) (shape := word_Addr.shape) (fun R u K => rfl) (fun args lent t h => by
    unfold word_Addr.pat at h
    split at h
    · cases h; rfl
    · cases h) fun t u h => (word_Addr.call hmix n t u h).ok Tryd.func63 (by decide) (by kernel_rfl)
end
section
noncomputable section
noncomputable def word_Wide.C (n : Nat) : Ctx := ⟨Tryd.prog, abiG, fun f => match f with
 | 89 => some (word_Read.c n)
 | _ => none, fun _ => false⟩
def word_Wide.live : Nat → List Nat × List Nat := fun k => match k with
 | _ => ([], [])
def word_Wide.jlive : Nat → List Nat × List Nat := fun k => match k with
 | _ => ([], [])
noncomputable def word_Wide.A (n : Nat) : Ann := ⟨Tryd.f75.ntmps, 0, word_Wide.live, [], [none], fun k => match k with
 | _ => none, word_Wide.jlive, lookJ []⟩
def word_Wide.g {α : Type} (mk0 : (List Int) → α) (n : Nat) (a0 : (List Int)) : Option α :=
 bindO (word_Read.m n (List.take 20 (List.drop 0 a0))) fun r2 =>
  some (mk0 r2)
def word_Wide.m (n : Nat) (t : (List Int)) : Option (List Int) := word_Wide.g (fun a0 => a0) n t
def word_Wide.pat : List AV → Blks → Option (List Int)
 | [(.ints .u8 20 a0)], [] => some a0
 | _, _ => none
def word_Wide.shape (t : (List Int)) : List AV × Blks := ([(.ints .u8 20 t)], [])
def word_Wide.res : (List Int) → AV × Blks
 | u => (Prod.mk (.ints .u64 4 u) [])
def word_Wide.resK {R : Type} (u : (List Int)) (K : AV → Blks → Option R) : Option R := (fun p : AV × Blks => K p.1 p.2) (Prod.mk (.ints .u64 4 u) [])
def word_Wide.c (n : Nat) : Abs.Callee := .mk' [] [none] word_Wide.pat (word_Wide.m n) word_Wide.resK
end
end
section
theorem word_Wide.gmap {α β : Type} (h : β → α) (mk0 : (List Int) → β) (n : Nat) (a0 : (List Int)) : word_Wide.g (fun a0 => (h (mk0 a0))) n a0 = (word_Wide.g mk0 n a0).map h := by
  unfold word_Wide.g
  exact (bindO_map fun r2 => rfl)
theorem word_Wide.run (n : Nat) (a0 : (List Int)) : runF (word_Wide.C n) (word_Wide.A n) n Tryd.f75 [(.ints .u8 20 a0)] [] (fun v o => some (v, o)) = word_Wide.g (fun a0 => ((Prod.mk (.ints .u64 4 a0) []) : AV × Blks)) n a0 := by kernel_rfl
theorem word_Wide.call (hmix : Tryd.prog.follows .mixedOrders = true) (n : Nat) (t : (List Int)) (u) (h : word_Wide.m n t = some u) : FnC Tryd.prog abiG 75 (word_Wide.shape t).1 (word_Wide.shape t).2 (word_Wide.res u).1 (word_Wide.res u).2 := by
  have hg : ∀ f m, (word_Wide.C n).Γ f = some m → CalleeS Tryd.prog abiG f m := by
    intro f m hm
    unfold word_Wide.C at hm
    simp only at hm
    first
    | (cases hm; done)
    | (split at hm <;> first
    | (cases hm; exact word_Read.s hmix n)
    | (cases hm; done))
  have hb : Tryd.f75.body = some (Tryd.f75.body.getD .skip) := by kernel_rfl
  refine runF_calls (C := word_Wide.C n) (A := word_Wide.A n) (n := n) (fn := Tryd.f75) hg hmix Tryd.func75 hb ?_ ?_ (by decide) rfl rfl (by show 1 ≤ Tryd.f75.ntmps; decide) ?_
  · rw [show loopsIn (Tryd.f75.body.getD .skip) = [] by kernel_rfl]
    intro b hb
    cases hb
  · intro a ha m hm
    cases (show none = some m from hm)
  · rw [show runF (word_Wide.C n) (word_Wide.A n) n Tryd.f75 (word_Wide.shape t).1 (word_Wide.shape t).2 (fun v o => some (v, o)) = _ from word_Wide.run n t]
    have e := word_Wide.gmap word_Wide.res (fun a0 => a0) n t
    unfold word_Wide.m at h
    rw [h] at e
    exact e
theorem word_Wide.s (hmix : Tryd.prog.follows .mixedOrders = true) (n : Nat) : CalleeS Tryd.prog abiG 75 (word_Wide.c n) :=
  CalleeS.of (res := word_Wide.res) (shape := word_Wide.shape) (fun R u K => rfl) (fun args lent t h => by
    unfold word_Wide.pat at h
    split at h
    · cases h; rfl
    · cases h) fun t u h => (word_Wide.call hmix n t u h).ok Tryd.func75 (by decide) (by kernel_rfl)
end
section
noncomputable section
noncomputable def q01_Wide.C (n : Nat) : Ctx := ⟨Tryd.prog, abiG, fun f => match f with
 | 65 => some (q01_Read.c n)
 | _ => none, fun _ => false⟩
def q01_Wide.live : Nat → List Nat × List Nat := fun k => match k with
 | 3 => ([4, 3, 1, 2], [3, 2])
 | _ => ([], [])
def q01_Wide.jlive : Nat → List Nat × List Nat := fun k => match k with
 | _ => ([], [])
def q01_Wide.l3_0.r {α : Type} (mk0 : (List Int) → (List Int) → α) (n : Nat) (rc : Int → (List Int) → (List Int) → (List Int) → Option α)  (x0 : Int) (x1 : (List Int)) (x2 : (List Int)) (x3 : (List Int)) : Option α :=
  if (decide (x0 < 20)) = true then
   if 0 ≤ x0 then
    if x0 < 20 then
     if ((((List.length x1) + 1) * 1) ≤ 70368744177664 ∧ ((List.length x1) + 1) ≤ 9223372036854775807) then
      rc (IntKind.wrap .i64 (x0 + 1)) (x1 ++ [(List.getD x2 (Int.toNat x0) 0)]) x2 x3
     else
      none
    else
     none
   else
    none
  else
   some (mk0 x1 x3)
def q01_Wide.l3_0.g {α : Type} (mk0 : (List Int) → (List Int) → α) (n : Nat) : Nat → Int → (List Int) → (List Int) → (List Int) → Option α
 | 0, _, _, _, _ => none
 | m + 1, x0, x1, x2, x3 => q01_Wide.l3_0.r mk0 n (fun y0 y1 y2 y3 => q01_Wide.l3_0.g mk0 n m y0 y1 y2 y3)  x0 x1 x2 x3
def q01_Wide.l3_0.m (n m : Nat) (t : (Int × ((List Int) × ((List Int) × (List Int))))) : Option ((List Int) × (List Int)) := q01_Wide.l3_0.g (fun a0 a1 => (a0, a1)) n m t.1 t.2.1 t.2.2.1 t.2.2.2
def q01_Wide.l3_0.pat : St → Option (Int × ((List Int) × ((List Int) × (List Int))))
 | (St.mk [(.int .i64 x0), (.own 0 1), (.ptr 1 []), (.ptr 2 [])] [(some (.ints .u8 x1)), (some (.var (.ints .u8 20 x2))), (some (.var (.ints .u64 4 x3)))]) => some (x0, x1, x2, x3)
 | _ => none
def q01_Wide.l3_0.shape (t : (Int × ((List Int) × ((List Int) × (List Int))))) : St := (St.mk [(.int .i64 t.1), (.own 0 1), (.ptr 1 []), (.ptr 2 [])] [(some (.ints .u8 t.2.1)), (some (.var (.ints .u8 20 t.2.2.1))), (some (.var (.ints .u64 4 t.2.2.2)))])
def q01_Wide.l3_0.res : ((List Int) × (List Int)) → Ex × St
 | u => (Prod.mk (.exit 0) (St.mk [(.own 0 1), (.ptr 1 [])] [(some (.ints .u8 u.1)), (some (.var (.ints .u64 4 u.2)))]))
def q01_Wide.l3_0.resK {R : Type} (u : ((List Int) × (List Int))) (K : Ex → St → Option R) : Option R := (fun p : Ex × St => K p.1 p.2) (Prod.mk (.exit 0) (St.mk [(.own 0 1), (.ptr 1 [])] [(some (.ints .u8 u.1)), (some (.var (.ints .u64 4 u.2)))]))
noncomputable def q01_Wide.A (n : Nat) : Ann := ⟨Tryd.f78.ntmps, 0, q01_Wide.live, [(3, (.ints .u8))], [none], fun k => match k with
 | 3 => some (.mk' q01_Wide.l3_0.pat (q01_Wide.l3_0.m n n) q01_Wide.l3_0.resK)
 | _ => none, q01_Wide.jlive, lookJ []⟩
noncomputable def q01_Wide.b0 : Code := (loopsIn (Tryd.f78.body.getD .skip)).getD 0 .skip
def q01_Wide.g {α : Type} (mk0 : (List Int) → α) (n : Nat) (a0 : (List Int)) : Option α :=
 bindO (q01_Wide.l3_0.m n n (0, [], a0, [0, 0, 0, 0])) fun r2 =>
  bindO (q01_Read.m n (Prod.fst r2)) fun r4 =>
   some (mk0 r4)
def q01_Wide.m (n : Nat) (t : (List Int)) : Option (List Int) := q01_Wide.g (fun a0 => a0) n t
def q01_Wide.pat : List AV → Blks → Option (List Int)
 | [(.ints .u8 20 a0)], [] => some a0
 | _, _ => none
def q01_Wide.shape (t : (List Int)) : List AV × Blks := ([(.ints .u8 20 t)], [])
def q01_Wide.res : (List Int) → AV × Blks
 | u => (Prod.mk (.ints .u64 4 u) [])
def q01_Wide.resK {R : Type} (u : (List Int)) (K : AV → Blks → Option R) : Option R := (fun p : AV × Blks => K p.1 p.2) (Prod.mk (.ints .u64 4 u) [])
def q01_Wide.c (n : Nat) : Abs.Callee := .mk' [] [none] q01_Wide.pat (q01_Wide.m n) q01_Wide.resK
end
end
section
theorem q01_Wide.l3_0.rmap {α β : Type} (h : β → α) (mk0 : (List Int) → (List Int) → β) (n : Nat) (f : Int → (List Int) → (List Int) → (List Int) → Option β)  (x0 : Int) (x1 : (List Int)) (x2 : (List Int)) (x3 : (List Int)) : q01_Wide.l3_0.r (fun a0 a1 => (h (mk0 a0 a1))) n (fun y0 y1 y2 y3 => (f y0 y1 y2 y3).map h) x0 x1 x2 x3 = (q01_Wide.l3_0.r mk0 n f x0 x1 x2 x3).map h := by
  unfold q01_Wide.l3_0.r
  exact (ite_map (ite_map (ite_map (ite_map rfl rfl) rfl) rfl) rfl)
theorem q01_Wide.l3_0.gmap {α β : Type} (h : β → α) (mk0 : (List Int) → (List Int) → β) (n : Nat) : ∀ (m : Nat) (x0 : Int) (x1 : (List Int)) (x2 : (List Int)) (x3 : (List Int)), q01_Wide.l3_0.g (fun a0 a1 => (h (mk0 a0 a1))) n m x0 x1 x2 x3 = (q01_Wide.l3_0.g mk0 n m x0 x1 x2 x3).map h
  | 0, _, _, _, _ => rfl
  | m + 1, x0, x1, x2, x3 => by
    unfold q01_Wide.l3_0.g
    rw [← q01_Wide.l3_0.rmap]
    congr
    · funext y0 y1 y2 y3; exact q01_Wide.l3_0.gmap h mk0 n m y0 y1 y2 y3
theorem q01_Wide.l3_0.pat_shape : ∀ st t, q01_Wide.l3_0.pat st = some t → st = q01_Wide.l3_0.shape t := by
  intro st t h
  unfold q01_Wide.l3_0.pat at h
  split at h
  · cases h; rfl
  · cases h
theorem q01_Wide.l3_0.round (n : Nat) (rc : St → Option (Ex × St)) (x0 : Int) (x1 : (List Int)) (x2 : (List Int)) (x3 : (List Int)) : roundOf (q01_Wide.C n) (q01_Wide.A n) n q01_Wide.b0 rc ((St.mk [(.int .i64 x0), (.own 0 1), (.ptr 1 []), (.ptr 2 [])] [(some (.ints .u8 x1)), (some (.var (.ints .u8 20 x2))), (some (.var (.ints .u64 4 x3)))])) = q01_Wide.l3_0.r (fun a0 a1 => ((Prod.mk (.exit 0) (St.mk [(.own 0 1), (.ptr 1 [])] [(some (.ints .u8 a0)), (some (.var (.ints .u64 4 a1)))])) : Ex × St)) n (fun y0 y1 y2 y3 => rc ((St.mk [(.int .i64 y0), (.own 0 1), (.ptr 1 []), (.ptr 2 [])] [(some (.ints .u8 y1)), (some (.var (.ints .u8 20 y2))), (some (.var (.ints .u64 4 y3)))]))) x0 x1 x2 x3 := by kernel_rfl
theorem q01_Wide.l3_0.loop' (n : Nat) : ∀ (m : Nat) (t : (Int × ((List Int) × ((List Int) × (List Int))))), loopOf (roundOf (q01_Wide.C n) (q01_Wide.A n) n q01_Wide.b0) m (q01_Wide.l3_0.shape t) = q01_Wide.l3_0.g (fun a0 a1 => ((Prod.mk (.exit 0) (St.mk [(.own 0 1), (.ptr 1 [])] [(some (.ints .u8 a0)), (some (.var (.ints .u64 4 a1)))])) : Ex × St)) n m t.1 t.2.1 t.2.2.1 t.2.2.2 :=
  loop_of_round (shape := q01_Wide.l3_0.shape) (body := roundOf (q01_Wide.C n) (q01_Wide.A n) n q01_Wide.b0) (g := fun m t => q01_Wide.l3_0.g (fun a0 a1 => ((Prod.mk (.exit 0) (St.mk [(.own 0 1), (.ptr 1 [])] [(some (.ints .u8 a0)), (some (.var (.ints .u64 4 a1)))])) : Ex × St)) n m t.1 t.2.1 t.2.2.1 t.2.2.2) (fun t => rfl)
    fun m t ih => (q01_Wide.l3_0.round n (loopOf (roundOf (q01_Wide.C n) (q01_Wide.A n) n q01_Wide.b0) m) t.1 t.2.1 t.2.2.1 t.2.2.2).trans (congrFun (congrFun (congrFun (congrFun (congrArg (q01_Wide.l3_0.r (fun a0 a1 => ((Prod.mk (.exit 0) (St.mk [(.own 0 1), (.ptr 1 [])] [(some (.ints .u8 a0)), (some (.var (.ints .u64 4 a1)))])) : Ex × St)) n) (funext fun y0 => funext fun y1 => funext fun y2 => funext fun y3 => ih (y0, y1, y2, y3))) t.1) t.2.1) t.2.2.1) t.2.2.2)
theorem q01_Wide.l3_0.loop (n m : Nat) (t : (Int × ((List Int) × ((List Int) × (List Int))))) : loopOf (roundOf (q01_Wide.C n) (q01_Wide.A n) n q01_Wide.b0) m (q01_Wide.l3_0.shape t) = (q01_Wide.l3_0.m n m t).map q01_Wide.l3_0.res :=
  (q01_Wide.l3_0.loop' n m t).trans (q01_Wide.l3_0.gmap q01_Wide.l3_0.res (fun a0 a1 => (a0, a1)) n m t.1 t.2.1 t.2.2.1 t.2.2.2)
theorem q01_Wide.gmap {α β : Type} (h : β → α) (mk0 : (List Int) → β) (n : Nat) (a0 : (List Int)) : q01_Wide.g (fun a0 => (h (mk0 a0))) n a0 = (q01_Wide.g mk0 n a0).map h := by
  unfold q01_Wide.g
  exact (bindO_map fun r2 => (bindO_map fun r4 => rfl))
theorem q01_Wide.run (n : Nat) (a0 : (List Int)) : runF (q01_Wide.C n) (q01_Wide.A n) n Tryd.f78 [(.ints .u8 20 a0)] [] (fun v o => some (v, o)) = q01_Wide.g (fun a0 => ((Prod.mk (.ints .u64 4 a0) []) : AV × Blks)) n a0 := by kernel_rfl
theorem q01_Wide.call (hmix : Tryd.prog.follows .mixedOrders = true) (n : Nat) (t : (List Int)) (u) (h : q01_Wide.m n t = some u) : FnC Tryd.prog abiG 78 (q01_Wide.shape t).1 (q01_Wide.shape t).2 (q01_Wide.res u).1 (q01_Wide.res u).2 := by
  have hg : ∀ f m, (q01_Wide.C n).Γ f = some m → CalleeS Tryd.prog abiG f m := by
    intro f m hm
    unfold q01_Wide.C at hm
    simp only at hm
    first
    | (cases hm; done)
    | (split at hm <;> first
    | (cases hm; exact q01_Read.s hmix n)
    | (cases hm; done))
  have hb : Tryd.f78.body = some (Tryd.f78.body.getD .skip) := by kernel_rfl
  refine runF_calls (C := q01_Wide.C n) (A := q01_Wide.A n) (n := n) (fn := Tryd.f78) hg hmix Tryd.func78 hb ?_ ?_ (by decide) rfl rfl (by show 1 ≤ Tryd.f78.ntmps; decide) ?_
  · rw [show loopsIn (Tryd.f78.body.getD .skip) = [q01_Wide.b0] by kernel_rfl]
    intro b hb m hm
    simp only [List.mem_cons, List.not_mem_nil, or_false] at hb
    rcases hb with rfl
    · have e : (q01_Wide.A n).loop (key q01_Wide.b0) = some (.mk' q01_Wide.l3_0.pat (q01_Wide.l3_0.m n n) q01_Wide.l3_0.resK) := by rw [show key q01_Wide.b0 = 3 by kernel_rfl]; rfl
      rw [e] at hm
      cases hm
      exact (LoopS.of (res := q01_Wide.l3_0.res) (fun R u K => rfl) q01_Wide.l3_0.pat_shape fun t => q01_Wide.l3_0.loop n n t)
  · intro a ha m hm
    cases (show none = some m from hm)
  · rw [show runF (q01_Wide.C n) (q01_Wide.A n) n Tryd.f78 (q01_Wide.shape t).1 (q01_Wide.shape t).2 (fun v o => some (v, o)) = _ from q01_Wide.run n t]
    have e := q01_Wide.gmap q01_Wide.res (fun a0 => a0) n t
    unfold q01_Wide.m at h
    rw [h] at e
    exact e
theorem q01_Wide.s (hmix : Tryd.prog.follows .mixedOrders = true) (n : Nat) : CalleeS Tryd.prog abiG 78 (q01_Wide.c n) :=
  CalleeS.of (res := q01_Wide.res) (shape := q01_Wide.shape) (fun R u K => rfl) (fun args lent t h => by
    unfold q01_Wide.pat at h
    split at h
    · cases h; rfl
    · cases h) fun t u h => (q01_Wide.call hmix n t u h).ok Tryd.func78 (by decide) (by kernel_rfl)
end
section
noncomputable section
noncomputable def q00_SameBytes.C (n : Nat) : Ctx := ⟨Tryd.prog, abiG, fun f => match f with
 | _ => none, fun _ => false⟩
def q00_SameBytes.live : Nat → List Nat × List Nat := fun k => match k with
 | _ => ([], [])
def q00_SameBytes.jlive : Nat → List Nat × List Nat := fun k => match k with
 | _ => ([], [])
noncomputable def q00_SameBytes.A (n : Nat) : Ann := ⟨Tryd.f19.ntmps, 0, q00_SameBytes.live, [], [none], fun k => match k with
 | _ => none, q00_SameBytes.jlive, lookJ []⟩
def q00_SameBytes.g {α : Type} (mk0 : Bool → α) (n : Nat) (a0 : (List Int)) (a1 : (List Int)) : Option α :=
 some (mk0 ((ByteArray.toList (Go.Abs.strOf a0)) == (ByteArray.toList (Go.Abs.strOf a1))))
def q00_SameBytes.m (n : Nat) (t : ((List Int) × (List Int))) : Option Bool := q00_SameBytes.g (fun a0 => a0) n t.1 t.2
def q00_SameBytes.pat : List AV → Blks → Option ((List Int) × (List Int))
 | [(.rints .u8 a0), (.rints .u8 a1)], [] => some (a0, a1)
 | _, _ => none
def q00_SameBytes.shape (t : ((List Int) × (List Int))) : List AV × Blks := ([(.rints .u8 t.1), (.rints .u8 t.2)], [])
def q00_SameBytes.res : Bool → AV × Blks
 | u => (Prod.mk (.bool u) [])
def q00_SameBytes.resK {R : Type} (u : Bool) (K : AV → Blks → Option R) : Option R := (fun p : AV × Blks => K p.1 p.2) (Prod.mk (.bool u) [])
def q00_SameBytes.c (n : Nat) : Abs.Callee := .mk' [] [(some (.ints .u8)), (some (.ints .u8))] q00_SameBytes.pat (q00_SameBytes.m n) q00_SameBytes.resK
end
end
section
theorem q00_SameBytes.gmap {α β : Type} (h : β → α) (mk0 : Bool → β) (n : Nat) (a0 : (List Int)) (a1 : (List Int)) : q00_SameBytes.g (fun a0 => (h (mk0 a0))) n a0 a1 = (q00_SameBytes.g mk0 n a0 a1).map h := by
  unfold q00_SameBytes.g
  exact rfl
theorem q00_SameBytes.run (n : Nat) (a0 : (List Int)) (a1 : (List Int)) : runF (q00_SameBytes.C n) (q00_SameBytes.A n) n Tryd.f19 [(.rints .u8 a0), (.rints .u8 a1)] [] (fun v o => some (v, o)) = q00_SameBytes.g (fun a0 => ((Prod.mk (.bool a0) []) : AV × Blks)) n a0 a1 := by kernel_rfl
theorem q00_SameBytes.call (hmix : Tryd.prog.follows .mixedOrders = true) (n : Nat) (t : ((List Int) × (List Int))) (u) (h : q00_SameBytes.m n t = some u) : FnC Tryd.prog abiG 19 (q00_SameBytes.shape t).1 (q00_SameBytes.shape t).2 (q00_SameBytes.res u).1 (q00_SameBytes.res u).2 := by
  have hg : ∀ f m, (q00_SameBytes.C n).Γ f = some m → CalleeS Tryd.prog abiG f m := by
    intro f m hm
    unfold q00_SameBytes.C at hm
    simp only at hm
    first
    | (cases hm; done)
    | (split at hm <;> first
    | (cases hm; done))
  have hb : Tryd.f19.body = some (Tryd.f19.body.getD .skip) := by kernel_rfl
  refine runF_calls (C := q00_SameBytes.C n) (A := q00_SameBytes.A n) (n := n) (fn := Tryd.f19) hg hmix Tryd.func19 hb ?_ ?_ (by decide) rfl rfl (by show 2 ≤ Tryd.f19.ntmps; decide) ?_
  · rw [show loopsIn (Tryd.f19.body.getD .skip) = [] by kernel_rfl]
    intro b hb
    cases hb
  · intro a ha m hm
    cases (show none = some m from hm)
  · rw [show runF (q00_SameBytes.C n) (q00_SameBytes.A n) n Tryd.f19 (q00_SameBytes.shape t).1 (q00_SameBytes.shape t).2 (fun v o => some (v, o)) = _ from q00_SameBytes.run n t.1 t.2]
    have e := q00_SameBytes.gmap q00_SameBytes.res (fun a0 => a0) n t.1 t.2
    unfold q00_SameBytes.m at h
    rw [h] at e
    exact e
theorem q00_SameBytes.s (hmix : Tryd.prog.follows .mixedOrders = true) (n : Nat) : CalleeS Tryd.prog abiG 19 (q00_SameBytes.c n) :=
  CalleeS.of (res := q00_SameBytes.res) (shape := q00_SameBytes.shape) (fun R u K => rfl) (fun args lent t h => by
    unfold q00_SameBytes.pat at h
    split at h
    · cases h; rfl
    · cases h) fun t u h => (q00_SameBytes.call hmix n t u h).ok Tryd.func19 (by decide) (by kernel_rfl)
end
section
noncomputable section
noncomputable def word_From.C (n : Nat) : Ctx := ⟨Tryd.prog, abiG, fun f => match f with
 | _ => none, fun _ => false⟩
def word_From.live : Nat → List Nat × List Nat := fun k => match k with
 | _ => ([], [])
def word_From.jlive : Nat → List Nat × List Nat := fun k => match k with
 | _ => ([], [])
noncomputable def word_From.A (n : Nat) : Ann := ⟨Tryd.f69.ntmps, 0, word_From.live, [], [none], fun k => match k with
 | _ => none, word_From.jlive, lookJ []⟩
def word_From.g {α : Type} (mk0 : (List Int) → α) (n : Nat) (a0 : Int) : Option α :=
 some (mk0 [a0, 0, 0, 0])
def word_From.m (n : Nat) (t : Int) : Option (List Int) := word_From.g (fun a0 => a0) n t
def word_From.pat : List AV → Blks → Option Int
 | [(.int .u64 a0)], [] => some a0
 | _, _ => none
def word_From.shape (t : Int) : List AV × Blks := ([(.int .u64 t)], [])
def word_From.res : (List Int) → AV × Blks
 | u => (Prod.mk (.ints .u64 4 u) [])
def word_From.resK {R : Type} (u : (List Int)) (K : AV → Blks → Option R) : Option R := (fun p : AV × Blks => K p.1 p.2) (Prod.mk (.ints .u64 4 u) [])
def word_From.c (n : Nat) : Abs.Callee := .mk' [] [none] word_From.pat (word_From.m n) word_From.resK
end
end
section
noncomputable section
noncomputable def userop_Check.C (n : Nat) : Ctx := ⟨Tryd.prog, abiG, fun f => match f with
 | 69 => some (word_From.c n)
 | 94 => some (word_Shr.c n)
 | 86 => some (word_Cmp.c n)
 | _ => none, fun _ => false⟩
def userop_Check.live : Nat → List Nat × List Nat := fun k => match k with
 | 2 => ([17, 16, 15, 1], [2, 1])
 | _ => ([], [])
def userop_Check.jlive : Nat → List Nat × List Nat := fun k => match k with
 | _ => ([], [])
def userop_Check.l2_0.r {α : Type} (mk0 : Int → (List Int) → (List Int) → Bool → (List Int) → (List Int) → (List Int) → Int → Int → Int → (List Int) → (List Int) → Bool → (List Int) → Int → Int → (List Int) → (List Int) → α) (mk1 : (List Int) → (List Int) → Bool → (List Int) → (List Int) → (List Int) → Int → Int → Int → (List Int) → (List Int) → Bool → (List Int) → Int → Int → (List Int) → (List Int) → α) (n : Nat) (rc : Int → Int → (List AV) → (List Int) → (List Int) → Bool → (List Int) → (List Int) → (List Int) → Int → Int → Int → (List Int) → (List Int) → Bool → (List Int) → Int → Int → (List Int) → (List Int) → Option α)  (x0 : Int) (x1 : Int) (x2 : (List AV)) (x3 : (List Int)) (x4 : (List Int)) (x5 : Bool) (x6 : (List Int)) (x7 : (List Int)) (x8 : (List Int)) (x9 : Int) (x10 : Int) (x11 : Int) (x12 : (List Int)) (x13 : (List Int)) (x14 : Bool) (x15 : (List Int)) (x16 : Int) (x17 : Int) (x18 : (List Int)) (x19 : (List Int)) : Option α :=
  if (decide (x0 < x1)) = true then
   if 0 ≤ x0 then
    if x0 < (((List.length x2) : Nat) : Int) then
     bindO (tkRints .u8 (List.getD x2 (Int.toNat x0) AV.any)) fun r10 =>
      if (decide ((((List.length r10) : Nat) : Int) > 4096)) = true then
       some (mk0 150 x3 x4 x5 x6 x7 x8 x9 x10 x11 x12 x13 x14 x15 x16 x17 x18 x19)
      else
       rc (IntKind.wrap .i64 (x0 + 1)) x1 x2 x3 x4 x5 x6 x7 x8 x9 x10 x11 x12 x13 x14 x15 x16 x17 x18 x19
    else
     none
   else
    none
  else
   some (mk1 x3 x4 x5 x6 x7 x8 x9 x10 x11 x12 x13 x14 x15 x16 x17 x18 x19)
def userop_Check.l2_0.g {α : Type} (mk0 : Int → (List Int) → (List Int) → Bool → (List Int) → (List Int) → (List Int) → Int → Int → Int → (List Int) → (List Int) → Bool → (List Int) → Int → Int → (List Int) → (List Int) → α) (mk1 : (List Int) → (List Int) → Bool → (List Int) → (List Int) → (List Int) → Int → Int → Int → (List Int) → (List Int) → Bool → (List Int) → Int → Int → (List Int) → (List Int) → α) (n : Nat) : Nat → Int → Int → (List AV) → (List Int) → (List Int) → Bool → (List Int) → (List Int) → (List Int) → Int → Int → Int → (List Int) → (List Int) → Bool → (List Int) → Int → Int → (List Int) → (List Int) → Option α
 | 0, _, _, _, _, _, _, _, _, _, _, _, _, _, _, _, _, _, _, _, _ => none
 | m + 1, x0, x1, x2, x3, x4, x5, x6, x7, x8, x9, x10, x11, x12, x13, x14, x15, x16, x17, x18, x19 => userop_Check.l2_0.r mk0 mk1 n (fun y0 y1 y2 y3 y4 y5 y6 y7 y8 y9 y10 y11 y12 y13 y14 y15 y16 y17 y18 y19 => userop_Check.l2_0.g mk0 mk1 n m y0 y1 y2 y3 y4 y5 y6 y7 y8 y9 y10 y11 y12 y13 y14 y15 y16 y17 y18 y19)  x0 x1 x2 x3 x4 x5 x6 x7 x8 x9 x10 x11 x12 x13 x14 x15 x16 x17 x18 x19
def userop_Check.l2_0.m (n m : Nat) (t : (Int × (Int × ((List AV) × ((List Int) × ((List Int) × (Bool × ((List Int) × ((List Int) × ((List Int) × (Int × (Int × (Int × ((List Int) × ((List Int) × (Bool × ((List Int) × (Int × (Int × ((List Int) × (List Int))))))))))))))))))))) : Option ((Int × ((List Int) × ((List Int) × (Bool × ((List Int) × ((List Int) × ((List Int) × (Int × (Int × (Int × ((List Int) × ((List Int) × (Bool × ((List Int) × (Int × (Int × ((List Int) × (List Int)))))))))))))))))) ⊕ ((List Int) × ((List Int) × (Bool × ((List Int) × ((List Int) × ((List Int) × (Int × (Int × (Int × ((List Int) × ((List Int) × (Bool × ((List Int) × (Int × (Int × ((List Int) × (List Int)))))))))))))))))) := userop_Check.l2_0.g (fun a0 a1 a2 a3 a4 a5 a6 a7 a8 a9 a10 a11 a12 a13 a14 a15 a16 a17 => (.inl (a0, a1, a2, a3, a4, a5, a6, a7, a8, a9, a10, a11, a12, a13, a14, a15, a16, a17))) (fun a0 a1 a2 a3 a4 a5 a6 a7 a8 a9 a10 a11 a12 a13 a14 a15 a16 => (.inr (a0, a1, a2, a3, a4, a5, a6, a7, a8, a9, a10, a11, a12, a13, a14, a15, a16))) n m t.1 t.2.1 t.2.2.1 t.2.2.2.1 t.2.2.2.2.1 t.2.2.2.2.2.1 t.2.2.2.2.2.2.1 t.2.2.2.2.2.2.2.1 t.2.2.2.2.2.2.2.2.1 t.2.2.2.2.2.2.2.2.2.1 t.2.2.2.2.2.2.2.2.2.2.1 t.2.2.2.2.2.2.2.2.2.2.2.1 t.2.2.2.2.2.2.2.2.2.2.2.2.1 t.2.2.2.2.2.2.2.2.2.2.2.2.2.1 t.2.2.2.2.2.2.2.2.2.2.2.2.2.2.1 t.2.2.2.2.2.2.2.2.2.2.2.2.2.2.2.1 t.2.2.2.2.2.2.2.2.2.2.2.2.2.2.2.2.1 t.2.2.2.2.2.2.2.2.2.2.2.2.2.2.2.2.2.1 t.2.2.2.2.2.2.2.2.2.2.2.2.2.2.2.2.2.2.1 t.2.2.2.2.2.2.2.2.2.2.2.2.2.2.2.2.2.2.2
def userop_Check.l2_0.pat : St → Option (Int × (Int × ((List AV) × ((List Int) × ((List Int) × (Bool × ((List Int) × ((List Int) × ((List Int) × (Int × (Int × (Int × ((List Int) × ((List Int) × (Bool × ((List Int) × (Int × (Int × ((List Int) × (List Int))))))))))))))))))))
 | (St.mk [(.int .i64 x0), (.int .i64 x1), (.robjs 26 1 x2), (.ptr 0 [])] [(some (.var (.agg [(.ints .u8 20 x3), (.ints .u64 4 x4), (.bool x5), (.ints .u8 20 x6), (.rints .u8 x7), (.rints .u8 x8), (.int .u64 x9), (.int .u64 x10), (.int .u64 x11), (.ints .u64 4 x12), (.ints .u64 4 x13), (.bool x14), (.ints .u8 20 x15), (.int .u64 x16), (.int .u64 x17), (.rints .u8 x18), (.rints .u8 x19)])))]) => some (x0, x1, x2, x3, x4, x5, x6, x7, x8, x9, x10, x11, x12, x13, x14, x15, x16, x17, x18, x19)
 | _ => none
def userop_Check.l2_0.shape (t : (Int × (Int × ((List AV) × ((List Int) × ((List Int) × (Bool × ((List Int) × ((List Int) × ((List Int) × (Int × (Int × (Int × ((List Int) × ((List Int) × (Bool × ((List Int) × (Int × (Int × ((List Int) × (List Int))))))))))))))))))))) : St := (St.mk [(.int .i64 t.1), (.int .i64 t.2.1), (.robjs 26 1 t.2.2.1), (.ptr 0 [])] [(some (.var (.agg [(.ints .u8 20 t.2.2.2.1), (.ints .u64 4 t.2.2.2.2.1), (.bool t.2.2.2.2.2.1), (.ints .u8 20 t.2.2.2.2.2.2.1), (.rints .u8 t.2.2.2.2.2.2.2.1), (.rints .u8 t.2.2.2.2.2.2.2.2.1), (.int .u64 t.2.2.2.2.2.2.2.2.2.1), (.int .u64 t.2.2.2.2.2.2.2.2.2.2.1), (.int .u64 t.2.2.2.2.2.2.2.2.2.2.2.1), (.ints .u64 4 t.2.2.2.2.2.2.2.2.2.2.2.2.1), (.ints .u64 4 t.2.2.2.2.2.2.2.2.2.2.2.2.2.1), (.bool t.2.2.2.2.2.2.2.2.2.2.2.2.2.2.1), (.ints .u8 20 t.2.2.2.2.2.2.2.2.2.2.2.2.2.2.2.1), (.int .u64 t.2.2.2.2.2.2.2.2.2.2.2.2.2.2.2.2.1), (.int .u64 t.2.2.2.2.2.2.2.2.2.2.2.2.2.2.2.2.2.1), (.rints .u8 t.2.2.2.2.2.2.2.2.2.2.2.2.2.2.2.2.2.2.1), (.rints .u8 t.2.2.2.2.2.2.2.2.2.2.2.2.2.2.2.2.2.2.2)])))])
def userop_Check.l2_0.res : ((Int × ((List Int) × ((List Int) × (Bool × ((List Int) × ((List Int) × ((List Int) × (Int × (Int × (Int × ((List Int) × ((List Int) × (Bool × ((List Int) × (Int × (Int × ((List Int) × (List Int)))))))))))))))))) ⊕ ((List Int) × ((List Int) × (Bool × ((List Int) × ((List Int) × ((List Int) × (Int × (Int × (Int × ((List Int) × ((List Int) × (Bool × ((List Int) × (Int × (Int × ((List Int) × (List Int)))))))))))))))))) → Ex × St
 | (.inl u) => (Prod.mk .ret (St.mk [(.int .u16 u.1), (.ptr 0 [])] [(some (.var (.agg [(.ints .u8 20 u.2.1), (.ints .u64 4 u.2.2.1), (.bool u.2.2.2.1), (.ints .u8 20 u.2.2.2.2.1), (.rints .u8 u.2.2.2.2.2.1), (.rints .u8 u.2.2.2.2.2.2.1), (.int .u64 u.2.2.2.2.2.2.2.1), (.int .u64 u.2.2.2.2.2.2.2.2.1), (.int .u64 u.2.2.2.2.2.2.2.2.2.1), (.ints .u64 4 u.2.2.2.2.2.2.2.2.2.2.1), (.ints .u64 4 u.2.2.2.2.2.2.2.2.2.2.2.1), (.bool u.2.2.2.2.2.2.2.2.2.2.2.2.1), (.ints .u8 20 u.2.2.2.2.2.2.2.2.2.2.2.2.2.1), (.int .u64 u.2.2.2.2.2.2.2.2.2.2.2.2.2.2.1), (.int .u64 u.2.2.2.2.2.2.2.2.2.2.2.2.2.2.2.1), (.rints .u8 u.2.2.2.2.2.2.2.2.2.2.2.2.2.2.2.2.1), (.rints .u8 u.2.2.2.2.2.2.2.2.2.2.2.2.2.2.2.2.2)])))]))
 | (.inr u) => (Prod.mk (.exit 0) (St.mk [.any, (.ptr 0 [])] [(some (.var (.agg [(.ints .u8 20 u.1), (.ints .u64 4 u.2.1), (.bool u.2.2.1), (.ints .u8 20 u.2.2.2.1), (.rints .u8 u.2.2.2.2.1), (.rints .u8 u.2.2.2.2.2.1), (.int .u64 u.2.2.2.2.2.2.1), (.int .u64 u.2.2.2.2.2.2.2.1), (.int .u64 u.2.2.2.2.2.2.2.2.1), (.ints .u64 4 u.2.2.2.2.2.2.2.2.2.1), (.ints .u64 4 u.2.2.2.2.2.2.2.2.2.2.1), (.bool u.2.2.2.2.2.2.2.2.2.2.2.1), (.ints .u8 20 u.2.2.2.2.2.2.2.2.2.2.2.2.1), (.int .u64 u.2.2.2.2.2.2.2.2.2.2.2.2.2.1), (.int .u64 u.2.2.2.2.2.2.2.2.2.2.2.2.2.2.1), (.rints .u8 u.2.2.2.2.2.2.2.2.2.2.2.2.2.2.2.1), (.rints .u8 u.2.2.2.2.2.2.2.2.2.2.2.2.2.2.2.2)])))]))
def userop_Check.l2_0.resK {R : Type} (u : ((Int × ((List Int) × ((List Int) × (Bool × ((List Int) × ((List Int) × ((List Int) × (Int × (Int × (Int × ((List Int) × ((List Int) × (Bool × ((List Int) × (Int × (Int × ((List Int) × (List Int)))))))))))))))))) ⊕ ((List Int) × ((List Int) × (Bool × ((List Int) × ((List Int) × ((List Int) × (Int × (Int × (Int × ((List Int) × ((List Int) × (Bool × ((List Int) × (Int × (Int × ((List Int) × (List Int))))))))))))))))))) (K : Ex → St → Option R) : Option R := match u with
 | (.inl u) => (fun p : Ex × St => K p.1 p.2) (Prod.mk .ret (St.mk [(.int .u16 u.1), (.ptr 0 [])] [(some (.var (.agg [(.ints .u8 20 u.2.1), (.ints .u64 4 u.2.2.1), (.bool u.2.2.2.1), (.ints .u8 20 u.2.2.2.2.1), (.rints .u8 u.2.2.2.2.2.1), (.rints .u8 u.2.2.2.2.2.2.1), (.int .u64 u.2.2.2.2.2.2.2.1), (.int .u64 u.2.2.2.2.2.2.2.2.1), (.int .u64 u.2.2.2.2.2.2.2.2.2.1), (.ints .u64 4 u.2.2.2.2.2.2.2.2.2.2.1), (.ints .u64 4 u.2.2.2.2.2.2.2.2.2.2.2.1), (.bool u.2.2.2.2.2.2.2.2.2.2.2.2.1), (.ints .u8 20 u.2.2.2.2.2.2.2.2.2.2.2.2.2.1), (.int .u64 u.2.2.2.2.2.2.2.2.2.2.2.2.2.2.1), (.int .u64 u.2.2.2.2.2.2.2.2.2.2.2.2.2.2.2.1), (.rints .u8 u.2.2.2.2.2.2.2.2.2.2.2.2.2.2.2.2.1), (.rints .u8 u.2.2.2.2.2.2.2.2.2.2.2.2.2.2.2.2.2)])))]))
 | (.inr u) => (fun p : Ex × St => K p.1 p.2) (Prod.mk (.exit 0) (St.mk [.any, (.ptr 0 [])] [(some (.var (.agg [(.ints .u8 20 u.1), (.ints .u64 4 u.2.1), (.bool u.2.2.1), (.ints .u8 20 u.2.2.2.1), (.rints .u8 u.2.2.2.2.1), (.rints .u8 u.2.2.2.2.2.1), (.int .u64 u.2.2.2.2.2.2.1), (.int .u64 u.2.2.2.2.2.2.2.1), (.int .u64 u.2.2.2.2.2.2.2.2.1), (.ints .u64 4 u.2.2.2.2.2.2.2.2.2.1), (.ints .u64 4 u.2.2.2.2.2.2.2.2.2.2.1), (.bool u.2.2.2.2.2.2.2.2.2.2.2.1), (.ints .u8 20 u.2.2.2.2.2.2.2.2.2.2.2.2.1), (.int .u64 u.2.2.2.2.2.2.2.2.2.2.2.2.2.1), (.int .u64 u.2.2.2.2.2.2.2.2.2.2.2.2.2.2.1), (.rints .u8 u.2.2.2.2.2.2.2.2.2.2.2.2.2.2.2.1), (.rints .u8 u.2.2.2.2.2.2.2.2.2.2.2.2.2.2.2.2)])))]))
noncomputable def userop_Check.A (n : Nat) : Ann := ⟨Tryd.f59.ntmps, 0, userop_Check.live, [(15, (.objs 26 1))], [none], fun k => match k with
 | 2 => some (.mk' userop_Check.l2_0.pat (userop_Check.l2_0.m n n) userop_Check.l2_0.resK)
 | _ => none, userop_Check.jlive, lookJ []⟩
noncomputable def userop_Check.b0 : Code := (loopsIn (Tryd.f59.body.getD .skip)).getD 0 .skip
def userop_Check.g {α : Type} (mk0 : Int → α) (n : Nat) (a0_0 : (List Int)) (a0_1 : (List Int)) (a0_2 : Bool) (a0_3 : (List Int)) (a0_4 : (List Int)) (a0_5 : (List Int)) (a0_6 : Int) (a0_7 : Int) (a0_8 : Int) (a0_9 : (List Int)) (a0_10 : (List Int)) (a0_11 : Bool) (a0_12 : (List Int)) (a0_13 : Int) (a0_14 : Int) (a0_15 : (List Int)) (a0_16 : (List Int)) : Option α :=
 bindO (userop_Check.l2_0.m n n (0, ((4 : Nat) : Int), [(AV.rints .u8 a0_4), (AV.rints .u8 a0_5), (AV.rints .u8 a0_15), (AV.rints .u8 a0_16)], a0_0, a0_1, a0_2, a0_3, a0_4, a0_5, a0_6, a0_7, a0_8, a0_9, a0_10, a0_11, a0_12, a0_13, a0_14, a0_15, a0_16)) fun r2 => match r2 with
  | (.inl r2) =>
   some (mk0 (Prod.fst r2))
  | (.inr r2) =>
   if (decide ((if (Prod.fst (Prod.snd (Prod.snd (Prod.snd (Prod.snd (Prod.snd (Prod.snd (Prod.snd r2).2).2).2).2).2).2).2) > (if (Prod.fst (Prod.snd (Prod.snd (Prod.snd (Prod.snd (Prod.snd (Prod.snd r2.2).2).2).2).2).2).2) > (if (Prod.fst (Prod.snd (Prod.snd (Prod.snd (Prod.snd r2).2).2).2).2) > (if (Prod.fst (Prod.snd (Prod.snd (Prod.snd r2.2).2).2).2) > (Prod.fst (Prod.snd (Prod.snd (Prod.snd r2).2).2).2) then (Prod.fst (Prod.snd (Prod.snd (Prod.snd r2.2).2).2).2) else (Prod.fst (Prod.snd (Prod.snd (Prod.snd r2).2).2).2)) then (Prod.fst (Prod.snd (Prod.snd (Prod.snd (Prod.snd r2).2).2).2).2) else (if (Prod.fst (Prod.snd (Prod.snd (Prod.snd r2.2).2).2).2) > (Prod.fst (Prod.snd (Prod.snd (Prod.snd r2).2).2).2) then (Prod.fst (Prod.snd (Prod.snd (Prod.snd r2.2).2).2).2) else (Prod.fst (Prod.snd (Prod.snd (Prod.snd r2).2).2).2))) then (Prod.fst (Prod.snd (Prod.snd (Prod.snd (Prod.snd (Prod.snd (Prod.snd r2.2).2).2).2).2).2).2) else (if (Prod.fst (Prod.snd (Prod.snd (Prod.snd (Prod.snd r2).2).2).2).2) > (if (Prod.fst (Prod.snd (Prod.snd (Prod.snd r2.2).2).2).2) > (Prod.fst (Prod.snd (Prod.snd (Prod.snd r2).2).2).2) then (Prod.fst (Prod.snd (Prod.snd (Prod.snd r2.2).2).2).2) else (Prod.fst (Prod.snd (Prod.snd (Prod.snd r2).2).2).2)) then (Prod.fst (Prod.snd (Prod.snd (Prod.snd (Prod.snd r2).2).2).2).2) else (if (Prod.fst (Prod.snd (Prod.snd (Prod.snd r2.2).2).2).2) > (Prod.fst (Prod.snd (Prod.snd (Prod.snd r2).2).2).2) then (Prod.fst (Prod.snd (Prod.snd (Prod.snd r2.2).2).2).2) else (Prod.fst (Prod.snd (Prod.snd (Prod.snd r2).2).2).2)))) then (Prod.fst (Prod.snd (Prod.snd (Prod.snd (Prod.snd (Prod.snd (Prod.snd (Prod.snd r2).2).2).2).2).2).2).2) else (if (Prod.fst (Prod.snd (Prod.snd (Prod.snd (Prod.snd (Prod.snd (Prod.snd r2.2).2).2).2).2).2).2) > (if (Prod.fst (Prod.snd (Prod.snd (Prod.snd (Prod.snd r2).2).2).2).2) > (if (Prod.fst (Prod.snd (Prod.snd (Prod.snd r2.2).2).2).2) > (Prod.fst (Prod.snd (Prod.snd (Prod.snd r2).2).2).2) then (Prod.fst (Prod.snd (Prod.snd (Prod.snd r2.2).2).2).2) else (Prod.fst (Prod.snd (Prod.snd (Prod.snd r2).2).2).2)) then (Prod.fst (Prod.snd (Prod.snd (Prod.snd (Prod.snd r2).2).2).2).2) else (if (Prod.fst (Prod.snd (Prod.snd (Prod.snd r2.2).2).2).2) > (Prod.fst (Prod.snd (Prod.snd (Prod.snd r2).2).2).2) then (Prod.fst (Prod.snd (Prod.snd (Prod.snd r2.2).2).2).2) else (Prod.fst (Prod.snd (Prod.snd (Prod.snd r2).2).2).2))) then (Prod.fst (Prod.snd (Prod.snd (Prod.snd (Prod.snd (Prod.snd (Prod.snd r2.2).2).2).2).2).2).2) else (if (Prod.fst (Prod.snd (Prod.snd (Prod.snd (Prod.snd r2).2).2).2).2) > (if (Prod.fst (Prod.snd (Prod.snd (Prod.snd r2.2).2).2).2) > (Prod.fst (Prod.snd (Prod.snd (Prod.snd r2).2).2).2) then (Prod.fst (Prod.snd (Prod.snd (Prod.snd r2.2).2).2).2) else (Prod.fst (Prod.snd (Prod.snd (Prod.snd r2).2).2).2)) then (Prod.fst (Prod.snd (Prod.snd (Prod.snd (Prod.snd r2).2).2).2).2) else (if (Prod.fst (Prod.snd (Prod.snd (Prod.snd r2.2).2).2).2) > (Prod.fst (Prod.snd (Prod.snd (Prod.snd r2).2).2).2) then (Prod.fst (Prod.snd (Prod.snd (Prod.snd r2.2).2).2).2) else (Prod.fst (Prod.snd (Prod.snd (Prod.snd r2).2).2).2))))) > 1048576)) = true then
    some (mk0 150)
   else
    if ((Prod.fst (Prod.snd r2.2).2) == ([0, 0, 0, 0, 0, 0, 0, 0, 0, 0, 0, 0, 0, 0, 0, 0, 0, 0, 0, 0] : List Int)) = true then
     if ((Prod.fst (Prod.snd (Prod.snd (Prod.snd (Prod.snd (Prod.snd (Prod.snd r2).2).2).2).2).2).2) == ([0, 0, 0, 0, 0, 0, 0, 0, 0, 0, 0, 0, 0, 0, 0, 0, 0, 0, 0, 0] : List Int)) = true then
      if ((((List.length (Prod.fst (Prod.snd (Prod.snd (Prod.snd (Prod.snd (Prod.snd (Prod.snd (Prod.snd r2.2).2).2).2).2).2).2).2)) : Nat) : Int) == 0) = true then
       bindO (word_From.m n 120) fun r14 =>
        bindO (word_Shr.m n (Prod.mk r14 (Prod.fst (Prod.snd (Prod.snd (Prod.snd (Prod.snd r2.2).2).2).2).2))) fun r16 =>
         if (!(r16 == [0, 0, 0, 0])) = true then
          some (mk0 150)
         else
          bindO (word_Cmp.m n (Prod.mk (Prod.fst (Prod.snd (Prod.snd (Prod.snd (Prod.snd (Prod.snd r2).2).2).2).2).2) (Prod.fst (Prod.snd (Prod.snd (Prod.snd (Prod.snd r2.2).2).2).2).2))) fun r20 =>
           if (decide (r20 > 0)) = true then
            some (mk0 150)
           else
            if (!(Prod.fst (Prod.snd r2).2)) = true then
             if (!((((List.length (Prod.fst (Prod.snd (Prod.snd r2).2).2)) : Nat) : Int) == 0)) = true then
              some (mk0 150)
             else
              if (!(Prod.fst (Prod.snd (Prod.snd (Prod.snd (Prod.snd (Prod.snd r2.2).2).2).2).2).2)) = true then
               if (!((ibits BinOp.or .u64 (Prod.fst (Prod.snd (Prod.snd (Prod.snd (Prod.snd (Prod.snd (Prod.snd r2.2).2).2).2).2).2).2) (Prod.fst (Prod.snd (Prod.snd (Prod.snd (Prod.snd (Prod.snd (Prod.snd (Prod.snd r2).2).2).2).2).2).2).2)) == 0)) = true then
                some (mk0 150)
               else
                some (mk0 0)
              else
               some (mk0 0)
            else
             if (!(Prod.fst (Prod.snd (Prod.snd (Prod.snd (Prod.snd (Prod.snd r2.2).2).2).2).2).2)) = true then
              if (!((ibits BinOp.or .u64 (Prod.fst (Prod.snd (Prod.snd (Prod.snd (Prod.snd (Prod.snd (Prod.snd r2.2).2).2).2).2).2).2) (Prod.fst (Prod.snd (Prod.snd (Prod.snd (Prod.snd (Prod.snd (Prod.snd (Prod.snd r2).2).2).2).2).2).2).2)) == 0)) = true then
               some (mk0 150)
              else
               some (mk0 0)
             else
              some (mk0 0)
      else
       bindO (word_From.m n 120) fun r14 =>
        bindO (word_Shr.m n (Prod.mk r14 (Prod.fst (Prod.snd (Prod.snd (Prod.snd (Prod.snd r2.2).2).2).2).2))) fun r16 =>
         if (!(r16 == [0, 0, 0, 0])) = true then
          some (mk0 150)
         else
          bindO (word_Cmp.m n (Prod.mk (Prod.fst (Prod.snd (Prod.snd (Prod.snd (Prod.snd (Prod.snd r2).2).2).2).2).2) (Prod.fst (Prod.snd (Prod.snd (Prod.snd (Prod.snd r2.2).2).2).2).2))) fun r20 =>
           if (decide (r20 > 0)) = true then
            some (mk0 150)
           else
            if (!(Prod.fst (Prod.snd r2).2)) = true then
             if (!((((List.length (Prod.fst (Prod.snd (Prod.snd r2).2).2)) : Nat) : Int) == 0)) = true then
              some (mk0 150)
             else
              if (!(Prod.fst (Prod.snd (Prod.snd (Prod.snd (Prod.snd (Prod.snd r2.2).2).2).2).2).2)) = true then
               some (mk0 150)
              else
               some (mk0 0)
            else
             if (!(Prod.fst (Prod.snd (Prod.snd (Prod.snd (Prod.snd (Prod.snd r2.2).2).2).2).2).2)) = true then
              some (mk0 150)
             else
              some (mk0 0)
     else
      bindO (word_From.m n 120) fun r12 =>
       bindO (word_Shr.m n (Prod.mk r12 (Prod.fst (Prod.snd (Prod.snd (Prod.snd (Prod.snd r2.2).2).2).2).2))) fun r14 =>
        if (!(r14 == [0, 0, 0, 0])) = true then
         some (mk0 150)
        else
         bindO (word_Cmp.m n (Prod.mk (Prod.fst (Prod.snd (Prod.snd (Prod.snd (Prod.snd (Prod.snd r2).2).2).2).2).2) (Prod.fst (Prod.snd (Prod.snd (Prod.snd (Prod.snd r2.2).2).2).2).2))) fun r18 =>
          if (decide (r18 > 0)) = true then
           some (mk0 150)
          else
           if (!(Prod.fst (Prod.snd r2).2)) = true then
            if (!((((List.length (Prod.fst (Prod.snd (Prod.snd r2).2).2)) : Nat) : Int) == 0)) = true then
             some (mk0 150)
            else
             if (!(Prod.fst (Prod.snd (Prod.snd (Prod.snd (Prod.snd (Prod.snd r2.2).2).2).2).2).2)) = true then
              some (mk0 150)
             else
              some (mk0 0)
           else
            if (!(Prod.fst (Prod.snd (Prod.snd (Prod.snd (Prod.snd (Prod.snd r2.2).2).2).2).2).2)) = true then
             some (mk0 150)
            else
             some (mk0 0)
    else
     if ((Prod.fst (Prod.snd (Prod.snd (Prod.snd (Prod.snd (Prod.snd (Prod.snd r2).2).2).2).2).2).2) == ([0, 0, 0, 0, 0, 0, 0, 0, 0, 0, 0, 0, 0, 0, 0, 0, 0, 0, 0, 0] : List Int)) = true then
      if ((((List.length (Prod.fst (Prod.snd (Prod.snd (Prod.snd (Prod.snd (Prod.snd (Prod.snd (Prod.snd r2.2).2).2).2).2).2).2).2)) : Nat) : Int) == 0) = true then
       bindO (word_From.m n 120) fun r14 =>
        bindO (word_Shr.m n (Prod.mk r14 (Prod.fst (Prod.snd (Prod.snd (Prod.snd (Prod.snd r2.2).2).2).2).2))) fun r16 =>
         if (!(r16 == [0, 0, 0, 0])) = true then
          some (mk0 150)
         else
          bindO (word_Cmp.m n (Prod.mk (Prod.fst (Prod.snd (Prod.snd (Prod.snd (Prod.snd (Prod.snd r2).2).2).2).2).2) (Prod.fst (Prod.snd (Prod.snd (Prod.snd (Prod.snd r2.2).2).2).2).2))) fun r20 =>
           if (decide (r20 > 0)) = true then
            some (mk0 150)
           else
            if (!(Prod.fst (Prod.snd r2).2)) = true then
             some (mk0 150)
            else
             if (!(Prod.fst (Prod.snd (Prod.snd (Prod.snd (Prod.snd (Prod.snd r2.2).2).2).2).2).2)) = true then
              if (!((ibits BinOp.or .u64 (Prod.fst (Prod.snd (Prod.snd (Prod.snd (Prod.snd (Prod.snd (Prod.snd r2.2).2).2).2).2).2).2) (Prod.fst (Prod.snd (Prod.snd (Prod.snd (Prod.snd (Prod.snd (Prod.snd (Prod.snd r2).2).2).2).2).2).2).2)) == 0)) = true then
               some (mk0 150)
              else
               some (mk0 0)
             else
              some (mk0 0)
      else
       bindO (word_From.m n 120) fun r14 =>
        bindO (word_Shr.m n (Prod.mk r14 (Prod.fst (Prod.snd (Prod.snd (Prod.snd (Prod.snd r2.2).2).2).2).2))) fun r16 =>
         if (!(r16 == [0, 0, 0, 0])) = true then
          some (mk0 150)
         else
          bindO (word_Cmp.m n (Prod.mk (Prod.fst (Prod.snd (Prod.snd (Prod.snd (Prod.snd (Prod.snd r2).2).2).2).2).2) (Prod.fst (Prod.snd (Prod.snd (Prod.snd (Prod.snd r2.2).2).2).2).2))) fun r20 =>
           if (decide (r20 > 0)) = true then
            some (mk0 150)
           else
            if (!(Prod.fst (Prod.snd r2).2)) = true then
             some (mk0 150)
            else
             if (!(Prod.fst (Prod.snd (Prod.snd (Prod.snd (Prod.snd (Prod.snd r2.2).2).2).2).2).2)) = true then
              some (mk0 150)
             else
              some (mk0 0)
     else
      bindO (word_From.m n 120) fun r12 =>
       bindO (word_Shr.m n (Prod.mk r12 (Prod.fst (Prod.snd (Prod.snd (Prod.snd (Prod.snd r2.2).2).2).2).2))) fun r14 =>
        if (!(r14 == [0, 0, 0, 0])) = true then
         some (mk0 150)
        else
         bindO (word_Cmp.m n (Prod.mk (Prod.fst (Prod.snd (Prod.snd (Prod.snd (Prod.snd (Prod.snd r2).2).2).2).2).2) (Prod.fst (Prod.snd (Prod.snd (Prod.snd (Prod.snd r2.2).2).2).2).2))) fun r18 =>
          if (decide (r18 > 0)) = true then
           some (mk0 150)
          else
           if (!(Prod.fst (Prod.snd r2).2)) = true then
            some (mk0 150)
           else
            if (!(Prod.fst (Prod.snd (Prod.snd (Prod.snd (Prod.snd (Prod.snd r2.2).2).2).2).2).2)) = true then
             some (mk0 150)
            else
             some (mk0 0)
def userop_Check.m (n : Nat) (t : ((List Int) × ((List Int) × (Bool × ((List Int) × ((List Int) × ((List Int) × (Int × (Int × (Int × ((List Int) × ((List Int) × (Bool × ((List Int) × (Int × (Int × ((List Int) × (List Int)))))))))))))))))) : Option Int := userop_Check.g (fun a0 => a0) n t.1 t.2.1 t.2.2.1 t.2.2.2.1 t.2.2.2.2.1 t.2.2.2.2.2.1 t.2.2.2.2.2.2.1 t.2.2.2.2.2.2.2.1 t.2.2.2.2.2.2.2.2.1 t.2.2.2.2.2.2.2.2.2.1 t.2.2.2.2.2.2.2.2.2.2.1 t.2.2.2.2.2.2.2.2.2.2.2.1 t.2.2.2.2.2.2.2.2.2.2.2.2.1 t.2.2.2.2.2.2.2.2.2.2.2.2.2.1 t.2.2.2.2.2.2.2.2.2.2.2.2.2.2.1 t.2.2.2.2.2.2.2.2.2.2.2.2.2.2.2.1 t.2.2.2.2.2.2.2.2.2.2.2.2.2.2.2.2
def userop_Check.pat : List AV → Blks → Option ((List Int) × ((List Int) × (Bool × ((List Int) × ((List Int) × ((List Int) × (Int × (Int × (Int × ((List Int) × ((List Int) × (Bool × ((List Int) × (Int × (Int × ((List Int) × (List Int)))))))))))))))))
 | [(.agg [(.ints .u8 20 a0_0), (.ints .u64 4 a0_1), (.bool a0_2), (.ints .u8 20 a0_3), (.rints .u8 a0_4), (.rints .u8 a0_5), (.int .u64 a0_6), (.int .u64 a0_7), (.int .u64 a0_8), (.ints .u64 4 a0_9), (.ints .u64 4 a0_10), (.bool a0_11), (.ints .u8 20 a0_12), (.int .u64 a0_13), (.int .u64 a0_14), (.rints .u8 a0_15), (.rints .u8 a0_16)])], [] => some (a0_0, a0_1, a0_2, a0_3, a0_4, a0_5, a0_6, a0_7, a0_8, a0_9, a0_10, a0_11, a0_12, a0_13, a0_14, a0_15, a0_16)
 | _, _ => none
def userop_Check.shape (t : ((List Int) × ((List Int) × (Bool × ((List Int) × ((List Int) × ((List Int) × (Int × (Int × (Int × ((List Int) × ((List Int) × (Bool × ((List Int) × (Int × (Int × ((List Int) × (List Int)))))))))))))))))) : List AV × Blks := ([(.agg [(.ints .u8 20 t.1), (.ints .u64 4 t.2.1), (.bool t.2.2.1), (.ints .u8 20 t.2.2.2.1), (.rints .u8 t.2.2.2.2.1), (.rints .u8 t.2.2.2.2.2.1), (.int .u64 t.2.2.2.2.2.2.1), (.int .u64 t.2.2.2.2.2.2.2.1), (.int .u64 t.2.2.2.2.2.2.2.2.1), (.ints .u64 4 t.2.2.2.2.2.2.2.2.2.1), (.ints .u64 4 t.2.2.2.2.2.2.2.2.2.2.1), (.bool t.2.2.2.2.2.2.2.2.2.2.2.1), (.ints .u8 20 t.2.2.2.2.2.2.2.2.2.2.2.2.1), (.int .u64 t.2.2.2.2.2.2.2.2.2.2.2.2.2.1), (.int .u64 t.2.2.2.2.2.2.2.2.2.2.2.2.2.2.1), (.rints .u8 t.2.2.2.2.2.2.2.2.2.2.2.2.2.2.2.1), (.rints .u8 t.2.2.2.2.2.2.2.2.2.2.2.2.2.2.2.2)])], [])
def userop_Check.res : Int → AV × Blks
 | u => (Prod.mk (.int .u16 u) [])
def userop_Check.resK {R : Type} (u : Int) (K : AV → Blks → Option R) : Option R := (fun p : AV × Blks => K p.1 p.2) (Prod.mk (.int .u16 u) [])
def userop_Check.c (n : Nat) : Abs.Callee := .mk' [] [(some (.agg [none, none, none, none, (some (.ints .u8)), (some (.ints .u8)), none, none, none, none, none, none, none, none, none, (some (.ints .u8)), (some (.ints .u8))]))] userop_Check.pat (userop_Check.m n) userop_Check.resK
end
end
section
theorem word_From.gmap {α β : Type} (h : β → α) (mk0 : (List Int) → β) (n : Nat) (a0 : Int) : word_From.g (fun a0 => (h (mk0 a0))) n a0 = (word_From.g mk0 n a0).map h := by
  unfold word_From.g
  exact rfl
theorem word_From.run (n : Nat) (a0 : Int) : runF (word_From.C n) (word_From.A n) n Tryd.f69 [(.int .u64 a0)] [] (fun v o => some (v, o)) = word_From.g (fun a0 => ((Prod.mk (.ints .u64 4 a0) []) : AV × Blks)) n a0 := by kernel_rfl
theorem word_From.call (hmix : Tryd.prog.follows .mixedOrders = true) (n : Nat) (t : Int) (u) (h : word_From.m n t = some u) : FnC Tryd.prog abiG 69 (word_From.shape t).1 (word_From.shape t).2 (word_From.res u).1 (word_From.res u).2 := by
  have hg : ∀ f m, (word_From.C n).Γ f = some m → CalleeS Tryd.prog abiG f m := by
    intro f m hm
    unfold word_From.C at hm
    simp only at hm
    first
    | (cases hm; done)
    | (split at hm <;> first
    | (cases hm; done))
  have hb : Tryd.f69.body = some (Tryd.f69.body.getD .skip) := by kernel_rfl
  refine runF_calls (C := word_From.C n) (A := word_From.A n) (n := n) (fn := Tryd.f69) hg hmix Tryd.func69 hb ?_ ?_ (by decide) rfl rfl (by show 1 ≤ Tryd.f69.ntmps; decide) ?_
  · rw [show loopsIn (Tryd.f69.body.getD .skip) = [] by kernel_rfl]
    intro b hb
    cases hb
  · intro a ha m hm
    cases (show none = some m from hm)
  · rw [show runF (word_From.C n) (word_From.A n) n Tryd.f69 (word_From.shape t).1 (word_From.shape t).2 (fun v o => some (v, o)) = _ from word_From.run n t]
    have e := word_From.gmap word_From.res (fun a0 => a0) n t
    unfold word_From.m at h
    rw [h] at e
    exact e
theorem word_From.s (hmix : Tryd.prog.follows .mixedOrders = true) (n : Nat) : CalleeS Tryd.prog abiG 69 (word_From.c n) :=
  CalleeS.of (res := word_From.res) (shape := word_From.shape) (fun R u K => rfl) (fun args lent t h => by
    unfold word_From.pat at h
    split at h
    · cases h; rfl
    · cases h) fun t u h => (word_From.call hmix n t u h).ok Tryd.func69 (by decide) (by kernel_rfl)
end
section
theorem userop_Check.l2_0.rmap {α β : Type} (h : β → α) (mk0 : Int → (List Int) → (List Int) → Bool → (List Int) → (List Int) → (List Int) → Int → Int → Int → (List Int) → (List Int) → Bool → (List Int) → Int → Int → (List Int) → (List Int) → β) (mk1 : (List Int) → (List Int) → Bool → (List Int) → (List Int) → (List Int) → Int → Int → Int → (List Int) → (List Int) → Bool → (List Int) → Int → Int → (List Int) → (List Int) → β) (n : Nat) (f : Int → Int → (List AV) → (List Int) → (List Int) → Bool → (List Int) → (List Int) → (List Int) → Int → Int → Int → (List Int) → (List Int) → Bool → (List Int) → Int → Int → (List Int) → (List Int) → Option β)  (x0 : Int) (x1 : Int) (x2 : (List AV)) (x3 : (List Int)) (x4 : (List Int)) (x5 : Bool) (x6 : (List Int)) (x7 : (List Int)) (x8 : (List Int)) (x9 : Int) (x10 : Int) (x11 : Int) (x12 : (List Int)) (x13 : (List Int)) (x14 : Bool) (x15 : (List Int)) (x16 : Int) (x17 : Int) (x18 : (List Int)) (x19 : (List Int)) : userop_Check.l2_0.r (fun a0 a1 a2 a3 a4 a5 a6 a7 a8 a9 a10 a11 a12 a13 a14 a15 a16 a17 => (h (mk0 a0 a1 a2 a3 a4 a5 a6 a7 a8 a9 a10 a11 a12 a13 a14 a15 a16 a17))) (fun a0 a1 a2 a3 a4 a5 a6 a7 a8 a9 a10 a11 a12 a13 a14 a15 a16 => (h (mk1 a0 a1 a2 a3 a4 a5 a6 a7 a8 a9 a10 a11 a12 a13 a14 a15 a16))) n (fun y0 y1 y2 y3 y4 y5 y6 y7 y8 y9 y10 y11 y12 y13 y14 y15 y16 y17 y18 y19 => (f y0 y1 y2 y3 y4 y5 y6 y7 y8 y9 y10 y11 y12 y13 y14 y15 y16 y17 y18 y19).map h) x0 x1 x2 x3 x4 x5 x6 x7 x8 x9 x10 x11 x12 x13 x14 x15 x16 x17 x18 x19 = (userop_Check.l2_0.r mk0 mk1 n f x0 x1 x2 x3 x4 x5 x6 x7 x8 x9 x10 x11 x12 x13 x14 x15 x16 x17 x18 x19).map h := by
  unfold userop_Check.l2_0.r
  exact (ite_map (ite_map (ite_map (bindO_map fun r10 => (ite_map rfl rfl)) rfl) rfl) rfl)
theorem userop_Check.l2_0.gmap {α β : Type} (h : β → α) (mk0 : Int → (List Int) → (List Int) → Bool → (List Int) → (List Int) → (List Int) → Int → Int → Int → (List Int) → (List Int) → Bool → (List Int) → Int → Int → (List Int) → (List Int) → β) (mk1 : (List Int) → (List Int) → Bool → (List Int) → (List Int) → (List Int) → Int → Int → Int → (List Int) → (List Int) → Bool → (List Int) → Int → Int → (List Int) → (List Int) → β) (n : Nat) : ∀ (m : Nat) (x0 : Int) (x1 : Int) (x2 : (List AV)) (x3 : (List Int)) (x4 : (List Int)) (x5 : Bool) (x6 : (List Int)) (x7 : (List Int)) (x8 : (List Int)) (x9 : Int) (x10 : Int) (x11 : Int) (x12 : (List Int)) (x13 : (List Int)) (x14 : Bool) (x15 : (List Int)) (x16 : Int) (x17 : Int) (x18 : (List Int)) (x19 : (List Int)), userop_Check.l2_0.g (fun a0 a1 a2 a3 a4 a5 a6 a7 a8 a9 a10 a11 a12 a13 a14 a15 a16 a17 => (h (mk0 a0 a1 a2 a3 a4 a5 a6 a7 a8 a9 a10 a11 a12 a13 a14 a15 a16 a17))) (fun a0 a1 a2 a3 a4 a5 a6 a7 a8 a9 a10 a11 a12 a13 a14 a15 a16 => (h (mk1 a0 a1 a2 a3 a4 a5 a6 a7 a8 a9 a10 a11 a12 a13 a14 a15 a16))) n m x0 x1 x2 x3 x4 x5 x6 x7 x8 x9 x10 x11 x12 x13 x14 x15 x16 x17 x18 x19 = (userop_Check.l2_0.g mk0 mk1 n m x0 x1 x2 x3 x4 x5 x6 x7 x8 x9 x10 x11 x12 x13 x14 x15 x16 x17 x18 x19).map h
  | 0, _, _, _, _, _, _, _, _, _, _, _, _, _, _, _, _, _, _, _, _ => rfl
  | m + 1, x0, x1, x2, x3, x4, x5, x6, x7, x8, x9, x10, x11, x12, x13, x14, x15, x16, x17, x18, x19 => by
    unfold userop_Check.l2_0.g
    rw [← userop_Check.l2_0.rmap]
    congr
    · funext y0 y1 y2 y3 y4 y5 y6 y7 y8 y9 y10 y11 y12 y13 y14 y15 y16 y17 y18 y19; exact userop_Check.l2_0.gmap h mk0 mk1 n m y0 y1 y2 y3 y4 y5 y6 y7 y8 y9 y10 y11 y12 y13 y14 y15 y16 y17 y18 y19
theorem userop_Check.l2_0.pat_shape : ∀ st t, userop_Check.l2_0.pat st = some t → st = userop_Check.l2_0.shape t := by
  intro st t h
  unfold userop_Check.l2_0.pat at h
  split at h
  · cases h; rfl
  · cases h
theorem userop_Check.l2_0.round (n : Nat) (rc : St → Option (Ex × St)) (x0 : Int) (x1 : Int) (x2 : (List AV)) (x3 : (List Int)) (x4 : (List Int)) (x5 : Bool) (x6 : (List Int)) (x7 : (List Int)) (x8 : (List Int)) (x9 : Int) (x10 : Int) (x11 : Int) (x12 : (List Int)) (x13 : (List Int)) (x14 : Bool) (x15 : (List Int)) (x16 : Int) (x17 : Int) (x18 : (List Int)) (x19 : (List Int)) : roundOf (userop_Check.C n) (userop_Check.A n) n userop_Check.b0 rc ((St.mk [(.int .i64 x0), (.int .i64 x1), (.robjs 26 1 x2), (.ptr 0 [])] [(some (.var (.agg [(.ints .u8 20 x3), (.ints .u64 4 x4), (.bool x5), (.ints .u8 20 x6), (.rints .u8 x7), (.rints .u8 x8), (.int .u64 x9), (.int .u64 x10), (.int .u64 x11), (.ints .u64 4 x12), (.ints .u64 4 x13), (.bool x14), (.ints .u8 20 x15), (.int .u64 x16), (.int .u64 x17), (.rints .u8 x18), (.rints .u8 x19)])))])) = userop_Check.l2_0.r (fun a0 a1 a2 a3 a4 a5 a6 a7 a8 a9 a10 a11 a12 a13 a14 a15 a16 a17 => ((Prod.mk .ret (St.mk [(.int .u16 a0), (.ptr 0 [])] [(some (.var (.agg [(.ints .u8 20 a1), (.ints .u64 4 a2), (.bool a3), (.ints .u8 20 a4), (.rints .u8 a5), (.rints .u8 a6), (.int .u64 a7), (.int .u64 a8), (.int .u64 a9), (.ints .u64 4 a10), (.ints .u64 4 a11), (.bool a12), (.ints .u8 20 a13), (.int .u64 a14), (.int .u64 a15), (.rints .u8 a16), (.rints .u8 a17)])))])) : Ex × St)) (fun a0 a1 a2 a3 a4 a5 a6 a7 a8 a9 a10 a11 a12 a13 a14 a15 a16 => ((Prod.mk (.exit 0) (St.mk [.any, (.ptr 0 [])] [(some (.var (.agg [(.ints .u8 20 a0), (.ints .u64 4 a1), (.bool a2), (.ints .u8 20 a3), (.rints .u8 a4), (.rints .u8 a5), (.int .u64 a6), (.int .u64 a7), (.int .u64 a8), (.ints .u64 4 a9), (.ints .u64 4 a10), (.bool a11), (.ints .u8 20 a12), (.int .u64 a13), (.int .u64 a14), (.rints .u8 a15), (.rints .u8 a16)])))])) : Ex × St)) n (fun y0 y1 y2 y3 y4 y5 y6 y7 y8 y9 y10 y11 y12 y13 y14 y15 y16 y17 y18 y19 => rc ((St.mk [(.int .i64 y0), (.int .i64 y1), (.robjs 26 1 y2), (.ptr 0 [])] [(some (.var (.agg [(.ints .u8 20 y3), (.ints .u64 4 y4), (.bool y5), (.ints .u8 20 y6), (.rints .u8 y7), (.rints .u8 y8), (.int .u64 y9), (.int .u64 y10), (.int .u64 y11), (.ints .u64 4 y12), (.ints .u64 4 y13), (.bool y14), (.ints .u8 20 y15), (.int .u64 y16), (.int .u64 y17), (.rints .u8 y18), (.rints .u8 y19)])))]))) x0 x1 x2 x3 x4 x5 x6 x7 x8 x9 x10 x11 x12 x13 x14 x15 x16 x17 x18 x19 := by kernel_rfl
theorem userop_Check.l2_0.loop' (n : Nat) : ∀ (m : Nat) (t : (Int × (Int × ((List AV) × ((List Int) × ((List Int) × (Bool × ((List Int) × ((List Int) × ((List Int) × (Int × (Int × (Int × ((List Int) × ((List Int) × (Bool × ((List Int) × (Int × (Int × ((List Int) × (List Int))))))))))))))))))))), loopOf (roundOf (userop_Check.C n) (userop_Check.A n) n userop_Check.b0) m (userop_Check.l2_0.shape t) = userop_Check.l2_0.g (fun a0 a1 a2 a3 a4 a5 a6 a7 a8 a9 a10 a11 a12 a13 a14 a15 a16 a17 => ((Prod.mk .ret (St.mk [(.int .u16 a0), (.ptr 0 [])] [(some (.var (.agg [(.ints .u8 20 a1), (.ints .u64 4 a2), (.bool a3), (.ints .u8 20 a4), (.rints .u8 a5), (.rints .u8 a6), (.int .u64 a7), (.int .u64 a8), (.int .u64 a9), (.ints .u64 4 a10), (.ints .u64 4 a11), (.bool a12), (.ints .u8 20 a13), (.int .u64 a14), (.int .u64 a15), (.rints .u8 a16), (.rints .u8 a17)])))])) : Ex × St)) (fun a0 a1 a2 a3 a4 a5 a6 a7 a8 a9 a10 a11 a12 a13 a14 a15 a16 => ((Prod.mk (.exit 0) (St.mk [.any, (.ptr 0 [])] [(some (.var (.agg [(.ints .u8 20 a0), (.ints .u64 4 a1), (.bool a2), (.ints .u8 20 a3), (.rints .u8 a4), (.rints .u8 a5), (.int .u64 a6), (.int .u64 a7), (.int .u64 a8), (.ints .u64 4 a9), (.ints .u64 4 a10), (.bool a11), (.ints .u8 20 a12), (.int .u64 a13), (.int .u64 a14), (.rints .u8 a15), (.rints .u8 a16)])))])) : Ex × St)) n m t.1 t.2.1 t.2.2.1 t.2.2.2.1 t.2.2.2.2.1 t.2.2.2.2.2.1 t.2.2.2.2.2.2.1 t.2.2.2.2.2.2.2.1 t.2.2.2.2.2.2.2.2.1 t.2.2.2.2.2.2.2.2.2.1 t.2.2.2.2.2.2.2.2.2.2.1 t.2.2.2.2.2.2.2.2.2.2.2.1 t.2.2.2.2.2.2.2.2.2.2.2.2.1 t.2.2.2.2.2.2.2.2.2.2.2.2.2.1 t.2.2.2.2.2.2.2.2.2.2.2.2.2.2.1 t.2.2.2.2.2.2.2.2.2.2.2.2.2.2.2.1 t.2.2.2.2.2.2.2.2.2.2.2.2.2.2.2.2.1 t.2.2.2.2.2.2.2.2.2.2.2.2.2.2.2.2.2.1 t.2.2.2.2.2.2.2.2.2.2.2.2.2.2.2.2.2.2.1 t.2.2.2.2.2.2.2.2.2.2.2.2.2.2.2.2.2.2.2 :=
  loop_of_round (shape := userop_Check.l2_0.shape) (body := roundOf (userop_Check.C n) (userop_Check.A n) n userop_Check.b0) (g := fun m t => userop_Check.l2_0.g (fun a0 a1 a2 a3 a4 a5 a6 a7 a8 a9 a10 a11 a12 a13 a14 a15 a16 a17 => ((Prod.mk .ret (St.mk [(.int .u16 a0), (.ptr 0 [])] [(some (.var (.agg [(.ints .u8 20 a1), (.ints .u64 4 a2), (.bool a3), (.ints .u8 20 a4), (.rints .u8 a5), (.rints .u8 a6), (.int .u64 a7), (.int .u64 a8), (.int .u64 a9), (.ints .u64 4 a10), (.ints .u64 4 a11), (.bool a12), (.ints .u8 20 a13), (.int .u64 a14), (.int .u64 a15), (.rints .u8 a16), (.rints .u8 a17)])))])) : Ex × St)) (fun a0 a1 a2 a3 a4 a5 a6 a7 a8 a9 a10 a11 a12 a13 a14 a15 a16 => ((Prod.mk (.exit 0) (St.mk [.any, (.ptr 0 [])] [(some (.var (.agg [(.ints .u8 20 a0), (.ints .u64 4 a1), (.bool a2), (.ints .u8 20 a3), (.rints .u8 a4), (.rints .u8 a5), (.int .u64 a6), (.int .u64 a7), (.int .u64 a8), (.ints .u64 4 a9), (.ints .u64 4 a10), (.bool a11), (.ints .u8 20 a12), (.int .u64 a13), (.int .u64 a14), (.rints .u8 a15), (.rints .u8 a16)])))])) : Ex × St)) n m t.1 t.2.1 t.2.2.1 t.2.2.2.1 t.2.2.2.2.1 t.2.2.2.2.2.1 t.2.2.2.2.2.2.1 t.2.2.2.2.2.2.2.1 t.2.2.2.2.2.2.2.2.1 t.2.2.2.2.2.2.2.2.2.1 t.2.2.2.2.2.2.2.2.2.2.1 t.2.2.2.2.2.2.2.2.2.2.2.1 t.2.2.2.2.2.2.2.2.2.2.2.2.1 t.2.2.2.2.2.2.2.2.2.2.2.2.2.1 t.2.2.2.2.2.2.2.2.2.2.2.2.2.2.1 t.2.2.2.2.2.2.2.2.2.2.2.2.2.2.2.1 t.2.2.2.2.2.2.2.2.2.2.2.2.2.2.2.2.1 t.2.2.2.2.2.2.2.2.2.2.2.2.2.2.2.2.2.1 t.2.2.2.2.2.2.2.2.2.2.2.2.2.2.2.2.2.2.1 t.2.2.2.2.2.2.2.2.2.2.2.2.2.2.2.2.2.2.2) (fun t => rfl)
    fun m t ih => (userop_Check.l2_0.round n (loopOf (roundOf (userop_Check.C n) (userop_Check.A n) n userop_Check.b0) m) t.1 t.2.1 t.2.2.1 t.2.2.2.1 t.2.2.2.2.1 t.2.2.2.2.2.1 t.2.2.2.2.2.2.1 t.2.2.2.2.2.2.2.1 t.2.2.2.2.2.2.2.2.1 t.2.2.2.2.2.2.2.2.2.1 t.2.2.2.2.2.2.2.2.2.2.1 t.2.2.2.2.2.2.2.2.2.2.2.1 t.2.2.2.2.2.2.2.2.2.2.2.2.1 t.2.2.2.2.2.2.2.2.2.2.2.2.2.1 t.2.2.2.2.2.2.2.2.2.2.2.2.2.2.1 t.2.2.2.2.2.2.2.2.2.2.2.2.2.2.2.1 t.2.2.2.2.2.2.2.2.2.2.2.2.2.2.2.2.1 t.2.2.2.2.2.2.2.2.2.2.2.2.2.2.2.2.2.1 t.2.2.2.2.2.2.2.2.2.2.2.2.2.2.2.2.2.2.1 t.2.2.2.2.2.2.2.2.2.2.2.2.2.2.2.2.2.2.2).trans (congrFun (congrFun (congrFun (congrFun (congrFun (congrFun (congrFun (congrFun (congrFun (congrFun (congrFun (congrFun (congrFun (congrFun (congrFun (congrFun (congrFun (congrFun (congrFun (congrFun (congrArg (userop_Check.l2_0.r (fun a0 a1 a2 a3 a4 a5 a6 a7 a8 a9 a10 a11 a12 a13 a14 a15 a16 a17 => ((Prod.mk .ret (St.mk [(.int .u16 a0), (.ptr 0 [])] [(some (.var (.agg [(.ints .u8 20 a1), (.ints .u64 4 a2), (.bool a3), (.ints .u8 20 a4), (.rints .u8 a5), (.rints .u8 a6), (.int .u64 a7), (.int .u64 a8), (.int .u64 a9), (.ints .u64 4 a10), (.ints .u64 4 a11), (.bool a12), (.ints .u8 20 a13), (.int .u64 a14), (.int .u64 a15), (.rints .u8 a16), (.rints .u8 a17)])))])) : Ex × St)) (fun a0 a1 a2 a3 a4 a5 a6 a7 a8 a9 a10 a11 a12 a13 a14 a15 a16 => ((Prod.mk (.exit 0) (St.mk [.any, (.ptr 0 [])] [(some (.var (.agg [(.ints .u8 20 a0), (.ints .u64 4 a1), (.bool a2), (.ints .u8 20 a3), (.rints .u8 a4), (.rints .u8 a5), (.int .u64 a6), (.int .u64 a7), (.int .u64 a8), (.ints .u64 4 a9), (.ints .u64 4 a10), (.bool a11), (.ints .u8 20 a12), (.int .u64 a13), (.int .u64 a14), (.rints .u8 a15), (.rints .u8 a16)])))])) : Ex × St)) n) (funext fun y0 => funext fun y1 => funext fun y2 => funext fun y3 => funext fun y4 => funext fun y5 => funext fun y6 => funext fun y7 => funext fun y8 => funext fun y9 => funext fun y10 => funext fun y11 => funext fun y12 => funext fun y13 => funext fun y14 => funext fun y15 => funext fun y16 => funext fun y17 => funext fun y18 => funext fun y19 => ih (y0, y1, y2, y3, y4, y5, y6, y7, y8, y9, y10, y11, y12, y13, y14, y15, y16, y17, y18, y19))) t.1) t.2.1) t.2.2.1) t.2.2.2.1) t.2.2.2.2.1) t.2.2.2.2.2.1) t.2.2.2.2.2.2.1) t.2.2.2.2.2.2.2.1) t.2.2.2.2.2.2.2.2.1) t.2.2.2.2.2.2.2.2.2.1) t.2.2.2.2.2.2.2.2.2.2.1) t.2.2.2.2.2.2.2.2.2.2.2.1) t.2.2.2.2.2.2.2.2.2.2.2.2.1) t.2.2.2.2.2.2.2.2.2.2.2.2.2.1) t.2.2.2.2.2.2.2.2.2.2.2.2.2.2.1) t.2.2.2.2.2.2.2.2.2.2.2.2.2.2.2.1) t.2.2.2.2.2.2.2.2.2.2.2.2.2.2.2.2.1) t.2.2.2.2.2.2.2.2.2.2.2.2.2.2.2.2.2.1) t.2.2.2.2.2.2.2.2.2.2.2.2.2.2.2.2.2.2.1) t.2.2.2.2.2.2.2.2.2.2.2.2.2.2.2.2.2.2.2)
theorem userop_Check.l2_0.loop (n m : Nat) (t : (Int × (Int × ((List AV) × ((List Int) × ((List Int) × (Bool × ((List Int) × ((List Int) × ((List Int) × (Int × (Int × (Int × ((List Int) × ((List Int) × (Bool × ((List Int) × (Int × (Int × ((List Int) × (List Int))))))))))))))))))))) : loopOf (roundOf (userop_Check.C n) (userop_Check.A n) n userop_Check.b0) m (userop_Check.l2_0.shape t) = (userop_Check.l2_0.m n m t).map userop_Check.l2_0.res :=
  (userop_Check.l2_0.loop' n m t).trans (userop_Check.l2_0.gmap userop_Check.l2_0.res (fun a0 a1 a2 a3 a4 a5 a6 a7 a8 a9 a10 a11 a12 a13 a14 a15 a16 a17 => (.inl (a0, a1, a2, a3, a4, a5, a6, a7, a8, a9, a10, a11, a12, a13, a14, a15, a16, a17))) (fun a0 a1 a2 a3 a4 a5 a6 a7 a8 a9 a10 a11 a12 a13 a14 a15 a16 => (.inr (a0, a1, a2, a3, a4, a5, a6, a7, a8, a9, a10, a11, a12, a13, a14, a15, a16))) n m t.1 t.2.1 t.2.2.1 t.2.2.2.1 t.2.2.2.2.1 t.2.2.2.2.2.1 t.2.2.2.2.2.2.1 t.2.2.2.2.2.2.2.1 t.2.2.2.2.2.2.2.2.1 t.2.2.2.2.2.2.2.2.2.1 t.2.2.2.2.2.2.2.2.2.2.1 t.2.2.2.2.2.2.2.2.2.2.2.1 t.2.2.2.2.2.2.2.2.2.2.2.2.1 t.2.2.2.2.2.2.2.2.2.2.2.2.2.1 t.2.2.2.2.2.2.2.2.2.2.2.2.2.2.1 t.2.2.2.2.2.2.2.2.2.2.2.2.2.2.2.1 t.2.2.2.2.2.2.2.2.2.2.2.2.2.2.2.2.1 t.2.2.2.2.2.2.2.2.2.2.2.2.2.2.2.2.2.1 t.2.2.2.2.2.2.2.2.2.2.2.2.2.2.2.2.2.2.1 t.2.2.2.2.2.2.2.2.2.2.2.2.2.2.2.2.2.2.2)
theorem userop_Check.gmap {α β : Type} (h : β → α) (mk0 : Int → β) (n : Nat) (a0_0 : (List Int)) (a0_1 : (List Int)) (a0_2 : Bool) (a0_3 : (List Int)) (a0_4 : (List Int)) (a0_5 : (List Int)) (a0_6 : Int) (a0_7 : Int) (a0_8 : Int) (a0_9 : (List Int)) (a0_10 : (List Int)) (a0_11 : Bool) (a0_12 : (List Int)) (a0_13 : Int) (a0_14 : Int) (a0_15 : (List Int)) (a0_16 : (List Int)) : userop_Check.g (fun a0 => (h (mk0 a0))) n a0_0 a0_1 a0_2 a0_3 a0_4 a0_5 a0_6 a0_7 a0_8 a0_9 a0_10 a0_11 a0_12 a0_13 a0_14 a0_15 a0_16 = (userop_Check.g mk0 n a0_0 a0_1 a0_2 a0_3 a0_4 a0_5 a0_6 a0_7 a0_8 a0_9 a0_10 a0_11 a0_12 a0_13 a0_14 a0_15 a0_16).map h := by
  unfold userop_Check.g
  exact (bindO_map fun r2 => match r2 with | (.inl r2) => rfl | (.inr r2) => (ite_map rfl (ite_map (ite_map (ite_map (bindO_map fun r14 => (bindO_map fun r16 => (ite_map rfl (bindO_map fun r20 => (ite_map rfl (ite_map (ite_map rfl (ite_map (ite_map rfl rfl) rfl)) (ite_map (ite_map rfl rfl) rfl))))))) (bindO_map fun r14 => (bindO_map fun r16 => (ite_map rfl (bindO_map fun r20 => (ite_map rfl (ite_map (ite_map rfl (ite_map rfl rfl)) (ite_map rfl rfl)))))))) (bindO_map fun r12 => (bindO_map fun r14 => (ite_map rfl (bindO_map fun r18 => (ite_map rfl (ite_map (ite_map rfl (ite_map rfl rfl)) (ite_map rfl rfl)))))))) (ite_map (ite_map (bindO_map fun r14 => (bindO_map fun r16 => (ite_map rfl (bindO_map fun r20 => (ite_map rfl (ite_map rfl (ite_map (ite_map rfl rfl) rfl))))))) (bindO_map fun r14 => (bindO_map fun r16 => (ite_map rfl (bindO_map fun r20 => (ite_map rfl (ite_map rfl (ite_map rfl rfl)))))))) (bindO_map fun r12 => (bindO_map fun r14 => (ite_map rfl (bindO_map fun r18 => (ite_map rfl (ite_map rfl (ite_map rfl rfl)))))))))))
theorem userop_Check.run (n : Nat) (a0_0 : (List Int)) (a0_1 : (List Int)) (a0_2 : Bool) (a0_3 : (List Int)) (a0_4 : (List Int)) (a0_5 : (List Int)) (a0_6 : Int) (a0_7 : Int) (a0_8 : Int) (a0_9 : (List Int)) (a0_10 : (List Int)) (a0_11 : Bool) (a0_12 : (List Int)) (a0_13 : Int) (a0_14 : Int) (a0_15 : (List Int)) (a0_16 : (List Int)) : runF (userop_Check.C n) (userop_Check.A n) n Tryd.f59 [(.agg [(.ints .u8 20 a0_0), (.ints .u64 4 a0_1), (.bool a0_2), (.ints .u8 20 a0_3), (.rints .u8 a0_4), (.rints .u8 a0_5), (.int .u64 a0_6), (.int .u64 a0_7), (.int .u64 a0_8), (.ints .u64 4 a0_9), (.ints .u64 4 a0_10), (.bool a0_11), (.ints .u8 20 a0_12), (.int .u64 a0_13), (.int .u64 a0_14), (.rints .u8 a0_15), (.rints .u8 a0_16)])] [] (fun v o => some (v, o)) = userop_Check.g (fun a0 => ((Prod.mk (.int .u16 a0) []) : AV × Blks)) n a0_0 a0_1 a0_2 a0_3 a0_4 a0_5 a0_6 a0_7 a0_8 a0_9 a0_10 a0_11 a0_12 a0_13 a0_14 a0_15 a0_16 := by kernel_rfl
theorem userop_Check.call (hmix : Tryd.prog.follows .mixedOrders = true) (n : Nat) (t : ((List Int) × ((List Int) × (Bool × ((List Int) × ((List Int) × ((List Int) × (Int × (Int × (Int × ((List Int) × ((List Int) × (Bool × ((List Int) × (Int × (Int × ((List Int) × (List Int)))))))))))))))))) (u) (h : userop_Check.m n t = some u) : FnC Tryd.prog abiG 59 (userop_Check.shape t).1 (userop_Check.shape t).2 (userop_Check.res u).1 (userop_Check.res u).2 := by
  have hg : ∀ f m, (userop_Check.C n).Γ f = some m → CalleeS Tryd.prog abiG f m := by
    intro f m hm
    unfold userop_Check.C at hm
    simp only at hm
    first
    | (cases hm; done)
    | (split at hm <;> first
    | (cases hm; exact word_From.s hmix n)
    | (cases hm; exact word_Shr.s hmix n)
    | (cases hm; exact word_Cmp.s hmix n)
    | (cases hm; done))
  have hb : Tryd.f59.body = some (Tryd.f59.body.getD .skip) := by kernel_rfl
  refine runF_calls (C := userop_Check.C n) (A := userop_Check.A n) (n := n) (fn := Tryd.f59) hg hmix Tryd.func59 hb ?_ ?_ (by decide) rfl rfl (by show 1 ≤ Tryd.f59.ntmps; decide) ?_
  · rw [show loopsIn (Tryd.f59.body.getD .skip) = [userop_Check.b0] by kernel_rfl]
    intro b hb m hm
    simp only [List.mem_cons, List.not_mem_nil, or_false] at hb
    rcases hb with rfl
    · have e : (userop_Check.A n).loop (key userop_Check.b0) = some (.mk' userop_Check.l2_0.pat (userop_Check.l2_0.m n n) userop_Check.l2_0.resK) := by rw [show key userop_Check.b0 = 2 by kernel_rfl]; rfl
      rw [e] at hm
      cases hm
      exact (LoopS.of (res := userop_Check.l2_0.res) (fun R u K => by rcases u with u | u <;> rfl) userop_Check.l2_0.pat_shape fun t => userop_Check.l2_0.loop n n t)
  · intro a ha m hm
    cases (show none = some m from hm)
  · rw [show runF (userop_Check.C n) (userop_Check.A n) n Tryd.f59 (userop_Check.shape t).1 (userop_Check.shape t).2 (fun v o => some (v, o)) = _ from userop_Check.run n t.1 t.2.1 t.2.2.1 t.2.2.2.1 t.2.2.2.2.1 t.2.2.2.2.2.1 t.2.2.2.2.2.2.1 t.2.2.2.2.2.2.2.1 t.2.2.2.2.2.2.2.2.1 t.2.2.2.2.2.2.2.2.2.1 t.2.2.2.2.2.2.2.2.2.2.1 t.2.2.2.2.2.2.2.2.2.2.2.1 t.2.2.2.2.2.2.2.2.2.2.2.2.1 t.2.2.2.2.2.2.2.2.2.2.2.2.2.1 t.2.2.2.2.2.2.2.2.2.2.2.2.2.2.1 t.2.2.2.2.2.2.2.2.2.2.2.2.2.2.2.1 t.2.2.2.2.2.2.2.2.2.2.2.2.2.2.2.2]
    have e := userop_Check.gmap userop_Check.res (fun a0 => a0) n t.1 t.2.1 t.2.2.1 t.2.2.2.1 t.2.2.2.2.1 t.2.2.2.2.2.1 t.2.2.2.2.2.2.1 t.2.2.2.2.2.2.2.1 t.2.2.2.2.2.2.2.2.1 t.2.2.2.2.2.2.2.2.2.1 t.2.2.2.2.2.2.2.2.2.2.1 t.2.2.2.2.2.2.2.2.2.2.2.1 t.2.2.2.2.2.2.2.2.2.2.2.2.1 t.2.2.2.2.2.2.2.2.2.2.2.2.2.1 t.2.2.2.2.2.2.2.2.2.2.2.2.2.2.1 t.2.2.2.2.2.2.2.2.2.2.2.2.2.2.2.1 t.2.2.2.2.2.2.2.2.2.2.2.2.2.2.2.2
    unfold userop_Check.m at h
    rw [h] at e
    exact e
theorem userop_Check.s (hmix : Tryd.prog.follows .mixedOrders = true) (n : Nat) : CalleeS Tryd.prog abiG 59 (userop_Check.c n) :=
  CalleeS.of (res := userop_Check.res) (shape := userop_Check.shape) (fun R u K => rfl) (fun args lent t h => by
    unfold userop_Check.pat at h
    split at h
    · cases h; rfl
    · cases h) fun t u h => (userop_Check.call hmix n t u h).ok Tryd.func59 (by decide) (by kernel_rfl)
end
section
noncomputable section
noncomputable def q01_From.C (n : Nat) : Ctx := ⟨Tryd.prog, abiG, fun f => match f with
 | _ => none, fun _ => false⟩
def q01_From.live : Nat → List Nat × List Nat := fun k => match k with
 | _ => ([], [])
def q01_From.jlive : Nat → List Nat × List Nat := fun k => match k with
 | _ => ([], [])
noncomputable def q01_From.A (n : Nat) : Ann := ⟨Tryd.f51.ntmps, 0, q01_From.live, [], [none], fun k => match k with
 | _ => none, q01_From.jlive, lookJ []⟩
def q01_From.g {α : Type} (mk0 : (List Int) → α) (n : Nat) (a0 : Int) : Option α :=
 some (mk0 [a0, 0, 0, 0])
def q01_From.m (n : Nat) (t : Int) : Option (List Int) := q01_From.g (fun a0 => a0) n t
def q01_From.pat : List AV → Blks → Option Int
 | [(.int .u64 a0)], [] => some a0
 | _, _ => none
def q01_From.shape (t : Int) : List AV × Blks := ([(.int .u64 t)], [])
def q01_From.res : (List Int) → AV × Blks
 | u => (Prod.mk (.ints .u64 4 u) [])
def q01_From.resK {R : Type} (u : (List Int)) (K : AV → Blks → Option R) : Option R := (fun p : AV × Blks => K p.1 p.2) (Prod.mk (.ints .u64 4 u) [])
def q01_From.c (n : Nat) : Abs.Callee := .mk' [] [none] q01_From.pat (q01_From.m n) q01_From.resK
end
end
section
noncomputable section
noncomputable def q15_Check.C (n : Nat) : Ctx := ⟨Tryd.prog, abiG, fun f => match f with
 | 51 => some (q01_From.c n)
 | 95 => some (q01_Shr.c n)
 | 49 => some (q01_Cmp.c n)
 | _ => none, fun _ => false⟩
def q15_Check.live : Nat → List Nat × List Nat := fun k => match k with
 | _ => ([], [])
def q15_Check.jlive : Nat → List Nat × List Nat := fun k => match k with
 | _ => ([], [])
noncomputable def q15_Check.A (n : Nat) : Ann := ⟨Tryd.f60.ntmps, 0, q15_Check.live, [], [none], fun k => match k with
 | _ => none, q15_Check.jlive, lookJ []⟩
def q15_Check.g {α : Type} (mk0 : Int → α) (n : Nat) (a0_0 : (List Int)) (a0_1 : (List Int)) (a0_2 : Bool) (a0_3 : (List Int)) (a0_4 : (List Int)) (a0_5 : (List Int)) (a0_6 : Int) (a0_7 : Int) (a0_8 : Int) (a0_9 : (List Int)) (a0_10 : (List Int)) (a0_11 : Bool) (a0_12 : (List Int)) (a0_13 : Int) (a0_14 : Int) (a0_15 : (List Int)) (a0_16 : (List Int)) : Option α :=
 if (decide ((((List.length a0_4) : Nat) : Int) > 4096)) = true then
  some (mk0 150)
 else
  if (decide ((((List.length a0_5) : Nat) : Int) > 4096)) = true then
   some (mk0 150)
  else
   if (decide ((((List.length a0_15) : Nat) : Int) > 4096)) = true then
    some (mk0 150)
   else
    if (decide ((((List.length a0_16) : Nat) : Int) > 4096)) = true then
     some (mk0 150)
    else
     if (decide (a0_6 > 1048576)) = true then
      some (mk0 150)
     else
      if (decide (a0_7 > 1048576)) = true then
       some (mk0 150)
      else
       if (decide (a0_8 > 1048576)) = true then
        some (mk0 150)
       else
        if (decide (a0_13 > 1048576)) = true then
         some (mk0 150)
        else
         if (decide (a0_14 > 1048576)) = true then
          some (mk0 150)
         else
          bindO (q01_From.m n 120) fun r20 =>
           bindO (q01_Shr.m n (Prod.mk r20 a0_9)) fun r22 =>
            if (!(r22 == [0, 0, 0, 0])) = true then
             some (mk0 150)
            else
             bindO (q01_Cmp.m n (Prod.mk a0_10 a0_9)) fun r26 =>
              if (decide (r26 > 0)) = true then
               some (mk0 150)
              else
               if (!a0_2) = true then
                if (!(a0_3 == ([0, 0, 0, 0, 0, 0, 0, 0, 0, 0, 0, 0, 0, 0, 0, 0, 0, 0, 0, 0] : List Int))) = true then
                 some (mk0 150)
                else
                 if (decide ((((List.length a0_4) : Nat) : Int) > 0)) = true then
                  some (mk0 150)
                 else
                  if (!a0_11) = true then
                   if (!(a0_12 == ([0, 0, 0, 0, 0, 0, 0, 0, 0, 0, 0, 0, 0, 0, 0, 0, 0, 0, 0, 0] : List Int))) = true then
                    some (mk0 150)
                   else
                    if (decide ((((List.length a0_15) : Nat) : Int) > 0)) = true then
                     some (mk0 150)
                    else
                     if (a0_13 != 0) = true then
                      some (mk0 150)
                     else
                      if (a0_14 != 0) = true then
                       some (mk0 150)
                      else
                       some (mk0 0)
                  else
                   some (mk0 0)
               else
                if (!a0_11) = true then
                 if (!(a0_12 == ([0, 0, 0, 0, 0, 0, 0, 0, 0, 0, 0, 0, 0, 0, 0, 0, 0, 0, 0, 0] : List Int))) = true then
                  some (mk0 150)
                 else
                  if (decide ((((List.length a0_15) : Nat) : Int) > 0)) = true then
                   some (mk0 150)
                  else
                   if (a0_13 != 0) = true then
                    some (mk0 150)
                   else
                    if (a0_14 != 0) = true then
                     some (mk0 150)
                    else
                     some (mk0 0)
                else
                 some (mk0 0)
def q15_Check.m (n : Nat) (t : ((List Int) × ((List Int) × (Bool × ((List Int) × ((List Int) × ((List Int) × (Int × (Int × (Int × ((List Int) × ((List Int) × (Bool × ((List Int) × (Int × (Int × ((List Int) × (List Int)))))))))))))))))) : Option Int := q15_Check.g (fun a0 => a0) n t.1 t.2.1 t.2.2.1 t.2.2.2.1 t.2.2.2.2.1 t.2.2.2.2.2.1 t.2.2.2.2.2.2.1 t.2.2.2.2.2.2.2.1 t.2.2.2.2.2.2.2.2.1 t.2.2.2.2.2.2.2.2.2.1 t.2.2.2.2.2.2.2.2.2.2.1 t.2.2.2.2.2.2.2.2.2.2.2.1 t.2.2.2.2.2.2.2.2.2.2.2.2.1 t.2.2.2.2.2.2.2.2.2.2.2.2.2.1 t.2.2.2.2.2.2.2.2.2.2.2.2.2.2.1 t.2.2.2.2.2.2.2.2.2.2.2.2.2.2.2.1 t.2.2.2.2.2.2.2.2.2.2.2.2.2.2.2.2
def q15_Check.pat : List AV → Blks → Option ((List Int) × ((List Int) × (Bool × ((List Int) × ((List Int) × ((List Int) × (Int × (Int × (Int × ((List Int) × ((List Int) × (Bool × ((List Int) × (Int × (Int × ((List Int) × (List Int)))))))))))))))))
 | [(.agg [(.ints .u8 20 a0_0), (.ints .u64 4 a0_1), (.bool a0_2), (.ints .u8 20 a0_3), (.rints .u8 a0_4), (.rints .u8 a0_5), (.int .u64 a0_6), (.int .u64 a0_7), (.int .u64 a0_8), (.ints .u64 4 a0_9), (.ints .u64 4 a0_10), (.bool a0_11), (.ints .u8 20 a0_12), (.int .u64 a0_13), (.int .u64 a0_14), (.rints .u8 a0_15), (.rints .u8 a0_16)])], [] => some (a0_0, a0_1, a0_2, a0_3, a0_4, a0_5, a0_6, a0_7, a0_8, a0_9, a0_10, a0_11, a0_12, a0_13, a0_14, a0_15, a0_16)
 | _, _ => none
def q15_Check.shape (t : ((List Int) × ((List Int) × (Bool × ((List Int) × ((List Int) × ((List Int) × (Int × (Int × (Int × ((List Int) × ((List Int) × (Bool × ((List Int) × (Int × (Int × ((List Int) × (List Int)))))))))))))))))) : List AV × Blks := ([(.agg [(.ints .u8 20 t.1), (.ints .u64 4 t.2.1), (.bool t.2.2.1), (.ints .u8 20 t.2.2.2.1), (.rints .u8 t.2.2.2.2.1), (.rints .u8 t.2.2.2.2.2.1), (.int .u64 t.2.2.2.2.2.2.1), (.int .u64 t.2.2.2.2.2.2.2.1), (.int .u64 t.2.2.2.2.2.2.2.2.1), (.ints .u64 4 t.2.2.2.2.2.2.2.2.2.1), (.ints .u64 4 t.2.2.2.2.2.2.2.2.2.2.1), (.bool t.2.2.2.2.2.2.2.2.2.2.2.1), (.ints .u8 20 t.2.2.2.2.2.2.2.2.2.2.2.2.1), (.int .u64 t.2.2.2.2.2.2.2.2.2.2.2.2.2.1), (.int .u64 t.2.2.2.2.2.2.2.2.2.2.2.2.2.2.1), (.rints .u8 t.2.2.2.2.2.2.2.2.2.2.2.2.2.2.2.1), (.rints .u8 t.2.2.2.2.2.2.2.2.2.2.2.2.2.2.2.2)])], [])
def q15_Check.res : Int → AV × Blks
 | u => (Prod.mk (.int .i64 u) [])
def q15_Check.resK {R : Type} (u : Int) (K : AV → Blks → Option R) : Option R := (fun p : AV × Blks => K p.1 p.2) (Prod.mk (.int .i64 u) [])
def q15_Check.c (n : Nat) : Abs.Callee := .mk' [] [(some (.agg [none, none, none, none, (some (.ints .u8)), (some (.ints .u8)), none, none, none, none, none, none, none, none, none, (some (.ints .u8)), (some (.ints .u8))]))] q15_Check.pat (q15_Check.m n) q15_Check.resK
end
end
section
theorem q01_From.gmap {α β : Type} (h : β → α) (mk0 : (List Int) → β) (n : Nat) (a0 : Int) : q01_From.g (fun a0 => (h (mk0 a0))) n a0 = (q01_From.g mk0 n a0).map h := by
  unfold q01_From.g
  exact rfl
theorem q01_From.run (n : Nat) (a0 : Int) : runF (q01_From.C n) (q01_From.A n) n Tryd.f51 [(.int .u64 a0)] [] (fun v o => some (v, o)) = q01_From.g (fun a0 => ((Prod.mk (.ints .u64 4 a0) []) : AV × Blks)) n a0 := by kernel_rfl
theorem q01_From.call (hmix : Tryd.prog.follows .mixedOrders = true) (n : Nat) (t : Int) (u) (h : q01_From.m n t = some u) : FnC Tryd.prog abiG 51 (q01_From.shape t).1 (q01_From.shape t).2 (q01_From.res u).1 (q01_From.res u).2 := by
  have hg : ∀ f m, (q01_From.C n).Γ f = some m → CalleeS Tryd.prog abiG f m := by
    intro f m hm
    unfold q01_From.C at hm
    simp only at hm
    first
    | (cases hm; done)
    | (split at hm <;> first
    | (cases hm; done))
  have hb : Tryd.f51.body = some (Tryd.f51.body.getD .skip) := by kernel_rfl
  refine runF_calls (C := q01_From.C n) (A := q01_From.A n) (n := n) (fn := Tryd.f51) hg hmix Tryd.func51 hb ?_ ?_ (by decide) rfl rfl (by show 1 ≤ Tryd.f51.ntmps; decide) ?_
  · rw [show loopsIn (Tryd.f51.body.getD .skip) = [] by kernel_rfl]
    intro b hb
    cases hb
  · intro a ha m hm
    cases (show none = some m from hm)
  · rw [show runF (q01_From.C n) (q01_From.A n) n Tryd.f51 (q01_From.shape t).1 (q01_From.shape t).2 (fun v o => some (v, o)) = _ from q01_From.run n t]
    have e := q01_From.gmap q01_From.res (fun a0 => a0) n t
    unfold q01_From.m at h
    rw [h] at e
    exact e
theorem q01_From.s (hmix : Tryd.prog.follows .mixedOrders = true) (n : Nat) : CalleeS Tryd.prog abiG 51 (q01_From.c n) :=
  CalleeS.of (res := q01_From.res) (shape := q01_From.shape) (fun R u K => rfl) (fun args lent t h => by
    unfold q01_From.pat at h
    split at h
    · cases h; rfl
    · cases h) fun t u h => (q01_From.call hmix n t u h).ok Tryd.func51 (by decide) (by kernel_rfl)
end
section
theorem q15_Check.gmap {α β : Type} (h : β → α) (mk0 : Int → β) (n : Nat) (a0_0 : (List Int)) (a0_1 : (List Int)) (a0_2 : Bool) (a0_3 : (List Int)) (a0_4 : (List Int)) (a0_5 : (List Int)) (a0_6 : Int) (a0_7 : Int) (a0_8 : Int) (a0_9 : (List Int)) (a0_10 : (List Int)) (a0_11 : Bool) (a0_12 : (List Int)) (a0_13 : Int) (a0_14 : Int) (a0_15 : (List Int)) (a0_16 : (List Int)) : q15_Check.g (fun a0 => (h (mk0 a0))) n a0_0 a0_1 a0_2 a0_3 a0_4 a0_5 a0_6 a0_7 a0_8 a0_9 a0_10 a0_11 a0_12 a0_13 a0_14 a0_15 a0_16 = (q15_Check.g mk0 n a0_0 a0_1 a0_2 a0_3 a0_4 a0_5 a0_6 a0_7 a0_8 a0_9 a0_10 a0_11 a0_12 a0_13 a0_14 a0_15 a0_16).map h := by
  unfold q15_Check.g
  exact (ite_map rfl (ite_map rfl (ite_map rfl (ite_map rfl (ite_map rfl (ite_map rfl (ite_map rfl (ite_map rfl (ite_map rfl (bindO_map fun r20 => (bindO_map fun r22 => (ite_map rfl (bindO_map fun r26 => (ite_map rfl (ite_map (ite_map rfl (ite_map rfl (ite_map (ite_map rfl (ite_map rfl (ite_map rfl (ite_map rfl rfl)))) rfl))) (ite_map (ite_map rfl (ite_map rfl (ite_map rfl (ite_map rfl rfl)))) rfl))))))))))))))))
theorem q15_Check.run (n : Nat) (a0_0 : (List Int)) (a0_1 : (List Int)) (a0_2 : Bool) (a0_3 : (List Int)) (a0_4 : (List Int)) (a0_5 : (List Int)) (a0_6 : Int) (a0_7 : Int) (a0_8 : Int) (a0_9 : (List Int)) (a0_10 : (List Int)) (a0_11 : Bool) (a0_12 : (List Int)) (a0_13 : Int) (a0_14 : Int) (a0_15 : (List Int)) (a0_16 : (List Int)) : runF (q15_Check.C n) (q15_Check.A n) n Tryd.f60 [(.agg [(.ints .u8 20 a0_0), (.ints .u64 4 a0_1), (.bool a0_2), (.ints .u8 20 a0_3), (.rints .u8 a0_4), (.rints .u8 a0_5), (.int .u64 a0_6), (.int .u64 a0_7), (.int .u64 a0_8), (.ints .u64 4 a0_9), (.ints .u64 4 a0_10), (.bool a0_11), (.ints .u8 20 a0_12), (.int .u64 a0_13), (.int .u64 a0_14), (.rints .u8 a0_15), (.rints .u8 a0_16)])] [] (fun v o => some (v, o)) = q15_Check.g (fun a0 => ((Prod.mk (.int .i64 a0) []) : AV × Blks)) n a0_0 a0_1 a0_2 a0_3 a0_4 a0_5 a0_6 a0_7 a0_8 a0_9 a0_10 a0_11 a0_12 a0_13 a0_14 a0_15 a0_16 := by kernel_rfl
theorem q15_Check.call (hmix : Tryd.prog.follows .mixedOrders = true) (n : Nat) (t : ((List Int) × ((List Int) × (Bool × ((List Int) × ((List Int) × ((List Int) × (Int × (Int × (Int × ((List Int) × ((List Int) × (Bool × ((List Int) × (Int × (Int × ((List Int) × (List Int)))))))))))))))))) (u) (h : q15_Check.m n t = some u) : FnC Tryd.prog abiG 60 (q15_Check.shape t).1 (q15_Check.shape t).2 (q15_Check.res u).1 (q15_Check.res u).2 := by
  have hg : ∀ f m, (q15_Check.C n).Γ f = some m → CalleeS Tryd.prog abiG f m := by
    intro f m hm
    unfold q15_Check.C at hm
    simp only at hm
    first
    | (cases hm; done)
    | (split at hm <;> first
    | (cases hm; exact q01_From.s hmix n)
    | (cases hm; exact q01_Shr.s hmix n)
    | (cases hm; exact q01_Cmp.s hmix n)
    | (cases hm; done))
  have hb : Tryd.f60.body = some (Tryd.f60.body.getD .skip) := by kernel_rfl
  refine runF_calls (C := q15_Check.C n) (A := q15_Check.A n) (n := n) (fn := Tryd.f60) hg hmix Tryd.func60 hb ?_ ?_ (by decide) rfl rfl (by show 1 ≤ Tryd.f60.ntmps; decide) ?_
  · rw [show loopsIn (Tryd.f60.body.getD .skip) = [] by kernel_rfl]
    intro b hb
    cases hb
  · intro a ha m hm
    cases (show none = some m from hm)
  · rw [show runF (q15_Check.C n) (q15_Check.A n) n Tryd.f60 (q15_Check.shape t).1 (q15_Check.shape t).2 (fun v o => some (v, o)) = _ from q15_Check.run n t.1 t.2.1 t.2.2.1 t.2.2.2.1 t.2.2.2.2.1 t.2.2.2.2.2.1 t.2.2.2.2.2.2.1 t.2.2.2.2.2.2.2.1 t.2.2.2.2.2.2.2.2.1 t.2.2.2.2.2.2.2.2.2.1 t.2.2.2.2.2.2.2.2.2.2.1 t.2.2.2.2.2.2.2.2.2.2.2.1 t.2.2.2.2.2.2.2.2.2.2.2.2.1 t.2.2.2.2.2.2.2.2.2.2.2.2.2.1 t.2.2.2.2.2.2.2.2.2.2.2.2.2.2.1 t.2.2.2.2.2.2.2.2.2.2.2.2.2.2.2.1 t.2.2.2.2.2.2.2.2.2.2.2.2.2.2.2.2]
    have e := q15_Check.gmap q15_Check.res (fun a0 => a0) n t.1 t.2.1 t.2.2.1 t.2.2.2.1 t.2.2.2.2.1 t.2.2.2.2.2.1 t.2.2.2.2.2.2.1 t.2.2.2.2.2.2.2.1 t.2.2.2.2.2.2.2.2.1 t.2.2.2.2.2.2.2.2.2.1 t.2.2.2.2.2.2.2.2.2.2.1 t.2.2.2.2.2.2.2.2.2.2.2.1 t.2.2.2.2.2.2.2.2.2.2.2.2.1 t.2.2.2.2.2.2.2.2.2.2.2.2.2.1 t.2.2.2.2.2.2.2.2.2.2.2.2.2.2.1 t.2.2.2.2.2.2.2.2.2.2.2.2.2.2.2.1 t.2.2.2.2.2.2.2.2.2.2.2.2.2.2.2.2
    unfold q15_Check.m at h
    rw [h] at e
    exact e
theorem q15_Check.s (hmix : Tryd.prog.follows .mixedOrders = true) (n : Nat) : CalleeS Tryd.prog abiG 60 (q15_Check.c n) :=
  CalleeS.of (res := q15_Check.res) (shape := q15_Check.shape) (fun R u K => rfl) (fun args lent t h => by
    unfold q15_Check.pat at h
    split at h
    · cases h; rfl
    · cases h) fun t u h => (q15_Check.call hmix n t u h).ok Tryd.func60 (by decide) (by kernel_rfl)
end
section
noncomputable section
noncomputable def q00_Op.C (n : Nat) : Ctx := ⟨Tryd.prog, abiG, fun f => match f with
 | _ => none, fun _ => false⟩
def q00_Op.live : Nat → List Nat × List Nat := fun k => match k with
 | _ => ([], [])
def q00_Op.jlive : Nat → List Nat × List Nat := fun k => match k with
 | _ => ([], [])
noncomputable def q00_Op.A (n : Nat) : Ann := ⟨Tryd.f58.ntmps, 0, q00_Op.live, [], [none], fun k => match k with
 | _ => none, q00_Op.jlive, lookJ []⟩
def q00_Op.g {α : Type} (mk0 : Bool → α) (n : Nat) (a0_0 : (List Int)) (a0_1 : (List Int)) (a0_2 : Bool) (a0_3 : (List Int)) (a0_4 : (List Int)) (a0_5 : (List Int)) (a0_6 : Int) (a0_7 : Int) (a0_8 : Int) (a0_9 : (List Int)) (a0_10 : (List Int)) (a0_11 : Bool) (a0_12 : (List Int)) (a0_13 : Int) (a0_14 : Int) (a0_15 : (List Int)) (a0_16 : (List Int)) (a1 : Int) : Option α :=
 if (decide ((((List.length a0_4) : Nat) : Int) ≤ a1)) = true then
  if (decide ((((List.length a0_5) : Nat) : Int) ≤ a1)) = true then
   if (decide ((((List.length a0_15) : Nat) : Int) ≤ a1)) = true then
    some (mk0 (decide ((((List.length a0_16) : Nat) : Int) ≤ a1)))
   else
    some (mk0 false)
  else
   some (mk0 false)
 else
  some (mk0 false)
def q00_Op.m (n : Nat) (t : ((List Int) × ((List Int) × (Bool × ((List Int) × ((List Int) × ((List Int) × (Int × (Int × (Int × ((List Int) × ((List Int) × (Bool × ((List Int) × (Int × (Int × ((List Int) × ((List Int) × Int)))))))))))))))))) : Option Bool := q00_Op.g (fun a0 => a0) n t.1 t.2.1 t.2.2.1 t.2.2.2.1 t.2.2.2.2.1 t.2.2.2.2.2.1 t.2.2.2.2.2.2.1 t.2.2.2.2.2.2.2.1 t.2.2.2.2.2.2.2.2.1 t.2.2.2.2.2.2.2.2.2.1 t.2.2.2.2.2.2.2.2.2.2.1 t.2.2.2.2.2.2.2.2.2.2.2.1 t.2.2.2.2.2.2.2.2.2.2.2.2.1 t.2.2.2.2.2.2.2.2.2.2.2.2.2.1 t.2.2.2.2.2.2.2.2.2.2.2.2.2.2.1 t.2.2.2.2.2.2.2.2.2.2.2.2.2.2.2.1 t.2.2.2.2.2.2.2.2.2.2.2.2.2.2.2.2.1 t.2.2.2.2.2.2.2.2.2.2.2.2.2.2.2.2.2
def q00_Op.pat : List AV → Blks → Option ((List Int) × ((List Int) × (Bool × ((List Int) × ((List Int) × ((List Int) × (Int × (Int × (Int × ((List Int) × ((List Int) × (Bool × ((List Int) × (Int × (Int × ((List Int) × ((List Int) × Int)))))))))))))))))
 | [(.agg [(.ints .u8 20 a0_0), (.ints .u64 4 a0_1), (.bool a0_2), (.ints .u8 20 a0_3), (.rints .u8 a0_4), (.rints .u8 a0_5), (.int .u64 a0_6), (.int .u64 a0_7), (.int .u64 a0_8), (.ints .u64 4 a0_9), (.ints .u64 4 a0_10), (.bool a0_11), (.ints .u8 20 a0_12), (.int .u64 a0_13), (.int .u64 a0_14), (.rints .u8 a0_15), (.rints .u8 a0_16)]), (.int .i64 a1)], [] => some (a0_0, a0_1, a0_2, a0_3, a0_4, a0_5, a0_6, a0_7, a0_8, a0_9, a0_10, a0_11, a0_12, a0_13, a0_14, a0_15, a0_16, a1)
 | _, _ => none
def q00_Op.shape (t : ((List Int) × ((List Int) × (Bool × ((List Int) × ((List Int) × ((List Int) × (Int × (Int × (Int × ((List Int) × ((List Int) × (Bool × ((List Int) × (Int × (Int × ((List Int) × ((List Int) × Int)))))))))))))))))) : List AV × Blks := ([(.agg [(.ints .u8 20 t.1), (.ints .u64 4 t.2.1), (.bool t.2.2.1), (.ints .u8 20 t.2.2.2.1), (.rints .u8 t.2.2.2.2.1), (.rints .u8 t.2.2.2.2.2.1), (.int .u64 t.2.2.2.2.2.2.1), (.int .u64 t.2.2.2.2.2.2.2.1), (.int .u64 t.2.2.2.2.2.2.2.2.1), (.ints .u64 4 t.2.2.2.2.2.2.2.2.2.1), (.ints .u64 4 t.2.2.2.2.2.2.2.2.2.2.1), (.bool t.2.2.2.2.2.2.2.2.2.2.2.1), (.ints .u8 20 t.2.2.2.2.2.2.2.2.2.2.2.2.1), (.int .u64 t.2.2.2.2.2.2.2.2.2.2.2.2.2.1), (.int .u64 t.2.2.2.2.2.2.2.2.2.2.2.2.2.2.1), (.rints .u8 t.2.2.2.2.2.2.2.2.2.2.2.2.2.2.2.1), (.rints .u8 t.2.2.2.2.2.2.2.2.2.2.2.2.2.2.2.2.1)]), (.int .i64 t.2.2.2.2.2.2.2.2.2.2.2.2.2.2.2.2.2)], [])
def q00_Op.res : Bool → AV × Blks
 | u => (Prod.mk (.bool u) [])
def q00_Op.resK {R : Type} (u : Bool) (K : AV → Blks → Option R) : Option R := (fun p : AV × Blks => K p.1 p.2) (Prod.mk (.bool u) [])
def q00_Op.c (n : Nat) : Abs.Callee := .mk' [] [(some (.agg [none, none, none, none, (some (.ints .u8)), (some (.ints .u8)), none, none, none, none, none, none, none, none, none, (some (.ints .u8)), (some (.ints .u8))])), none] q00_Op.pat (q00_Op.m n) q00_Op.resK
end
end
section
noncomputable section
noncomputable def l15_may.C (n : Nat) : Ctx := ⟨Tryd.prog, abiG, fun f => match f with
 | 58 => some (q00_Op.c n)
 | 60 => some (q15_Check.c n)
 | _ => none, fun _ => false⟩
def l15_may.live : Nat → List Nat × List Nat := fun k => match k with
 | _ => ([], [])
def l15_may.jlive : Nat → List Nat × List Nat := fun k => match k with
 | _ => ([], [])
noncomputable def l15_may.A (n : Nat) : Ann := ⟨Tryd.f29.ntmps, 0, l15_may.live, [], [none], fun k => match k with
 | _ => none, l15_may.jlive, lookJ []⟩
def l15_may.g {α : Type} (mk0 : Bool → α) (n : Nat) (a0_0 : (List Int)) (a0_1 : (List Int)) (a0_2 : Bool) (a0_3 : (List Int)) (a0_4 : (List Int)) (a0_5 : (List Int)) (a0_6 : Int) (a0_7 : Int) (a0_8 : Int) (a0_9 : (List Int)) (a0_10 : (List Int)) (a0_11 : Bool) (a0_12 : (List Int)) (a0_13 : Int) (a0_14 : Int) (a0_15 : (List Int)) (a0_16 : (List Int)) : Option α :=
 bindO (q00_Op.m n (Prod.mk a0_0 (Prod.mk a0_1 (Prod.mk a0_2 (Prod.mk a0_3 (Prod.mk a0_4 (Prod.mk a0_5 (Prod.mk a0_6 (Prod.mk a0_7 (Prod.mk a0_8 (Prod.mk a0_9 (Prod.mk a0_10 (Prod.mk a0_11 (Prod.mk a0_12 (Prod.mk a0_13 (Prod.mk a0_14 (Prod.mk a0_15 (Prod.mk a0_16 1000)))))))))))))))))) fun r2 =>
  if r2 = true then
   bindO (q15_Check.m n (Prod.mk a0_0 (Prod.mk a0_1 (Prod.mk a0_2 (Prod.mk a0_3 (Prod.mk a0_4 (Prod.mk a0_5 (Prod.mk a0_6 (Prod.mk a0_7 (Prod.mk a0_8 (Prod.mk a0_9 (Prod.mk a0_10 (Prod.mk a0_11 (Prod.mk a0_12 (Prod.mk a0_13 (Prod.mk a0_14 (Prod.mk a0_15 a0_16))))))))))))))))) fun r6 =>
    some (mk0 (r6 == 0))
  else
   some (mk0 false)
def l15_may.m (n : Nat) (t : ((List Int) × ((List Int) × (Bool × ((List Int) × ((List Int) × ((List Int) × (Int × (Int × (Int × ((List Int) × ((List Int) × (Bool × ((List Int) × (Int × (Int × ((List Int) × (List Int)))))))))))))))))) : Option Bool := l15_may.g (fun a0 => a0) n t.1 t.2.1 t.2.2.1 t.2.2.2.1 t.2.2.2.2.1 t.2.2.2.2.2.1 t.2.2.2.2.2.2.1 t.2.2.2.2.2.2.2.1 t.2.2.2.2.2.2.2.2.1 t.2.2.2.2.2.2.2.2.2.1 t.2.2.2.2.2.2.2.2.2.2.1 t.2.2.2.2.2.2.2.2.2.2.2.1 t.2.2.2.2.2.2.2.2.2.2.2.2.1 t.2.2.2.2.2.2.2.2.2.2.2.2.2.1 t.2.2.2.2.2.2.2.2.2.2.2.2.2.2.1 t.2.2.2.2.2.2.2.2.2.2.2.2.2.2.2.1 t.2.2.2.2.2.2.2.2.2.2.2.2.2.2.2.2
def l15_may.pat : List AV → Blks → Option ((List Int) × ((List Int) × (Bool × ((List Int) × ((List Int) × ((List Int) × (Int × (Int × (Int × ((List Int) × ((List Int) × (Bool × ((List Int) × (Int × (Int × ((List Int) × (List Int)))))))))))))))))
 | [(.agg [(.ints .u8 20 a0_0), (.ints .u64 4 a0_1), (.bool a0_2), (.ints .u8 20 a0_3), (.rints .u8 a0_4), (.rints .u8 a0_5), (.int .u64 a0_6), (.int .u64 a0_7), (.int .u64 a0_8), (.ints .u64 4 a0_9), (.ints .u64 4 a0_10), (.bool a0_11), (.ints .u8 20 a0_12), (.int .u64 a0_13), (.int .u64 a0_14), (.rints .u8 a0_15), (.rints .u8 a0_16)])], [] => some (a0_0, a0_1, a0_2, a0_3, a0_4, a0_5, a0_6, a0_7, a0_8, a0_9, a0_10, a0_11, a0_12, a0_13, a0_14, a0_15, a0_16)
 | _, _ => none
def l15_may.shape (t : ((List Int) × ((List Int) × (Bool × ((List Int) × ((List Int) × ((List Int) × (Int × (Int × (Int × ((List Int) × ((List Int) × (Bool × ((List Int) × (Int × (Int × ((List Int) × (List Int)))))))))))))))))) : List AV × Blks := ([(.agg [(.ints .u8 20 t.1), (.ints .u64 4 t.2.1), (.bool t.2.2.1), (.ints .u8 20 t.2.2.2.1), (.rints .u8 t.2.2.2.2.1), (.rints .u8 t.2.2.2.2.2.1), (.int .u64 t.2.2.2.2.2.2.1), (.int .u64 t.2.2.2.2.2.2.2.1), (.int .u64 t.2.2.2.2.2.2.2.2.1), (.ints .u64 4 t.2.2.2.2.2.2.2.2.2.1), (.ints .u64 4 t.2.2.2.2.2.2.2.2.2.2.1), (.bool t.2.2.2.2.2.2.2.2.2.2.2.1), (.ints .u8 20 t.2.2.2.2.2.2.2.2.2.2.2.2.1), (.int .u64 t.2.2.2.2.2.2.2.2.2.2.2.2.2.1), (.int .u64 t.2.2.2.2.2.2.2.2.2.2.2.2.2.2.1), (.rints .u8 t.2.2.2.2.2.2.2.2.2.2.2.2.2.2.2.1), (.rints .u8 t.2.2.2.2.2.2.2.2.2.2.2.2.2.2.2.2)])], [])
def l15_may.res : Bool → AV × Blks
 | u => (Prod.mk (.bool u) [])
def l15_may.resK {R : Type} (u : Bool) (K : AV → Blks → Option R) : Option R := (fun p : AV × Blks => K p.1 p.2) (Prod.mk (.bool u) [])
def l15_may.c (n : Nat) : Abs.Callee := .mk' [] [(some (.agg [none, none, none, none, (some (.ints .u8)), (some (.ints .u8)), none, none, none, none, none, none, none, none, none, (some (.ints .u8)), (some (.ints .u8))]))] l15_may.pat (l15_may.m n) l15_may.resK
end
end
section
theorem q00_Op.gmap {α β : Type} (h : β → α) (mk0 : Bool → β) (n : Nat) (a0_0 : (List Int)) (a0_1 : (List Int)) (a0_2 : Bool) (a0_3 : (List Int)) (a0_4 : (List Int)) (a0_5 : (List Int)) (a0_6 : Int) (a0_7 : Int) (a0_8 : Int) (a0_9 : (List Int)) (a0_10 : (List Int)) (a0_11 : Bool) (a0_12 : (List Int)) (a0_13 : Int) (a0_14 : Int) (a0_15 : (List Int)) (a0_16 : (List Int)) (a1 : Int) : q00_Op.g (fun a0 => (h (mk0 a0))) n a0_0 a0_1 a0_2 a0_3 a0_4 a0_5 a0_6 a0_7 a0_8 a0_9 a0_10 a0_11 a0_12 a0_13 a0_14 a0_15 a0_16 a1 = (q00_Op.g mk0 n a0_0 a0_1 a0_2 a0_3 a0_4 a0_5 a0_6 a0_7 a0_8 a0_9 a0_10 a0_11 a0_12 a0_13 a0_14 a0_15 a0_16 a1).map h := by
  unfold q00_Op.g
  exact (ite_map (ite_map (ite_map rfl rfl) rfl) rfl)
theorem q00_Op.run (n : Nat) (a0_0 : (List Int)) (a0_1 : (List Int)) (a0_2 : Bool) (a0_3 : (List Int)) (a0_4 : (List Int)) (a0_5 : (List Int)) (a0_6 : Int) (a0_7 : Int) (a0_8 : Int) (a0_9 : (List Int)) (a0_10 : (List Int)) (a0_11 : Bool) (a0_12 : (List Int)) (a0_13 : Int) (a0_14 : Int) (a0_15 : (List Int)) (a0_16 : (List Int)) (a1 : Int) : runF (q00_Op.C n) (q00_Op.A n) n Tryd.f58 [(.agg [(.ints .u8 20 a0_0), (.ints .u64 4 a0_1), (.bool a0_2), (.ints .u8 20 a0_3), (.rints .u8 a0_4), (.rints .u8 a0_5), (.int .u64 a0_6), (.int .u64 a0_7), (.int .u64 a0_8), (.ints .u64 4 a0_9), (.ints .u64 4 a0_10), (.bool a0_11), (.ints .u8 20 a0_12), (.int .u64 a0_13), (.int .u64 a0_14), (.rints .u8 a0_15), (.rints .u8 a0_16)]), (.int .i64 a1)] [] (fun v o => some (v, o)) = q00_Op.g (fun a0 => ((Prod.mk (.bool a0) []) : AV × Blks)) n a0_0 a0_1 a0_2 a0_3 a0_4 a0_5 a0_6 a0_7 a0_8 a0_9 a0_10 a0_11 a0_12 a0_13 a0_14 a0_15 a0_16 a1 := by kernel_rfl
theorem q00_Op.call (hmix : Tryd.prog.follows .mixedOrders = true) (n : Nat) (t : ((List Int) × ((List Int) × (Bool × ((List Int) × ((List Int) × ((List Int) × (Int × (Int × (Int × ((List Int) × ((List Int) × (Bool × ((List Int) × (Int × (Int × ((List Int) × ((List Int) × Int)))))))))))))))))) (u) (h : q00_Op.m n t = some u) : FnC Tryd.prog abiG 58 (q00_Op.shape t).1 (q00_Op.shape t).2 (q00_Op.res u).1 (q00_Op.res u).2 := by
  have hg : ∀ f m, (q00_Op.C n).Γ f = some m → CalleeS Tryd.prog abiG f m := by
    intro f m hm
    unfold q00_Op.C at hm
    simp only at hm
    first
    | (cases hm; done)
    | (split at hm <;> first
    | (cases hm; done))
  have hb : Tryd.f58.body = some (Tryd.f58.body.getD .skip) := by kernel_rfl
  refine runF_calls (C := q00_Op.C n) (A := q00_Op.A n) (n := n) (fn := Tryd.f58) hg hmix Tryd.func58 hb ?_ ?_ (by decide) rfl rfl (by show 2 ≤ Tryd.f58.ntmps; decide) ?_
  · rw [show loopsIn (Tryd.f58.body.getD .skip) = [] by kernel_rfl]
    intro b hb
    cases hb
  · intro a ha m hm
    cases (show none = some m from hm)
  · rw [show runF (q00_Op.C n) (q00_Op.A n) n Tryd.f58 (q00_Op.shape t).1 (q00_Op.shape t).2 (fun v o => some (v, o)) = _ from q00_Op.run n t.1 t.2.1 t.2.2.1 t.2.2.2.1 t.2.2.2.2.1 t.2.2.2.2.2.1 t.2.2.2.2.2.2.1 t.2.2.2.2.2.2.2.1 t.2.2.2.2.2.2.2.2.1 t.2.2.2.2.2.2.2.2.2.1 t.2.2.2.2.2.2.2.2.2.2.1 t.2.2.2.2.2.2.2.2.2.2.2.1 t.2.2.2.2.2.2.2.2.2.2.2.2.1 t.2.2.2.2.2.2.2.2.2.2.2.2.2.1 t.2.2.2.2.2.2.2.2.2.2.2.2.2.2.1 t.2.2.2.2.2.2.2.2.2.2.2.2.2.2.2.1 t.2.2.2.2.2.2.2.2.2.2.2.2.2.2.2.2.1 t.2.2.2.2.2.2.2.2.2.2.2.2.2.2.2.2.2]
    have e := q00_Op.gmap q00_Op.res (fun a0 => a0) n t.1 t.2.1 t.2.2.1 t.2.2.2.1 t.2.2.2.2.1 t.2.2.2.2.2.1 t.2.2.2.2.2.2.1 t.2.2.2.2.2.2.2.1 t.2.2.2.2.2.2.2.2.1 t.2.2.2.2.2.2.2.2.2.1 t.2.2.2.2.2.2.2.2.2.2.1 t.2.2.2.2.2.2.2.2.2.2.2.1 t.2.2.2.2.2.2.2.2.2.2.2.2.1 t.2.2.2.2.2.2.2.2.2.2.2.2.2.1 t.2.2.2.2.2.2.2.2.2.2.2.2.2.2.1 t.2.2.2.2.2.2.2.2.2.2.2.2.2.2.2.1 t.2.2.2.2.2.2.2.2.2.2.2.2.2.2.2.2.1 t.2.2.2.2.2.2.2.2.2.2.2.2.2.2.2.2.2
    unfold q00_Op.m at h
    rw [h] at e
    exact e
theorem q00_Op.s (hmix : Tryd.prog.follows .mixedOrders = true) (n : Nat) : CalleeS Tryd.prog abiG 58 (q00_Op.c n) :=
  CalleeS.of (res := q00_Op.res) (shape := q00_Op.shape) (fun R u K => rfl) (fun args lent t h => by
    unfold q00_Op.pat at h
    split at h
    · cases h; rfl
    · cases h) fun t u h => (q00_Op.call hmix n t u h).ok Tryd.func58 (by decide) (by kernel_rfl)
end
section
theorem l15_may.gmap {α β : Type} (h : β → α) (mk0 : Bool → β) (n : Nat) (a0_0 : (List Int)) (a0_1 : (List Int)) (a0_2 : Bool) (a0_3 : (List Int)) (a0_4 : (List Int)) (a0_5 : (List Int)) (a0_6 : Int) (a0_7 : Int) (a0_8 : Int) (a0_9 : (List Int)) (a0_10 : (List Int)) (a0_11 : Bool) (a0_12 : (List Int)) (a0_13 : Int) (a0_14 : Int) (a0_15 : (List Int)) (a0_16 : (List Int)) : l15_may.g (fun a0 => (h (mk0 a0))) n a0_0 a0_1 a0_2 a0_3 a0_4 a0_5 a0_6 a0_7 a0_8 a0_9 a0_10 a0_11 a0_12 a0_13 a0_14 a0_15 a0_16 = (l15_may.g mk0 n a0_0 a0_1 a0_2 a0_3 a0_4 a0_5 a0_6 a0_7 a0_8 a0_9 a0_10 a0_11 a0_12 a0_13 a0_14 a0_15 a0_16).map h := by
  unfold l15_may.g
  exact (bindO_map fun r2 => (ite_map (bindO_map fun r6 => rfl) rfl))
theorem l15_may.run (n : Nat) (a0_0 : (List Int)) (a0_1 : (List Int)) (a0_2 : Bool) (a0_3 : (List Int)) (a0_4 : (List Int)) (a0_5 : (List Int)) (a0_6 : Int) (a0_7 : Int) (a0_8 : Int) (a0_9 : (List Int)) (a0_10 : (List Int)) (a0_11 : Bool) (a0_12 : (List Int)) (a0_13 : Int) (a0_14 : Int) (a0_15 : (List Int)) (a0_16 : (List Int)) : runF (l15_may.C n) (l15_may.A n) n Tryd.f29 [(.agg [(.ints .u8 20 a0_0), (.ints .u64 4 a0_1), (.bool a0_2), (.ints .u8 20 a0_3), (.rints .u8 a0_4), (.rints .u8 a0_5), (.int .u64 a0_6), (.int .u64 a0_7), (.int .u64 a0_8), (.ints .u64 4 a0_9), (.ints .u64 4 a0_10), (.bool a0_11), (.ints .u8 20 a0_12), (.int .u64 a0_13), (.int .u64 a0_14), (.rints .u8 a0_15), (.rints .u8 a0_16)])] [] (fun v o => some (v, o)) = l15_may.g (fun a0 => ((Prod.mk (.bool a0) []) : AV × Blks)) n a0_0 a0_1 a0_2 a0_3 a0_4 a0_5 a0_6 a0_7 a0_8 a0_9 a0_10 a0_11 a0_12 a0_13 a0_14 a0_15 a0_16 := by kernel_rfl
theorem l15_may.call (hmix : Tryd.prog.follows .mixedOrders = true) (n : Nat) (t : ((List Int) × ((List Int) × (Bool × ((List Int) × ((List Int) × ((List Int) × (Int × (Int × (Int × ((List Int) × ((List Int) × (Bool × ((List Int) × (Int × (Int × ((List Int) × (List Int)))))))))))))))))) (u) (h : l15_may.m n t = some u) : FnC Tryd.prog abiG 29 (l15_may.shape t).1 (l15_may.shape t).2 (l15_may.res u).1 (l15_may.res u).2 := by
  have hg : ∀ f m, (l15_may.C n).Γ f = some m → CalleeS Tryd.prog abiG f m := by
    intro f m hm
    unfold l15_may.C at hm
    simp only at hm
    first
    | (cases hm; done)
    | (split at hm <;> first
    | (cases hm; exact q00_Op.s hmix n)
    | (cases hm; exact q15_Check.s hmix n)
    | (cases hm; done))
  have hb : Tryd.f29.body = some (Tryd.f29.body.getD .skip) := by kernel_rfl
  refine runF_calls (C := l15_may.C n) (A := l15_may.A n) (n := n) (fn := Tryd.f29) hg hmix Tryd.func29 hb ?_ ?_ (by decide) rfl rfl (by show 1 ≤ Tryd.f29.ntmps; decide) ?_
  · rw [show loopsIn (Tryd.f29.body.getD .skip) = [] by kernel_rfl]
    intro b hb
    cases hb
  · intro a ha m hm
    cases (show none = some m from hm)
  · rw [show runF (l15_may.C n) (l15_may.A n) n Tryd.f29 (l15_may.shape t).1 (l15_may.shape t).2 (fun v o => some (v, o)) = _ from l15_may.run n t.1 t.2.1 t.2.2.1 t.2.2.2.1 t.2.2.2.2.1 t.2.2.2.2.2.1 t.2.2.2.2.2.2.1 t.2.2.2.2.2.2.2.1 t.2.2.2.2.2.2.2.2.1 t.2.2.2.2.2.2.2.2.2.1 t.2.2.2.2.2.2.2.2.2.2.1 t.2.2.2.2.2.2.2.2.2.2.2.1 t.2.2.2.2.2.2.2.2.2.2.2.2.1 t.2.2.2.2.2.2.2.2.2.2.2.2.2.1 t.2.2.2.2.2.2.2.2.2.2.2.2.2.2.1 t.2.2.2.2.2.2.2.2.2.2.2.2.2.2.2.1 t.2.2.2.2.2.2.2.2.2.2.2.2.2.2.2.2]
    have e := l15_may.gmap l15_may.res (fun a0 => a0) n t.1 t.2.1 t.2.2.1 t.2.2.2.1 t.2.2.2.2.1 t.2.2.2.2.2.1 t.2.2.2.2.2.2.1 t.2.2.2.2.2.2.2.1 t.2.2.2.2.2.2.2.2.1 t.2.2.2.2.2.2.2.2.2.1 t.2.2.2.2.2.2.2.2.2.2.1 t.2.2.2.2.2.2.2.2.2.2.2.1 t.2.2.2.2.2.2.2.2.2.2.2.2.1 t.2.2.2.2.2.2.2.2.2.2.2.2.2.1 t.2.2.2.2.2.2.2.2.2.2.2.2.2.2.1 t.2.2.2.2.2.2.2.2.2.2.2.2.2.2.2.1 t.2.2.2.2.2.2.2.2.2.2.2.2.2.2.2.2
    unfold l15_may.m at h
    rw [h] at e
    exact e
theorem l15_may.s (hmix : Tryd.prog.follows .mixedOrders = true) (n : Nat) : CalleeS Tryd.prog abiG 29 (l15_may.c n) :=
  CalleeS.of (res := l15_may.res) (shape := l15_may.shape) (fun R u K => rfl) (fun args lent t h => by
    unfold l15_may.pat at h
    split at h
    · cases h; rfl
    · cases h) fun t u h => (l15_may.call hmix n t u h).ok Tryd.func29 (by decide) (by kernel_rfl)
end
section
noncomputable section
noncomputable def userop_Gas.C (n : Nat) : Ctx := ⟨Tryd.prog, abiG, fun f => match f with
 | _ => none, fun _ => false⟩
def userop_Gas.live : Nat → List Nat × List Nat := fun k => match k with
 | _ => ([], [])
def userop_Gas.jlive : Nat → List Nat × List Nat := fun k => match k with
 | _ => ([], [])
noncomputable def userop_Gas.A (n : Nat) : Ann := ⟨Tryd.f43.ntmps, 0, userop_Gas.live, [], [none], fun k => match k with
 | _ => none, userop_Gas.jlive, lookJ []⟩
def userop_Gas.g {α : Type} (mk0 : Int → α) (n : Nat) (a0_0 : (List Int)) (a0_1 : (List Int)) (a0_2 : Bool) (a0_3 : (List Int)) (a0_4 : (List Int)) (a0_5 : (List Int)) (a0_6 : Int) (a0_7 : Int) (a0_8 : Int) (a0_9 : (List Int)) (a0_10 : (List Int)) (a0_11 : Bool) (a0_12 : (List Int)) (a0_13 : Int) (a0_14 : Int) (a0_15 : (List Int)) (a0_16 : (List Int)) : Option α :=
 some (mk0 (IntKind.wrap .u64 ((IntKind.wrap .u64 ((IntKind.wrap .u64 ((IntKind.wrap .u64 (a0_6 + a0_7)) + a0_8)) + a0_13)) + a0_14)))
def userop_Gas.m (n : Nat) (t : ((List Int) × ((List Int) × (Bool × ((List Int) × ((List Int) × ((List Int) × (Int × (Int × (Int × ((List Int) × ((List Int) × (Bool × ((List Int) × (Int × (Int × ((List Int) × (List Int)))))))))))))))))) : Option Int := userop_Gas.g (fun a0 => a0) n t.1 t.2.1 t.2.2.1 t.2.2.2.1 t.2.2.2.2.1 t.2.2.2.2.2.1 t.2.2.2.2.2.2.1 t.2.2.2.2.2.2.2.1 t.2.2.2.2.2.2.2.2.1 t.2.2.2.2.2.2.2.2.2.1 t.2.2.2.2.2.2.2.2.2.2.1 t.2.2.2.2.2.2.2.2.2.2.2.1 t.2.2.2.2.2.2.2.2.2.2.2.2.1 t.2.2.2.2.2.2.2.2.2.2.2.2.2.1 t.2.2.2.2.2.2.2.2.2.2.2.2.2.2.1 t.2.2.2.2.2.2.2.2.2.2.2.2.2.2.2.1 t.2.2.2.2.2.2.2.2.2.2.2.2.2.2.2.2
def userop_Gas.pat : List AV → Blks → Option ((List Int) × ((List Int) × (Bool × ((List Int) × ((List Int) × ((List Int) × (Int × (Int × (Int × ((List Int) × ((List Int) × (Bool × ((List Int) × (Int × (Int × ((List Int) × (List Int)))))))))))))))))
 | [(.agg [(.ints .u8 20 a0_0), (.ints .u64 4 a0_1), (.bool a0_2), (.ints .u8 20 a0_3), (.rints .u8 a0_4), (.rints .u8 a0_5), (.int .u64 a0_6), (.int .u64 a0_7), (.int .u64 a0_8), (.ints .u64 4 a0_9), (.ints .u64 4 a0_10), (.bool a0_11), (.ints .u8 20 a0_12), (.int .u64 a0_13), (.int .u64 a0_14), (.rints .u8 a0_15), (.rints .u8 a0_16)])], [] => some (a0_0, a0_1, a0_2, a0_3, a0_4, a0_5, a0_6, a0_7, a0_8, a0_9, a0_10, a0_11, a0_12, a0_13, a0_14, a0_15, a0_16)
 | _, _ => none
def userop_Gas.shape (t : ((List Int) × ((List Int) × (Bool × ((List Int) × ((List Int) × ((List Int) × (Int × (Int × (Int × ((List Int) × ((List Int) × (Bool × ((List Int) × (Int × (Int × ((List Int) × (List Int)))))))))))))))))) : List AV × Blks := ([(.agg [(.ints .u8 20 t.1), (.ints .u64 4 t.2.1), (.bool t.2.2.1), (.ints .u8 20 t.2.2.2.1), (.rints .u8 t.2.2.2.2.1), (.rints .u8 t.2.2.2.2.2.1), (.int .u64 t.2.2.2.2.2.2.1), (.int .u64 t.2.2.2.2.2.2.2.1), (.int .u64 t.2.2.2.2.2.2.2.2.1), (.ints .u64 4 t.2.2.2.2.2.2.2.2.2.1), (.ints .u64 4 t.2.2.2.2.2.2.2.2.2.2.1), (.bool t.2.2.2.2.2.2.2.2.2.2.2.1), (.ints .u8 20 t.2.2.2.2.2.2.2.2.2.2.2.2.1), (.int .u64 t.2.2.2.2.2.2.2.2.2.2.2.2.2.1), (.int .u64 t.2.2.2.2.2.2.2.2.2.2.2.2.2.2.1), (.rints .u8 t.2.2.2.2.2.2.2.2.2.2.2.2.2.2.2.1), (.rints .u8 t.2.2.2.2.2.2.2.2.2.2.2.2.2.2.2.2)])], [])
def userop_Gas.res : Int → AV × Blks
 | u => (Prod.mk (.int .u64 u) [])
def userop_Gas.resK {R : Type} (u : Int) (K : AV → Blks → Option R) : Option R := (fun p : AV × Blks => K p.1 p.2) (Prod.mk (.int .u64 u) [])
def userop_Gas.c (n : Nat) : Abs.Callee := .mk' [] [(some (.agg [none, none, none, none, (some (.ints .u8)), (some (.ints .u8)), none, none, none, none, none, none, none, none, none, (some (.ints .u8)), (some (.ints .u8))]))] userop_Gas.pat (userop_Gas.m n) userop_Gas.resK
end
end
section
noncomputable section
noncomputable def userop_Prefund.C (n : Nat) : Ctx := ⟨Tryd.prog, abiG, fun f => match f with
 | 43 => some (userop_Gas.c n)
 | 69 => some (word_From.c n)
 | 84 => some (word_Mul.c n)
 | _ => none, fun _ => false⟩
def userop_Prefund.live : Nat → List Nat × List Nat := fun k => match k with
 | _ => ([], [])
def userop_Prefund.jlive : Nat → List Nat × List Nat := fun k => match k with
 | _ => ([], [])
noncomputable def userop_Prefund.A (n : Nat) : Ann := ⟨Tryd.f45.ntmps, 0, userop_Prefund.live, [], [none], fun k => match k with
 | _ => none, userop_Prefund.jlive, lookJ []⟩
def userop_Prefund.g {α : Type} (mk0 : (List Int) → α) (n : Nat) (a0_0 : (List Int)) (a0_1 : (List Int)) (a0_2 : Bool) (a0_3 : (List Int)) (a0_4 : (List Int)) (a0_5 : (List Int)) (a0_6 : Int) (a0_7 : Int) (a0_8 : Int) (a0_9 : (List Int)) (a0_10 : (List Int)) (a0_11 : Bool) (a0_12 : (List Int)) (a0_13 : Int) (a0_14 : Int) (a0_15 : (List Int)) (a0_16 : (List Int)) : Option α :=
 bindO (userop_Gas.m n (Prod.mk a0_0 (Prod.mk a0_1 (Prod.mk a0_2 (Prod.mk a0_3 (Prod.mk a0_4 (Prod.mk a0_5 (Prod.mk a0_6 (Prod.mk a0_7 (Prod.mk a0_8 (Prod.mk a0_9 (Prod.mk a0_10 (Prod.mk a0_11 (Prod.mk a0_12 (Prod.mk a0_13 (Prod.mk a0_14 (Prod.mk a0_15 a0_16))))))))))))))))) fun r2 =>
  bindO (word_From.m n r2) fun r4 =>
   bindO (word_Mul.m n (Prod.mk r4 a0_9)) fun r6 =>
    some (mk0 (Prod.fst r6))
def userop_Prefund.m (n : Nat) (t : ((List Int) × ((List Int) × (Bool × ((List Int) × ((List Int) × ((List Int) × (Int × (Int × (Int × ((List Int) × ((List Int) × (Bool × ((List Int) × (Int × (Int × ((List Int) × (List Int)))))))))))))))))) : Option (List Int) := userop_Prefund.g (fun a0 => a0) n t.1 t.2.1 t.2.2.1 t.2.2.2.1 t.2.2.2.2.1 t.2.2.2.2.2.1 t.2.2.2.2.2.2.1 t.2.2.2.2.2.2.2.1 t.2.2.2.2.2.2.2.2.1 t.2.2.2.2.2.2.2.2.2.1 t.2.2.2.2.2.2.2.2.2.2.1 t.2.2.2.2.2.2.2.2.2.2.2.1 t.2.2.2.2.2.2.2.2.2.2.2.2.1 t.2.2.2.2.2.2.2.2.2.2.2.2.2.1 t.2.2.2.2.2.2.2.2.2.2.2.2.2.2.1 t.2.2.2.2.2.2.2.2.2.2.2.2.2.2.2.1 t.2.2.2.2.2.2.2.2.2.2.2.2.2.2.2.2
def userop_Prefund.pat : List AV → Blks → Option ((List Int) × ((List Int) × (Bool × ((List Int) × ((List Int) × ((List Int) × (Int × (Int × (Int × ((List Int) × ((List Int) × (Bool × ((List Int) × (Int × (Int × ((List Int) × (List Int)))))))))))))))))
 | [(.agg [(.ints .u8 20 a0_0), (.ints .u64 4 a0_1), (.bool a0_2), (.ints .u8 20 a0_3), (.rints .u8 a0_4), (.rints .u8 a0_5), (.int .u64 a0_6), (.int .u64 a0_7), (.int .u64 a0_8), (.ints .u64 4 a0_9), (.ints .u64 4 a0_10), (.bool a0_11), (.ints .u8 20 a0_12), (.int .u64 a0_13), (.int .u64 a0_14), (.rints .u8 a0_15), (.rints .u8 a0_16)])], [] => some (a0_0, a0_1, a0_2, a0_3, a0_4, a0_5, a0_6, a0_7, a0_8, a0_9, a0_10, a0_11, a0_12, a0_13, a0_14, a0_15, a0_16)
 | _, _ => none
def userop_Prefund.shape (t : ((List Int) × ((List Int) × (Bool × ((List Int) × ((List Int) × ((List Int) × (Int × (Int × (Int × ((List Int) × ((List Int) × (Bool × ((List Int) × (Int × (Int × ((List Int) × (List Int)))))))))))))))))) : List AV × Blks := ([(.agg [(.ints .u8 20 t.1), (.ints .u64 4 t.2.1), (.bool t.2.2.1), (.ints .u8 20 t.2.2.2.1), (.rints .u8 t.2.2.2.2.1), (.rints .u8 t.2.2.2.2.2.1), (.int .u64 t.2.2.2.2.2.2.1), (.int .u64 t.2.2.2.2.2.2.2.1), (.int .u64 t.2.2.2.2.2.2.2.2.1), (.ints .u64 4 t.2.2.2.2.2.2.2.2.2.1), (.ints .u64 4 t.2.2.2.2.2.2.2.2.2.2.1), (.bool t.2.2.2.2.2.2.2.2.2.2.2.1), (.ints .u8 20 t.2.2.2.2.2.2.2.2.2.2.2.2.1), (.int .u64 t.2.2.2.2.2.2.2.2.2.2.2.2.2.1), (.int .u64 t.2.2.2.2.2.2.2.2.2.2.2.2.2.2.1), (.rints .u8 t.2.2.2.2.2.2.2.2.2.2.2.2.2.2.2.1), (.rints .u8 t.2.2.2.2.2.2.2.2.2.2.2.2.2.2.2.2)])], [])
def userop_Prefund.res : (List Int) → AV × Blks
 | u => (Prod.mk (.ints .u64 4 u) [])
def userop_Prefund.resK {R : Type} (u : (List Int)) (K : AV → Blks → Option R) : Option R := (fun p : AV × Blks => K p.1 p.2) (Prod.mk (.ints .u64 4 u) [])
def userop_Prefund.c (n : Nat) : Abs.Callee := .mk' [] [(some (.agg [none, none, none, none, (some (.ints .u8)), (some (.ints .u8)), none, none, none, none, none, none, none, none, none, (some (.ints .u8)), (some (.ints .u8))]))] userop_Prefund.pat (userop_Prefund.m n) userop_Prefund.resK
end
end
