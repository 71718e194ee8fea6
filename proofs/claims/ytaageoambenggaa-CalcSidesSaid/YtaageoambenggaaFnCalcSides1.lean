/- What the program's functions compute, as plain functions, each with its proof: the function does just that. Condition: the plain function has an answer. -/
import Derived.Test.YtaageoambenggaaAbsD6
import Derived.Test.YtaageoambenggaaProg
set_option linter.unusedVariables false
set_option linter.unusedSimpArgs false
set_option maxRecDepth 100000
open Go Go.Abs Go.Proofs
section
noncomputable section
def bits_Add64.m (n : Nat) (t : (Int × (Int × Int))) : Option (Int × Int) := xAdd64 t
def bits_Add64.pat : List AV → Blks → Option (Int × (Int × Int))
 | [(.int .u64 a0), (.int .u64 a1), (.int .u64 a2)], [] => some (a0, a1, a2)
 | _, _ => none
def bits_Add64.shape (t : (Int × (Int × Int))) : List AV × Blks := ([(.int .u64 t.1), (.int .u64 t.2.1), (.int .u64 t.2.2)], [])
def bits_Add64.res : (Int × Int) → AV × Blks
 | u => (Prod.mk (.tup [(.int .u64 u.1), (.int .u64 u.2)]) [])
def bits_Add64.resK {R : Type} (u : (Int × Int)) (K : AV → Blks → Option R) : Option R := (fun p : AV × Blks => K p.1 p.2) (Prod.mk (.tup [(.int .u64 u.1), (.int .u64 u.2)]) [])
def bits_Add64.c (n : Nat) : Abs.Callee := .mk' [] [none, none, none] bits_Add64.pat (bits_Add64.m n) bits_Add64.resK
end
end
section
noncomputable section
noncomputable def word_Add.C (n : Nat) : Ctx := ⟨Try.prog, (fun _ => .any), fun f => match f with
 | 111 => some (bits_Add64.c n)
 | _ => none⟩
def word_Add.live : Nat → List Nat × List Nat := fun k => match k with
 | 4 => ([9, 2, 3, 7, 6, 4], [6, 7, 4])
 | _ => ([], [])
def word_Add.jlive : Nat → List Nat × List Nat := fun k => match k with
 | _ => ([], [])
def word_Add.l4_0.r {α : Type} (mk0 : Int → (List Int) → (List Int) → α) (n : Nat) (rc : Int → Int → (List Int) → (List Int) → (List Int) → (List Int) → Option α)  (x0 : Int) (x1 : Int) (x2 : (List Int)) (x3 : (List Int)) (x4 : (List Int)) (x5 : (List Int)) : Option α :=
  if (decide (x0 < 4)) = true then
   if 0 ≤ x0 then
    if x0 < 4 then
     if 0 ≤ x0 then
      if x0 < 4 then
       bindO (bits_Add64.m n (Prod.mk (List.getD x2 (Int.toNat x0) 0) (Prod.mk (List.getD x3 (Int.toNat x0) 0) x1))) fun r14 =>
        if 0 ≤ x0 then
         if x0 < 4 then
          rc (IntKind.wrap .i64 (x0 + 1)) (Prod.snd r14) x2 x3 (List.set x4 (Int.toNat x0) (Prod.fst r14)) x5
         else
          none
        else
         none
      else
       none
     else
      none
    else
     none
   else
    none
  else
   some (mk0 x1 x4 x5)
def word_Add.l4_0.g {α : Type} (mk0 : Int → (List Int) → (List Int) → α) (n : Nat) : Nat → Int → Int → (List Int) → (List Int) → (List Int) → (List Int) → Option α
 | 0, _, _, _, _, _, _ => none
 | m + 1, x0, x1, x2, x3, x4, x5 => word_Add.l4_0.r mk0 n (fun y0 y1 y2 y3 y4 y5 => word_Add.l4_0.g mk0 n m y0 y1 y2 y3 y4 y5)  x0 x1 x2 x3 x4 x5
def word_Add.l4_0.m (n m : Nat) (t : (Int × (Int × ((List Int) × ((List Int) × ((List Int) × (List Int))))))) : Option (Int × ((List Int) × (List Int))) := word_Add.l4_0.g (fun a0 a1 a2 => (a0, a1, a2)) n m t.1 t.2.1 t.2.2.1 t.2.2.2.1 t.2.2.2.2.1 t.2.2.2.2.2
def word_Add.l4_0.pat : St → Option (Int × (Int × ((List Int) × ((List Int) × ((List Int) × (List Int))))))
 | (St.mk [(.int .i64 x0), (.ptr 0 []), (.ptr 1 []), (.int .u64 x1), (.ptr 2 []), (.ptr 3 [])] [(some (.var (.ints .u64 4 x2))), (some (.var (.ints .u64 4 x3))), (some (.var (.ints .u64 4 x4))), (some (.var (.ints .u64 4 x5)))]) => some (x0, x1, x2, x3, x4, x5)
 | _ => none
def word_Add.l4_0.shape (t : (Int × (Int × ((List Int) × ((List Int) × ((List Int) × (List Int))))))) : St := (St.mk [(.int .i64 t.1), (.ptr 0 []), (.ptr 1 []), (.int .u64 t.2.1), (.ptr 2 []), (.ptr 3 [])] [(some (.var (.ints .u64 4 t.2.2.1))), (some (.var (.ints .u64 4 t.2.2.2.1))), (some (.var (.ints .u64 4 t.2.2.2.2.1))), (some (.var (.ints .u64 4 t.2.2.2.2.2)))])
def word_Add.l4_0.res : (Int × ((List Int) × (List Int))) → Ex × St
 | u => (Prod.mk (.exit 0) (St.mk [(.ptr 0 []), (.int .u64 u.1), (.ptr 1 [])] [(some (.var (.ints .u64 4 u.2.1))), (some (.var (.ints .u64 4 u.2.2)))]))
def word_Add.l4_0.resK {R : Type} (u : (Int × ((List Int) × (List Int)))) (K : Ex → St → Option R) : Option R := (fun p : Ex × St => K p.1 p.2) (Prod.mk (.exit 0) (St.mk [(.ptr 0 []), (.int .u64 u.1), (.ptr 1 [])] [(some (.var (.ints .u64 4 u.2.1))), (some (.var (.ints .u64 4 u.2.2)))]))
noncomputable def word_Add.A (n : Nat) : Ann := ⟨Try.f88.ntmps, 0, word_Add.live, [], [none, none], fun k => match k with
 | 4 => some (.mk' word_Add.l4_0.pat (word_Add.l4_0.m n n) word_Add.l4_0.resK)
 | _ => none, word_Add.jlive, lookJ []⟩
noncomputable def word_Add.b0 : Code := (loopsIn (Try.f88.body.getD .skip)).getD 0 .skip
def word_Add.g {α : Type} (mk0 : (List Int) → Bool → α) (n : Nat) (a0 : (List Int)) (a1 : (List Int)) : Option α :=
 bindO (word_Add.l4_0.m n n (0, 0, a0, a1, [0, 0, 0, 0], [0, 0, 0, 0])) fun r2 =>
  some (mk0 (Prod.fst (Prod.snd r2)) ((Prod.fst r2) != 0))
def word_Add.m (n : Nat) (t : ((List Int) × (List Int))) : Option ((List Int) × Bool) := word_Add.g (fun a0 a1 => (a0, a1)) n t.1 t.2
def word_Add.pat : List AV → Blks → Option ((List Int) × (List Int))
 | [(.ints .u64 4 a0), (.ints .u64 4 a1)], [] => some (a0, a1)
 | _, _ => none
def word_Add.shape (t : ((List Int) × (List Int))) : List AV × Blks := ([(.ints .u64 4 t.1), (.ints .u64 4 t.2)], [])
def word_Add.res : ((List Int) × Bool) → AV × Blks
 | u => (Prod.mk (.tup [(.ints .u64 4 u.1), (.bool u.2)]) [])
def word_Add.resK {R : Type} (u : ((List Int) × Bool)) (K : AV → Blks → Option R) : Option R := (fun p : AV × Blks => K p.1 p.2) (Prod.mk (.tup [(.ints .u64 4 u.1), (.bool u.2)]) [])
def word_Add.c (n : Nat) : Abs.Callee := .mk' [] [none, none] word_Add.pat (word_Add.m n) word_Add.resK
end
end
section
theorem bits_Add64.ok (hmix : Try.prog.follows .mixedOrders = true) (n : Nat) (t) (u) (h : bits_Add64.m n t = some u) : FnOK Try.prog (fun _ => .any) 111 (bits_Add64.shape t).1 (bits_Add64.shape t).2 (bits_Add64.res u).1 (bits_Add64.res u).2 :=
  xAdd64_ok Try.func111 (by kernel_rfl) (by kernel_rfl) (by kernel_rfl) (show Go.Extern.find Try.f111 = some add64Entry by kernel_rfl) t u h
theorem bits_Add64.s (hmix : Try.prog.follows .mixedOrders = true) (n : Nat) : CalleeS Try.prog (fun _ => .any) 111 (bits_Add64.c n) :=
  CalleeS.of (res := bits_Add64.res) (shape := bits_Add64.shape) (fun R u K => rfl) (fun args lent t h => by
    unfold bits_Add64.pat at h
    split at h
    · cases h; rfl
    · cases h) fun t u h => bits_Add64.ok hmix n t u h
end
section
theorem word_Add.l4_0.rmap {α β : Type} (h : β → α) (mk0 : Int → (List Int) → (List Int) → β) (n : Nat) (f : Int → Int → (List Int) → (List Int) → (List Int) → (List Int) → Option β)  (x0 : Int) (x1 : Int) (x2 : (List Int)) (x3 : (List Int)) (x4 : (List Int)) (x5 : (List Int)) : word_Add.l4_0.r (fun a0 a1 a2 => (h (mk0 a0 a1 a2))) n (fun y0 y1 y2 y3 y4 y5 => (f y0 y1 y2 y3 y4 y5).map h) x0 x1 x2 x3 x4 x5 = (word_Add.l4_0.r mk0 n f x0 x1 x2 x3 x4 x5).map h := by
  unfold word_Add.l4_0.r
  exact (ite_map (ite_map (ite_map (ite_map (ite_map (bindO_map fun r14 => (ite_map (ite_map rfl rfl) rfl)) rfl) rfl) rfl) rfl) rfl)
theorem word_Add.l4_0.gmap {α β : Type} (h : β → α) (mk0 : Int → (List Int) → (List Int) → β) (n : Nat) : ∀ (m : Nat) (x0 : Int) (x1 : Int) (x2 : (List Int)) (x3 : (List Int)) (x4 : (List Int)) (x5 : (List Int)), word_Add.l4_0.g (fun a0 a1 a2 => (h (mk0 a0 a1 a2))) n m x0 x1 x2 x3 x4 x5 = (word_Add.l4_0.g mk0 n m x0 x1 x2 x3 x4 x5).map h
  | 0, _, _, _, _, _, _ => rfl
  | m + 1, x0, x1, x2, x3, x4, x5 => by
    unfold word_Add.l4_0.g
    rw [← word_Add.l4_0.rmap]
    congr
    · funext y0 y1 y2 y3 y4 y5; exact word_Add.l4_0.gmap h mk0 n m y0 y1 y2 y3 y4 y5
theorem word_Add.l4_0.pat_shape : ∀ st t, word_Add.l4_0.pat st = some t → st = word_Add.l4_0.shape t := by
  intro st t h
  unfold word_Add.l4_0.pat at h
  split at h
  · cases h; rfl
  · cases h
theorem word_Add.l4_0.round (n : Nat) (rc : St → Option (Ex × St)) (x0 : Int) (x1 : Int) (x2 : (List Int)) (x3 : (List Int)) (x4 : (List Int)) (x5 : (List Int)) : roundOf (word_Add.C n) (word_Add.A n) n word_Add.b0 rc ((St.mk [(.int .i64 x0), (.ptr 0 []), (.ptr 1 []), (.int .u64 x1), (.ptr 2 []), (.ptr 3 [])] [(some (.var (.ints .u64 4 x2))), (some (.var (.ints .u64 4 x3))), (some (.var (.ints .u64 4 x4))), (some (.var (.ints .u64 4 x5)))])) = word_Add.l4_0.r (fun a0 a1 a2 => ((Prod.mk (.exit 0) (St.mk [(.ptr 0 []), (.int .u64 a0), (.ptr 1 [])] [(some (.var (.ints .u64 4 a1))), (some (.var (.ints .u64 4 a2)))])) : Ex × St)) n (fun y0 y1 y2 y3 y4 y5 => rc ((St.mk [(.int .i64 y0), (.ptr 0 []), (.ptr 1 []), (.int .u64 y1), (.ptr 2 []), (.ptr 3 [])] [(some (.var (.ints .u64 4 y2))), (some (.var (.ints .u64 4 y3))), (some (.var (.ints .u64 4 y4))), (some (.var (.ints .u64 4 y5)))]))) x0 x1 x2 x3 x4 x5 := by kernel_rfl
theorem word_Add.l4_0.loop' (n : Nat) : ∀ (m : Nat) (t : (Int × (Int × ((List Int) × ((List Int) × ((List Int) × (List Int))))))), loopOf (roundOf (word_Add.C n) (word_Add.A n) n word_Add.b0) m (word_Add.l4_0.shape t) = word_Add.l4_0.g (fun a0 a1 a2 => ((Prod.mk (.exit 0) (St.mk [(.ptr 0 []), (.int .u64 a0), (.ptr 1 [])] [(some (.var (.ints .u64 4 a1))), (some (.var (.ints .u64 4 a2)))])) : Ex × St)) n m t.1 t.2.1 t.2.2.1 t.2.2.2.1 t.2.2.2.2.1 t.2.2.2.2.2 :=
  loop_of_round (shape := word_Add.l4_0.shape) (body := roundOf (word_Add.C n) (word_Add.A n) n word_Add.b0) (g := fun m t => word_Add.l4_0.g (fun a0 a1 a2 => ((Prod.mk (.exit 0) (St.mk [(.ptr 0 []), (.int .u64 a0), (.ptr 1 [])] [(some (.var (.ints .u64 4 a1))), (some (.var (.ints .u64 4 a2)))])) : Ex × St)) n m t.1 t.2.1 t.2.2.1 t.2.2.2.1 t.2.2.2.2.1 t.2.2.2.2.2) (fun t => rfl)
    fun m t ih => (word_Add.l4_0.round n (loopOf (roundOf (word_Add.C n) (word_Add.A n) n word_Add.b0) m) t.1 t.2.1 t.2.2.1 t.2.2.2.1 t.2.2.2.2.1 t.2.2.2.2.2).trans (congrFun (congrFun (congrFun (congrFun (congrFun (congrFun (congrArg (word_Add.l4_0.r (fun a0 a1 a2 => ((Prod.mk (.exit 0) (St.mk [(.ptr 0 []), (.int .u64 a0), (.ptr 1 [])] [(some (.var (.ints .u64 4 a1))), (some (.var (.ints .u64 4 a2)))])) : Ex × St)) n) (funext fun y0 => funext fun y1 => funext fun y2 => funext fun y3 => funext fun y4 => funext fun y5 => ih (y0, y1, y2, y3, y4, y5))) t.1) t.2.1) t.2.2.1) t.2.2.2.1) t.2.2.2.2.1) t.2.2.2.2.2)
theorem word_Add.l4_0.loop (n m : Nat) (t : (Int × (Int × ((List Int) × ((List Int) × ((List Int) × (List Int))))))) : loopOf (roundOf (word_Add.C n) (word_Add.A n) n word_Add.b0) m (word_Add.l4_0.shape t) = (word_Add.l4_0.m n m t).map word_Add.l4_0.res :=
  (word_Add.l4_0.loop' n m t).trans (word_Add.l4_0.gmap word_Add.l4_0.res (fun a0 a1 a2 => (a0, a1, a2)) n m t.1 t.2.1 t.2.2.1 t.2.2.2.1 t.2.2.2.2.1 t.2.2.2.2.2)
theorem word_Add.gmap {α β : Type} (h : β → α) (mk0 : (List Int) → Bool → β) (n : Nat) (a0 : (List Int)) (a1 : (List Int)) : word_Add.g (fun a0 a1 => (h (mk0 a0 a1))) n a0 a1 = (word_Add.g mk0 n a0 a1).map h := by
  unfold word_Add.g
  exact (bindO_map fun r2 => rfl)
theorem word_Add.run (n : Nat) (a0 : (List Int)) (a1 : (List Int)) : runF (word_Add.C n) (word_Add.A n) n Try.f88 [(.ints .u64 4 a0), (.ints .u64 4 a1)] [] (fun v o => some (v, o)) = word_Add.g (fun a0 a1 => ((Prod.mk (.tup [(.ints .u64 4 a0), (.bool a1)]) []) : AV × Blks)) n a0 a1 := by kernel_rfl
theorem word_Add.call (hmix : Try.prog.follows .mixedOrders = true) (n : Nat) (t : ((List Int) × (List Int))) (u) (h : word_Add.m n t = some u) : FnC Try.prog (fun _ => .any) 88 (word_Add.shape t).1 (word_Add.shape t).2 (word_Add.res u).1 (word_Add.res u).2 := by
  have hg : ∀ f m, (word_Add.C n).Γ f = some m → CalleeS Try.prog (fun _ => .any) f m := by
    intro f m hm
    unfold word_Add.C at hm
    simp only at hm
    first
    | (cases hm; done)
    | (split at hm <;> first
    | (cases hm; exact bits_Add64.s hmix n)
    | (cases hm; done))
  have hb : Try.f88.body = some (Try.f88.body.getD .skip) := by kernel_rfl
  refine runF_calls (C := word_Add.C n) (A := word_Add.A n) (n := n) (fn := Try.f88) hg hmix Try.func88 hb ?_ ?_ (by decide) rfl rfl (by show 2 ≤ Try.f88.ntmps; decide) ?_
  · rw [show loopsIn (Try.f88.body.getD .skip) = [word_Add.b0] by kernel_rfl]
    intro b hb m hm
    simp only [List.mem_cons, List.not_mem_nil, or_false] at hb
    rcases hb with rfl
    · have e : (word_Add.A n).loop (key word_Add.b0) = some (.mk' word_Add.l4_0.pat (word_Add.l4_0.m n n) word_Add.l4_0.resK) := by rw [show key word_Add.b0 = 4 by kernel_rfl]; rfl
      rw [e] at hm
      cases hm
      exact LoopS.of (res := word_Add.l4_0.res) (fun R u K => rfl) word_Add.l4_0.pat_shape fun t => word_Add.l4_0.loop n n t
  · intro a ha m hm
    cases (show none = some m from hm)
  · rw [show runF (word_Add.C n) (word_Add.A n) n Try.f88 (word_Add.shape t).1 (word_Add.shape t).2 (fun v o => some (v, o)) = _ from word_Add.run n t.1 t.2]
    have e := word_Add.gmap word_Add.res (fun a0 a1 => (a0, a1)) n t.1 t.2
    unfold word_Add.m at h
    rw [h] at e
    exact e
theorem word_Add.s (hmix : Try.prog.follows .mixedOrders = true) (n : Nat) : CalleeS Try.prog (fun _ => .any) 88 (word_Add.c n) :=
  CalleeS.of (res := word_Add.res) (shape := word_Add.shape) (fun R u K => rfl) (fun args lent t h => by
    unfold word_Add.pat at h
    split at h
    · cases h; rfl
    · cases h) fun t u h => (word_Add.call hmix n t u h).ok Try.func88 (by decide) (by kernel_rfl)
end
section
noncomputable section
def bits_Sub64.m (n : Nat) (t : (Int × (Int × Int))) : Option (Int × Int) := xSub64 t
def bits_Sub64.pat : List AV → Blks → Option (Int × (Int × Int))
 | [(.int .u64 a0), (.int .u64 a1), (.int .u64 a2)], [] => some (a0, a1, a2)
 | _, _ => none
def bits_Sub64.shape (t : (Int × (Int × Int))) : List AV × Blks := ([(.int .u64 t.1), (.int .u64 t.2.1), (.int .u64 t.2.2)], [])
def bits_Sub64.res : (Int × Int) → AV × Blks
 | u => (Prod.mk (.tup [(.int .u64 u.1), (.int .u64 u.2)]) [])
def bits_Sub64.resK {R : Type} (u : (Int × Int)) (K : AV → Blks → Option R) : Option R := (fun p : AV × Blks => K p.1 p.2) (Prod.mk (.tup [(.int .u64 u.1), (.int .u64 u.2)]) [])
def bits_Sub64.c (n : Nat) : Abs.Callee := .mk' [] [none, none, none] bits_Sub64.pat (bits_Sub64.m n) bits_Sub64.resK
end
end
section
noncomputable section
noncomputable def word_Sub.C (n : Nat) : Ctx := ⟨Try.prog, (fun _ => .any), fun f => match f with
 | 113 => some (bits_Sub64.c n)
 | _ => none⟩
def word_Sub.live : Nat → List Nat × List Nat := fun k => match k with
 | 4 => ([9, 2, 3, 7, 6, 4], [6, 7, 4])
 | _ => ([], [])
def word_Sub.jlive : Nat → List Nat × List Nat := fun k => match k with
 | _ => ([], [])
def word_Sub.l4_0.r {α : Type} (mk0 : Int → (List Int) → (List Int) → α) (n : Nat) (rc : Int → Int → (List Int) → (List Int) → (List Int) → (List Int) → Option α)  (x0 : Int) (x1 : Int) (x2 : (List Int)) (x3 : (List Int)) (x4 : (List Int)) (x5 : (List Int)) : Option α :=
  if (decide (x0 < 4)) = true then
   if 0 ≤ x0 then
    if x0 < 4 then
     if 0 ≤ x0 then
      if x0 < 4 then
       bindO (bits_Sub64.m n (Prod.mk (List.getD x2 (Int.toNat x0) 0) (Prod.mk (List.getD x3 (Int.toNat x0) 0) x1))) fun r14 =>
        if 0 ≤ x0 then
         if x0 < 4 then
          rc (IntKind.wrap .i64 (x0 + 1)) (Prod.snd r14) x2 x3 (List.set x4 (Int.toNat x0) (Prod.fst r14)) x5
         else
          none
        else
         none
      else
       none
     else
      none
    else
     none
   else
    none
  else
   some (mk0 x1 x4 x5)
def word_Sub.l4_0.g {α : Type} (mk0 : Int → (List Int) → (List Int) → α) (n : Nat) : Nat → Int → Int → (List Int) → (List Int) → (List Int) → (List Int) → Option α
 | 0, _, _, _, _, _, _ => none
 | m + 1, x0, x1, x2, x3, x4, x5 => word_Sub.l4_0.r mk0 n (fun y0 y1 y2 y3 y4 y5 => word_Sub.l4_0.g mk0 n m y0 y1 y2 y3 y4 y5)  x0 x1 x2 x3 x4 x5
def word_Sub.l4_0.m (n m : Nat) (t : (Int × (Int × ((List Int) × ((List Int) × ((List Int) × (List Int))))))) : Option (Int × ((List Int) × (List Int))) := word_Sub.l4_0.g (fun a0 a1 a2 => (a0, a1, a2)) n m t.1 t.2.1 t.2.2.1 t.2.2.2.1 t.2.2.2.2.1 t.2.2.2.2.2
def word_Sub.l4_0.pat : St → Option (Int × (Int × ((List Int) × ((List Int) × ((List Int) × (List Int))))))
 | (St.mk [(.int .i64 x0), (.ptr 0 []), (.ptr 1 []), (.int .u64 x1), (.ptr 2 []), (.ptr 3 [])] [(some (.var (.ints .u64 4 x2))), (some (.var (.ints .u64 4 x3))), (some (.var (.ints .u64 4 x4))), (some (.var (.ints .u64 4 x5)))]) => some (x0, x1, x2, x3, x4, x5)
 | _ => none
def word_Sub.l4_0.shape (t : (Int × (Int × ((List Int) × ((List Int) × ((List Int) × (List Int))))))) : St := (St.mk [(.int .i64 t.1), (.ptr 0 []), (.ptr 1 []), (.int .u64 t.2.1), (.ptr 2 []), (.ptr 3 [])] [(some (.var (.ints .u64 4 t.2.2.1))), (some (.var (.ints .u64 4 t.2.2.2.1))), (some (.var (.ints .u64 4 t.2.2.2.2.1))), (some (.var (.ints .u64 4 t.2.2.2.2.2)))])
def word_Sub.l4_0.res : (Int × ((List Int) × (List Int))) → Ex × St
 | u => (Prod.mk (.exit 0) (St.mk [(.ptr 0 []), (.int .u64 u.1), (.ptr 1 [])] [(some (.var (.ints .u64 4 u.2.1))), (some (.var (.ints .u64 4 u.2.2)))]))
def word_Sub.l4_0.resK {R : Type} (u : (Int × ((List Int) × (List Int)))) (K : Ex → St → Option R) : Option R := (fun p : Ex × St => K p.1 p.2) (Prod.mk (.exit 0) (St.mk [(.ptr 0 []), (.int .u64 u.1), (.ptr 1 [])] [(some (.var (.ints .u64 4 u.2.1))), (some (.var (.ints .u64 4 u.2.2)))]))
noncomputable def word_Sub.A (n : Nat) : Ann := ⟨Try.f90.ntmps, 0, word_Sub.live, [], [none, none], fun k => match k with
 | 4 => some (.mk' word_Sub.l4_0.pat (word_Sub.l4_0.m n n) word_Sub.l4_0.resK)
 | _ => none, word_Sub.jlive, lookJ []⟩
noncomputable def word_Sub.b0 : Code := (loopsIn (Try.f90.body.getD .skip)).getD 0 .skip
def word_Sub.g {α : Type} (mk0 : (List Int) → Bool → α) (n : Nat) (a0 : (List Int)) (a1 : (List Int)) : Option α :=
 bindO (word_Sub.l4_0.m n n (0, 0, a0, a1, [0, 0, 0, 0], [0, 0, 0, 0])) fun r2 =>
  some (mk0 (Prod.fst (Prod.snd r2)) ((Prod.fst r2) != 0))
def word_Sub.m (n : Nat) (t : ((List Int) × (List Int))) : Option ((List Int) × Bool) := word_Sub.g (fun a0 a1 => (a0, a1)) n t.1 t.2
def word_Sub.pat : List AV → Blks → Option ((List Int) × (List Int))
 | [(.ints .u64 4 a0), (.ints .u64 4 a1)], [] => some (a0, a1)
 | _, _ => none
def word_Sub.shape (t : ((List Int) × (List Int))) : List AV × Blks := ([(.ints .u64 4 t.1), (.ints .u64 4 t.2)], [])
def word_Sub.res : ((List Int) × Bool) → AV × Blks
 | u => (Prod.mk (.tup [(.ints .u64 4 u.1), (.bool u.2)]) [])
def word_Sub.resK {R : Type} (u : ((List Int) × Bool)) (K : AV → Blks → Option R) : Option R := (fun p : AV × Blks => K p.1 p.2) (Prod.mk (.tup [(.ints .u64 4 u.1), (.bool u.2)]) [])
def word_Sub.c (n : Nat) : Abs.Callee := .mk' [] [none, none] word_Sub.pat (word_Sub.m n) word_Sub.resK
end
end
section
theorem bits_Sub64.ok (hmix : Try.prog.follows .mixedOrders = true) (n : Nat) (t) (u) (h : bits_Sub64.m n t = some u) : FnOK Try.prog (fun _ => .any) 113 (bits_Sub64.shape t).1 (bits_Sub64.shape t).2 (bits_Sub64.res u).1 (bits_Sub64.res u).2 :=
  xSub64_ok Try.func113 (by kernel_rfl) (by kernel_rfl) (by kernel_rfl) (show Go.Extern.find Try.f113 = some sub64Entry by kernel_rfl) t u h
theorem bits_Sub64.s (hmix : Try.prog.follows .mixedOrders = true) (n : Nat) : CalleeS Try.prog (fun _ => .any) 113 (bits_Sub64.c n) :=
  CalleeS.of (res := bits_Sub64.res) (shape := bits_Sub64.shape) (fun R u K => rfl) (fun args lent t h => by
    unfold bits_Sub64.pat at h
    split at h
    · cases h; rfl
    · cases h) fun t u h => bits_Sub64.ok hmix n t u h
end
section
theorem word_Sub.l4_0.rmap {α β : Type} (h : β → α) (mk0 : Int → (List Int) → (List Int) → β) (n : Nat) (f : Int → Int → (List Int) → (List Int) → (List Int) → (List Int) → Option β)  (x0 : Int) (x1 : Int) (x2 : (List Int)) (x3 : (List Int)) (x4 : (List Int)) (x5 : (List Int)) : word_Sub.l4_0.r (fun a0 a1 a2 => (h (mk0 a0 a1 a2))) n (fun y0 y1 y2 y3 y4 y5 => (f y0 y1 y2 y3 y4 y5).map h) x0 x1 x2 x3 x4 x5 = (word_Sub.l4_0.r mk0 n f x0 x1 x2 x3 x4 x5).map h := by
  unfold word_Sub.l4_0.r
  exact (ite_map (ite_map (ite_map (ite_map (ite_map (bindO_map fun r14 => (ite_map (ite_map rfl rfl) rfl)) rfl) rfl) rfl) rfl) rfl)
theorem word_Sub.l4_0.gmap {α β : Type} (h : β → α) (mk0 : Int → (List Int) → (List Int) → β) (n : Nat) : ∀ (m : Nat) (x0 : Int) (x1 : Int) (x2 : (List Int)) (x3 : (List Int)) (x4 : (List Int)) (x5 : (List Int)), word_Sub.l4_0.g (fun a0 a1 a2 => (h (mk0 a0 a1 a2))) n m x0 x1 x2 x3 x4 x5 = (word_Sub.l4_0.g mk0 n m x0 x1 x2 x3 x4 x5).map h
  | 0, _, _, _, _, _, _ => rfl
  | m + 1, x0, x1, x2, x3, x4, x5 => by
    unfold word_Sub.l4_0.g
    rw [← word_Sub.l4_0.rmap]
    congr
    · funext y0 y1 y2 y3 y4 y5; exact word_Sub.l4_0.gmap h mk0 n m y0 y1 y2 y3 y4 y5
theorem word_Sub.l4_0.pat_shape : ∀ st t, word_Sub.l4_0.pat st = some t → st = word_Sub.l4_0.shape t := by
  intro st t h
  unfold word_Sub.l4_0.pat at h
  split at h
  · cases h; rfl
  · cases h
theorem word_Sub.l4_0.round (n : Nat) (rc : St → Option (Ex × St)) (x0 : Int) (x1 : Int) (x2 : (List Int)) (x3 : (List Int)) (x4 : (List Int)) (x5 : (List Int)) : roundOf (word_Sub.C n) (word_Sub.A n) n word_Sub.b0 rc ((St.mk [(.int .i64 x0), (.ptr 0 []), (.ptr 1 []), (.int .u64 x1), (.ptr 2 []), (.ptr 3 [])] [(some (.var (.ints .u64 4 x2))), (some (.var (.ints .u64 4 x3))), (some (.var (.ints .u64 4 x4))), (some (.var (.ints .u64 4 x5)))])) = word_Sub.l4_0.r (fun a0 a1 a2 => ((Prod.mk (.exit 0) (St.mk [(.ptr 0 []), (.int .u64 a0), (.ptr 1 [])] [(some (.var (.ints .u64 4 a1))), (some (.var (.ints .u64 4 a2)))])) : Ex × St)) n (fun y0 y1 y2 y3 y4 y5 => rc ((St.mk [(.int .i64 y0), (.ptr 0 []), (.ptr 1 []), (.int .u64 y1), (.ptr 2 []), (.ptr 3 [])] [(some (.var (.ints .u64 4 y2))), (some (.var (.ints .u64 4 y3))), (some (.var (.ints .u64 4 y4))), (some (.var (.ints .u64 4 y5)))]))) x0 x1 x2 x3 x4 x5 := by kernel_rfl
theorem word_Sub.l4_0.loop' (n : Nat) : ∀ (m : Nat) (t : (Int × (Int × ((List Int) × ((List Int) × ((List Int) × (List Int))))))), loopOf (roundOf (word_Sub.C n) (word_Sub.A n) n word_Sub.b0) m (word_Sub.l4_0.shape t) = word_Sub.l4_0.g (fun a0 a1 a2 => ((Prod.mk (.exit 0) (St.mk [(.ptr 0 []), (.int .u64 a0), (.ptr 1 [])] [(some (.var (.ints .u64 4 a1))), (some (.var (.ints .u64 4 a2)))])) : Ex × St)) n m t.1 t.2.1 t.2.2.1 t.2.2.2.1 t.2.2.2.2.1 t.2.2.2.2.2 :=
  loop_of_round (shape := word_Sub.l4_0.shape) (body := roundOf (word_Sub.C n) (word_Sub.A n) n word_Sub.b0) (g := fun m t => word_Sub.l4_0.g (fun a0 a1 a2 => ((Prod.mk (.exit 0) (St.mk [(.ptr 0 []), (.int .u64 a0), (.ptr 1 [])] [(some (.var (.ints .u64 4 a1))), (some (.var (.ints .u64 4 a2)))])) : Ex × St)) n m t.1 t.2.1 t.2.2.1 t.2.2.2.1 t.2.2.2.2.1 t.2.2.2.2.2) (fun t => rfl)
    fun m t ih => (word_Sub.l4_0.round n (loopOf (roundOf (word_Sub.C n) (word_Sub.A n) n word_Sub.b0) m) t.1 t.2.1 t.2.2.1 t.2.2.2.1 t.2.2.2.2.1 t.2.2.2.2.2).trans (congrFun (congrFun (congrFun (congrFun (congrFun (congrFun (congrArg (word_Sub.l4_0.r (fun a0 a1 a2 => ((Prod.mk (.exit 0) (St.mk [(.ptr 0 []), (.int .u64 a0), (.ptr 1 [])] [(some (.var (.ints .u64 4 a1))), (some (.var (.ints .u64 4 a2)))])) : Ex × St)) n) (funext fun y0 => funext fun y1 => funext fun y2 => funext fun y3 => funext fun y4 => funext fun y5 => ih (y0, y1, y2, y3, y4, y5))) t.1) t.2.1) t.2.2.1) t.2.2.2.1) t.2.2.2.2.1) t.2.2.2.2.2)
theorem word_Sub.l4_0.loop (n m : Nat) (t : (Int × (Int × ((List Int) × ((List Int) × ((List Int) × (List Int))))))) : loopOf (roundOf (word_Sub.C n) (word_Sub.A n) n word_Sub.b0) m (word_Sub.l4_0.shape t) = (word_Sub.l4_0.m n m t).map word_Sub.l4_0.res :=
  (word_Sub.l4_0.loop' n m t).trans (word_Sub.l4_0.gmap word_Sub.l4_0.res (fun a0 a1 a2 => (a0, a1, a2)) n m t.1 t.2.1 t.2.2.1 t.2.2.2.1 t.2.2.2.2.1 t.2.2.2.2.2)
theorem word_Sub.gmap {α β : Type} (h : β → α) (mk0 : (List Int) → Bool → β) (n : Nat) (a0 : (List Int)) (a1 : (List Int)) : word_Sub.g (fun a0 a1 => (h (mk0 a0 a1))) n a0 a1 = (word_Sub.g mk0 n a0 a1).map h := by
  unfold word_Sub.g
  exact (bindO_map fun r2 => rfl)
theorem word_Sub.run (n : Nat) (a0 : (List Int)) (a1 : (List Int)) : runF (word_Sub.C n) (word_Sub.A n) n Try.f90 [(.ints .u64 4 a0), (.ints .u64 4 a1)] [] (fun v o => some (v, o)) = word_Sub.g (fun a0 a1 => ((Prod.mk (.tup [(.ints .u64 4 a0), (.bool a1)]) []) : AV × Blks)) n a0 a1 := by kernel_rfl
theorem word_Sub.call (hmix : Try.prog.follows .mixedOrders = true) (n : Nat) (t : ((List Int) × (List Int))) (u) (h : word_Sub.m n t = some u) : FnC Try.prog (fun _ => .any) 90 (word_Sub.shape t).1 (word_Sub.shape t).2 (word_Sub.res u).1 (word_Sub.res u).2 := by
  have hg : ∀ f m, (word_Sub.C n).Γ f = some m → CalleeS Try.prog (fun _ => .any) f m := by
    intro f m hm
    unfold word_Sub.C at hm
    simp only at hm
    first
    | (cases hm; done)
    | (split at hm <;> first
    | (cases hm; exact bits_Sub64.s hmix n)
    | (cases hm; done))
  have hb : Try.f90.body = some (Try.f90.body.getD .skip) := by kernel_rfl
  refine runF_calls (C := word_Sub.C n) (A := word_Sub.A n) (n := n) (fn := Try.f90) hg hmix Try.func90 hb ?_ ?_ (by decide) rfl rfl (by show 2 ≤ Try.f90.ntmps; decide) ?_
  · rw [show loopsIn (Try.f90.body.getD .skip) = [word_Sub.b0] by kernel_rfl]
    intro b hb m hm
    simp only [List.mem_cons, List.not_mem_nil, or_false] at hb
    rcases hb with rfl
    · have e : (word_Sub.A n).loop (key word_Sub.b0) = some (.mk' word_Sub.l4_0.pat (word_Sub.l4_0.m n n) word_Sub.l4_0.resK) := by rw [show key word_Sub.b0 = 4 by kernel_rfl]; rfl
      rw [e] at hm
      cases hm
      exact LoopS.of (res := word_Sub.l4_0.res) (fun R u K => rfl) word_Sub.l4_0.pat_shape fun t => word_Sub.l4_0.loop n n t
  · intro a ha m hm
    cases (show none = some m from hm)
  · rw [show runF (word_Sub.C n) (word_Sub.A n) n Try.f90 (word_Sub.shape t).1 (word_Sub.shape t).2 (fun v o => some (v, o)) = _ from word_Sub.run n t.1 t.2]
    have e := word_Sub.gmap word_Sub.res (fun a0 a1 => (a0, a1)) n t.1 t.2
    unfold word_Sub.m at h
    rw [h] at e
    exact e
theorem word_Sub.s (hmix : Try.prog.follows .mixedOrders = true) (n : Nat) : CalleeS Try.prog (fun _ => .any) 90 (word_Sub.c n) :=
  CalleeS.of (res := word_Sub.res) (shape := word_Sub.shape) (fun R u K => rfl) (fun args lent t h => by
    unfold word_Sub.pat at h
    split at h
    · cases h; rfl
    · cases h) fun t u h => (word_Sub.call hmix n t u h).ok Try.func90 (by decide) (by kernel_rfl)
end
section
noncomputable section
noncomputable def q01_Add.C (n : Nat) : Ctx := ⟨Try.prog, (fun _ => .any), fun f => match f with
 | _ => none⟩
def q01_Add.live : Nat → List Nat × List Nat := fun k => match k with
 | 4 => ([8, 2, 3, 7, 6, 4], [6, 7, 4])
 | _ => ([], [])
def q01_Add.jlive : Nat → List Nat × List Nat := fun k => match k with
 | _ => ([], [])
def q01_Add.l4_0.r {α : Type} (mk0 : Int → (List Int) → (List Int) → α) (n : Nat) (rc : Int → Int → (List Int) → (List Int) → (List Int) → (List Int) → Option α)  (x0 : Int) (x1 : Int) (x2 : (List Int)) (x3 : (List Int)) (x4 : (List Int)) (x5 : (List Int)) : Option α :=
  if (decide (x0 < 4)) = true then
   if 0 ≤ x0 then
    if x0 < 4 then
     if 0 ≤ x0 then
      if x0 < 4 then
       if 0 ≤ x0 then
        if x0 < 4 then
         if (decide ((IntKind.wrap .u64 ((List.getD x2 (Int.toNat x0) 0) + (List.getD x3 (Int.toNat x0) 0))) < (List.getD x2 (Int.toNat x0) 0))) = true then
          if (decide ((IntKind.wrap .u64 ((IntKind.wrap .u64 ((List.getD x2 (Int.toNat x0) 0) + (List.getD x3 (Int.toNat x0) 0))) + x1)) < (IntKind.wrap .u64 ((List.getD x2 (Int.toNat x0) 0) + (List.getD x3 (Int.toNat x0) 0))))) = true then
           if 0 ≤ x0 then
            if x0 < 4 then
             rc (IntKind.wrap .i64 (x0 + 1)) 1 x2 x3 (List.set x4 (Int.toNat x0) (IntKind.wrap .u64 ((IntKind.wrap .u64 ((List.getD x2 (Int.toNat x0) 0) + (List.getD x3 (Int.toNat x0) 0))) + x1))) x5
            else
             none
           else
            none
          else
           if 0 ≤ x0 then
            if x0 < 4 then
             rc (IntKind.wrap .i64 (x0 + 1)) 1 x2 x3 (List.set x4 (Int.toNat x0) (IntKind.wrap .u64 ((IntKind.wrap .u64 ((List.getD x2 (Int.toNat x0) 0) + (List.getD x3 (Int.toNat x0) 0))) + x1))) x5
            else
             none
           else
            none
         else
          if (decide ((IntKind.wrap .u64 ((IntKind.wrap .u64 ((List.getD x2 (Int.toNat x0) 0) + (List.getD x3 (Int.toNat x0) 0))) + x1)) < (IntKind.wrap .u64 ((List.getD x2 (Int.toNat x0) 0) + (List.getD x3 (Int.toNat x0) 0))))) = true then
           if 0 ≤ x0 then
            if x0 < 4 then
             rc (IntKind.wrap .i64 (x0 + 1)) 1 x2 x3 (List.set x4 (Int.toNat x0) (IntKind.wrap .u64 ((IntKind.wrap .u64 ((List.getD x2 (Int.toNat x0) 0) + (List.getD x3 (Int.toNat x0) 0))) + x1))) x5
            else
             none
           else
            none
          else
           if 0 ≤ x0 then
            if x0 < 4 then
             rc (IntKind.wrap .i64 (x0 + 1)) 0 x2 x3 (List.set x4 (Int.toNat x0) (IntKind.wrap .u64 ((IntKind.wrap .u64 ((List.getD x2 (Int.toNat x0) 0) + (List.getD x3 (Int.toNat x0) 0))) + x1))) x5
            else
             none
           else
            none
        else
         none
       else
        none
      else
       none
     else
      none
    else
     none
   else
    none
  else
   some (mk0 x1 x4 x5)
def q01_Add.l4_0.g {α : Type} (mk0 : Int → (List Int) → (List Int) → α) (n : Nat) : Nat → Int → Int → (List Int) → (List Int) → (List Int) → (List Int) → Option α
 | 0, _, _, _, _, _, _ => none
 | m + 1, x0, x1, x2, x3, x4, x5 => q01_Add.l4_0.r mk0 n (fun y0 y1 y2 y3 y4 y5 => q01_Add.l4_0.g mk0 n m y0 y1 y2 y3 y4 y5)  x0 x1 x2 x3 x4 x5
def q01_Add.l4_0.m (n m : Nat) (t : (Int × (Int × ((List Int) × ((List Int) × ((List Int) × (List Int))))))) : Option (Int × ((List Int) × (List Int))) := q01_Add.l4_0.g (fun a0 a1 a2 => (a0, a1, a2)) n m t.1 t.2.1 t.2.2.1 t.2.2.2.1 t.2.2.2.2.1 t.2.2.2.2.2
def q01_Add.l4_0.pat : St → Option (Int × (Int × ((List Int) × ((List Int) × ((List Int) × (List Int))))))
 | (St.mk [(.int .i64 x0), (.ptr 0 []), (.ptr 1 []), (.int .u64 x1), (.ptr 2 []), (.ptr 3 [])] [(some (.var (.ints .u64 4 x2))), (some (.var (.ints .u64 4 x3))), (some (.var (.ints .u64 4 x4))), (some (.var (.ints .u64 4 x5)))]) => some (x0, x1, x2, x3, x4, x5)
 | _ => none
def q01_Add.l4_0.shape (t : (Int × (Int × ((List Int) × ((List Int) × ((List Int) × (List Int))))))) : St := (St.mk [(.int .i64 t.1), (.ptr 0 []), (.ptr 1 []), (.int .u64 t.2.1), (.ptr 2 []), (.ptr 3 [])] [(some (.var (.ints .u64 4 t.2.2.1))), (some (.var (.ints .u64 4 t.2.2.2.1))), (some (.var (.ints .u64 4 t.2.2.2.2.1))), (some (.var (.ints .u64 4 t.2.2.2.2.2)))])
def q01_Add.l4_0.res : (Int × ((List Int) × (List Int))) → Ex × St
 | u => (Prod.mk (.exit 0) (St.mk [(.ptr 0 []), (.int .u64 u.1), (.ptr 1 [])] [(some (.var (.ints .u64 4 u.2.1))), (some (.var (.ints .u64 4 u.2.2)))]))
def q01_Add.l4_0.resK {R : Type} (u : (Int × ((List Int) × (List Int)))) (K : Ex → St → Option R) : Option R := (fun p : Ex × St => K p.1 p.2) (Prod.mk (.exit 0) (St.mk [(.ptr 0 []), (.int .u64 u.1), (.ptr 1 [])] [(some (.var (.ints .u64 4 u.2.1))), (some (.var (.ints .u64 4 u.2.2)))]))
noncomputable def q01_Add.A (n : Nat) : Ann := ⟨Try.f97.ntmps, 0, q01_Add.live, [], [none, none], fun k => match k with
 | 4 => some (.mk' q01_Add.l4_0.pat (q01_Add.l4_0.m n n) q01_Add.l4_0.resK)
 | _ => none, q01_Add.jlive, lookJ []⟩
noncomputable def q01_Add.b0 : Code := (loopsIn (Try.f97.body.getD .skip)).getD 0 .skip
def q01_Add.g {α : Type} (mk0 : (List Int) → Bool → α) (n : Nat) (a0 : (List Int)) (a1 : (List Int)) : Option α :=
 bindO (q01_Add.l4_0.m n n (0, 0, a0, a1, [0, 0, 0, 0], [0, 0, 0, 0])) fun r2 =>
  some (mk0 (Prod.fst (Prod.snd r2)) ((Prod.fst r2) == 1))
def q01_Add.m (n : Nat) (t : ((List Int) × (List Int))) : Option ((List Int) × Bool) := q01_Add.g (fun a0 a1 => (a0, a1)) n t.1 t.2
def q01_Add.pat : List AV → Blks → Option ((List Int) × (List Int))
 | [(.ints .u64 4 a0), (.ints .u64 4 a1)], [] => some (a0, a1)
 | _, _ => none
def q01_Add.shape (t : ((List Int) × (List Int))) : List AV × Blks := ([(.ints .u64 4 t.1), (.ints .u64 4 t.2)], [])
def q01_Add.res : ((List Int) × Bool) → AV × Blks
 | u => (Prod.mk (.tup [(.ints .u64 4 u.1), (.bool u.2)]) [])
def q01_Add.resK {R : Type} (u : ((List Int) × Bool)) (K : AV → Blks → Option R) : Option R := (fun p : AV × Blks => K p.1 p.2) (Prod.mk (.tup [(.ints .u64 4 u.1), (.bool u.2)]) [])
def q01_Add.c (n : Nat) : Abs.Callee := .mk' [] [none, none] q01_Add.pat (q01_Add.m n) q01_Add.resK
end
end
section
theorem q01_Add.l4_0.rmap {α β : Type} (h : β → α) (mk0 : Int → (List Int) → (List Int) → β) (n : Nat) (f : Int → Int → (List Int) → (List Int) → (List Int) → (List Int) → Option β)  (x0 : Int) (x1 : Int) (x2 : (List Int)) (x3 : (List Int)) (x4 : (List Int)) (x5 : (List Int)) : q01_Add.l4_0.r (fun a0 a1 a2 => (h (mk0 a0 a1 a2))) n (fun y0 y1 y2 y3 y4 y5 => (f y0 y1 y2 y3 y4 y5).map h) x0 x1 x2 x3 x4 x5 = (q01_Add.l4_0.r mk0 n f x0 x1 x2 x3 x4 x5).map h := by
  unfold q01_Add.l4_0.r
  exact (ite_map (ite_map (ite_map (ite_map (ite_map (ite_map (ite_map (ite_map (ite_map (ite_map (ite_map rfl rfl) rfl) (ite_map (ite_map rfl rfl) rfl)) (ite_map (ite_map (ite_map rfl rfl) rfl) (ite_map (ite_map rfl rfl) rfl))) rfl) rfl) rfl) rfl) rfl) rfl) rfl)
theorem q01_Add.l4_0.gmap {α β : Type} (h : β → α) (mk0 : Int → (List Int) → (List Int) → β) (n : Nat) : ∀ (m : Nat) (x0 : Int) (x1 : Int) (x2 : (List Int)) (x3 : (List Int)) (x4 : (List Int)) (x5 : (List Int)), q01_Add.l4_0.g (fun a0 a1 a2 => (h (mk0 a0 a1 a2))) n m x0 x1 x2 x3 x4 x5 = (q01_Add.l4_0.g mk0 n m x0 x1 x2 x3 x4 x5).map h
  | 0, _, _, _, _, _, _ => rfl
  | m + 1, x0, x1, x2, x3, x4, x5 => by
    unfold q01_Add.l4_0.g
    rw [← q01_Add.l4_0.rmap]
    congr
    · funext y0 y1 y2 y3 y4 y5; exact q01_Add.l4_0.gmap h mk0 n m y0 y1 y2 y3 y4 y5
theorem q01_Add.l4_0.pat_shape : ∀ st t, q01_Add.l4_0.pat st = some t → st = q01_Add.l4_0.shape t := by
  intro st t h
  unfold q01_Add.l4_0.pat at h
  split at h
  · cases h; rfl
  · cases h
theorem q01_Add.l4_0.round (n : Nat) (rc : St → Option (Ex × St)) (x0 : Int) (x1 : Int) (x2 : (List Int)) (x3 : (List Int)) (x4 : (List Int)) (x5 : (List Int)) : roundOf (q01_Add.C n) (q01_Add.A n) n q01_Add.b0 rc ((St.mk [(.int .i64 x0), (.ptr 0 []), (.ptr 1 []), (.int .u64 x1), (.ptr 2 []), (.ptr 3 [])] [(some (.var (.ints .u64 4 x2))), (some (.var (.ints .u64 4 x3))), (some (.var (.ints .u64 4 x4))), (some (.var (.ints .u64 4 x5)))])) = q01_Add.l4_0.r (fun a0 a1 a2 => ((Prod.mk (.exit 0) (St.mk [(.ptr 0 []), (.int .u64 a0), (.ptr 1 [])] [(some (.var (.ints .u64 4 a1))), (some (.var (.ints .u64 4 a2)))])) : Ex × St)) n (fun y0 y1 y2 y3 y4 y5 => rc ((St.mk [(.int .i64 y0), (.ptr 0 []), (.ptr 1 []), (.int .u64 y1), (.ptr 2 []), (.ptr 3 [])] [(some (.var (.ints .u64 4 y2))), (some (.var (.ints .u64 4 y3))), (some (.var (.ints .u64 4 y4))), (some (.var (.ints .u64 4 y5)))]))) x0 x1 x2 x3 x4 x5 := by kernel_rfl
theorem q01_Add.l4_0.loop' (n : Nat) : ∀ (m : Nat) (t : (Int × (Int × ((List Int) × ((List Int) × ((List Int) × (List Int))))))), loopOf (roundOf (q01_Add.C n) (q01_Add.A n) n q01_Add.b0) m (q01_Add.l4_0.shape t) = q01_Add.l4_0.g (fun a0 a1 a2 => ((Prod.mk (.exit 0) (St.mk [(.ptr 0 []), (.int .u64 a0), (.ptr 1 [])] [(some (.var (.ints .u64 4 a1))), (some (.var (.ints .u64 4 a2)))])) : Ex × St)) n m t.1 t.2.1 t.2.2.1 t.2.2.2.1 t.2.2.2.2.1 t.2.2.2.2.2 :=
  loop_of_round (shape := q01_Add.l4_0.shape) (body := roundOf (q01_Add.C n) (q01_Add.A n) n q01_Add.b0) (g := fun m t => q01_Add.l4_0.g (fun a0 a1 a2 => ((Prod.mk (.exit 0) (St.mk [(.ptr 0 []), (.int .u64 a0), (.ptr 1 [])] [(some (.var (.ints .u64 4 a1))), (some (.var (.ints .u64 4 a2)))])) : Ex × St)) n m t.1 t.2.1 t.2.2.1 t.2.2.2.1 t.2.2.2.2.1 t.2.2.2.2.2) (fun t => rfl)
    fun m t ih => (q01_Add.l4_0.round n (loopOf (roundOf (q01_Add.C n) (q01_Add.A n) n q01_Add.b0) m) t.1 t.2.1 t.2.2.1 t.2.2.2.1 t.2.2.2.2.1 t.2.2.2.2.2).trans (congrFun (congrFun (congrFun (congrFun (congrFun (congrFun (congrArg (q01_Add.l4_0.r (fun a0 a1 a2 => ((Prod.mk (.exit 0) (St.mk [(.ptr 0 []), (.int .u64 a0), (.ptr 1 [])] [(some (.var (.ints .u64 4 a1))), (some (.var (.ints .u64 4 a2)))])) : Ex × St)) n) (funext fun y0 => funext fun y1 => funext fun y2 => funext fun y3 => funext fun y4 => funext fun y5 => ih (y0, y1, y2, y3, y4, y5))) t.1) t.2.1) t.2.2.1) t.2.2.2.1) t.2.2.2.2.1) t.2.2.2.2.2)
theorem q01_Add.l4_0.loop (n m : Nat) (t : (Int × (Int × ((List Int) × ((List Int) × ((List Int) × (List Int))))))) : loopOf (roundOf (q01_Add.C n) (q01_Add.A n) n q01_Add.b0) m (q01_Add.l4_0.shape t) = (q01_Add.l4_0.m n m t).map q01_Add.l4_0.res :=
  (q01_Add.l4_0.loop' n m t).trans (q01_Add.l4_0.gmap q01_Add.l4_0.res (fun a0 a1 a2 => (a0, a1, a2)) n m t.1 t.2.1 t.2.2.1 t.2.2.2.1 t.2.2.2.2.1 t.2.2.2.2.2)
theorem q01_Add.gmap {α β : Type} (h : β → α) (mk0 : (List Int) → Bool → β) (n : Nat) (a0 : (List Int)) (a1 : (List Int)) : q01_Add.g (fun a0 a1 => (h (mk0 a0 a1))) n a0 a1 = (q01_Add.g mk0 n a0 a1).map h := by
  unfold q01_Add.g
  exact (bindO_map fun r2 => rfl)
theorem q01_Add.run (n : Nat) (a0 : (List Int)) (a1 : (List Int)) : runF (q01_Add.C n) (q01_Add.A n) n Try.f97 [(.ints .u64 4 a0), (.ints .u64 4 a1)] [] (fun v o => some (v, o)) = q01_Add.g (fun a0 a1 => ((Prod.mk (.tup [(.ints .u64 4 a0), (.bool a1)]) []) : AV × Blks)) n a0 a1 := by kernel_rfl
theorem q01_Add.call (hmix : Try.prog.follows .mixedOrders = true) (n : Nat) (t : ((List Int) × (List Int))) (u) (h : q01_Add.m n t = some u) : FnC Try.prog (fun _ => .any) 97 (q01_Add.shape t).1 (q01_Add.shape t).2 (q01_Add.res u).1 (q01_Add.res u).2 := by
  have hg : ∀ f m, (q01_Add.C n).Γ f = some m → CalleeS Try.prog (fun _ => .any) f m := by
    intro f m hm
    unfold q01_Add.C at hm
    simp only at hm
    first
    | (cases hm; done)
    | (split at hm <;> first
    | (cases hm; done))
  have hb : Try.f97.body = some (Try.f97.body.getD .skip) := by kernel_rfl
  refine runF_calls (C := q01_Add.C n) (A := q01_Add.A n) (n := n) (fn := Try.f97) hg hmix Try.func97 hb ?_ ?_ (by decide) rfl rfl (by show 2 ≤ Try.f97.ntmps; decide) ?_
  · rw [show loopsIn (Try.f97.body.getD .skip) = [q01_Add.b0] by kernel_rfl]
    intro b hb m hm
    simp only [List.mem_cons, List.not_mem_nil, or_false] at hb
    rcases hb with rfl
    · have e : (q01_Add.A n).loop (key q01_Add.b0) = some (.mk' q01_Add.l4_0.pat (q01_Add.l4_0.m n n) q01_Add.l4_0.resK) := by rw [show key q01_Add.b0 = 4 by kernel_rfl]; rfl
      rw [e] at hm
      cases hm
      exact LoopS.of (res := q01_Add.l4_0.res) (fun R u K => rfl) q01_Add.l4_0.pat_shape fun t => q01_Add.l4_0.loop n n t
  · intro a ha m hm
    cases (show none = some m from hm)
  · rw [show runF (q01_Add.C n) (q01_Add.A n) n Try.f97 (q01_Add.shape t).1 (q01_Add.shape t).2 (fun v o => some (v, o)) = _ from q01_Add.run n t.1 t.2]
    have e := q01_Add.gmap q01_Add.res (fun a0 a1 => (a0, a1)) n t.1 t.2
    unfold q01_Add.m at h
    rw [h] at e
    exact e
theorem q01_Add.s (hmix : Try.prog.follows .mixedOrders = true) (n : Nat) : CalleeS Try.prog (fun _ => .any) 97 (q01_Add.c n) :=
  CalleeS.of (res := q01_Add.res) (shape := q01_Add.shape) (fun R u K => rfl) (fun args lent t h => by
    unfold q01_Add.pat at h
    split at h
    · cases h; rfl
    · cases h) fun t u h => (q01_Add.call hmix n t u h).ok Try.func97 (by decide) (by kernel_rfl)
end
section
noncomputable section
noncomputable def q01_not.C (n : Nat) : Ctx := ⟨Try.prog, (fun _ => .any), fun f => match f with
 | _ => none⟩
def q01_not.live : Nat → List Nat × List Nat := fun k => match k with
 | _ => ([], [])
def q01_not.jlive : Nat → List Nat × List Nat := fun k => match k with
 | _ => ([], [])
noncomputable def q01_not.A (n : Nat) : Ann := ⟨Try.f129.ntmps, 0, q01_not.live, [], [none], fun k => match k with
 | _ => none, q01_not.jlive, lookJ []⟩
def q01_not.g {α : Type} (mk0 : (List Int) → α) (n : Nat) (a0 : (List Int)) : Option α :=
 some (mk0 [(ibits BinOp.xor .u64 (if false = true then (-1) else 18446744073709551615) (List.getD a0 0 0)), (ibits BinOp.xor .u64 (if false = true then (-1) else 18446744073709551615) (List.getD a0 1 0)), (ibits BinOp.xor .u64 (if false = true then (-1) else 18446744073709551615) (List.getD a0 2 0)), (ibits BinOp.xor .u64 (if false = true then (-1) else 18446744073709551615) (List.getD a0 3 0))])
def q01_not.m (n : Nat) (t : (List Int)) : Option (List Int) := q01_not.g (fun a0 => a0) n t
def q01_not.pat : List AV → Blks → Option (List Int)
 | [(.ints .u64 4 a0)], [] => some a0
 | _, _ => none
def q01_not.shape (t : (List Int)) : List AV × Blks := ([(.ints .u64 4 t)], [])
def q01_not.res : (List Int) → AV × Blks
 | u => (Prod.mk (.ints .u64 4 u) [])
def q01_not.resK {R : Type} (u : (List Int)) (K : AV → Blks → Option R) : Option R := (fun p : AV × Blks => K p.1 p.2) (Prod.mk (.ints .u64 4 u) [])
def q01_not.c (n : Nat) : Abs.Callee := .mk' [] [none] q01_not.pat (q01_not.m n) q01_not.resK
end
end
section
noncomputable section
noncomputable def q01_From.C (n : Nat) : Ctx := ⟨Try.prog, (fun _ => .any), fun f => match f with
 | _ => none⟩
def q01_From.live : Nat → List Nat × List Nat := fun k => match k with
 | _ => ([], [])
def q01_From.jlive : Nat → List Nat × List Nat := fun k => match k with
 | _ => ([], [])
noncomputable def q01_From.A (n : Nat) : Ann := ⟨Try.f106.ntmps, 0, q01_From.live, [], [none], fun k => match k with
 | _ => none, q01_From.jlive, lookJ []⟩
def q01_From.g {α : Type} (mk0 : (List Int) → α) (n : Nat) (a0 : Int) : Option α :=
 some (mk0 [a0, 0, 0, 0])
def q01_From.m (n : Nat) (t : Int) : Option (List Int) := q01_From.g (fun a0 => a0) n t
def q01_From.pat : List AV → Blks → Option Int
 | [(.int .u64 a0)], [] => some a0
 | _, _ => none
def q01_From.shape (t : Int) : List AV × Blks := ([(.int .u64 t)], [])
def q01_From.res : (List Int) → AV × Blks
 | u => (Prod.mk (.ints .u64 4 u) [])
def q01_From.resK {R : Type} (u : (List Int)) (K : AV → Blks → Option R) : Option R := (fun p : AV × Blks => K p.1 p.2) (Prod.mk (.ints .u64 4 u) [])
def q01_From.c (n : Nat) : Abs.Callee := .mk' [] [none] q01_From.pat (q01_From.m n) q01_From.resK
end
end
section
noncomputable section
noncomputable def q01_Neg.C (n : Nat) : Ctx := ⟨Try.prog, (fun _ => .any), fun f => match f with
 | 129 => some (q01_not.c n)
 | 106 => some (q01_From.c n)
 | 97 => some (q01_Add.c n)
 | _ => none⟩
def q01_Neg.live : Nat → List Nat × List Nat := fun k => match k with
 | _ => ([], [])
def q01_Neg.jlive : Nat → List Nat × List Nat := fun k => match k with
 | _ => ([], [])
noncomputable def q01_Neg.A (n : Nat) : Ann := ⟨Try.f120.ntmps, 0, q01_Neg.live, [], [none], fun k => match k with
 | _ => none, q01_Neg.jlive, lookJ []⟩
def q01_Neg.g {α : Type} (mk0 : (List Int) → α) (n : Nat) (a0 : (List Int)) : Option α :=
 bindO (q01_not.m n a0) fun r2 =>
  bindO (q01_From.m n 1) fun r4 =>
   bindO (q01_Add.m n (Prod.mk r2 r4)) fun r6 =>
    some (mk0 (Prod.fst r6))
def q01_Neg.m (n : Nat) (t : (List Int)) : Option (List Int) := q01_Neg.g (fun a0 => a0) n t
def q01_Neg.pat : List AV → Blks → Option (List Int)
 | [(.ints .u64 4 a0)], [] => some a0
 | _, _ => none
def q01_Neg.shape (t : (List Int)) : List AV × Blks := ([(.ints .u64 4 t)], [])
def q01_Neg.res : (List Int) → AV × Blks
 | u => (Prod.mk (.ints .u64 4 u) [])
def q01_Neg.resK {R : Type} (u : (List Int)) (K : AV → Blks → Option R) : Option R := (fun p : AV × Blks => K p.1 p.2) (Prod.mk (.ints .u64 4 u) [])
def q01_Neg.c (n : Nat) : Abs.Callee := .mk' [] [none] q01_Neg.pat (q01_Neg.m n) q01_Neg.resK
end
end
section
theorem q01_not.gmap {α β : Type} (h : β → α) (mk0 : (List Int) → β) (n : Nat) (a0 : (List Int)) : q01_not.g (fun a0 => (h (mk0 a0))) n a0 = (q01_not.g mk0 n a0).map h := by
  unfold q01_not.g
  exact rfl
theorem q01_not.run (n : Nat) (a0 : (List Int)) : runF (q01_not.C n) (q01_not.A n) n Try.f129 [(.ints .u64 4 a0)] [] (fun v o => some (v, o)) = q01_not.g (fun a0 => ((Prod.mk (.ints .u64 4 a0) []) : AV × Blks)) n a0 := by kernel_rfl
theorem q01_not.call (hmix : Try.prog.follows .mixedOrders = true) (n : Nat) (t : (List Int)) (u) (h : q01_not.m n t = some u) : FnC Try.prog (fun _ => .any) 129 (q01_not.shape t).1 (q01_not.shape t).2 (q01_not.res u).1 (q01_not.res u).2 := by
  have hg : ∀ f m, (q01_not.C n).Γ f = some m → CalleeS Try.prog (fun _ => .any) f m := by
    intro f m hm
    unfold q01_not.C at hm
    simp only at hm
    first
    | (cases hm; done)
    | (split at hm <;> first
    | (cases hm; done))
  have hb : Try.f129.body = some (Try.f129.body.getD .skip) := by kernel_rfl
  refine runF_calls (C := q01_not.C n) (A := q01_not.A n) (n := n) (fn := Try.f129) hg hmix Try.func129 hb ?_ ?_ (by decide) rfl rfl (by show 1 ≤ Try.f129.ntmps; decide) ?_
  · rw [show loopsIn (Try.f129.body.getD .skip) = [] by kernel_rfl]
    intro b hb
    cases hb
  · intro a ha m hm
    cases (show none = some m from hm)
  · rw [show runF (q01_not.C n) (q01_not.A n) n Try.f129 (q01_not.shape t).1 (q01_not.shape t).2 (fun v o => some (v, o)) = _ from q01_not.run n t]
    have e := q01_not.gmap q01_not.res (fun a0 => a0) n t
    unfold q01_not.m at h
    rw [h] at e
    exact e
theorem q01_not.s (hmix : Try.prog.follows .mixedOrders = true) (n : Nat) : CalleeS Try.prog (fun _ => .any) 129 (q01_not.c n) :=
  CalleeS.of (res := q01_not.res) (shape := q01_not.shape) (fun R u K => rfl) (fun args lent t h => by
    unfold q01_not.pat at h
    split at h
    · cases h; rfl
    · cases h) fun t u h => (q01_not.call hmix n t u h).ok Try.func129 (by decide) (by kernel_rfl)
end
section
theorem q01_From.gmap {α β : Type} (h : β → α) (mk0 : (List Int) → β) (n : Nat) (a0 : Int) : q01_From.g (fun a0 => (h (mk0 a0))) n a0 = (q01_From.g mk0 n a0).map h := by
  unfold q01_From.g
  exact rfl
theorem q01_From.run (n : Nat) (a0 : Int) : runF (q01_From.C n) (q01_From.A n) n Try.f106 [(.int .u64 a0)] [] (fun v o => some (v, o)) = q01_From.g (fun a0 => ((Prod.mk (.ints .u64 4 a0) []) : AV × Blks)) n a0 := by kernel_rfl
theorem q01_From.call (hmix : Try.prog.follows .mixedOrders = true) (n : Nat) (t : Int) (u) (h : q01_From.m n t = some u) : FnC Try.prog (fun _ => .any) 106 (q01_From.shape t).1 (q01_From.shape t).2 (q01_From.res u).1 (q01_From.res u).2 := by
  have hg : ∀ f m, (q01_From.C n).Γ f = some m → CalleeS Try.prog (fun _ => .any) f m := by
    intro f m hm
    unfold q01_From.C at hm
    simp only at hm
    first
    | (cases hm; done)
    | (split at hm <;> first
    | (cases hm; done))
  have hb : Try.f106.body = some (Try.f106.body.getD .skip) := by kernel_rfl
  refine runF_calls (C := q01_From.C n) (A := q01_From.A n) (n := n) (fn := Try.f106) hg hmix Try.func106 hb ?_ ?_ (by decide) rfl rfl (by show 1 ≤ Try.f106.ntmps; decide) ?_
  · rw [show loopsIn (Try.f106.body.getD .skip) = [] by kernel_rfl]
    intro b hb
    cases hb
  · intro a ha m hm
    cases (show none = some m from hm)
  · rw [show runF (q01_From.C n) (q01_From.A n) n Try.f106 (q01_From.shape t).1 (q01_From.shape t).2 (fun v o => some (v, o)) = _ from q01_From.run n t]
    have e := q01_From.gmap q01_From.res (fun a0 => a0) n t
    unfold q01_From.m at h
    rw [h] at e
    exact e
theorem q01_From.s (hmix : Try.prog.follows .mixedOrders = true) (n : Nat) : CalleeS Try.prog (fun _ => .any) 106 (q01_From.c n) :=
  CalleeS.of (res := q01_From.res) (shape := q01_From.shape) (fun R u K => rfl) (fun args lent t h => by
    unfold q01_From.pat at h
    split at h
    · cases h; rfl
    · cases h) fun t u h => (q01_From.call hmix n t u h).ok Try.func106 (by decide) (by kernel_rfl)
end
section
theorem q01_Neg.gmap {α β : Type} (h : β → α) (mk0 : (List Int) → β) (n : Nat) (a0 : (List Int)) : q01_Neg.g (fun a0 => (h (mk0 a0))) n a0 = (q01_Neg.g mk0 n a0).map h := by
  unfold q01_Neg.g
  exact (bindO_map fun r2 => (bindO_map fun r4 => (bindO_map fun r6 => rfl)))
theorem q01_Neg.run (n : Nat) (a0 : (List Int)) : runF (q01_Neg.C n) (q01_Neg.A n) n Try.f120 [(.ints .u64 4 a0)] [] (fun v o => some (v, o)) = q01_Neg.g (fun a0 => ((Prod.mk (.ints .u64 4 a0) []) : AV × Blks)) n a0 := by kernel_rfl
theorem q01_Neg.call (hmix : Try.prog.follows .mixedOrders = true) (n : Nat) (t : (List Int)) (u) (h : q01_Neg.m n t = some u) : FnC Try.prog (fun _ => .any) 120 (q01_Neg.shape t).1 (q01_Neg.shape t).2 (q01_Neg.res u).1 (q01_Neg.res u).2 := by
  have hg : ∀ f m, (q01_Neg.C n).Γ f = some m → CalleeS Try.prog (fun _ => .any) f m := by
    intro f m hm
    unfold q01_Neg.C at hm
    simp only at hm
    first
    | (cases hm; done)
    | (split at hm <;> first
    | (cases hm; exact q01_not.s hmix n)
    | (cases hm; exact q01_From.s hmix n)
    | (cases hm; exact q01_Add.s hmix n)
    | (cases hm; done))
  have hb : Try.f120.body = some (Try.f120.body.getD .skip) := by kernel_rfl
  refine runF_calls (C := q01_Neg.C n) (A := q01_Neg.A n) (n := n) (fn := Try.f120) hg hmix Try.func120 hb ?_ ?_ (by decide) rfl rfl (by show 1 ≤ Try.f120.ntmps; decide) ?_
  · rw [show loopsIn (Try.f120.body.getD .skip) = [] by kernel_rfl]
    intro b hb
    cases hb
  · intro a ha m hm
    cases (show none = some m from hm)
  · rw [show runF (q01_Neg.C n) (q01_Neg.A n) n Try.f120 (q01_Neg.shape t).1 (q01_Neg.shape t).2 (fun v o => some (v, o)) = _ from q01_Neg.run n t]
    have e := q01_Neg.gmap q01_Neg.res (fun a0 => a0) n t
    unfold q01_Neg.m at h
    rw [h] at e
    exact e
theorem q01_Neg.s (hmix : Try.prog.follows .mixedOrders = true) (n : Nat) : CalleeS Try.prog (fun _ => .any) 120 (q01_Neg.c n) :=
  CalleeS.of (res := q01_Neg.res) (shape := q01_Neg.shape) (fun R u K => rfl) (fun args lent t h => by
    unfold q01_Neg.pat at h
    split at h
    · cases h; rfl
    · cases h) fun t u h => (q01_Neg.call hmix n t u h).ok Try.func120 (by decide) (by kernel_rfl)
end
section
noncomputable section
noncomputable def q01_Cmp.C (n : Nat) : Ctx := ⟨Try.prog, (fun _ => .any), fun f => match f with
 | _ => none⟩
def q01_Cmp.live : Nat → List Nat × List Nat := fun k => match k with
 | 2 => ([5, 2, 3], [4])
 | _ => ([], [])
def q01_Cmp.jlive : Nat → List Nat × List Nat := fun k => match k with
 | _ => ([], [])
def q01_Cmp.l2_0.r {α : Type} (mk0 : Int → α) (mk1 : α) (n : Nat) (rc : Int → (List Int) → (List Int) → Option α)  (x0 : Int) (x1 : (List Int)) (x2 : (List Int)) : Option α :=
  if (decide (x0 ≥ 0)) = true then
   if 0 ≤ x0 then
    if x0 < 4 then
     if 0 ≤ x0 then
      if x0 < 4 then
       if (decide ((List.getD x1 (Int.toNat x0) 0) < (List.getD x2 (Int.toNat x0) 0))) = true then
        some (mk0 (-1))
       else
        if 0 ≤ x0 then
         if x0 < 4 then
          if 0 ≤ x0 then
           if x0 < 4 then
            if (decide ((List.getD x1 (Int.toNat x0) 0) > (List.getD x2 (Int.toNat x0) 0))) = true then
             some (mk0 1)
            else
             rc (IntKind.wrap .i64 (x0 - 1)) x1 x2
           else
            none
          else
           none
         else
          none
        else
         none
      else
       none
     else
      none
    else
     none
   else
    none
  else
   some (mk1)
def q01_Cmp.l2_0.g {α : Type} (mk0 : Int → α) (mk1 : α) (n : Nat) : Nat → Int → (List Int) → (List Int) → Option α
 | 0, _, _, _ => none
 | m + 1, x0, x1, x2 => q01_Cmp.l2_0.r mk0 mk1 n (fun y0 y1 y2 => q01_Cmp.l2_0.g mk0 mk1 n m y0 y1 y2)  x0 x1 x2
def q01_Cmp.l2_0.m (n m : Nat) (t : (Int × ((List Int) × (List Int)))) : Option (Int ⊕ Unit) := q01_Cmp.l2_0.g (fun a0 => (.inl a0)) (.inr ()) n m t.1 t.2.1 t.2.2
def q01_Cmp.l2_0.pat : St → Option (Int × ((List Int) × (List Int)))
 | (St.mk [(.int .i64 x0), (.ptr 0 []), (.ptr 1 [])] [(some (.var (.ints .u64 4 x1))), (some (.var (.ints .u64 4 x2)))]) => some (x0, x1, x2)
 | _ => none
def q01_Cmp.l2_0.shape (t : (Int × ((List Int) × (List Int)))) : St := (St.mk [(.int .i64 t.1), (.ptr 0 []), (.ptr 1 [])] [(some (.var (.ints .u64 4 t.2.1))), (some (.var (.ints .u64 4 t.2.2)))])
def q01_Cmp.l2_0.res : (Int ⊕ Unit) → Ex × St
 | (.inl u) => (Prod.mk .ret (St.mk [(.int .i64 u)] []))
 | (.inr u) => (Prod.mk (.exit 0) (St.mk [.any] []))
def q01_Cmp.l2_0.resK {R : Type} (u : (Int ⊕ Unit)) (K : Ex → St → Option R) : Option R := match u with
 | (.inl u) => (fun p : Ex × St => K p.1 p.2) (Prod.mk .ret (St.mk [(.int .i64 u)] []))
 | (.inr u) => (fun p : Ex × St => K p.1 p.2) (Prod.mk (.exit 0) (St.mk [.any] []))
noncomputable def q01_Cmp.A (n : Nat) : Ann := ⟨Try.f74.ntmps, 0, q01_Cmp.live, [], [none], fun k => match k with
 | 2 => some (.mk' q01_Cmp.l2_0.pat (q01_Cmp.l2_0.m n n) q01_Cmp.l2_0.resK)
 | _ => none, q01_Cmp.jlive, lookJ []⟩
noncomputable def q01_Cmp.b0 : Code := (loopsIn (Try.f74.body.getD .skip)).getD 0 .skip
def q01_Cmp.g {α : Type} (mk0 : Int → α) (n : Nat) (a0 : (List Int)) (a1 : (List Int)) : Option α :=
 bindO (q01_Cmp.l2_0.m n n (3, a0, a1)) fun r2 => match r2 with
  | (.inl r2) =>
   some (mk0 r2)
  | (.inr r2) =>
   some (mk0 0)
def q01_Cmp.m (n : Nat) (t : ((List Int) × (List Int))) : Option Int := q01_Cmp.g (fun a0 => a0) n t.1 t.2
def q01_Cmp.pat : List AV → Blks → Option ((List Int) × (List Int))
 | [(.ints .u64 4 a0), (.ints .u64 4 a1)], [] => some (a0, a1)
 | _, _ => none
def q01_Cmp.shape (t : ((List Int) × (List Int))) : List AV × Blks := ([(.ints .u64 4 t.1), (.ints .u64 4 t.2)], [])
def q01_Cmp.res : Int → AV × Blks
 | u => (Prod.mk (.int .i64 u) [])
def q01_Cmp.resK {R : Type} (u : Int) (K : AV → Blks → Option R) : Option R := (fun p : AV × Blks => K p.1 p.2) (Prod.mk (.int .i64 u) [])
def q01_Cmp.c (n : Nat) : Abs.Callee := .mk' [] [none, none] q01_Cmp.pat (q01_Cmp.m n) q01_Cmp.resK
end
end
section
theorem q01_Cmp.l2_0.rmap {α β : Type} (h : β → α) (mk0 : Int → β) (mk1 : β) (n : Nat) (f : Int → (List Int) → (List Int) → Option β)  (x0 : Int) (x1 : (List Int)) (x2 : (List Int)) : q01_Cmp.l2_0.r (fun a0 => (h (mk0 a0))) (h mk1) n (fun y0 y1 y2 => (f y0 y1 y2).map h) x0 x1 x2 = (q01_Cmp.l2_0.r mk0 mk1 n f x0 x1 x2).map h := by
  unfold q01_Cmp.l2_0.r
  exact (ite_map (ite_map (ite_map (ite_map (ite_map (ite_map rfl (ite_map (ite_map (ite_map (ite_map (ite_map rfl rfl) rfl) rfl) rfl) rfl)) rfl) rfl) rfl) rfl) rfl)
theorem q01_Cmp.l2_0.gmap {α β : Type} (h : β → α) (mk0 : Int → β) (mk1 : β) (n : Nat) : ∀ (m : Nat) (x0 : Int) (x1 : (List Int)) (x2 : (List Int)), q01_Cmp.l2_0.g (fun a0 => (h (mk0 a0))) (h mk1) n m x0 x1 x2 = (q01_Cmp.l2_0.g mk0 mk1 n m x0 x1 x2).map h
  | 0, _, _, _ => rfl
  | m + 1, x0, x1, x2 => by
    unfold q01_Cmp.l2_0.g
    rw [← q01_Cmp.l2_0.rmap]
    congr
    · funext y0 y1 y2; exact q01_Cmp.l2_0.gmap h mk0 mk1 n m y0 y1 y2
theorem q01_Cmp.l2_0.pat_shape : ∀ st t, q01_Cmp.l2_0.pat st = some t → st = q01_Cmp.l2_0.shape t := by
  intro st t h
  unfold q01_Cmp.l2_0.pat at h
  split at h
  · cases h; rfl
  · cases h
theorem q01_Cmp.l2_0.round (n : Nat) (rc : St → Option (Ex × St)) (x0 : Int) (x1 : (List Int)) (x2 : (List Int)) : roundOf (q01_Cmp.C n) (q01_Cmp.A n) n q01_Cmp.b0 rc ((St.mk [(.int .i64 x0), (.ptr 0 []), (.ptr 1 [])] [(some (.var (.ints .u64 4 x1))), (some (.var (.ints .u64 4 x2)))])) = q01_Cmp.l2_0.r (fun a0 => ((Prod.mk .ret (St.mk [(.int .i64 a0)] [])) : Ex × St)) ((Prod.mk (.exit 0) (St.mk [.any] [])) : Ex × St) n (fun y0 y1 y2 => rc ((St.mk [(.int .i64 y0), (.ptr 0 []), (.ptr 1 [])] [(some (.var (.ints .u64 4 y1))), (some (.var (.ints .u64 4 y2)))]))) x0 x1 x2 := by kernel_rfl
theorem q01_Cmp.l2_0.loop' (n : Nat) : ∀ (m : Nat) (t : (Int × ((List Int) × (List Int)))), loopOf (roundOf (q01_Cmp.C n) (q01_Cmp.A n) n q01_Cmp.b0) m (q01_Cmp.l2_0.shape t) = q01_Cmp.l2_0.g (fun a0 => ((Prod.mk .ret (St.mk [(.int .i64 a0)] [])) : Ex × St)) ((Prod.mk (.exit 0) (St.mk [.any] [])) : Ex × St) n m t.1 t.2.1 t.2.2 :=
  loop_of_round (shape := q01_Cmp.l2_0.shape) (body := roundOf (q01_Cmp.C n) (q01_Cmp.A n) n q01_Cmp.b0) (g := fun m t => q01_Cmp.l2_0.g (fun a0 => ((Prod.mk .ret (St.mk [(.int .i64 a0)] [])) : Ex × St)) ((Prod.mk (.exit 0) (St.mk [.any] [])) : Ex × St) n m t.1 t.2.1 t.2.2) (fun t => rfl)
    fun m t ih => (q01_Cmp.l2_0.round n (loopOf (roundOf (q01_Cmp.C n) (q01_Cmp.A n) n q01_Cmp.b0) m) t.1 t.2.1 t.2.2).trans (congrFun (congrFun (congrFun (congrArg (q01_Cmp.l2_0.r (fun a0 => ((Prod.mk .ret (St.mk [(.int .i64 a0)] [])) : Ex × St)) ((Prod.mk (.exit 0) (St.mk [.any] [])) : Ex × St) n) (funext fun y0 => funext fun y1 => funext fun y2 => ih (y0, y1, y2))) t.1) t.2.1) t.2.2)
theorem q01_Cmp.l2_0.loop (n m : Nat) (t : (Int × ((List Int) × (List Int)))) : loopOf (roundOf (q01_Cmp.C n) (q01_Cmp.A n) n q01_Cmp.b0) m (q01_Cmp.l2_0.shape t) = (q01_Cmp.l2_0.m n m t).map q01_Cmp.l2_0.res :=
  (q01_Cmp.l2_0.loop' n m t).trans (q01_Cmp.l2_0.gmap q01_Cmp.l2_0.res (fun a0 => (.inl a0)) (.inr ()) n m t.1 t.2.1 t.2.2)
theorem q01_Cmp.gmap {α β : Type} (h : β → α) (mk0 : Int → β) (n : Nat) (a0 : (List Int)) (a1 : (List Int)) : q01_Cmp.g (fun a0 => (h (mk0 a0))) n a0 a1 = (q01_Cmp.g mk0 n a0 a1).map h := by
  unfold q01_Cmp.g
  exact (bindO_map fun r2 => match r2 with | (.inl r2) => rfl | (.inr r2) => rfl)
theorem q01_Cmp.run (n : Nat) (a0 : (List Int)) (a1 : (List Int)) : runF (q01_Cmp.C n) (q01_Cmp.A n) n Try.f74 [(.ints .u64 4 a0), (.ints .u64 4 a1)] [] (fun v o => some (v, o)) = q01_Cmp.g (fun a0 => ((Prod.mk (.int .i64 a0) []) : AV × Blks)) n a0 a1 := by kernel_rfl
theorem q01_Cmp.call (hmix : Try.prog.follows .mixedOrders = true) (n : Nat) (t : ((List Int) × (List Int))) (u) (h : q01_Cmp.m n t = some u) : FnC Try.prog (fun _ => .any) 74 (q01_Cmp.shape t).1 (q01_Cmp.shape t).2 (q01_Cmp.res u).1 (q01_Cmp.res u).2 := by
  have hg : ∀ f m, (q01_Cmp.C n).Γ f = some m → CalleeS Try.prog (fun _ => .any) f m := by
    intro f m hm
    unfold q01_Cmp.C at hm
    simp only at hm
    first
    | (cases hm; done)
    | (split at hm <;> first
    | (cases hm; done))
  have hb : Try.f74.body = some (Try.f74.body.getD .skip) := by kernel_rfl
  refine runF_calls (C := q01_Cmp.C n) (A := q01_Cmp.A n) (n := n) (fn := Try.f74) hg hmix Try.func74 hb ?_ ?_ (by decide) rfl rfl (by show 2 ≤ Try.f74.ntmps; decide) ?_
  · rw [show loopsIn (Try.f74.body.getD .skip) = [q01_Cmp.b0] by kernel_rfl]
    intro b hb m hm
    simp only [List.mem_cons, List.not_mem_nil, or_false] at hb
    rcases hb with rfl
    · have e : (q01_Cmp.A n).loop (key q01_Cmp.b0) = some (.mk' q01_Cmp.l2_0.pat (q01_Cmp.l2_0.m n n) q01_Cmp.l2_0.resK) := by rw [show key q01_Cmp.b0 = 2 by kernel_rfl]; rfl
      rw [e] at hm
      cases hm
      exact LoopS.of (res := q01_Cmp.l2_0.res) (fun R u K => by rcases u with u | u <;> rfl) q01_Cmp.l2_0.pat_shape fun t => q01_Cmp.l2_0.loop n n t
  · intro a ha m hm
    cases (show none = some m from hm)
  · rw [show runF (q01_Cmp.C n) (q01_Cmp.A n) n Try.f74 (q01_Cmp.shape t).1 (q01_Cmp.shape t).2 (fun v o => some (v, o)) = _ from q01_Cmp.run n t.1 t.2]
    have e := q01_Cmp.gmap q01_Cmp.res (fun a0 => a0) n t.1 t.2
    unfold q01_Cmp.m at h
    rw [h] at e
    exact e
theorem q01_Cmp.s (hmix : Try.prog.follows .mixedOrders = true) (n : Nat) : CalleeS Try.prog (fun _ => .any) 74 (q01_Cmp.c n) :=
  CalleeS.of (res := q01_Cmp.res) (shape := q01_Cmp.shape) (fun R u K => rfl) (fun args lent t h => by
    unfold q01_Cmp.pat at h
    split at h
    · cases h; rfl
    · cases h) fun t u h => (q01_Cmp.call hmix n t u h).ok Try.func74 (by decide) (by kernel_rfl)
end
section
noncomputable section
noncomputable def bits_Mul64.C (n : Nat) : Ctx := ⟨Try.prog, (fun _ => .any), fun f => match f with
 | _ => none⟩
def bits_Mul64.live : Nat → List Nat × List Nat := fun k => match k with
 | _ => ([], [])
def bits_Mul64.jlive : Nat → List Nat × List Nat := fun k => match k with
 | _ => ([], [])
noncomputable def bits_Mul64.A (n : Nat) : Ann := ⟨Try.f127.ntmps, 0, bits_Mul64.live, [], [none, none], fun k => match k with
 | _ => none, bits_Mul64.jlive, lookJ []⟩
def bits_Mul64.g {α : Type} (mk0 : Int → Int → α) (n : Nat) (a0 : Int) (a1 : Int) : Option α :=
 some (mk0 (IntKind.wrap .u64 ((IntKind.wrap .u64 ((IntKind.wrap .u64 ((ishr .u64 a0 32) * (ishr .u64 a1 32))) + (ishr .u64 (IntKind.wrap .u64 ((IntKind.wrap .u64 ((ishr .u64 a0 32) * (ibits BinOp.and .u64 a1 4294967295))) + (ishr .u64 (IntKind.wrap .u64 ((ibits BinOp.and .u64 a0 4294967295) * (ibits BinOp.and .u64 a1 4294967295))) 32))) 32))) + (ishr .u64 (IntKind.wrap .u64 ((ibits BinOp.and .u64 (IntKind.wrap .u64 ((IntKind.wrap .u64 ((ishr .u64 a0 32) * (ibits BinOp.and .u64 a1 4294967295))) + (ishr .u64 (IntKind.wrap .u64 ((ibits BinOp.and .u64 a0 4294967295) * (ibits BinOp.and .u64 a1 4294967295))) 32))) 4294967295) + (IntKind.wrap .u64 ((ibits BinOp.and .u64 a0 4294967295) * (ishr .u64 a1 32))))) 32))) (IntKind.wrap .u64 (a0 * a1)))
def bits_Mul64.m (n : Nat) (t : (Int × Int)) : Option (Int × Int) := bits_Mul64.g (fun a0 a1 => (a0, a1)) n t.1 t.2
def bits_Mul64.pat : List AV → Blks → Option (Int × Int)
 | [(.int .u64 a0), (.int .u64 a1)], [] => some (a0, a1)
 | _, _ => none
def bits_Mul64.shape (t : (Int × Int)) : List AV × Blks := ([(.int .u64 t.1), (.int .u64 t.2)], [])
def bits_Mul64.res : (Int × Int) → AV × Blks
 | u => (Prod.mk (.tup [(.int .u64 u.1), (.int .u64 u.2)]) [])
def bits_Mul64.resK {R : Type} (u : (Int × Int)) (K : AV → Blks → Option R) : Option R := (fun p : AV × Blks => K p.1 p.2) (Prod.mk (.tup [(.int .u64 u.1), (.int .u64 u.2)]) [])
def bits_Mul64.c (n : Nat) : Abs.Callee := .mk' [] [none, none] bits_Mul64.pat (bits_Mul64.m n) bits_Mul64.resK
end
end
section
theorem bits_Mul64.gmap {α β : Type} (h : β → α) (mk0 : Int → Int → β) (n : Nat) (a0 : Int) (a1 : Int) : bits_Mul64.g (fun a0 a1 => (h (mk0 a0 a1))) n a0 a1 = (bits_Mul64.g mk0 n a0 a1).map h := by
  unfold bits_Mul64.g
  exact rfl
theorem bits_Mul64.run (n : Nat) (a0 : Int) (a1 : Int) : runF (bits_Mul64.C n) (bits_Mul64.A n) n Try.f127 [(.int .u64 a0), (.int .u64 a1)] [] (fun v o => some (v, o)) = bits_Mul64.g (fun a0 a1 => ((Prod.mk (.tup [(.int .u64 a0), (.int .u64 a1)]) []) : AV × Blks)) n a0 a1 := by kernel_rfl
theorem bits_Mul64.call (hmix : Try.prog.follows .mixedOrders = true) (n : Nat) (t : (Int × Int)) (u) (h : bits_Mul64.m n t = some u) : FnC Try.prog (fun _ => .any) 127 (bits_Mul64.shape t).1 (bits_Mul64.shape t).2 (bits_Mul64.res u).1 (bits_Mul64.res u).2 := by
  have hg : ∀ f m, (bits_Mul64.C n).Γ f = some m → CalleeS Try.prog (fun _ => .any) f m := by
    intro f m hm
    unfold bits_Mul64.C at hm
    simp only at hm
    first
    | (cases hm; done)
    | (split at hm <;> first
    | (cases hm; done))
  have hb : Try.f127.body = some (Try.f127.body.getD .skip) := by kernel_rfl
  refine runF_calls (C := bits_Mul64.C n) (A := bits_Mul64.A n) (n := n) (fn := Try.f127) hg hmix Try.func127 hb ?_ ?_ (by decide) rfl rfl (by show 2 ≤ Try.f127.ntmps; decide) ?_
  · rw [show loopsIn (Try.f127.body.getD .skip) = [] by kernel_rfl]
    intro b hb
    cases hb
  · intro a ha m hm
    cases (show none = some m from hm)
  · rw [show runF (bits_Mul64.C n) (bits_Mul64.A n) n Try.f127 (bits_Mul64.shape t).1 (bits_Mul64.shape t).2 (fun v o => some (v, o)) = _ from bits_Mul64.run n t.1 t.2]
    have e := bits_Mul64.gmap bits_Mul64.res (fun a0 a1 => (a0, a1)) n t.1 t.2
    unfold bits_Mul64.m at h
    rw [h] at e
    exact e
theorem bits_Mul64.s (hmix : Try.prog.follows .mixedOrders = true) (n : Nat) : CalleeS Try.prog (fun _ => .any) 127 (bits_Mul64.c n) :=
  CalleeS.of (res := bits_Mul64.res) (shape := bits_Mul64.shape) (fun R u K => rfl) (fun args lent t h => by
    unfold bits_Mul64.pat at h
    split at h
    · cases h; rfl
    · cases h) fun t u h => (bits_Mul64.call hmix n t u h).ok Try.func127 (by decide) (by kernel_rfl)
end
section
noncomputable section
noncomputable def word_product.C (n : Nat) : Ctx := ⟨Try.prog, (fun _ => .any), fun f => match f with
 | 127 => some (bits_Mul64.c n)
 | 111 => some (bits_Add64.c n)
 | _ => none⟩
def word_product.live : Nat → List Nat × List Nat := fun k => match k with
 | 3 => ([12, 2, 3, 5, 4], [5, 4])
 | 7 => ([15, 6, 2, 3, 7, 5, 12, 4], [6, 7, 5, 12, 2, 3, 4])
 | _ => ([], [])
def word_product.jlive : Nat → List Nat × List Nat := fun k => match k with
 | _ => ([], [])
def word_product.l7_0.r {α : Type} (mk0 : Int → Int → Int → (List Int) → (List Int) → (List Int) → (List Int) → α) (n : Nat) (rc : Int → Int → Int → Int → (List Int) → (List Int) → (List Int) → (List Int) → Option α)  (x0 : Int) (x1 : Int) (x2 : Int) (x3 : Int) (x4 : (List Int)) (x5 : (List Int)) (x6 : (List Int)) (x7 : (List Int)) : Option α :=
  if (decide (x0 < 4)) = true then
   if 0 ≤ x1 then
    if x1 < 4 then
     if 0 ≤ x0 then
      if x0 < 4 then
       bindO (bits_Mul64.m n (Prod.mk (List.getD x4 (Int.toNat x1) 0) (List.getD x5 (Int.toNat x0) 0))) fun r14 =>
        bindO (bits_Add64.m n (Prod.mk (Prod.snd r14) (Prod.mk x2 0))) fun r16 =>
         if 0 ≤ (IntKind.wrap .i64 (x1 + x0)) then
          if (IntKind.wrap .i64 (x1 + x0)) < 8 then
           bindO (bits_Add64.m n (Prod.mk (List.getD x6 (Int.toNat (IntKind.wrap .i64 (x1 + x0))) 0) (Prod.mk (Prod.fst r16) 0))) fun r22 =>
            if 0 ≤ (IntKind.wrap .i64 (x1 + x0)) then
             if (IntKind.wrap .i64 (x1 + x0)) < 8 then
              rc (IntKind.wrap .i64 (x0 + 1)) x1 (IntKind.wrap .u64 ((IntKind.wrap .u64 ((Prod.fst r14) + (Prod.snd r16))) + (Prod.snd r22))) x3 x4 x5 (List.set x6 (Int.toNat (IntKind.wrap .i64 (x1 + x0))) (Prod.fst r22)) x7
             else
              none
            else
             none
          else
           none
         else
          none
      else
       none
     else
      none
    else
     none
   else
    none
  else
   some (mk0 x1 x2 x3 x6 x4 x5 x7)
def word_product.l7_0.g {α : Type} (mk0 : Int → Int → Int → (List Int) → (List Int) → (List Int) → (List Int) → α) (n : Nat) : Nat → Int → Int → Int → Int → (List Int) → (List Int) → (List Int) → (List Int) → Option α
 | 0, _, _, _, _, _, _, _, _ => none
 | m + 1, x0, x1, x2, x3, x4, x5, x6, x7 => word_product.l7_0.r mk0 n (fun y0 y1 y2 y3 y4 y5 y6 y7 => word_product.l7_0.g mk0 n m y0 y1 y2 y3 y4 y5 y6 y7)  x0 x1 x2 x3 x4 x5 x6 x7
def word_product.l7_0.m (n m : Nat) (t : (Int × (Int × (Int × (Int × ((List Int) × ((List Int) × ((List Int) × (List Int))))))))) : Option (Int × (Int × (Int × ((List Int) × ((List Int) × ((List Int) × (List Int))))))) := word_product.l7_0.g (fun a0 a1 a2 a3 a4 a5 a6 => (a0, a1, a2, a3, a4, a5, a6)) n m t.1 t.2.1 t.2.2.1 t.2.2.2.1 t.2.2.2.2.1 t.2.2.2.2.2.1 t.2.2.2.2.2.2.1 t.2.2.2.2.2.2.2
def word_product.l7_0.pat : St → Option (Int × (Int × (Int × (Int × ((List Int) × ((List Int) × ((List Int) × (List Int))))))))
 | (St.mk [(.int .i64 x0), (.int .i64 x1), (.ptr 0 []), (.ptr 1 []), (.int .u64 x2), (.ptr 2 []), (.int .i64 x3), (.ptr 3 [])] [(some (.var (.ints .u64 4 x4))), (some (.var (.ints .u64 4 x5))), (some (.var (.ints .u64 8 x6))), (some (.var (.ints .u64 8 x7)))]) => some (x0, x1, x2, x3, x4, x5, x6, x7)
 | _ => none
def word_product.l7_0.shape (t : (Int × (Int × (Int × (Int × ((List Int) × ((List Int) × ((List Int) × (List Int))))))))) : St := (St.mk [(.int .i64 t.1), (.int .i64 t.2.1), (.ptr 0 []), (.ptr 1 []), (.int .u64 t.2.2.1), (.ptr 2 []), (.int .i64 t.2.2.2.1), (.ptr 3 [])] [(some (.var (.ints .u64 4 t.2.2.2.2.1))), (some (.var (.ints .u64 4 t.2.2.2.2.2.1))), (some (.var (.ints .u64 8 t.2.2.2.2.2.2.1))), (some (.var (.ints .u64 8 t.2.2.2.2.2.2.2)))])
def word_product.l7_0.res : (Int × (Int × (Int × ((List Int) × ((List Int) × ((List Int) × (List Int))))))) → Ex × St
 | u => (Prod.mk (.exit 2) (St.mk [(.int .i64 u.1), (.int .u64 u.2.1), (.ptr 0 []), (.int .i64 u.2.2.1), (.ptr 1 []), (.ptr 2 []), (.ptr 3 [])] [(some (.var (.ints .u64 8 u.2.2.2.1))), (some (.var (.ints .u64 4 u.2.2.2.2.1))), (some (.var (.ints .u64 4 u.2.2.2.2.2.1))), (some (.var (.ints .u64 8 u.2.2.2.2.2.2)))]))
def word_product.l7_0.resK {R : Type} (u : (Int × (Int × (Int × ((List Int) × ((List Int) × ((List Int) × (List Int)))))))) (K : Ex → St → Option R) : Option R := (fun p : Ex × St => K p.1 p.2) (Prod.mk (.exit 2) (St.mk [(.int .i64 u.1), (.int .u64 u.2.1), (.ptr 0 []), (.int .i64 u.2.2.1), (.ptr 1 []), (.ptr 2 []), (.ptr 3 [])] [(some (.var (.ints .u64 8 u.2.2.2.1))), (some (.var (.ints .u64 4 u.2.2.2.2.1))), (some (.var (.ints .u64 4 u.2.2.2.2.2.1))), (some (.var (.ints .u64 8 u.2.2.2.2.2.2)))]))
def word_product.l3_0.r {α : Type} (mk0 : (List Int) → (List Int) → α) (n : Nat) (rc : Int → (List Int) → (List Int) → (List Int) → (List Int) → Option α)  (x0 : Int) (x1 : (List Int)) (x2 : (List Int)) (x3 : (List Int)) (x4 : (List Int)) : Option α :=
  if (decide (x0 < 4)) = true then
   bindO (word_product.l7_0.m n n (0, x0, 0, x0, x1, x2, x3, x4)) fun r6 =>
    if 0 ≤ (IntKind.wrap .i64 ((Prod.fst r6) + 4)) then
     if (IntKind.wrap .i64 ((Prod.fst r6) + 4)) < 8 then
      rc (IntKind.wrap .i64 ((Prod.fst (Prod.snd (Prod.snd r6))) + 1)) (Prod.fst (Prod.snd (Prod.snd (Prod.snd (Prod.snd r6))))) (Prod.fst (Prod.snd (Prod.snd (Prod.snd (Prod.snd (Prod.snd r6)))))) (List.set (Prod.fst (Prod.snd (Prod.snd (Prod.snd r6)))) (Int.toNat (IntKind.wrap .i64 ((Prod.fst r6) + 4))) (Prod.fst (Prod.snd r6))) (Prod.snd (Prod.snd (Prod.snd (Prod.snd (Prod.snd (Prod.snd r6))))))
     else
      none
    else
     none
  else
   some (mk0 x3 x4)
def word_product.l3_0.g {α : Type} (mk0 : (List Int) → (List Int) → α) (n : Nat) : Nat → Int → (List Int) → (List Int) → (List Int) → (List Int) → Option α
 | 0, _, _, _, _, _ => none
 | m + 1, x0, x1, x2, x3, x4 => word_product.l3_0.r mk0 n (fun y0 y1 y2 y3 y4 => word_product.l3_0.g mk0 n m y0 y1 y2 y3 y4)  x0 x1 x2 x3 x4
def word_product.l3_0.m (n m : Nat) (t : (Int × ((List Int) × ((List Int) × ((List Int) × (List Int)))))) : Option ((List Int) × (List Int)) := word_product.l3_0.g (fun a0 a1 => (a0, a1)) n m t.1 t.2.1 t.2.2.1 t.2.2.2.1 t.2.2.2.2
def word_product.l3_0.pat : St → Option (Int × ((List Int) × ((List Int) × ((List Int) × (List Int)))))
 | (St.mk [(.int .i64 x0), (.ptr 0 []), (.ptr 1 []), (.ptr 2 []), (.ptr 3 [])] [(some (.var (.ints .u64 4 x1))), (some (.var (.ints .u64 4 x2))), (some (.var (.ints .u64 8 x3))), (some (.var (.ints .u64 8 x4)))]) => some (x0, x1, x2, x3, x4)
 | _ => none
def word_product.l3_0.shape (t : (Int × ((List Int) × ((List Int) × ((List Int) × (List Int)))))) : St := (St.mk [(.int .i64 t.1), (.ptr 0 []), (.ptr 1 []), (.ptr 2 []), (.ptr 3 [])] [(some (.var (.ints .u64 4 t.2.1))), (some (.var (.ints .u64 4 t.2.2.1))), (some (.var (.ints .u64 8 t.2.2.2.1))), (some (.var (.ints .u64 8 t.2.2.2.2)))])
def word_product.l3_0.res : ((List Int) × (List Int)) → Ex × St
 | u => (Prod.mk (.exit 0) (St.mk [(.ptr 0 []), (.ptr 1 [])] [(some (.var (.ints .u64 8 u.1))), (some (.var (.ints .u64 8 u.2)))]))
def word_product.l3_0.resK {R : Type} (u : ((List Int) × (List Int))) (K : Ex → St → Option R) : Option R := (fun p : Ex × St => K p.1 p.2) (Prod.mk (.exit 0) (St.mk [(.ptr 0 []), (.ptr 1 [])] [(some (.var (.ints .u64 8 u.1))), (some (.var (.ints .u64 8 u.2)))]))
noncomputable def word_product.A (n : Nat) : Ann := ⟨Try.f112.ntmps, 0, word_product.live, [], [none], fun k => match k with
 | 7 => some (.mk' word_product.l7_0.pat (word_product.l7_0.m n n) word_product.l7_0.resK)
 | 3 => some (.mk' word_product.l3_0.pat (word_product.l3_0.m n n) word_product.l3_0.resK)
 | _ => none, word_product.jlive, lookJ []⟩
noncomputable def word_product.b0 : Code := (loopsIn (Try.f112.body.getD .skip)).getD 0 .skip
noncomputable def word_product.b1 : Code := (loopsIn (Try.f112.body.getD .skip)).getD 1 .skip
def word_product.g {α : Type} (mk0 : (List Int) → α) (n : Nat) (a0 : (List Int)) (a1 : (List Int)) : Option α :=
 bindO (word_product.l3_0.m n n (0, a0, a1, ([0, 0, 0, 0, 0, 0, 0, 0] : List Int), ([0, 0, 0, 0, 0, 0, 0, 0] : List Int))) fun r2 =>
  some (mk0 (Prod.fst r2))
def word_product.m (n : Nat) (t : ((List Int) × (List Int))) : Option (List Int) := word_product.g (fun a0 => a0) n t.1 t.2
def word_product.pat : List AV → Blks → Option ((List Int) × (List Int))
 | [(.ints .u64 4 a0), (.ints .u64 4 a1)], [] => some (a0, a1)
 | _, _ => none
def word_product.shape (t : ((List Int) × (List Int))) : List AV × Blks := ([(.ints .u64 4 t.1), (.ints .u64 4 t.2)], [])
def word_product.res : (List Int) → AV × Blks
 | u => (Prod.mk (.ints .u64 8 u) [])
def word_product.resK {R : Type} (u : (List Int)) (K : AV → Blks → Option R) : Option R := (fun p : AV × Blks => K p.1 p.2) (Prod.mk (.ints .u64 8 u) [])
def word_product.c (n : Nat) : Abs.Callee := .mk' [] [none, none] word_product.pat (word_product.m n) word_product.resK
end
end
section
theorem word_product.l7_0.rmap {α β : Type} (h : β → α) (mk0 : Int → Int → Int → (List Int) → (List Int) → (List Int) → (List Int) → β) (n : Nat) (f : Int → Int → Int → Int → (List Int) → (List Int) → (List Int) → (List Int) → Option β)  (x0 : Int) (x1 : Int) (x2 : Int) (x3 : Int) (x4 : (List Int)) (x5 : (List Int)) (x6 : (List Int)) (x7 : (List Int)) : word_product.l7_0.r (fun a0 a1 a2 a3 a4 a5 a6 => (h (mk0 a0 a1 a2 a3 a4 a5 a6))) n (fun y0 y1 y2 y3 y4 y5 y6 y7 => (f y0 y1 y2 y3 y4 y5 y6 y7).map h) x0 x1 x2 x3 x4 x5 x6 x7 = (word_product.l7_0.r mk0 n f x0 x1 x2 x3 x4 x5 x6 x7).map h := by
  unfold word_product.l7_0.r
  exact (ite_map (ite_map (ite_map (ite_map (ite_map (bindO_map fun r14 => (bindO_map fun r16 => (ite_map (ite_map (bindO_map fun r22 => (ite_map (ite_map rfl rfl) rfl)) rfl) rfl))) rfl) rfl) rfl) rfl) rfl)
theorem word_product.l7_0.gmap {α β : Type} (h : β → α) (mk0 : Int → Int → Int → (List Int) → (List Int) → (List Int) → (List Int) → β) (n : Nat) : ∀ (m : Nat) (x0 : Int) (x1 : Int) (x2 : Int) (x3 : Int) (x4 : (List Int)) (x5 : (List Int)) (x6 : (List Int)) (x7 : (List Int)), word_product.l7_0.g (fun a0 a1 a2 a3 a4 a5 a6 => (h (mk0 a0 a1 a2 a3 a4 a5 a6))) n m x0 x1 x2 x3 x4 x5 x6 x7 = (word_product.l7_0.g mk0 n m x0 x1 x2 x3 x4 x5 x6 x7).map h
  | 0, _, _, _, _, _, _, _, _ => rfl
  | m + 1, x0, x1, x2, x3, x4, x5, x6, x7 => by
    unfold word_product.l7_0.g
    rw [← word_product.l7_0.rmap]
    congr
    · funext y0 y1 y2 y3 y4 y5 y6 y7; exact word_product.l7_0.gmap h mk0 n m y0 y1 y2 y3 y4 y5 y6 y7
theorem word_product.l7_0.pat_shape : ∀ st t, word_product.l7_0.pat st = some t → st = word_product.l7_0.shape t := by
  intro st t h
  unfold word_product.l7_0.pat at h
  split at h
  · cases h; rfl
  · cases h
theorem word_product.l7_0.round (n : Nat) (rc : St → Option (Ex × St)) (x0 : Int) (x1 : Int) (x2 : Int) (x3 : Int) (x4 : (List Int)) (x5 : (List Int)) (x6 : (List Int)) (x7 : (List Int)) : roundOf (word_product.C n) (word_product.A n) n word_product.b1 rc ((St.mk [(.int .i64 x0), (.int .i64 x1), (.ptr 0 []), (.ptr 1 []), (.int .u64 x2), (.ptr 2 []), (.int .i64 x3), (.ptr 3 [])] [(some (.var (.ints .u64 4 x4))), (some (.var (.ints .u64 4 x5))), (some (.var (.ints .u64 8 x6))), (some (.var (.ints .u64 8 x7)))])) = word_product.l7_0.r (fun a0 a1 a2 a3 a4 a5 a6 => ((Prod.mk (.exit 2) (St.mk [(.int .i64 a0), (.int .u64 a1), (.ptr 0 []), (.int .i64 a2), (.ptr 1 []), (.ptr 2 []), (.ptr 3 [])] [(some (.var (.ints .u64 8 a3))), (some (.var (.ints .u64 4 a4))), (some (.var (.ints .u64 4 a5))), (some (.var (.ints .u64 8 a6)))])) : Ex × St)) n (fun y0 y1 y2 y3 y4 y5 y6 y7 => rc ((St.mk [(.int .i64 y0), (.int .i64 y1), (.ptr 0 []), (.ptr 1 []), (.int .u64 y2), (.ptr 2 []), (.int .i64 y3), (.ptr 3 [])] [(some (.var (.ints .u64 4 y4))), (some (.var (.ints .u64 4 y5))), (some (.var (.ints .u64 8 y6))), (some (.var (.ints .u64 8 y7)))]))) x0 x1 x2 x3 x4 x5 x6 x7 := by kernel_rfl
theorem word_product.l7_0.loop' (n : Nat) : ∀ (m : Nat) (t : (Int × (Int × (Int × (Int × ((List Int) × ((List Int) × ((List Int) × (List Int))))))))), loopOf (roundOf (word_product.C n) (word_product.A n) n word_product.b1) m (word_product.l7_0.shape t) = word_product.l7_0.g (fun a0 a1 a2 a3 a4 a5 a6 => ((Prod.mk (.exit 2) (St.mk [(.int .i64 a0), (.int .u64 a1), (.ptr 0 []), (.int .i64 a2), (.ptr 1 []), (.ptr 2 []), (.ptr 3 [])] [(some (.var (.ints .u64 8 a3))), (some (.var (.ints .u64 4 a4))), (some (.var (.ints .u64 4 a5))), (some (.var (.ints .u64 8 a6)))])) : Ex × St)) n m t.1 t.2.1 t.2.2.1 t.2.2.2.1 t.2.2.2.2.1 t.2.2.2.2.2.1 t.2.2.2.2.2.2.1 t.2.2.2.2.2.2.2 :=
  loop_of_round (shape := word_product.l7_0.shape) (body := roundOf (word_product.C n) (word_product.A n) n word_product.b1) (g := fun m t => word_product.l7_0.g (fun a0 a1 a2 a3 a4 a5 a6 => ((Prod.mk (.exit 2) (St.mk [(.int .i64 a0), (.int .u64 a1), (.ptr 0 []), (.int .i64 a2), (.ptr 1 []), (.ptr 2 []), (.ptr 3 [])] [(some (.var (.ints .u64 8 a3))), (some (.var (.ints .u64 4 a4))), (some (.var (.ints .u64 4 a5))), (some (.var (.ints .u64 8 a6)))])) : Ex × St)) n m t.1 t.2.1 t.2.2.1 t.2.2.2.1 t.2.2.2.2.1 t.2.2.2.2.2.1 t.2.2.2.2.2.2.1 t.2.2.2.2.2.2.2) (fun t => rfl)
    fun m t ih => (word_product.l7_0.round n (loopOf (roundOf (word_product.C n) (word_product.A n) n word_product.b1) m) t.1 t.2.1 t.2.2.1 t.2.2.2.1 t.2.2.2.2.1 t.2.2.2.2.2.1 t.2.2.2.2.2.2.1 t.2.2.2.2.2.2.2).trans (congrFun (congrFun (congrFun (congrFun (congrFun (congrFun (congrFun (congrFun (congrArg (word_product.l7_0.r (fun a0 a1 a2 a3 a4 a5 a6 => ((Prod.mk (.exit 2) (St.mk [(.int .i64 a0), (.int .u64 a1), (.ptr 0 []), (.int .i64 a2), (.ptr 1 []), (.ptr 2 []), (.ptr 3 [])] [(some (.var (.ints .u64 8 a3))), (some (.var (.ints .u64 4 a4))), (some (.var (.ints .u64 4 a5))), (some (.var (.ints .u64 8 a6)))])) : Ex × St)) n) (funext fun y0 => funext fun y1 => funext fun y2 => funext fun y3 => funext fun y4 => funext fun y5 => funext fun y6 => funext fun y7 => ih (y0, y1, y2, y3, y4, y5, y6, y7))) t.1) t.2.1) t.2.2.1) t.2.2.2.1) t.2.2.2.2.1) t.2.2.2.2.2.1) t.2.2.2.2.2.2.1) t.2.2.2.2.2.2.2)
theorem word_product.l7_0.loop (n m : Nat) (t : (Int × (Int × (Int × (Int × ((List Int) × ((List Int) × ((List Int) × (List Int))))))))) : loopOf (roundOf (word_product.C n) (word_product.A n) n word_product.b1) m (word_product.l7_0.shape t) = (word_product.l7_0.m n m t).map word_product.l7_0.res :=
  (word_product.l7_0.loop' n m t).trans (word_product.l7_0.gmap word_product.l7_0.res (fun a0 a1 a2 a3 a4 a5 a6 => (a0, a1, a2, a3, a4, a5, a6)) n m t.1 t.2.1 t.2.2.1 t.2.2.2.1 t.2.2.2.2.1 t.2.2.2.2.2.1 t.2.2.2.2.2.2.1 t.2.2.2.2.2.2.2)
theorem word_product.l3_0.rmap {α β : Type} (h : β → α) (mk0 : (List Int) → (List Int) → β) (n : Nat) (f : Int → (List Int) → (List Int) → (List Int) → (List Int) → Option β)  (x0 : Int) (x1 : (List Int)) (x2 : (List Int)) (x3 : (List Int)) (x4 : (List Int)) : word_product.l3_0.r (fun a0 a1 => (h (mk0 a0 a1))) n (fun y0 y1 y2 y3 y4 => (f y0 y1 y2 y3 y4).map h) x0 x1 x2 x3 x4 = (word_product.l3_0.r mk0 n f x0 x1 x2 x3 x4).map h := by
  unfold word_product.l3_0.r
  exact (ite_map (bindO_map fun r6 => (ite_map (ite_map rfl rfl) rfl)) rfl)
theorem word_product.l3_0.gmap {α β : Type} (h : β → α) (mk0 : (List Int) → (List Int) → β) (n : Nat) : ∀ (m : Nat) (x0 : Int) (x1 : (List Int)) (x2 : (List Int)) (x3 : (List Int)) (x4 : (List Int)), word_product.l3_0.g (fun a0 a1 => (h (mk0 a0 a1))) n m x0 x1 x2 x3 x4 = (word_product.l3_0.g mk0 n m x0 x1 x2 x3 x4).map h
  | 0, _, _, _, _, _ => rfl
  | m + 1, x0, x1, x2, x3, x4 => by
    unfold word_product.l3_0.g
    rw [← word_product.l3_0.rmap]
    congr
    · funext y0 y1 y2 y3 y4; exact word_product.l3_0.gmap h mk0 n m y0 y1 y2 y3 y4
theorem word_product.l3_0.pat_shape : ∀ st t, word_product.l3_0.pat st = some t → st = word_product.l3_0.shape t := by
  intro st t h
  unfold word_product.l3_0.pat at h
  split at h
  · cases h; rfl
  · cases h
theorem word_product.l3_0.round (n : Nat) (rc : St → Option (Ex × St)) (x0 : Int) (x1 : (List Int)) (x2 : (List Int)) (x3 : (List Int)) (x4 : (List Int)) : roundOf (word_product.C n) (word_product.A n) n word_product.b0 rc ((St.mk [(.int .i64 x0), (.ptr 0 []), (.ptr 1 []), (.ptr 2 []), (.ptr 3 [])] [(some (.var (.ints .u64 4 x1))), (some (.var (.ints .u64 4 x2))), (some (.var (.ints .u64 8 x3))), (some (.var (.ints .u64 8 x4)))])) = word_product.l3_0.r (fun a0 a1 => ((Prod.mk (.exit 0) (St.mk [(.ptr 0 []), (.ptr 1 [])] [(some (.var (.ints .u64 8 a0))), (some (.var (.ints .u64 8 a1)))])) : Ex × St)) n (fun y0 y1 y2 y3 y4 => rc ((St.mk [(.int .i64 y0), (.ptr 0 []), (.ptr 1 []), (.ptr 2 []), (.ptr 3 [])] [(some (.var (.ints .u64 4 y1))), (some (.var (.ints .u64 4 y2))), (some (.var (.ints .u64 8 y3))), (some (.var (.ints .u64 8 y4)))]))) x0 x1 x2 x3 x4 := by kernel_rfl
theorem word_product.l3_0.loop' (n : Nat) : ∀ (m : Nat) (t : (Int × ((List Int) × ((List Int) × ((List Int) × (List Int)))))), loopOf (roundOf (word_product.C n) (word_product.A n) n word_product.b0) m (word_product.l3_0.shape t) = word_product.l3_0.g (fun a0 a1 => ((Prod.mk (.exit 0) (St.mk [(.ptr 0 []), (.ptr 1 [])] [(some (.var (.ints .u64 8 a0))), (some (.var (.ints .u64 8 a1)))])) : Ex × St)) n m t.1 t.2.1 t.2.2.1 t.2.2.2.1 t.2.2.2.2 :=
  loop_of_round (shape := word_product.l3_0.shape) (body := roundOf (word_product.C n) (word_product.A n) n word_product.b0) (g := fun m t => word_product.l3_0.g (fun a0 a1 => ((Prod.mk (.exit 0) (St.mk [(.ptr 0 []), (.ptr 1 [])] [(some (.var (.ints .u64 8 a0))), (some (.var (.ints .u64 8 a1)))])) : Ex × St)) n m t.1 t.2.1 t.2.2.1 t.2.2.2.1 t.2.2.2.2) (fun t => rfl)
    fun m t ih => (word_product.l3_0.round n (loopOf (roundOf (word_product.C n) (word_product.A n) n word_product.b0) m) t.1 t.2.1 t.2.2.1 t.2.2.2.1 t.2.2.2.2).trans (congrFun (congrFun (congrFun (congrFun (congrFun (congrArg (word_product.l3_0.r (fun a0 a1 => ((Prod.mk (.exit 0) (St.mk [(.ptr 0 []), (.ptr 1 [])] [(some (.var (.ints .u64 8 a0))), (some (.var (.ints .u64 8 a1)))])) : Ex × St)) n) (funext fun y0 => funext fun y1 => funext fun y2 => funext fun y3 => funext fun y4 => ih (y0, y1, y2, y3, y4))) t.1) t.2.1) t.2.2.1) t.2.2.2.1) t.2.2.2.2)
theorem word_product.l3_0.loop (n m : Nat) (t : (Int × ((List Int) × ((List Int) × ((List Int) × (List Int)))))) : loopOf (roundOf (word_product.C n) (word_product.A n) n word_product.b0) m (word_product.l3_0.shape t) = (word_product.l3_0.m n m t).map word_product.l3_0.res :=
  (word_product.l3_0.loop' n m t).trans (word_product.l3_0.gmap word_product.l3_0.res (fun a0 a1 => (a0, a1)) n m t.1 t.2.1 t.2.2.1 t.2.2.2.1 t.2.2.2.2)
theorem word_product.gmap {α β : Type} (h : β → α) (mk0 : (List Int) → β) (n : Nat) (a0 : (List Int)) (a1 : (List Int)) : word_product.g (fun a0 => (h (mk0 a0))) n a0 a1 = (word_product.g mk0 n a0 a1).map h := by
  unfold word_product.g
  exact (bindO_map fun r2 => rfl)
theorem word_product.run (n : Nat) (a0 : (List Int)) (a1 : (List Int)) : runF (word_product.C n) (word_product.A n) n Try.f112 [(.ints .u64 4 a0), (.ints .u64 4 a1)] [] (fun v o => some (v, o)) = word_product.g (fun a0 => ((Prod.mk (.ints .u64 8 a0) []) : AV × Blks)) n a0 a1 := by kernel_rfl
theorem word_product.call (hmix : Try.prog.follows .mixedOrders = true) (n : Nat) (t : ((List Int) × (List Int))) (u) (h : word_product.m n t = some u) : FnC Try.prog (fun _ => .any) 112 (word_product.shape t).1 (word_product.shape t).2 (word_product.res u).1 (word_product.res u).2 := by
  have hg : ∀ f m, (word_product.C n).Γ f = some m → CalleeS Try.prog (fun _ => .any) f m := by
    intro f m hm
    unfold word_product.C at hm
    simp only at hm
    first
    | (cases hm; done)
    | (split at hm <;> first
    | (cases hm; exact bits_Mul64.s hmix n)
    | (cases hm; exact bits_Add64.s hmix n)
    | (cases hm; done))
  have hb : Try.f112.body = some (Try.f112.body.getD .skip) := by kernel_rfl
  refine runF_calls (C := word_product.C n) (A := word_product.A n) (n := n) (fn := Try.f112) hg hmix Try.func112 hb ?_ ?_ (by decide) rfl rfl (by show 2 ≤ Try.f112.ntmps; decide) ?_
  · rw [show loopsIn (Try.f112.body.getD .skip) = [word_product.b0, word_product.b1] by kernel_rfl]
    intro b hb m hm
    simp only [List.mem_cons, List.not_mem_nil, or_false] at hb
    rcases hb with rfl | rfl
    · have e : (word_product.A n).loop (key word_product.b0) = some (.mk' word_product.l3_0.pat (word_product.l3_0.m n n) word_product.l3_0.resK) := by rw [show key word_product.b0 = 3 by kernel_rfl]; rfl
      rw [e] at hm
      cases hm
      exact LoopS.of (res := word_product.l3_0.res) (fun R u K => rfl) word_product.l3_0.pat_shape fun t => word_product.l3_0.loop n n t
    · have e : (word_product.A n).loop (key word_product.b1) = some (.mk' word_product.l7_0.pat (word_product.l7_0.m n n) word_product.l7_0.resK) := by rw [show key word_product.b1 = 7 by kernel_rfl]; rfl
      rw [e] at hm
      cases hm
      exact LoopS.of (res := word_product.l7_0.res) (fun R u K => rfl) word_product.l7_0.pat_shape fun t => word_product.l7_0.loop n n t
  · intro a ha m hm
    cases (show none = some m from hm)
  · rw [show runF (word_product.C n) (word_product.A n) n Try.f112 (word_product.shape t).1 (word_product.shape t).2 (fun v o => some (v, o)) = _ from word_product.run n t.1 t.2]
    have e := word_product.gmap word_product.res (fun a0 => a0) n t.1 t.2
    unfold word_product.m at h
    rw [h] at e
    exact e
theorem word_product.s (hmix : Try.prog.follows .mixedOrders = true) (n : Nat) : CalleeS Try.prog (fun _ => .any) 112 (word_product.c n) :=
  CalleeS.of (res := word_product.res) (shape := word_product.shape) (fun R u K => rfl) (fun args lent t h => by
    unfold word_product.pat at h
    split at h
    · cases h; rfl
    · cases h) fun t u h => (word_product.call hmix n t u h).ok Try.func112 (by decide) (by kernel_rfl)
end
section
noncomputable section
noncomputable def word_Mul.C (n : Nat) : Ctx := ⟨Try.prog, (fun _ => .any), fun f => match f with
 | 112 => some (word_product.c n)
 | _ => none⟩
def word_Mul.live : Nat → List Nat × List Nat := fun k => match k with
 | _ => ([], [])
def word_Mul.jlive : Nat → List Nat × List Nat := fun k => match k with
 | _ => ([], [])
noncomputable def word_Mul.A (n : Nat) : Ann := ⟨Try.f89.ntmps, 0, word_Mul.live, [], [none, none], fun k => match k with
 | _ => none, word_Mul.jlive, lookJ []⟩
def word_Mul.g {α : Type} (mk0 : (List Int) → Bool → α) (n : Nat) (a0 : (List Int)) (a1 : (List Int)) : Option α :=
 bindO (word_product.m n (Prod.mk a0 a1)) fun r2 =>
  some (mk0 (List.take 4 (List.drop 0 r2)) ((ibits BinOp.or .u64 (ibits BinOp.or .u64 (ibits BinOp.or .u64 (List.getD r2 4 0) (List.getD r2 5 0)) (List.getD r2 6 0)) (List.getD r2 7 0)) != 0))
def word_Mul.m (n : Nat) (t : ((List Int) × (List Int))) : Option ((List Int) × Bool) := word_Mul.g (fun a0 a1 => (a0, a1)) n t.1 t.2
def word_Mul.pat : List AV → Blks → Option ((List Int) × (List Int))
 | [(.ints .u64 4 a0), (.ints .u64 4 a1)], [] => some (a0, a1)
 | _, _ => none
def word_Mul.shape (t : ((List Int) × (List Int))) : List AV × Blks := ([(.ints .u64 4 t.1), (.ints .u64 4 t.2)], [])
def word_Mul.res : ((List Int) × Bool) → AV × Blks
 | u => (Prod.mk (.tup [(.ints .u64 4 u.1), (.bool u.2)]) [])
def word_Mul.resK {R : Type} (u : ((List Int) × Bool)) (K : AV → Blks → Option R) : Option R := (fun p : AV × Blks => K p.1 p.2) (Prod.mk (.tup [(.ints .u64 4 u.1), (.bool u.2)]) [])
def word_Mul.c (n : Nat) : Abs.Callee := .mk' [] [none, none] word_Mul.pat (word_Mul.m n) word_Mul.resK
end
end
section
theorem word_Mul.gmap {α β : Type} (h : β → α) (mk0 : (List Int) → Bool → β) (n : Nat) (a0 : (List Int)) (a1 : (List Int)) : word_Mul.g (fun a0 a1 => (h (mk0 a0 a1))) n a0 a1 = (word_Mul.g mk0 n a0 a1).map h := by
  unfold word_Mul.g
  exact (bindO_map fun r2 => rfl)
theorem word_Mul.run (n : Nat) (a0 : (List Int)) (a1 : (List Int)) : runF (word_Mul.C n) (word_Mul.A n) n Try.f89 [(.ints .u64 4 a0), (.ints .u64 4 a1)] [] (fun v o => some (v, o)) = word_Mul.g (fun a0 a1 => ((Prod.mk (.tup [(.ints .u64 4 a0), (.bool a1)]) []) : AV × Blks)) n a0 a1 := by kernel_rfl
theorem word_Mul.call (hmix : Try.prog.follows .mixedOrders = true) (n : Nat) (t : ((List Int) × (List Int))) (u) (h : word_Mul.m n t = some u) : FnC Try.prog (fun _ => .any) 89 (word_Mul.shape t).1 (word_Mul.shape t).2 (word_Mul.res u).1 (word_Mul.res u).2 := by
  have hg : ∀ f m, (word_Mul.C n).Γ f = some m → CalleeS Try.prog (fun _ => .any) f m := by
    intro f m hm
    unfold word_Mul.C at hm
    simp only at hm
    first
    | (cases hm; done)
    | (split at hm <;> first
    | (cases hm; exact word_product.s hmix n)
    | (cases hm; done))
  have hb : Try.f89.body = some (Try.f89.body.getD .skip) := by kernel_rfl
  refine runF_calls (C := word_Mul.C n) (A := word_Mul.A n) (n := n) (fn := Try.f89) hg hmix Try.func89 hb ?_ ?_ (by decide) rfl rfl (by show 2 ≤ Try.f89.ntmps; decide) ?_
  · rw [show loopsIn (Try.f89.body.getD .skip) = [] by kernel_rfl]
    intro b hb
    cases hb
  · intro a ha m hm
    cases (show none = some m from hm)
  · rw [show runF (word_Mul.C n) (word_Mul.A n) n Try.f89 (word_Mul.shape t).1 (word_Mul.shape t).2 (fun v o => some (v, o)) = _ from word_Mul.run n t.1 t.2]
    have e := word_Mul.gmap word_Mul.res (fun a0 a1 => (a0, a1)) n t.1 t.2
    unfold word_Mul.m at h
    rw [h] at e
    exact e
theorem word_Mul.s (hmix : Try.prog.follows .mixedOrders = true) (n : Nat) : CalleeS Try.prog (fun _ => .any) 89 (word_Mul.c n) :=
  CalleeS.of (res := word_Mul.res) (shape := word_Mul.shape) (fun R u K => rfl) (fun args lent t h => by
    unfold word_Mul.pat at h
    split at h
    · cases h; rfl
    · cases h) fun t u h => (word_Mul.call hmix n t u h).ok Try.func89 (by decide) (by kernel_rfl)
end
section
noncomputable section
noncomputable def q01_halves.C (n : Nat) : Ctx := ⟨Try.prog, (fun _ => .any), fun f => match f with
 | _ => none⟩
def q01_halves.live : Nat → List Nat × List Nat := fun k => match k with
 | 3 => ([4, 1, 3, 2], [3, 2])
 | _ => ([], [])
def q01_halves.jlive : Nat → List Nat × List Nat := fun k => match k with
 | _ => ([], [])
def q01_halves.l3_0.r {α : Type} (mk0 : (List Int) → (List Int) → α) (n : Nat) (rc : Int → (List Int) → (List Int) → (List Int) → Option α)  (x0 : Int) (x1 : (List Int)) (x2 : (List Int)) (x3 : (List Int)) : Option α :=
  if (decide (x0 < 8)) = true then
   if 0 ≤ (IntKind.wrap .i64 (Int.tdiv x0 2)) then
    if (IntKind.wrap .i64 (Int.tdiv x0 2)) < 4 then
     if 0 ≤ (IntKind.wrap .u64 (IntKind.wrap .i64 ((Int.tmod x0 2) * 32))) then
      if 0 ≤ x0 then
       if x0 < 8 then
        rc (IntKind.wrap .i64 (x0 + 1)) x1 (List.set x2 (Int.toNat x0) (ibits BinOp.and .u64 (ishr .u64 (List.getD x1 (Int.toNat (IntKind.wrap .i64 (Int.tdiv x0 2))) 0) (IntKind.wrap .u64 (IntKind.wrap .i64 ((Int.tmod x0 2) * 32)))) 4294967295)) x3
       else
        none
      else
       none
     else
      none
    else
     none
   else
    none
  else
   some (mk0 x2 x3)
def q01_halves.l3_0.g {α : Type} (mk0 : (List Int) → (List Int) → α) (n : Nat) : Nat → Int → (List Int) → (List Int) → (List Int) → Option α
 | 0, _, _, _, _ => none
 | m + 1, x0, x1, x2, x3 => q01_halves.l3_0.r mk0 n (fun y0 y1 y2 y3 => q01_halves.l3_0.g mk0 n m y0 y1 y2 y3)  x0 x1 x2 x3
def q01_halves.l3_0.m (n m : Nat) (t : (Int × ((List Int) × ((List Int) × (List Int))))) : Option ((List Int) × (List Int)) := q01_halves.l3_0.g (fun a0 a1 => (a0, a1)) n m t.1 t.2.1 t.2.2.1 t.2.2.2
def q01_halves.l3_0.pat : St → Option (Int × ((List Int) × ((List Int) × (List Int))))
 | (St.mk [(.int .i64 x0), (.ptr 0 []), (.ptr 1 []), (.ptr 2 [])] [(some (.var (.ints .u64 4 x1))), (some (.var (.ints .u64 8 x2))), (some (.var (.ints .u64 8 x3)))]) => some (x0, x1, x2, x3)
 | _ => none
def q01_halves.l3_0.shape (t : (Int × ((List Int) × ((List Int) × (List Int))))) : St := (St.mk [(.int .i64 t.1), (.ptr 0 []), (.ptr 1 []), (.ptr 2 [])] [(some (.var (.ints .u64 4 t.2.1))), (some (.var (.ints .u64 8 t.2.2.1))), (some (.var (.ints .u64 8 t.2.2.2)))])
def q01_halves.l3_0.res : ((List Int) × (List Int)) → Ex × St
 | u => (Prod.mk (.exit 0) (St.mk [(.ptr 0 []), (.ptr 1 [])] [(some (.var (.ints .u64 8 u.1))), (some (.var (.ints .u64 8 u.2)))]))
def q01_halves.l3_0.resK {R : Type} (u : ((List Int) × (List Int))) (K : Ex → St → Option R) : Option R := (fun p : Ex × St => K p.1 p.2) (Prod.mk (.exit 0) (St.mk [(.ptr 0 []), (.ptr 1 [])] [(some (.var (.ints .u64 8 u.1))), (some (.var (.ints .u64 8 u.2)))]))
noncomputable def q01_halves.A (n : Nat) : Ann := ⟨Try.f119.ntmps, 0, q01_halves.live, [], [none], fun k => match k with
 | 3 => some (.mk' q01_halves.l3_0.pat (q01_halves.l3_0.m n n) q01_halves.l3_0.resK)
 | _ => none, q01_halves.jlive, lookJ []⟩
noncomputable def q01_halves.b0 : Code := (loopsIn (Try.f119.body.getD .skip)).getD 0 .skip
def q01_halves.g {α : Type} (mk0 : (List Int) → α) (n : Nat) (a0 : (List Int)) : Option α :=
 bindO (q01_halves.l3_0.m n n (0, a0, [0, 0, 0, 0, 0, 0, 0, 0], [0, 0, 0, 0, 0, 0, 0, 0])) fun r2 =>
  some (mk0 (Prod.fst r2))
def q01_halves.m (n : Nat) (t : (List Int)) : Option (List Int) := q01_halves.g (fun a0 => a0) n t
def q01_halves.pat : List AV → Blks → Option (List Int)
 | [(.ints .u64 4 a0)], [] => some a0
 | _, _ => none
def q01_halves.shape (t : (List Int)) : List AV × Blks := ([(.ints .u64 4 t)], [])
def q01_halves.res : (List Int) → AV × Blks
 | u => (Prod.mk (.ints .u64 8 u) [])
def q01_halves.resK {R : Type} (u : (List Int)) (K : AV → Blks → Option R) : Option R := (fun p : AV × Blks => K p.1 p.2) (Prod.mk (.ints .u64 8 u) [])
def q01_halves.c (n : Nat) : Abs.Callee := .mk' [] [none] q01_halves.pat (q01_halves.m n) q01_halves.resK
end
end
section
noncomputable section
noncomputable def q01_Mul.C (n : Nat) : Ctx := ⟨Try.prog, (fun _ => .any), fun f => match f with
 | 119 => some (q01_halves.c n)
 | _ => none⟩
def q01_Mul.live : Nat → List Nat × List Nat := fun k => match k with
 | 5 => ([9, 8, 6, 7, 4], [8, 4])
 | 9 => ([11, 9, 8, 6, 7, 10, 4], [9, 10, 8, 6, 7, 4])
 | 18 => ([15, 13, 8, 14, 4], [13, 14, 4])
 | _ => ([], [])
def q01_Mul.jlive : Nat → List Nat × List Nat := fun k => match k with
 | _ => ([], [])
def q01_Mul.l9_0.r {α : Type} (mk0 : Int → Int → (List Int) → (List Int) → (List Int) → (List Int) → α) (n : Nat) (rc : Int → Int → Int → (List Int) → (List Int) → (List Int) → (List Int) → Option α)  (x0 : Int) (x1 : Int) (x2 : Int) (x3 : (List Int)) (x4 : (List Int)) (x5 : (List Int)) (x6 : (List Int)) : Option α :=
  if (decide (x0 < 8)) = true then
   if 0 ≤ (IntKind.wrap .i64 (x1 + x0)) then
    if (IntKind.wrap .i64 (x1 + x0)) < 16 then
     if 0 ≤ x1 then
      if x1 < 8 then
       if 0 ≤ x0 then
        if x0 < 8 then
         if 0 ≤ (IntKind.wrap .i64 (x1 + x0)) then
          if (IntKind.wrap .i64 (x1 + x0)) < 16 then
           rc (IntKind.wrap .i64 (x0 + 1)) x1 (ishr .u64 (IntKind.wrap .u64 ((IntKind.wrap .u64 ((List.getD x3 (Int.toNat (IntKind.wrap .i64 (x1 + x0))) 0) + (IntKind.wrap .u64 ((List.getD x4 (Int.toNat x1) 0) * (List.getD x5 (Int.toNat x0) 0))))) + x2)) 32) (List.set x3 (Int.toNat (IntKind.wrap .i64 (x1 + x0))) (ibits BinOp.and .u64 (IntKind.wrap .u64 ((IntKind.wrap .u64 ((List.getD x3 (Int.toNat (IntKind.wrap .i64 (x1 + x0))) 0) + (IntKind.wrap .u64 ((List.getD x4 (Int.toNat x1) 0) * (List.getD x5 (Int.toNat x0) 0))))) + x2)) 4294967295)) x4 x5 x6
          else
           none
         else
          none
        else
         none
       else
        none
      else
       none
     else
      none
    else
     none
   else
    none
  else
   some (mk0 x1 x2 x3 x4 x5 x6)
def q01_Mul.l9_0.g {α : Type} (mk0 : Int → Int → (List Int) → (List Int) → (List Int) → (List Int) → α) (n : Nat) : Nat → Int → Int → Int → (List Int) → (List Int) → (List Int) → (List Int) → Option α
 | 0, _, _, _, _, _, _, _ => none
 | m + 1, x0, x1, x2, x3, x4, x5, x6 => q01_Mul.l9_0.r mk0 n (fun y0 y1 y2 y3 y4 y5 y6 => q01_Mul.l9_0.g mk0 n m y0 y1 y2 y3 y4 y5 y6)  x0 x1 x2 x3 x4 x5 x6
def q01_Mul.l9_0.m (n m : Nat) (t : (Int × (Int × (Int × ((List Int) × ((List Int) × ((List Int) × (List Int)))))))) : Option (Int × (Int × ((List Int) × ((List Int) × ((List Int) × (List Int)))))) := q01_Mul.l9_0.g (fun a0 a1 a2 a3 a4 a5 => (a0, a1, a2, a3, a4, a5)) n m t.1 t.2.1 t.2.2.1 t.2.2.2.1 t.2.2.2.2.1 t.2.2.2.2.2.1 t.2.2.2.2.2.2
def q01_Mul.l9_0.pat : St → Option (Int × (Int × (Int × ((List Int) × ((List Int) × ((List Int) × (List Int)))))))
 | (St.mk [(.int .i64 x0), (.int .i64 x1), (.ptr 0 []), (.ptr 1 []), (.ptr 2 []), (.int .u64 x2), (.ptr 3 [])] [(some (.var (.ints .u64 16 x3))), (some (.var (.ints .u64 8 x4))), (some (.var (.ints .u64 8 x5))), (some (.var (.ints .u64 4 x6)))]) => some (x0, x1, x2, x3, x4, x5, x6)
 | _ => none
def q01_Mul.l9_0.shape (t : (Int × (Int × (Int × ((List Int) × ((List Int) × ((List Int) × (List Int)))))))) : St := (St.mk [(.int .i64 t.1), (.int .i64 t.2.1), (.ptr 0 []), (.ptr 1 []), (.ptr 2 []), (.int .u64 t.2.2.1), (.ptr 3 [])] [(some (.var (.ints .u64 16 t.2.2.2.1))), (some (.var (.ints .u64 8 t.2.2.2.2.1))), (some (.var (.ints .u64 8 t.2.2.2.2.2.1))), (some (.var (.ints .u64 4 t.2.2.2.2.2.2)))])
def q01_Mul.l9_0.res : (Int × (Int × ((List Int) × ((List Int) × ((List Int) × (List Int)))))) → Ex × St
 | u => (Prod.mk (.exit 2) (St.mk [(.int .i64 u.1), (.int .u64 u.2.1), (.ptr 0 []), (.ptr 1 []), (.ptr 2 []), (.ptr 3 [])] [(some (.var (.ints .u64 16 u.2.2.1))), (some (.var (.ints .u64 8 u.2.2.2.1))), (some (.var (.ints .u64 8 u.2.2.2.2.1))), (some (.var (.ints .u64 4 u.2.2.2.2.2)))]))
def q01_Mul.l9_0.resK {R : Type} (u : (Int × (Int × ((List Int) × ((List Int) × ((List Int) × (List Int))))))) (K : Ex → St → Option R) : Option R := (fun p : Ex × St => K p.1 p.2) (Prod.mk (.exit 2) (St.mk [(.int .i64 u.1), (.int .u64 u.2.1), (.ptr 0 []), (.ptr 1 []), (.ptr 2 []), (.ptr 3 [])] [(some (.var (.ints .u64 16 u.2.2.1))), (some (.var (.ints .u64 8 u.2.2.2.1))), (some (.var (.ints .u64 8 u.2.2.2.2.1))), (some (.var (.ints .u64 4 u.2.2.2.2.2)))]))
def q01_Mul.l5_0.r {α : Type} (mk0 : (List Int) → (List Int) → α) (n : Nat) (rc : Int → (List Int) → (List Int) → (List Int) → (List Int) → Option α)  (x0 : Int) (x1 : (List Int)) (x2 : (List Int)) (x3 : (List Int)) (x4 : (List Int)) : Option α :=
  if (decide (x0 < 8)) = true then
   bindO (q01_Mul.l9_0.m n n (0, x0, 0, x1, x2, x3, x4)) fun r6 =>
    if 0 ≤ (IntKind.wrap .i64 ((Prod.fst r6) + 8)) then
     if (IntKind.wrap .i64 ((Prod.fst r6) + 8)) < 16 then
      rc (IntKind.wrap .i64 ((Prod.fst r6) + 1)) (List.set (Prod.fst (Prod.snd (Prod.snd r6))) (Int.toNat (IntKind.wrap .i64 ((Prod.fst r6) + 8))) (Prod.fst (Prod.snd r6))) (Prod.fst (Prod.snd (Prod.snd (Prod.snd r6)))) (Prod.fst (Prod.snd (Prod.snd (Prod.snd (Prod.snd r6))))) (Prod.snd (Prod.snd (Prod.snd (Prod.snd (Prod.snd r6)))))
     else
      none
    else
     none
  else
   some (mk0 x1 x4)
def q01_Mul.l5_0.g {α : Type} (mk0 : (List Int) → (List Int) → α) (n : Nat) : Nat → Int → (List Int) → (List Int) → (List Int) → (List Int) → Option α
 | 0, _, _, _, _, _ => none
 | m + 1, x0, x1, x2, x3, x4 => q01_Mul.l5_0.r mk0 n (fun y0 y1 y2 y3 y4 => q01_Mul.l5_0.g mk0 n m y0 y1 y2 y3 y4)  x0 x1 x2 x3 x4
def q01_Mul.l5_0.m (n m : Nat) (t : (Int × ((List Int) × ((List Int) × ((List Int) × (List Int)))))) : Option ((List Int) × (List Int)) := q01_Mul.l5_0.g (fun a0 a1 => (a0, a1)) n m t.1 t.2.1 t.2.2.1 t.2.2.2.1 t.2.2.2.2
def q01_Mul.l5_0.pat : St → Option (Int × ((List Int) × ((List Int) × ((List Int) × (List Int)))))
 | (St.mk [(.int .i64 x0), (.ptr 0 []), (.ptr 1 []), (.ptr 2 []), (.ptr 3 [])] [(some (.var (.ints .u64 16 x1))), (some (.var (.ints .u64 8 x2))), (some (.var (.ints .u64 8 x3))), (some (.var (.ints .u64 4 x4)))]) => some (x0, x1, x2, x3, x4)
 | _ => none
def q01_Mul.l5_0.shape (t : (Int × ((List Int) × ((List Int) × ((List Int) × (List Int)))))) : St := (St.mk [(.int .i64 t.1), (.ptr 0 []), (.ptr 1 []), (.ptr 2 []), (.ptr 3 [])] [(some (.var (.ints .u64 16 t.2.1))), (some (.var (.ints .u64 8 t.2.2.1))), (some (.var (.ints .u64 8 t.2.2.2.1))), (some (.var (.ints .u64 4 t.2.2.2.2)))])
def q01_Mul.l5_0.res : ((List Int) × (List Int)) → Ex × St
 | u => (Prod.mk (.exit 0) (St.mk [(.ptr 0 []), (.ptr 1 [])] [(some (.var (.ints .u64 16 u.1))), (some (.var (.ints .u64 4 u.2)))]))
def q01_Mul.l5_0.resK {R : Type} (u : ((List Int) × (List Int))) (K : Ex → St → Option R) : Option R := (fun p : Ex × St => K p.1 p.2) (Prod.mk (.exit 0) (St.mk [(.ptr 0 []), (.ptr 1 [])] [(some (.var (.ints .u64 16 u.1))), (some (.var (.ints .u64 4 u.2)))]))
def q01_Mul.l18_0.r {α : Type} (mk0 : Bool → (List Int) → (List Int) → α) (n : Nat) (rc : Int → Bool → (List Int) → (List Int) → (List Int) → Option α)  (x0 : Int) (x1 : Bool) (x2 : (List Int)) (x3 : (List Int)) (x4 : (List Int)) : Option α :=
  if (decide (x0 < 8)) = true then
   if 0 ≤ (IntKind.wrap .i64 (Int.tdiv x0 2)) then
    if (IntKind.wrap .i64 (Int.tdiv x0 2)) < 4 then
     if 0 ≤ x0 then
      if x0 < 16 then
       if 0 ≤ (IntKind.wrap .u64 (IntKind.wrap .i64 ((Int.tmod x0 2) * 32))) then
        if 0 ≤ (IntKind.wrap .i64 (Int.tdiv x0 2)) then
         if (IntKind.wrap .i64 (Int.tdiv x0 2)) < 4 then
          if x1 = true then
           rc (IntKind.wrap .i64 (x0 + 1)) true (List.set x2 (Int.toNat (IntKind.wrap .i64 (Int.tdiv x0 2))) (ibits BinOp.or .u64 (List.getD x2 (Int.toNat (IntKind.wrap .i64 (Int.tdiv x0 2))) 0) (ishl .u64 (List.getD x3 (Int.toNat x0) 0) (IntKind.wrap .u64 (IntKind.wrap .i64 ((Int.tmod x0 2) * 32)))))) x3 x4
          else
           if 0 ≤ (IntKind.wrap .i64 (x0 + 8)) then
            if (IntKind.wrap .i64 (x0 + 8)) < 16 then
             rc (IntKind.wrap .i64 (x0 + 1)) ((List.getD x3 (Int.toNat (IntKind.wrap .i64 (x0 + 8))) 0) != 0) (List.set x2 (Int.toNat (IntKind.wrap .i64 (Int.tdiv x0 2))) (ibits BinOp.or .u64 (List.getD x2 (Int.toNat (IntKind.wrap .i64 (Int.tdiv x0 2))) 0) (ishl .u64 (List.getD x3 (Int.toNat x0) 0) (IntKind.wrap .u64 (IntKind.wrap .i64 ((Int.tmod x0 2) * 32)))))) x3 x4
            else
             none
           else
            none
         else
          none
        else
         none
       else
        none
      else
       none
     else
      none
    else
     none
   else
    none
  else
   some (mk0 x1 x2 x4)
def q01_Mul.l18_0.g {α : Type} (mk0 : Bool → (List Int) → (List Int) → α) (n : Nat) : Nat → Int → Bool → (List Int) → (List Int) → (List Int) → Option α
 | 0, _, _, _, _, _ => none
 | m + 1, x0, x1, x2, x3, x4 => q01_Mul.l18_0.r mk0 n (fun y0 y1 y2 y3 y4 => q01_Mul.l18_0.g mk0 n m y0 y1 y2 y3 y4)  x0 x1 x2 x3 x4
def q01_Mul.l18_0.m (n m : Nat) (t : (Int × (Bool × ((List Int) × ((List Int) × (List Int)))))) : Option (Bool × ((List Int) × (List Int))) := q01_Mul.l18_0.g (fun a0 a1 a2 => (a0, a1, a2)) n m t.1 t.2.1 t.2.2.1 t.2.2.2.1 t.2.2.2.2
def q01_Mul.l18_0.pat : St → Option (Int × (Bool × ((List Int) × ((List Int) × (List Int)))))
 | (St.mk [(.int .i64 x0), (.ptr 0 []), (.ptr 1 []), (.bool x1), (.ptr 2 [])] [(some (.var (.ints .u64 4 x2))), (some (.var (.ints .u64 16 x3))), (some (.var (.ints .u64 4 x4)))]) => some (x0, x1, x2, x3, x4)
 | _ => none
def q01_Mul.l18_0.shape (t : (Int × (Bool × ((List Int) × ((List Int) × (List Int)))))) : St := (St.mk [(.int .i64 t.1), (.ptr 0 []), (.ptr 1 []), (.bool t.2.1), (.ptr 2 [])] [(some (.var (.ints .u64 4 t.2.2.1))), (some (.var (.ints .u64 16 t.2.2.2.1))), (some (.var (.ints .u64 4 t.2.2.2.2)))])
def q01_Mul.l18_0.res : (Bool × ((List Int) × (List Int))) → Ex × St
 | u => (Prod.mk (.exit 4) (St.mk [(.ptr 0 []), (.bool u.1), (.ptr 1 [])] [(some (.var (.ints .u64 4 u.2.1))), (some (.var (.ints .u64 4 u.2.2)))]))
def q01_Mul.l18_0.resK {R : Type} (u : (Bool × ((List Int) × (List Int)))) (K : Ex → St → Option R) : Option R := (fun p : Ex × St => K p.1 p.2) (Prod.mk (.exit 4) (St.mk [(.ptr 0 []), (.bool u.1), (.ptr 1 [])] [(some (.var (.ints .u64 4 u.2.1))), (some (.var (.ints .u64 4 u.2.2)))]))
noncomputable def q01_Mul.A (n : Nat) : Ann := ⟨Try.f98.ntmps, 0, q01_Mul.live, [], [none, none], fun k => match k with
 | 9 => some (.mk' q01_Mul.l9_0.pat (q01_Mul.l9_0.m n n) q01_Mul.l9_0.resK)
 | 5 => some (.mk' q01_Mul.l5_0.pat (q01_Mul.l5_0.m n n) q01_Mul.l5_0.resK)
 | 18 => some (.mk' q01_Mul.l18_0.pat (q01_Mul.l18_0.m n n) q01_Mul.l18_0.resK)
 | _ => none, q01_Mul.jlive, lookJ []⟩
noncomputable def q01_Mul.b0 : Code := (loopsIn (Try.f98.body.getD .skip)).getD 0 .skip
noncomputable def q01_Mul.b1 : Code := (loopsIn (Try.f98.body.getD .skip)).getD 1 .skip
noncomputable def q01_Mul.b2 : Code := (loopsIn (Try.f98.body.getD .skip)).getD 2 .skip
def q01_Mul.g {α : Type} (mk0 : (List Int) → Bool → α) (n : Nat) (a0 : (List Int)) (a1 : (List Int)) : Option α :=
 bindO (q01_halves.m n a0) fun r2 =>
  bindO (q01_halves.m n a1) fun r4 =>
   bindO (q01_Mul.l5_0.m n n (0, ([0, 0, 0, 0, 0, 0, 0, 0, 0, 0, 0, 0, 0, 0, 0, 0] : List Int), r2, r4, [0, 0, 0, 0])) fun r6 =>
    bindO (q01_Mul.l18_0.m n n (0, false, [0, 0, 0, 0], (Prod.fst r6), (Prod.snd r6))) fun r8 =>
     some (mk0 (Prod.fst (Prod.snd r8)) (Prod.fst r8))
def q01_Mul.m (n : Nat) (t : ((List Int) × (List Int))) : Option ((List Int) × Bool) := q01_Mul.g (fun a0 a1 => (a0, a1)) n t.1 t.2
def q01_Mul.pat : List AV → Blks → Option ((List Int) × (List Int))
 | [(.ints .u64 4 a0), (.ints .u64 4 a1)], [] => some (a0, a1)
 | _, _ => none
def q01_Mul.shape (t : ((List Int) × (List Int))) : List AV × Blks := ([(.ints .u64 4 t.1), (.ints .u64 4 t.2)], [])
def q01_Mul.res : ((List Int) × Bool) → AV × Blks
 | u => (Prod.mk (.tup [(.ints .u64 4 u.1), (.bool u.2)]) [])
def q01_Mul.resK {R : Type} (u : ((List Int) × Bool)) (K : AV → Blks → Option R) : Option R := (fun p : AV × Blks => K p.1 p.2) (Prod.mk (.tup [(.ints .u64 4 u.1), (.bool u.2)]) [])
def q01_Mul.c (n : Nat) : Abs.Callee := .mk' [] [none, none] q01_Mul.pat (q01_Mul.m n) q01_Mul.resK
end
end
section
theorem q01_halves.l3_0.rmap {α β : Type} (h : β → α) (mk0 : (List Int) → (List Int) → β) (n : Nat) (f : Int → (List Int) → (List Int) → (List Int) → Option β)  (x0 : Int) (x1 : (List Int)) (x2 : (List Int)) (x3 : (List Int)) : q01_halves.l3_0.r (fun a0 a1 => (h (mk0 a0 a1))) n (fun y0 y1 y2 y3 => (f y0 y1 y2 y3).map h) x0 x1 x2 x3 = (q01_halves.l3_0.r mk0 n f x0 x1 x2 x3).map h := by
  unfold q01_halves.l3_0.r
  exact (ite_map (ite_map (ite_map (ite_map (ite_map (ite_map rfl rfl) rfl) rfl) rfl) rfl) rfl)
theorem q01_halves.l3_0.gmap {α β : Type} (h : β → α) (mk0 : (List Int) → (List Int) → β) (n : Nat) : ∀ (m : Nat) (x0 : Int) (x1 : (List Int)) (x2 : (List Int)) (x3 : (List Int)), q01_halves.l3_0.g (fun a0 a1 => (h (mk0 a0 a1))) n m x0 x1 x2 x3 = (q01_halves.l3_0.g mk0 n m x0 x1 x2 x3).map h
  | 0, _, _, _, _ => rfl
  | m + 1, x0, x1, x2, x3 => by
    unfold q01_halves.l3_0.g
    rw [← q01_halves.l3_0.rmap]
    congr
    · funext y0 y1 y2 y3; exact q01_halves.l3_0.gmap h mk0 n m y0 y1 y2 y3
theorem q01_halves.l3_0.pat_shape : ∀ st t, q01_halves.l3_0.pat st = some t → st = q01_halves.l3_0.shape t := by
  intro st t h
  unfold q01_halves.l3_0.pat at h
  split at h
  · cases h; rfl
  · cases h
theorem q01_halves.l3_0.round (n : Nat) (rc : St → Option (Ex × St)) (x0 : Int) (x1 : (List Int)) (x2 : (List Int)) (x3 : (List Int)) : roundOf (q01_halves.C n) (q01_halves.A n) n q01_halves.b0 rc ((St.mk [(.int .i64 x0), (.ptr 0 []), (.ptr 1 []), (.ptr 2 [])] [(some (.var (.ints .u64 4 x1))), (some (.var (.ints .u64 8 x2))), (some (.var (.ints .u64 8 x3)))])) = q01_halves.l3_0.r (fun a0 a1 => ((Prod.mk (.exit 0) (St.mk [(.ptr 0 []), (.ptr 1 [])] [(some (.var (.ints .u64 8 a0))), (some (.var (.ints .u64 8 a1)))])) : Ex × St)) n (fun y0 y1 y2 y3 => rc ((St.mk [(.int .i64 y0), (.ptr 0 []), (.ptr 1 []), (.ptr 2 [])] [(some (.var (.ints .u64 4 y1))), (some (.var (.ints .u64 8 y2))), (some (.var (.ints .u64 8 y3)))]))) x0 x1 x2 x3 := by kernel_rfl
theorem q01_halves.l3_0.loop' (n : Nat) : ∀ (m : Nat) (t : (Int × ((List Int) × ((List Int) × (List Int))))), loopOf (roundOf (q01_halves.C n) (q01_halves.A n) n q01_halves.b0) m (q01_halves.l3_0.shape t) = q01_halves.l3_0.g (fun a0 a1 => ((Prod.mk (.exit 0) (St.mk [(.ptr 0 []), (.ptr 1 [])] [(some (.var (.ints .u64 8 a0))), (some (.var (.ints .u64 8 a1)))])) : Ex × St)) n m t.1 t.2.1 t.2.2.1 t.2.2.2 :=
  loop_of_round (shape := q01_halves.l3_0.shape) (body := roundOf (q01_halves.C n) (q01_halves.A n) n q01_halves.b0) (g := fun m t => q01_halves.l3_0.g (fun a0 a1 => ((Prod.mk (.exit 0) (St.mk [(.ptr 0 []), (.ptr 1 [])] [(some (.var (.ints .u64 8 a0))), (some (.var (.ints .u64 8 a1)))])) : Ex × St)) n m t.1 t.2.1 t.2.2.1 t.2.2.2) (fun t => rfl)
    fun m t ih => (q01_halves.l3_0.round n (loopOf (roundOf (q01_halves.C n) (q01_halves.A n) n q01_halves.b0) m) t.1 t.2.1 t.2.2.1 t.2.2.2).trans (congrFun (congrFun (congrFun (congrFun (congrArg (q01_halves.l3_0.r (fun a0 a1 => ((Prod.mk (.exit 0) (St.mk [(.ptr 0 []), (.ptr 1 [])] [(some (.var (.ints .u64 8 a0))), (some (.var (.ints .u64 8 a1)))])) : Ex × St)) n) (funext fun y0 => funext fun y1 => funext fun y2 => funext fun y3 => ih (y0, y1, y2, y3))) t.1) t.2.1) t.2.2.1) t.2.2.2)
theorem q01_halves.l3_0.loop (n m : Nat) (t : (Int × ((List Int) × ((List Int) × (List Int))))) : loopOf (roundOf (q01_halves.C n) (q01_halves.A n) n q01_halves.b0) m (q01_halves.l3_0.shape t) = (q01_halves.l3_0.m n m t).map q01_halves.l3_0.res :=
  (q01_halves.l3_0.loop' n m t).trans (q01_halves.l3_0.gmap q01_halves.l3_0.res (fun a0 a1 => (a0, a1)) n m t.1 t.2.1 t.2.2.1 t.2.2.2)
theorem q01_halves.gmap {α β : Type} (h : β → α) (mk0 : (List Int) → β) (n : Nat) (a0 : (List Int)) : q01_halves.g (fun a0 => (h (mk0 a0))) n a0 = (q01_halves.g mk0 n a0).map h := by
  unfold q01_halves.g
  exact (bindO_map fun r2 => rfl)
theorem q01_halves.run (n : Nat) (a0 : (List Int)) : runF (q01_halves.C n) (q01_halves.A n) n Try.f119 [(.ints .u64 4 a0)] [] (fun v o => some (v, o)) = q01_halves.g (fun a0 => ((Prod.mk (.ints .u64 8 a0) []) : AV × Blks)) n a0 := by kernel_rfl
theorem q01_halves.call (hmix : Try.prog.follows .mixedOrders = true) (n : Nat) (t : (List Int)) (u) (h : q01_halves.m n t = some u) : FnC Try.prog (fun _ => .any) 119 (q01_halves.shape t).1 (q01_halves.shape t).2 (q01_halves.res u).1 (q01_halves.res u).2 := by
  have hg : ∀ f m, (q01_halves.C n).Γ f = some m → CalleeS Try.prog (fun _ => .any) f m := by
    intro f m hm
    unfold q01_halves.C at hm
    simp only at hm
    first
    | (cases hm; done)
    | (split at hm <;> first
    | (cases hm; done))
  have hb : Try.f119.body = some (Try.f119.body.getD .skip) := by kernel_rfl
  refine runF_calls (C := q01_halves.C n) (A := q01_halves.A n) (n := n) (fn := Try.f119) hg hmix Try.func119 hb ?_ ?_ (by decide) rfl rfl (by show 1 ≤ Try.f119.ntmps; decide) ?_
  · rw [show loopsIn (Try.f119.body.getD .skip) = [q01_halves.b0] by kernel_rfl]
    intro b hb m hm
    simp only [List.mem_cons, List.not_mem_nil, or_false] at hb
    rcases hb with rfl
    · have e : (q01_halves.A n).loop (key q01_halves.b0) = some (.mk' q01_halves.l3_0.pat (q01_halves.l3_0.m n n) q01_halves.l3_0.resK) := by rw [show key q01_halves.b0 = 3 by kernel_rfl]; rfl
      rw [e] at hm
      cases hm
      exact LoopS.of (res := q01_halves.l3_0.res) (fun R u K => rfl) q01_halves.l3_0.pat_shape fun t => q01_halves.l3_0.loop n n t
  · intro a ha m hm
    cases (show none = some m from hm)
  · rw [show runF (q01_halves.C n) (q01_halves.A n) n Try.f119 (q01_halves.shape t).1 (q01_halves.shape t).2 (fun v o => some (v, o)) = _ from q01_halves.run n t]
    have e := q01_halves.gmap q01_halves.res (fun a0 => a0) n t
    unfold q01_halves.m at h
    rw [h] at e
    exact e
theorem q01_halves.s (hmix : Try.prog.follows .mixedOrders = true) (n : Nat) : CalleeS Try.prog (fun _ => .any) 119 (q01_halves.c n) :=
  CalleeS.of (res := q01_halves.res) (shape := q01_halves.shape) (fun R u K => rfl) (fun args lent t h => by
    unfold q01_halves.pat at h
    split at h
    · cases h; rfl
    · cases h) fun t u h => (q01_halves.call hmix n t u h).ok Try.func119 (by decide) (by kernel_rfl)
end
section
theorem q01_Mul.l9_0.rmap {α β : Type} (h : β → α) (mk0 : Int → Int → (List Int) → (List Int) → (List Int) → (List Int) → β) (n : Nat) (f : Int → Int → Int → (List Int) → (List Int) → (List Int) → (List Int) → Option β)  (x0 : Int) (x1 : Int) (x2 : Int) (x3 : (List Int)) (x4 : (List Int)) (x5 : (List Int)) (x6 : (List Int)) : q01_Mul.l9_0.r (fun a0 a1 a2 a3 a4 a5 => (h (mk0 a0 a1 a2 a3 a4 a5))) n (fun y0 y1 y2 y3 y4 y5 y6 => (f y0 y1 y2 y3 y4 y5 y6).map h) x0 x1 x2 x3 x4 x5 x6 = (q01_Mul.l9_0.r mk0 n f x0 x1 x2 x3 x4 x5 x6).map h := by
  unfold q01_Mul.l9_0.r
  exact (ite_map (ite_map (ite_map (ite_map (ite_map (ite_map (ite_map (ite_map (ite_map rfl rfl) rfl) rfl) rfl) rfl) rfl) rfl) rfl) rfl)
theorem q01_Mul.l9_0.gmap {α β : Type} (h : β → α) (mk0 : Int → Int → (List Int) → (List Int) → (List Int) → (List Int) → β) (n : Nat) : ∀ (m : Nat) (x0 : Int) (x1 : Int) (x2 : Int) (x3 : (List Int)) (x4 : (List Int)) (x5 : (List Int)) (x6 : (List Int)), q01_Mul.l9_0.g (fun a0 a1 a2 a3 a4 a5 => (h (mk0 a0 a1 a2 a3 a4 a5))) n m x0 x1 x2 x3 x4 x5 x6 = (q01_Mul.l9_0.g mk0 n m x0 x1 x2 x3 x4 x5 x6).map h
  | 0, _, _, _, _, _, _, _ => rfl
  | m + 1, x0, x1, x2, x3, x4, x5, x6 => by
    unfold q01_Mul.l9_0.g
    rw [← q01_Mul.l9_0.rmap]
    congr
    · funext y0 y1 y2 y3 y4 y5 y6; exact q01_Mul.l9_0.gmap h mk0 n m y0 y1 y2 y3 y4 y5 y6
theorem q01_Mul.l9_0.pat_shape : ∀ st t, q01_Mul.l9_0.pat st = some t → st = q01_Mul.l9_0.shape t := by
  intro st t h
  unfold q01_Mul.l9_0.pat at h
  split at h
  · cases h; rfl
  · cases h
theorem q01_Mul.l9_0.round (n : Nat) (rc : St → Option (Ex × St)) (x0 : Int) (x1 : Int) (x2 : Int) (x3 : (List Int)) (x4 : (List Int)) (x5 : (List Int)) (x6 : (List Int)) : roundOf (q01_Mul.C n) (q01_Mul.A n) n q01_Mul.b1 rc ((St.mk [(.int .i64 x0), (.int .i64 x1), (.ptr 0 []), (.ptr 1 []), (.ptr 2 []), (.int .u64 x2), (.ptr 3 [])] [(some (.var (.ints .u64 16 x3))), (some (.var (.ints .u64 8 x4))), (some (.var (.ints .u64 8 x5))), (some (.var (.ints .u64 4 x6)))])) = q01_Mul.l9_0.r (fun a0 a1 a2 a3 a4 a5 => ((Prod.mk (.exit 2) (St.mk [(.int .i64 a0), (.int .u64 a1), (.ptr 0 []), (.ptr 1 []), (.ptr 2 []), (.ptr 3 [])] [(some (.var (.ints .u64 16 a2))), (some (.var (.ints .u64 8 a3))), (some (.var (.ints .u64 8 a4))), (some (.var (.ints .u64 4 a5)))])) : Ex × St)) n (fun y0 y1 y2 y3 y4 y5 y6 => rc ((St.mk [(.int .i64 y0), (.int .i64 y1), (.ptr 0 []), (.ptr 1 []), (.ptr 2 []), (.int .u64 y2), (.ptr 3 [])] [(some (.var (.ints .u64 16 y3))), (some (.var (.ints .u64 8 y4))), (some (.var (.ints .u64 8 y5))), (some (.var (.ints .u64 4 y6)))]))) x0 x1 x2 x3 x4 x5 x6 := by kernel_rfl
theorem q01_Mul.l9_0.loop' (n : Nat) : ∀ (m : Nat) (t : (Int × (Int × (Int × ((List Int) × ((List Int) × ((List Int) × (List Int)))))))), loopOf (roundOf (q01_Mul.C n) (q01_Mul.A n) n q01_Mul.b1) m (q01_Mul.l9_0.shape t) = q01_Mul.l9_0.g (fun a0 a1 a2 a3 a4 a5 => ((Prod.mk (.exit 2) (St.mk [(.int .i64 a0), (.int .u64 a1), (.ptr 0 []), (.ptr 1 []), (.ptr 2 []), (.ptr 3 [])] [(some (.var (.ints .u64 16 a2))), (some (.var (.ints .u64 8 a3))), (some (.var (.ints .u64 8 a4))), (some (.var (.ints .u64 4 a5)))])) : Ex × St)) n m t.1 t.2.1 t.2.2.1 t.2.2.2.1 t.2.2.2.2.1 t.2.2.2.2.2.1 t.2.2.2.2.2.2 :=
  loop_of_round (shape := q01_Mul.l9_0.shape) (body := roundOf (q01_Mul.C n) (q01_Mul.A n) n q01_Mul.b1) (g := fun m t => q01_Mul.l9_0.g (fun a0 a1 a2 a3 a4 a5 => ((Prod.mk (.exit 2) (St.mk [(.int .i64 a0), (.int .u64 a1), (.ptr 0 []), (.ptr 1 []), (.ptr 2 []), (.ptr 3 [])] [(some (.var (.ints .u64 16 a2))), (some (.var (.ints .u64 8 a3))), (some (.var (.ints .u64 8 a4))), (some (.var (.ints .u64 4 a5)))])) : Ex × St)) n m t.1 t.2.1 t.2.2.1 t.2.2.2.1 t.2.2.2.2.1 t.2.2.2.2.2.1 t.2.2.2.2.2.2) (fun t => rfl)
    fun m t ih => (q01_Mul.l9_0.round n (loopOf (roundOf (q01_Mul.C n) (q01_Mul.A n) n q01_Mul.b1) m) t.1 t.2.1 t.2.2.1 t.2.2.2.1 t.2.2.2.2.1 t.2.2.2.2.2.1 t.2.2.2.2.2.2).trans (congrFun (congrFun (congrFun (congrFun (congrFun (congrFun (congrFun (congrArg (q01_Mul.l9_0.r (fun a0 a1 a2 a3 a4 a5 => ((Prod.mk (.exit 2) (St.mk [(.int .i64 a0), (.int .u64 a1), (.ptr 0 []), (.ptr 1 []), (.ptr 2 []), (.ptr 3 [])] [(some (.var (.ints .u64 16 a2))), (some (.var (.ints .u64 8 a3))), (some (.var (.ints .u64 8 a4))), (some (.var (.ints .u64 4 a5)))])) : Ex × St)) n) (funext fun y0 => funext fun y1 => funext fun y2 => funext fun y3 => funext fun y4 => funext fun y5 => funext fun y6 => ih (y0, y1, y2, y3, y4, y5, y6))) t.1) t.2.1) t.2.2.1) t.2.2.2.1) t.2.2.2.2.1) t.2.2.2.2.2.1) t.2.2.2.2.2.2)
theorem q01_Mul.l9_0.loop (n m : Nat) (t : (Int × (Int × (Int × ((List Int) × ((List Int) × ((List Int) × (List Int)))))))) : loopOf (roundOf (q01_Mul.C n) (q01_Mul.A n) n q01_Mul.b1) m (q01_Mul.l9_0.shape t) = (q01_Mul.l9_0.m n m t).map q01_Mul.l9_0.res :=
  (q01_Mul.l9_0.loop' n m t).trans (q01_Mul.l9_0.gmap q01_Mul.l9_0.res (fun a0 a1 a2 a3 a4 a5 => (a0, a1, a2, a3, a4, a5)) n m t.1 t.2.1 t.2.2.1 t.2.2.2.1 t.2.2.2.2.1 t.2.2.2.2.2.1 t.2.2.2.2.2.2)
theorem q01_Mul.l5_0.rmap {α β : Type} (h : β → α) (mk0 : (List Int) → (List Int) → β) (n : Nat) (f : Int → (List Int) → (List Int) → (List Int) → (List Int) → Option β)  (x0 : Int) (x1 : (List Int)) (x2 : (List Int)) (x3 : (List Int)) (x4 : (List Int)) : q01_Mul.l5_0.r (fun a0 a1 => (h (mk0 a0 a1))) n (fun y0 y1 y2 y3 y4 => (f y0 y1 y2 y3 y4).map h) x0 x1 x2 x3 x4 = (q01_Mul.l5_0.r mk0 n f x0 x1 x2 x3 x4).map h := by
  unfold q01_Mul.l5_0.r
  exact (ite_map (bindO_map fun r6 => (ite_map (ite_map rfl rfl) rfl)) rfl)
theorem q01_Mul.l5_0.gmap {α β : Type} (h : β → α) (mk0 : (List Int) → (List Int) → β) (n : Nat) : ∀ (m : Nat) (x0 : Int) (x1 : (List Int)) (x2 : (List Int)) (x3 : (List Int)) (x4 : (List Int)), q01_Mul.l5_0.g (fun a0 a1 => (h (mk0 a0 a1))) n m x0 x1 x2 x3 x4 = (q01_Mul.l5_0.g mk0 n m x0 x1 x2 x3 x4).map h
  | 0, _, _, _, _, _ => rfl
  | m + 1, x0, x1, x2, x3, x4 => by
    unfold q01_Mul.l5_0.g
    rw [← q01_Mul.l5_0.rmap]
    congr
    · funext y0 y1 y2 y3 y4; exact q01_Mul.l5_0.gmap h mk0 n m y0 y1 y2 y3 y4
theorem q01_Mul.l5_0.pat_shape : ∀ st t, q01_Mul.l5_0.pat st = some t → st = q01_Mul.l5_0.shape t := by
  intro st t h
  unfold q01_Mul.l5_0.pat at h
  split at h
  · cases h; rfl
  · cases h
theorem q01_Mul.l5_0.round (n : Nat) (rc : St → Option (Ex × St)) (x0 : Int) (x1 : (List Int)) (x2 : (List Int)) (x3 : (List Int)) (x4 : (List Int)) : roundOf (q01_Mul.C n) (q01_Mul.A n) n q01_Mul.b0 rc ((St.mk [(.int .i64 x0), (.ptr 0 []), (.ptr 1 []), (.ptr 2 []), (.ptr 3 [])] [(some (.var (.ints .u64 16 x1))), (some (.var (.ints .u64 8 x2))), (some (.var (.ints .u64 8 x3))), (some (.var (.ints .u64 4 x4)))])) = q01_Mul.l5_0.r (fun a0 a1 => ((Prod.mk (.exit 0) (St.mk [(.ptr 0 []), (.ptr 1 [])] [(some (.var (.ints .u64 16 a0))), (some (.var (.ints .u64 4 a1)))])) : Ex × St)) n (fun y0 y1 y2 y3 y4 => rc ((St.mk [(.int .i64 y0), (.ptr 0 []), (.ptr 1 []), (.ptr 2 []), (.ptr 3 [])] [(some (.var (.ints .u64 16 y1))), (some (.var (.ints .u64 8 y2))), (some (.var (.ints .u64 8 y3))), (some (.var (.ints .u64 4 y4)))]))) x0 x1 x2 x3 x4 := by kernel_rfl
theorem q01_Mul.l5_0.loop' (n : Nat) : ∀ (m : Nat) (t : (Int × ((List Int) × ((List Int) × ((List Int) × (List Int)))))), loopOf (roundOf (q01_Mul.C n) (q01_Mul.A n) n q01_Mul.b0) m (q01_Mul.l5_0.shape t) = q01_Mul.l5_0.g (fun a0 a1 => ((Prod.mk (.exit 0) (St.mk [(.ptr 0 []), (.ptr 1 [])] [(some (.var (.ints .u64 16 a0))), (some (.var (.ints .u64 4 a1)))])) : Ex × St)) n m t.1 t.2.1 t.2.2.1 t.2.2.2.1 t.2.2.2.2 :=
  loop_of_round (shape := q01_Mul.l5_0.shape) (body := roundOf (q01_Mul.C n) (q01_Mul.A n) n q01_Mul.b0) (g := fun m t => q01_Mul.l5_0.g (fun a0 a1 => ((Prod.mk (.exit 0) (St.mk [(.ptr 0 []), (.ptr 1 [])] [(some (.var (.ints .u64 16 a0))), (some (.var (.ints .u64 4 a1)))])) : Ex × St)) n m t.1 t.2.1 t.2.2.1 t.2.2.2.1 t.2.2.2.2) (fun t => rfl)
    fun m t ih => (q01_Mul.l5_0.round n (loopOf (roundOf (q01_Mul.C n) (q01_Mul.A n) n q01_Mul.b0) m) t.1 t.2.1 t.2.2.1 t.2.2.2.1 t.2.2.2.2).trans (congrFun (congrFun (congrFun (congrFun (congrFun (congrArg (q01_Mul.l5_0.r (fun a0 a1 => ((Prod.mk (.exit 0) (St.mk [(.ptr 0 []), (.ptr 1 [])] [(some (.var (.ints .u64 16 a0))), (some (.var (.ints .u64 4 a1)))])) : Ex × St)) n) (funext fun y0 => funext fun y1 => funext fun y2 => funext fun y3 => funext fun y4 => ih (y0, y1, y2, y3, y4))) t.1) t.2.1) t.2.2.1) t.2.2.2.1) t.2.2.2.2)
theorem q01_Mul.l5_0.loop (n m : Nat) (t : (Int × ((List Int) × ((List Int) × ((List Int) × (List Int)))))) : loopOf (roundOf (q01_Mul.C n) (q01_Mul.A n) n q01_Mul.b0) m (q01_Mul.l5_0.shape t) = (q01_Mul.l5_0.m n m t).map q01_Mul.l5_0.res :=
  (q01_Mul.l5_0.loop' n m t).trans (q01_Mul.l5_0.gmap q01_Mul.l5_0.res (fun a0 a1 => (a0, a1)) n m t.1 t.2.1 t.2.2.1 t.2.2.2.1 t.2.2.2.2)
theorem q01_Mul.l18_0.rmap {α β : Type} (h : β → α) (mk0 : Bool → (List Int) → (List Int) → β) (n : Nat) (f : Int → Bool → (List Int) → (List Int) → (List Int) → Option β)  (x0 : Int) (x1 : Bool) (x2 : (List Int)) (x3 : (List Int)) (x4 : (List Int)) : q01_Mul.l18_0.r (fun a0 a1 a2 => (h (mk0 a0 a1 a2))) n (fun y0 y1 y2 y3 y4 => (f y0 y1 y2 y3 y4).map h) x0 x1 x2 x3 x4 = (q01_Mul.l18_0.r mk0 n f x0 x1 x2 x3 x4).map h := by
  unfold q01_Mul.l18_0.r
  exact (ite_map (ite_map (ite_map (ite_map (ite_map (ite_map (ite_map (ite_map (ite_map rfl (ite_map (ite_map rfl rfl) rfl)) rfl) rfl) rfl) rfl) rfl) rfl) rfl) rfl)
theorem q01_Mul.l18_0.gmap {α β : Type} (h : β → α) (mk0 : Bool → (List Int) → (List Int) → β) (n : Nat) : ∀ (m : Nat) (x0 : Int) (x1 : Bool) (x2 : (List Int)) (x3 : (List Int)) (x4 : (List Int)), q01_Mul.l18_0.g (fun a0 a1 a2 => (h (mk0 a0 a1 a2))) n m x0 x1 x2 x3 x4 = (q01_Mul.l18_0.g mk0 n m x0 x1 x2 x3 x4).map h
  | 0, _, _, _, _, _ => rfl
  | m + 1, x0, x1, x2, x3, x4 => by
    unfold q01_Mul.l18_0.g
    rw [← q01_Mul.l18_0.rmap]
    congr
    · funext y0 y1 y2 y3 y4; exact q01_Mul.l18_0.gmap h mk0 n m y0 y1 y2 y3 y4
theorem q01_Mul.l18_0.pat_shape : ∀ st t, q01_Mul.l18_0.pat st = some t → st = q01_Mul.l18_0.shape t := by
  intro st t h
  unfold q01_Mul.l18_0.pat at h
  split at h
  · cases h; rfl
  · cases h
theorem q01_Mul.l18_0.round (n : Nat) (rc : St → Option (Ex × St)) (x0 : Int) (x1 : Bool) (x2 : (List Int)) (x3 : (List Int)) (x4 : (List Int)) : roundOf (q01_Mul.C n) (q01_Mul.A n) n q01_Mul.b2 rc ((St.mk [(.int .i64 x0), (.ptr 0 []), (.ptr 1 []), (.bool x1), (.ptr 2 [])] [(some (.var (.ints .u64 4 x2))), (some (.var (.ints .u64 16 x3))), (some (.var (.ints .u64 4 x4)))])) = q01_Mul.l18_0.r (fun a0 a1 a2 => ((Prod.mk (.exit 4) (St.mk [(.ptr 0 []), (.bool a0), (.ptr 1 [])] [(some (.var (.ints .u64 4 a1))), (some (.var (.ints .u64 4 a2)))])) : Ex × St)) n (fun y0 y1 y2 y3 y4 => rc ((St.mk [(.int .i64 y0), (.ptr 0 []), (.ptr 1 []), (.bool y1), (.ptr 2 [])] [(some (.var (.ints .u64 4 y2))), (some (.var (.ints .u64 16 y3))), (some (.var (.ints .u64 4 y4)))]))) x0 x1 x2 x3 x4 := by kernel_rfl
theorem q01_Mul.l18_0.loop' (n : Nat) : ∀ (m : Nat) (t : (Int × (Bool × ((List Int) × ((List Int) × (List Int)))))), loopOf (roundOf (q01_Mul.C n) (q01_Mul.A n) n q01_Mul.b2) m (q01_Mul.l18_0.shape t) = q01_Mul.l18_0.g (fun a0 a1 a2 => ((Prod.mk (.exit 4) (St.mk [(.ptr 0 []), (.bool a0), (.ptr 1 [])] [(some (.var (.ints .u64 4 a1))), (some (.var (.ints .u64 4 a2)))])) : Ex × St)) n m t.1 t.2.1 t.2.2.1 t.2.2.2.1 t.2.2.2.2 :=
  loop_of_round (shape := q01_Mul.l18_0.shape) (body := roundOf (q01_Mul.C n) (q01_Mul.A n) n q01_Mul.b2) (g := fun m t => q01_Mul.l18_0.g (fun a0 a1 a2 => ((Prod.mk (.exit 4) (St.mk [(.ptr 0 []), (.bool a0), (.ptr 1 [])] [(some (.var (.ints .u64 4 a1))), (some (.var (.ints .u64 4 a2)))])) : Ex × St)) n m t.1 t.2.1 t.2.2.1 t.2.2.2.1 t.2.2.2.2) (fun t => rfl)
    fun m t ih => (q01_Mul.l18_0.round n (loopOf (roundOf (q01_Mul.C n) (q01_Mul.A n) n q01_Mul.b2) m) t.1 t.2.1 t.2.2.1 t.2.2.2.1 t.2.2.2.2).trans (congrFun (congrFun (congrFun (congrFun (congrFun (congrArg (q01_Mul.l18_0.r (fun a0 a1 a2 => ((Prod.mk (.exit 4) (St.mk [(.ptr 0 []), (.bool a0), (.ptr 1 [])] [(some (.var (.ints .u64 4 a1))), (some (.var (.ints .u64 4 a2)))])) : Ex × St)) n) (funext fun y0 => funext fun y1 => funext fun y2 => funext fun y3 => funext fun y4 => ih (y0, y1, y2, y3, y4))) t.1) t.2.1) t.2.2.1) t.2.2.2.1) t.2.2.2.2)
theorem q01_Mul.l18_0.loop (n m : Nat) (t : (Int × (Bool × ((List Int) × ((List Int) × (List Int)))))) : loopOf (roundOf (q01_Mul.C n) (q01_Mul.A n) n q01_Mul.b2) m (q01_Mul.l18_0.shape t) = (q01_Mul.l18_0.m n m t).map q01_Mul.l18_0.res :=
  (q01_Mul.l18_0.loop' n m t).trans (q01_Mul.l18_0.gmap q01_Mul.l18_0.res (fun a0 a1 a2 => (a0, a1, a2)) n m t.1 t.2.1 t.2.2.1 t.2.2.2.1 t.2.2.2.2)
theorem q01_Mul.gmap {α β : Type} (h : β → α) (mk0 : (List Int) → Bool → β) (n : Nat) (a0 : (List Int)) (a1 : (List Int)) : q01_Mul.g (fun a0 a1 => (h (mk0 a0 a1))) n a0 a1 = (q01_Mul.g mk0 n a0 a1).map h := by
  unfold q01_Mul.g
  exact (bindO_map fun r2 => (bindO_map fun r4 => (bindO_map fun r6 => (bindO_map fun r8 => rfl))))
theorem q01_Mul.run (n : Nat) (a0 : (List Int)) (a1 : (List Int)) : runF (q01_Mul.C n) (q01_Mul.A n) n Try.f98 [(.ints .u64 4 a0), (.ints .u64 4 a1)] [] (fun v o => some (v, o)) = q01_Mul.g (fun a0 a1 => ((Prod.mk (.tup [(.ints .u64 4 a0), (.bool a1)]) []) : AV × Blks)) n a0 a1 := by kernel_rfl
theorem q01_Mul.call (hmix : Try.prog.follows .mixedOrders = true) (n : Nat) (t : ((List Int) × (List Int))) (u) (h : q01_Mul.m n t = some u) : FnC Try.prog (fun _ => .any) 98 (q01_Mul.shape t).1 (q01_Mul.shape t).2 (q01_Mul.res u).1 (q01_Mul.res u).2 := by
  have hg : ∀ f m, (q01_Mul.C n).Γ f = some m → CalleeS Try.prog (fun _ => .any) f m := by
    intro f m hm
    unfold q01_Mul.C at hm
    simp only at hm
    first
    | (cases hm; done)
    | (split at hm <;> first
    | (cases hm; exact q01_halves.s hmix n)
    | (cases hm; done))
  have hb : Try.f98.body = some (Try.f98.body.getD .skip) := by kernel_rfl
  refine runF_calls (C := q01_Mul.C n) (A := q01_Mul.A n) (n := n) (fn := Try.f98) hg hmix Try.func98 hb ?_ ?_ (by decide) rfl rfl (by show 2 ≤ Try.f98.ntmps; decide) ?_
  · rw [show loopsIn (Try.f98.body.getD .skip) = [q01_Mul.b0, q01_Mul.b1, q01_Mul.b2] by kernel_rfl]
    intro b hb m hm
    simp only [List.mem_cons, List.not_mem_nil, or_false] at hb
    rcases hb with rfl | rfl | rfl
    · have e : (q01_Mul.A n).loop (key q01_Mul.b0) = some (.mk' q01_Mul.l5_0.pat (q01_Mul.l5_0.m n n) q01_Mul.l5_0.resK) := by rw [show key q01_Mul.b0 = 5 by kernel_rfl]; rfl
      rw [e] at hm
      cases hm
      exact LoopS.of (res := q01_Mul.l5_0.res) (fun R u K => rfl) q01_Mul.l5_0.pat_shape fun t => q01_Mul.l5_0.loop n n t
    · have e : (q01_Mul.A n).loop (key q01_Mul.b1) = some (.mk' q01_Mul.l9_0.pat (q01_Mul.l9_0.m n n) q01_Mul.l9_0.resK) := by rw [show key q01_Mul.b1 = 9 by kernel_rfl]; rfl
      rw [e] at hm
      cases hm
      exact LoopS.of (res := q01_Mul.l9_0.res) (fun R u K => rfl) q01_Mul.l9_0.pat_shape fun t => q01_Mul.l9_0.loop n n t
    · have e : (q01_Mul.A n).loop (key q01_Mul.b2) = some (.mk' q01_Mul.l18_0.pat (q01_Mul.l18_0.m n n) q01_Mul.l18_0.resK) := by rw [show key q01_Mul.b2 = 18 by kernel_rfl]; rfl
      rw [e] at hm
      cases hm
      exact LoopS.of (res := q01_Mul.l18_0.res) (fun R u K => rfl) q01_Mul.l18_0.pat_shape fun t => q01_Mul.l18_0.loop n n t
  · intro a ha m hm
    cases (show none = some m from hm)
  · rw [show runF (q01_Mul.C n) (q01_Mul.A n) n Try.f98 (q01_Mul.shape t).1 (q01_Mul.shape t).2 (fun v o => some (v, o)) = _ from q01_Mul.run n t.1 t.2]
    have e := q01_Mul.gmap q01_Mul.res (fun a0 a1 => (a0, a1)) n t.1 t.2
    unfold q01_Mul.m at h
    rw [h] at e
    exact e
theorem q01_Mul.s (hmix : Try.prog.follows .mixedOrders = true) (n : Nat) : CalleeS Try.prog (fun _ => .any) 98 (q01_Mul.c n) :=
  CalleeS.of (res := q01_Mul.res) (shape := q01_Mul.shape) (fun R u K => rfl) (fun args lent t h => by
    unfold q01_Mul.pat at h
    split at h
    · cases h; rfl
    · cases h) fun t u h => (q01_Mul.call hmix n t u h).ok Try.func98 (by decide) (by kernel_rfl)
end
section
noncomputable section
noncomputable def word_Cmp.C (n : Nat) : Ctx := ⟨Try.prog, (fun _ => .any), fun f => match f with
 | 90 => some (word_Sub.c n)
 | _ => none⟩
def word_Cmp.live : Nat → List Nat × List Nat := fun k => match k with
 | _ => ([], [])
def word_Cmp.jlive : Nat → List Nat × List Nat := fun k => match k with
 | _ => ([], [])
noncomputable def word_Cmp.A (n : Nat) : Ann := ⟨Try.f83.ntmps, 0, word_Cmp.live, [], [none], fun k => match k with
 | _ => none, word_Cmp.jlive, lookJ []⟩
def word_Cmp.g {α : Type} (mk0 : Int → α) (n : Nat) (a0 : (List Int)) (a1 : (List Int)) : Option α :=
 bindO (word_Sub.m n (Prod.mk a0 a1)) fun r2 =>
  if (Prod.snd r2) = true then
   some (mk0 (-1))
  else
   if (a0 == a1) = true then
    some (mk0 0)
   else
    some (mk0 1)
def word_Cmp.m (n : Nat) (t : ((List Int) × (List Int))) : Option Int := word_Cmp.g (fun a0 => a0) n t.1 t.2
def word_Cmp.pat : List AV → Blks → Option ((List Int) × (List Int))
 | [(.ints .u64 4 a0), (.ints .u64 4 a1)], [] => some (a0, a1)
 | _, _ => none
def word_Cmp.shape (t : ((List Int) × (List Int))) : List AV × Blks := ([(.ints .u64 4 t.1), (.ints .u64 4 t.2)], [])
def word_Cmp.res : Int → AV × Blks
 | u => (Prod.mk (.int .i64 u) [])
def word_Cmp.resK {R : Type} (u : Int) (K : AV → Blks → Option R) : Option R := (fun p : AV × Blks => K p.1 p.2) (Prod.mk (.int .i64 u) [])
def word_Cmp.c (n : Nat) : Abs.Callee := .mk' [] [none, none] word_Cmp.pat (word_Cmp.m n) word_Cmp.resK
end
end
section
noncomputable section
noncomputable def word_Scmp.C (n : Nat) : Ctx := ⟨Try.prog, (fun _ => .any), fun f => match f with
 | 83 => some (word_Cmp.c n)
 | _ => none⟩
def word_Scmp.live : Nat → List Nat × List Nat := fun k => match k with
 | _ => ([], [])
def word_Scmp.jlive : Nat → List Nat × List Nat := fun k => match k with
 | _ => ([], [])
noncomputable def word_Scmp.A (n : Nat) : Ann := ⟨Try.f84.ntmps, 0, word_Scmp.live, [], [none], fun k => match k with
 | _ => none, word_Scmp.jlive, lookJ []⟩
def word_Scmp.g {α : Type} (mk0 : Int → α) (n : Nat) (a0 : (List Int)) (a1 : (List Int)) : Option α :=
 bindO (word_Cmp.m n (Prod.mk (List.set a0 3 (ibits BinOp.xor .u64 (List.getD a0 3 0) 9223372036854775808)) (List.set a1 3 (ibits BinOp.xor .u64 (List.getD a1 3 0) 9223372036854775808)))) fun r2 =>
  some (mk0 r2)
def word_Scmp.m (n : Nat) (t : ((List Int) × (List Int))) : Option Int := word_Scmp.g (fun a0 => a0) n t.1 t.2
def word_Scmp.pat : List AV → Blks → Option ((List Int) × (List Int))
 | [(.ints .u64 4 a0), (.ints .u64 4 a1)], [] => some (a0, a1)
 | _, _ => none
def word_Scmp.shape (t : ((List Int) × (List Int))) : List AV × Blks := ([(.ints .u64 4 t.1), (.ints .u64 4 t.2)], [])
def word_Scmp.res : Int → AV × Blks
 | u => (Prod.mk (.int .i64 u) [])
def word_Scmp.resK {R : Type} (u : Int) (K : AV → Blks → Option R) : Option R := (fun p : AV × Blks => K p.1 p.2) (Prod.mk (.int .i64 u) [])
def word_Scmp.c (n : Nat) : Abs.Callee := .mk' [] [none, none] word_Scmp.pat (word_Scmp.m n) word_Scmp.resK
end
end
section
theorem word_Cmp.gmap {α β : Type} (h : β → α) (mk0 : Int → β) (n : Nat) (a0 : (List Int)) (a1 : (List Int)) : word_Cmp.g (fun a0 => (h (mk0 a0))) n a0 a1 = (word_Cmp.g mk0 n a0 a1).map h := by
  unfold word_Cmp.g
  exact (bindO_map fun r2 => (ite_map rfl (ite_map rfl rfl)))
theorem word_Cmp.run (n : Nat) (a0 : (List Int)) (a1 : (List Int)) : runF (word_Cmp.C n) (word_Cmp.A n) n Try.f83 [(.ints .u64 4 a0), (.ints .u64 4 a1)] [] (fun v o => some (v, o)) = word_Cmp.g (fun a0 => ((Prod.mk (.int .i64 a0) []) : AV × Blks)) n a0 a1 := by kernel_rfl
theorem word_Cmp.call (hmix : Try.prog.follows .mixedOrders = true) (n : Nat) (t : ((List Int) × (List Int))) (u) (h : word_Cmp.m n t = some u) : FnC Try.prog (fun _ => .any) 83 (word_Cmp.shape t).1 (word_Cmp.shape t).2 (word_Cmp.res u).1 (word_Cmp.res u).2 := by
  have hg : ∀ f m, (word_Cmp.C n).Γ f = some m → CalleeS Try.prog (fun _ => .any) f m := by
    intro f m hm
    unfold word_Cmp.C at hm
    simp only at hm
    first
    | (cases hm; done)
    | (split at hm <;> first
    | (cases hm; exact word_Sub.s hmix n)
    | (cases hm; done))
  have hb : Try.f83.body = some (Try.f83.body.getD .skip) := by kernel_rfl
  refine runF_calls (C := word_Cmp.C n) (A := word_Cmp.A n) (n := n) (fn := Try.f83) hg hmix Try.func83 hb ?_ ?_ (by decide) rfl rfl (by show 2 ≤ Try.f83.ntmps; decide) ?_
  · rw [show loopsIn (Try.f83.body.getD .skip) = [] by kernel_rfl]
    intro b hb
    cases hb
  · intro a ha m hm
    cases (show none = some m from hm)
  · rw [show runF (word_Cmp.C n) (word_Cmp.A n) n Try.f83 (word_Cmp.shape t).1 (word_Cmp.shape t).2 (fun v o => some (v, o)) = _ from word_Cmp.run n t.1 t.2]
    have e := word_Cmp.gmap word_Cmp.res (fun a0 => a0) n t.1 t.2
    unfold word_Cmp.m at h
    rw [h] at e
    exact e
theorem word_Cmp.s (hmix : Try.prog.follows .mixedOrders = true) (n : Nat) : CalleeS Try.prog (fun _ => .any) 83 (word_Cmp.c n) :=
  CalleeS.of (res := word_Cmp.res) (shape := word_Cmp.shape) (fun R u K => rfl) (fun args lent t h => by
    unfold word_Cmp.pat at h
    split at h
    · cases h; rfl
    · cases h) fun t u h => (word_Cmp.call hmix n t u h).ok Try.func83 (by decide) (by kernel_rfl)
end
section
theorem word_Scmp.gmap {α β : Type} (h : β → α) (mk0 : Int → β) (n : Nat) (a0 : (List Int)) (a1 : (List Int)) : word_Scmp.g (fun a0 => (h (mk0 a0))) n a0 a1 = (word_Scmp.g mk0 n a0 a1).map h := by
  unfold word_Scmp.g
  exact (bindO_map fun r2 => rfl)
theorem word_Scmp.run (n : Nat) (a0 : (List Int)) (a1 : (List Int)) : runF (word_Scmp.C n) (word_Scmp.A n) n Try.f84 [(.ints .u64 4 a0), (.ints .u64 4 a1)] [] (fun v o => some (v, o)) = word_Scmp.g (fun a0 => ((Prod.mk (.int .i64 a0) []) : AV × Blks)) n a0 a1 := by kernel_rfl
theorem word_Scmp.call (hmix : Try.prog.follows .mixedOrders = true) (n : Nat) (t : ((List Int) × (List Int))) (u) (h : word_Scmp.m n t = some u) : FnC Try.prog (fun _ => .any) 84 (word_Scmp.shape t).1 (word_Scmp.shape t).2 (word_Scmp.res u).1 (word_Scmp.res u).2 := by
  have hg : ∀ f m, (word_Scmp.C n).Γ f = some m → CalleeS Try.prog (fun _ => .any) f m := by
    intro f m hm
    unfold word_Scmp.C at hm
    simp only at hm
    first
    | (cases hm; done)
    | (split at hm <;> first
    | (cases hm; exact word_Cmp.s hmix n)
    | (cases hm; done))
  have hb : Try.f84.body = some (Try.f84.body.getD .skip) := by kernel_rfl
  refine runF_calls (C := word_Scmp.C n) (A := word_Scmp.A n) (n := n) (fn := Try.f84) hg hmix Try.func84 hb ?_ ?_ (by decide) rfl rfl (by show 2 ≤ Try.f84.ntmps; decide) ?_
  · rw [show loopsIn (Try.f84.body.getD .skip) = [] by kernel_rfl]
    intro b hb
    cases hb
  · intro a ha m hm
    cases (show none = some m from hm)
  · rw [show runF (word_Scmp.C n) (word_Scmp.A n) n Try.f84 (word_Scmp.shape t).1 (word_Scmp.shape t).2 (fun v o => some (v, o)) = _ from word_Scmp.run n t.1 t.2]
    have e := word_Scmp.gmap word_Scmp.res (fun a0 => a0) n t.1 t.2
    unfold word_Scmp.m at h
    rw [h] at e
    exact e
theorem word_Scmp.s (hmix : Try.prog.follows .mixedOrders = true) (n : Nat) : CalleeS Try.prog (fun _ => .any) 84 (word_Scmp.c n) :=
  CalleeS.of (res := word_Scmp.res) (shape := word_Scmp.shape) (fun R u K => rfl) (fun args lent t h => by
    unfold word_Scmp.pat at h
    split at h
    · cases h; rfl
    · cases h) fun t u h => (word_Scmp.call hmix n t u h).ok Try.func84 (by decide) (by kernel_rfl)
end
section
noncomputable section
noncomputable def word_negative.C (n : Nat) : Ctx := ⟨Try.prog, (fun _ => .any), fun f => match f with
 | _ => none⟩
def word_negative.live : Nat → List Nat × List Nat := fun k => match k with
 | _ => ([], [])
def word_negative.jlive : Nat → List Nat × List Nat := fun k => match k with
 | _ => ([], [])
noncomputable def word_negative.A (n : Nat) : Ann := ⟨Try.f87.ntmps, 0, word_negative.live, [], [none], fun k => match k with
 | _ => none, word_negative.jlive, lookJ []⟩
def word_negative.g {α : Type} (mk0 : Bool → α) (n : Nat) (a0 : (List Int)) : Option α :=
 some (mk0 (decide ((IntKind.wrap .i64 (List.getD a0 3 0)) < 0)))
def word_negative.m (n : Nat) (t : (List Int)) : Option Bool := word_negative.g (fun a0 => a0) n t
def word_negative.pat : List AV → Blks → Option (List Int)
 | [(.ints .u64 4 a0)], [] => some a0
 | _, _ => none
def word_negative.shape (t : (List Int)) : List AV × Blks := ([(.ints .u64 4 t)], [])
def word_negative.res : Bool → AV × Blks
 | u => (Prod.mk (.bool u) [])
def word_negative.resK {R : Type} (u : Bool) (K : AV → Blks → Option R) : Option R := (fun p : AV × Blks => K p.1 p.2) (Prod.mk (.bool u) [])
def word_negative.c (n : Nat) : Abs.Callee := .mk' [] [none] word_negative.pat (word_negative.m n) word_negative.resK
end
end
section
noncomputable section
noncomputable def word_minus.C (n : Nat) : Ctx := ⟨Try.prog, (fun _ => .any), fun f => match f with
 | 90 => some (word_Sub.c n)
 | _ => none⟩
def word_minus.live : Nat → List Nat × List Nat := fun k => match k with
 | _ => ([], [])
def word_minus.jlive : Nat → List Nat × List Nat := fun k => match k with
 | _ => ([], [])
noncomputable def word_minus.A (n : Nat) : Ann := ⟨Try.f117.ntmps, 0, word_minus.live, [], [none], fun k => match k with
 | _ => none, word_minus.jlive, lookJ []⟩
def word_minus.g {α : Type} (mk0 : (List Int) → α) (n : Nat) (a0 : (List Int)) : Option α :=
 bindO (word_Sub.m n (Prod.mk [0, 0, 0, 0] a0)) fun r2 =>
  some (mk0 (Prod.fst r2))
def word_minus.m (n : Nat) (t : (List Int)) : Option (List Int) := word_minus.g (fun a0 => a0) n t
def word_minus.pat : List AV → Blks → Option (List Int)
 | [(.ints .u64 4 a0)], [] => some a0
 | _, _ => none
def word_minus.shape (t : (List Int)) : List AV × Blks := ([(.ints .u64 4 t)], [])
def word_minus.res : (List Int) → AV × Blks
 | u => (Prod.mk (.ints .u64 4 u) [])
def word_minus.resK {R : Type} (u : (List Int)) (K : AV → Blks → Option R) : Option R := (fun p : AV × Blks => K p.1 p.2) (Prod.mk (.ints .u64 4 u) [])
def word_minus.c (n : Nat) : Abs.Callee := .mk' [] [none] word_minus.pat (word_minus.m n) word_minus.resK
end
end
section
noncomputable section
noncomputable def word_abs.C (n : Nat) : Ctx := ⟨Try.prog, (fun _ => .any), fun f => match f with
 | 87 => some (word_negative.c n)
 | 117 => some (word_minus.c n)
 | _ => none⟩
def word_abs.live : Nat → List Nat × List Nat := fun k => match k with
 | _ => ([], [])
def word_abs.jlive : Nat → List Nat × List Nat := fun k => match k with
 | _ => ([], [])
noncomputable def word_abs.A (n : Nat) : Ann := ⟨Try.f116.ntmps, 0, word_abs.live, [], [none], fun k => match k with
 | _ => none, word_abs.jlive, lookJ []⟩
def word_abs.g {α : Type} (mk0 : (List Int) → α) (n : Nat) (a0 : (List Int)) : Option α :=
 bindO (word_negative.m n a0) fun r2 =>
  if r2 = true then
   bindO (word_minus.m n a0) fun r6 =>
    some (mk0 r6)
  else
   some (mk0 a0)
def word_abs.m (n : Nat) (t : (List Int)) : Option (List Int) := word_abs.g (fun a0 => a0) n t
def word_abs.pat : List AV → Blks → Option (List Int)
 | [(.ints .u64 4 a0)], [] => some a0
 | _, _ => none
def word_abs.shape (t : (List Int)) : List AV × Blks := ([(.ints .u64 4 t)], [])
def word_abs.res : (List Int) → AV × Blks
 | u => (Prod.mk (.ints .u64 4 u) [])
def word_abs.resK {R : Type} (u : (List Int)) (K : AV → Blks → Option R) : Option R := (fun p : AV × Blks => K p.1 p.2) (Prod.mk (.ints .u64 4 u) [])
def word_abs.c (n : Nat) : Abs.Callee := .mk' [] [none] word_abs.pat (word_abs.m n) word_abs.resK
end
end
section
theorem word_negative.gmap {α β : Type} (h : β → α) (mk0 : Bool → β) (n : Nat) (a0 : (List Int)) : word_negative.g (fun a0 => (h (mk0 a0))) n a0 = (word_negative.g mk0 n a0).map h := by
  unfold word_negative.g
  exact rfl
theorem word_negative.run (n : Nat) (a0 : (List Int)) : runF (word_negative.C n) (word_negative.A n) n Try.f87 [(.ints .u64 4 a0)] [] (fun v o => some (v, o)) = word_negative.g (fun a0 => ((Prod.mk (.bool a0) []) : AV × Blks)) n a0 := by kernel_rfl
theorem word_negative.call (hmix : Try.prog.follows .mixedOrders = true) (n : Nat) (t : (List Int)) (u) (h : word_negative.m n t = some u) : FnC Try.prog (fun _ => .any) 87 (word_negative.shape t).1 (word_negative.shape t).2 (word_negative.res u).1 (word_negative.res u).2 := by
  have hg : ∀ f m, (word_negative.C n).Γ f = some m → CalleeS Try.prog (fun _ => .any) f m := by
    intro f m hm
    unfold word_negative.C at hm
    simp only at hm
    first
    | (cases hm; done)
    | (split at hm <;> first
    | (cases hm; done))
  have hb : Try.f87.body = some (Try.f87.body.getD .skip) := by kernel_rfl
  refine runF_calls (C := word_negative.C n) (A := word_negative.A n) (n := n) (fn := Try.f87) hg hmix Try.func87 hb ?_ ?_ (by decide) rfl rfl (by show 1 ≤ Try.f87.ntmps; decide) ?_
  · rw [show loopsIn (Try.f87.body.getD .skip) = [] by kernel_rfl]
    intro b hb
    cases hb
  · intro a ha m hm
    cases (show none = some m from hm)
  · rw [show runF (word_negative.C n) (word_negative.A n) n Try.f87 (word_negative.shape t).1 (word_negative.shape t).2 (fun v o => some (v, o)) = _ from word_negative.run n t]
    have e := word_negative.gmap word_negative.res (fun a0 => a0) n t
    unfold word_negative.m at h
    rw [h] at e
    exact e
theorem word_negative.s (hmix : Try.prog.follows .mixedOrders = true) (n : Nat) : CalleeS Try.prog (fun _ => .any) 87 (word_negative.c n) :=
  CalleeS.of (res := word_negative.res) (shape := word_negative.shape) (fun R u K => rfl) (fun args lent t h => by
    unfold word_negative.pat at h
    split at h
    · cases h; rfl
    · cases h) fun t u h => (word_negative.call hmix n t u h).ok Try.func87 (by decide) (by kernel_rfl)
end
section
theorem word_minus.gmap {α β : Type} (h : β → α) (mk0 : (List Int) → β) (n : Nat) (a0 : (List Int)) : word_minus.g (fun a0 => (h (mk0 a0))) n a0 = (word_minus.g mk0 n a0).map h := by
  unfold word_minus.g
  exact (bindO_map fun r2 => rfl)
theorem word_minus.run (n : Nat) (a0 : (List Int)) : runF (word_minus.C n) (word_minus.A n) n Try.f117 [(.ints .u64 4 a0)] [] (fun v o => some (v, o)) = word_minus.g (fun a0 => ((Prod.mk (.ints .u64 4 a0) []) : AV × Blks)) n a0 := by kernel_rfl
theorem word_minus.call (hmix : Try.prog.follows .mixedOrders = true) (n : Nat) (t : (List Int)) (u) (h : word_minus.m n t = some u) : FnC Try.prog (fun _ => .any) 117 (word_minus.shape t).1 (word_minus.shape t).2 (word_minus.res u).1 (word_minus.res u).2 := by
  have hg : ∀ f m, (word_minus.C n).Γ f = some m → CalleeS Try.prog (fun _ => .any) f m := by
    intro f m hm
    unfold word_minus.C at hm
    simp only at hm
    first
    | (cases hm; done)
    | (split at hm <;> first
    | (cases hm; exact word_Sub.s hmix n)
    | (cases hm; done))
  have hb : Try.f117.body = some (Try.f117.body.getD .skip) := by kernel_rfl
  refine runF_calls (C := word_minus.C n) (A := word_minus.A n) (n := n) (fn := Try.f117) hg hmix Try.func117 hb ?_ ?_ (by decide) rfl rfl (by show 1 ≤ Try.f117.ntmps; decide) ?_
  · rw [show loopsIn (Try.f117.body.getD .skip) = [] by kernel_rfl]
    intro b hb
    cases hb
  · intro a ha m hm
    cases (show none = some m from hm)
  · rw [show runF (word_minus.C n) (word_minus.A n) n Try.f117 (word_minus.shape t).1 (word_minus.shape t).2 (fun v o => some (v, o)) = _ from word_minus.run n t]
    have e := word_minus.gmap word_minus.res (fun a0 => a0) n t
    unfold word_minus.m at h
    rw [h] at e
    exact e
theorem word_minus.s (hmix : Try.prog.follows .mixedOrders = true) (n : Nat) : CalleeS Try.prog (fun _ => .any) 117 (word_minus.c n) :=
  CalleeS.of (res := word_minus.res) (shape := word_minus.shape) (fun R u K => rfl) (fun args lent t h => by
    unfold word_minus.pat at h
    split at h
    · cases h; rfl
    · cases h) fun t u h => (word_minus.call hmix n t u h).ok Try.func117 (by decide) (by kernel_rfl)
end
section
theorem word_abs.gmap {α β : Type} (h : β → α) (mk0 : (List Int) → β) (n : Nat) (a0 : (List Int)) : word_abs.g (fun a0 => (h (mk0 a0))) n a0 = (word_abs.g mk0 n a0).map h := by
  unfold word_abs.g
  exact (bindO_map fun r2 => (ite_map (bindO_map fun r6 => rfl) rfl))
theorem word_abs.run (n : Nat) (a0 : (List Int)) : runF (word_abs.C n) (word_abs.A n) n Try.f116 [(.ints .u64 4 a0)] [] (fun v o => some (v, o)) = word_abs.g (fun a0 => ((Prod.mk (.ints .u64 4 a0) []) : AV × Blks)) n a0 := by kernel_rfl
theorem word_abs.call (hmix : Try.prog.follows .mixedOrders = true) (n : Nat) (t : (List Int)) (u) (h : word_abs.m n t = some u) : FnC Try.prog (fun _ => .any) 116 (word_abs.shape t).1 (word_abs.shape t).2 (word_abs.res u).1 (word_abs.res u).2 := by
  have hg : ∀ f m, (word_abs.C n).Γ f = some m → CalleeS Try.prog (fun _ => .any) f m := by
    intro f m hm
    unfold word_abs.C at hm
    simp only at hm
    first
    | (cases hm; done)
    | (split at hm <;> first
    | (cases hm; exact word_negative.s hmix n)
    | (cases hm; exact word_minus.s hmix n)
    | (cases hm; done))
  have hb : Try.f116.body = some (Try.f116.body.getD .skip) := by kernel_rfl
  refine runF_calls (C := word_abs.C n) (A := word_abs.A n) (n := n) (fn := Try.f116) hg hmix Try.func116 hb ?_ ?_ (by decide) rfl rfl (by show 1 ≤ Try.f116.ntmps; decide) ?_
  · rw [show loopsIn (Try.f116.body.getD .skip) = [] by kernel_rfl]
    intro b hb
    cases hb
  · intro a ha m hm
    cases (show none = some m from hm)
  · rw [show runF (word_abs.C n) (word_abs.A n) n Try.f116 (word_abs.shape t).1 (word_abs.shape t).2 (fun v o => some (v, o)) = _ from word_abs.run n t]
    have e := word_abs.gmap word_abs.res (fun a0 => a0) n t
    unfold word_abs.m at h
    rw [h] at e
    exact e
theorem word_abs.s (hmix : Try.prog.follows .mixedOrders = true) (n : Nat) : CalleeS Try.prog (fun _ => .any) 116 (word_abs.c n) :=
  CalleeS.of (res := word_abs.res) (shape := word_abs.shape) (fun R u K => rfl) (fun args lent t h => by
    unfold word_abs.pat at h
    split at h
    · cases h; rfl
    · cases h) fun t u h => (word_abs.call hmix n t u h).ok Try.func116 (by decide) (by kernel_rfl)
end
section
noncomputable section
noncomputable def q01_neg.C (n : Nat) : Ctx := ⟨Try.prog, (fun _ => .any), fun f => match f with
 | _ => none⟩
def q01_neg.live : Nat → List Nat × List Nat := fun k => match k with
 | _ => ([], [])
def q01_neg.jlive : Nat → List Nat × List Nat := fun k => match k with
 | _ => ([], [])
noncomputable def q01_neg.A (n : Nat) : Ann := ⟨Try.f107.ntmps, 0, q01_neg.live, [], [none], fun k => match k with
 | _ => none, q01_neg.jlive, lookJ []⟩
def q01_neg.g {α : Type} (mk0 : Bool → α) (n : Nat) (a0 : (List Int)) : Option α :=
 some (mk0 ((ishr .u64 (List.getD a0 3 0) 63) == 1))
def q01_neg.m (n : Nat) (t : (List Int)) : Option Bool := q01_neg.g (fun a0 => a0) n t
def q01_neg.pat : List AV → Blks → Option (List Int)
 | [(.ints .u64 4 a0)], [] => some a0
 | _, _ => none
def q01_neg.shape (t : (List Int)) : List AV × Blks := ([(.ints .u64 4 t)], [])
def q01_neg.res : Bool → AV × Blks
 | u => (Prod.mk (.bool u) [])
def q01_neg.resK {R : Type} (u : Bool) (K : AV → Blks → Option R) : Option R := (fun p : AV × Blks => K p.1 p.2) (Prod.mk (.bool u) [])
def q01_neg.c (n : Nat) : Abs.Callee := .mk' [] [none] q01_neg.pat (q01_neg.m n) q01_neg.resK
end
end
section
noncomputable section
noncomputable def q01_Scmp.C (n : Nat) : Ctx := ⟨Try.prog, (fun _ => .any), fun f => match f with
 | 107 => some (q01_neg.c n)
 | 74 => some (q01_Cmp.c n)
 | _ => none⟩
def q01_Scmp.live : Nat → List Nat × List Nat := fun k => match k with
 | _ => ([], [])
def q01_Scmp.jlive : Nat → List Nat × List Nat := fun k => match k with
 | _ => ([], [])
noncomputable def q01_Scmp.A (n : Nat) : Ann := ⟨Try.f75.ntmps, 0, q01_Scmp.live, [], [none], fun k => match k with
 | _ => none, q01_Scmp.jlive, lookJ []⟩
def q01_Scmp.g {α : Type} (mk0 : Int → α) (n : Nat) (a0 : (List Int)) (a1 : (List Int)) : Option α :=
 bindO (q01_neg.m n a0) fun r2 =>
  bindO (q01_neg.m n a1) fun r4 =>
   if r2 = true then
    if (!r4) = true then
     some (mk0 (-1))
    else
     if r4 = true then
      if (!r2) = true then
       some (mk0 1)
      else
       bindO (q01_Cmp.m n (Prod.mk a0 a1)) fun r14 =>
        some (mk0 r14)
     else
      bindO (q01_Cmp.m n (Prod.mk a0 a1)) fun r12 =>
       some (mk0 r12)
   else
    if r4 = true then
     if (!r2) = true then
      some (mk0 1)
     else
      bindO (q01_Cmp.m n (Prod.mk a0 a1)) fun r12 =>
       some (mk0 r12)
    else
     bindO (q01_Cmp.m n (Prod.mk a0 a1)) fun r10 =>
      some (mk0 r10)
def q01_Scmp.m (n : Nat) (t : ((List Int) × (List Int))) : Option Int := q01_Scmp.g (fun a0 => a0) n t.1 t.2
def q01_Scmp.pat : List AV → Blks → Option ((List Int) × (List Int))
 | [(.ints .u64 4 a0), (.ints .u64 4 a1)], [] => some (a0, a1)
 | _, _ => none
def q01_Scmp.shape (t : ((List Int) × (List Int))) : List AV × Blks := ([(.ints .u64 4 t.1), (.ints .u64 4 t.2)], [])
def q01_Scmp.res : Int → AV × Blks
 | u => (Prod.mk (.int .i64 u) [])
def q01_Scmp.resK {R : Type} (u : Int) (K : AV → Blks → Option R) : Option R := (fun p : AV × Blks => K p.1 p.2) (Prod.mk (.int .i64 u) [])
def q01_Scmp.c (n : Nat) : Abs.Callee := .mk' [] [none, none] q01_Scmp.pat (q01_Scmp.m n) q01_Scmp.resK
end
end
section
theorem q01_neg.gmap {α β : Type} (h : β → α) (mk0 : Bool → β) (n : Nat) (a0 : (List Int)) : q01_neg.g (fun a0 => (h (mk0 a0))) n a0 = (q01_neg.g mk0 n a0).map h := by
  unfold q01_neg.g
  exact rfl
theorem q01_neg.run (n : Nat) (a0 : (List Int)) : runF (q01_neg.C n) (q01_neg.A n) n Try.f107 [(.ints .u64 4 a0)] [] (fun v o => some (v, o)) = q01_neg.g (fun a0 => ((Prod.mk (.bool a0) []) : AV × Blks)) n a0 := by kernel_rfl
theorem q01_neg.call (hmix : Try.prog.follows .mixedOrders = true) (n : Nat) (t : (List Int)) (u) (h : q01_neg.m n t = some u) : FnC Try.prog (fun _ => .any) 107 (q01_neg.shape t).1 (q01_neg.shape t).2 (q01_neg.res u).1 (q01_neg.res u).2 := by
  have hg : ∀ f m, (q01_neg.C n).Γ f = some m → CalleeS Try.prog (fun _ => .any) f m := by
    intro f m hm
    unfold q01_neg.C at hm
    simp only at hm
    first
    | (cases hm; done)
    | (split at hm <;> first
    | (cases hm; done))
  have hb : Try.f107.body = some (Try.f107.body.getD .skip) := by kernel_rfl
  refine runF_calls (C := q01_neg.C n) (A := q01_neg.A n) (n := n) (fn := Try.f107) hg hmix Try.func107 hb ?_ ?_ (by decide) rfl rfl (by show 1 ≤ Try.f107.ntmps; decide) ?_
  · rw [show loopsIn (Try.f107.body.getD .skip) = [] by kernel_rfl]
    intro b hb
    cases hb
  · intro a ha m hm
    cases (show none = some m from hm)
  · rw [show runF (q01_neg.C n) (q01_neg.A n) n Try.f107 (q01_neg.shape t).1 (q01_neg.shape t).2 (fun v o => some (v, o)) = _ from q01_neg.run n t]
    have e := q01_neg.gmap q01_neg.res (fun a0 => a0) n t
    unfold q01_neg.m at h
    rw [h] at e
    exact e
theorem q01_neg.s (hmix : Try.prog.follows .mixedOrders = true) (n : Nat) : CalleeS Try.prog (fun _ => .any) 107 (q01_neg.c n) :=
  CalleeS.of (res := q01_neg.res) (shape := q01_neg.shape) (fun R u K => rfl) (fun args lent t h => by
    unfold q01_neg.pat at h
    split at h
    · cases h; rfl
    · cases h) fun t u h => (q01_neg.call hmix n t u h).ok Try.func107 (by decide) (by kernel_rfl)
end
section
theorem q01_Scmp.gmap {α β : Type} (h : β → α) (mk0 : Int → β) (n : Nat) (a0 : (List Int)) (a1 : (List Int)) : q01_Scmp.g (fun a0 => (h (mk0 a0))) n a0 a1 = (q01_Scmp.g mk0 n a0 a1).map h := by
  unfold q01_Scmp.g
  exact (bindO_map fun r2 => (bindO_map fun r4 => (ite_map (ite_map rfl (ite_map (ite_map rfl (bindO_map fun r14 => rfl)) (bindO_map fun r12 => rfl))) (ite_map (ite_map rfl (bindO_map fun r12 => rfl)) (bindO_map fun r10 => rfl)))))
theorem q01_Scmp.run (n : Nat) (a0 : (List Int)) (a1 : (List Int)) : runF (q01_Scmp.C n) (q01_Scmp.A n) n Try.f75 [(.ints .u64 4 a0), (.ints .u64 4 a1)] [] (fun v o => some (v, o)) = q01_Scmp.g (fun a0 => ((Prod.mk (.int .i64 a0) []) : AV × Blks)) n a0 a1 := by kernel_rfl
theorem q01_Scmp.call (hmix : Try.prog.follows .mixedOrders = true) (n : Nat) (t : ((List Int) × (List Int))) (u) (h : q01_Scmp.m n t = some u) : FnC Try.prog (fun _ => .any) 75 (q01_Scmp.shape t).1 (q01_Scmp.shape t).2 (q01_Scmp.res u).1 (q01_Scmp.res u).2 := by
  have hg : ∀ f m, (q01_Scmp.C n).Γ f = some m → CalleeS Try.prog (fun _ => .any) f m := by
    intro f m hm
    unfold q01_Scmp.C at hm
    simp only at hm
    first
    | (cases hm; done)
    | (split at hm <;> first
    | (cases hm; exact q01_neg.s hmix n)
    | (cases hm; exact q01_Cmp.s hmix n)
    | (cases hm; done))
  have hb : Try.f75.body = some (Try.f75.body.getD .skip) := by kernel_rfl
  refine runF_calls (C := q01_Scmp.C n) (A := q01_Scmp.A n) (n := n) (fn := Try.f75) hg hmix Try.func75 hb ?_ ?_ (by decide) rfl rfl (by show 2 ≤ Try.f75.ntmps; decide) ?_
  · rw [show loopsIn (Try.f75.body.getD .skip) = [] by kernel_rfl]
    intro b hb
    cases hb
  · intro a ha m hm
    cases (show none = some m from hm)
  · rw [show runF (q01_Scmp.C n) (q01_Scmp.A n) n Try.f75 (q01_Scmp.shape t).1 (q01_Scmp.shape t).2 (fun v o => some (v, o)) = _ from q01_Scmp.run n t.1 t.2]
    have e := q01_Scmp.gmap q01_Scmp.res (fun a0 => a0) n t.1 t.2
    unfold q01_Scmp.m at h
    rw [h] at e
    exact e
theorem q01_Scmp.s (hmix : Try.prog.follows .mixedOrders = true) (n : Nat) : CalleeS Try.prog (fun _ => .any) 75 (q01_Scmp.c n) :=
  CalleeS.of (res := q01_Scmp.res) (shape := q01_Scmp.shape) (fun R u K => rfl) (fun args lent t h => by
    unfold q01_Scmp.pat at h
    split at h
    · cases h; rfl
    · cases h) fun t u h => (q01_Scmp.call hmix n t u h).ok Try.func75 (by decide) (by kernel_rfl)
end
section
noncomputable section
noncomputable def q01_size.C (n : Nat) : Ctx := ⟨Try.prog, (fun _ => .any), fun f => match f with
 | 107 => some (q01_neg.c n)
 | 120 => some (q01_Neg.c n)
 | _ => none⟩
def q01_size.live : Nat → List Nat × List Nat := fun k => match k with
 | _ => ([], [])
def q01_size.jlive : Nat → List Nat × List Nat := fun k => match k with
 | _ => ([], [])
noncomputable def q01_size.A (n : Nat) : Ann := ⟨Try.f123.ntmps, 0, q01_size.live, [], [none], fun k => match k with
 | _ => none, q01_size.jlive, lookJ []⟩
def q01_size.g {α : Type} (mk0 : (List Int) → α) (n : Nat) (a0 : (List Int)) : Option α :=
 bindO (q01_neg.m n a0) fun r2 =>
  if r2 = true then
   bindO (q01_Neg.m n a0) fun r6 =>
    some (mk0 r6)
  else
   some (mk0 a0)
def q01_size.m (n : Nat) (t : (List Int)) : Option (List Int) := q01_size.g (fun a0 => a0) n t
def q01_size.pat : List AV → Blks → Option (List Int)
 | [(.ints .u64 4 a0)], [] => some a0
 | _, _ => none
def q01_size.shape (t : (List Int)) : List AV × Blks := ([(.ints .u64 4 t)], [])
def q01_size.res : (List Int) → AV × Blks
 | u => (Prod.mk (.ints .u64 4 u) [])
def q01_size.resK {R : Type} (u : (List Int)) (K : AV → Blks → Option R) : Option R := (fun p : AV × Blks => K p.1 p.2) (Prod.mk (.ints .u64 4 u) [])
def q01_size.c (n : Nat) : Abs.Callee := .mk' [] [none] q01_size.pat (q01_size.m n) q01_size.resK
end
end
section
theorem q01_size.gmap {α β : Type} (h : β → α) (mk0 : (List Int) → β) (n : Nat) (a0 : (List Int)) : q01_size.g (fun a0 => (h (mk0 a0))) n a0 = (q01_size.g mk0 n a0).map h := by
  unfold q01_size.g
  exact (bindO_map fun r2 => (ite_map (bindO_map fun r6 => rfl) rfl))
theorem q01_size.run (n : Nat) (a0 : (List Int)) : runF (q01_size.C n) (q01_size.A n) n Try.f123 [(.ints .u64 4 a0)] [] (fun v o => some (v, o)) = q01_size.g (fun a0 => ((Prod.mk (.ints .u64 4 a0) []) : AV × Blks)) n a0 := by kernel_rfl
theorem q01_size.call (hmix : Try.prog.follows .mixedOrders = true) (n : Nat) (t : (List Int)) (u) (h : q01_size.m n t = some u) : FnC Try.prog (fun _ => .any) 123 (q01_size.shape t).1 (q01_size.shape t).2 (q01_size.res u).1 (q01_size.res u).2 := by
  have hg : ∀ f m, (q01_size.C n).Γ f = some m → CalleeS Try.prog (fun _ => .any) f m := by
    intro f m hm
    unfold q01_size.C at hm
    simp only at hm
    first
    | (cases hm; done)
    | (split at hm <;> first
    | (cases hm; exact q01_neg.s hmix n)
    | (cases hm; exact q01_Neg.s hmix n)
    | (cases hm; done))
  have hb : Try.f123.body = some (Try.f123.body.getD .skip) := by kernel_rfl
  refine runF_calls (C := q01_size.C n) (A := q01_size.A n) (n := n) (fn := Try.f123) hg hmix Try.func123 hb ?_ ?_ (by decide) rfl rfl (by show 1 ≤ Try.f123.ntmps; decide) ?_
  · rw [show loopsIn (Try.f123.body.getD .skip) = [] by kernel_rfl]
    intro b hb
    cases hb
  · intro a ha m hm
    cases (show none = some m from hm)
  · rw [show runF (q01_size.C n) (q01_size.A n) n Try.f123 (q01_size.shape t).1 (q01_size.shape t).2 (fun v o => some (v, o)) = _ from q01_size.run n t]
    have e := q01_size.gmap q01_size.res (fun a0 => a0) n t
    unfold q01_size.m at h
    rw [h] at e
    exact e
theorem q01_size.s (hmix : Try.prog.follows .mixedOrders = true) (n : Nat) : CalleeS Try.prog (fun _ => .any) 123 (q01_size.c n) :=
  CalleeS.of (res := q01_size.res) (shape := q01_size.shape) (fun R u K => rfl) (fun args lent t h => by
    unfold q01_size.pat at h
    split at h
    · cases h; rfl
    · cases h) fun t u h => (q01_size.call hmix n t u h).ok Try.func123 (by decide) (by kernel_rfl)
end
section
noncomputable section
noncomputable def q01_Sub.C (n : Nat) : Ctx := ⟨Try.prog, (fun _ => .any), fun f => match f with
 | 120 => some (q01_Neg.c n)
 | 97 => some (q01_Add.c n)
 | 74 => some (q01_Cmp.c n)
 | _ => none⟩
def q01_Sub.live : Nat → List Nat × List Nat := fun k => match k with
 | _ => ([], [])
def q01_Sub.jlive : Nat → List Nat × List Nat := fun k => match k with
 | _ => ([], [])
noncomputable def q01_Sub.A (n : Nat) : Ann := ⟨Try.f99.ntmps, 0, q01_Sub.live, [], [none, none], fun k => match k with
 | _ => none, q01_Sub.jlive, lookJ []⟩
def q01_Sub.g {α : Type} (mk0 : (List Int) → Bool → α) (n : Nat) (a0 : (List Int)) (a1 : (List Int)) : Option α :=
 bindO (q01_Neg.m n a1) fun r2 =>
  bindO (q01_Add.m n (Prod.mk a0 r2)) fun r4 =>
   bindO (q01_Cmp.m n (Prod.mk a0 a1)) fun r6 =>
    some (mk0 (Prod.fst r4) (decide (r6 < 0)))
def q01_Sub.m (n : Nat) (t : ((List Int) × (List Int))) : Option ((List Int) × Bool) := q01_Sub.g (fun a0 a1 => (a0, a1)) n t.1 t.2
def q01_Sub.pat : List AV → Blks → Option ((List Int) × (List Int))
 | [(.ints .u64 4 a0), (.ints .u64 4 a1)], [] => some (a0, a1)
 | _, _ => none
def q01_Sub.shape (t : ((List Int) × (List Int))) : List AV × Blks := ([(.ints .u64 4 t.1), (.ints .u64 4 t.2)], [])
def q01_Sub.res : ((List Int) × Bool) → AV × Blks
 | u => (Prod.mk (.tup [(.ints .u64 4 u.1), (.bool u.2)]) [])
def q01_Sub.resK {R : Type} (u : ((List Int) × Bool)) (K : AV → Blks → Option R) : Option R := (fun p : AV × Blks => K p.1 p.2) (Prod.mk (.tup [(.ints .u64 4 u.1), (.bool u.2)]) [])
def q01_Sub.c (n : Nat) : Abs.Callee := .mk' [] [none, none] q01_Sub.pat (q01_Sub.m n) q01_Sub.resK
end
end
section
theorem q01_Sub.gmap {α β : Type} (h : β → α) (mk0 : (List Int) → Bool → β) (n : Nat) (a0 : (List Int)) (a1 : (List Int)) : q01_Sub.g (fun a0 a1 => (h (mk0 a0 a1))) n a0 a1 = (q01_Sub.g mk0 n a0 a1).map h := by
  unfold q01_Sub.g
  exact (bindO_map fun r2 => (bindO_map fun r4 => (bindO_map fun r6 => rfl)))
theorem q01_Sub.run (n : Nat) (a0 : (List Int)) (a1 : (List Int)) : runF (q01_Sub.C n) (q01_Sub.A n) n Try.f99 [(.ints .u64 4 a0), (.ints .u64 4 a1)] [] (fun v o => some (v, o)) = q01_Sub.g (fun a0 a1 => ((Prod.mk (.tup [(.ints .u64 4 a0), (.bool a1)]) []) : AV × Blks)) n a0 a1 := by kernel_rfl
theorem q01_Sub.call (hmix : Try.prog.follows .mixedOrders = true) (n : Nat) (t : ((List Int) × (List Int))) (u) (h : q01_Sub.m n t = some u) : FnC Try.prog (fun _ => .any) 99 (q01_Sub.shape t).1 (q01_Sub.shape t).2 (q01_Sub.res u).1 (q01_Sub.res u).2 := by
  have hg : ∀ f m, (q01_Sub.C n).Γ f = some m → CalleeS Try.prog (fun _ => .any) f m := by
    intro f m hm
    unfold q01_Sub.C at hm
    simp only at hm
    first
    | (cases hm; done)
    | (split at hm <;> first
    | (cases hm; exact q01_Neg.s hmix n)
    | (cases hm; exact q01_Add.s hmix n)
    | (cases hm; exact q01_Cmp.s hmix n)
    | (cases hm; done))
  have hb : Try.f99.body = some (Try.f99.body.getD .skip) := by kernel_rfl
  refine runF_calls (C := q01_Sub.C n) (A := q01_Sub.A n) (n := n) (fn := Try.f99) hg hmix Try.func99 hb ?_ ?_ (by decide) rfl rfl (by show 2 ≤ Try.f99.ntmps; decide) ?_
  · rw [show loopsIn (Try.f99.body.getD .skip) = [] by kernel_rfl]
    intro b hb
    cases hb
  · intro a ha m hm
    cases (show none = some m from hm)
  · rw [show runF (q01_Sub.C n) (q01_Sub.A n) n Try.f99 (q01_Sub.shape t).1 (q01_Sub.shape t).2 (fun v o => some (v, o)) = _ from q01_Sub.run n t.1 t.2]
    have e := q01_Sub.gmap q01_Sub.res (fun a0 a1 => (a0, a1)) n t.1 t.2
    unfold q01_Sub.m at h
    rw [h] at e
    exact e
theorem q01_Sub.s (hmix : Try.prog.follows .mixedOrders = true) (n : Nat) : CalleeS Try.prog (fun _ => .any) 99 (q01_Sub.c n) :=
  CalleeS.of (res := q01_Sub.res) (shape := q01_Sub.shape) (fun R u K => rfl) (fun args lent t h => by
    unfold q01_Sub.pat at h
    split at h
    · cases h; rfl
    · cases h) fun t u h => (q01_Sub.call hmix n t u h).ok Try.func99 (by decide) (by kernel_rfl)
end
section
noncomputable section
noncomputable def word_widened.C (n : Nat) : Ctx := ⟨Try.prog, (fun _ => .any), fun f => match f with
 | _ => none⟩
def word_widened.live : Nat → List Nat × List Nat := fun k => match k with
 | _ => ([], [])
def word_widened.jlive : Nat → List Nat × List Nat := fun k => match k with
 | _ => ([], [])
noncomputable def word_widened.A (n : Nat) : Ann := ⟨Try.f115.ntmps, 0, word_widened.live, [], [none], fun k => match k with
 | _ => none, word_widened.jlive, lookJ []⟩
def word_widened.g {α : Type} (mk0 : (List Int) → α) (n : Nat) (a0 : (List Int)) : Option α :=
 some (mk0 [(List.getD a0 0 0), (List.getD a0 1 0), (List.getD a0 2 0), (List.getD a0 3 0), 0, 0, 0, 0])
def word_widened.m (n : Nat) (t : (List Int)) : Option (List Int) := word_widened.g (fun a0 => a0) n t
def word_widened.pat : List AV → Blks → Option (List Int)
 | [(.ints .u64 4 a0)], [] => some a0
 | _, _ => none
def word_widened.shape (t : (List Int)) : List AV × Blks := ([(.ints .u64 4 t)], [])
def word_widened.res : (List Int) → AV × Blks
 | u => (Prod.mk (.ints .u64 8 u) [])
def word_widened.resK {R : Type} (u : (List Int)) (K : AV → Blks → Option R) : Option R := (fun p : AV × Blks => K p.1 p.2) (Prod.mk (.ints .u64 8 u) [])
def word_widened.c (n : Nat) : Abs.Callee := .mk' [] [none] word_widened.pat (word_widened.m n) word_widened.resK
end
end
section
noncomputable section
noncomputable def bits_Len64.C (n : Nat) : Ctx := ⟨Try.prog, (fun _ => .any), fun f => match f with
 | _ => none⟩
def bits_Len64.live : Nat → List Nat × List Nat := fun k => match k with
 | _ => ([], [])
def bits_Len64.jlive : Nat → List Nat × List Nat := fun k => match k with
 | 1 => ([0, 2], [0, 2])
 | 4 => ([0, 2], [0, 2])
 | 7 => ([0, 2], [2, 0])
 | _ => ([], [])
noncomputable def bits_Len64.jc0 : Code := ((seqsIn (Try.f128.body.getD .skip)).filter fun a => jkey a == 1).getD 0 .skip
noncomputable def bits_Len64.jc1 : Code := ((seqsIn (Try.f128.body.getD .skip)).filter fun a => jkey a == 4).getD 0 .skip
noncomputable def bits_Len64.jc2 : Code := ((seqsIn (Try.f128.body.getD .skip)).filter fun a => jkey a == 7).getD 0 .skip
def bits_Len64.j1.g {α : Type} (mk0 : Int → Int → α) (n : Nat) (x0 : Int) (x1 : Int) : Option α :=
  if (decide (x0 ≥ 4294967296)) = true then
   some (mk0 (ishr .u64 x0 32) 32)
  else
   some (mk0 x0 x1)
def bits_Len64.j1.m (n : Nat) (t : (Int × Int)) : Option (Int × Int) := bits_Len64.j1.g (fun a0 a1 => (a0, a1)) n t.1 t.2
def bits_Len64.j1.pat : St → Option (Int × Int)
 | (St.mk [(.int .u64 x0), (.int .i64 x1)] []) => some (x0, x1)
 | _ => none
def bits_Len64.j1.shape (t : (Int × Int)) : St := (St.mk [(.int .u64 t.1), (.int .i64 t.2)] [])
def bits_Len64.j1.res : (Int × Int) → Ex × St
 | u => (Prod.mk .normal (St.mk [(.int .u64 u.1), (.int .i64 u.2)] []))
def bits_Len64.j1.resK {R : Type} (u : (Int × Int)) (K : Ex → St → Option R) : Option R := (fun p : Ex × St => K p.1 p.2) (Prod.mk .normal (St.mk [(.int .u64 u.1), (.int .i64 u.2)] []))
def bits_Len64.j4.g {α : Type} (mk0 : Int → Int → α) (n : Nat) (x0 : Int) (x1 : Int) : Option α :=
  if (decide (x0 ≥ 65536)) = true then
   some (mk0 (ishr .u64 x0 16) (IntKind.wrap .i64 (x1 + 16)))
  else
   some (mk0 x0 x1)
def bits_Len64.j4.m (n : Nat) (t : (Int × Int)) : Option (Int × Int) := bits_Len64.j4.g (fun a0 a1 => (a0, a1)) n t.1 t.2
def bits_Len64.j4.pat : St → Option (Int × Int)
 | (St.mk [(.int .u64 x0), (.int .i64 x1)] []) => some (x0, x1)
 | _ => none
def bits_Len64.j4.shape (t : (Int × Int)) : St := (St.mk [(.int .u64 t.1), (.int .i64 t.2)] [])
def bits_Len64.j4.res : (Int × Int) → Ex × St
 | u => (Prod.mk .normal (St.mk [(.int .u64 u.1), (.int .i64 u.2)] []))
def bits_Len64.j4.resK {R : Type} (u : (Int × Int)) (K : Ex → St → Option R) : Option R := (fun p : Ex × St => K p.1 p.2) (Prod.mk .normal (St.mk [(.int .u64 u.1), (.int .i64 u.2)] []))
def bits_Len64.j7.g {α : Type} (mk0 : Int → Int → α) (n : Nat) (x0 : Int) (x1 : Int) : Option α :=
  if (decide (x0 ≥ 256)) = true then
   some (mk0 (IntKind.wrap .i64 (x1 + 8)) (ishr .u64 x0 8))
  else
   some (mk0 x1 x0)
def bits_Len64.j7.m (n : Nat) (t : (Int × Int)) : Option (Int × Int) := bits_Len64.j7.g (fun a0 a1 => (a0, a1)) n t.1 t.2
def bits_Len64.j7.pat : St → Option (Int × Int)
 | (St.mk [(.int .u64 x0), (.int .i64 x1)] []) => some (x0, x1)
 | _ => none
def bits_Len64.j7.shape (t : (Int × Int)) : St := (St.mk [(.int .u64 t.1), (.int .i64 t.2)] [])
def bits_Len64.j7.res : (Int × Int) → Ex × St
 | u => (Prod.mk .normal (St.mk [(.int .i64 u.1), (.int .u64 u.2)] []))
def bits_Len64.j7.resK {R : Type} (u : (Int × Int)) (K : Ex → St → Option R) : Option R := (fun p : Ex × St => K p.1 p.2) (Prod.mk .normal (St.mk [(.int .i64 u.1), (.int .u64 u.2)] []))
noncomputable def bits_Len64.A (n : Nat) : Ann := ⟨Try.f128.ntmps, 0, bits_Len64.live, [], [none], fun k => match k with
 | _ => none, bits_Len64.jlive, lookJ [(1, .mk' bits_Len64.j1.pat (bits_Len64.j1.m n) bits_Len64.j1.resK), (4, .mk' bits_Len64.j4.pat (bits_Len64.j4.m n) bits_Len64.j4.resK), (7, .mk' bits_Len64.j7.pat (bits_Len64.j7.m n) bits_Len64.j7.resK)]⟩
def bits_Len64.g {α : Type} (mk0 : Int → α) (n : Nat) (a0 : Int) : Option α :=
 bindO (bits_Len64.j1.m n (a0, 0)) fun r2 =>
  bindO (bits_Len64.j4.m n ((Prod.fst r2), (Prod.snd r2))) fun r4 =>
   bindO (bits_Len64.j7.m n ((Prod.fst r4), (Prod.snd r4))) fun r6 =>
    if 0 ≤ (IntKind.wrap .u8 (Prod.snd r6)) then
     if (IntKind.wrap .u8 (Prod.snd r6)) < (((ByteArray.size (Go.Abs.tabOf Try.f128 0) : Nat)) : Int) then
      some (mk0 (IntKind.wrap .i64 ((Prod.fst r6) + (IntKind.wrap .i64 (List.getD (Go.Abs.bytesOf (Go.Abs.tabOf Try.f128 0)) (Int.toNat (IntKind.wrap .u8 (Prod.snd r6))) 0)))))
     else
      none
    else
     none
def bits_Len64.m (n : Nat) (t : Int) : Option Int := bits_Len64.g (fun a0 => a0) n t
def bits_Len64.pat : List AV → Blks → Option Int
 | [(.int .u64 a0)], [] => some a0
 | _, _ => none
def bits_Len64.shape (t : Int) : List AV × Blks := ([(.int .u64 t)], [])
def bits_Len64.res : Int → AV × Blks
 | u => (Prod.mk (.int .i64 u) [])
def bits_Len64.resK {R : Type} (u : Int) (K : AV → Blks → Option R) : Option R := (fun p : AV × Blks => K p.1 p.2) (Prod.mk (.int .i64 u) [])
def bits_Len64.c (n : Nat) : Abs.Callee := .mk' [] [none] bits_Len64.pat (bits_Len64.m n) bits_Len64.resK
end
end
section
noncomputable section
noncomputable def word_wide_size.C (n : Nat) : Ctx := ⟨Try.prog, (fun _ => .any), fun f => match f with
 | 128 => some (bits_Len64.c n)
 | _ => none⟩
def word_wide_size.live : Nat → List Nat × List Nat := fun k => match k with
 | 2 => ([3, 1], [2])
 | _ => ([], [])
def word_wide_size.jlive : Nat → List Nat × List Nat := fun k => match k with
 | _ => ([], [])
def word_wide_size.l2_0.r {α : Type} (mk0 : Int → α) (mk1 : α) (n : Nat) (rc : Int → (List Int) → Option α)  (x0 : Int) (x1 : (List Int)) : Option α :=
  if (decide (x0 ≥ 0)) = true then
   if 0 ≤ x0 then
    if x0 < 8 then
     if ((List.getD x1 (Int.toNat x0) 0) != 0) = true then
      if 0 ≤ x0 then
       if x0 < 8 then
        bindO (bits_Len64.m n (List.getD x1 (Int.toNat x0) 0)) fun r16 =>
         some (mk0 (IntKind.wrap .i64 ((IntKind.wrap .i64 (64 * x0)) + r16)))
       else
        none
      else
       none
     else
      rc (IntKind.wrap .i64 (x0 - 1)) x1
    else
     none
   else
    none
  else
   some (mk1)
def word_wide_size.l2_0.g {α : Type} (mk0 : Int → α) (mk1 : α) (n : Nat) : Nat → Int → (List Int) → Option α
 | 0, _, _ => none
 | m + 1, x0, x1 => word_wide_size.l2_0.r mk0 mk1 n (fun y0 y1 => word_wide_size.l2_0.g mk0 mk1 n m y0 y1)  x0 x1
def word_wide_size.l2_0.m (n m : Nat) (t : (Int × (List Int))) : Option (Int ⊕ Unit) := word_wide_size.l2_0.g (fun a0 => (.inl a0)) (.inr ()) n m t.1 t.2
def word_wide_size.l2_0.pat : St → Option (Int × (List Int))
 | (St.mk [(.int .i64 x0), (.ptr 0 [])] [(some (.var (.ints .u64 8 x1)))]) => some (x0, x1)
 | _ => none
def word_wide_size.l2_0.shape (t : (Int × (List Int))) : St := (St.mk [(.int .i64 t.1), (.ptr 0 [])] [(some (.var (.ints .u64 8 t.2)))])
def word_wide_size.l2_0.res : (Int ⊕ Unit) → Ex × St
 | (.inl u) => (Prod.mk .ret (St.mk [(.int .i64 u)] []))
 | (.inr u) => (Prod.mk (.exit 0) (St.mk [.any] []))
def word_wide_size.l2_0.resK {R : Type} (u : (Int ⊕ Unit)) (K : Ex → St → Option R) : Option R := match u with
 | (.inl u) => (fun p : Ex × St => K p.1 p.2) (Prod.mk .ret (St.mk [(.int .i64 u)] []))
 | (.inr u) => (fun p : Ex × St => K p.1 p.2) (Prod.mk (.exit 0) (St.mk [.any] []))
noncomputable def word_wide_size.A (n : Nat) : Ann := ⟨Try.f118.ntmps, 0, word_wide_size.live, [], [none], fun k => match k with
 | 2 => some (.mk' word_wide_size.l2_0.pat (word_wide_size.l2_0.m n n) word_wide_size.l2_0.resK)
 | _ => none, word_wide_size.jlive, lookJ []⟩
noncomputable def word_wide_size.b0 : Code := (loopsIn (Try.f118.body.getD .skip)).getD 0 .skip
def word_wide_size.g {α : Type} (mk0 : Int → α) (n : Nat) (a0 : (List Int)) : Option α :=
 bindO (word_wide_size.l2_0.m n n (7, a0)) fun r2 => match r2 with
  | (.inl r2) =>
   some (mk0 r2)
  | (.inr r2) =>
   some (mk0 0)
def word_wide_size.m (n : Nat) (t : (List Int)) : Option Int := word_wide_size.g (fun a0 => a0) n t
def word_wide_size.pat : List AV → Blks → Option (List Int)
 | [(.ints .u64 8 a0)], [] => some a0
 | _, _ => none
def word_wide_size.shape (t : (List Int)) : List AV × Blks := ([(.ints .u64 8 t)], [])
def word_wide_size.res : Int → AV × Blks
 | u => (Prod.mk (.int .i64 u) [])
def word_wide_size.resK {R : Type} (u : Int) (K : AV → Blks → Option R) : Option R := (fun p : AV × Blks => K p.1 p.2) (Prod.mk (.int .i64 u) [])
def word_wide_size.c (n : Nat) : Abs.Callee := .mk' [] [none] word_wide_size.pat (word_wide_size.m n) word_wide_size.resK
end
end
