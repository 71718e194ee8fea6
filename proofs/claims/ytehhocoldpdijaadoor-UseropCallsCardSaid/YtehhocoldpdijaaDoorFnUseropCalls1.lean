/- What the program's functions compute, as plain functions, each with its proof: the function does just that. Condition: the plain function has an answer. -/
import Derived.Test.YtehhocoldpdijaaDoorAbsG1
import Derived.Test.YtehhocoldpdijaaDoorAbsG6
import Derived.Test.YtehhocoldpdijaaDoorProg
set_option linter.unusedVariables false
set_option linter.unusedSimpArgs false
set_option maxRecDepth 100000
open Go Go.Abs Go.Proofs
section
namespace Go.Abs
open Go
def kecKeys : List Int := [1, 32898, 9223372036854808714, 9223372039002292224, 32907, 2147483649, 9223372039002292353, 9223372036854808585, 138, 136, 2147516425, 2147483658, 2147516555, 9223372036854775947, 9223372036854808713, 9223372036854808579, 9223372036854808578, 9223372036854775936, 32778, 9223372039002259466, 9223372039002292353, 9223372036854808704, 2147483649, 9223372039002292232]
def kecTo : List Int := [10, 7, 11, 17, 18, 3, 5, 16, 8, 21, 24, 4, 15, 23, 19, 13, 12, 2, 20, 14, 22, 9, 6, 1]
def kecTurns : List Int := [1, 3, 6, 10, 15, 21, 28, 36, 45, 55, 2, 14, 27, 41, 56, 8, 25, 43, 62, 18, 39, 61, 20, 44]
def abiG : Nat → AV := fun g => match g with
  | 2 => .ints .u64 24 kecKeys
  | 3 => .ints .i64 24 kecTo
  | 4 => .ints .i64 24 kecTurns
  | _ => .any
end Go.Abs
end
section
noncomputable section
noncomputable def Fd.C (n : Nat) : Ctx := ⟨Tryd.prog, abiG, lookC [], fun _ => false⟩
noncomputable def Fd.A (n : Nat) : Ann := ⟨Tryd.f130.ntmps, 0, noNL, [], [none], fun k => match k with
 | _ => none, noNL, lookJ []⟩
def Fd.g {α : Type} (mk0 : Int → α) (n : Nat) (a0 : Int) (a1 : Int) : Option α :=
 if 0 ≤ (IntKind.wrap .u64 (64 - (ibits BinOp.and .u64 (IntKind.wrap .u64 a1) 63))) then
  some (mk0 (ibits BinOp.or .u64 (ishl .u64 a0 (ibits BinOp.and .u64 (IntKind.wrap .u64 a1) 63)) (ishr .u64 a0 (IntKind.wrap .u64 (64 - (ibits BinOp.and .u64 (IntKind.wrap .u64 a1) 63))))))
 else
  none
def Fd.m (n : Nat) (t : (Int × Int)) : Option Int := Fd.g (fun a0 => a0) n t.1 t.2
def Fd.pat : List AV → Blks → Option (Int × Int)
 | [(.int .u64 a0), (.int .i64 a1)], [] => some (a0, a1)
 | _, _ => none
def Fd.shape (t : (Int × Int)) : List AV × Blks := ([(.int .u64 t.1), (.int .i64 t.2)], [])
def Fd.res : Int → AV × Blks
 | u => (Prod.mk (.int .u64 u) [])
def Fd.resK {R : Type} (u : Int) (K : AV → Blks → Option R) : Option R := K (Fd.res u).1 (Fd.res u).2
def Fd.c (n : Nat) : Abs.Callee := .mk' [] [none, none] Fd.pat (Fd.m n) Fd.resK
end
end
section
noncomputable section
noncomputable def Fb.C (n : Nat) : Ctx := ⟨Tryd.prog, abiG, lookC [(130, Fd.c n)], fun _ => false⟩
def Fb.live : NL := fun k => match k with
 | 2 => ([7, 6, 2, 0], [0, 2])
 | 7 => ([21, 0, 2], [])
 | _ => ([], [])
def Fb.l2_0.r {α : Type} (mk0 : LI → LI → α) (n : Nat) (rc : Int → LI → LI → Option α)  (x0 : Int) (x1 : LI) (x2 : LI) : Option α :=
  if (decide (x0 < 25)) = true then
   if 0 ≤ x0 then
    if x0 < 25 then
     if 0 ≤ (Int.tmod x0 5) then
      if (Int.tmod x0 5) < 5 then
       if 0 ≤ (Int.tmod x0 5) then
        if (Int.tmod x0 5) < 5 then
         rc (IntKind.wrap .i64 (x0 + 1)) x1 (List.set x2 (Int.toNat (Int.tmod x0 5)) (ibits BinOp.xor .u64 (List.getD x2 (Int.toNat (Int.tmod x0 5)) 0) (List.getD x1 (Int.toNat x0) 0)))
        else
         none
       else
        none
      else
       none
     else
      none
    else
     none
   else
    none
  else
   some (mk0 x1 x2)
def Fb.l2_0.g {α : Type} (mk0 : LI → LI → α) (n : Nat) : Nat → Int → LI → LI → Option α
 | 0, _, _, _ => none
 | m + 1, x0, x1, x2 => Fb.l2_0.r mk0 n (fun y0 y1 y2 => Fb.l2_0.g mk0 n m y0 y1 y2)  x0 x1 x2
def Fb.l2_0.m (n m : Nat) (t : (Int × (LI × LI))) : Option (LI × LI) := Fb.l2_0.g (fun a0 a1 => (a0, a1)) n m t.1 t.2.1 t.2.2
def Fb.l2_0.pat : St → Option (Int × (LI × LI))
 | (St.mk [(.int .i64 x0), (.ptr 0 []), (.ptr 1 []), (.ptr 0 [])] [(some (.var (.ints .u64 25 x1))), (some (.var (.ints .u64 5 x2)))]) => some (x0, x1, x2)
 | _ => none
def Fb.l2_0.shape (t : (Int × (LI × LI))) : St := (St.mk [(.int .i64 t.1), (.ptr 0 []), (.ptr 1 []), (.ptr 0 [])] [(some (.var (.ints .u64 25 t.2.1))), (some (.var (.ints .u64 5 t.2.2)))])
def Fb.l2_0.res : (LI × LI) → Ex × St
 | u => (Prod.mk (.exit 0) (St.mk [(.ptr 0 []), (.ptr 1 [])] [(some (.var (.ints .u64 25 u.1))), (some (.var (.ints .u64 5 u.2)))]))
def Fb.l2_0.resK {R : Type} (u : (LI × LI)) (K : Ex → St → Option R) : Option R := K (Fb.l2_0.res u).1 (Fb.l2_0.res u).2
def Fb.l7_0.r {α : Type} (mk0 : LI → α) (n : Nat) (rc : Int → LI → LI → Option α)  (x0 : Int) (x1 : LI) (x2 : LI) : Option α :=
  if (decide (x0 < 25)) = true then
   if 0 ≤ x0 then
    if x0 < 25 then
     if 0 ≤ (Int.tmod (IntKind.wrap .i64 (x0 + 4)) 5) then
      if (Int.tmod (IntKind.wrap .i64 (x0 + 4)) 5) < 5 then
       if 0 ≤ (Int.tmod (IntKind.wrap .i64 (x0 + 1)) 5) then
        if (Int.tmod (IntKind.wrap .i64 (x0 + 1)) 5) < 5 then
         bindO (Fd.m n (Prod.mk (List.getD x2 (Int.toNat (Int.tmod (IntKind.wrap .i64 (x0 + 1)) 5)) 0) 1)) fun r18 =>
          if 0 ≤ x0 then
           if x0 < 25 then
            rc (IntKind.wrap .i64 (x0 + 1)) (List.set x1 (Int.toNat x0) (ibits BinOp.xor .u64 (List.getD x1 (Int.toNat x0) 0) (ibits BinOp.xor .u64 (List.getD x2 (Int.toNat (Int.tmod (IntKind.wrap .i64 (x0 + 4)) 5)) 0) r18))) x2
           else
            none
          else
           none
        else
         none
       else
        none
      else
       none
     else
      none
    else
     none
   else
    none
  else
   some (mk0 x1)
def Fb.l7_0.g {α : Type} (mk0 : LI → α) (n : Nat) : Nat → Int → LI → LI → Option α
 | 0, _, _, _ => none
 | m + 1, x0, x1, x2 => Fb.l7_0.r mk0 n (fun y0 y1 y2 => Fb.l7_0.g mk0 n m y0 y1 y2)  x0 x1 x2
def Fb.l7_0.m (n m : Nat) (t : (Int × (LI × LI))) : Option LI := Fb.l7_0.g (fun a0 => a0) n m t.1 t.2.1 t.2.2
def Fb.l7_0.pat : St → Option (Int × (LI × LI))
 | (St.mk [(.int .i64 x0), (.ptr 0 []), (.ptr 1 [])] [(some (.var (.ints .u64 25 x1))), (some (.var (.ints .u64 5 x2)))]) => some (x0, x1, x2)
 | _ => none
def Fb.l7_0.shape (t : (Int × (LI × LI))) : St := (St.mk [(.int .i64 t.1), (.ptr 0 []), (.ptr 1 [])] [(some (.var (.ints .u64 25 t.2.1))), (some (.var (.ints .u64 5 t.2.2)))])
def Fb.l7_0.res : LI → Ex × St
 | u => (Prod.mk (.exit 2) (St.mk [] [(some (.var (.ints .u64 25 u)))]))
def Fb.l7_0.resK {R : Type} (u : LI) (K : Ex → St → Option R) : Option R := K (Fb.l7_0.res u).1 (Fb.l7_0.res u).2
noncomputable def Fb.A (n : Nat) : Ann := ⟨Tryd.f124.ntmps, 1, Fb.live, [], [], fun k => match k with
 | 2 => some (.mk' Fb.l2_0.pat (Fb.l2_0.m n n) Fb.l2_0.resK)
 | 7 => some (.mk' Fb.l7_0.pat (Fb.l7_0.m n n) Fb.l7_0.resK)
 | _ => none, noNL, lookJ []⟩
noncomputable def Fb.b0 : Code := (loopsIn (Tryd.f124.body.getD .skip)).getD 0 .skip
noncomputable def Fb.b1 : Code := (loopsIn (Tryd.f124.body.getD .skip)).getD 1 .skip
def Fb.g {α : Type} (mk0 : LI → α) (n : Nat) (s : LI) : Option α :=
 bindO (Fb.l2_0.m n n (0, s, [0, 0, 0, 0, 0])) fun r2 =>
  bindO (Fb.l7_0.m n n (0, (Prod.fst r2), (Prod.snd r2))) fun r4 =>
   some (mk0 r4)
def Fb.m (n : Nat) (t : LI) : Option LI := Fb.g (fun a0 => a0) n t
def Fb.pat : List AV → Blks → Option LI
 | [(.ptr 0 [])], [(some (.var (.ints .u64 25 s)))] => some s
 | _, _ => none
def Fb.shape (t : LI) : List AV × Blks := ([(.ptr 0 [])], [(some (.var (.ints .u64 25 t)))])
def Fb.res : LI → AV × Blks
 | u => (Prod.mk (.tup []) [(some (.var (.ints .u64 25 u)))])
def Fb.resK {R : Type} (u : LI) (K : AV → Blks → Option R) : Option R := K (Fb.res u).1 (Fb.res u).2
def Fb.c (n : Nat) : Abs.Callee := .mk' [true] [none] Fb.pat (Fb.m n) Fb.resK
end
end
section
theorem Fd.gmap {α β : Type} (h : β → α) (mk0 : Int → β) (n : Nat) (a0 : Int) (a1 : Int) : Fd.g (fun a0 => (h (mk0 a0))) n a0 a1 = (Fd.g mk0 n a0 a1).map h := by
  unfold Fd.g
  exact (ite_map rfl rfl)
theorem Fd.run (n : Nat) (a0 : Int) (a1 : Int) : runF (Fd.C n) (Fd.A n) n Tryd.f130 [(.int .u64 a0), (.int .i64 a1)] [] (fun v o => some (v, o)) = Fd.g (fun a0 => ((Prod.mk (.int .u64 a0) []) : AV × Blks)) n a0 a1 := by kernel_rfl
theorem Fd.call (hmix : Tryd.prog.follows .mixedOrders = true) (n : Nat) (t : (Int × Int)) (u) (h : Fd.m n t = some u) : FnC Tryd.prog abiG 130 (Fd.shape t).1 (Fd.shape t).2 (Fd.res u).1 (Fd.res u).2 :=
  fnC1 (C := Fd.C n) (A := Fd.A n) (fn := Tryd.f130) rfl .nil hmix Tryd.func130 (by kernel_rfl) (lp := []) (by kernel_rfl) .nil
  (nj rfl) (by decide) rfl rfl (by show 2 ≤ Tryd.f130.ntmps; decide) (Fd.run n t.1 t.2) (Fd.gmap Fd.res (fun a0 => a0) n t.1 t.2) h
theorem Fd.s (hmix : Tryd.prog.follows .mixedOrders = true) (n : Nat) : CalleeS Tryd.prog abiG 130 (Fd.c n) :=
  .mk1 (res := Fd.res) (shape := Fd.shape) (fun R u K => rfl) (fun _ _ _ h => by unfold Fd.pat at h; split at h <;> cases h; rfl) (fun t u h => Fd.call hmix n t u h) Tryd.func130 (by decide) (by kernel_rfl)
end
section
noncomputable abbrev Fb.R0 (n : Nat) := roundOf (Fb.C n) (Fb.A n) n Fb.b0
noncomputable abbrev Fb.R1 (n : Nat) := roundOf (Fb.C n) (Fb.A n) n Fb.b1
theorem Fb.l2_0.rmap {α β : Type} (h : β → α) (mk0 : LI → LI → β) (n : Nat) (f : Int → LI → LI → Option β)  (x0 : Int) (x1 : LI) (x2 : LI) : Fb.l2_0.r (fun a0 a1 => (h (mk0 a0 a1))) n (fun y0 y1 y2 => (f y0 y1 y2).map h) x0 x1 x2 = (Fb.l2_0.r mk0 n f x0 x1 x2).map h := by
  unfold Fb.l2_0.r
  exact (ite_map (ite_map (ite_map (ite_map (ite_map (ite_map (ite_map rfl rfl) rfl) rfl) rfl) rfl) rfl) rfl)
theorem Fb.l2_0.gmap {α β : Type} (h : β → α) (mk0 : LI → LI → β) (n : Nat) : ∀ (m : Nat) (x0 : Int) (x1 : LI) (x2 : LI), Fb.l2_0.g (fun a0 a1 => (h (mk0 a0 a1))) n m x0 x1 x2 = (Fb.l2_0.g mk0 n m x0 x1 x2).map h
  | 0, _, _, _ => rfl
  | m + 1, x0, x1, x2 => by
    unfold Fb.l2_0.g
    rw [← Fb.l2_0.rmap]
    congr
    · funext y0 y1 y2; exact Fb.l2_0.gmap h mk0 n m y0 y1 y2
theorem Fb.l2_0.pat_shape : ∀ st t, Fb.l2_0.pat st = some t → st = Fb.l2_0.shape t := fun _ _ h => by unfold Fb.l2_0.pat at h; split at h <;> cases h; rfl
def Fb.l2_0.k0 : LI → LI → Ex × St := (fun a0 a1 => ((Prod.mk (.exit 0) (St.mk [(.ptr 0 []), (.ptr 1 [])] [(some (.var (.ints .u64 25 a0))), (some (.var (.ints .u64 5 a1)))])) : Ex × St))
theorem Fb.l2_0.round (n : Nat) (rc : St → Option (Ex × St)) (x0 : Int) (x1 : LI) (x2 : LI) : Fb.R0 n rc ((St.mk [(.int .i64 x0), (.ptr 0 []), (.ptr 1 []), (.ptr 0 [])] [(some (.var (.ints .u64 25 x1))), (some (.var (.ints .u64 5 x2)))])) = Fb.l2_0.r Fb.l2_0.k0 n (fun y0 y1 y2 => rc ((St.mk [(.int .i64 y0), (.ptr 0 []), (.ptr 1 []), (.ptr 0 [])] [(some (.var (.ints .u64 25 y1))), (some (.var (.ints .u64 5 y2)))]))) x0 x1 x2 := by kernel_rfl
theorem Fb.l2_0.loop' (n : Nat) : ∀ (m : Nat) (t : (Int × (LI × LI))), loopOf (Fb.R0 n) m (Fb.l2_0.shape t) = Fb.l2_0.g Fb.l2_0.k0 n m t.1 t.2.1 t.2.2 :=
  loop_of_round (shape := Fb.l2_0.shape) (body := Fb.R0 n) (g := fun m t => Fb.l2_0.g Fb.l2_0.k0 n m t.1 t.2.1 t.2.2) (fun t => rfl)
    fun m t ih => (Fb.l2_0.round n (loopOf (Fb.R0 n) m) t.1 t.2.1 t.2.2).trans (congrFun (congrFun (congrFun (congrArg (Fb.l2_0.r Fb.l2_0.k0 n) (funext fun y0 => funext fun y1 => funext fun y2 => ih (y0, y1, y2))) t.1) t.2.1) t.2.2)
theorem Fb.l2_0.loop (n m : Nat) (t : (Int × (LI × LI))) : loopOf (Fb.R0 n) m (Fb.l2_0.shape t) = (Fb.l2_0.m n m t).map Fb.l2_0.res :=
  (Fb.l2_0.loop' n m t).trans (Fb.l2_0.gmap Fb.l2_0.res (fun a0 a1 => (a0, a1)) n m t.1 t.2.1 t.2.2)
theorem Fb.l7_0.rmap {α β : Type} (h : β → α) (mk0 : LI → β) (n : Nat) (f : Int → LI → LI → Option β)  (x0 : Int) (x1 : LI) (x2 : LI) : Fb.l7_0.r (fun a0 => (h (mk0 a0))) n (fun y0 y1 y2 => (f y0 y1 y2).map h) x0 x1 x2 = (Fb.l7_0.r mk0 n f x0 x1 x2).map h := by
  unfold Fb.l7_0.r
  exact (ite_map (ite_map (ite_map (ite_map (ite_map (ite_map (ite_map (bindO_map fun r18 => (ite_map (ite_map rfl rfl) rfl)) rfl) rfl) rfl) rfl) rfl) rfl) rfl)
theorem Fb.l7_0.gmap {α β : Type} (h : β → α) (mk0 : LI → β) (n : Nat) : ∀ (m : Nat) (x0 : Int) (x1 : LI) (x2 : LI), Fb.l7_0.g (fun a0 => (h (mk0 a0))) n m x0 x1 x2 = (Fb.l7_0.g mk0 n m x0 x1 x2).map h
  | 0, _, _, _ => rfl
  | m + 1, x0, x1, x2 => by
    unfold Fb.l7_0.g
    rw [← Fb.l7_0.rmap]
    congr
    · funext y0 y1 y2; exact Fb.l7_0.gmap h mk0 n m y0 y1 y2
theorem Fb.l7_0.pat_shape : ∀ st t, Fb.l7_0.pat st = some t → st = Fb.l7_0.shape t := fun _ _ h => by unfold Fb.l7_0.pat at h; split at h <;> cases h; rfl
def Fb.l7_0.k0 : LI → Ex × St := (fun a0 => ((Prod.mk (.exit 2) (St.mk [] [(some (.var (.ints .u64 25 a0)))])) : Ex × St))
theorem Fb.l7_0.round (n : Nat) (rc : St → Option (Ex × St)) (x0 : Int) (x1 : LI) (x2 : LI) : Fb.R1 n rc ((St.mk [(.int .i64 x0), (.ptr 0 []), (.ptr 1 [])] [(some (.var (.ints .u64 25 x1))), (some (.var (.ints .u64 5 x2)))])) = Fb.l7_0.r Fb.l7_0.k0 n (fun y0 y1 y2 => rc ((St.mk [(.int .i64 y0), (.ptr 0 []), (.ptr 1 [])] [(some (.var (.ints .u64 25 y1))), (some (.var (.ints .u64 5 y2)))]))) x0 x1 x2 := by kernel_rfl
theorem Fb.l7_0.loop' (n : Nat) : ∀ (m : Nat) (t : (Int × (LI × LI))), loopOf (Fb.R1 n) m (Fb.l7_0.shape t) = Fb.l7_0.g Fb.l7_0.k0 n m t.1 t.2.1 t.2.2 :=
  loop_of_round (shape := Fb.l7_0.shape) (body := Fb.R1 n) (g := fun m t => Fb.l7_0.g Fb.l7_0.k0 n m t.1 t.2.1 t.2.2) (fun t => rfl)
    fun m t ih => (Fb.l7_0.round n (loopOf (Fb.R1 n) m) t.1 t.2.1 t.2.2).trans (congrFun (congrFun (congrFun (congrArg (Fb.l7_0.r Fb.l7_0.k0 n) (funext fun y0 => funext fun y1 => funext fun y2 => ih (y0, y1, y2))) t.1) t.2.1) t.2.2)
theorem Fb.l7_0.loop (n m : Nat) (t : (Int × (LI × LI))) : loopOf (Fb.R1 n) m (Fb.l7_0.shape t) = (Fb.l7_0.m n m t).map Fb.l7_0.res :=
  (Fb.l7_0.loop' n m t).trans (Fb.l7_0.gmap Fb.l7_0.res (fun a0 => a0) n m t.1 t.2.1 t.2.2)
theorem Fb.gmap {α β : Type} (h : β → α) (mk0 : LI → β) (n : Nat) (s : LI) : Fb.g (fun a0 => (h (mk0 a0))) n s = (Fb.g mk0 n s).map h := by
  unfold Fb.g
  exact (bindO_map fun r2 => (bindO_map fun r4 => rfl))
theorem Fb.run (n : Nat) (s : LI) : runF (Fb.C n) (Fb.A n) n Tryd.f124 [(.ptr 0 [])] [(some (.var (.ints .u64 25 s)))] (fun v o => some (v, o)) = Fb.g (fun a0 => ((Prod.mk (.tup []) [(some (.var (.ints .u64 25 a0)))]) : AV × Blks)) n s := by kernel_rfl
theorem Fb.call (hmix : Tryd.prog.follows .mixedOrders = true) (n : Nat) (t : LI) (u) (h : Fb.m n t = some u) : FnC Tryd.prog abiG 124 (Fb.shape t).1 (Fb.shape t).2 (Fb.res u).1 (Fb.res u).2 :=
  fnC1 (C := Fb.C n) (A := Fb.A n) (fn := Tryd.f124) rfl (.cons (Fd.s hmix n) .nil) hmix Tryd.func124 (by kernel_rfl) (lp := [Fb.b0, Fb.b1]) (by kernel_rfl) (.cons (show (Fb.A n).loop (key Fb.b0) = some (.mk' Fb.l2_0.pat (Fb.l2_0.m n n) Fb.l2_0.resK) by kernel_rfl) (LoopS.of (res := Fb.l2_0.res) (fun R u K => rfl) Fb.l2_0.pat_shape fun t => Fb.l2_0.loop n n t)
  (.cons (show (Fb.A n).loop (key Fb.b1) = some (.mk' Fb.l7_0.pat (Fb.l7_0.m n n) Fb.l7_0.resK) by kernel_rfl) (LoopS.of (res := Fb.l7_0.res) (fun R u K => rfl) Fb.l7_0.pat_shape fun t => Fb.l7_0.loop n n t)
  .nil))
  (nj rfl) (by decide) rfl rfl (by show 1 ≤ Tryd.f124.ntmps; decide) (Fb.run n t) (Fb.gmap Fb.res (fun a0 => a0) n t) h
theorem Fb.s (hmix : Tryd.prog.follows .mixedOrders = true) (n : Nat) : CalleeS Tryd.prog abiG 124 (Fb.c n) :=
  .mk1 (res := Fb.res) (shape := Fb.shape) (fun R u K => rfl) (fun _ _ _ h => by unfold Fb.pat at h; split at h <;> cases h; rfl) (fun t u h => Fb.call hmix n t u h) Tryd.func124 (by decide) (by kernel_rfl)
end
section
noncomputable section
noncomputable def Fe.C (n : Nat) : Ctx := ⟨Tryd.prog, abiG, lookC [(130, Fd.c n)], fun _ => false⟩
def Fe.live : NL := fun k => match k with
 | 2 => ([9, 0, 2], [])
 | _ => ([], [])
def Fe.l2_0.r {α : Type} (mk0 : LI → α) (n : Nat) (rc : Int → Int → LI → Option α)  (x0 : Int) (x1 : Int) (x2 : LI) : Option α :=
  if (decide (x0 < 24)) = true then
   if 0 ≤ x0 then
    if x0 < 24 then
     if 0 ≤ (List.getD ([10, 7, 11, 17, 18, 3, 5, 16, 8, 21, 24, 4, 15, 23, 19, 13, 12, 2, 20, 14, 22, 9, 6, 1] : List Int) (Int.toNat x0) 0) then
      if (List.getD ([10, 7, 11, 17, 18, 3, 5, 16, 8, 21, 24, 4, 15, 23, 19, 13, 12, 2, 20, 14, 22, 9, 6, 1] : List Int) (Int.toNat x0) 0) < 25 then
       if 0 ≤ x0 then
        if x0 < 24 then
         if 0 ≤ x0 then
          if x0 < 24 then
           bindO (Fd.m n (Prod.mk x1 (List.getD ([1, 3, 6, 10, 15, 21, 28, 36, 45, 55, 2, 14, 27, 41, 56, 8, 25, 43, 62, 18, 39, 61, 20, 44] : List Int) (Int.toNat x0) 0))) fun r22 =>
            if 0 ≤ (List.getD ([10, 7, 11, 17, 18, 3, 5, 16, 8, 21, 24, 4, 15, 23, 19, 13, 12, 2, 20, 14, 22, 9, 6, 1] : List Int) (Int.toNat x0) 0) then
             if (List.getD ([10, 7, 11, 17, 18, 3, 5, 16, 8, 21, 24, 4, 15, 23, 19, 13, 12, 2, 20, 14, 22, 9, 6, 1] : List Int) (Int.toNat x0) 0) < 25 then
              rc (IntKind.wrap .i64 (x0 + 1)) (List.getD x2 (Int.toNat (List.getD ([10, 7, 11, 17, 18, 3, 5, 16, 8, 21, 24, 4, 15, 23, 19, 13, 12, 2, 20, 14, 22, 9, 6, 1] : List Int) (Int.toNat x0) 0)) 0) (List.set x2 (Int.toNat (List.getD ([10, 7, 11, 17, 18, 3, 5, 16, 8, 21, 24, 4, 15, 23, 19, 13, 12, 2, 20, 14, 22, 9, 6, 1] : List Int) (Int.toNat x0) 0)) r22)
             else
              none
            else
             none
          else
           none
         else
          none
        else
         none
       else
        none
      else
       none
     else
      none
    else
     none
   else
    none
  else
   some (mk0 x2)
def Fe.l2_0.g {α : Type} (mk0 : LI → α) (n : Nat) : Nat → Int → Int → LI → Option α
 | 0, _, _, _ => none
 | m + 1, x0, x1, x2 => Fe.l2_0.r mk0 n (fun y0 y1 y2 => Fe.l2_0.g mk0 n m y0 y1 y2)  x0 x1 x2
def Fe.l2_0.m (n m : Nat) (t : (Int × (Int × LI))) : Option LI := Fe.l2_0.g (fun a0 => a0) n m t.1 t.2.1 t.2.2
def Fe.l2_0.pat : St → Option (Int × (Int × LI))
 | (St.mk [(.int .i64 x0), (.ptr 0 []), (.int .u64 x1)] [(some (.var (.ints .u64 25 x2)))]) => some (x0, x1, x2)
 | _ => none
def Fe.l2_0.shape (t : (Int × (Int × LI))) : St := (St.mk [(.int .i64 t.1), (.ptr 0 []), (.int .u64 t.2.1)] [(some (.var (.ints .u64 25 t.2.2)))])
def Fe.l2_0.res : LI → Ex × St
 | u => (Prod.mk (.exit 0) (St.mk [] [(some (.var (.ints .u64 25 u)))]))
def Fe.l2_0.resK {R : Type} (u : LI) (K : Ex → St → Option R) : Option R := K (Fe.l2_0.res u).1 (Fe.l2_0.res u).2
noncomputable def Fe.A (n : Nat) : Ann := ⟨Tryd.f125.ntmps, 1, Fe.live, [], [], fun k => match k with
 | 2 => some (.mk' Fe.l2_0.pat (Fe.l2_0.m n n) Fe.l2_0.resK)
 | _ => none, noNL, lookJ []⟩
noncomputable def Fe.b0 : Code := (loopsIn (Tryd.f125.body.getD .skip)).getD 0 .skip
def Fe.g {α : Type} (mk0 : LI → α) (n : Nat) (s : LI) : Option α :=
 bindO (Fe.l2_0.m n n (0, (List.getD s 1 0), s)) fun r2 =>
  some (mk0 r2)
def Fe.m (n : Nat) (t : LI) : Option LI := Fe.g (fun a0 => a0) n t
def Fe.pat : List AV → Blks → Option LI
 | [(.ptr 0 [])], [(some (.var (.ints .u64 25 s)))] => some s
 | _, _ => none
def Fe.shape (t : LI) : List AV × Blks := ([(.ptr 0 [])], [(some (.var (.ints .u64 25 t)))])
def Fe.res : LI → AV × Blks
 | u => (Prod.mk (.tup []) [(some (.var (.ints .u64 25 u)))])
def Fe.resK {R : Type} (u : LI) (K : AV → Blks → Option R) : Option R := K (Fe.res u).1 (Fe.res u).2
def Fe.c (n : Nat) : Abs.Callee := .mk' [true] [none] Fe.pat (Fe.m n) Fe.resK
end
end
section
noncomputable abbrev Fe.R0 (n : Nat) := roundOf (Fe.C n) (Fe.A n) n Fe.b0
theorem Fe.l2_0.rmap {α β : Type} (h : β → α) (mk0 : LI → β) (n : Nat) (f : Int → Int → LI → Option β)  (x0 : Int) (x1 : Int) (x2 : LI) : Fe.l2_0.r (fun a0 => (h (mk0 a0))) n (fun y0 y1 y2 => (f y0 y1 y2).map h) x0 x1 x2 = (Fe.l2_0.r mk0 n f x0 x1 x2).map h := by
  unfold Fe.l2_0.r
  exact (ite_map (ite_map (ite_map (ite_map (ite_map (ite_map (ite_map (ite_map (ite_map (bindO_map fun r22 => (ite_map (ite_map rfl rfl) rfl)) rfl) rfl) rfl) rfl) rfl) rfl) rfl) rfl) rfl)
theorem Fe.l2_0.gmap {α β : Type} (h : β → α) (mk0 : LI → β) (n : Nat) : ∀ (m : Nat) (x0 : Int) (x1 : Int) (x2 : LI), Fe.l2_0.g (fun a0 => (h (mk0 a0))) n m x0 x1 x2 = (Fe.l2_0.g mk0 n m x0 x1 x2).map h
  | 0, _, _, _ => rfl
  | m + 1, x0, x1, x2 => by
    unfold Fe.l2_0.g
    rw [← Fe.l2_0.rmap]
    congr
    · funext y0 y1 y2; exact Fe.l2_0.gmap h mk0 n m y0 y1 y2
theorem Fe.l2_0.pat_shape : ∀ st t, Fe.l2_0.pat st = some t → st = Fe.l2_0.shape t := fun _ _ h => by unfold Fe.l2_0.pat at h; split at h <;> cases h; rfl
def Fe.l2_0.k0 : LI → Ex × St := (fun a0 => ((Prod.mk (.exit 0) (St.mk [] [(some (.var (.ints .u64 25 a0)))])) : Ex × St))
theorem Fe.l2_0.round (n : Nat) (rc : St → Option (Ex × St)) (x0 : Int) (x1 : Int) (x2 : LI) : Fe.R0 n rc ((St.mk [(.int .i64 x0), (.ptr 0 []), (.int .u64 x1)] [(some (.var (.ints .u64 25 x2)))])) = Fe.l2_0.r Fe.l2_0.k0 n (fun y0 y1 y2 => rc ((St.mk [(.int .i64 y0), (.ptr 0 []), (.int .u64 y1)] [(some (.var (.ints .u64 25 y2)))]))) x0 x1 x2 := by kernel_rfl
theorem Fe.l2_0.loop' (n : Nat) : ∀ (m : Nat) (t : (Int × (Int × LI))), loopOf (Fe.R0 n) m (Fe.l2_0.shape t) = Fe.l2_0.g Fe.l2_0.k0 n m t.1 t.2.1 t.2.2 :=
  loop_of_round (shape := Fe.l2_0.shape) (body := Fe.R0 n) (g := fun m t => Fe.l2_0.g Fe.l2_0.k0 n m t.1 t.2.1 t.2.2) (fun t => rfl)
    fun m t ih => (Fe.l2_0.round n (loopOf (Fe.R0 n) m) t.1 t.2.1 t.2.2).trans (congrFun (congrFun (congrFun (congrArg (Fe.l2_0.r Fe.l2_0.k0 n) (funext fun y0 => funext fun y1 => funext fun y2 => ih (y0, y1, y2))) t.1) t.2.1) t.2.2)
theorem Fe.l2_0.loop (n m : Nat) (t : (Int × (Int × LI))) : loopOf (Fe.R0 n) m (Fe.l2_0.shape t) = (Fe.l2_0.m n m t).map Fe.l2_0.res :=
  (Fe.l2_0.loop' n m t).trans (Fe.l2_0.gmap Fe.l2_0.res (fun a0 => a0) n m t.1 t.2.1 t.2.2)
theorem Fe.gmap {α β : Type} (h : β → α) (mk0 : LI → β) (n : Nat) (s : LI) : Fe.g (fun a0 => (h (mk0 a0))) n s = (Fe.g mk0 n s).map h := by
  unfold Fe.g
  exact (bindO_map fun r2 => rfl)
theorem Fe.run (n : Nat) (s : LI) : runF (Fe.C n) (Fe.A n) n Tryd.f125 [(.ptr 0 [])] [(some (.var (.ints .u64 25 s)))] (fun v o => some (v, o)) = Fe.g (fun a0 => ((Prod.mk (.tup []) [(some (.var (.ints .u64 25 a0)))]) : AV × Blks)) n s := by kernel_rfl
theorem Fe.call (hmix : Tryd.prog.follows .mixedOrders = true) (n : Nat) (t : LI) (u) (h : Fe.m n t = some u) : FnC Tryd.prog abiG 125 (Fe.shape t).1 (Fe.shape t).2 (Fe.res u).1 (Fe.res u).2 :=
  fnC1 (C := Fe.C n) (A := Fe.A n) (fn := Tryd.f125) rfl (.cons (Fd.s hmix n) .nil) hmix Tryd.func125 (by kernel_rfl) (lp := [Fe.b0]) (by kernel_rfl) (.cons (show (Fe.A n).loop (key Fe.b0) = some (.mk' Fe.l2_0.pat (Fe.l2_0.m n n) Fe.l2_0.resK) by kernel_rfl) (LoopS.of (res := Fe.l2_0.res) (fun R u K => rfl) Fe.l2_0.pat_shape fun t => Fe.l2_0.loop n n t)
  .nil)
  (nj rfl) (by decide) rfl rfl (by show 1 ≤ Tryd.f125.ntmps; decide) (Fe.run n t) (Fe.gmap Fe.res (fun a0 => a0) n t) h
theorem Fe.s (hmix : Tryd.prog.follows .mixedOrders = true) (n : Nat) : CalleeS Tryd.prog abiG 125 (Fe.c n) :=
  .mk1 (res := Fe.res) (shape := Fe.shape) (fun R u K => rfl) (fun _ _ _ h => by unfold Fe.pat at h; split at h <;> cases h; rfl) (fun t u h => Fe.call hmix n t u h) Tryd.func125 (by decide) (by kernel_rfl)
end
section
noncomputable section
noncomputable def Fg.C (n : Nat) : Ctx := ⟨Tryd.prog, abiG, lookC [], fun _ => false⟩
def Fg.live : NL := fun k => match k with
 | 1 => ([2, 0], [])
 | 5 => ([17, 0, 2, 3], [2, 0])
 | _ => ([], [])
def Fg.l5_0.r {α : Type} (mk0 : Int → LI → α) (n : Nat) (rc : Int → Int → LI → LI → Option α)  (x0 : Int) (x1 : Int) (x2 : LI) (x3 : LI) : Option α :=
  if (decide (x0 < 5)) = true then
   if 0 ≤ x0 then
    if x0 < 5 then
     if 0 ≤ (Int.tmod (IntKind.wrap .i64 (x0 + 1)) 5) then
      if (Int.tmod (IntKind.wrap .i64 (x0 + 1)) 5) < 5 then
       if 0 ≤ (Int.tmod (IntKind.wrap .i64 (x0 + 2)) 5) then
        if (Int.tmod (IntKind.wrap .i64 (x0 + 2)) 5) < 5 then
         if 0 ≤ (IntKind.wrap .i64 (x1 + x0)) then
          if (IntKind.wrap .i64 (x1 + x0)) < 25 then
           rc (IntKind.wrap .i64 (x0 + 1)) x1 (List.set x2 (Int.toNat (IntKind.wrap .i64 (x1 + x0))) (ibits BinOp.xor .u64 (List.getD x3 (Int.toNat x0) 0) (ibits BinOp.and .u64 (ibits BinOp.xor .u64 (if false = true then (-1) else 18446744073709551615) (List.getD x3 (Int.toNat (Int.tmod (IntKind.wrap .i64 (x0 + 1)) 5)) 0)) (List.getD x3 (Int.toNat (Int.tmod (IntKind.wrap .i64 (x0 + 2)) 5)) 0)))) x3
          else
           none
         else
          none
        else
         none
       else
        none
      else
       none
     else
      none
    else
     none
   else
    none
  else
   some (mk0 x1 x2)
def Fg.l5_0.g {α : Type} (mk0 : Int → LI → α) (n : Nat) : Nat → Int → Int → LI → LI → Option α
 | 0, _, _, _, _ => none
 | m + 1, x0, x1, x2, x3 => Fg.l5_0.r mk0 n (fun y0 y1 y2 y3 => Fg.l5_0.g mk0 n m y0 y1 y2 y3)  x0 x1 x2 x3
def Fg.l5_0.m (n m : Nat) (t : (Int × (Int × (LI × LI)))) : Option (Int × LI) := Fg.l5_0.g (fun a0 a1 => (a0, a1)) n m t.1 t.2.1 t.2.2.1 t.2.2.2
def Fg.l5_0.pat : St → Option (Int × (Int × (LI × LI)))
 | (St.mk [(.int .i64 x0), (.ptr 0 []), (.int .i64 x1), (.ptr 1 [])] [(some (.var (.ints .u64 25 x2))), (some (.var (.ints .u64 5 x3)))]) => some (x0, x1, x2, x3)
 | _ => none
def Fg.l5_0.shape (t : (Int × (Int × (LI × LI)))) : St := (St.mk [(.int .i64 t.1), (.ptr 0 []), (.int .i64 t.2.1), (.ptr 1 [])] [(some (.var (.ints .u64 25 t.2.2.1))), (some (.var (.ints .u64 5 t.2.2.2)))])
def Fg.l5_0.res : (Int × LI) → Ex × St
 | u => (Prod.mk (.exit 2) (St.mk [(.int .i64 u.1), (.ptr 0 [])] [(some (.var (.ints .u64 25 u.2)))]))
def Fg.l5_0.resK {R : Type} (u : (Int × LI)) (K : Ex → St → Option R) : Option R := K (Fg.l5_0.res u).1 (Fg.l5_0.res u).2
def Fg.l1_0.r {α : Type} (mk0 : LI → α) (n : Nat) (rc : Int → LI → Option α)  (x0 : Int) (x1 : LI) : Option α :=
  if (decide (x0 < 25)) = true then
   if 0 ≤ (IntKind.wrap .i64 (x0 + 5)) then
    if (IntKind.wrap .i64 (x0 + 5)) ≤ 25 then
     if 0 ≤ x0 then
      if x0 ≤ (IntKind.wrap .i64 (x0 + 5)) then
       if 5 ≤ (Go.Abs.span 25 (Int.toNat x0) (Option.some (Int.toNat (IntKind.wrap .i64 (x0 + 5))))) then
        bindO (Fg.l5_0.m n n (0, x0, x1, (List.take 5 (List.drop (Int.toNat x0) x1)))) fun r16 =>
         rc (IntKind.wrap .i64 ((Prod.fst r16) + 5)) (Prod.snd r16)
       else
        none
      else
       none
     else
      none
    else
     none
   else
    none
  else
   some (mk0 x1)
def Fg.l1_0.g {α : Type} (mk0 : LI → α) (n : Nat) : Nat → Int → LI → Option α
 | 0, _, _ => none
 | m + 1, x0, x1 => Fg.l1_0.r mk0 n (fun y0 y1 => Fg.l1_0.g mk0 n m y0 y1)  x0 x1
def Fg.l1_0.m (n m : Nat) (t : (Int × LI)) : Option LI := Fg.l1_0.g (fun a0 => a0) n m t.1 t.2
def Fg.l1_0.pat : St → Option (Int × LI)
 | (St.mk [(.int .i64 x0), (.ptr 0 [])] [(some (.var (.ints .u64 25 x1)))]) => some (x0, x1)
 | _ => none
def Fg.l1_0.shape (t : (Int × LI)) : St := (St.mk [(.int .i64 t.1), (.ptr 0 [])] [(some (.var (.ints .u64 25 t.2)))])
def Fg.l1_0.res : LI → Ex × St
 | u => (Prod.mk (.exit 0) (St.mk [] [(some (.var (.ints .u64 25 u)))]))
def Fg.l1_0.resK {R : Type} (u : LI) (K : Ex → St → Option R) : Option R := K (Fg.l1_0.res u).1 (Fg.l1_0.res u).2
noncomputable def Fg.A (n : Nat) : Ann := ⟨Tryd.f126.ntmps, 1, Fg.live, [], [], fun k => match k with
 | 5 => some (.mk' Fg.l5_0.pat (Fg.l5_0.m n n) Fg.l5_0.resK)
 | 1 => some (.mk' Fg.l1_0.pat (Fg.l1_0.m n n) Fg.l1_0.resK)
 | _ => none, noNL, lookJ []⟩
noncomputable def Fg.b0 : Code := (loopsIn (Tryd.f126.body.getD .skip)).getD 0 .skip
noncomputable def Fg.b1 : Code := (loopsIn (Tryd.f126.body.getD .skip)).getD 1 .skip
def Fg.g {α : Type} (mk0 : LI → α) (n : Nat) (s : LI) : Option α :=
 bindO (Fg.l1_0.m n n (0, s)) fun r2 =>
  some (mk0 r2)
def Fg.m (n : Nat) (t : LI) : Option LI := Fg.g (fun a0 => a0) n t
def Fg.pat : List AV → Blks → Option LI
 | [(.ptr 0 [])], [(some (.var (.ints .u64 25 s)))] => some s
 | _, _ => none
def Fg.shape (t : LI) : List AV × Blks := ([(.ptr 0 [])], [(some (.var (.ints .u64 25 t)))])
def Fg.res : LI → AV × Blks
 | u => (Prod.mk (.tup []) [(some (.var (.ints .u64 25 u)))])
def Fg.resK {R : Type} (u : LI) (K : AV → Blks → Option R) : Option R := K (Fg.res u).1 (Fg.res u).2
def Fg.c (n : Nat) : Abs.Callee := .mk' [true] [none] Fg.pat (Fg.m n) Fg.resK
end
end
section
noncomputable abbrev Fg.R0 (n : Nat) := roundOf (Fg.C n) (Fg.A n) n Fg.b0
noncomputable abbrev Fg.R1 (n : Nat) := roundOf (Fg.C n) (Fg.A n) n Fg.b1
theorem Fg.l5_0.rmap {α β : Type} (h : β → α) (mk0 : Int → LI → β) (n : Nat) (f : Int → Int → LI → LI → Option β)  (x0 : Int) (x1 : Int) (x2 : LI) (x3 : LI) : Fg.l5_0.r (fun a0 a1 => (h (mk0 a0 a1))) n (fun y0 y1 y2 y3 => (f y0 y1 y2 y3).map h) x0 x1 x2 x3 = (Fg.l5_0.r mk0 n f x0 x1 x2 x3).map h := by
  unfold Fg.l5_0.r
  exact (ite_map (ite_map (ite_map (ite_map (ite_map (ite_map (ite_map (ite_map (ite_map rfl rfl) rfl) rfl) rfl) rfl) rfl) rfl) rfl) rfl)
theorem Fg.l5_0.gmap {α β : Type} (h : β → α) (mk0 : Int → LI → β) (n : Nat) : ∀ (m : Nat) (x0 : Int) (x1 : Int) (x2 : LI) (x3 : LI), Fg.l5_0.g (fun a0 a1 => (h (mk0 a0 a1))) n m x0 x1 x2 x3 = (Fg.l5_0.g mk0 n m x0 x1 x2 x3).map h
  | 0, _, _, _, _ => rfl
  | m + 1, x0, x1, x2, x3 => by
    unfold Fg.l5_0.g
    rw [← Fg.l5_0.rmap]
    congr
    · funext y0 y1 y2 y3; exact Fg.l5_0.gmap h mk0 n m y0 y1 y2 y3
theorem Fg.l5_0.pat_shape : ∀ st t, Fg.l5_0.pat st = some t → st = Fg.l5_0.shape t := fun _ _ h => by unfold Fg.l5_0.pat at h; split at h <;> cases h; rfl
def Fg.l5_0.k0 : Int → LI → Ex × St := (fun a0 a1 => ((Prod.mk (.exit 2) (St.mk [(.int .i64 a0), (.ptr 0 [])] [(some (.var (.ints .u64 25 a1)))])) : Ex × St))
theorem Fg.l5_0.round (n : Nat) (rc : St → Option (Ex × St)) (x0 : Int) (x1 : Int) (x2 : LI) (x3 : LI) : Fg.R1 n rc ((St.mk [(.int .i64 x0), (.ptr 0 []), (.int .i64 x1), (.ptr 1 [])] [(some (.var (.ints .u64 25 x2))), (some (.var (.ints .u64 5 x3)))])) = Fg.l5_0.r Fg.l5_0.k0 n (fun y0 y1 y2 y3 => rc ((St.mk [(.int .i64 y0), (.ptr 0 []), (.int .i64 y1), (.ptr 1 [])] [(some (.var (.ints .u64 25 y2))), (some (.var (.ints .u64 5 y3)))]))) x0 x1 x2 x3 := by kernel_rfl
theorem Fg.l5_0.loop' (n : Nat) : ∀ (m : Nat) (t : (Int × (Int × (LI × LI)))), loopOf (Fg.R1 n) m (Fg.l5_0.shape t) = Fg.l5_0.g Fg.l5_0.k0 n m t.1 t.2.1 t.2.2.1 t.2.2.2 :=
  loop_of_round (shape := Fg.l5_0.shape) (body := Fg.R1 n) (g := fun m t => Fg.l5_0.g Fg.l5_0.k0 n m t.1 t.2.1 t.2.2.1 t.2.2.2) (fun t => rfl)
    fun m t ih => (Fg.l5_0.round n (loopOf (Fg.R1 n) m) t.1 t.2.1 t.2.2.1 t.2.2.2).trans (congrFun (congrFun (congrFun (congrFun (congrArg (Fg.l5_0.r Fg.l5_0.k0 n) (funext fun y0 => funext fun y1 => funext fun y2 => funext fun y3 => ih (y0, y1, y2, y3))) t.1) t.2.1) t.2.2.1) t.2.2.2)
theorem Fg.l5_0.loop (n m : Nat) (t : (Int × (Int × (LI × LI)))) : loopOf (Fg.R1 n) m (Fg.l5_0.shape t) = (Fg.l5_0.m n m t).map Fg.l5_0.res :=
  (Fg.l5_0.loop' n m t).trans (Fg.l5_0.gmap Fg.l5_0.res (fun a0 a1 => (a0, a1)) n m t.1 t.2.1 t.2.2.1 t.2.2.2)
theorem Fg.l1_0.rmap {α β : Type} (h : β → α) (mk0 : LI → β) (n : Nat) (f : Int → LI → Option β)  (x0 : Int) (x1 : LI) : Fg.l1_0.r (fun a0 => (h (mk0 a0))) n (fun y0 y1 => (f y0 y1).map h) x0 x1 = (Fg.l1_0.r mk0 n f x0 x1).map h := by
  unfold Fg.l1_0.r
  exact (ite_map (ite_map (ite_map (ite_map (ite_map (ite_map (bindO_map fun r16 => rfl) rfl) rfl) rfl) rfl) rfl) rfl)
theorem Fg.l1_0.gmap {α β : Type} (h : β → α) (mk0 : LI → β) (n : Nat) : ∀ (m : Nat) (x0 : Int) (x1 : LI), Fg.l1_0.g (fun a0 => (h (mk0 a0))) n m x0 x1 = (Fg.l1_0.g mk0 n m x0 x1).map h
  | 0, _, _ => rfl
  | m + 1, x0, x1 => by
    unfold Fg.l1_0.g
    rw [← Fg.l1_0.rmap]
    congr
    · funext y0 y1; exact Fg.l1_0.gmap h mk0 n m y0 y1
theorem Fg.l1_0.pat_shape : ∀ st t, Fg.l1_0.pat st = some t → st = Fg.l1_0.shape t := fun _ _ h => by unfold Fg.l1_0.pat at h; split at h <;> cases h; rfl
def Fg.l1_0.k0 : LI → Ex × St := (fun a0 => ((Prod.mk (.exit 0) (St.mk [] [(some (.var (.ints .u64 25 a0)))])) : Ex × St))
theorem Fg.l1_0.round (n : Nat) (rc : St → Option (Ex × St)) (x0 : Int) (x1 : LI) : Fg.R0 n rc ((St.mk [(.int .i64 x0), (.ptr 0 [])] [(some (.var (.ints .u64 25 x1)))])) = Fg.l1_0.r Fg.l1_0.k0 n (fun y0 y1 => rc ((St.mk [(.int .i64 y0), (.ptr 0 [])] [(some (.var (.ints .u64 25 y1)))]))) x0 x1 := by kernel_rfl
theorem Fg.l1_0.loop' (n : Nat) : ∀ (m : Nat) (t : (Int × LI)), loopOf (Fg.R0 n) m (Fg.l1_0.shape t) = Fg.l1_0.g Fg.l1_0.k0 n m t.1 t.2 :=
  loop_of_round (shape := Fg.l1_0.shape) (body := Fg.R0 n) (g := fun m t => Fg.l1_0.g Fg.l1_0.k0 n m t.1 t.2) (fun t => rfl)
    fun m t ih => (Fg.l1_0.round n (loopOf (Fg.R0 n) m) t.1 t.2).trans (congrFun (congrFun (congrArg (Fg.l1_0.r Fg.l1_0.k0 n) (funext fun y0 => funext fun y1 => ih (y0, y1))) t.1) t.2)
theorem Fg.l1_0.loop (n m : Nat) (t : (Int × LI)) : loopOf (Fg.R0 n) m (Fg.l1_0.shape t) = (Fg.l1_0.m n m t).map Fg.l1_0.res :=
  (Fg.l1_0.loop' n m t).trans (Fg.l1_0.gmap Fg.l1_0.res (fun a0 => a0) n m t.1 t.2)
theorem Fg.gmap {α β : Type} (h : β → α) (mk0 : LI → β) (n : Nat) (s : LI) : Fg.g (fun a0 => (h (mk0 a0))) n s = (Fg.g mk0 n s).map h := by
  unfold Fg.g
  exact (bindO_map fun r2 => rfl)
theorem Fg.run (n : Nat) (s : LI) : runF (Fg.C n) (Fg.A n) n Tryd.f126 [(.ptr 0 [])] [(some (.var (.ints .u64 25 s)))] (fun v o => some (v, o)) = Fg.g (fun a0 => ((Prod.mk (.tup []) [(some (.var (.ints .u64 25 a0)))]) : AV × Blks)) n s := by kernel_rfl
theorem Fg.call (hmix : Tryd.prog.follows .mixedOrders = true) (n : Nat) (t : LI) (u) (h : Fg.m n t = some u) : FnC Tryd.prog abiG 126 (Fg.shape t).1 (Fg.shape t).2 (Fg.res u).1 (Fg.res u).2 :=
  fnC1 (C := Fg.C n) (A := Fg.A n) (fn := Tryd.f126) rfl .nil hmix Tryd.func126 (by kernel_rfl) (lp := [Fg.b0, Fg.b1]) (by kernel_rfl) (.cons (show (Fg.A n).loop (key Fg.b0) = some (.mk' Fg.l1_0.pat (Fg.l1_0.m n n) Fg.l1_0.resK) by kernel_rfl) (LoopS.of (res := Fg.l1_0.res) (fun R u K => rfl) Fg.l1_0.pat_shape fun t => Fg.l1_0.loop n n t)
  (.cons (show (Fg.A n).loop (key Fg.b1) = some (.mk' Fg.l5_0.pat (Fg.l5_0.m n n) Fg.l5_0.resK) by kernel_rfl) (LoopS.of (res := Fg.l5_0.res) (fun R u K => rfl) Fg.l5_0.pat_shape fun t => Fg.l5_0.loop n n t)
  .nil))
  (nj rfl) (by decide) rfl rfl (by show 1 ≤ Tryd.f126.ntmps; decide) (Fg.run n t) (Fg.gmap Fg.res (fun a0 => a0) n t) h
theorem Fg.s (hmix : Tryd.prog.follows .mixedOrders = true) (n : Nat) : CalleeS Tryd.prog abiG 126 (Fg.c n) :=
  .mk1 (res := Fg.res) (shape := Fg.shape) (fun R u K => rfl) (fun _ _ _ h => by unfold Fg.pat at h; split at h <;> cases h; rfl) (fun t u h => Fg.call hmix n t u h) Tryd.func126 (by decide) (by kernel_rfl)
end
section
noncomputable section
noncomputable def Fh.C (n : Nat) : Ctx := ⟨Tryd.prog, abiG, lookC [(124, Fb.c n), (125, Fe.c n), (126, Fg.c n)], fun _ => false⟩
def Fh.live : NL := fun k => match k with
 | 1 => ([3, 0], [])
 | _ => ([], [])
def Fh.l1_0.r {α : Type} (mk0 : LI → α) (n : Nat) (rc : Int → LI → Option α)  (x0 : Int) (x1 : LI) : Option α :=
  if (decide (x0 < 24)) = true then
   bindO (Fb.m n x1) fun r6 =>
    bindO (Fe.m n r6) fun r8 =>
     bindO (Fg.m n r8) fun r10 =>
      if 0 ≤ x0 then
       if x0 < 24 then
        rc (IntKind.wrap .i64 (x0 + 1)) (List.set r10 0 (ibits BinOp.xor .u64 (List.getD r10 0 0) (List.getD ([1, 32898, 9223372036854808714, 9223372039002292224, 32907, 2147483649, 9223372039002292353, 9223372036854808585, 138, 136, 2147516425, 2147483658, 2147516555, 9223372036854775947, 9223372036854808713, 9223372036854808579, 9223372036854808578, 9223372036854775936, 32778, 9223372039002259466, 9223372039002292353, 9223372036854808704, 2147483649, 9223372039002292232] : List Int) (Int.toNat x0) 0)))
       else
        none
      else
       none
  else
   some (mk0 x1)
def Fh.l1_0.g {α : Type} (mk0 : LI → α) (n : Nat) : Nat → Int → LI → Option α
 | 0, _, _ => none
 | m + 1, x0, x1 => Fh.l1_0.r mk0 n (fun y0 y1 => Fh.l1_0.g mk0 n m y0 y1)  x0 x1
def Fh.l1_0.m (n m : Nat) (t : (Int × LI)) : Option LI := Fh.l1_0.g (fun a0 => a0) n m t.1 t.2
def Fh.l1_0.pat : St → Option (Int × LI)
 | (St.mk [(.int .i64 x0), (.ptr 0 [])] [(some (.var (.ints .u64 25 x1)))]) => some (x0, x1)
 | _ => none
def Fh.l1_0.shape (t : (Int × LI)) : St := (St.mk [(.int .i64 t.1), (.ptr 0 [])] [(some (.var (.ints .u64 25 t.2)))])
def Fh.l1_0.res : LI → Ex × St
 | u => (Prod.mk (.exit 0) (St.mk [] [(some (.var (.ints .u64 25 u)))]))
def Fh.l1_0.resK {R : Type} (u : LI) (K : Ex → St → Option R) : Option R := K (Fh.l1_0.res u).1 (Fh.l1_0.res u).2
noncomputable def Fh.A (n : Nat) : Ann := ⟨Tryd.f111.ntmps, 1, Fh.live, [], [], fun k => match k with
 | 1 => some (.mk' Fh.l1_0.pat (Fh.l1_0.m n n) Fh.l1_0.resK)
 | _ => none, noNL, lookJ []⟩
noncomputable def Fh.b0 : Code := (loopsIn (Tryd.f111.body.getD .skip)).getD 0 .skip
def Fh.g {α : Type} (mk0 : LI → α) (n : Nat) (s : LI) : Option α :=
 bindO (Fh.l1_0.m n n (0, s)) fun r2 =>
  some (mk0 r2)
def Fh.m (n : Nat) (t : LI) : Option LI := Fh.g (fun a0 => a0) n t
def Fh.pat : List AV → Blks → Option LI
 | [(.ptr 0 [])], [(some (.var (.ints .u64 25 s)))] => some s
 | _, _ => none
def Fh.shape (t : LI) : List AV × Blks := ([(.ptr 0 [])], [(some (.var (.ints .u64 25 t)))])
def Fh.res : LI → AV × Blks
 | u => (Prod.mk (.tup []) [(some (.var (.ints .u64 25 u)))])
def Fh.resK {R : Type} (u : LI) (K : AV → Blks → Option R) : Option R := K (Fh.res u).1 (Fh.res u).2
def Fh.c (n : Nat) : Abs.Callee := .mk' [true] [none] Fh.pat (Fh.m n) Fh.resK
end
end
section
noncomputable abbrev Fh.R0 (n : Nat) := roundOf (Fh.C n) (Fh.A n) n Fh.b0
theorem Fh.l1_0.rmap {α β : Type} (h : β → α) (mk0 : LI → β) (n : Nat) (f : Int → LI → Option β)  (x0 : Int) (x1 : LI) : Fh.l1_0.r (fun a0 => (h (mk0 a0))) n (fun y0 y1 => (f y0 y1).map h) x0 x1 = (Fh.l1_0.r mk0 n f x0 x1).map h := by
  unfold Fh.l1_0.r
  exact (ite_map (bindO_map fun r6 => (bindO_map fun r8 => (bindO_map fun r10 => (ite_map (ite_map rfl rfl) rfl)))) rfl)
theorem Fh.l1_0.gmap {α β : Type} (h : β → α) (mk0 : LI → β) (n : Nat) : ∀ (m : Nat) (x0 : Int) (x1 : LI), Fh.l1_0.g (fun a0 => (h (mk0 a0))) n m x0 x1 = (Fh.l1_0.g mk0 n m x0 x1).map h
  | 0, _, _ => rfl
  | m + 1, x0, x1 => by
    unfold Fh.l1_0.g
    rw [← Fh.l1_0.rmap]
    congr
    · funext y0 y1; exact Fh.l1_0.gmap h mk0 n m y0 y1
theorem Fh.l1_0.pat_shape : ∀ st t, Fh.l1_0.pat st = some t → st = Fh.l1_0.shape t := fun _ _ h => by unfold Fh.l1_0.pat at h; split at h <;> cases h; rfl
def Fh.l1_0.k0 : LI → Ex × St := (fun a0 => ((Prod.mk (.exit 0) (St.mk [] [(some (.var (.ints .u64 25 a0)))])) : Ex × St))
theorem Fh.l1_0.round (n : Nat) (rc : St → Option (Ex × St)) (x0 : Int) (x1 : LI) : Fh.R0 n rc ((St.mk [(.int .i64 x0), (.ptr 0 [])] [(some (.var (.ints .u64 25 x1)))])) = Fh.l1_0.r Fh.l1_0.k0 n (fun y0 y1 => rc ((St.mk [(.int .i64 y0), (.ptr 0 [])] [(some (.var (.ints .u64 25 y1)))]))) x0 x1 := by kernel_rfl
theorem Fh.l1_0.loop' (n : Nat) : ∀ (m : Nat) (t : (Int × LI)), loopOf (Fh.R0 n) m (Fh.l1_0.shape t) = Fh.l1_0.g Fh.l1_0.k0 n m t.1 t.2 :=
  loop_of_round (shape := Fh.l1_0.shape) (body := Fh.R0 n) (g := fun m t => Fh.l1_0.g Fh.l1_0.k0 n m t.1 t.2) (fun t => rfl)
    fun m t ih => (Fh.l1_0.round n (loopOf (Fh.R0 n) m) t.1 t.2).trans (congrFun (congrFun (congrArg (Fh.l1_0.r Fh.l1_0.k0 n) (funext fun y0 => funext fun y1 => ih (y0, y1))) t.1) t.2)
theorem Fh.l1_0.loop (n m : Nat) (t : (Int × LI)) : loopOf (Fh.R0 n) m (Fh.l1_0.shape t) = (Fh.l1_0.m n m t).map Fh.l1_0.res :=
  (Fh.l1_0.loop' n m t).trans (Fh.l1_0.gmap Fh.l1_0.res (fun a0 => a0) n m t.1 t.2)
theorem Fh.gmap {α β : Type} (h : β → α) (mk0 : LI → β) (n : Nat) (s : LI) : Fh.g (fun a0 => (h (mk0 a0))) n s = (Fh.g mk0 n s).map h := by
  unfold Fh.g
  exact (bindO_map fun r2 => rfl)
theorem Fh.run (n : Nat) (s : LI) : runF (Fh.C n) (Fh.A n) n Tryd.f111 [(.ptr 0 [])] [(some (.var (.ints .u64 25 s)))] (fun v o => some (v, o)) = Fh.g (fun a0 => ((Prod.mk (.tup []) [(some (.var (.ints .u64 25 a0)))]) : AV × Blks)) n s := by kernel_rfl
theorem Fh.call (hmix : Tryd.prog.follows .mixedOrders = true) (n : Nat) (t : LI) (u) (h : Fh.m n t = some u) : FnC Tryd.prog abiG 111 (Fh.shape t).1 (Fh.shape t).2 (Fh.res u).1 (Fh.res u).2 :=
  fnC1 (C := Fh.C n) (A := Fh.A n) (fn := Tryd.f111) rfl (.cons (Fb.s hmix n) (.cons (Fe.s hmix n) (.cons (Fg.s hmix n) .nil))) hmix Tryd.func111 (by kernel_rfl) (lp := [Fh.b0]) (by kernel_rfl) (.cons (show (Fh.A n).loop (key Fh.b0) = some (.mk' Fh.l1_0.pat (Fh.l1_0.m n n) Fh.l1_0.resK) by kernel_rfl) (LoopS.of (res := Fh.l1_0.res) (fun R u K => rfl) Fh.l1_0.pat_shape fun t => Fh.l1_0.loop n n t)
  .nil)
  (nj rfl) (by decide) rfl rfl (by show 1 ≤ Tryd.f111.ntmps; decide) (Fh.run n t) (Fh.gmap Fh.res (fun a0 => a0) n t) h
theorem Fh.s (hmix : Tryd.prog.follows .mixedOrders = true) (n : Nat) : CalleeS Tryd.prog abiG 111 (Fh.c n) :=
  .mk1 (res := Fh.res) (shape := Fh.shape) (fun R u K => rfl) (fun _ _ _ h => by unfold Fh.pat at h; split at h <;> cases h; rfl) (fun t u h => Fh.call hmix n t u h) Tryd.func111 (by decide) (by kernel_rfl)
end
section
noncomputable section
noncomputable def Fbu.C (n : Nat) : Ctx := ⟨Tryd.prog, abiG, lookC [], fun _ => false⟩
noncomputable def Fbu.A (n : Nat) : Ann := ⟨Tryd.f116.ntmps, 0, noNL, [], [none], fun k => match k with
 | _ => none, noNL, lookJ []⟩
def Fbu.g {α : Type} (mk0 : Int → α) (n : Nat) (a0 : Int) (a1 : Int) : Option α :=
 if (a1 == 0) = true then
  some (mk0 a0)
 else
  if 0 ≤ (IntKind.wrap .u64 a1) then
   if 0 ≤ (IntKind.wrap .u64 (IntKind.wrap .i64 (64 - a1))) then
    some (mk0 (ibits BinOp.or .u64 (ishl .u64 a0 (IntKind.wrap .u64 a1)) (ishr .u64 a0 (IntKind.wrap .u64 (IntKind.wrap .i64 (64 - a1))))))
   else
    none
  else
   none
def Fbu.m (n : Nat) (t : (Int × Int)) : Option Int := Fbu.g (fun a0 => a0) n t.1 t.2
def Fbu.pat : List AV → Blks → Option (Int × Int)
 | [(.int .u64 a0), (.int .i64 a1)], [] => some (a0, a1)
 | _, _ => none
def Fbu.shape (t : (Int × Int)) : List AV × Blks := ([(.int .u64 t.1), (.int .i64 t.2)], [])
def Fbu.res : Int → AV × Blks
 | u => (Prod.mk (.int .u64 u) [])
def Fbu.resK {R : Type} (u : Int) (K : AV → Blks → Option R) : Option R := K (Fbu.res u).1 (Fbu.res u).2
def Fbu.c (n : Nat) : Abs.Callee := .mk' [] [none, none] Fbu.pat (Fbu.m n) Fbu.resK
end
end
section
noncomputable section
noncomputable def Fbv.C (n : Nat) : Ctx := ⟨Tryd.prog, abiG, lookC [(116, Fbu.c n)], fun _ => false⟩
def Fbv.live : NL := fun k => match k with
 | 2 => ([7, 0, 1, 2], [0])
 | 6 => ([9, 8, 0, 1, 2, 7], [8, 0, 1, 2, 7])
 | 11 => ([11, 8, 10, 0, 1, 2, 7], [10, 2, 7, 1])
 | 15 => ([13, 10, 11, 0, 12, 1, 8, 2, 7], [11, 8, 10, 0, 1, 2, 7])
 | 20 => ([15, 14, 10, 2, 7, 1], [14, 2, 7, 1])
 | 23 => ([16, 14, 10, 15, 2, 7, 1], [15, 14, 10, 2, 7, 1])
 | _ => ([], [])
def Fbv.l6_0.r {α : Type} (mk0 : LI → LI → LI → Int → LI → α) (n : Nat) (rc : Int → LI → LI → LI → Int → LI → Option α)  (x0 : Int) (x1 : LI) (x2 : LI) (x3 : LI) (x4 : Int) (x5 : LI) : Option α :=
  if (decide (x0 < 5)) = true then
   if 0 ≤ x0 then
    if x0 < (((List.length x1) : Nat) : Int) then
     if 0 ≤ (IntKind.wrap .i64 (5 + x0)) then
      if (IntKind.wrap .i64 (5 + x0)) < (((List.length x1) : Nat) : Int) then
       if 0 ≤ (IntKind.wrap .i64 (10 + x0)) then
        if (IntKind.wrap .i64 (10 + x0)) < (((List.length x1) : Nat) : Int) then
         if 0 ≤ (IntKind.wrap .i64 (15 + x0)) then
          if (IntKind.wrap .i64 (15 + x0)) < (((List.length x1) : Nat) : Int) then
           if 0 ≤ (IntKind.wrap .i64 (20 + x0)) then
            if (IntKind.wrap .i64 (20 + x0)) < (((List.length x1) : Nat) : Int) then
             if ((((List.length x5) + 1) * 8) ≤ 70368744177664 ∧ ((List.length x5) + 1) ≤ 9223372036854775807) then
              rc (IntKind.wrap .i64 (x0 + 1)) x1 x2 x3 x4 (x5 ++ [(ibits BinOp.xor .u64 (ibits BinOp.xor .u64 (ibits BinOp.xor .u64 (ibits BinOp.xor .u64 (List.getD x1 (Int.toNat x0) 0) (List.getD x1 (Int.toNat (IntKind.wrap .i64 (5 + x0))) 0)) (List.getD x1 (Int.toNat (IntKind.wrap .i64 (10 + x0))) 0)) (List.getD x1 (Int.toNat (IntKind.wrap .i64 (15 + x0))) 0)) (List.getD x1 (Int.toNat (IntKind.wrap .i64 (20 + x0))) 0))])
             else
              none
            else
             none
           else
            none
          else
           none
         else
          none
        else
         none
       else
        none
      else
       none
     else
      none
    else
     none
   else
    none
  else
   some (mk0 x1 x2 x3 x4 x5)
def Fbv.l6_0.g {α : Type} (mk0 : LI → LI → LI → Int → LI → α) (n : Nat) : Nat → Int → LI → LI → LI → Int → LI → Option α
 | 0, _, _, _, _, _, _ => none
 | m + 1, x0, x1, x2, x3, x4, x5 => Fbv.l6_0.r mk0 n (fun y0 y1 y2 y3 y4 y5 => Fbv.l6_0.g mk0 n m y0 y1 y2 y3 y4 y5)  x0 x1 x2 x3 x4 x5
def Fbv.l6_0.m (n m : Nat) (t : (Int × (LI × (LI × (LI × (Int × LI)))))) : Option (LI × (LI × (LI × (Int × LI)))) := Fbv.l6_0.g (fun a0 a1 a2 a3 a4 => (a0, a1, a2, a3, a4)) n m t.1 t.2.1 t.2.2.1 t.2.2.2.1 t.2.2.2.2.1 t.2.2.2.2.2
def Fbv.l6_0.pat : St → Option (Int × (LI × (LI × (LI × (Int × LI)))))
 | (St.mk [(.int .i64 x0), (.own 0 1), (.rints .u64 x1), (.rints .i64 x2), (.rints .u64 x3), (.int .i64 x4)] [(some (.ints .u64 x5))]) => some (x0, x1, x2, x3, x4, x5)
 | _ => none
def Fbv.l6_0.shape (t : (Int × (LI × (LI × (LI × (Int × LI)))))) : St := (St.mk [(.int .i64 t.1), (.own 0 1), (.rints .u64 t.2.1), (.rints .i64 t.2.2.1), (.rints .u64 t.2.2.2.1), (.int .i64 t.2.2.2.2.1)] [(some (.ints .u64 t.2.2.2.2.2))])
def Fbv.l6_0.res : (LI × (LI × (LI × (Int × LI)))) → Ex × St
 | u => (Prod.mk (.exit 2) (St.mk [(.own 0 1), (.rints .u64 u.1), (.rints .i64 u.2.1), (.rints .u64 u.2.2.1), (.int .i64 u.2.2.2.1)] [(some (.ints .u64 u.2.2.2.2))]))
def Fbv.l6_0.resK {R : Type} (u : (LI × (LI × (LI × (Int × LI))))) (K : Ex → St → Option R) : Option R := K (Fbv.l6_0.res u).1 (Fbv.l6_0.res u).2
def Fbv.l15_0.r {α : Type} (mk0 : Int → LI → LI → LI → Int → LI → LI → α) (n : Nat) (rc : Int → Int → LI → Int → LI → LI → Int → LI → LI → Option α)  (x0 : Int) (x1 : Int) (x2 : LI) (x3 : Int) (x4 : LI) (x5 : LI) (x6 : Int) (x7 : LI) (x8 : LI) : Option α :=
  if (decide (x0 < 5)) = true then
   if 0 ≤ (IntKind.wrap .i64 ((IntKind.wrap .i64 (5 * x0)) + x1)) then
    if (IntKind.wrap .i64 ((IntKind.wrap .i64 (5 * x0)) + x1)) < (((List.length x2) : Nat) : Int) then
     if 0 ≤ (IntKind.wrap .i64 ((IntKind.wrap .i64 (5 * x0)) + x1)) then
      if (IntKind.wrap .i64 ((IntKind.wrap .i64 (5 * x0)) + x1)) < (((List.length x4) : Nat) : Int) then
       bindO (Fbu.m n (Prod.mk (ibits BinOp.xor .u64 (List.getD x2 (Int.toNat (IntKind.wrap .i64 ((IntKind.wrap .i64 (5 * x0)) + x1))) 0) x3) (List.getD x4 (Int.toNat (IntKind.wrap .i64 ((IntKind.wrap .i64 (5 * x0)) + x1))) 0))) fun r14 =>
        if 0 ≤ (IntKind.wrap .i64 ((IntKind.wrap .i64 (5 * (Int.tmod (IntKind.wrap .i64 ((IntKind.wrap .i64 (2 * x1)) + (IntKind.wrap .i64 (3 * x0)))) 5))) + x0)) then
         if (IntKind.wrap .i64 ((IntKind.wrap .i64 (5 * (Int.tmod (IntKind.wrap .i64 ((IntKind.wrap .i64 (2 * x1)) + (IntKind.wrap .i64 (3 * x0)))) 5))) + x0)) < (((List.length x7) : Nat) : Int) then
          rc (IntKind.wrap .i64 (x0 + 1)) x1 x2 x3 x4 x5 x6 (List.set x7 (Int.toNat (IntKind.wrap .i64 ((IntKind.wrap .i64 (5 * (Int.tmod (IntKind.wrap .i64 ((IntKind.wrap .i64 (2 * x1)) + (IntKind.wrap .i64 (3 * x0)))) 5))) + x0))) r14) x8
         else
          none
        else
         none
      else
       none
     else
      none
    else
     none
   else
    none
  else
   some (mk0 x1 x2 x4 x5 x6 x8 x7)
def Fbv.l15_0.g {α : Type} (mk0 : Int → LI → LI → LI → Int → LI → LI → α) (n : Nat) : Nat → Int → Int → LI → Int → LI → LI → Int → LI → LI → Option α
 | 0, _, _, _, _, _, _, _, _, _ => none
 | m + 1, x0, x1, x2, x3, x4, x5, x6, x7, x8 => Fbv.l15_0.r mk0 n (fun y0 y1 y2 y3 y4 y5 y6 y7 y8 => Fbv.l15_0.g mk0 n m y0 y1 y2 y3 y4 y5 y6 y7 y8)  x0 x1 x2 x3 x4 x5 x6 x7 x8
def Fbv.l15_0.m (n m : Nat) (t : (Int × (Int × (LI × (Int × (LI × (LI × (Int × (LI × LI))))))))) : Option (Int × (LI × (LI × (LI × (Int × (LI × LI)))))) := Fbv.l15_0.g (fun a0 a1 a2 a3 a4 a5 a6 => (a0, a1, a2, a3, a4, a5, a6)) n m t.1 t.2.1 t.2.2.1 t.2.2.2.1 t.2.2.2.2.1 t.2.2.2.2.2.1 t.2.2.2.2.2.2.1 t.2.2.2.2.2.2.2.1 t.2.2.2.2.2.2.2.2
def Fbv.l15_0.pat : St → Option (Int × (Int × (LI × (Int × (LI × (LI × (Int × (LI × LI))))))))
 | (St.mk [(.int .i64 x0), (.own 0 1), (.int .i64 x1), (.rints .u64 x2), (.int .u64 x3), (.rints .i64 x4), (.own 1 1), (.rints .u64 x5), (.int .i64 x6)] [(some (.ints .u64 x7)), (some (.ints .u64 x8))]) => some (x0, x1, x2, x3, x4, x5, x6, x7, x8)
 | _ => none
def Fbv.l15_0.shape (t : (Int × (Int × (LI × (Int × (LI × (LI × (Int × (LI × LI))))))))) : St := (St.mk [(.int .i64 t.1), (.own 0 1), (.int .i64 t.2.1), (.rints .u64 t.2.2.1), (.int .u64 t.2.2.2.1), (.rints .i64 t.2.2.2.2.1), (.own 1 1), (.rints .u64 t.2.2.2.2.2.1), (.int .i64 t.2.2.2.2.2.2.1)] [(some (.ints .u64 t.2.2.2.2.2.2.2.1)), (some (.ints .u64 t.2.2.2.2.2.2.2.2))])
def Fbv.l15_0.res : (Int × (LI × (LI × (LI × (Int × (LI × LI)))))) → Ex × St
 | u => (Prod.mk (.exit 6) (St.mk [(.int .i64 u.1), (.own 0 1), (.own 1 1), (.rints .u64 u.2.1), (.rints .i64 u.2.2.1), (.rints .u64 u.2.2.2.1), (.int .i64 u.2.2.2.2.1)] [(some (.ints .u64 u.2.2.2.2.2.1)), (some (.ints .u64 u.2.2.2.2.2.2))]))
def Fbv.l15_0.resK {R : Type} (u : (Int × (LI × (LI × (LI × (Int × (LI × LI))))))) (K : Ex → St → Option R) : Option R := K (Fbv.l15_0.res u).1 (Fbv.l15_0.res u).2
def Fbv.l11_0.r {α : Type} (mk0 : LI → Int → LI → LI → α) (n : Nat) (rc : Int → LI → LI → LI → Int → LI → LI → Option α)  (x0 : Int) (x1 : LI) (x2 : LI) (x3 : LI) (x4 : Int) (x5 : LI) (x6 : LI) : Option α :=
  if (decide (x0 < 5)) = true then
   if 0 ≤ (Int.tmod (IntKind.wrap .i64 (x0 + 4)) 5) then
    if (Int.tmod (IntKind.wrap .i64 (x0 + 4)) 5) < (((List.length x5) : Nat) : Int) then
     if 0 ≤ (Int.tmod (IntKind.wrap .i64 (x0 + 1)) 5) then
      if (Int.tmod (IntKind.wrap .i64 (x0 + 1)) 5) < (((List.length x5) : Nat) : Int) then
       bindO (Fbu.m n (Prod.mk (List.getD x5 (Int.toNat (Int.tmod (IntKind.wrap .i64 (x0 + 1)) 5)) 0) 1)) fun r14 =>
        bindO (Fbv.l15_0.m n n (0, x0, x1, (ibits BinOp.xor .u64 (List.getD x5 (Int.toNat (Int.tmod (IntKind.wrap .i64 (x0 + 4)) 5)) 0) r14), x2, x3, x4, x6, x5)) fun r16 =>
         rc (IntKind.wrap .i64 ((Prod.fst r16) + 1)) (Prod.fst r16.2) (Prod.fst (Prod.snd r16).2) (Prod.fst (Prod.snd r16.2).2) (Prod.fst (Prod.snd (Prod.snd r16).2).2) (Prod.fst (Prod.snd (Prod.snd r16.2).2).2) (Prod.snd (Prod.snd (Prod.snd r16.2).2).2)
      else
       none
     else
      none
    else
     none
   else
    none
  else
   some (mk0 x3 x4 x2 x6)
def Fbv.l11_0.g {α : Type} (mk0 : LI → Int → LI → LI → α) (n : Nat) : Nat → Int → LI → LI → LI → Int → LI → LI → Option α
 | 0, _, _, _, _, _, _, _ => none
 | m + 1, x0, x1, x2, x3, x4, x5, x6 => Fbv.l11_0.r mk0 n (fun y0 y1 y2 y3 y4 y5 y6 => Fbv.l11_0.g mk0 n m y0 y1 y2 y3 y4 y5 y6)  x0 x1 x2 x3 x4 x5 x6
def Fbv.l11_0.m (n m : Nat) (t : (Int × (LI × (LI × (LI × (Int × (LI × LI))))))) : Option (LI × (Int × (LI × LI))) := Fbv.l11_0.g (fun a0 a1 a2 a3 => (a0, a1, a2, a3)) n m t.1 t.2.1 t.2.2.1 t.2.2.2.1 t.2.2.2.2.1 t.2.2.2.2.2.1 t.2.2.2.2.2.2
def Fbv.l11_0.pat : St → Option (Int × (LI × (LI × (LI × (Int × (LI × LI))))))
 | (St.mk [(.int .i64 x0), (.own 0 1), (.own 1 1), (.rints .u64 x1), (.rints .i64 x2), (.rints .u64 x3), (.int .i64 x4)] [(some (.ints .u64 x5)), (some (.ints .u64 x6))]) => some (x0, x1, x2, x3, x4, x5, x6)
 | _ => none
def Fbv.l11_0.shape (t : (Int × (LI × (LI × (LI × (Int × (LI × LI))))))) : St := (St.mk [(.int .i64 t.1), (.own 0 1), (.own 1 1), (.rints .u64 t.2.1), (.rints .i64 t.2.2.1), (.rints .u64 t.2.2.2.1), (.int .i64 t.2.2.2.2.1)] [(some (.ints .u64 t.2.2.2.2.2.1)), (some (.ints .u64 t.2.2.2.2.2.2))])
def Fbv.l11_0.res : (LI × (Int × (LI × LI))) → Ex × St
 | u => (Prod.mk (.exit 4) (St.mk [(.own 0 1), (.rints .u64 u.1), (.int .i64 u.2.1), (.rints .i64 u.2.2.1)] [(some (.ints .u64 u.2.2.2))]))
def Fbv.l11_0.resK {R : Type} (u : (LI × (Int × (LI × LI)))) (K : Ex → St → Option R) : Option R := K (Fbv.l11_0.res u).1 (Fbv.l11_0.res u).2
def Fbv.l23_0.r {α : Type} (mk0 : Int → LI → Int → LI → LI → LI → α) (n : Nat) (rc : Int → Int → LI → Int → LI → LI → LI → Option α)  (x0 : Int) (x1 : Int) (x2 : LI) (x3 : Int) (x4 : LI) (x5 : LI) (x6 : LI) : Option α :=
  if (decide (x0 < 5)) = true then
   if 0 ≤ (IntKind.wrap .i64 ((IntKind.wrap .i64 (5 * x1)) + x0)) then
    if (IntKind.wrap .i64 ((IntKind.wrap .i64 (5 * x1)) + x0)) < (((List.length x6) : Nat) : Int) then
     if 0 ≤ (IntKind.wrap .i64 ((IntKind.wrap .i64 (5 * x1)) + (Int.tmod (IntKind.wrap .i64 (x0 + 1)) 5))) then
      if (IntKind.wrap .i64 ((IntKind.wrap .i64 (5 * x1)) + (Int.tmod (IntKind.wrap .i64 (x0 + 1)) 5))) < (((List.length x6) : Nat) : Int) then
       if 0 ≤ (IntKind.wrap .i64 ((IntKind.wrap .i64 (5 * x1)) + (Int.tmod (IntKind.wrap .i64 (x0 + 2)) 5))) then
        if (IntKind.wrap .i64 ((IntKind.wrap .i64 (5 * x1)) + (Int.tmod (IntKind.wrap .i64 (x0 + 2)) 5))) < (((List.length x6) : Nat) : Int) then
         if ((((List.length x5) + 1) * 8) ≤ 70368744177664 ∧ ((List.length x5) + 1) ≤ 9223372036854775807) then
          rc (IntKind.wrap .i64 (x0 + 1)) x1 x2 x3 x4 (x5 ++ [(ibits BinOp.xor .u64 (List.getD x6 (Int.toNat (IntKind.wrap .i64 ((IntKind.wrap .i64 (5 * x1)) + x0))) 0) (ibits BinOp.and .u64 (ibits BinOp.xor .u64 (if false = true then (-1) else 18446744073709551615) (List.getD x6 (Int.toNat (IntKind.wrap .i64 ((IntKind.wrap .i64 (5 * x1)) + (Int.tmod (IntKind.wrap .i64 (x0 + 1)) 5)))) 0)) (List.getD x6 (Int.toNat (IntKind.wrap .i64 ((IntKind.wrap .i64 (5 * x1)) + (Int.tmod (IntKind.wrap .i64 (x0 + 2)) 5)))) 0)))]) x6
         else
          none
        else
         none
       else
        none
      else
       none
     else
      none
    else
     none
   else
    none
  else
   some (mk0 x1 x2 x3 x4 x5 x6)
def Fbv.l23_0.g {α : Type} (mk0 : Int → LI → Int → LI → LI → LI → α) (n : Nat) : Nat → Int → Int → LI → Int → LI → LI → LI → Option α
 | 0, _, _, _, _, _, _, _ => none
 | m + 1, x0, x1, x2, x3, x4, x5, x6 => Fbv.l23_0.r mk0 n (fun y0 y1 y2 y3 y4 y5 y6 => Fbv.l23_0.g mk0 n m y0 y1 y2 y3 y4 y5 y6)  x0 x1 x2 x3 x4 x5 x6
def Fbv.l23_0.m (n m : Nat) (t : (Int × (Int × (LI × (Int × (LI × (LI × LI))))))) : Option (Int × (LI × (Int × (LI × (LI × LI))))) := Fbv.l23_0.g (fun a0 a1 a2 a3 a4 a5 => (a0, a1, a2, a3, a4, a5)) n m t.1 t.2.1 t.2.2.1 t.2.2.2.1 t.2.2.2.2.1 t.2.2.2.2.2.1 t.2.2.2.2.2.2
def Fbv.l23_0.pat : St → Option (Int × (Int × (LI × (Int × (LI × (LI × LI))))))
 | (St.mk [(.int .i64 x0), (.own 0 1), (.own 1 1), (.int .i64 x1), (.rints .u64 x2), (.int .i64 x3), (.rints .i64 x4)] [(some (.ints .u64 x5)), (some (.ints .u64 x6))]) => some (x0, x1, x2, x3, x4, x5, x6)
 | _ => none
def Fbv.l23_0.shape (t : (Int × (Int × (LI × (Int × (LI × (LI × LI))))))) : St := (St.mk [(.int .i64 t.1), (.own 0 1), (.own 1 1), (.int .i64 t.2.1), (.rints .u64 t.2.2.1), (.int .i64 t.2.2.2.1), (.rints .i64 t.2.2.2.2.1)] [(some (.ints .u64 t.2.2.2.2.2.1)), (some (.ints .u64 t.2.2.2.2.2.2))])
def Fbv.l23_0.res : (Int × (LI × (Int × (LI × (LI × LI))))) → Ex × St
 | u => (Prod.mk (.exit 10) (St.mk [(.int .i64 u.1), (.own 0 1), (.own 1 1), (.rints .u64 u.2.1), (.int .i64 u.2.2.1), (.rints .i64 u.2.2.2.1)] [(some (.ints .u64 u.2.2.2.2.1)), (some (.ints .u64 u.2.2.2.2.2))]))
def Fbv.l23_0.resK {R : Type} (u : (Int × (LI × (Int × (LI × (LI × LI)))))) (K : Ex → St → Option R) : Option R := K (Fbv.l23_0.res u).1 (Fbv.l23_0.res u).2
def Fbv.l20_0.r {α : Type} (mk0 : LI → Int → LI → LI → α) (n : Nat) (rc : Int → LI → Int → LI → LI → LI → Option α)  (x0 : Int) (x1 : LI) (x2 : Int) (x3 : LI) (x4 : LI) (x5 : LI) : Option α :=
  if (decide (x0 < 5)) = true then
   bindO (Fbv.l23_0.m n n (0, x0, x1, x2, x3, x4, x5)) fun r6 =>
    rc (IntKind.wrap .i64 ((Prod.fst r6) + 1)) (Prod.fst r6.2) (Prod.fst (Prod.snd r6).2) (Prod.fst (Prod.snd r6.2).2) (Prod.fst (Prod.snd (Prod.snd r6).2).2) (Prod.snd (Prod.snd (Prod.snd r6).2).2)
  else
   some (mk0 x1 x2 x3 x4)
def Fbv.l20_0.g {α : Type} (mk0 : LI → Int → LI → LI → α) (n : Nat) : Nat → Int → LI → Int → LI → LI → LI → Option α
 | 0, _, _, _, _, _, _ => none
 | m + 1, x0, x1, x2, x3, x4, x5 => Fbv.l20_0.r mk0 n (fun y0 y1 y2 y3 y4 y5 => Fbv.l20_0.g mk0 n m y0 y1 y2 y3 y4 y5)  x0 x1 x2 x3 x4 x5
def Fbv.l20_0.m (n m : Nat) (t : (Int × (LI × (Int × (LI × (LI × LI)))))) : Option (LI × (Int × (LI × LI))) := Fbv.l20_0.g (fun a0 a1 a2 a3 => (a0, a1, a2, a3)) n m t.1 t.2.1 t.2.2.1 t.2.2.2.1 t.2.2.2.2.1 t.2.2.2.2.2
def Fbv.l20_0.pat : St → Option (Int × (LI × (Int × (LI × (LI × LI)))))
 | (St.mk [(.int .i64 x0), (.own 0 1), (.own 1 1), (.rints .u64 x1), (.int .i64 x2), (.rints .i64 x3)] [(some (.ints .u64 x4)), (some (.ints .u64 x5))]) => some (x0, x1, x2, x3, x4, x5)
 | _ => none
def Fbv.l20_0.shape (t : (Int × (LI × (Int × (LI × (LI × LI)))))) : St := (St.mk [(.int .i64 t.1), (.own 0 1), (.own 1 1), (.rints .u64 t.2.1), (.int .i64 t.2.2.1), (.rints .i64 t.2.2.2.1)] [(some (.ints .u64 t.2.2.2.2.1)), (some (.ints .u64 t.2.2.2.2.2))])
def Fbv.l20_0.res : (LI × (Int × (LI × LI))) → Ex × St
 | u => (Prod.mk (.exit 8) (St.mk [(.own 0 1), (.rints .u64 u.1), (.int .i64 u.2.1), (.rints .i64 u.2.2.1)] [(some (.ints .u64 u.2.2.2))]))
def Fbv.l20_0.resK {R : Type} (u : (LI × (Int × (LI × LI)))) (K : Ex → St → Option R) : Option R := K (Fbv.l20_0.res u).1 (Fbv.l20_0.res u).2
def Fbv.l6v1_0.r {α : Type} (mk0 : LI → LI → Int → LI → LI → α) (n : Nat) (rc : Int → LI → LI → Int → LI → LI → Option α)  (x0 : Int) (x1 : LI) (x2 : LI) (x3 : Int) (x4 : LI) (x5 : LI) : Option α :=
  if (decide (x0 < 5)) = true then
   if 0 ≤ x0 then
    if x0 < (((List.length x5) : Nat) : Int) then
     if 0 ≤ (IntKind.wrap .i64 (5 + x0)) then
      if (IntKind.wrap .i64 (5 + x0)) < (((List.length x5) : Nat) : Int) then
       if 0 ≤ (IntKind.wrap .i64 (10 + x0)) then
        if (IntKind.wrap .i64 (10 + x0)) < (((List.length x5) : Nat) : Int) then
         if 0 ≤ (IntKind.wrap .i64 (15 + x0)) then
          if (IntKind.wrap .i64 (15 + x0)) < (((List.length x5) : Nat) : Int) then
           if 0 ≤ (IntKind.wrap .i64 (20 + x0)) then
            if (IntKind.wrap .i64 (20 + x0)) < (((List.length x5) : Nat) : Int) then
             if ((((List.length x4) + 1) * 8) ≤ 70368744177664 ∧ ((List.length x4) + 1) ≤ 9223372036854775807) then
              rc (IntKind.wrap .i64 (x0 + 1)) x1 x2 x3 (x4 ++ [(ibits BinOp.xor .u64 (ibits BinOp.xor .u64 (ibits BinOp.xor .u64 (ibits BinOp.xor .u64 (List.getD x5 (Int.toNat x0) 0) (List.getD x5 (Int.toNat (IntKind.wrap .i64 (5 + x0))) 0)) (List.getD x5 (Int.toNat (IntKind.wrap .i64 (10 + x0))) 0)) (List.getD x5 (Int.toNat (IntKind.wrap .i64 (15 + x0))) 0)) (List.getD x5 (Int.toNat (IntKind.wrap .i64 (20 + x0))) 0))]) x5
             else
              none
            else
             none
           else
            none
          else
           none
         else
          none
        else
         none
       else
        none
      else
       none
     else
      none
    else
     none
   else
    none
  else
   some (mk0 x1 x2 x3 x4 x5)
def Fbv.l6v1_0.g {α : Type} (mk0 : LI → LI → Int → LI → LI → α) (n : Nat) : Nat → Int → LI → LI → Int → LI → LI → Option α
 | 0, _, _, _, _, _, _ => none
 | m + 1, x0, x1, x2, x3, x4, x5 => Fbv.l6v1_0.r mk0 n (fun y0 y1 y2 y3 y4 y5 => Fbv.l6v1_0.g mk0 n m y0 y1 y2 y3 y4 y5)  x0 x1 x2 x3 x4 x5
def Fbv.l6v1_0.m (n m : Nat) (t : (Int × (LI × (LI × (Int × (LI × LI)))))) : Option (LI × (LI × (Int × (LI × LI)))) := Fbv.l6v1_0.g (fun a0 a1 a2 a3 a4 => (a0, a1, a2, a3, a4)) n m t.1 t.2.1 t.2.2.1 t.2.2.2.1 t.2.2.2.2.1 t.2.2.2.2.2
def Fbv.l6v1_0.pat : St → Option (Int × (LI × (LI × (Int × (LI × LI)))))
 | (St.mk [(.int .i64 x0), (.own 0 1), (.own 1 1), (.rints .i64 x1), (.rints .u64 x2), (.int .i64 x3)] [(some (.ints .u64 x4)), (some (.ints .u64 x5))]) => some (x0, x1, x2, x3, x4, x5)
 | _ => none
def Fbv.l6v1_0.shape (t : (Int × (LI × (LI × (Int × (LI × LI)))))) : St := (St.mk [(.int .i64 t.1), (.own 0 1), (.own 1 1), (.rints .i64 t.2.1), (.rints .u64 t.2.2.1), (.int .i64 t.2.2.2.1)] [(some (.ints .u64 t.2.2.2.2.1)), (some (.ints .u64 t.2.2.2.2.2))])
def Fbv.l6v1_0.res : (LI × (LI × (Int × (LI × LI)))) → Ex × St
 | u => (Prod.mk (.exit 2) (St.mk [(.own 0 1), (.own 1 1), (.rints .i64 u.1), (.rints .u64 u.2.1), (.int .i64 u.2.2.1)] [(some (.ints .u64 u.2.2.2.1)), (some (.ints .u64 u.2.2.2.2))]))
def Fbv.l6v1_0.resK {R : Type} (u : (LI × (LI × (Int × (LI × LI))))) (K : Ex → St → Option R) : Option R := K (Fbv.l6v1_0.res u).1 (Fbv.l6v1_0.res u).2
def Fbv.l15v1_0.r {α : Type} (mk0 : Int → LI → LI → Int → LI → LI → LI → α) (n : Nat) (rc : Int → Int → Int → LI → LI → Int → LI → LI → LI → Option α)  (x0 : Int) (x1 : Int) (x2 : Int) (x3 : LI) (x4 : LI) (x5 : Int) (x6 : LI) (x7 : LI) (x8 : LI) : Option α :=
  if (decide (x0 < 5)) = true then
   if 0 ≤ (IntKind.wrap .i64 ((IntKind.wrap .i64 (5 * x0)) + x1)) then
    if (IntKind.wrap .i64 ((IntKind.wrap .i64 (5 * x0)) + x1)) < (((List.length x7) : Nat) : Int) then
     if 0 ≤ (IntKind.wrap .i64 ((IntKind.wrap .i64 (5 * x0)) + x1)) then
      if (IntKind.wrap .i64 ((IntKind.wrap .i64 (5 * x0)) + x1)) < (((List.length x3) : Nat) : Int) then
       bindO (Fbu.m n (Prod.mk (ibits BinOp.xor .u64 (List.getD x7 (Int.toNat (IntKind.wrap .i64 ((IntKind.wrap .i64 (5 * x0)) + x1))) 0) x2) (List.getD x3 (Int.toNat (IntKind.wrap .i64 ((IntKind.wrap .i64 (5 * x0)) + x1))) 0))) fun r14 =>
        if 0 ≤ (IntKind.wrap .i64 ((IntKind.wrap .i64 (5 * (Int.tmod (IntKind.wrap .i64 ((IntKind.wrap .i64 (2 * x1)) + (IntKind.wrap .i64 (3 * x0)))) 5))) + x0)) then
         if (IntKind.wrap .i64 ((IntKind.wrap .i64 (5 * (Int.tmod (IntKind.wrap .i64 ((IntKind.wrap .i64 (2 * x1)) + (IntKind.wrap .i64 (3 * x0)))) 5))) + x0)) < (((List.length x6) : Nat) : Int) then
          rc (IntKind.wrap .i64 (x0 + 1)) x1 x2 x3 x4 x5 (List.set x6 (Int.toNat (IntKind.wrap .i64 ((IntKind.wrap .i64 (5 * (Int.tmod (IntKind.wrap .i64 ((IntKind.wrap .i64 (2 * x1)) + (IntKind.wrap .i64 (3 * x0)))) 5))) + x0))) r14) x7 x8
         else
          none
        else
         none
      else
       none
     else
      none
    else
     none
   else
    none
  else
   some (mk0 x1 x3 x4 x5 x8 x6 x7)
def Fbv.l15v1_0.g {α : Type} (mk0 : Int → LI → LI → Int → LI → LI → LI → α) (n : Nat) : Nat → Int → Int → Int → LI → LI → Int → LI → LI → LI → Option α
 | 0, _, _, _, _, _, _, _, _, _ => none
 | m + 1, x0, x1, x2, x3, x4, x5, x6, x7, x8 => Fbv.l15v1_0.r mk0 n (fun y0 y1 y2 y3 y4 y5 y6 y7 y8 => Fbv.l15v1_0.g mk0 n m y0 y1 y2 y3 y4 y5 y6 y7 y8)  x0 x1 x2 x3 x4 x5 x6 x7 x8
def Fbv.l15v1_0.m (n m : Nat) (t : (Int × (Int × (Int × (LI × (LI × (Int × (LI × (LI × LI))))))))) : Option (Int × (LI × (LI × (Int × (LI × (LI × LI)))))) := Fbv.l15v1_0.g (fun a0 a1 a2 a3 a4 a5 a6 => (a0, a1, a2, a3, a4, a5, a6)) n m t.1 t.2.1 t.2.2.1 t.2.2.2.1 t.2.2.2.2.1 t.2.2.2.2.2.1 t.2.2.2.2.2.2.1 t.2.2.2.2.2.2.2.1 t.2.2.2.2.2.2.2.2
def Fbv.l15v1_0.pat : St → Option (Int × (Int × (Int × (LI × (LI × (Int × (LI × (LI × LI))))))))
 | (St.mk [(.int .i64 x0), (.own 0 1), (.int .i64 x1), (.own 1 1), (.int .u64 x2), (.rints .i64 x3), (.own 2 1), (.rints .u64 x4), (.int .i64 x5)] [(some (.ints .u64 x6)), (some (.ints .u64 x7)), (some (.ints .u64 x8))]) => some (x0, x1, x2, x3, x4, x5, x6, x7, x8)
 | _ => none
def Fbv.l15v1_0.shape (t : (Int × (Int × (Int × (LI × (LI × (Int × (LI × (LI × LI))))))))) : St := (St.mk [(.int .i64 t.1), (.own 0 1), (.int .i64 t.2.1), (.own 1 1), (.int .u64 t.2.2.1), (.rints .i64 t.2.2.2.1), (.own 2 1), (.rints .u64 t.2.2.2.2.1), (.int .i64 t.2.2.2.2.2.1)] [(some (.ints .u64 t.2.2.2.2.2.2.1)), (some (.ints .u64 t.2.2.2.2.2.2.2.1)), (some (.ints .u64 t.2.2.2.2.2.2.2.2))])
def Fbv.l15v1_0.res : (Int × (LI × (LI × (Int × (LI × (LI × LI)))))) → Ex × St
 | u => (Prod.mk (.exit 6) (St.mk [(.int .i64 u.1), (.own 0 1), (.own 1 1), (.own 2 1), (.rints .i64 u.2.1), (.rints .u64 u.2.2.1), (.int .i64 u.2.2.2.1)] [(some (.ints .u64 u.2.2.2.2.1)), (some (.ints .u64 u.2.2.2.2.2.1)), (some (.ints .u64 u.2.2.2.2.2.2))]))
def Fbv.l15v1_0.resK {R : Type} (u : (Int × (LI × (LI × (Int × (LI × (LI × LI))))))) (K : Ex → St → Option R) : Option R := K (Fbv.l15v1_0.res u).1 (Fbv.l15v1_0.res u).2
def Fbv.l11v1_0.r {α : Type} (mk0 : LI → Int → LI → LI → α) (n : Nat) (rc : Int → LI → LI → Int → LI → LI → LI → Option α)  (x0 : Int) (x1 : LI) (x2 : LI) (x3 : Int) (x4 : LI) (x5 : LI) (x6 : LI) : Option α :=
  if (decide (x0 < 5)) = true then
   if 0 ≤ (Int.tmod (IntKind.wrap .i64 (x0 + 4)) 5) then
    if (Int.tmod (IntKind.wrap .i64 (x0 + 4)) 5) < (((List.length x4) : Nat) : Int) then
     if 0 ≤ (Int.tmod (IntKind.wrap .i64 (x0 + 1)) 5) then
      if (Int.tmod (IntKind.wrap .i64 (x0 + 1)) 5) < (((List.length x4) : Nat) : Int) then
       bindO (Fbu.m n (Prod.mk (List.getD x4 (Int.toNat (Int.tmod (IntKind.wrap .i64 (x0 + 1)) 5)) 0) 1)) fun r14 =>
        bindO (Fbv.l15v1_0.m n n (0, x0, (ibits BinOp.xor .u64 (List.getD x4 (Int.toNat (Int.tmod (IntKind.wrap .i64 (x0 + 4)) 5)) 0) r14), x1, x2, x3, x5, x6, x4)) fun r16 =>
         rc (IntKind.wrap .i64 ((Prod.fst r16) + 1)) (Prod.fst r16.2) (Prod.fst (Prod.snd r16).2) (Prod.fst (Prod.snd r16.2).2) (Prod.fst (Prod.snd (Prod.snd r16).2).2) (Prod.fst (Prod.snd (Prod.snd r16.2).2).2) (Prod.snd (Prod.snd (Prod.snd r16.2).2).2)
      else
       none
     else
      none
    else
     none
   else
    none
  else
   some (mk0 x2 x3 x1 x5)
def Fbv.l11v1_0.g {α : Type} (mk0 : LI → Int → LI → LI → α) (n : Nat) : Nat → Int → LI → LI → Int → LI → LI → LI → Option α
 | 0, _, _, _, _, _, _, _ => none
 | m + 1, x0, x1, x2, x3, x4, x5, x6 => Fbv.l11v1_0.r mk0 n (fun y0 y1 y2 y3 y4 y5 y6 => Fbv.l11v1_0.g mk0 n m y0 y1 y2 y3 y4 y5 y6)  x0 x1 x2 x3 x4 x5 x6
def Fbv.l11v1_0.m (n m : Nat) (t : (Int × (LI × (LI × (Int × (LI × (LI × LI))))))) : Option (LI × (Int × (LI × LI))) := Fbv.l11v1_0.g (fun a0 a1 a2 a3 => (a0, a1, a2, a3)) n m t.1 t.2.1 t.2.2.1 t.2.2.2.1 t.2.2.2.2.1 t.2.2.2.2.2.1 t.2.2.2.2.2.2
def Fbv.l11v1_0.pat : St → Option (Int × (LI × (LI × (Int × (LI × (LI × LI))))))
 | (St.mk [(.int .i64 x0), (.own 0 1), (.own 1 1), (.own 2 1), (.rints .i64 x1), (.rints .u64 x2), (.int .i64 x3)] [(some (.ints .u64 x4)), (some (.ints .u64 x5)), (some (.ints .u64 x6))]) => some (x0, x1, x2, x3, x4, x5, x6)
 | _ => none
def Fbv.l11v1_0.shape (t : (Int × (LI × (LI × (Int × (LI × (LI × LI))))))) : St := (St.mk [(.int .i64 t.1), (.own 0 1), (.own 1 1), (.own 2 1), (.rints .i64 t.2.1), (.rints .u64 t.2.2.1), (.int .i64 t.2.2.2.1)] [(some (.ints .u64 t.2.2.2.2.1)), (some (.ints .u64 t.2.2.2.2.2.1)), (some (.ints .u64 t.2.2.2.2.2.2))])
def Fbv.l11v1_0.res : (LI × (Int × (LI × LI))) → Ex × St
 | u => (Prod.mk (.exit 4) (St.mk [(.own 0 1), (.rints .u64 u.1), (.int .i64 u.2.1), (.rints .i64 u.2.2.1)] [(some (.ints .u64 u.2.2.2))]))
def Fbv.l11v1_0.resK {R : Type} (u : (LI × (Int × (LI × LI)))) (K : Ex → St → Option R) : Option R := K (Fbv.l11v1_0.res u).1 (Fbv.l11v1_0.res u).2
def Fbv.l2_1.r {α : Type} (mk0 : LI → α) (mk1 : LI → α) (n : Nat) (rc : Int → LI → LI → LI → Option α)  (x0 : Int) (x1 : LI) (x2 : LI) (x3 : LI) : Option α :=
  if (decide (x0 < 24)) = true then
   bindO (Fbv.l6v1_0.m n n (0, x1, x2, x0, [], x3)) fun r6 =>
    bindO (Fbv.l11v1_0.m n n (0, (Prod.fst r6), (Prod.fst r6.2), (Prod.fst (Prod.snd r6).2), (Prod.fst (Prod.snd r6.2).2), ([0, 0, 0, 0, 0, 0, 0, 0, 0, 0, 0, 0, 0, 0, 0, 0, 0, 0, 0, 0, 0, 0, 0, 0, 0] : List Int), (Prod.snd (Prod.snd r6.2).2))) fun r8 =>
     bindO (Fbv.l20_0.m n n (0, (Prod.fst r8), (Prod.fst r8.2), (Prod.fst (Prod.snd r8).2), [], (Prod.snd (Prod.snd r8).2))) fun r10 =>
      if 0 < (((List.length (Prod.snd (Prod.snd r10).2)) : Nat) : Int) then
       if 0 ≤ (Prod.fst r10.2) then
        if (Prod.fst r10.2) < (((List.length (Prod.fst r10)) : Nat) : Int) then
         if 0 < (((List.length (Prod.snd (Prod.snd r10).2)) : Nat) : Int) then
          rc (IntKind.wrap .i64 ((Prod.fst r10.2) + 1)) (Prod.fst (Prod.snd r10).2) (Prod.fst r10) (List.set (Prod.snd (Prod.snd r10).2) 0 (ibits BinOp.xor .u64 (List.getD (Prod.snd (Prod.snd r10).2) 0 0) (List.getD (Prod.fst r10) (Int.toNat (Prod.fst r10.2)) 0)))
         else
          none
        else
         none
       else
        none
      else
       none
  else
   some (mk0 x3)
def Fbv.l2_1.g {α : Type} (mk0 : LI → α) (mk1 : LI → α) (n : Nat) : Nat → Int → LI → LI → LI → Option α
 | 0, _, _, _, _ => none
 | m + 1, x0, x1, x2, x3 => Fbv.l2_1.r mk0 mk1 n (fun y0 y1 y2 y3 => Fbv.l2_1.g mk0 mk1 n m y0 y1 y2 y3)  x0 x1 x2 x3
def Fbv.l2_1.shape (t : (Int × (LI × (LI × LI)))) : St := (St.mk [(.int .i64 t.1), (.own 0 1), (.rints .i64 t.2.1), (.rints .u64 t.2.2.1)] [(some (.ints .u64 t.2.2.2))])
def Fbv.l2_0.r {α : Type} (mk0 : LI → α) (mk1 : LI → α) (n : Nat) (rc : Int → LI → LI → LI → Option α) (rc0 : Int → LI → LI → LI → Option α) (x0 : Int) (x1 : LI) (x2 : LI) (x3 : LI) : Option α :=
  if (decide (x0 < 24)) = true then
   bindO (Fbv.l6_0.m n n (0, x1, x2, x3, x0, [])) fun r6 =>
    bindO (Fbv.l11_0.m n n (0, (Prod.fst r6), (Prod.fst r6.2), (Prod.fst (Prod.snd r6).2), (Prod.fst (Prod.snd r6.2).2), (Prod.snd (Prod.snd r6.2).2), ([0, 0, 0, 0, 0, 0, 0, 0, 0, 0, 0, 0, 0, 0, 0, 0, 0, 0, 0, 0, 0, 0, 0, 0, 0] : List Int))) fun r8 =>
     bindO (Fbv.l20_0.m n n (0, (Prod.fst r8), (Prod.fst r8.2), (Prod.fst (Prod.snd r8).2), [], (Prod.snd (Prod.snd r8).2))) fun r10 =>
      if 0 < (((List.length (Prod.snd (Prod.snd r10).2)) : Nat) : Int) then
       if 0 ≤ (Prod.fst r10.2) then
        if (Prod.fst r10.2) < (((List.length (Prod.fst r10)) : Nat) : Int) then
         if 0 < (((List.length (Prod.snd (Prod.snd r10).2)) : Nat) : Int) then
          rc0 (IntKind.wrap .i64 ((Prod.fst r10.2) + 1)) (Prod.fst (Prod.snd r10).2) (Prod.fst r10) (List.set (Prod.snd (Prod.snd r10).2) 0 (ibits BinOp.xor .u64 (List.getD (Prod.snd (Prod.snd r10).2) 0 0) (List.getD (Prod.fst r10) (Int.toNat (Prod.fst r10.2)) 0)))
         else
          none
        else
         none
       else
        none
      else
       none
  else
   some (mk1 x1)
def Fbv.l2_0.g {α : Type} (mk0 : LI → α) (mk1 : LI → α) (n : Nat) : Nat → Int → LI → LI → LI → Option α
 | 0, _, _, _, _ => none
 | m + 1, x0, x1, x2, x3 => Fbv.l2_0.r mk0 mk1 n (fun y0 y1 y2 y3 => Fbv.l2_0.g mk0 mk1 n m y0 y1 y2 y3) (fun y0 y1 y2 y3 => Fbv.l2_1.g mk0 mk1 n m y0 y1 y2 y3) x0 x1 x2 x3
def Fbv.l2_0.m (n m : Nat) (t : (Int × (LI × (LI × LI)))) : Option (LI ⊕ LI) := Fbv.l2_0.g (fun a0 => (.inl a0)) (fun a0 => (.inr a0)) n m t.1 t.2.1 t.2.2.1 t.2.2.2
def Fbv.l2_0.pat : St → Option (Int × (LI × (LI × LI)))
 | (St.mk [(.int .i64 x0), (.rints .u64 x1), (.rints .i64 x2), (.rints .u64 x3)] []) => some (x0, x1, x2, x3)
 | _ => none
def Fbv.l2_0.shape (t : (Int × (LI × (LI × LI)))) : St := (St.mk [(.int .i64 t.1), (.rints .u64 t.2.1), (.rints .i64 t.2.2.1), (.rints .u64 t.2.2.2)] [])
def Fbv.l2_0.res : (LI ⊕ LI) → Ex × St
 | (.inl u) => (Prod.mk (.exit 0) (St.mk [(.own 0 1)] [(some (.ints .u64 u))]))
 | (.inr u) => (Prod.mk (.exit 0) (St.mk [(.rints .u64 u)] []))
def Fbv.l2_0.resK {R : Type} (u : (LI ⊕ LI)) (K : Ex → St → Option R) : Option R := match u with
 | (.inl u) => (fun p : Ex × St => K p.1 p.2) (Prod.mk (.exit 0) (St.mk [(.own 0 1)] [(some (.ints .u64 u))]))
 | (.inr u) => (fun p : Ex × St => K p.1 p.2) (Prod.mk (.exit 0) (St.mk [(.rints .u64 u)] []))
noncomputable def Fbv.A (n : Nat) : Ann := ⟨Tryd.f98.ntmps, 0, Fbv.live, [(0, (.ints .u64)), (1, (.ints .i64)), (2, (.ints .u64)), (8, (.ints .u64)), (10, (.ints .u64)), (14, (.ints .u64))], [(some (.ints .u64))], fun k => match k with
 | 6 => some (.alt Fbv.l6_0.pat (.mk' Fbv.l6_0.pat (Fbv.l6_0.m n n) Fbv.l6_0.resK) (.mk' Fbv.l6v1_0.pat (Fbv.l6v1_0.m n n) Fbv.l6v1_0.resK))
 | 15 => some (.alt Fbv.l15_0.pat (.mk' Fbv.l15_0.pat (Fbv.l15_0.m n n) Fbv.l15_0.resK) (.mk' Fbv.l15v1_0.pat (Fbv.l15v1_0.m n n) Fbv.l15v1_0.resK))
 | 11 => some (.alt Fbv.l11_0.pat (.mk' Fbv.l11_0.pat (Fbv.l11_0.m n n) Fbv.l11_0.resK) (.mk' Fbv.l11v1_0.pat (Fbv.l11v1_0.m n n) Fbv.l11v1_0.resK))
 | 23 => some (.mk' Fbv.l23_0.pat (Fbv.l23_0.m n n) Fbv.l23_0.resK)
 | 20 => some (.mk' Fbv.l20_0.pat (Fbv.l20_0.m n n) Fbv.l20_0.resK)
 | 2 => some (.mk' Fbv.l2_0.pat (Fbv.l2_0.m n n) Fbv.l2_0.resK)
 | _ => none, noNL, lookJ []⟩
noncomputable def Fbv.b0 : Code := (loopsIn (Tryd.f98.body.getD .skip)).getD 0 .skip
noncomputable def Fbv.b1 : Code := (loopsIn (Tryd.f98.body.getD .skip)).getD 1 .skip
noncomputable def Fbv.b2 : Code := (loopsIn (Tryd.f98.body.getD .skip)).getD 2 .skip
noncomputable def Fbv.b3 : Code := (loopsIn (Tryd.f98.body.getD .skip)).getD 3 .skip
noncomputable def Fbv.b4 : Code := (loopsIn (Tryd.f98.body.getD .skip)).getD 4 .skip
noncomputable def Fbv.b5 : Code := (loopsIn (Tryd.f98.body.getD .skip)).getD 5 .skip
def Fbv.g {α : Type} (mk0 : LI → α) (mk1 : LI → α) (n : Nat) (a0 : LI) (a1 : LI) (a2 : LI) : Option α :=
 bindO (Fbv.l2_0.m n n (0, a0, a1, a2)) fun r2 => match r2 with
  | (.inl r2) =>
   some (mk0 r2)
  | (.inr r2) =>
   some (mk1 r2)
def Fbv.m (n : Nat) (t : (LI × (LI × LI))) : Option (LI ⊕ LI) := Fbv.g (fun a0 => (.inl a0)) (fun a0 => (.inr a0)) n t.1 t.2.1 t.2.2
def Fbv.pat : List AV → Blks → Option (LI × (LI × LI))
 | [(.rints .u64 a0), (.rints .i64 a1), (.rints .u64 a2)], [] => some (a0, a1, a2)
 | _, _ => none
def Fbv.shape (t : (LI × (LI × LI))) : List AV × Blks := ([(.rints .u64 t.1), (.rints .i64 t.2.1), (.rints .u64 t.2.2)], [])
def Fbv.res : (LI ⊕ LI) → AV × Blks
 | (.inl u) => (Prod.mk (.own 0 1) [(some (.ints .u64 u))])
 | (.inr u) => (Prod.mk (.rints .u64 u) [])
def Fbv.resK {R : Type} (u : (LI ⊕ LI)) (K : AV → Blks → Option R) : Option R := match u with
 | (.inl u) => (fun p : AV × Blks => K p.1 p.2) (Prod.mk (.own 0 1) [(some (.ints .u64 u))])
 | (.inr u) => (fun p : AV × Blks => K p.1 p.2) (Prod.mk (.rints .u64 u) [])
def Fbv.c (n : Nat) : Abs.Callee := .mk' [] [(some (.ints .u64)), (some (.ints .i64)), (some (.ints .u64))] Fbv.pat (Fbv.m n) Fbv.resK
end
end
section
theorem Fbu.gmap {α β : Type} (h : β → α) (mk0 : Int → β) (n : Nat) (a0 : Int) (a1 : Int) : Fbu.g (fun a0 => (h (mk0 a0))) n a0 a1 = (Fbu.g mk0 n a0 a1).map h := by
  unfold Fbu.g
  exact (ite_map rfl (ite_map (ite_map rfl rfl) rfl))
theorem Fbu.run (n : Nat) (a0 : Int) (a1 : Int) : runF (Fbu.C n) (Fbu.A n) n Tryd.f116 [(.int .u64 a0), (.int .i64 a1)] [] (fun v o => some (v, o)) = Fbu.g (fun a0 => ((Prod.mk (.int .u64 a0) []) : AV × Blks)) n a0 a1 := by kernel_rfl
theorem Fbu.call (hmix : Tryd.prog.follows .mixedOrders = true) (n : Nat) (t : (Int × Int)) (u) (h : Fbu.m n t = some u) : FnC Tryd.prog abiG 116 (Fbu.shape t).1 (Fbu.shape t).2 (Fbu.res u).1 (Fbu.res u).2 :=
  fnC1 (C := Fbu.C n) (A := Fbu.A n) (fn := Tryd.f116) rfl .nil hmix Tryd.func116 (by kernel_rfl) (lp := []) (by kernel_rfl) .nil
  (nj rfl) (by decide) rfl rfl (by show 2 ≤ Tryd.f116.ntmps; decide) (Fbu.run n t.1 t.2) (Fbu.gmap Fbu.res (fun a0 => a0) n t.1 t.2) h
theorem Fbu.s (hmix : Tryd.prog.follows .mixedOrders = true) (n : Nat) : CalleeS Tryd.prog abiG 116 (Fbu.c n) :=
  .mk1 (res := Fbu.res) (shape := Fbu.shape) (fun R u K => rfl) (fun _ _ _ h => by unfold Fbu.pat at h; split at h <;> cases h; rfl) (fun t u h => Fbu.call hmix n t u h) Tryd.func116 (by decide) (by kernel_rfl)
end
section
noncomputable abbrev Fbv.R0 (n : Nat) := roundOf (Fbv.C n) (Fbv.A n) n Fbv.b0
noncomputable abbrev Fbv.R1 (n : Nat) := roundOf (Fbv.C n) (Fbv.A n) n Fbv.b1
noncomputable abbrev Fbv.R2 (n : Nat) := roundOf (Fbv.C n) (Fbv.A n) n Fbv.b2
noncomputable abbrev Fbv.R3 (n : Nat) := roundOf (Fbv.C n) (Fbv.A n) n Fbv.b3
noncomputable abbrev Fbv.R4 (n : Nat) := roundOf (Fbv.C n) (Fbv.A n) n Fbv.b4
noncomputable abbrev Fbv.R5 (n : Nat) := roundOf (Fbv.C n) (Fbv.A n) n Fbv.b5
theorem Fbv.l6_0.rmap {α β : Type} (h : β → α) (mk0 : LI → LI → LI → Int → LI → β) (n : Nat) (f : Int → LI → LI → LI → Int → LI → Option β)  (x0 : Int) (x1 : LI) (x2 : LI) (x3 : LI) (x4 : Int) (x5 : LI) : Fbv.l6_0.r (fun a0 a1 a2 a3 a4 => (h (mk0 a0 a1 a2 a3 a4))) n (fun y0 y1 y2 y3 y4 y5 => (f y0 y1 y2 y3 y4 y5).map h) x0 x1 x2 x3 x4 x5 = (Fbv.l6_0.r mk0 n f x0 x1 x2 x3 x4 x5).map h := by
  unfold Fbv.l6_0.r
  exact (ite_map (ite_map (ite_map (ite_map (ite_map (ite_map (ite_map (ite_map (ite_map (ite_map (ite_map (ite_map rfl rfl) rfl) rfl) rfl) rfl) rfl) rfl) rfl) rfl) rfl) rfl) rfl)
theorem Fbv.l6_0.gmap {α β : Type} (h : β → α) (mk0 : LI → LI → LI → Int → LI → β) (n : Nat) : ∀ (m : Nat) (x0 : Int) (x1 : LI) (x2 : LI) (x3 : LI) (x4 : Int) (x5 : LI), Fbv.l6_0.g (fun a0 a1 a2 a3 a4 => (h (mk0 a0 a1 a2 a3 a4))) n m x0 x1 x2 x3 x4 x5 = (Fbv.l6_0.g mk0 n m x0 x1 x2 x3 x4 x5).map h
  | 0, _, _, _, _, _, _ => rfl
  | m + 1, x0, x1, x2, x3, x4, x5 => by
    unfold Fbv.l6_0.g
    rw [← Fbv.l6_0.rmap]
    congr
    · funext y0 y1 y2 y3 y4 y5; exact Fbv.l6_0.gmap h mk0 n m y0 y1 y2 y3 y4 y5
theorem Fbv.l6_0.pat_shape : ∀ st t, Fbv.l6_0.pat st = some t → st = Fbv.l6_0.shape t := fun _ _ h => by unfold Fbv.l6_0.pat at h; split at h <;> cases h; rfl
def Fbv.l6_0.k0 : LI → LI → LI → Int → LI → Ex × St := (fun a0 a1 a2 a3 a4 => ((Prod.mk (.exit 2) (St.mk [(.own 0 1), (.rints .u64 a0), (.rints .i64 a1), (.rints .u64 a2), (.int .i64 a3)] [(some (.ints .u64 a4))])) : Ex × St))
theorem Fbv.l6_0.round (n : Nat) (rc : St → Option (Ex × St)) (x0 : Int) (x1 : LI) (x2 : LI) (x3 : LI) (x4 : Int) (x5 : LI) : Fbv.R1 n rc ((St.mk [(.int .i64 x0), (.own 0 1), (.rints .u64 x1), (.rints .i64 x2), (.rints .u64 x3), (.int .i64 x4)] [(some (.ints .u64 x5))])) = Fbv.l6_0.r Fbv.l6_0.k0 n (fun y0 y1 y2 y3 y4 y5 => rc ((St.mk [(.int .i64 y0), (.own 0 1), (.rints .u64 y1), (.rints .i64 y2), (.rints .u64 y3), (.int .i64 y4)] [(some (.ints .u64 y5))]))) x0 x1 x2 x3 x4 x5 := by kernel_rfl
theorem Fbv.l6_0.loop' (n : Nat) : ∀ (m : Nat) (t : (Int × (LI × (LI × (LI × (Int × LI)))))), loopOf (Fbv.R1 n) m (Fbv.l6_0.shape t) = Fbv.l6_0.g Fbv.l6_0.k0 n m t.1 t.2.1 t.2.2.1 t.2.2.2.1 t.2.2.2.2.1 t.2.2.2.2.2 :=
  loop_of_round (shape := Fbv.l6_0.shape) (body := Fbv.R1 n) (g := fun m t => Fbv.l6_0.g Fbv.l6_0.k0 n m t.1 t.2.1 t.2.2.1 t.2.2.2.1 t.2.2.2.2.1 t.2.2.2.2.2) (fun t => rfl)
    fun m t ih => (Fbv.l6_0.round n (loopOf (Fbv.R1 n) m) t.1 t.2.1 t.2.2.1 t.2.2.2.1 t.2.2.2.2.1 t.2.2.2.2.2).trans (congrFun (congrFun (congrFun (congrFun (congrFun (congrFun (congrArg (Fbv.l6_0.r Fbv.l6_0.k0 n) (funext fun y0 => funext fun y1 => funext fun y2 => funext fun y3 => funext fun y4 => funext fun y5 => ih (y0, y1, y2, y3, y4, y5))) t.1) t.2.1) t.2.2.1) t.2.2.2.1) t.2.2.2.2.1) t.2.2.2.2.2)
theorem Fbv.l6_0.loop (n m : Nat) (t : (Int × (LI × (LI × (LI × (Int × LI)))))) : loopOf (Fbv.R1 n) m (Fbv.l6_0.shape t) = (Fbv.l6_0.m n m t).map Fbv.l6_0.res :=
  (Fbv.l6_0.loop' n m t).trans (Fbv.l6_0.gmap Fbv.l6_0.res (fun a0 a1 a2 a3 a4 => (a0, a1, a2, a3, a4)) n m t.1 t.2.1 t.2.2.1 t.2.2.2.1 t.2.2.2.2.1 t.2.2.2.2.2)
theorem Fbv.l15_0.rmap {α β : Type} (h : β → α) (mk0 : Int → LI → LI → LI → Int → LI → LI → β) (n : Nat) (f : Int → Int → LI → Int → LI → LI → Int → LI → LI → Option β)  (x0 : Int) (x1 : Int) (x2 : LI) (x3 : Int) (x4 : LI) (x5 : LI) (x6 : Int) (x7 : LI) (x8 : LI) : Fbv.l15_0.r (fun a0 a1 a2 a3 a4 a5 a6 => (h (mk0 a0 a1 a2 a3 a4 a5 a6))) n (fun y0 y1 y2 y3 y4 y5 y6 y7 y8 => (f y0 y1 y2 y3 y4 y5 y6 y7 y8).map h) x0 x1 x2 x3 x4 x5 x6 x7 x8 = (Fbv.l15_0.r mk0 n f x0 x1 x2 x3 x4 x5 x6 x7 x8).map h := by
  unfold Fbv.l15_0.r
  exact (ite_map (ite_map (ite_map (ite_map (ite_map (bindO_map fun r14 => (ite_map (ite_map rfl rfl) rfl)) rfl) rfl) rfl) rfl) rfl)
theorem Fbv.l15_0.gmap {α β : Type} (h : β → α) (mk0 : Int → LI → LI → LI → Int → LI → LI → β) (n : Nat) : ∀ (m : Nat) (x0 : Int) (x1 : Int) (x2 : LI) (x3 : Int) (x4 : LI) (x5 : LI) (x6 : Int) (x7 : LI) (x8 : LI), Fbv.l15_0.g (fun a0 a1 a2 a3 a4 a5 a6 => (h (mk0 a0 a1 a2 a3 a4 a5 a6))) n m x0 x1 x2 x3 x4 x5 x6 x7 x8 = (Fbv.l15_0.g mk0 n m x0 x1 x2 x3 x4 x5 x6 x7 x8).map h
  | 0, _, _, _, _, _, _, _, _, _ => rfl
  | m + 1, x0, x1, x2, x3, x4, x5, x6, x7, x8 => by
    unfold Fbv.l15_0.g
    rw [← Fbv.l15_0.rmap]
    congr
    · funext y0 y1 y2 y3 y4 y5 y6 y7 y8; exact Fbv.l15_0.gmap h mk0 n m y0 y1 y2 y3 y4 y5 y6 y7 y8
theorem Fbv.l15_0.pat_shape : ∀ st t, Fbv.l15_0.pat st = some t → st = Fbv.l15_0.shape t := fun _ _ h => by unfold Fbv.l15_0.pat at h; split at h <;> cases h; rfl
def Fbv.l15_0.k0 : Int → LI → LI → LI → Int → LI → LI → Ex × St := (fun a0 a1 a2 a3 a4 a5 a6 => ((Prod.mk (.exit 6) (St.mk [(.int .i64 a0), (.own 0 1), (.own 1 1), (.rints .u64 a1), (.rints .i64 a2), (.rints .u64 a3), (.int .i64 a4)] [(some (.ints .u64 a5)), (some (.ints .u64 a6))])) : Ex × St))
theorem Fbv.l15_0.round (n : Nat) (rc : St → Option (Ex × St)) (x0 : Int) (x1 : Int) (x2 : LI) (x3 : Int) (x4 : LI) (x5 : LI) (x6 : Int) (x7 : LI) (x8 : LI) : Fbv.R3 n rc ((St.mk [(.int .i64 x0), (.own 0 1), (.int .i64 x1), (.rints .u64 x2), (.int .u64 x3), (.rints .i64 x4), (.own 1 1), (.rints .u64 x5), (.int .i64 x6)] [(some (.ints .u64 x7)), (some (.ints .u64 x8))])) = Fbv.l15_0.r Fbv.l15_0.k0 n (fun y0 y1 y2 y3 y4 y5 y6 y7 y8 => rc ((St.mk [(.int .i64 y0), (.own 0 1), (.int .i64 y1), (.rints .u64 y2), (.int .u64 y3), (.rints .i64 y4), (.own 1 1), (.rints .u64 y5), (.int .i64 y6)] [(some (.ints .u64 y7)), (some (.ints .u64 y8))]))) x0 x1 x2 x3 x4 x5 x6 x7 x8 := by kernel_rfl
theorem Fbv.l15_0.loop' (n : Nat) : ∀ (m : Nat) (t : (Int × (Int × (LI × (Int × (LI × (LI × (Int × (LI × LI))))))))), loopOf (Fbv.R3 n) m (Fbv.l15_0.shape t) = Fbv.l15_0.g Fbv.l15_0.k0 n m t.1 t.2.1 t.2.2.1 t.2.2.2.1 t.2.2.2.2.1 t.2.2.2.2.2.1 t.2.2.2.2.2.2.1 t.2.2.2.2.2.2.2.1 t.2.2.2.2.2.2.2.2 :=
  loop_of_round (shape := Fbv.l15_0.shape) (body := Fbv.R3 n) (g := fun m t => Fbv.l15_0.g Fbv.l15_0.k0 n m t.1 t.2.1 t.2.2.1 t.2.2.2.1 t.2.2.2.2.1 t.2.2.2.2.2.1 t.2.2.2.2.2.2.1 t.2.2.2.2.2.2.2.1 t.2.2.2.2.2.2.2.2) (fun t => rfl)
    fun m t ih => (Fbv.l15_0.round n (loopOf (Fbv.R3 n) m) t.1 t.2.1 t.2.2.1 t.2.2.2.1 t.2.2.2.2.1 t.2.2.2.2.2.1 t.2.2.2.2.2.2.1 t.2.2.2.2.2.2.2.1 t.2.2.2.2.2.2.2.2).trans (congrFun (congrFun (congrFun (congrFun (congrFun (congrFun (congrFun (congrFun (congrFun (congrArg (Fbv.l15_0.r Fbv.l15_0.k0 n) (funext fun y0 => funext fun y1 => funext fun y2 => funext fun y3 => funext fun y4 => funext fun y5 => funext fun y6 => funext fun y7 => funext fun y8 => ih (y0, y1, y2, y3, y4, y5, y6, y7, y8))) t.1) t.2.1) t.2.2.1) t.2.2.2.1) t.2.2.2.2.1) t.2.2.2.2.2.1) t.2.2.2.2.2.2.1) t.2.2.2.2.2.2.2.1) t.2.2.2.2.2.2.2.2)
theorem Fbv.l15_0.loop (n m : Nat) (t : (Int × (Int × (LI × (Int × (LI × (LI × (Int × (LI × LI))))))))) : loopOf (Fbv.R3 n) m (Fbv.l15_0.shape t) = (Fbv.l15_0.m n m t).map Fbv.l15_0.res :=
  (Fbv.l15_0.loop' n m t).trans (Fbv.l15_0.gmap Fbv.l15_0.res (fun a0 a1 a2 a3 a4 a5 a6 => (a0, a1, a2, a3, a4, a5, a6)) n m t.1 t.2.1 t.2.2.1 t.2.2.2.1 t.2.2.2.2.1 t.2.2.2.2.2.1 t.2.2.2.2.2.2.1 t.2.2.2.2.2.2.2.1 t.2.2.2.2.2.2.2.2)
theorem Fbv.l11_0.rmap {α β : Type} (h : β → α) (mk0 : LI → Int → LI → LI → β) (n : Nat) (f : Int → LI → LI → LI → Int → LI → LI → Option β)  (x0 : Int) (x1 : LI) (x2 : LI) (x3 : LI) (x4 : Int) (x5 : LI) (x6 : LI) : Fbv.l11_0.r (fun a0 a1 a2 a3 => (h (mk0 a0 a1 a2 a3))) n (fun y0 y1 y2 y3 y4 y5 y6 => (f y0 y1 y2 y3 y4 y5 y6).map h) x0 x1 x2 x3 x4 x5 x6 = (Fbv.l11_0.r mk0 n f x0 x1 x2 x3 x4 x5 x6).map h := by
  unfold Fbv.l11_0.r
  exact (ite_map (ite_map (ite_map (ite_map (ite_map (bindO_map fun r14 => (bindO_map fun r16 => rfl)) rfl) rfl) rfl) rfl) rfl)
theorem Fbv.l11_0.gmap {α β : Type} (h : β → α) (mk0 : LI → Int → LI → LI → β) (n : Nat) : ∀ (m : Nat) (x0 : Int) (x1 : LI) (x2 : LI) (x3 : LI) (x4 : Int) (x5 : LI) (x6 : LI), Fbv.l11_0.g (fun a0 a1 a2 a3 => (h (mk0 a0 a1 a2 a3))) n m x0 x1 x2 x3 x4 x5 x6 = (Fbv.l11_0.g mk0 n m x0 x1 x2 x3 x4 x5 x6).map h
  | 0, _, _, _, _, _, _, _ => rfl
  | m + 1, x0, x1, x2, x3, x4, x5, x6 => by
    unfold Fbv.l11_0.g
    rw [← Fbv.l11_0.rmap]
    congr
    · funext y0 y1 y2 y3 y4 y5 y6; exact Fbv.l11_0.gmap h mk0 n m y0 y1 y2 y3 y4 y5 y6
theorem Fbv.l11_0.pat_shape : ∀ st t, Fbv.l11_0.pat st = some t → st = Fbv.l11_0.shape t := fun _ _ h => by unfold Fbv.l11_0.pat at h; split at h <;> cases h; rfl
def Fbv.l11_0.k0 : LI → Int → LI → LI → Ex × St := (fun a0 a1 a2 a3 => ((Prod.mk (.exit 4) (St.mk [(.own 0 1), (.rints .u64 a0), (.int .i64 a1), (.rints .i64 a2)] [(some (.ints .u64 a3))])) : Ex × St))
theorem Fbv.l11_0.round (n : Nat) (rc : St → Option (Ex × St)) (x0 : Int) (x1 : LI) (x2 : LI) (x3 : LI) (x4 : Int) (x5 : LI) (x6 : LI) : Fbv.R2 n rc ((St.mk [(.int .i64 x0), (.own 0 1), (.own 1 1), (.rints .u64 x1), (.rints .i64 x2), (.rints .u64 x3), (.int .i64 x4)] [(some (.ints .u64 x5)), (some (.ints .u64 x6))])) = Fbv.l11_0.r Fbv.l11_0.k0 n (fun y0 y1 y2 y3 y4 y5 y6 => rc ((St.mk [(.int .i64 y0), (.own 0 1), (.own 1 1), (.rints .u64 y1), (.rints .i64 y2), (.rints .u64 y3), (.int .i64 y4)] [(some (.ints .u64 y5)), (some (.ints .u64 y6))]))) x0 x1 x2 x3 x4 x5 x6 := by kernel_rfl
theorem Fbv.l11_0.loop' (n : Nat) : ∀ (m : Nat) (t : (Int × (LI × (LI × (LI × (Int × (LI × LI))))))), loopOf (Fbv.R2 n) m (Fbv.l11_0.shape t) = Fbv.l11_0.g Fbv.l11_0.k0 n m t.1 t.2.1 t.2.2.1 t.2.2.2.1 t.2.2.2.2.1 t.2.2.2.2.2.1 t.2.2.2.2.2.2 :=
  loop_of_round (shape := Fbv.l11_0.shape) (body := Fbv.R2 n) (g := fun m t => Fbv.l11_0.g Fbv.l11_0.k0 n m t.1 t.2.1 t.2.2.1 t.2.2.2.1 t.2.2.2.2.1 t.2.2.2.2.2.1 t.2.2.2.2.2.2) (fun t => rfl)
    fun m t ih => (Fbv.l11_0.round n (loopOf (Fbv.R2 n) m) t.1 t.2.1 t.2.2.1 t.2.2.2.1 t.2.2.2.2.1 t.2.2.2.2.2.1 t.2.2.2.2.2.2).trans (congrFun (congrFun (congrFun (congrFun (congrFun (congrFun (congrFun (congrArg (Fbv.l11_0.r Fbv.l11_0.k0 n) (funext fun y0 => funext fun y1 => funext fun y2 => funext fun y3 => funext fun y4 => funext fun y5 => funext fun y6 => ih (y0, y1, y2, y3, y4, y5, y6))) t.1) t.2.1) t.2.2.1) t.2.2.2.1) t.2.2.2.2.1) t.2.2.2.2.2.1) t.2.2.2.2.2.2)
theorem Fbv.l11_0.loop (n m : Nat) (t : (Int × (LI × (LI × (LI × (Int × (LI × LI))))))) : loopOf (Fbv.R2 n) m (Fbv.l11_0.shape t) = (Fbv.l11_0.m n m t).map Fbv.l11_0.res :=
  (Fbv.l11_0.loop' n m t).trans (Fbv.l11_0.gmap Fbv.l11_0.res (fun a0 a1 a2 a3 => (a0, a1, a2, a3)) n m t.1 t.2.1 t.2.2.1 t.2.2.2.1 t.2.2.2.2.1 t.2.2.2.2.2.1 t.2.2.2.2.2.2)
theorem Fbv.l23_0.rmap {α β : Type} (h : β → α) (mk0 : Int → LI → Int → LI → LI → LI → β) (n : Nat) (f : Int → Int → LI → Int → LI → LI → LI → Option β)  (x0 : Int) (x1 : Int) (x2 : LI) (x3 : Int) (x4 : LI) (x5 : LI) (x6 : LI) : Fbv.l23_0.r (fun a0 a1 a2 a3 a4 a5 => (h (mk0 a0 a1 a2 a3 a4 a5))) n (fun y0 y1 y2 y3 y4 y5 y6 => (f y0 y1 y2 y3 y4 y5 y6).map h) x0 x1 x2 x3 x4 x5 x6 = (Fbv.l23_0.r mk0 n f x0 x1 x2 x3 x4 x5 x6).map h := by
  unfold Fbv.l23_0.r
  exact (ite_map (ite_map (ite_map (ite_map (ite_map (ite_map (ite_map (ite_map rfl rfl) rfl) rfl) rfl) rfl) rfl) rfl) rfl)
theorem Fbv.l23_0.gmap {α β : Type} (h : β → α) (mk0 : Int → LI → Int → LI → LI → LI → β) (n : Nat) : ∀ (m : Nat) (x0 : Int) (x1 : Int) (x2 : LI) (x3 : Int) (x4 : LI) (x5 : LI) (x6 : LI), Fbv.l23_0.g (fun a0 a1 a2 a3 a4 a5 => (h (mk0 a0 a1 a2 a3 a4 a5))) n m x0 x1 x2 x3 x4 x5 x6 = (Fbv.l23_0.g mk0 n m x0 x1 x2 x3 x4 x5 x6).map h
  | 0, _, _, _, _, _, _, _ => rfl
  | m + 1, x0, x1, x2, x3, x4, x5, x6 => by
    unfold Fbv.l23_0.g
    rw [← Fbv.l23_0.rmap]
    congr
    · funext y0 y1 y2 y3 y4 y5 y6; exact Fbv.l23_0.gmap h mk0 n m y0 y1 y2 y3 y4 y5 y6
theorem Fbv.l23_0.pat_shape : ∀ st t, Fbv.l23_0.pat st = some t → st = Fbv.l23_0.shape t := fun _ _ h => by unfold Fbv.l23_0.pat at h; split at h <;> cases h; rfl
def Fbv.l23_0.k0 : Int → LI → Int → LI → LI → LI → Ex × St := (fun a0 a1 a2 a3 a4 a5 => ((Prod.mk (.exit 10) (St.mk [(.int .i64 a0), (.own 0 1), (.own 1 1), (.rints .u64 a1), (.int .i64 a2), (.rints .i64 a3)] [(some (.ints .u64 a4)), (some (.ints .u64 a5))])) : Ex × St))
theorem Fbv.l23_0.round (n : Nat) (rc : St → Option (Ex × St)) (x0 : Int) (x1 : Int) (x2 : LI) (x3 : Int) (x4 : LI) (x5 : LI) (x6 : LI) : Fbv.R5 n rc ((St.mk [(.int .i64 x0), (.own 0 1), (.own 1 1), (.int .i64 x1), (.rints .u64 x2), (.int .i64 x3), (.rints .i64 x4)] [(some (.ints .u64 x5)), (some (.ints .u64 x6))])) = Fbv.l23_0.r Fbv.l23_0.k0 n (fun y0 y1 y2 y3 y4 y5 y6 => rc ((St.mk [(.int .i64 y0), (.own 0 1), (.own 1 1), (.int .i64 y1), (.rints .u64 y2), (.int .i64 y3), (.rints .i64 y4)] [(some (.ints .u64 y5)), (some (.ints .u64 y6))]))) x0 x1 x2 x3 x4 x5 x6 := by kernel_rfl
theorem Fbv.l23_0.loop' (n : Nat) : ∀ (m : Nat) (t : (Int × (Int × (LI × (Int × (LI × (LI × LI))))))), loopOf (Fbv.R5 n) m (Fbv.l23_0.shape t) = Fbv.l23_0.g Fbv.l23_0.k0 n m t.1 t.2.1 t.2.2.1 t.2.2.2.1 t.2.2.2.2.1 t.2.2.2.2.2.1 t.2.2.2.2.2.2 :=
  loop_of_round (shape := Fbv.l23_0.shape) (body := Fbv.R5 n) (g := fun m t => Fbv.l23_0.g Fbv.l23_0.k0 n m t.1 t.2.1 t.2.2.1 t.2.2.2.1 t.2.2.2.2.1 t.2.2.2.2.2.1 t.2.2.2.2.2.2) (fun t => rfl)
    fun m t ih => (Fbv.l23_0.round n (loopOf (Fbv.R5 n) m) t.1 t.2.1 t.2.2.1 t.2.2.2.1 t.2.2.2.2.1 t.2.2.2.2.2.1 t.2.2.2.2.2.2).trans (congrFun (congrFun (congrFun (congrFun (congrFun (congrFun (congrFun (congrArg (Fbv.l23_0.r Fbv.l23_0.k0 n) (funext fun y0 => funext fun y1 => funext fun y2 => funext fun y3 => funext fun y4 => funext fun y5 => funext fun y6 => ih (y0, y1, y2, y3, y4, y5, y6))) t.1) t.2.1) t.2.2.1) t.2.2.2.1) t.2.2.2.2.1) t.2.2.2.2.2.1) t.2.2.2.2.2.2)
theorem Fbv.l23_0.loop (n m : Nat) (t : (Int × (Int × (LI × (Int × (LI × (LI × LI))))))) : loopOf (Fbv.R5 n) m (Fbv.l23_0.shape t) = (Fbv.l23_0.m n m t).map Fbv.l23_0.res :=
  (Fbv.l23_0.loop' n m t).trans (Fbv.l23_0.gmap Fbv.l23_0.res (fun a0 a1 a2 a3 a4 a5 => (a0, a1, a2, a3, a4, a5)) n m t.1 t.2.1 t.2.2.1 t.2.2.2.1 t.2.2.2.2.1 t.2.2.2.2.2.1 t.2.2.2.2.2.2)
theorem Fbv.l20_0.rmap {α β : Type} (h : β → α) (mk0 : LI → Int → LI → LI → β) (n : Nat) (f : Int → LI → Int → LI → LI → LI → Option β)  (x0 : Int) (x1 : LI) (x2 : Int) (x3 : LI) (x4 : LI) (x5 : LI) : Fbv.l20_0.r (fun a0 a1 a2 a3 => (h (mk0 a0 a1 a2 a3))) n (fun y0 y1 y2 y3 y4 y5 => (f y0 y1 y2 y3 y4 y5).map h) x0 x1 x2 x3 x4 x5 = (Fbv.l20_0.r mk0 n f x0 x1 x2 x3 x4 x5).map h := by
  unfold Fbv.l20_0.r
  exact (ite_map (bindO_map fun r6 => rfl) rfl)
theorem Fbv.l20_0.gmap {α β : Type} (h : β → α) (mk0 : LI → Int → LI → LI → β) (n : Nat) : ∀ (m : Nat) (x0 : Int) (x1 : LI) (x2 : Int) (x3 : LI) (x4 : LI) (x5 : LI), Fbv.l20_0.g (fun a0 a1 a2 a3 => (h (mk0 a0 a1 a2 a3))) n m x0 x1 x2 x3 x4 x5 = (Fbv.l20_0.g mk0 n m x0 x1 x2 x3 x4 x5).map h
  | 0, _, _, _, _, _, _ => rfl
  | m + 1, x0, x1, x2, x3, x4, x5 => by
    unfold Fbv.l20_0.g
    rw [← Fbv.l20_0.rmap]
    congr
    · funext y0 y1 y2 y3 y4 y5; exact Fbv.l20_0.gmap h mk0 n m y0 y1 y2 y3 y4 y5
theorem Fbv.l20_0.pat_shape : ∀ st t, Fbv.l20_0.pat st = some t → st = Fbv.l20_0.shape t := fun _ _ h => by unfold Fbv.l20_0.pat at h; split at h <;> cases h; rfl
def Fbv.l20_0.k0 : LI → Int → LI → LI → Ex × St := (fun a0 a1 a2 a3 => ((Prod.mk (.exit 8) (St.mk [(.own 0 1), (.rints .u64 a0), (.int .i64 a1), (.rints .i64 a2)] [(some (.ints .u64 a3))])) : Ex × St))
theorem Fbv.l20_0.round (n : Nat) (rc : St → Option (Ex × St)) (x0 : Int) (x1 : LI) (x2 : Int) (x3 : LI) (x4 : LI) (x5 : LI) : Fbv.R4 n rc ((St.mk [(.int .i64 x0), (.own 0 1), (.own 1 1), (.rints .u64 x1), (.int .i64 x2), (.rints .i64 x3)] [(some (.ints .u64 x4)), (some (.ints .u64 x5))])) = Fbv.l20_0.r Fbv.l20_0.k0 n (fun y0 y1 y2 y3 y4 y5 => rc ((St.mk [(.int .i64 y0), (.own 0 1), (.own 1 1), (.rints .u64 y1), (.int .i64 y2), (.rints .i64 y3)] [(some (.ints .u64 y4)), (some (.ints .u64 y5))]))) x0 x1 x2 x3 x4 x5 := by kernel_rfl
theorem Fbv.l20_0.loop' (n : Nat) : ∀ (m : Nat) (t : (Int × (LI × (Int × (LI × (LI × LI)))))), loopOf (Fbv.R4 n) m (Fbv.l20_0.shape t) = Fbv.l20_0.g Fbv.l20_0.k0 n m t.1 t.2.1 t.2.2.1 t.2.2.2.1 t.2.2.2.2.1 t.2.2.2.2.2 :=
  loop_of_round (shape := Fbv.l20_0.shape) (body := Fbv.R4 n) (g := fun m t => Fbv.l20_0.g Fbv.l20_0.k0 n m t.1 t.2.1 t.2.2.1 t.2.2.2.1 t.2.2.2.2.1 t.2.2.2.2.2) (fun t => rfl)
    fun m t ih => (Fbv.l20_0.round n (loopOf (Fbv.R4 n) m) t.1 t.2.1 t.2.2.1 t.2.2.2.1 t.2.2.2.2.1 t.2.2.2.2.2).trans (congrFun (congrFun (congrFun (congrFun (congrFun (congrFun (congrArg (Fbv.l20_0.r Fbv.l20_0.k0 n) (funext fun y0 => funext fun y1 => funext fun y2 => funext fun y3 => funext fun y4 => funext fun y5 => ih (y0, y1, y2, y3, y4, y5))) t.1) t.2.1) t.2.2.1) t.2.2.2.1) t.2.2.2.2.1) t.2.2.2.2.2)
theorem Fbv.l20_0.loop (n m : Nat) (t : (Int × (LI × (Int × (LI × (LI × LI)))))) : loopOf (Fbv.R4 n) m (Fbv.l20_0.shape t) = (Fbv.l20_0.m n m t).map Fbv.l20_0.res :=
  (Fbv.l20_0.loop' n m t).trans (Fbv.l20_0.gmap Fbv.l20_0.res (fun a0 a1 a2 a3 => (a0, a1, a2, a3)) n m t.1 t.2.1 t.2.2.1 t.2.2.2.1 t.2.2.2.2.1 t.2.2.2.2.2)
theorem Fbv.l6v1_0.rmap {α β : Type} (h : β → α) (mk0 : LI → LI → Int → LI → LI → β) (n : Nat) (f : Int → LI → LI → Int → LI → LI → Option β)  (x0 : Int) (x1 : LI) (x2 : LI) (x3 : Int) (x4 : LI) (x5 : LI) : Fbv.l6v1_0.r (fun a0 a1 a2 a3 a4 => (h (mk0 a0 a1 a2 a3 a4))) n (fun y0 y1 y2 y3 y4 y5 => (f y0 y1 y2 y3 y4 y5).map h) x0 x1 x2 x3 x4 x5 = (Fbv.l6v1_0.r mk0 n f x0 x1 x2 x3 x4 x5).map h := by
  unfold Fbv.l6v1_0.r
  exact (ite_map (ite_map (ite_map (ite_map (ite_map (ite_map (ite_map (ite_map (ite_map (ite_map (ite_map (ite_map rfl rfl) rfl) rfl) rfl) rfl) rfl) rfl) rfl) rfl) rfl) rfl) rfl)
theorem Fbv.l6v1_0.gmap {α β : Type} (h : β → α) (mk0 : LI → LI → Int → LI → LI → β) (n : Nat) : ∀ (m : Nat) (x0 : Int) (x1 : LI) (x2 : LI) (x3 : Int) (x4 : LI) (x5 : LI), Fbv.l6v1_0.g (fun a0 a1 a2 a3 a4 => (h (mk0 a0 a1 a2 a3 a4))) n m x0 x1 x2 x3 x4 x5 = (Fbv.l6v1_0.g mk0 n m x0 x1 x2 x3 x4 x5).map h
  | 0, _, _, _, _, _, _ => rfl
  | m + 1, x0, x1, x2, x3, x4, x5 => by
    unfold Fbv.l6v1_0.g
    rw [← Fbv.l6v1_0.rmap]
    congr
    · funext y0 y1 y2 y3 y4 y5; exact Fbv.l6v1_0.gmap h mk0 n m y0 y1 y2 y3 y4 y5
theorem Fbv.l6v1_0.pat_shape : ∀ st t, Fbv.l6v1_0.pat st = some t → st = Fbv.l6v1_0.shape t := fun _ _ h => by unfold Fbv.l6v1_0.pat at h; split at h <;> cases h; rfl
def Fbv.l6v1_0.k0 : LI → LI → Int → LI → LI → Ex × St := (fun a0 a1 a2 a3 a4 => ((Prod.mk (.exit 2) (St.mk [(.own 0 1), (.own 1 1), (.rints .i64 a0), (.rints .u64 a1), (.int .i64 a2)] [(some (.ints .u64 a3)), (some (.ints .u64 a4))])) : Ex × St))
theorem Fbv.l6v1_0.round (n : Nat) (rc : St → Option (Ex × St)) (x0 : Int) (x1 : LI) (x2 : LI) (x3 : Int) (x4 : LI) (x5 : LI) : Fbv.R1 n rc ((St.mk [(.int .i64 x0), (.own 0 1), (.own 1 1), (.rints .i64 x1), (.rints .u64 x2), (.int .i64 x3)] [(some (.ints .u64 x4)), (some (.ints .u64 x5))])) = Fbv.l6v1_0.r Fbv.l6v1_0.k0 n (fun y0 y1 y2 y3 y4 y5 => rc ((St.mk [(.int .i64 y0), (.own 0 1), (.own 1 1), (.rints .i64 y1), (.rints .u64 y2), (.int .i64 y3)] [(some (.ints .u64 y4)), (some (.ints .u64 y5))]))) x0 x1 x2 x3 x4 x5 := by kernel_rfl
theorem Fbv.l6v1_0.loop' (n : Nat) : ∀ (m : Nat) (t : (Int × (LI × (LI × (Int × (LI × LI)))))), loopOf (Fbv.R1 n) m (Fbv.l6v1_0.shape t) = Fbv.l6v1_0.g Fbv.l6v1_0.k0 n m t.1 t.2.1 t.2.2.1 t.2.2.2.1 t.2.2.2.2.1 t.2.2.2.2.2 :=
  loop_of_round (shape := Fbv.l6v1_0.shape) (body := Fbv.R1 n) (g := fun m t => Fbv.l6v1_0.g Fbv.l6v1_0.k0 n m t.1 t.2.1 t.2.2.1 t.2.2.2.1 t.2.2.2.2.1 t.2.2.2.2.2) (fun t => rfl)
    fun m t ih => (Fbv.l6v1_0.round n (loopOf (Fbv.R1 n) m) t.1 t.2.1 t.2.2.1 t.2.2.2.1 t.2.2.2.2.1 t.2.2.2.2.2).trans (congrFun (congrFun (congrFun (congrFun (congrFun (congrFun (congrArg (Fbv.l6v1_0.r Fbv.l6v1_0.k0 n) (funext fun y0 => funext fun y1 => funext fun y2 => funext fun y3 => funext fun y4 => funext fun y5 => ih (y0, y1, y2, y3, y4, y5))) t.1) t.2.1) t.2.2.1) t.2.2.2.1) t.2.2.2.2.1) t.2.2.2.2.2)
theorem Fbv.l6v1_0.loop (n m : Nat) (t : (Int × (LI × (LI × (Int × (LI × LI)))))) : loopOf (Fbv.R1 n) m (Fbv.l6v1_0.shape t) = (Fbv.l6v1_0.m n m t).map Fbv.l6v1_0.res :=
  (Fbv.l6v1_0.loop' n m t).trans (Fbv.l6v1_0.gmap Fbv.l6v1_0.res (fun a0 a1 a2 a3 a4 => (a0, a1, a2, a3, a4)) n m t.1 t.2.1 t.2.2.1 t.2.2.2.1 t.2.2.2.2.1 t.2.2.2.2.2)
theorem Fbv.l15v1_0.rmap {α β : Type} (h : β → α) (mk0 : Int → LI → LI → Int → LI → LI → LI → β) (n : Nat) (f : Int → Int → Int → LI → LI → Int → LI → LI → LI → Option β)  (x0 : Int) (x1 : Int) (x2 : Int) (x3 : LI) (x4 : LI) (x5 : Int) (x6 : LI) (x7 : LI) (x8 : LI) : Fbv.l15v1_0.r (fun a0 a1 a2 a3 a4 a5 a6 => (h (mk0 a0 a1 a2 a3 a4 a5 a6))) n (fun y0 y1 y2 y3 y4 y5 y6 y7 y8 => (f y0 y1 y2 y3 y4 y5 y6 y7 y8).map h) x0 x1 x2 x3 x4 x5 x6 x7 x8 = (Fbv.l15v1_0.r mk0 n f x0 x1 x2 x3 x4 x5 x6 x7 x8).map h := by
  unfold Fbv.l15v1_0.r
  exact (ite_map (ite_map (ite_map (ite_map (ite_map (bindO_map fun r14 => (ite_map (ite_map rfl rfl) rfl)) rfl) rfl) rfl) rfl) rfl)
theorem Fbv.l15v1_0.gmap {α β : Type} (h : β → α) (mk0 : Int → LI → LI → Int → LI → LI → LI → β) (n : Nat) : ∀ (m : Nat) (x0 : Int) (x1 : Int) (x2 : Int) (x3 : LI) (x4 : LI) (x5 : Int) (x6 : LI) (x7 : LI) (x8 : LI), Fbv.l15v1_0.g (fun a0 a1 a2 a3 a4 a5 a6 => (h (mk0 a0 a1 a2 a3 a4 a5 a6))) n m x0 x1 x2 x3 x4 x5 x6 x7 x8 = (Fbv.l15v1_0.g mk0 n m x0 x1 x2 x3 x4 x5 x6 x7 x8).map h
  | 0, _, _, _, _, _, _, _, _, _ => rfl
  | m + 1, x0, x1, x2, x3, x4, x5, x6, x7, x8 => by
    unfold Fbv.l15v1_0.g
    rw [← Fbv.l15v1_0.rmap]
    congr
    · funext y0 y1 y2 y3 y4 y5 y6 y7 y8; exact Fbv.l15v1_0.gmap h mk0 n m y0 y1 y2 y3 y4 y5 y6 y7 y8
theorem Fbv.l15v1_0.pat_shape : ∀ st t, Fbv.l15v1_0.pat st = some t → st = Fbv.l15v1_0.shape t := fun _ _ h => by unfold Fbv.l15v1_0.pat at h; split at h <;> cases h; rfl
def Fbv.l15v1_0.k0 : Int → LI → LI → Int → LI → LI → LI → Ex × St := (fun a0 a1 a2 a3 a4 a5 a6 => ((Prod.mk (.exit 6) (St.mk [(.int .i64 a0), (.own 0 1), (.own 1 1), (.own 2 1), (.rints .i64 a1), (.rints .u64 a2), (.int .i64 a3)] [(some (.ints .u64 a4)), (some (.ints .u64 a5)), (some (.ints .u64 a6))])) : Ex × St))
theorem Fbv.l15v1_0.round (n : Nat) (rc : St → Option (Ex × St)) (x0 : Int) (x1 : Int) (x2 : Int) (x3 : LI) (x4 : LI) (x5 : Int) (x6 : LI) (x7 : LI) (x8 : LI) : Fbv.R3 n rc ((St.mk [(.int .i64 x0), (.own 0 1), (.int .i64 x1), (.own 1 1), (.int .u64 x2), (.rints .i64 x3), (.own 2 1), (.rints .u64 x4), (.int .i64 x5)] [(some (.ints .u64 x6)), (some (.ints .u64 x7)), (some (.ints .u64 x8))])) = Fbv.l15v1_0.r Fbv.l15v1_0.k0 n (fun y0 y1 y2 y3 y4 y5 y6 y7 y8 => rc ((St.mk [(.int .i64 y0), (.own 0 1), (.int .i64 y1), (.own 1 1), (.int .u64 y2), (.rints .i64 y3), (.own 2 1), (.rints .u64 y4), (.int .i64 y5)] [(some (.ints .u64 y6)), (some (.ints .u64 y7)), (some (.ints .u64 y8))]))) x0 x1 x2 x3 x4 x5 x6 x7 x8 := by kernel_rfl
theorem Fbv.l15v1_0.loop' (n : Nat) : ∀ (m : Nat) (t : (Int × (Int × (Int × (LI × (LI × (Int × (LI × (LI × LI))))))))), loopOf (Fbv.R3 n) m (Fbv.l15v1_0.shape t) = Fbv.l15v1_0.g Fbv.l15v1_0.k0 n m t.1 t.2.1 t.2.2.1 t.2.2.2.1 t.2.2.2.2.1 t.2.2.2.2.2.1 t.2.2.2.2.2.2.1 t.2.2.2.2.2.2.2.1 t.2.2.2.2.2.2.2.2 :=
  loop_of_round (shape := Fbv.l15v1_0.shape) (body := Fbv.R3 n) (g := fun m t => Fbv.l15v1_0.g Fbv.l15v1_0.k0 n m t.1 t.2.1 t.2.2.1 t.2.2.2.1 t.2.2.2.2.1 t.2.2.2.2.2.1 t.2.2.2.2.2.2.1 t.2.2.2.2.2.2.2.1 t.2.2.2.2.2.2.2.2) (fun t => rfl)
    fun m t ih => (Fbv.l15v1_0.round n (loopOf (Fbv.R3 n) m) t.1 t.2.1 t.2.2.1 t.2.2.2.1 t.2.2.2.2.1 t.2.2.2.2.2.1 t.2.2.2.2.2.2.1 t.2.2.2.2.2.2.2.1 t.2.2.2.2.2.2.2.2).trans (congrFun (congrFun (congrFun (congrFun (congrFun (congrFun (congrFun (congrFun (congrFun (congrArg (Fbv.l15v1_0.r Fbv.l15v1_0.k0 n) (funext fun y0 => funext fun y1 => funext fun y2 => funext fun y3 => funext fun y4 => funext fun y5 => funext fun y6 => funext fun y7 => funext fun y8 => ih (y0, y1, y2, y3, y4, y5, y6, y7, y8))) t.1) t.2.1) t.2.2.1) t.2.2.2.1) t.2.2.2.2.1) t.2.2.2.2.2.1) t.2.2.2.2.2.2.1) t.2.2.2.2.2.2.2.1) t.2.2.2.2.2.2.2.2)
theorem Fbv.l15v1_0.loop (n m : Nat) (t : (Int × (Int × (Int × (LI × (LI × (Int × (LI × (LI × LI))))))))) : loopOf (Fbv.R3 n) m (Fbv.l15v1_0.shape t) = (Fbv.l15v1_0.m n m t).map Fbv.l15v1_0.res :=
  (Fbv.l15v1_0.loop' n m t).trans (Fbv.l15v1_0.gmap Fbv.l15v1_0.res (fun a0 a1 a2 a3 a4 a5 a6 => (a0, a1, a2, a3, a4, a5, a6)) n m t.1 t.2.1 t.2.2.1 t.2.2.2.1 t.2.2.2.2.1 t.2.2.2.2.2.1 t.2.2.2.2.2.2.1 t.2.2.2.2.2.2.2.1 t.2.2.2.2.2.2.2.2)
theorem Fbv.l11v1_0.rmap {α β : Type} (h : β → α) (mk0 : LI → Int → LI → LI → β) (n : Nat) (f : Int → LI → LI → Int → LI → LI → LI → Option β)  (x0 : Int) (x1 : LI) (x2 : LI) (x3 : Int) (x4 : LI) (x5 : LI) (x6 : LI) : Fbv.l11v1_0.r (fun a0 a1 a2 a3 => (h (mk0 a0 a1 a2 a3))) n (fun y0 y1 y2 y3 y4 y5 y6 => (f y0 y1 y2 y3 y4 y5 y6).map h) x0 x1 x2 x3 x4 x5 x6 = (Fbv.l11v1_0.r mk0 n f x0 x1 x2 x3 x4 x5 x6).map h := by
  unfold Fbv.l11v1_0.r
  exact (ite_map (ite_map (ite_map (ite_map (ite_map (bindO_map fun r14 => (bindO_map fun r16 => rfl)) rfl) rfl) rfl) rfl) rfl)
theorem Fbv.l11v1_0.gmap {α β : Type} (h : β → α) (mk0 : LI → Int → LI → LI → β) (n : Nat) : ∀ (m : Nat) (x0 : Int) (x1 : LI) (x2 : LI) (x3 : Int) (x4 : LI) (x5 : LI) (x6 : LI), Fbv.l11v1_0.g (fun a0 a1 a2 a3 => (h (mk0 a0 a1 a2 a3))) n m x0 x1 x2 x3 x4 x5 x6 = (Fbv.l11v1_0.g mk0 n m x0 x1 x2 x3 x4 x5 x6).map h
  | 0, _, _, _, _, _, _, _ => rfl
  | m + 1, x0, x1, x2, x3, x4, x5, x6 => by
    unfold Fbv.l11v1_0.g
    rw [← Fbv.l11v1_0.rmap]
    congr
    · funext y0 y1 y2 y3 y4 y5 y6; exact Fbv.l11v1_0.gmap h mk0 n m y0 y1 y2 y3 y4 y5 y6
theorem Fbv.l11v1_0.pat_shape : ∀ st t, Fbv.l11v1_0.pat st = some t → st = Fbv.l11v1_0.shape t := fun _ _ h => by unfold Fbv.l11v1_0.pat at h; split at h <;> cases h; rfl
theorem Fbv.l11v1_0.round (n : Nat) (rc : St → Option (Ex × St)) (x0 : Int) (x1 : LI) (x2 : LI) (x3 : Int) (x4 : LI) (x5 : LI) (x6 : LI) : Fbv.R2 n rc ((St.mk [(.int .i64 x0), (.own 0 1), (.own 1 1), (.own 2 1), (.rints .i64 x1), (.rints .u64 x2), (.int .i64 x3)] [(some (.ints .u64 x4)), (some (.ints .u64 x5)), (some (.ints .u64 x6))])) = Fbv.l11v1_0.r Fbv.l11_0.k0 n (fun y0 y1 y2 y3 y4 y5 y6 => rc ((St.mk [(.int .i64 y0), (.own 0 1), (.own 1 1), (.own 2 1), (.rints .i64 y1), (.rints .u64 y2), (.int .i64 y3)] [(some (.ints .u64 y4)), (some (.ints .u64 y5)), (some (.ints .u64 y6))]))) x0 x1 x2 x3 x4 x5 x6 := by kernel_rfl
theorem Fbv.l11v1_0.loop' (n : Nat) : ∀ (m : Nat) (t : (Int × (LI × (LI × (Int × (LI × (LI × LI))))))), loopOf (Fbv.R2 n) m (Fbv.l11v1_0.shape t) = Fbv.l11v1_0.g Fbv.l11_0.k0 n m t.1 t.2.1 t.2.2.1 t.2.2.2.1 t.2.2.2.2.1 t.2.2.2.2.2.1 t.2.2.2.2.2.2 :=
  loop_of_round (shape := Fbv.l11v1_0.shape) (body := Fbv.R2 n) (g := fun m t => Fbv.l11v1_0.g Fbv.l11_0.k0 n m t.1 t.2.1 t.2.2.1 t.2.2.2.1 t.2.2.2.2.1 t.2.2.2.2.2.1 t.2.2.2.2.2.2) (fun t => rfl)
    fun m t ih => (Fbv.l11v1_0.round n (loopOf (Fbv.R2 n) m) t.1 t.2.1 t.2.2.1 t.2.2.2.1 t.2.2.2.2.1 t.2.2.2.2.2.1 t.2.2.2.2.2.2).trans (congrFun (congrFun (congrFun (congrFun (congrFun (congrFun (congrFun (congrArg (Fbv.l11v1_0.r Fbv.l11_0.k0 n) (funext fun y0 => funext fun y1 => funext fun y2 => funext fun y3 => funext fun y4 => funext fun y5 => funext fun y6 => ih (y0, y1, y2, y3, y4, y5, y6))) t.1) t.2.1) t.2.2.1) t.2.2.2.1) t.2.2.2.2.1) t.2.2.2.2.2.1) t.2.2.2.2.2.2)
theorem Fbv.l11v1_0.loop (n m : Nat) (t : (Int × (LI × (LI × (Int × (LI × (LI × LI))))))) : loopOf (Fbv.R2 n) m (Fbv.l11v1_0.shape t) = (Fbv.l11v1_0.m n m t).map Fbv.l11v1_0.res :=
  (Fbv.l11v1_0.loop' n m t).trans (Fbv.l11v1_0.gmap Fbv.l11v1_0.res (fun a0 a1 a2 a3 => (a0, a1, a2, a3)) n m t.1 t.2.1 t.2.2.1 t.2.2.2.1 t.2.2.2.2.1 t.2.2.2.2.2.1 t.2.2.2.2.2.2)
theorem Fbv.l2_1.rmap {α β : Type} (h : β → α) (mk0 : LI → β) (mk1 : LI → β) (n : Nat) (f : Int → LI → LI → LI → Option β)  (x0 : Int) (x1 : LI) (x2 : LI) (x3 : LI) : Fbv.l2_1.r (fun a0 => (h (mk0 a0))) (fun a0 => (h (mk1 a0))) n (fun y0 y1 y2 y3 => (f y0 y1 y2 y3).map h) x0 x1 x2 x3 = (Fbv.l2_1.r mk0 mk1 n f x0 x1 x2 x3).map h := by
  unfold Fbv.l2_1.r
  exact (ite_map (bindO_map fun r6 => (bindO_map fun r8 => (bindO_map fun r10 => (ite_map (ite_map (ite_map (ite_map rfl rfl) rfl) rfl) rfl)))) rfl)
theorem Fbv.l2_1.gmap {α β : Type} (h : β → α) (mk0 : LI → β) (mk1 : LI → β) (n : Nat) : ∀ (m : Nat) (x0 : Int) (x1 : LI) (x2 : LI) (x3 : LI), Fbv.l2_1.g (fun a0 => (h (mk0 a0))) (fun a0 => (h (mk1 a0))) n m x0 x1 x2 x3 = (Fbv.l2_1.g mk0 mk1 n m x0 x1 x2 x3).map h
  | 0, _, _, _, _ => rfl
  | m + 1, x0, x1, x2, x3 => by
    unfold Fbv.l2_1.g
    rw [← Fbv.l2_1.rmap]
    congr
    · funext y0 y1 y2 y3; exact Fbv.l2_1.gmap h mk0 mk1 n m y0 y1 y2 y3
def Fbv.l2_1.k0 : LI → Ex × St := (fun a0 => ((Prod.mk (.exit 0) (St.mk [(.own 0 1)] [(some (.ints .u64 a0))])) : Ex × St))
def Fbv.l2_1.k1 : LI → Ex × St := (fun a0 => ((Prod.mk (.exit 0) (St.mk [(.rints .u64 a0)] [])) : Ex × St))
theorem Fbv.l2_1.round (n : Nat) (rc : St → Option (Ex × St)) (x0 : Int) (x1 : LI) (x2 : LI) (x3 : LI) : Fbv.R0 n rc ((St.mk [(.int .i64 x0), (.own 0 1), (.rints .i64 x1), (.rints .u64 x2)] [(some (.ints .u64 x3))])) = Fbv.l2_1.r Fbv.l2_1.k0 Fbv.l2_1.k1 n (fun y0 y1 y2 y3 => rc ((St.mk [(.int .i64 y0), (.own 0 1), (.rints .i64 y1), (.rints .u64 y2)] [(some (.ints .u64 y3))]))) x0 x1 x2 x3 := by kernel_rfl
theorem Fbv.l2_1.loop' (n : Nat) : ∀ (m : Nat) (t : (Int × (LI × (LI × LI)))), loopOf (Fbv.R0 n) m (Fbv.l2_1.shape t) = Fbv.l2_1.g Fbv.l2_1.k0 Fbv.l2_1.k1 n m t.1 t.2.1 t.2.2.1 t.2.2.2 :=
  loop_of_round (shape := Fbv.l2_1.shape) (body := Fbv.R0 n) (g := fun m t => Fbv.l2_1.g Fbv.l2_1.k0 Fbv.l2_1.k1 n m t.1 t.2.1 t.2.2.1 t.2.2.2) (fun t => rfl)
    fun m t ih => (Fbv.l2_1.round n (loopOf (Fbv.R0 n) m) t.1 t.2.1 t.2.2.1 t.2.2.2).trans (congrFun (congrFun (congrFun (congrFun (congrArg (Fbv.l2_1.r Fbv.l2_1.k0 Fbv.l2_1.k1 n) (funext fun y0 => funext fun y1 => funext fun y2 => funext fun y3 => ih (y0, y1, y2, y3))) t.1) t.2.1) t.2.2.1) t.2.2.2)
theorem Fbv.l2_0.rmap {α β : Type} (h : β → α) (mk0 : LI → β) (mk1 : LI → β) (n : Nat) (f : Int → LI → LI → LI → Option β) (f0 : Int → LI → LI → LI → Option β) (x0 : Int) (x1 : LI) (x2 : LI) (x3 : LI) : Fbv.l2_0.r (fun a0 => (h (mk0 a0))) (fun a0 => (h (mk1 a0))) n (fun y0 y1 y2 y3 => (f y0 y1 y2 y3).map h) (fun y0 y1 y2 y3 => (f0 y0 y1 y2 y3).map h) x0 x1 x2 x3 = (Fbv.l2_0.r mk0 mk1 n f f0 x0 x1 x2 x3).map h := by
  unfold Fbv.l2_0.r
  exact (ite_map (bindO_map fun r6 => (bindO_map fun r8 => (bindO_map fun r10 => (ite_map (ite_map (ite_map (ite_map rfl rfl) rfl) rfl) rfl)))) rfl)
theorem Fbv.l2_0.gmap {α β : Type} (h : β → α) (mk0 : LI → β) (mk1 : LI → β) (n : Nat) : ∀ (m : Nat) (x0 : Int) (x1 : LI) (x2 : LI) (x3 : LI), Fbv.l2_0.g (fun a0 => (h (mk0 a0))) (fun a0 => (h (mk1 a0))) n m x0 x1 x2 x3 = (Fbv.l2_0.g mk0 mk1 n m x0 x1 x2 x3).map h
  | 0, _, _, _, _ => rfl
  | m + 1, x0, x1, x2, x3 => by
    unfold Fbv.l2_0.g
    rw [← Fbv.l2_0.rmap]
    congr
    · funext y0 y1 y2 y3; exact Fbv.l2_0.gmap h mk0 mk1 n m y0 y1 y2 y3
    · funext y0 y1 y2 y3; exact Fbv.l2_1.gmap h mk0 mk1 n m y0 y1 y2 y3
theorem Fbv.l2_0.pat_shape : ∀ st t, Fbv.l2_0.pat st = some t → st = Fbv.l2_0.shape t := fun _ _ h => by unfold Fbv.l2_0.pat at h; split at h <;> cases h; rfl
theorem Fbv.l2_0.round (n : Nat) (rc : St → Option (Ex × St)) (x0 : Int) (x1 : LI) (x2 : LI) (x3 : LI) : Fbv.R0 n rc ((St.mk [(.int .i64 x0), (.rints .u64 x1), (.rints .i64 x2), (.rints .u64 x3)] [])) = Fbv.l2_0.r Fbv.l2_1.k0 Fbv.l2_1.k1 n (fun y0 y1 y2 y3 => rc ((St.mk [(.int .i64 y0), (.rints .u64 y1), (.rints .i64 y2), (.rints .u64 y3)] []))) (fun y0 y1 y2 y3 => rc ((St.mk [(.int .i64 y0), (.own 0 1), (.rints .i64 y1), (.rints .u64 y2)] [(some (.ints .u64 y3))]))) x0 x1 x2 x3 := by kernel_rfl
theorem Fbv.l2_0.loop' (n : Nat) : ∀ (m : Nat) (t : (Int × (LI × (LI × LI)))), loopOf (Fbv.R0 n) m (Fbv.l2_0.shape t) = Fbv.l2_0.g Fbv.l2_1.k0 Fbv.l2_1.k1 n m t.1 t.2.1 t.2.2.1 t.2.2.2 :=
  loop_of_round (shape := Fbv.l2_0.shape) (body := Fbv.R0 n) (g := fun m t => Fbv.l2_0.g Fbv.l2_1.k0 Fbv.l2_1.k1 n m t.1 t.2.1 t.2.2.1 t.2.2.2) (fun t => rfl)
    fun m t ih => (Fbv.l2_0.round n (loopOf (Fbv.R0 n) m) t.1 t.2.1 t.2.2.1 t.2.2.2).trans (congrFun (congrFun (congrFun (congrFun (congr (congrArg (Fbv.l2_0.r Fbv.l2_1.k0 Fbv.l2_1.k1 n) (funext fun y0 => funext fun y1 => funext fun y2 => funext fun y3 => ih (y0, y1, y2, y3))) (funext fun y0 => funext fun y1 => funext fun y2 => funext fun y3 => Fbv.l2_1.loop' n m (y0, y1, y2, y3))) t.1) t.2.1) t.2.2.1) t.2.2.2)
theorem Fbv.l2_0.loop (n m : Nat) (t : (Int × (LI × (LI × LI)))) : loopOf (Fbv.R0 n) m (Fbv.l2_0.shape t) = (Fbv.l2_0.m n m t).map Fbv.l2_0.res :=
  (Fbv.l2_0.loop' n m t).trans (Fbv.l2_0.gmap Fbv.l2_0.res (fun a0 => (.inl a0)) (fun a0 => (.inr a0)) n m t.1 t.2.1 t.2.2.1 t.2.2.2)
theorem Fbv.gmap {α β : Type} (h : β → α) (mk0 : LI → β) (mk1 : LI → β) (n : Nat) (a0 : LI) (a1 : LI) (a2 : LI) : Fbv.g (fun a0 => (h (mk0 a0))) (fun a0 => (h (mk1 a0))) n a0 a1 a2 = (Fbv.g mk0 mk1 n a0 a1 a2).map h := by
  unfold Fbv.g
  exact (bindO_map fun r2 => match r2 with | (.inl r2) => rfl | (.inr r2) => rfl)
theorem Fbv.run (n : Nat) (a0 : LI) (a1 : LI) (a2 : LI) : runF (Fbv.C n) (Fbv.A n) n Tryd.f98 [(.rints .u64 a0), (.rints .i64 a1), (.rints .u64 a2)] [] (fun v o => some (v, o)) = Fbv.g (fun a0 => ((Prod.mk (.own 0 1) [(some (.ints .u64 a0))]) : AV × Blks)) (fun a0 => ((Prod.mk (.rints .u64 a0) []) : AV × Blks)) n a0 a1 a2 := by kernel_rfl
theorem Fbv.call (hmix : Tryd.prog.follows .mixedOrders = true) (n : Nat) (t : (LI × (LI × LI))) (u) (h : Fbv.m n t = some u) : FnC Tryd.prog abiG 98 (Fbv.shape t).1 (Fbv.shape t).2 (Fbv.res u).1 (Fbv.res u).2 :=
  fnC1 (C := Fbv.C n) (A := Fbv.A n) (fn := Tryd.f98) rfl (.cons (Fbu.s hmix n) .nil) hmix Tryd.func98 (by kernel_rfl) (lp := [Fbv.b0, Fbv.b1, Fbv.b2, Fbv.b3, Fbv.b4, Fbv.b5]) (by kernel_rfl) (.cons (show (Fbv.A n).loop (key Fbv.b0) = some (.mk' Fbv.l2_0.pat (Fbv.l2_0.m n n) Fbv.l2_0.resK) by kernel_rfl) (LoopS.of (res := Fbv.l2_0.res) (fun R u K => by rcases u with u | u <;> rfl) Fbv.l2_0.pat_shape fun t => Fbv.l2_0.loop n n t)
  (.cons (show (Fbv.A n).loop (key Fbv.b1) = some (.alt Fbv.l6_0.pat (.mk' Fbv.l6_0.pat (Fbv.l6_0.m n n) Fbv.l6_0.resK) (.mk' Fbv.l6v1_0.pat (Fbv.l6v1_0.m n n) Fbv.l6v1_0.resK)) by kernel_rfl) (LoopS.alt (LoopS.of (res := Fbv.l6_0.res) (fun R u K => rfl) Fbv.l6_0.pat_shape fun t => Fbv.l6_0.loop n n t) (LoopS.of (res := Fbv.l6v1_0.res) (fun R u K => rfl) Fbv.l6v1_0.pat_shape fun t => Fbv.l6v1_0.loop n n t))
  (.cons (show (Fbv.A n).loop (key Fbv.b2) = some (.alt Fbv.l11_0.pat (.mk' Fbv.l11_0.pat (Fbv.l11_0.m n n) Fbv.l11_0.resK) (.mk' Fbv.l11v1_0.pat (Fbv.l11v1_0.m n n) Fbv.l11v1_0.resK)) by kernel_rfl) (LoopS.alt (LoopS.of (res := Fbv.l11_0.res) (fun R u K => rfl) Fbv.l11_0.pat_shape fun t => Fbv.l11_0.loop n n t) (LoopS.of (res := Fbv.l11v1_0.res) (fun R u K => rfl) Fbv.l11v1_0.pat_shape fun t => Fbv.l11v1_0.loop n n t))
  (.cons (show (Fbv.A n).loop (key Fbv.b3) = some (.alt Fbv.l15_0.pat (.mk' Fbv.l15_0.pat (Fbv.l15_0.m n n) Fbv.l15_0.resK) (.mk' Fbv.l15v1_0.pat (Fbv.l15v1_0.m n n) Fbv.l15v1_0.resK)) by kernel_rfl) (LoopS.alt (LoopS.of (res := Fbv.l15_0.res) (fun R u K => rfl) Fbv.l15_0.pat_shape fun t => Fbv.l15_0.loop n n t) (LoopS.of (res := Fbv.l15v1_0.res) (fun R u K => rfl) Fbv.l15v1_0.pat_shape fun t => Fbv.l15v1_0.loop n n t))
  (.cons (show (Fbv.A n).loop (key Fbv.b4) = some (.mk' Fbv.l20_0.pat (Fbv.l20_0.m n n) Fbv.l20_0.resK) by kernel_rfl) (LoopS.of (res := Fbv.l20_0.res) (fun R u K => rfl) Fbv.l20_0.pat_shape fun t => Fbv.l20_0.loop n n t)
  (.cons (show (Fbv.A n).loop (key Fbv.b5) = some (.mk' Fbv.l23_0.pat (Fbv.l23_0.m n n) Fbv.l23_0.resK) by kernel_rfl) (LoopS.of (res := Fbv.l23_0.res) (fun R u K => rfl) Fbv.l23_0.pat_shape fun t => Fbv.l23_0.loop n n t)
  .nil))))))
  (nj rfl) (by decide) rfl rfl (by show 3 ≤ Tryd.f98.ntmps; decide) (Fbv.run n t.1 t.2.1 t.2.2) (Fbv.gmap Fbv.res (fun a0 => (.inl a0)) (fun a0 => (.inr a0)) n t.1 t.2.1 t.2.2) h
theorem Fbv.s (hmix : Tryd.prog.follows .mixedOrders = true) (n : Nat) : CalleeS Tryd.prog abiG 98 (Fbv.c n) :=
  .mk1 (res := Fbv.res) (shape := Fbv.shape) (fun R u K => by rcases u with u | u <;> rfl) (fun _ _ _ h => by unfold Fbv.pat at h; split at h <;> cases h; rfl) (fun t u h => Fbv.call hmix n t u h) Tryd.func98 (by decide) (by kernel_rfl)
end
section
noncomputable section
noncomputable def Far.C (n : Nat) : Ctx := ⟨Tryd.prog, abiG, lookC [], fun _ => false⟩
def Far.live : NL := fun k => match k with
 | 2 => ([1], [1])
 | 7 => ([4, 1, 3, 2], [1])
 | _ => ([], [])
def Far.l2_0.r {α : Type} (mk0 : LI → α) (n : Nat) (rc : LI → Option α)  (x0 : LI) : Option α :=
  if (decide ((((List.length x0) : Nat) : Int) < 25)) = true then
   if ((((List.length x0) + 1) * 8) ≤ 70368744177664 ∧ ((List.length x0) + 1) ≤ 9223372036854775807) then
    rc (x0 ++ [0])
   else
    none
  else
   some (mk0 x0)
def Far.l2_0.g {α : Type} (mk0 : LI → α) (n : Nat) : Nat → LI → Option α
 | 0, _ => none
 | m + 1, x0 => Far.l2_0.r mk0 n (fun y0 => Far.l2_0.g mk0 n m y0)  x0
def Far.l2_0.m (n m : Nat) (t : LI) : Option LI := Far.l2_0.g (fun a0 => a0) n m t
def Far.l2_0.pat : St → Option LI
 | (St.mk [(.own 0 1)] [(some (.ints .i64 x0))]) => some x0
 | _ => none
def Far.l2_0.shape (t : LI) : St := (St.mk [(.own 0 1)] [(some (.ints .i64 t))])
def Far.l2_0.res : LI → Ex × St
 | u => (Prod.mk (.exit 0) (St.mk [(.own 0 1)] [(some (.ints .i64 u))]))
def Far.l2_0.resK {R : Type} (u : LI) (K : Ex → St → Option R) : Option R := K (Far.l2_0.res u).1 (Far.l2_0.res u).2
def Far.l7_0.r {α : Type} (mk0 : LI → α) (n : Nat) (rc : Int → Int → Int → LI → Option α)  (x0 : Int) (x1 : Int) (x2 : Int) (x3 : LI) : Option α :=
  if (decide (x0 < 24)) = true then
   if 0 ≤ (IntKind.wrap .i64 ((IntKind.wrap .i64 (5 * x1)) + x2)) then
    if (IntKind.wrap .i64 ((IntKind.wrap .i64 (5 * x1)) + x2)) < (((List.length x3) : Nat) : Int) then
     rc (IntKind.wrap .i64 (x0 + 1)) (Int.tmod (IntKind.wrap .i64 ((IntKind.wrap .i64 (2 * x2)) + (IntKind.wrap .i64 (3 * x1)))) 5) x1 (List.set x3 (Int.toNat (IntKind.wrap .i64 ((IntKind.wrap .i64 (5 * x1)) + x2))) (Int.tmod (IntKind.wrap .i64 (Int.tdiv (IntKind.wrap .i64 ((IntKind.wrap .i64 (x0 + 1)) * (IntKind.wrap .i64 (x0 + 2)))) 2)) 64))
    else
     none
   else
    none
  else
   some (mk0 x3)
def Far.l7_0.g {α : Type} (mk0 : LI → α) (n : Nat) : Nat → Int → Int → Int → LI → Option α
 | 0, _, _, _, _ => none
 | m + 1, x0, x1, x2, x3 => Far.l7_0.r mk0 n (fun y0 y1 y2 y3 => Far.l7_0.g mk0 n m y0 y1 y2 y3)  x0 x1 x2 x3
def Far.l7_0.m (n m : Nat) (t : (Int × (Int × (Int × LI)))) : Option LI := Far.l7_0.g (fun a0 => a0) n m t.1 t.2.1 t.2.2.1 t.2.2.2
def Far.l7_0.pat : St → Option (Int × (Int × (Int × LI)))
 | (St.mk [(.int .i64 x0), (.own 0 1), (.int .i64 x1), (.int .i64 x2)] [(some (.ints .i64 x3))]) => some (x0, x1, x2, x3)
 | _ => none
def Far.l7_0.shape (t : (Int × (Int × (Int × LI)))) : St := (St.mk [(.int .i64 t.1), (.own 0 1), (.int .i64 t.2.1), (.int .i64 t.2.2.1)] [(some (.ints .i64 t.2.2.2))])
def Far.l7_0.res : LI → Ex × St
 | u => (Prod.mk (.exit 2) (St.mk [(.own 0 1)] [(some (.ints .i64 u))]))
def Far.l7_0.resK {R : Type} (u : LI) (K : Ex → St → Option R) : Option R := K (Far.l7_0.res u).1 (Far.l7_0.res u).2
noncomputable def Far.A (n : Nat) : Ann := ⟨Tryd.f96.ntmps, 0, Far.live, [(1, (.ints .i64))], [(some (.ints .i64))], fun k => match k with
 | 2 => some (.mk' Far.l2_0.pat (Far.l2_0.m n n) Far.l2_0.resK)
 | 7 => some (.mk' Far.l7_0.pat (Far.l7_0.m n n) Far.l7_0.resK)
 | _ => none, noNL, lookJ []⟩
noncomputable def Far.b0 : Code := (loopsIn (Tryd.f96.body.getD .skip)).getD 0 .skip
noncomputable def Far.b1 : Code := (loopsIn (Tryd.f96.body.getD .skip)).getD 1 .skip
def Far.g {α : Type} (mk0 : LI → α) (n : Nat)  : Option α :=
 bindO (Far.l2_0.m n n [0]) fun r2 =>
  bindO (Far.l7_0.m n n (0, 0, 1, r2)) fun r4 =>
   some (mk0 r4)
def Far.m (n : Nat) (t : Unit) : Option LI := Far.g (fun a0 => a0) n 
def Far.pat : List AV → Blks → Option Unit
 | [], [] => some ()
 | _, _ => none
def Far.shape (t : Unit) : List AV × Blks := ([], [])
def Far.res : LI → AV × Blks
 | u => (Prod.mk (.own 0 1) [(some (.ints .i64 u))])
def Far.resK {R : Type} (u : LI) (K : AV → Blks → Option R) : Option R := K (Far.res u).1 (Far.res u).2
def Far.c (n : Nat) : Abs.Callee := .mk' [] [] Far.pat (Far.m n) Far.resK
end
end
section
noncomputable abbrev Far.R0 (n : Nat) := roundOf (Far.C n) (Far.A n) n Far.b0
noncomputable abbrev Far.R1 (n : Nat) := roundOf (Far.C n) (Far.A n) n Far.b1
theorem Far.l2_0.rmap {α β : Type} (h : β → α) (mk0 : LI → β) (n : Nat) (f : LI → Option β)  (x0 : LI) : Far.l2_0.r (fun a0 => (h (mk0 a0))) n (fun y0 => (f y0).map h) x0 = (Far.l2_0.r mk0 n f x0).map h := by
  unfold Far.l2_0.r
  exact (ite_map (ite_map rfl rfl) rfl)
theorem Far.l2_0.gmap {α β : Type} (h : β → α) (mk0 : LI → β) (n : Nat) : ∀ (m : Nat) (x0 : LI), Far.l2_0.g (fun a0 => (h (mk0 a0))) n m x0 = (Far.l2_0.g mk0 n m x0).map h
  | 0, _ => rfl
  | m + 1, x0 => by
    unfold Far.l2_0.g
    rw [← Far.l2_0.rmap]
    congr
    · funext y0; exact Far.l2_0.gmap h mk0 n m y0
theorem Far.l2_0.pat_shape : ∀ st t, Far.l2_0.pat st = some t → st = Far.l2_0.shape t := fun _ _ h => by unfold Far.l2_0.pat at h; split at h <;> cases h; rfl
def Far.l2_0.k0 : LI → Ex × St := (fun a0 => ((Prod.mk (.exit 0) (St.mk [(.own 0 1)] [(some (.ints .i64 a0))])) : Ex × St))
theorem Far.l2_0.round (n : Nat) (rc : St → Option (Ex × St)) (x0 : LI) : Far.R0 n rc ((St.mk [(.own 0 1)] [(some (.ints .i64 x0))])) = Far.l2_0.r Far.l2_0.k0 n (fun y0 => rc ((St.mk [(.own 0 1)] [(some (.ints .i64 y0))]))) x0 := by kernel_rfl
theorem Far.l2_0.loop' (n : Nat) : ∀ (m : Nat) (t : LI), loopOf (Far.R0 n) m (Far.l2_0.shape t) = Far.l2_0.g Far.l2_0.k0 n m t :=
  loop_of_round (shape := Far.l2_0.shape) (body := Far.R0 n) (g := fun m t => Far.l2_0.g Far.l2_0.k0 n m t) (fun t => rfl)
    fun m t ih => (Far.l2_0.round n (loopOf (Far.R0 n) m) t).trans (congrFun (congrArg (Far.l2_0.r Far.l2_0.k0 n) (funext fun y0 => ih y0)) t)
theorem Far.l2_0.loop (n m : Nat) (t : LI) : loopOf (Far.R0 n) m (Far.l2_0.shape t) = (Far.l2_0.m n m t).map Far.l2_0.res :=
  (Far.l2_0.loop' n m t).trans (Far.l2_0.gmap Far.l2_0.res (fun a0 => a0) n m t)
theorem Far.l7_0.rmap {α β : Type} (h : β → α) (mk0 : LI → β) (n : Nat) (f : Int → Int → Int → LI → Option β)  (x0 : Int) (x1 : Int) (x2 : Int) (x3 : LI) : Far.l7_0.r (fun a0 => (h (mk0 a0))) n (fun y0 y1 y2 y3 => (f y0 y1 y2 y3).map h) x0 x1 x2 x3 = (Far.l7_0.r mk0 n f x0 x1 x2 x3).map h := by
  unfold Far.l7_0.r
  exact (ite_map (ite_map (ite_map rfl rfl) rfl) rfl)
theorem Far.l7_0.gmap {α β : Type} (h : β → α) (mk0 : LI → β) (n : Nat) : ∀ (m : Nat) (x0 : Int) (x1 : Int) (x2 : Int) (x3 : LI), Far.l7_0.g (fun a0 => (h (mk0 a0))) n m x0 x1 x2 x3 = (Far.l7_0.g mk0 n m x0 x1 x2 x3).map h
  | 0, _, _, _, _ => rfl
  | m + 1, x0, x1, x2, x3 => by
    unfold Far.l7_0.g
    rw [← Far.l7_0.rmap]
    congr
    · funext y0 y1 y2 y3; exact Far.l7_0.gmap h mk0 n m y0 y1 y2 y3
theorem Far.l7_0.pat_shape : ∀ st t, Far.l7_0.pat st = some t → st = Far.l7_0.shape t := fun _ _ h => by unfold Far.l7_0.pat at h; split at h <;> cases h; rfl
def Far.l7_0.k0 : LI → Ex × St := (fun a0 => ((Prod.mk (.exit 2) (St.mk [(.own 0 1)] [(some (.ints .i64 a0))])) : Ex × St))
theorem Far.l7_0.round (n : Nat) (rc : St → Option (Ex × St)) (x0 : Int) (x1 : Int) (x2 : Int) (x3 : LI) : Far.R1 n rc ((St.mk [(.int .i64 x0), (.own 0 1), (.int .i64 x1), (.int .i64 x2)] [(some (.ints .i64 x3))])) = Far.l7_0.r Far.l7_0.k0 n (fun y0 y1 y2 y3 => rc ((St.mk [(.int .i64 y0), (.own 0 1), (.int .i64 y1), (.int .i64 y2)] [(some (.ints .i64 y3))]))) x0 x1 x2 x3 := by kernel_rfl
theorem Far.l7_0.loop' (n : Nat) : ∀ (m : Nat) (t : (Int × (Int × (Int × LI)))), loopOf (Far.R1 n) m (Far.l7_0.shape t) = Far.l7_0.g Far.l7_0.k0 n m t.1 t.2.1 t.2.2.1 t.2.2.2 :=
  loop_of_round (shape := Far.l7_0.shape) (body := Far.R1 n) (g := fun m t => Far.l7_0.g Far.l7_0.k0 n m t.1 t.2.1 t.2.2.1 t.2.2.2) (fun t => rfl)
    fun m t ih => (Far.l7_0.round n (loopOf (Far.R1 n) m) t.1 t.2.1 t.2.2.1 t.2.2.2).trans (congrFun (congrFun (congrFun (congrFun (congrArg (Far.l7_0.r Far.l7_0.k0 n) (funext fun y0 => funext fun y1 => funext fun y2 => funext fun y3 => ih (y0, y1, y2, y3))) t.1) t.2.1) t.2.2.1) t.2.2.2)
theorem Far.l7_0.loop (n m : Nat) (t : (Int × (Int × (Int × LI)))) : loopOf (Far.R1 n) m (Far.l7_0.shape t) = (Far.l7_0.m n m t).map Far.l7_0.res :=
  (Far.l7_0.loop' n m t).trans (Far.l7_0.gmap Far.l7_0.res (fun a0 => a0) n m t.1 t.2.1 t.2.2.1 t.2.2.2)
theorem Far.gmap {α β : Type} (h : β → α) (mk0 : LI → β) (n : Nat)  : Far.g (fun a0 => (h (mk0 a0))) n  = (Far.g mk0 n ).map h := by
  unfold Far.g
  exact (bindO_map fun r2 => (bindO_map fun r4 => rfl))
theorem Far.run (n : Nat)  : runF (Far.C n) (Far.A n) n Tryd.f96 [] [] (fun v o => some (v, o)) = Far.g (fun a0 => ((Prod.mk (.own 0 1) [(some (.ints .i64 a0))]) : AV × Blks)) n  := by kernel_rfl
theorem Far.call (hmix : Tryd.prog.follows .mixedOrders = true) (n : Nat) (t : Unit) (u) (h : Far.m n t = some u) : FnC Tryd.prog abiG 96 (Far.shape t).1 (Far.shape t).2 (Far.res u).1 (Far.res u).2 :=
  fnC1 (C := Far.C n) (A := Far.A n) (fn := Tryd.f96) rfl .nil hmix Tryd.func96 (by kernel_rfl) (lp := [Far.b0, Far.b1]) (by kernel_rfl) (.cons (show (Far.A n).loop (key Far.b0) = some (.mk' Far.l2_0.pat (Far.l2_0.m n n) Far.l2_0.resK) by kernel_rfl) (LoopS.of (res := Far.l2_0.res) (fun R u K => rfl) Far.l2_0.pat_shape fun t => Far.l2_0.loop n n t)
  (.cons (show (Far.A n).loop (key Far.b1) = some (.mk' Far.l7_0.pat (Far.l7_0.m n n) Far.l7_0.resK) by kernel_rfl) (LoopS.of (res := Far.l7_0.res) (fun R u K => rfl) Far.l7_0.pat_shape fun t => Far.l7_0.loop n n t)
  .nil))
  (nj rfl) (by decide) rfl rfl (by show 0 ≤ Tryd.f96.ntmps; decide) (Far.run n ) (Far.gmap Far.res (fun a0 => a0) n ) h
theorem Far.s (hmix : Tryd.prog.follows .mixedOrders = true) (n : Nat) : CalleeS Tryd.prog abiG 96 (Far.c n) :=
  .mk1 (res := Far.res) (shape := Far.shape) (fun R u K => rfl) (fun _ _ _ h => by unfold Far.pat at h; split at h <;> cases h; rfl) (fun t u h => Far.call hmix n t u h) Tryd.func96 (by decide) (by kernel_rfl)
end
section
noncomputable section
noncomputable def Fbc.C (n : Nat) : Ctx := ⟨Tryd.prog, abiG, lookC [], fun _ => false⟩
def Fbc.live : NL := fun k => match k with
 | 4 => ([3, 2, 1], [1])
 | 9 => ([6, 2, 4, 5, 1, 3], [1, 4, 3, 2])
 | _ => ([], [])
def Fbc.l9_0.r {α : Type} (mk0 : Int → Int → Int → LI → α) (n : Nat) (rc : Int → Int → Int → Int → Int → LI → Option α)  (x0 : Int) (x1 : Int) (x2 : Int) (x3 : Int) (x4 : Int) (x5 : LI) : Option α :=
  if (decide (x0 < 7)) = true then
   if ((Int.tmod x1 2) == 1) = true then
    if 0 ≤ (IntKind.wrap .u64 (IntKind.wrap .i64 (x3 - 1))) then
     if (decide ((IntKind.wrap .i64 (2 * x1)) ≥ 256)) = true then
      rc (IntKind.wrap .i64 (x0 + 1)) (ibits BinOp.xor .i64 (IntKind.wrap .i64 (2 * x1)) 369) (ibits BinOp.or .u64 x2 (ishl .u64 1 (IntKind.wrap .u64 (IntKind.wrap .i64 (x3 - 1))))) (IntKind.wrap .i64 (2 * x3)) x4 x5
     else
      rc (IntKind.wrap .i64 (x0 + 1)) (IntKind.wrap .i64 (2 * x1)) (ibits BinOp.or .u64 x2 (ishl .u64 1 (IntKind.wrap .u64 (IntKind.wrap .i64 (x3 - 1))))) (IntKind.wrap .i64 (2 * x3)) x4 x5
    else
     none
   else
    if (decide ((IntKind.wrap .i64 (2 * x1)) ≥ 256)) = true then
     rc (IntKind.wrap .i64 (x0 + 1)) (ibits BinOp.xor .i64 (IntKind.wrap .i64 (2 * x1)) 369) x2 (IntKind.wrap .i64 (2 * x3)) x4 x5
    else
     rc (IntKind.wrap .i64 (x0 + 1)) (IntKind.wrap .i64 (2 * x1)) x2 (IntKind.wrap .i64 (2 * x3)) x4 x5
  else
   some (mk0 x2 x4 x1 x5)
def Fbc.l9_0.g {α : Type} (mk0 : Int → Int → Int → LI → α) (n : Nat) : Nat → Int → Int → Int → Int → Int → LI → Option α
 | 0, _, _, _, _, _, _ => none
 | m + 1, x0, x1, x2, x3, x4, x5 => Fbc.l9_0.r mk0 n (fun y0 y1 y2 y3 y4 y5 => Fbc.l9_0.g mk0 n m y0 y1 y2 y3 y4 y5)  x0 x1 x2 x3 x4 x5
def Fbc.l9_0.m (n m : Nat) (t : (Int × (Int × (Int × (Int × (Int × LI)))))) : Option (Int × (Int × (Int × LI))) := Fbc.l9_0.g (fun a0 a1 a2 a3 => (a0, a1, a2, a3)) n m t.1 t.2.1 t.2.2.1 t.2.2.2.1 t.2.2.2.2.1 t.2.2.2.2.2
def Fbc.l9_0.pat : St → Option (Int × (Int × (Int × (Int × (Int × LI)))))
 | (St.mk [(.int .i64 x0), (.int .i64 x1), (.int .u64 x2), (.int .i64 x3), (.own 0 1), (.int .i64 x4)] [(some (.ints .u64 x5))]) => some (x0, x1, x2, x3, x4, x5)
 | _ => none
def Fbc.l9_0.shape (t : (Int × (Int × (Int × (Int × (Int × LI)))))) : St := (St.mk [(.int .i64 t.1), (.int .i64 t.2.1), (.int .u64 t.2.2.1), (.int .i64 t.2.2.2.1), (.own 0 1), (.int .i64 t.2.2.2.2.1)] [(some (.ints .u64 t.2.2.2.2.2))])
def Fbc.l9_0.res : (Int × (Int × (Int × LI))) → Ex × St
 | u => (Prod.mk (.exit 2) (St.mk [(.own 0 1), (.int .u64 u.1), (.int .i64 u.2.1), (.int .i64 u.2.2.1)] [(some (.ints .u64 u.2.2.2))]))
def Fbc.l9_0.resK {R : Type} (u : (Int × (Int × (Int × LI)))) (K : Ex → St → Option R) : Option R := K (Fbc.l9_0.res u).1 (Fbc.l9_0.res u).2
def Fbc.l4_0.r {α : Type} (mk0 : LI → α) (n : Nat) (rc : Int → Int → LI → Option α)  (x0 : Int) (x1 : Int) (x2 : LI) : Option α :=
  if (decide (x0 < 24)) = true then
   bindO (Fbc.l9_0.m n n (0, x1, 0, 1, x0, x2)) fun r6 =>
    if ((((List.length (Prod.snd (Prod.snd r6).2)) + 1) * 8) ≤ 70368744177664 ∧ ((List.length (Prod.snd (Prod.snd r6).2)) + 1) ≤ 9223372036854775807) then
     rc (IntKind.wrap .i64 ((Prod.fst r6.2) + 1)) (Prod.fst (Prod.snd r6).2) ((Prod.snd (Prod.snd r6).2) ++ [(Prod.fst r6)])
    else
     none
  else
   some (mk0 x2)
def Fbc.l4_0.g {α : Type} (mk0 : LI → α) (n : Nat) : Nat → Int → Int → LI → Option α
 | 0, _, _, _ => none
 | m + 1, x0, x1, x2 => Fbc.l4_0.r mk0 n (fun y0 y1 y2 => Fbc.l4_0.g mk0 n m y0 y1 y2)  x0 x1 x2
def Fbc.l4_0.m (n m : Nat) (t : (Int × (Int × LI))) : Option LI := Fbc.l4_0.g (fun a0 => a0) n m t.1 t.2.1 t.2.2
def Fbc.l4_0.pat : St → Option (Int × (Int × LI))
 | (St.mk [(.int .i64 x0), (.int .i64 x1), (.own 0 1)] [(some (.ints .u64 x2))]) => some (x0, x1, x2)
 | _ => none
def Fbc.l4_0.shape (t : (Int × (Int × LI))) : St := (St.mk [(.int .i64 t.1), (.int .i64 t.2.1), (.own 0 1)] [(some (.ints .u64 t.2.2))])
def Fbc.l4_0.res : LI → Ex × St
 | u => (Prod.mk (.exit 0) (St.mk [(.own 0 1)] [(some (.ints .u64 u))]))
def Fbc.l4_0.resK {R : Type} (u : LI) (K : Ex → St → Option R) : Option R := K (Fbc.l4_0.res u).1 (Fbc.l4_0.res u).2
noncomputable def Fbc.A (n : Nat) : Ann := ⟨Tryd.f97.ntmps, 0, Fbc.live, [(1, (.ints .u64))], [(some (.ints .u64))], fun k => match k with
 | 9 => some (.mk' Fbc.l9_0.pat (Fbc.l9_0.m n n) Fbc.l9_0.resK)
 | 4 => some (.mk' Fbc.l4_0.pat (Fbc.l4_0.m n n) Fbc.l4_0.resK)
 | _ => none, noNL, lookJ []⟩
noncomputable def Fbc.b0 : Code := (loopsIn (Tryd.f97.body.getD .skip)).getD 0 .skip
noncomputable def Fbc.b1 : Code := (loopsIn (Tryd.f97.body.getD .skip)).getD 1 .skip
def Fbc.g {α : Type} (mk0 : LI → α) (n : Nat)  : Option α :=
 bindO (Fbc.l4_0.m n n (0, 1, [])) fun r2 =>
  some (mk0 r2)
def Fbc.m (n : Nat) (t : Unit) : Option LI := Fbc.g (fun a0 => a0) n 
def Fbc.pat : List AV → Blks → Option Unit
 | [], [] => some ()
 | _, _ => none
def Fbc.shape (t : Unit) : List AV × Blks := ([], [])
def Fbc.res : LI → AV × Blks
 | u => (Prod.mk (.own 0 1) [(some (.ints .u64 u))])
def Fbc.resK {R : Type} (u : LI) (K : AV → Blks → Option R) : Option R := K (Fbc.res u).1 (Fbc.res u).2
def Fbc.c (n : Nat) : Abs.Callee := .mk' [] [] Fbc.pat (Fbc.m n) Fbc.resK
end
end
section
noncomputable abbrev Fbc.R0 (n : Nat) := roundOf (Fbc.C n) (Fbc.A n) n Fbc.b0
noncomputable abbrev Fbc.R1 (n : Nat) := roundOf (Fbc.C n) (Fbc.A n) n Fbc.b1
theorem Fbc.l9_0.rmap {α β : Type} (h : β → α) (mk0 : Int → Int → Int → LI → β) (n : Nat) (f : Int → Int → Int → Int → Int → LI → Option β)  (x0 : Int) (x1 : Int) (x2 : Int) (x3 : Int) (x4 : Int) (x5 : LI) : Fbc.l9_0.r (fun a0 a1 a2 a3 => (h (mk0 a0 a1 a2 a3))) n (fun y0 y1 y2 y3 y4 y5 => (f y0 y1 y2 y3 y4 y5).map h) x0 x1 x2 x3 x4 x5 = (Fbc.l9_0.r mk0 n f x0 x1 x2 x3 x4 x5).map h := by
  unfold Fbc.l9_0.r
  exact (ite_map (ite_map (ite_map (ite_map rfl rfl) rfl) (ite_map rfl rfl)) rfl)
theorem Fbc.l9_0.gmap {α β : Type} (h : β → α) (mk0 : Int → Int → Int → LI → β) (n : Nat) : ∀ (m : Nat) (x0 : Int) (x1 : Int) (x2 : Int) (x3 : Int) (x4 : Int) (x5 : LI), Fbc.l9_0.g (fun a0 a1 a2 a3 => (h (mk0 a0 a1 a2 a3))) n m x0 x1 x2 x3 x4 x5 = (Fbc.l9_0.g mk0 n m x0 x1 x2 x3 x4 x5).map h
  | 0, _, _, _, _, _, _ => rfl
  | m + 1, x0, x1, x2, x3, x4, x5 => by
    unfold Fbc.l9_0.g
    rw [← Fbc.l9_0.rmap]
    congr
    · funext y0 y1 y2 y3 y4 y5; exact Fbc.l9_0.gmap h mk0 n m y0 y1 y2 y3 y4 y5
theorem Fbc.l9_0.pat_shape : ∀ st t, Fbc.l9_0.pat st = some t → st = Fbc.l9_0.shape t := fun _ _ h => by unfold Fbc.l9_0.pat at h; split at h <;> cases h; rfl
def Fbc.l9_0.k0 : Int → Int → Int → LI → Ex × St := (fun a0 a1 a2 a3 => ((Prod.mk (.exit 2) (St.mk [(.own 0 1), (.int .u64 a0), (.int .i64 a1), (.int .i64 a2)] [(some (.ints .u64 a3))])) : Ex × St))
theorem Fbc.l9_0.round (n : Nat) (rc : St → Option (Ex × St)) (x0 : Int) (x1 : Int) (x2 : Int) (x3 : Int) (x4 : Int) (x5 : LI) : Fbc.R1 n rc ((St.mk [(.int .i64 x0), (.int .i64 x1), (.int .u64 x2), (.int .i64 x3), (.own 0 1), (.int .i64 x4)] [(some (.ints .u64 x5))])) = Fbc.l9_0.r Fbc.l9_0.k0 n (fun y0 y1 y2 y3 y4 y5 => rc ((St.mk [(.int .i64 y0), (.int .i64 y1), (.int .u64 y2), (.int .i64 y3), (.own 0 1), (.int .i64 y4)] [(some (.ints .u64 y5))]))) x0 x1 x2 x3 x4 x5 := by kernel_rfl
theorem Fbc.l9_0.loop' (n : Nat) : ∀ (m : Nat) (t : (Int × (Int × (Int × (Int × (Int × LI)))))), loopOf (Fbc.R1 n) m (Fbc.l9_0.shape t) = Fbc.l9_0.g Fbc.l9_0.k0 n m t.1 t.2.1 t.2.2.1 t.2.2.2.1 t.2.2.2.2.1 t.2.2.2.2.2 :=
  loop_of_round (shape := Fbc.l9_0.shape) (body := Fbc.R1 n) (g := fun m t => Fbc.l9_0.g Fbc.l9_0.k0 n m t.1 t.2.1 t.2.2.1 t.2.2.2.1 t.2.2.2.2.1 t.2.2.2.2.2) (fun t => rfl)
    fun m t ih => (Fbc.l9_0.round n (loopOf (Fbc.R1 n) m) t.1 t.2.1 t.2.2.1 t.2.2.2.1 t.2.2.2.2.1 t.2.2.2.2.2).trans (congrFun (congrFun (congrFun (congrFun (congrFun (congrFun (congrArg (Fbc.l9_0.r Fbc.l9_0.k0 n) (funext fun y0 => funext fun y1 => funext fun y2 => funext fun y3 => funext fun y4 => funext fun y5 => ih (y0, y1, y2, y3, y4, y5))) t.1) t.2.1) t.2.2.1) t.2.2.2.1) t.2.2.2.2.1) t.2.2.2.2.2)
theorem Fbc.l9_0.loop (n m : Nat) (t : (Int × (Int × (Int × (Int × (Int × LI)))))) : loopOf (Fbc.R1 n) m (Fbc.l9_0.shape t) = (Fbc.l9_0.m n m t).map Fbc.l9_0.res :=
  (Fbc.l9_0.loop' n m t).trans (Fbc.l9_0.gmap Fbc.l9_0.res (fun a0 a1 a2 a3 => (a0, a1, a2, a3)) n m t.1 t.2.1 t.2.2.1 t.2.2.2.1 t.2.2.2.2.1 t.2.2.2.2.2)
theorem Fbc.l4_0.rmap {α β : Type} (h : β → α) (mk0 : LI → β) (n : Nat) (f : Int → Int → LI → Option β)  (x0 : Int) (x1 : Int) (x2 : LI) : Fbc.l4_0.r (fun a0 => (h (mk0 a0))) n (fun y0 y1 y2 => (f y0 y1 y2).map h) x0 x1 x2 = (Fbc.l4_0.r mk0 n f x0 x1 x2).map h := by
  unfold Fbc.l4_0.r
  exact (ite_map (bindO_map fun r6 => (ite_map rfl rfl)) rfl)
theorem Fbc.l4_0.gmap {α β : Type} (h : β → α) (mk0 : LI → β) (n : Nat) : ∀ (m : Nat) (x0 : Int) (x1 : Int) (x2 : LI), Fbc.l4_0.g (fun a0 => (h (mk0 a0))) n m x0 x1 x2 = (Fbc.l4_0.g mk0 n m x0 x1 x2).map h
  | 0, _, _, _ => rfl
  | m + 1, x0, x1, x2 => by
    unfold Fbc.l4_0.g
    rw [← Fbc.l4_0.rmap]
    congr
    · funext y0 y1 y2; exact Fbc.l4_0.gmap h mk0 n m y0 y1 y2
theorem Fbc.l4_0.pat_shape : ∀ st t, Fbc.l4_0.pat st = some t → st = Fbc.l4_0.shape t := fun _ _ h => by unfold Fbc.l4_0.pat at h; split at h <;> cases h; rfl
def Fbc.l4_0.k0 : LI → Ex × St := (fun a0 => ((Prod.mk (.exit 0) (St.mk [(.own 0 1)] [(some (.ints .u64 a0))])) : Ex × St))
theorem Fbc.l4_0.round (n : Nat) (rc : St → Option (Ex × St)) (x0 : Int) (x1 : Int) (x2 : LI) : Fbc.R0 n rc ((St.mk [(.int .i64 x0), (.int .i64 x1), (.own 0 1)] [(some (.ints .u64 x2))])) = Fbc.l4_0.r Fbc.l4_0.k0 n (fun y0 y1 y2 => rc ((St.mk [(.int .i64 y0), (.int .i64 y1), (.own 0 1)] [(some (.ints .u64 y2))]))) x0 x1 x2 := by kernel_rfl
theorem Fbc.l4_0.loop' (n : Nat) : ∀ (m : Nat) (t : (Int × (Int × LI))), loopOf (Fbc.R0 n) m (Fbc.l4_0.shape t) = Fbc.l4_0.g Fbc.l4_0.k0 n m t.1 t.2.1 t.2.2 :=
  loop_of_round (shape := Fbc.l4_0.shape) (body := Fbc.R0 n) (g := fun m t => Fbc.l4_0.g Fbc.l4_0.k0 n m t.1 t.2.1 t.2.2) (fun t => rfl)
    fun m t ih => (Fbc.l4_0.round n (loopOf (Fbc.R0 n) m) t.1 t.2.1 t.2.2).trans (congrFun (congrFun (congrFun (congrArg (Fbc.l4_0.r Fbc.l4_0.k0 n) (funext fun y0 => funext fun y1 => funext fun y2 => ih (y0, y1, y2))) t.1) t.2.1) t.2.2)
theorem Fbc.l4_0.loop (n m : Nat) (t : (Int × (Int × LI))) : loopOf (Fbc.R0 n) m (Fbc.l4_0.shape t) = (Fbc.l4_0.m n m t).map Fbc.l4_0.res :=
  (Fbc.l4_0.loop' n m t).trans (Fbc.l4_0.gmap Fbc.l4_0.res (fun a0 => a0) n m t.1 t.2.1 t.2.2)
theorem Fbc.gmap {α β : Type} (h : β → α) (mk0 : LI → β) (n : Nat)  : Fbc.g (fun a0 => (h (mk0 a0))) n  = (Fbc.g mk0 n ).map h := by
  unfold Fbc.g
  exact (bindO_map fun r2 => rfl)
theorem Fbc.run (n : Nat)  : runF (Fbc.C n) (Fbc.A n) n Tryd.f97 [] [] (fun v o => some (v, o)) = Fbc.g (fun a0 => ((Prod.mk (.own 0 1) [(some (.ints .u64 a0))]) : AV × Blks)) n  := by kernel_rfl
theorem Fbc.call (hmix : Tryd.prog.follows .mixedOrders = true) (n : Nat) (t : Unit) (u) (h : Fbc.m n t = some u) : FnC Tryd.prog abiG 97 (Fbc.shape t).1 (Fbc.shape t).2 (Fbc.res u).1 (Fbc.res u).2 :=
  fnC1 (C := Fbc.C n) (A := Fbc.A n) (fn := Tryd.f97) rfl .nil hmix Tryd.func97 (by kernel_rfl) (lp := [Fbc.b0, Fbc.b1]) (by kernel_rfl) (.cons (show (Fbc.A n).loop (key Fbc.b0) = some (.mk' Fbc.l4_0.pat (Fbc.l4_0.m n n) Fbc.l4_0.resK) by kernel_rfl) (LoopS.of (res := Fbc.l4_0.res) (fun R u K => rfl) Fbc.l4_0.pat_shape fun t => Fbc.l4_0.loop n n t)
  (.cons (show (Fbc.A n).loop (key Fbc.b1) = some (.mk' Fbc.l9_0.pat (Fbc.l9_0.m n n) Fbc.l9_0.resK) by kernel_rfl) (LoopS.of (res := Fbc.l9_0.res) (fun R u K => rfl) Fbc.l9_0.pat_shape fun t => Fbc.l9_0.loop n n t)
  .nil))
  (nj rfl) (by decide) rfl rfl (by show 0 ≤ Tryd.f97.ntmps; decide) (Fbc.run n ) (Fbc.gmap Fbc.res (fun a0 => a0) n ) h
theorem Fbc.s (hmix : Tryd.prog.follows .mixedOrders = true) (n : Nat) : CalleeS Tryd.prog abiG 97 (Fbc.c n) :=
  .mk1 (res := Fbc.res) (shape := Fbc.shape) (fun R u K => rfl) (fun _ _ _ h => by unfold Fbc.pat at h; split at h <;> cases h; rfl) (fun t u h => Fbc.call hmix n t u h) Tryd.func97 (by decide) (by kernel_rfl)
end
section
noncomputable section
noncomputable def Ff.C (n : Nat) : Ctx := ⟨Tryd.prog, abiG, lookC [(111, Fh.c n)], fun _ => false⟩
def Ff.live : NL := fun k => match k with
 | 1 => ([8, 7, 6, 0], [0])
 | _ => ([], [])
def Ff.l1_0.r {α : Type} (mk0 : LI → α) (n : Nat) (rc : Int → Int → LI → LI → Option α)  (x0 : Int) (x1 : Int) (x2 : LI) (x3 : LI) : Option α :=
  if (decide (x0 < x1)) = true then
   if 0 ≤ x0 then
    if x0 < (((List.length x2) : Nat) : Int) then
     if 0 ≤ (IntKind.wrap .i64 (Int.tdiv x0 8)) then
      if (IntKind.wrap .i64 (Int.tdiv x0 8)) < 25 then
       if 0 ≤ (IntKind.wrap .i64 ((Int.tmod x0 8) * 8)) then
        if 0 ≤ (IntKind.wrap .i64 (Int.tdiv x0 8)) then
         if (IntKind.wrap .i64 (Int.tdiv x0 8)) < 25 then
          rc (IntKind.wrap .i64 (x0 + 1)) x1 x2 (List.set x3 (Int.toNat (IntKind.wrap .i64 (Int.tdiv x0 8))) (ibits BinOp.xor .u64 (List.getD x3 (Int.toNat (IntKind.wrap .i64 (Int.tdiv x0 8))) 0) (ishl .u64 (IntKind.wrap .u64 (List.getD x2 (Int.toNat x0) 0)) (IntKind.wrap .i64 ((Int.tmod x0 8) * 8)))))
         else
          none
        else
         none
       else
        none
      else
       none
     else
      none
    else
     none
   else
    none
  else
   some (mk0 x3)
def Ff.l1_0.g {α : Type} (mk0 : LI → α) (n : Nat) : Nat → Int → Int → LI → LI → Option α
 | 0, _, _, _, _ => none
 | m + 1, x0, x1, x2, x3 => Ff.l1_0.r mk0 n (fun y0 y1 y2 y3 => Ff.l1_0.g mk0 n m y0 y1 y2 y3)  x0 x1 x2 x3
def Ff.l1_0.m (n m : Nat) (t : (Int × (Int × (LI × LI)))) : Option LI := Ff.l1_0.g (fun a0 => a0) n m t.1 t.2.1 t.2.2.1 t.2.2.2
def Ff.l1_0.pat : St → Option (Int × (Int × (LI × LI)))
 | (St.mk [(.int .i64 x0), (.int .i64 x1), (.rints .u8 x2), (.ptr 0 [])] [(some (.var (.ints .u64 25 x3)))]) => some (x0, x1, x2, x3)
 | _ => none
def Ff.l1_0.shape (t : (Int × (Int × (LI × LI)))) : St := (St.mk [(.int .i64 t.1), (.int .i64 t.2.1), (.rints .u8 t.2.2.1), (.ptr 0 [])] [(some (.var (.ints .u64 25 t.2.2.2)))])
def Ff.l1_0.res : LI → Ex × St
 | u => (Prod.mk (.exit 0) (St.mk [(.ptr 0 [])] [(some (.var (.ints .u64 25 u)))]))
def Ff.l1_0.resK {R : Type} (u : LI) (K : Ex → St → Option R) : Option R := K (Ff.l1_0.res u).1 (Ff.l1_0.res u).2
noncomputable def Ff.A (n : Nat) : Ann := ⟨Tryd.f93.ntmps, 1, Ff.live, [(6, (.ints .u8))], [], fun k => match k with
 | 1 => some (.mk' Ff.l1_0.pat (Ff.l1_0.m n n) Ff.l1_0.resK)
 | _ => none, noNL, lookJ []⟩
noncomputable def Ff.b0 : Code := (loopsIn (Tryd.f93.body.getD .skip)).getD 0 .skip
def Ff.g {α : Type} (mk0 : LI → α) (n : Nat) (b : LI) (s : LI) : Option α :=
 bindO (Ff.l1_0.m n n (0, (((List.length b) : Nat) : Int), b, s)) fun r2 =>
  bindO (Fh.m n r2) fun r4 =>
   some (mk0 r4)
def Ff.m (n : Nat) (t : (LI × LI)) : Option LI := Ff.g (fun a0 => a0) n t.1 t.2
def Ff.pat : List AV → Blks → Option (LI × LI)
 | [(.ptr 0 []), (.rints .u8 b)], [(some (.var (.ints .u64 25 s)))] => some (b, s)
 | _, _ => none
def Ff.shape (t : (LI × LI)) : List AV × Blks := ([(.ptr 0 []), (.rints .u8 t.1)], [(some (.var (.ints .u64 25 t.2)))])
def Ff.res : LI → AV × Blks
 | u => (Prod.mk (.tup []) [(some (.var (.ints .u64 25 u)))])
def Ff.resK {R : Type} (u : LI) (K : AV → Blks → Option R) : Option R := K (Ff.res u).1 (Ff.res u).2
def Ff.c (n : Nat) : Abs.Callee := .mk' [true, false] [none, (some (.ints .u8))] Ff.pat (Ff.m n) Ff.resK
end
end
section
noncomputable section
noncomputable def Fas.C (n : Nat) : Ctx := ⟨Tryd.prog, abiG, lookC [], fun _ => false⟩
def Fas.live : NL := fun k => match k with
 | 4 => ([13, 12, 3, 0, 2], [3, 2])
 | _ => ([], [])
def Fas.l4_0.r {α : Type} (mk0 : LI → LI → α) (n : Nat) (rc : Int → Int → LI → LI → LI → Option α)  (x0 : Int) (x1 : Int) (x2 : LI) (x3 : LI) (x4 : LI) : Option α :=
  if (decide (x0 < x1)) = true then
   if 0 ≤ (IntKind.wrap .i64 (Int.tdiv x0 8)) then
    if (IntKind.wrap .i64 (Int.tdiv x0 8)) < 4 then
     if 0 ≤ (IntKind.wrap .i64 ((IntKind.wrap .i64 ((((List.length x2) : Nat) : Int) - 1)) - x0)) then
      if (IntKind.wrap .i64 ((IntKind.wrap .i64 ((((List.length x2) : Nat) : Int) - 1)) - x0)) < (((List.length x2) : Nat) : Int) then
       if 0 ≤ (IntKind.wrap .i64 ((Int.tmod x0 8) * 8)) then
        if 0 ≤ (IntKind.wrap .i64 (Int.tdiv x0 8)) then
         if (IntKind.wrap .i64 (Int.tdiv x0 8)) < 4 then
          rc (IntKind.wrap .i64 (x0 + 1)) x1 x2 (List.set x3 (Int.toNat (IntKind.wrap .i64 (Int.tdiv x0 8))) (ibits BinOp.or .u64 (List.getD x3 (Int.toNat (IntKind.wrap .i64 (Int.tdiv x0 8))) 0) (ishl .u64 (IntKind.wrap .u64 (List.getD x2 (Int.toNat (IntKind.wrap .i64 ((IntKind.wrap .i64 ((((List.length x2) : Nat) : Int) - 1)) - x0))) 0)) (IntKind.wrap .i64 ((Int.tmod x0 8) * 8))))) x4
         else
          none
        else
         none
       else
        none
      else
       none
     else
      none
    else
     none
   else
    none
  else
   some (mk0 x3 x4)
def Fas.l4_0.g {α : Type} (mk0 : LI → LI → α) (n : Nat) : Nat → Int → Int → LI → LI → LI → Option α
 | 0, _, _, _, _, _ => none
 | m + 1, x0, x1, x2, x3, x4 => Fas.l4_0.r mk0 n (fun y0 y1 y2 y3 y4 => Fas.l4_0.g mk0 n m y0 y1 y2 y3 y4)  x0 x1 x2 x3 x4
def Fas.l4_0.m (n m : Nat) (t : (Int × (Int × (LI × (LI × LI))))) : Option (LI × LI) := Fas.l4_0.g (fun a0 a1 => (a0, a1)) n m t.1 t.2.1 t.2.2.1 t.2.2.2.1 t.2.2.2.2
def Fas.l4_0.pat : St → Option (Int × (Int × (LI × (LI × LI))))
 | (St.mk [(.int .i64 x0), (.int .i64 x1), (.ptr 0 []), (.rints .u8 x2), (.ptr 1 [])] [(some (.var (.ints .u64 4 x3))), (some (.var (.ints .u64 4 x4)))]) => some (x0, x1, x2, x3, x4)
 | _ => none
def Fas.l4_0.shape (t : (Int × (Int × (LI × (LI × LI))))) : St := (St.mk [(.int .i64 t.1), (.int .i64 t.2.1), (.ptr 0 []), (.rints .u8 t.2.2.1), (.ptr 1 [])] [(some (.var (.ints .u64 4 t.2.2.2.1))), (some (.var (.ints .u64 4 t.2.2.2.2)))])
def Fas.l4_0.res : (LI × LI) → Ex × St
 | u => (Prod.mk (.exit 0) (St.mk [(.ptr 0 []), (.ptr 1 [])] [(some (.var (.ints .u64 4 u.1))), (some (.var (.ints .u64 4 u.2)))]))
def Fas.l4_0.resK {R : Type} (u : (LI × LI)) (K : Ex → St → Option R) : Option R := K (Fas.l4_0.res u).1 (Fas.l4_0.res u).2
noncomputable def Fas.A (n : Nat) : Ann := ⟨Tryd.f89.ntmps, 0, Fas.live, [(0, (.ints .u8))], [none], fun k => match k with
 | 4 => some (.mk' Fas.l4_0.pat (Fas.l4_0.m n n) Fas.l4_0.resK)
 | _ => none, noNL, lookJ []⟩
noncomputable def Fas.b0 : Code := (loopsIn (Tryd.f89.body.getD .skip)).getD 0 .skip
def Fas.g {α : Type} (mk0 : LI → α) (n : Nat) (a0 : LI) : Option α :=
 if 0 ≤ (if 0 > (IntKind.wrap .i64 ((((List.length a0) : Nat) : Int) - 32)) then 0 else (IntKind.wrap .i64 ((((List.length a0) : Nat) : Int) - 32))) then
  if (if 0 > (IntKind.wrap .i64 ((((List.length a0) : Nat) : Int) - 32)) then 0 else (IntKind.wrap .i64 ((((List.length a0) : Nat) : Int) - 32))) ≤ (((List.length a0) : Nat) : Int) then
   bindO (Fas.l4_0.m n n (0, (((List.length (Go.Abs.cut a0 (Int.toNat (if 0 > (IntKind.wrap .i64 ((((List.length a0) : Nat) : Int) - 32)) then 0 else (IntKind.wrap .i64 ((((List.length a0) : Nat) : Int) - 32)))) (Option.none))) : Nat) : Int), (Go.Abs.cut a0 (Int.toNat (if 0 > (IntKind.wrap .i64 ((((List.length a0) : Nat) : Int) - 32)) then 0 else (IntKind.wrap .i64 ((((List.length a0) : Nat) : Int) - 32)))) (Option.none)), [0, 0, 0, 0], [0, 0, 0, 0])) fun r6 =>
    some (mk0 (Prod.fst r6))
  else
   none
 else
  none
def Fas.m (n : Nat) (t : LI) : Option LI := Fas.g (fun a0 => a0) n t
def Fas.pat : List AV → Blks → Option LI
 | [(.rints .u8 a0)], [] => some a0
 | _, _ => none
def Fas.shape (t : LI) : List AV × Blks := ([(.rints .u8 t)], [])
def Fas.res : LI → AV × Blks
 | u => (Prod.mk (.ints .u64 4 u) [])
def Fas.resK {R : Type} (u : LI) (K : AV → Blks → Option R) : Option R := K (Fas.res u).1 (Fas.res u).2
def Fas.c (n : Nat) : Abs.Callee := .mk' [] [(some (.ints .u8))] Fas.pat (Fas.m n) Fas.resK
end
end
section
noncomputable section
noncomputable def Fad.C (n : Nat) : Ctx := ⟨Tryd.prog, abiG, lookC [(93, Ff.c n), (89, Fas.c n)], fun _ => false⟩
def Fad.live : NL := fun k => match k with
 | 2 => ([0, 3, 2], [0, 3, 2])
 | 12 => ([30, 3, 5, 2], [5, 2])
 | _ => ([], [])
def Fad.l2_0.r {α : Type} (mk0 : LI → LI → LI → α) (n : Nat) (rc : LI → LI → LI → Option α)  (x0 : LI) (x1 : LI) (x2 : LI) : Option α :=
  if (decide ((((List.length x0) : Nat) : Int) ≥ 136)) = true then
   if 136 ≤ (((List.length x0) : Nat) : Int) then
    bindO (Ff.m n (Prod.mk (Go.Abs.cut x0 0 (Option.some 136)) x1)) fun r8 =>
     if 136 ≤ (((List.length x0) : Nat) : Int) then
      rc (Go.Abs.cut x0 136 (Option.none)) r8 x2
     else
      none
   else
    none
  else
   some (mk0 x0 x1 x2)
def Fad.l2_0.g {α : Type} (mk0 : LI → LI → LI → α) (n : Nat) : Nat → LI → LI → LI → Option α
 | 0, _, _, _ => none
 | m + 1, x0, x1, x2 => Fad.l2_0.r mk0 n (fun y0 y1 y2 => Fad.l2_0.g mk0 n m y0 y1 y2)  x0 x1 x2
def Fad.l2_0.m (n m : Nat) (t : (LI × (LI × LI))) : Option (LI × (LI × LI)) := Fad.l2_0.g (fun a0 a1 a2 => (a0, a1, a2)) n m t.1 t.2.1 t.2.2
def Fad.l2_0.pat : St → Option (LI × (LI × LI))
 | (St.mk [(.rints .u8 x0), (.ptr 0 []), (.ptr 1 [])] [(some (.var (.ints .u64 25 x1))), (some (.var (.ints .u64 4 x2)))]) => some (x0, x1, x2)
 | _ => none
def Fad.l2_0.shape (t : (LI × (LI × LI))) : St := (St.mk [(.rints .u8 t.1), (.ptr 0 []), (.ptr 1 [])] [(some (.var (.ints .u64 25 t.2.1))), (some (.var (.ints .u64 4 t.2.2)))])
def Fad.l2_0.res : (LI × (LI × LI)) → Ex × St
 | u => (Prod.mk (.exit 0) (St.mk [(.rints .u8 u.1), (.ptr 0 []), (.ptr 1 [])] [(some (.var (.ints .u64 25 u.2.1))), (some (.var (.ints .u64 4 u.2.2)))]))
def Fad.l2_0.resK {R : Type} (u : (LI × (LI × LI))) (K : Ex → St → Option R) : Option R := K (Fad.l2_0.res u).1 (Fad.l2_0.res u).2
def Fad.l12_0.r {α : Type} (mk0 : LI → LI → α) (n : Nat) (rc : Int → LI → LI → LI → Option α)  (x0 : Int) (x1 : LI) (x2 : LI) (x3 : LI) : Option α :=
  if (decide (x0 < 32)) = true then
   if 0 ≤ (IntKind.wrap .i64 (Int.tdiv x0 8)) then
    if (IntKind.wrap .i64 (Int.tdiv x0 8)) < 25 then
     if 0 ≤ (IntKind.wrap .i64 ((Int.tmod x0 8) * 8)) then
      if 0 ≤ x0 then
       if x0 < 32 then
        rc (IntKind.wrap .i64 (x0 + 1)) x1 (List.set x2 (Int.toNat x0) (IntKind.wrap .u8 (ishr .u64 (List.getD x1 (Int.toNat (IntKind.wrap .i64 (Int.tdiv x0 8))) 0) (IntKind.wrap .i64 ((Int.tmod x0 8) * 8))))) x3
       else
        none
      else
       none
     else
      none
    else
     none
   else
    none
  else
   some (mk0 x2 x3)
def Fad.l12_0.g {α : Type} (mk0 : LI → LI → α) (n : Nat) : Nat → Int → LI → LI → LI → Option α
 | 0, _, _, _, _ => none
 | m + 1, x0, x1, x2, x3 => Fad.l12_0.r mk0 n (fun y0 y1 y2 y3 => Fad.l12_0.g mk0 n m y0 y1 y2 y3)  x0 x1 x2 x3
def Fad.l12_0.m (n m : Nat) (t : (Int × (LI × (LI × LI)))) : Option (LI × LI) := Fad.l12_0.g (fun a0 a1 => (a0, a1)) n m t.1 t.2.1 t.2.2.1 t.2.2.2
def Fad.l12_0.pat : St → Option (Int × (LI × (LI × LI)))
 | (St.mk [(.int .i64 x0), (.ptr 0 []), (.ptr 1 []), (.ptr 2 [])] [(some (.var (.ints .u64 25 x1))), (some (.var (.ints .u8 32 x2))), (some (.var (.ints .u64 4 x3)))]) => some (x0, x1, x2, x3)
 | _ => none
def Fad.l12_0.shape (t : (Int × (LI × (LI × LI)))) : St := (St.mk [(.int .i64 t.1), (.ptr 0 []), (.ptr 1 []), (.ptr 2 [])] [(some (.var (.ints .u64 25 t.2.1))), (some (.var (.ints .u8 32 t.2.2.1))), (some (.var (.ints .u64 4 t.2.2.2)))])
def Fad.l12_0.res : (LI × LI) → Ex × St
 | u => (Prod.mk (.exit 2) (St.mk [(.ptr 0 []), (.ptr 1 [])] [(some (.var (.ints .u8 32 u.1))), (some (.var (.ints .u64 4 u.2)))]))
def Fad.l12_0.resK {R : Type} (u : (LI × LI)) (K : Ex → St → Option R) : Option R := K (Fad.l12_0.res u).1 (Fad.l12_0.res u).2
noncomputable def Fad.A (n : Nat) : Ann := ⟨Tryd.f57.ntmps, 0, Fad.live, [(0, (.ints .u8))], [none], fun k => match k with
 | 2 => some (.mk' Fad.l2_0.pat (Fad.l2_0.m n n) Fad.l2_0.resK)
 | 12 => some (.mk' Fad.l12_0.pat (Fad.l12_0.m n n) Fad.l12_0.resK)
 | _ => none, noNL, lookJ []⟩
noncomputable def Fad.b0 : Code := (loopsIn (Tryd.f57.body.getD .skip)).getD 0 .skip
noncomputable def Fad.b1 : Code := (loopsIn (Tryd.f57.body.getD .skip)).getD 1 .skip
def Fad.g {α : Type} (mk0 : LI → α) (n : Nat) (a0 : LI) : Option α :=
 bindO (Fad.l2_0.m n n (a0, ([0, 0, 0, 0, 0, 0, 0, 0, 0, 0, 0, 0, 0, 0, 0, 0, 0, 0, 0, 0, 0, 0, 0, 0, 0] : List Int), [0, 0, 0, 0])) fun r2 =>
  if (((List.length (Prod.fst r2)) : Nat) : Int) < 136 then
   if (((List.length (Prod.fst r2)) : Nat) : Int) < 136 then
    bindO (Ff.m n (Prod.mk (List.take 136 (List.drop 0 (List.set (List.set ([] ++ ((List.take 136 (Prod.fst r2)) ++ (List.drop (0 + (Min.min (List.length (Prod.fst r2)) 136)) ([0, 0, 0, 0, 0, 0, 0, 0, 0, 0, 0, 0, 0, 0, 0, 0, 0, 0, 0, 0, 0, 0, 0, 0, 0, 0, 0, 0, 0, 0, 0, 0, 0, 0, 0, 0, 0, 0, 0, 0, 0, 0, 0, 0, 0, 0, 0, 0, 0, 0, 0, 0, 0, 0, 0, 0, 0, 0, 0, 0, 0, 0, 0, 0, 0, 0, 0, 0, 0, 0, 0, 0, 0, 0, 0, 0, 0, 0, 0, 0, 0, 0, 0, 0, 0, 0, 0, 0, 0, 0, 0, 0, 0, 0, 0, 0, 0, 0, 0, 0, 0, 0, 0, 0, 0, 0, 0, 0, 0, 0, 0, 0, 0, 0, 0, 0, 0, 0, 0, 0, 0, 0, 0, 0, 0, 0, 0, 0, 0, 0, 0, 0, 0, 0, 0, 0] : List Int)))) (Int.toNat (((List.length (Prod.fst r2)) : Nat) : Int)) (ibits BinOp.xor .u8 (List.getD ([] ++ ((List.take 136 (Prod.fst r2)) ++ (List.drop (0 + (Min.min (List.length (Prod.fst r2)) 136)) ([0, 0, 0, 0, 0, 0, 0, 0, 0, 0, 0, 0, 0, 0, 0, 0, 0, 0, 0, 0, 0, 0, 0, 0, 0, 0, 0, 0, 0, 0, 0, 0, 0, 0, 0, 0, 0, 0, 0, 0, 0, 0, 0, 0, 0, 0, 0, 0, 0, 0, 0, 0, 0, 0, 0, 0, 0, 0, 0, 0, 0, 0, 0, 0, 0, 0, 0, 0, 0, 0, 0, 0, 0, 0, 0, 0, 0, 0, 0, 0, 0, 0, 0, 0, 0, 0, 0, 0, 0, 0, 0, 0, 0, 0, 0, 0, 0, 0, 0, 0, 0, 0, 0, 0, 0, 0, 0, 0, 0, 0, 0, 0, 0, 0, 0, 0, 0, 0, 0, 0, 0, 0, 0, 0, 0, 0, 0, 0, 0, 0, 0, 0, 0, 0, 0, 0] : List Int)))) (Int.toNat (((List.length (Prod.fst r2)) : Nat) : Int)) 0) 1)) 135 (ibits BinOp.xor .u8 (List.getD (List.set ([] ++ ((List.take 136 (Prod.fst r2)) ++ (List.drop (0 + (Min.min (List.length (Prod.fst r2)) 136)) ([0, 0, 0, 0, 0, 0, 0, 0, 0, 0, 0, 0, 0, 0, 0, 0, 0, 0, 0, 0, 0, 0, 0, 0, 0, 0, 0, 0, 0, 0, 0, 0, 0, 0, 0, 0, 0, 0, 0, 0, 0, 0, 0, 0, 0, 0, 0, 0, 0, 0, 0, 0, 0, 0, 0, 0, 0, 0, 0, 0, 0, 0, 0, 0, 0, 0, 0, 0, 0, 0, 0, 0, 0, 0, 0, 0, 0, 0, 0, 0, 0, 0, 0, 0, 0, 0, 0, 0, 0, 0, 0, 0, 0, 0, 0, 0, 0, 0, 0, 0, 0, 0, 0, 0, 0, 0, 0, 0, 0, 0, 0, 0, 0, 0, 0, 0, 0, 0, 0, 0, 0, 0, 0, 0, 0, 0, 0, 0, 0, 0, 0, 0, 0, 0, 0, 0] : List Int)))) (Int.toNat (((List.length (Prod.fst r2)) : Nat) : Int)) (ibits BinOp.xor .u8 (List.getD ([] ++ ((List.take 136 (Prod.fst r2)) ++ (List.drop (0 + (Min.min (List.length (Prod.fst r2)) 136)) ([0, 0, 0, 0, 0, 0, 0, 0, 0, 0, 0, 0, 0, 0, 0, 0, 0, 0, 0, 0, 0, 0, 0, 0, 0, 0, 0, 0, 0, 0, 0, 0, 0, 0, 0, 0, 0, 0, 0, 0, 0, 0, 0, 0, 0, 0, 0, 0, 0, 0, 0, 0, 0, 0, 0, 0, 0, 0, 0, 0, 0, 0, 0, 0, 0, 0, 0, 0, 0, 0, 0, 0, 0, 0, 0, 0, 0, 0, 0, 0, 0, 0, 0, 0, 0, 0, 0, 0, 0, 0, 0, 0, 0, 0, 0, 0, 0, 0, 0, 0, 0, 0, 0, 0, 0, 0, 0, 0, 0, 0, 0, 0, 0, 0, 0, 0, 0, 0, 0, 0, 0, 0, 0, 0, 0, 0, 0, 0, 0, 0, 0, 0, 0, 0, 0, 0] : List Int)))) (Int.toNat (((List.length (Prod.fst r2)) : Nat) : Int)) 0) 1)) 135 0) 128)))) (Prod.fst r2.2))) fun r8 =>
     bindO (Fad.l12_0.m n n (0, r8, ([0, 0, 0, 0, 0, 0, 0, 0, 0, 0, 0, 0, 0, 0, 0, 0, 0, 0, 0, 0, 0, 0, 0, 0, 0, 0, 0, 0, 0, 0, 0, 0] : List Int), (Prod.snd r2.2))) fun r10 =>
      bindO (Fas.m n (List.take 32 (List.drop 0 (Prod.fst r10)))) fun r12 =>
       some (mk0 r12)
   else
    none
  else
   none
def Fad.m (n : Nat) (t : LI) : Option LI := Fad.g (fun a0 => a0) n t
def Fad.pat : List AV → Blks → Option LI
 | [(.rints .u8 a0)], [] => some a0
 | _, _ => none
def Fad.shape (t : LI) : List AV × Blks := ([(.rints .u8 t)], [])
def Fad.res : LI → AV × Blks
 | u => (Prod.mk (.ints .u64 4 u) [])
def Fad.resK {R : Type} (u : LI) (K : AV → Blks → Option R) : Option R := K (Fad.res u).1 (Fad.res u).2
def Fad.c (n : Nat) : Abs.Callee := .mk' [] [(some (.ints .u8))] Fad.pat (Fad.m n) Fad.resK
end
end
section
noncomputable abbrev Ff.R0 (n : Nat) := roundOf (Ff.C n) (Ff.A n) n Ff.b0
theorem Ff.l1_0.rmap {α β : Type} (h : β → α) (mk0 : LI → β) (n : Nat) (f : Int → Int → LI → LI → Option β)  (x0 : Int) (x1 : Int) (x2 : LI) (x3 : LI) : Ff.l1_0.r (fun a0 => (h (mk0 a0))) n (fun y0 y1 y2 y3 => (f y0 y1 y2 y3).map h) x0 x1 x2 x3 = (Ff.l1_0.r mk0 n f x0 x1 x2 x3).map h := by
  unfold Ff.l1_0.r
  exact (ite_map (ite_map (ite_map (ite_map (ite_map (ite_map (ite_map (ite_map rfl rfl) rfl) rfl) rfl) rfl) rfl) rfl) rfl)
theorem Ff.l1_0.gmap {α β : Type} (h : β → α) (mk0 : LI → β) (n : Nat) : ∀ (m : Nat) (x0 : Int) (x1 : Int) (x2 : LI) (x3 : LI), Ff.l1_0.g (fun a0 => (h (mk0 a0))) n m x0 x1 x2 x3 = (Ff.l1_0.g mk0 n m x0 x1 x2 x3).map h
  | 0, _, _, _, _ => rfl
  | m + 1, x0, x1, x2, x3 => by
    unfold Ff.l1_0.g
    rw [← Ff.l1_0.rmap]
    congr
    · funext y0 y1 y2 y3; exact Ff.l1_0.gmap h mk0 n m y0 y1 y2 y3
theorem Ff.l1_0.pat_shape : ∀ st t, Ff.l1_0.pat st = some t → st = Ff.l1_0.shape t := fun _ _ h => by unfold Ff.l1_0.pat at h; split at h <;> cases h; rfl
def Ff.l1_0.k0 : LI → Ex × St := (fun a0 => ((Prod.mk (.exit 0) (St.mk [(.ptr 0 [])] [(some (.var (.ints .u64 25 a0)))])) : Ex × St))
theorem Ff.l1_0.round (n : Nat) (rc : St → Option (Ex × St)) (x0 : Int) (x1 : Int) (x2 : LI) (x3 : LI) : Ff.R0 n rc ((St.mk [(.int .i64 x0), (.int .i64 x1), (.rints .u8 x2), (.ptr 0 [])] [(some (.var (.ints .u64 25 x3)))])) = Ff.l1_0.r Ff.l1_0.k0 n (fun y0 y1 y2 y3 => rc ((St.mk [(.int .i64 y0), (.int .i64 y1), (.rints .u8 y2), (.ptr 0 [])] [(some (.var (.ints .u64 25 y3)))]))) x0 x1 x2 x3 := by kernel_rfl
theorem Ff.l1_0.loop' (n : Nat) : ∀ (m : Nat) (t : (Int × (Int × (LI × LI)))), loopOf (Ff.R0 n) m (Ff.l1_0.shape t) = Ff.l1_0.g Ff.l1_0.k0 n m t.1 t.2.1 t.2.2.1 t.2.2.2 :=
  loop_of_round (shape := Ff.l1_0.shape) (body := Ff.R0 n) (g := fun m t => Ff.l1_0.g Ff.l1_0.k0 n m t.1 t.2.1 t.2.2.1 t.2.2.2) (fun t => rfl)
    fun m t ih => (Ff.l1_0.round n (loopOf (Ff.R0 n) m) t.1 t.2.1 t.2.2.1 t.2.2.2).trans (congrFun (congrFun (congrFun (congrFun (congrArg (Ff.l1_0.r Ff.l1_0.k0 n) (funext fun y0 => funext fun y1 => funext fun y2 => funext fun y3 => ih (y0, y1, y2, y3))) t.1) t.2.1) t.2.2.1) t.2.2.2)
theorem Ff.l1_0.loop (n m : Nat) (t : (Int × (Int × (LI × LI)))) : loopOf (Ff.R0 n) m (Ff.l1_0.shape t) = (Ff.l1_0.m n m t).map Ff.l1_0.res :=
  (Ff.l1_0.loop' n m t).trans (Ff.l1_0.gmap Ff.l1_0.res (fun a0 => a0) n m t.1 t.2.1 t.2.2.1 t.2.2.2)
theorem Ff.gmap {α β : Type} (h : β → α) (mk0 : LI → β) (n : Nat) (b : LI) (s : LI) : Ff.g (fun a0 => (h (mk0 a0))) n b s = (Ff.g mk0 n b s).map h := by
  unfold Ff.g
  exact (bindO_map fun r2 => (bindO_map fun r4 => rfl))
theorem Ff.run (n : Nat) (b : LI) (s : LI) : runF (Ff.C n) (Ff.A n) n Tryd.f93 [(.ptr 0 []), (.rints .u8 b)] [(some (.var (.ints .u64 25 s)))] (fun v o => some (v, o)) = Ff.g (fun a0 => ((Prod.mk (.tup []) [(some (.var (.ints .u64 25 a0)))]) : AV × Blks)) n b s := by kernel_rfl
theorem Ff.call (hmix : Tryd.prog.follows .mixedOrders = true) (n : Nat) (t : (LI × LI)) (u) (h : Ff.m n t = some u) : FnC Tryd.prog abiG 93 (Ff.shape t).1 (Ff.shape t).2 (Ff.res u).1 (Ff.res u).2 :=
  fnC1 (C := Ff.C n) (A := Ff.A n) (fn := Tryd.f93) rfl (.cons (Fh.s hmix n) .nil) hmix Tryd.func93 (by kernel_rfl) (lp := [Ff.b0]) (by kernel_rfl) (.cons (show (Ff.A n).loop (key Ff.b0) = some (.mk' Ff.l1_0.pat (Ff.l1_0.m n n) Ff.l1_0.resK) by kernel_rfl) (LoopS.of (res := Ff.l1_0.res) (fun R u K => rfl) Ff.l1_0.pat_shape fun t => Ff.l1_0.loop n n t)
  .nil)
  (nj rfl) (by decide) rfl rfl (by show 2 ≤ Tryd.f93.ntmps; decide) (Ff.run n t.1 t.2) (Ff.gmap Ff.res (fun a0 => a0) n t.1 t.2) h
theorem Ff.s (hmix : Tryd.prog.follows .mixedOrders = true) (n : Nat) : CalleeS Tryd.prog abiG 93 (Ff.c n) :=
  .mk1 (res := Ff.res) (shape := Ff.shape) (fun R u K => rfl) (fun _ _ _ h => by unfold Ff.pat at h; split at h <;> cases h; rfl) (fun t u h => Ff.call hmix n t u h) Tryd.func93 (by decide) (by kernel_rfl)
end
section
noncomputable abbrev Fas.R0 (n : Nat) := roundOf (Fas.C n) (Fas.A n) n Fas.b0
theorem Fas.l4_0.rmap {α β : Type} (h : β → α) (mk0 : LI → LI → β) (n : Nat) (f : Int → Int → LI → LI → LI → Option β)  (x0 : Int) (x1 : Int) (x2 : LI) (x3 : LI) (x4 : LI) : Fas.l4_0.r (fun a0 a1 => (h (mk0 a0 a1))) n (fun y0 y1 y2 y3 y4 => (f y0 y1 y2 y3 y4).map h) x0 x1 x2 x3 x4 = (Fas.l4_0.r mk0 n f x0 x1 x2 x3 x4).map h := by
  unfold Fas.l4_0.r
  exact (ite_map (ite_map (ite_map (ite_map (ite_map (ite_map (ite_map (ite_map rfl rfl) rfl) rfl) rfl) rfl) rfl) rfl) rfl)
theorem Fas.l4_0.gmap {α β : Type} (h : β → α) (mk0 : LI → LI → β) (n : Nat) : ∀ (m : Nat) (x0 : Int) (x1 : Int) (x2 : LI) (x3 : LI) (x4 : LI), Fas.l4_0.g (fun a0 a1 => (h (mk0 a0 a1))) n m x0 x1 x2 x3 x4 = (Fas.l4_0.g mk0 n m x0 x1 x2 x3 x4).map h
  | 0, _, _, _, _, _ => rfl
  | m + 1, x0, x1, x2, x3, x4 => by
    unfold Fas.l4_0.g
    rw [← Fas.l4_0.rmap]
    congr
    · funext y0 y1 y2 y3 y4; exact Fas.l4_0.gmap h mk0 n m y0 y1 y2 y3 y4
theorem Fas.l4_0.pat_shape : ∀ st t, Fas.l4_0.pat st = some t → st = Fas.l4_0.shape t := fun _ _ h => by unfold Fas.l4_0.pat at h; split at h <;> cases h; rfl
def Fas.l4_0.k0 : LI → LI → Ex × St := (fun a0 a1 => ((Prod.mk (.exit 0) (St.mk [(.ptr 0 []), (.ptr 1 [])] [(some (.var (.ints .u64 4 a0))), (some (.var (.ints .u64 4 a1)))])) : Ex × St))
theorem Fas.l4_0.round (n : Nat) (rc : St → Option (Ex × St)) (x0 : Int) (x1 : Int) (x2 : LI) (x3 : LI) (x4 : LI) : Fas.R0 n rc ((St.mk [(.int .i64 x0), (.int .i64 x1), (.ptr 0 []), (.rints .u8 x2), (.ptr 1 [])] [(some (.var (.ints .u64 4 x3))), (some (.var (.ints .u64 4 x4)))])) = Fas.l4_0.r Fas.l4_0.k0 n (fun y0 y1 y2 y3 y4 => rc ((St.mk [(.int .i64 y0), (.int .i64 y1), (.ptr 0 []), (.rints .u8 y2), (.ptr 1 [])] [(some (.var (.ints .u64 4 y3))), (some (.var (.ints .u64 4 y4)))]))) x0 x1 x2 x3 x4 := by kernel_rfl
theorem Fas.l4_0.loop' (n : Nat) : ∀ (m : Nat) (t : (Int × (Int × (LI × (LI × LI))))), loopOf (Fas.R0 n) m (Fas.l4_0.shape t) = Fas.l4_0.g Fas.l4_0.k0 n m t.1 t.2.1 t.2.2.1 t.2.2.2.1 t.2.2.2.2 :=
  loop_of_round (shape := Fas.l4_0.shape) (body := Fas.R0 n) (g := fun m t => Fas.l4_0.g Fas.l4_0.k0 n m t.1 t.2.1 t.2.2.1 t.2.2.2.1 t.2.2.2.2) (fun t => rfl)
    fun m t ih => (Fas.l4_0.round n (loopOf (Fas.R0 n) m) t.1 t.2.1 t.2.2.1 t.2.2.2.1 t.2.2.2.2).trans (congrFun (congrFun (congrFun (congrFun (congrFun (congrArg (Fas.l4_0.r Fas.l4_0.k0 n) (funext fun y0 => funext fun y1 => funext fun y2 => funext fun y3 => funext fun y4 => ih (y0, y1, y2, y3, y4))) t.1) t.2.1) t.2.2.1) t.2.2.2.1) t.2.2.2.2)
theorem Fas.l4_0.loop (n m : Nat) (t : (Int × (Int × (LI × (LI × LI))))) : loopOf (Fas.R0 n) m (Fas.l4_0.shape t) = (Fas.l4_0.m n m t).map Fas.l4_0.res :=
  (Fas.l4_0.loop' n m t).trans (Fas.l4_0.gmap Fas.l4_0.res (fun a0 a1 => (a0, a1)) n m t.1 t.2.1 t.2.2.1 t.2.2.2.1 t.2.2.2.2)
theorem Fas.gmap {α β : Type} (h : β → α) (mk0 : LI → β) (n : Nat) (a0 : LI) : Fas.g (fun a0 => (h (mk0 a0))) n a0 = (Fas.g mk0 n a0).map h := by
  unfold Fas.g
  exact (ite_map (ite_map (bindO_map fun r6 => rfl) rfl) rfl)
theorem Fas.run (n : Nat) (a0 : LI) : runF (Fas.C n) (Fas.A n) n Tryd.f89 [(.rints .u8 a0)] [] (fun v o => some (v, o)) = Fas.g (fun a0 => ((Prod.mk (.ints .u64 4 a0) []) : AV × Blks)) n a0 := by kernel_rfl
theorem Fas.call (hmix : Tryd.prog.follows .mixedOrders = true) (n : Nat) (t : LI) (u) (h : Fas.m n t = some u) : FnC Tryd.prog abiG 89 (Fas.shape t).1 (Fas.shape t).2 (Fas.res u).1 (Fas.res u).2 :=
  fnC1 (C := Fas.C n) (A := Fas.A n) (fn := Tryd.f89) rfl .nil hmix Tryd.func89 (by kernel_rfl) (lp := [Fas.b0]) (by kernel_rfl) (.cons (show (Fas.A n).loop (key Fas.b0) = some (.mk' Fas.l4_0.pat (Fas.l4_0.m n n) Fas.l4_0.resK) by kernel_rfl) (LoopS.of (res := Fas.l4_0.res) (fun R u K => rfl) Fas.l4_0.pat_shape fun t => Fas.l4_0.loop n n t)
  .nil)
  (nj rfl) (by decide) rfl rfl (by show 1 ≤ Tryd.f89.ntmps; decide) (Fas.run n t) (Fas.gmap Fas.res (fun a0 => a0) n t) h
theorem Fas.s (hmix : Tryd.prog.follows .mixedOrders = true) (n : Nat) : CalleeS Tryd.prog abiG 89 (Fas.c n) :=
  .mk1 (res := Fas.res) (shape := Fas.shape) (fun R u K => rfl) (fun _ _ _ h => by unfold Fas.pat at h; split at h <;> cases h; rfl) (fun t u h => Fas.call hmix n t u h) Tryd.func89 (by decide) (by kernel_rfl)
end
section
noncomputable abbrev Fad.R0 (n : Nat) := roundOf (Fad.C n) (Fad.A n) n Fad.b0
noncomputable abbrev Fad.R1 (n : Nat) := roundOf (Fad.C n) (Fad.A n) n Fad.b1
theorem Fad.l2_0.rmap {α β : Type} (h : β → α) (mk0 : LI → LI → LI → β) (n : Nat) (f : LI → LI → LI → Option β)  (x0 : LI) (x1 : LI) (x2 : LI) : Fad.l2_0.r (fun a0 a1 a2 => (h (mk0 a0 a1 a2))) n (fun y0 y1 y2 => (f y0 y1 y2).map h) x0 x1 x2 = (Fad.l2_0.r mk0 n f x0 x1 x2).map h := by
  unfold Fad.l2_0.r
  exact (ite_map (ite_map (bindO_map fun r8 => (ite_map rfl rfl)) rfl) rfl)
theorem Fad.l2_0.gmap {α β : Type} (h : β → α) (mk0 : LI → LI → LI → β) (n : Nat) : ∀ (m : Nat) (x0 : LI) (x1 : LI) (x2 : LI), Fad.l2_0.g (fun a0 a1 a2 => (h (mk0 a0 a1 a2))) n m x0 x1 x2 = (Fad.l2_0.g mk0 n m x0 x1 x2).map h
  | 0, _, _, _ => rfl
  | m + 1, x0, x1, x2 => by
    unfold Fad.l2_0.g
    rw [← Fad.l2_0.rmap]
    congr
    · funext y0 y1 y2; exact Fad.l2_0.gmap h mk0 n m y0 y1 y2
theorem Fad.l2_0.pat_shape : ∀ st t, Fad.l2_0.pat st = some t → st = Fad.l2_0.shape t := fun _ _ h => by unfold Fad.l2_0.pat at h; split at h <;> cases h; rfl
def Fad.l2_0.k0 : LI → LI → LI → Ex × St := (fun a0 a1 a2 => ((Prod.mk (.exit 0) (St.mk [(.rints .u8 a0), (.ptr 0 []), (.ptr 1 [])] [(some (.var (.ints .u64 25 a1))), (some (.var (.ints .u64 4 a2)))])) : Ex × St))
theorem Fad.l2_0.round (n : Nat) (rc : St → Option (Ex × St)) (x0 : LI) (x1 : LI) (x2 : LI) : Fad.R0 n rc ((St.mk [(.rints .u8 x0), (.ptr 0 []), (.ptr 1 [])] [(some (.var (.ints .u64 25 x1))), (some (.var (.ints .u64 4 x2)))])) = Fad.l2_0.r Fad.l2_0.k0 n (fun y0 y1 y2 => rc ((St.mk [(.rints .u8 y0), (.ptr 0 []), (.ptr 1 [])] [(some (.var (.ints .u64 25 y1))), (some (.var (.ints .u64 4 y2)))]))) x0 x1 x2 := by kernel_rfl
theorem Fad.l2_0.loop' (n : Nat) : ∀ (m : Nat) (t : (LI × (LI × LI))), loopOf (Fad.R0 n) m (Fad.l2_0.shape t) = Fad.l2_0.g Fad.l2_0.k0 n m t.1 t.2.1 t.2.2 :=
  loop_of_round (shape := Fad.l2_0.shape) (body := Fad.R0 n) (g := fun m t => Fad.l2_0.g Fad.l2_0.k0 n m t.1 t.2.1 t.2.2) (fun t => rfl)
    fun m t ih => (Fad.l2_0.round n (loopOf (Fad.R0 n) m) t.1 t.2.1 t.2.2).trans (congrFun (congrFun (congrFun (congrArg (Fad.l2_0.r Fad.l2_0.k0 n) (funext fun y0 => funext fun y1 => funext fun y2 => ih (y0, y1, y2))) t.1) t.2.1) t.2.2)
theorem Fad.l2_0.loop (n m : Nat) (t : (LI × (LI × LI))) : loopOf (Fad.R0 n) m (Fad.l2_0.shape t) = (Fad.l2_0.m n m t).map Fad.l2_0.res :=
  (Fad.l2_0.loop' n m t).trans (Fad.l2_0.gmap Fad.l2_0.res (fun a0 a1 a2 => (a0, a1, a2)) n m t.1 t.2.1 t.2.2)
theorem Fad.l12_0.rmap {α β : Type} (h : β → α) (mk0 : LI → LI → β) (n : Nat) (f : Int → LI → LI → LI → Option β)  (x0 : Int) (x1 : LI) (x2 : LI) (x3 : LI) : Fad.l12_0.r (fun a0 a1 => (h (mk0 a0 a1))) n (fun y0 y1 y2 y3 => (f y0 y1 y2 y3).map h) x0 x1 x2 x3 = (Fad.l12_0.r mk0 n f x0 x1 x2 x3).map h := by
  unfold Fad.l12_0.r
  exact (ite_map (ite_map (ite_map (ite_map (ite_map (ite_map rfl rfl) rfl) rfl) rfl) rfl) rfl)
theorem Fad.l12_0.gmap {α β : Type} (h : β → α) (mk0 : LI → LI → β) (n : Nat) : ∀ (m : Nat) (x0 : Int) (x1 : LI) (x2 : LI) (x3 : LI), Fad.l12_0.g (fun a0 a1 => (h (mk0 a0 a1))) n m x0 x1 x2 x3 = (Fad.l12_0.g mk0 n m x0 x1 x2 x3).map h
  | 0, _, _, _, _ => rfl
  | m + 1, x0, x1, x2, x3 => by
    unfold Fad.l12_0.g
    rw [← Fad.l12_0.rmap]
    congr
    · funext y0 y1 y2 y3; exact Fad.l12_0.gmap h mk0 n m y0 y1 y2 y3
theorem Fad.l12_0.pat_shape : ∀ st t, Fad.l12_0.pat st = some t → st = Fad.l12_0.shape t := fun _ _ h => by unfold Fad.l12_0.pat at h; split at h <;> cases h; rfl
def Fad.l12_0.k0 : LI → LI → Ex × St := (fun a0 a1 => ((Prod.mk (.exit 2) (St.mk [(.ptr 0 []), (.ptr 1 [])] [(some (.var (.ints .u8 32 a0))), (some (.var (.ints .u64 4 a1)))])) : Ex × St))
theorem Fad.l12_0.round (n : Nat) (rc : St → Option (Ex × St)) (x0 : Int) (x1 : LI) (x2 : LI) (x3 : LI) : Fad.R1 n rc ((St.mk [(.int .i64 x0), (.ptr 0 []), (.ptr 1 []), (.ptr 2 [])] [(some (.var (.ints .u64 25 x1))), (some (.var (.ints .u8 32 x2))), (some (.var (.ints .u64 4 x3)))])) = Fad.l12_0.r Fad.l12_0.k0 n (fun y0 y1 y2 y3 => rc ((St.mk [(.int .i64 y0), (.ptr 0 []), (.ptr 1 []), (.ptr 2 [])] [(some (.var (.ints .u64 25 y1))), (some (.var (.ints .u8 32 y2))), (some (.var (.ints .u64 4 y3)))]))) x0 x1 x2 x3 := by kernel_rfl
theorem Fad.l12_0.loop' (n : Nat) : ∀ (m : Nat) (t : (Int × (LI × (LI × LI)))), loopOf (Fad.R1 n) m (Fad.l12_0.shape t) = Fad.l12_0.g Fad.l12_0.k0 n m t.1 t.2.1 t.2.2.1 t.2.2.2 :=
  loop_of_round (shape := Fad.l12_0.shape) (body := Fad.R1 n) (g := fun m t => Fad.l12_0.g Fad.l12_0.k0 n m t.1 t.2.1 t.2.2.1 t.2.2.2) (fun t => rfl)
    fun m t ih => (Fad.l12_0.round n (loopOf (Fad.R1 n) m) t.1 t.2.1 t.2.2.1 t.2.2.2).trans (congrFun (congrFun (congrFun (congrFun (congrArg (Fad.l12_0.r Fad.l12_0.k0 n) (funext fun y0 => funext fun y1 => funext fun y2 => funext fun y3 => ih (y0, y1, y2, y3))) t.1) t.2.1) t.2.2.1) t.2.2.2)
theorem Fad.l12_0.loop (n m : Nat) (t : (Int × (LI × (LI × LI)))) : loopOf (Fad.R1 n) m (Fad.l12_0.shape t) = (Fad.l12_0.m n m t).map Fad.l12_0.res :=
  (Fad.l12_0.loop' n m t).trans (Fad.l12_0.gmap Fad.l12_0.res (fun a0 a1 => (a0, a1)) n m t.1 t.2.1 t.2.2.1 t.2.2.2)
theorem Fad.gmap {α β : Type} (h : β → α) (mk0 : LI → β) (n : Nat) (a0 : LI) : Fad.g (fun a0 => (h (mk0 a0))) n a0 = (Fad.g mk0 n a0).map h := by
  unfold Fad.g
  exact (bindO_map fun r2 => (ite_map (ite_map (bindO_map fun r8 => (bindO_map fun r10 => (bindO_map fun r12 => rfl))) rfl) rfl))
theorem Fad.run (n : Nat) (a0 : LI) : runF (Fad.C n) (Fad.A n) n Tryd.f57 [(.rints .u8 a0)] [] (fun v o => some (v, o)) = Fad.g (fun a0 => ((Prod.mk (.ints .u64 4 a0) []) : AV × Blks)) n a0 := by kernel_rfl
theorem Fad.call (hmix : Tryd.prog.follows .mixedOrders = true) (n : Nat) (t : LI) (u) (h : Fad.m n t = some u) : FnC Tryd.prog abiG 57 (Fad.shape t).1 (Fad.shape t).2 (Fad.res u).1 (Fad.res u).2 :=
  fnC1 (C := Fad.C n) (A := Fad.A n) (fn := Tryd.f57) rfl (.cons (Ff.s hmix n) (.cons (Fas.s hmix n) .nil)) hmix Tryd.func57 (by kernel_rfl) (lp := [Fad.b0, Fad.b1]) (by kernel_rfl) (.cons (show (Fad.A n).loop (key Fad.b0) = some (.mk' Fad.l2_0.pat (Fad.l2_0.m n n) Fad.l2_0.resK) by kernel_rfl) (LoopS.of (res := Fad.l2_0.res) (fun R u K => rfl) Fad.l2_0.pat_shape fun t => Fad.l2_0.loop n n t)
  (.cons (show (Fad.A n).loop (key Fad.b1) = some (.mk' Fad.l12_0.pat (Fad.l12_0.m n n) Fad.l12_0.resK) by kernel_rfl) (LoopS.of (res := Fad.l12_0.res) (fun R u K => rfl) Fad.l12_0.pat_shape fun t => Fad.l12_0.loop n n t)
  .nil))
  (nj rfl) (by decide) rfl rfl (by show 1 ≤ Tryd.f57.ntmps; decide) (Fad.run n t) (Fad.gmap Fad.res (fun a0 => a0) n t) h
theorem Fad.s (hmix : Tryd.prog.follows .mixedOrders = true) (n : Nat) : CalleeS Tryd.prog abiG 57 (Fad.c n) :=
  .mk1 (res := Fad.res) (shape := Fad.shape) (fun R u K => rfl) (fun _ _ _ h => by unfold Fad.pat at h; split at h <;> cases h; rfl) (fun t u h => Fad.call hmix n t u h) Tryd.func57 (by decide) (by kernel_rfl)
end
section
noncomputable section
noncomputable def Fbd.C (n : Nat) : Ctx := ⟨Tryd.prog, abiG, lookC [], fun _ => false⟩
def Fbd.live : NL := fun k => match k with
 | 4 => ([5, 4, 3, 0, 2], [3, 2])
 | _ => ([], [])
def Fbd.l4_0.r {α : Type} (mk0 : LI → LI → α) (n : Nat) (rc : Int → Int → LI → LI → LI → Option α)  (x0 : Int) (x1 : Int) (x2 : LI) (x3 : LI) (x4 : LI) : Option α :=
  if (decide (x0 < 32)) = true then
   if (decide (x0 < x1)) = true then
    if 0 ≤ (IntKind.wrap .i64 (Int.tdiv x0 8)) then
     if (IntKind.wrap .i64 (Int.tdiv x0 8)) < 4 then
      if 0 ≤ (IntKind.wrap .i64 ((IntKind.wrap .i64 (x1 - 1)) - x0)) then
       if (IntKind.wrap .i64 ((IntKind.wrap .i64 (x1 - 1)) - x0)) < (((List.length x2) : Nat) : Int) then
        if 0 ≤ (IntKind.wrap .u64 (IntKind.wrap .i64 ((Int.tmod x0 8) * 8))) then
         if 0 ≤ (IntKind.wrap .i64 (Int.tdiv x0 8)) then
          if (IntKind.wrap .i64 (Int.tdiv x0 8)) < 4 then
           rc (IntKind.wrap .i64 (x0 + 1)) x1 x2 (List.set x3 (Int.toNat (IntKind.wrap .i64 (Int.tdiv x0 8))) (ibits BinOp.or .u64 (List.getD x3 (Int.toNat (IntKind.wrap .i64 (Int.tdiv x0 8))) 0) (ishl .u64 (IntKind.wrap .u64 (List.getD x2 (Int.toNat (IntKind.wrap .i64 ((IntKind.wrap .i64 (x1 - 1)) - x0))) 0)) (IntKind.wrap .u64 (IntKind.wrap .i64 ((Int.tmod x0 8) * 8)))))) x4
          else
           none
         else
          none
        else
         none
       else
        none
      else
       none
     else
      none
    else
     none
   else
    some (mk0 x3 x4)
  else
   some (mk0 x3 x4)
def Fbd.l4_0.g {α : Type} (mk0 : LI → LI → α) (n : Nat) : Nat → Int → Int → LI → LI → LI → Option α
 | 0, _, _, _, _, _ => none
 | m + 1, x0, x1, x2, x3, x4 => Fbd.l4_0.r mk0 n (fun y0 y1 y2 y3 y4 => Fbd.l4_0.g mk0 n m y0 y1 y2 y3 y4)  x0 x1 x2 x3 x4
def Fbd.l4_0.m (n m : Nat) (t : (Int × (Int × (LI × (LI × LI))))) : Option (LI × LI) := Fbd.l4_0.g (fun a0 a1 => (a0, a1)) n m t.1 t.2.1 t.2.2.1 t.2.2.2.1 t.2.2.2.2
def Fbd.l4_0.pat : St → Option (Int × (Int × (LI × (LI × LI))))
 | (St.mk [(.int .i64 x0), (.int .i64 x1), (.ptr 0 []), (.rints .u8 x2), (.ptr 1 [])] [(some (.var (.ints .u64 4 x3))), (some (.var (.ints .u64 4 x4)))]) => some (x0, x1, x2, x3, x4)
 | _ => none
def Fbd.l4_0.shape (t : (Int × (Int × (LI × (LI × LI))))) : St := (St.mk [(.int .i64 t.1), (.int .i64 t.2.1), (.ptr 0 []), (.rints .u8 t.2.2.1), (.ptr 1 [])] [(some (.var (.ints .u64 4 t.2.2.2.1))), (some (.var (.ints .u64 4 t.2.2.2.2)))])
def Fbd.l4_0.res : (LI × LI) → Ex × St
 | u => (Prod.mk (.exit 0) (St.mk [(.ptr 0 []), (.ptr 1 [])] [(some (.var (.ints .u64 4 u.1))), (some (.var (.ints .u64 4 u.2)))]))
def Fbd.l4_0.resK {R : Type} (u : (LI × LI)) (K : Ex → St → Option R) : Option R := K (Fbd.l4_0.res u).1 (Fbd.l4_0.res u).2
noncomputable def Fbd.A (n : Nat) : Ann := ⟨Tryd.f65.ntmps, 0, Fbd.live, [(0, (.ints .u8))], [none], fun k => match k with
 | 4 => some (.mk' Fbd.l4_0.pat (Fbd.l4_0.m n n) Fbd.l4_0.resK)
 | _ => none, noNL, lookJ []⟩
noncomputable def Fbd.b0 : Code := (loopsIn (Tryd.f65.body.getD .skip)).getD 0 .skip
def Fbd.g {α : Type} (mk0 : LI → α) (n : Nat) (a0 : LI) : Option α :=
 bindO (Fbd.l4_0.m n n (0, (((List.length a0) : Nat) : Int), a0, [0, 0, 0, 0], [0, 0, 0, 0])) fun r2 =>
  some (mk0 (Prod.fst r2))
def Fbd.m (n : Nat) (t : LI) : Option LI := Fbd.g (fun a0 => a0) n t
def Fbd.pat : List AV → Blks → Option LI
 | [(.rints .u8 a0)], [] => some a0
 | _, _ => none
def Fbd.shape (t : LI) : List AV × Blks := ([(.rints .u8 t)], [])
def Fbd.res : LI → AV × Blks
 | u => (Prod.mk (.ints .u64 4 u) [])
def Fbd.resK {R : Type} (u : LI) (K : AV → Blks → Option R) : Option R := K (Fbd.res u).1 (Fbd.res u).2
def Fbd.c (n : Nat) : Abs.Callee := .mk' [] [(some (.ints .u8))] Fbd.pat (Fbd.m n) Fbd.resK
end
end
section
noncomputable section
noncomputable def Fbw.C (n : Nat) : Ctx := ⟨Tryd.prog, abiG, lookC [(96, Far.c n), (97, Fbc.c n), (98, Fbv.c n), (65, Fbd.c n)], fun _ => false⟩
def Fbw.live : NL := fun k => match k with
 | 4 => ([3, 2], [3, 2])
 | 11 => ([7, 3, 6, 4, 5, 2], [6, 2])
 | 14 => ([8, 6, 3, 7, 4, 5, 2], [6, 4, 5, 7, 3, 2])
 | 17 => ([9, 6, 8, 3, 7, 4, 5, 2], [8, 6, 3, 7, 4, 5, 2])
 | 23 => ([11, 10, 6, 2], [10, 2])
 | 26 => ([12, 10, 6, 11, 2], [11, 10, 6, 2])
 | _ => ([], [])
def Fbw.l4_0.r {α : Type} (mk0 : LI → LI → α) (n : Nat) (rc : LI → LI → Option α)  (x0 : LI) (x1 : LI) : Option α :=
  if ((Int.tmod (((List.length x0) : Nat) : Int) 136) != 0) = true then
   if ((((List.length x0) + 1) * 1) ≤ 70368744177664 ∧ ((List.length x0) + 1) ≤ 9223372036854775807) then
    rc (x0 ++ [0]) x1
   else
    none
  else
   some (mk0 x0 x1)
def Fbw.l4_0.g {α : Type} (mk0 : LI → LI → α) (n : Nat) : Nat → LI → LI → Option α
 | 0, _, _ => none
 | m + 1, x0, x1 => Fbw.l4_0.r mk0 n (fun y0 y1 => Fbw.l4_0.g mk0 n m y0 y1)  x0 x1
def Fbw.l4_0.m (n m : Nat) (t : (LI × LI)) : Option (LI × LI) := Fbw.l4_0.g (fun a0 a1 => (a0, a1)) n m t.1 t.2
def Fbw.l4_0.pat : St → Option (LI × LI)
 | (St.mk [(.own 0 1), (.ptr 1 [])] [(some (.ints .u8 x0)), (some (.var (.ints .u64 4 x1)))]) => some (x0, x1)
 | _ => none
def Fbw.l4_0.shape (t : (LI × LI)) : St := (St.mk [(.own 0 1), (.ptr 1 [])] [(some (.ints .u8 t.1)), (some (.var (.ints .u64 4 t.2)))])
def Fbw.l4_0.res : (LI × LI) → Ex × St
 | u => (Prod.mk (.exit 0) (St.mk [(.own 0 1), (.ptr 1 [])] [(some (.ints .u8 u.1)), (some (.var (.ints .u64 4 u.2)))]))
def Fbw.l4_0.resK {R : Type} (u : (LI × LI)) (K : Ex → St → Option R) : Option R := K (Fbw.l4_0.res u).1 (Fbw.l4_0.res u).2
def Fbw.l17_0.r {α : Type} (mk0 : Int → Int → LI → LI → LI → LI → LI → α) (n : Nat) (rc : Int → Int → Int → LI → LI → LI → LI → LI → Option α)  (x0 : Int) (x1 : Int) (x2 : Int) (x3 : LI) (x4 : LI) (x5 : LI) (x6 : LI) (x7 : LI) : Option α :=
  if (decide (x0 < 8)) = true then
   if 0 ≤ x1 then
    if x1 < (((List.length x3) : Nat) : Int) then
     if 0 ≤ (IntKind.wrap .i64 ((IntKind.wrap .i64 (x2 + (IntKind.wrap .i64 (8 * x1)))) + x0)) then
      if (IntKind.wrap .i64 ((IntKind.wrap .i64 (x2 + (IntKind.wrap .i64 (8 * x1)))) + x0)) < (((List.length x4) : Nat) : Int) then
       if 0 ≤ (IntKind.wrap .u64 (IntKind.wrap .i64 (8 * x0))) then
        if 0 ≤ x1 then
         if x1 < (((List.length x3) : Nat) : Int) then
          rc (IntKind.wrap .i64 (x0 + 1)) x1 x2 (List.set x3 (Int.toNat x1) (ibits BinOp.xor .u64 (List.getD x3 (Int.toNat x1) 0) (ishl .u64 (IntKind.wrap .u64 (List.getD x4 (Int.toNat (IntKind.wrap .i64 ((IntKind.wrap .i64 (x2 + (IntKind.wrap .i64 (8 * x1)))) + x0))) 0)) (IntKind.wrap .u64 (IntKind.wrap .i64 (8 * x0)))))) x4 x5 x6 x7
         else
          none
        else
         none
       else
        none
      else
       none
     else
      none
    else
     none
   else
    none
  else
   some (mk0 x1 x2 x3 x4 x5 x6 x7)
def Fbw.l17_0.g {α : Type} (mk0 : Int → Int → LI → LI → LI → LI → LI → α) (n : Nat) : Nat → Int → Int → Int → LI → LI → LI → LI → LI → Option α
 | 0, _, _, _, _, _, _, _, _ => none
 | m + 1, x0, x1, x2, x3, x4, x5, x6, x7 => Fbw.l17_0.r mk0 n (fun y0 y1 y2 y3 y4 y5 y6 y7 => Fbw.l17_0.g mk0 n m y0 y1 y2 y3 y4 y5 y6 y7)  x0 x1 x2 x3 x4 x5 x6 x7
def Fbw.l17_0.m (n m : Nat) (t : (Int × (Int × (Int × (LI × (LI × (LI × (LI × LI)))))))) : Option (Int × (Int × (LI × (LI × (LI × (LI × LI)))))) := Fbw.l17_0.g (fun a0 a1 a2 a3 a4 a5 a6 => (a0, a1, a2, a3, a4, a5, a6)) n m t.1 t.2.1 t.2.2.1 t.2.2.2.1 t.2.2.2.2.1 t.2.2.2.2.2.1 t.2.2.2.2.2.2.1 t.2.2.2.2.2.2.2
def Fbw.l17_0.pat : St → Option (Int × (Int × (Int × (LI × (LI × (LI × (LI × LI)))))))
 | (St.mk [(.int .i64 x0), (.own 0 1), (.int .i64 x1), (.own 1 1), (.int .i64 x2), (.own 2 1), (.own 3 1), (.ptr 4 [])] [(some (.ints .u64 x3)), (some (.ints .u8 x4)), (some (.ints .i64 x5)), (some (.ints .u64 x6)), (some (.var (.ints .u64 4 x7)))]) => some (x0, x1, x2, x3, x4, x5, x6, x7)
 | _ => none
def Fbw.l17_0.shape (t : (Int × (Int × (Int × (LI × (LI × (LI × (LI × LI)))))))) : St := (St.mk [(.int .i64 t.1), (.own 0 1), (.int .i64 t.2.1), (.own 1 1), (.int .i64 t.2.2.1), (.own 2 1), (.own 3 1), (.ptr 4 [])] [(some (.ints .u64 t.2.2.2.1)), (some (.ints .u8 t.2.2.2.2.1)), (some (.ints .i64 t.2.2.2.2.2.1)), (some (.ints .u64 t.2.2.2.2.2.2.1)), (some (.var (.ints .u64 4 t.2.2.2.2.2.2.2)))])
def Fbw.l17_0.res : (Int × (Int × (LI × (LI × (LI × (LI × LI)))))) → Ex × St
 | u => (Prod.mk (.exit 6) (St.mk [(.int .i64 u.1), (.own 0 1), (.own 1 1), (.int .i64 u.2.1), (.own 2 1), (.own 3 1), (.ptr 4 [])] [(some (.ints .u64 u.2.2.1)), (some (.ints .u8 u.2.2.2.1)), (some (.ints .i64 u.2.2.2.2.1)), (some (.ints .u64 u.2.2.2.2.2.1)), (some (.var (.ints .u64 4 u.2.2.2.2.2.2)))]))
def Fbw.l17_0.resK {R : Type} (u : (Int × (Int × (LI × (LI × (LI × (LI × LI))))))) (K : Ex → St → Option R) : Option R := K (Fbw.l17_0.res u).1 (Fbw.l17_0.res u).2
def Fbw.l14_0.r {α : Type} (mk0 : Int → LI → LI → LI → LI → LI → α) (n : Nat) (rc : Int → Int → LI → LI → LI → LI → LI → Option α)  (x0 : Int) (x1 : Int) (x2 : LI) (x3 : LI) (x4 : LI) (x5 : LI) (x6 : LI) : Option α :=
  if (decide (x0 < 17)) = true then
   bindO (Fbw.l17_0.m n n (0, x0, x1, x2, x3, x4, x5, x6)) fun r6 =>
    rc (IntKind.wrap .i64 ((Prod.fst r6) + 1)) (Prod.fst r6.2) (Prod.fst (Prod.snd r6).2) (Prod.fst (Prod.snd r6.2).2) (Prod.fst (Prod.snd (Prod.snd r6).2).2) (Prod.fst (Prod.snd (Prod.snd r6.2).2).2) (Prod.snd (Prod.snd (Prod.snd r6.2).2).2)
  else
   some (mk0 x1 x2 x4 x5 x3 x6)
def Fbw.l14_0.g {α : Type} (mk0 : Int → LI → LI → LI → LI → LI → α) (n : Nat) : Nat → Int → Int → LI → LI → LI → LI → LI → Option α
 | 0, _, _, _, _, _, _, _ => none
 | m + 1, x0, x1, x2, x3, x4, x5, x6 => Fbw.l14_0.r mk0 n (fun y0 y1 y2 y3 y4 y5 y6 => Fbw.l14_0.g mk0 n m y0 y1 y2 y3 y4 y5 y6)  x0 x1 x2 x3 x4 x5 x6
def Fbw.l14_0.m (n m : Nat) (t : (Int × (Int × (LI × (LI × (LI × (LI × LI))))))) : Option (Int × (LI × (LI × (LI × (LI × LI))))) := Fbw.l14_0.g (fun a0 a1 a2 a3 a4 a5 => (a0, a1, a2, a3, a4, a5)) n m t.1 t.2.1 t.2.2.1 t.2.2.2.1 t.2.2.2.2.1 t.2.2.2.2.2.1 t.2.2.2.2.2.2
def Fbw.l14_0.pat : St → Option (Int × (Int × (LI × (LI × (LI × (LI × LI))))))
 | (St.mk [(.int .i64 x0), (.own 0 1), (.own 1 1), (.int .i64 x1), (.own 2 1), (.own 3 1), (.ptr 4 [])] [(some (.ints .u64 x2)), (some (.ints .u8 x3)), (some (.ints .i64 x4)), (some (.ints .u64 x5)), (some (.var (.ints .u64 4 x6)))]) => some (x0, x1, x2, x3, x4, x5, x6)
 | _ => none
def Fbw.l14_0.shape (t : (Int × (Int × (LI × (LI × (LI × (LI × LI))))))) : St := (St.mk [(.int .i64 t.1), (.own 0 1), (.own 1 1), (.int .i64 t.2.1), (.own 2 1), (.own 3 1), (.ptr 4 [])] [(some (.ints .u64 t.2.2.1)), (some (.ints .u8 t.2.2.2.1)), (some (.ints .i64 t.2.2.2.2.1)), (some (.ints .u64 t.2.2.2.2.2.1)), (some (.var (.ints .u64 4 t.2.2.2.2.2.2)))])
def Fbw.l14_0.res : (Int × (LI × (LI × (LI × (LI × LI))))) → Ex × St
 | u => (Prod.mk (.exit 4) (St.mk [(.own 0 1), (.own 1 1), (.own 2 1), (.int .i64 u.1), (.own 3 1), (.ptr 4 [])] [(some (.ints .u64 u.2.1)), (some (.ints .i64 u.2.2.1)), (some (.ints .u64 u.2.2.2.1)), (some (.ints .u8 u.2.2.2.2.1)), (some (.var (.ints .u64 4 u.2.2.2.2.2)))]))
def Fbw.l14_0.resK {R : Type} (u : (Int × (LI × (LI × (LI × (LI × LI)))))) (K : Ex → St → Option R) : Option R := K (Fbw.l14_0.res u).1 (Fbw.l14_0.res u).2
def Fbw.l11_0.r {α : Type} (mk0 : LI → LI → α) (n : Nat) (rc : Int → LI → LI → LI → LI → LI → Option α)  (x0 : Int) (x1 : LI) (x2 : LI) (x3 : LI) (x4 : LI) (x5 : LI) : Option α :=
  if (decide (x0 < (((List.length x1) : Nat) : Int))) = true then
   bindO (Fbw.l14_0.m n n (0, x0, x2, x1, x3, x4, x5)) fun r6 =>
    bindO (Fbv.m n (Prod.mk (Prod.fst r6.2) (Prod.mk (Prod.fst (Prod.snd r6).2) (Prod.fst (Prod.snd r6.2).2)))) fun r8 => match r8 with
     | (.inl r8) =>
      rc (IntKind.wrap .i64 ((Prod.fst r6) + 136)) (Prod.fst (Prod.snd (Prod.snd r6).2).2) r8 (Prod.fst (Prod.snd r6).2) (Prod.fst (Prod.snd r6.2).2) (Prod.snd (Prod.snd (Prod.snd r6).2).2)
     | (.inr r8) =>
      none
  else
   some (mk0 x2 x5)
def Fbw.l11_0.g {α : Type} (mk0 : LI → LI → α) (n : Nat) : Nat → Int → LI → LI → LI → LI → LI → Option α
 | 0, _, _, _, _, _, _ => none
 | m + 1, x0, x1, x2, x3, x4, x5 => Fbw.l11_0.r mk0 n (fun y0 y1 y2 y3 y4 y5 => Fbw.l11_0.g mk0 n m y0 y1 y2 y3 y4 y5)  x0 x1 x2 x3 x4 x5
def Fbw.l11_0.m (n m : Nat) (t : (Int × (LI × (LI × (LI × (LI × LI)))))) : Option (LI × LI) := Fbw.l11_0.g (fun a0 a1 => (a0, a1)) n m t.1 t.2.1 t.2.2.1 t.2.2.2.1 t.2.2.2.2.1 t.2.2.2.2.2
def Fbw.l11_0.pat : St → Option (Int × (LI × (LI × (LI × (LI × LI)))))
 | (St.mk [(.int .i64 x0), (.own 0 1), (.own 1 1), (.own 2 1), (.own 3 1), (.ptr 4 [])] [(some (.ints .u8 x1)), (some (.ints .u64 x2)), (some (.ints .i64 x3)), (some (.ints .u64 x4)), (some (.var (.ints .u64 4 x5)))]) => some (x0, x1, x2, x3, x4, x5)
 | _ => none
def Fbw.l11_0.shape (t : (Int × (LI × (LI × (LI × (LI × LI)))))) : St := (St.mk [(.int .i64 t.1), (.own 0 1), (.own 1 1), (.own 2 1), (.own 3 1), (.ptr 4 [])] [(some (.ints .u8 t.2.1)), (some (.ints .u64 t.2.2.1)), (some (.ints .i64 t.2.2.2.1)), (some (.ints .u64 t.2.2.2.2.1)), (some (.var (.ints .u64 4 t.2.2.2.2.2)))])
def Fbw.l11_0.res : (LI × LI) → Ex × St
 | u => (Prod.mk (.exit 2) (St.mk [(.own 0 1), (.ptr 1 [])] [(some (.ints .u64 u.1)), (some (.var (.ints .u64 4 u.2)))]))
def Fbw.l11_0.resK {R : Type} (u : (LI × LI)) (K : Ex → St → Option R) : Option R := K (Fbw.l11_0.res u).1 (Fbw.l11_0.res u).2
def Fbw.l26_0.r {α : Type} (mk0 : Int → LI → LI → LI → α) (n : Nat) (rc : Int → Int → LI → LI → LI → Option α)  (x0 : Int) (x1 : Int) (x2 : LI) (x3 : LI) (x4 : LI) : Option α :=
  if (decide (x0 < 8)) = true then
   if 0 ≤ x1 then
    if x1 < (((List.length x3) : Nat) : Int) then
     if 0 ≤ (IntKind.wrap .u64 (IntKind.wrap .i64 (8 * x0))) then
      if ((((List.length x2) + 1) * 1) ≤ 70368744177664 ∧ ((List.length x2) + 1) ≤ 9223372036854775807) then
       rc (IntKind.wrap .i64 (x0 + 1)) x1 (x2 ++ [(IntKind.wrap .u8 (ishr .u64 (List.getD x3 (Int.toNat x1) 0) (IntKind.wrap .u64 (IntKind.wrap .i64 (8 * x0)))))]) x3 x4
      else
       none
     else
      none
    else
     none
   else
    none
  else
   some (mk0 x1 x2 x3 x4)
def Fbw.l26_0.g {α : Type} (mk0 : Int → LI → LI → LI → α) (n : Nat) : Nat → Int → Int → LI → LI → LI → Option α
 | 0, _, _, _, _, _ => none
 | m + 1, x0, x1, x2, x3, x4 => Fbw.l26_0.r mk0 n (fun y0 y1 y2 y3 y4 => Fbw.l26_0.g mk0 n m y0 y1 y2 y3 y4)  x0 x1 x2 x3 x4
def Fbw.l26_0.m (n m : Nat) (t : (Int × (Int × (LI × (LI × LI))))) : Option (Int × (LI × (LI × LI))) := Fbw.l26_0.g (fun a0 a1 a2 a3 => (a0, a1, a2, a3)) n m t.1 t.2.1 t.2.2.1 t.2.2.2.1 t.2.2.2.2
def Fbw.l26_0.pat : St → Option (Int × (Int × (LI × (LI × LI))))
 | (St.mk [(.int .i64 x0), (.own 0 1), (.own 1 1), (.int .i64 x1), (.ptr 2 [])] [(some (.ints .u8 x2)), (some (.ints .u64 x3)), (some (.var (.ints .u64 4 x4)))]) => some (x0, x1, x2, x3, x4)
 | _ => none
def Fbw.l26_0.shape (t : (Int × (Int × (LI × (LI × LI))))) : St := (St.mk [(.int .i64 t.1), (.own 0 1), (.own 1 1), (.int .i64 t.2.1), (.ptr 2 [])] [(some (.ints .u8 t.2.2.1)), (some (.ints .u64 t.2.2.2.1)), (some (.var (.ints .u64 4 t.2.2.2.2)))])
def Fbw.l26_0.res : (Int × (LI × (LI × LI))) → Ex × St
 | u => (Prod.mk (.exit 10) (St.mk [(.int .i64 u.1), (.own 0 1), (.own 1 1), (.ptr 2 [])] [(some (.ints .u8 u.2.1)), (some (.ints .u64 u.2.2.1)), (some (.var (.ints .u64 4 u.2.2.2)))]))
def Fbw.l26_0.resK {R : Type} (u : (Int × (LI × (LI × LI)))) (K : Ex → St → Option R) : Option R := K (Fbw.l26_0.res u).1 (Fbw.l26_0.res u).2
def Fbw.l23_0.r {α : Type} (mk0 : LI → LI → α) (n : Nat) (rc : Int → LI → LI → LI → Option α)  (x0 : Int) (x1 : LI) (x2 : LI) (x3 : LI) : Option α :=
  if (decide (x0 < 4)) = true then
   bindO (Fbw.l26_0.m n n (0, x0, x1, x2, x3)) fun r6 =>
    rc (IntKind.wrap .i64 ((Prod.fst r6) + 1)) (Prod.fst r6.2) (Prod.fst (Prod.snd r6).2) (Prod.snd (Prod.snd r6).2)
  else
   some (mk0 x1 x3)
def Fbw.l23_0.g {α : Type} (mk0 : LI → LI → α) (n : Nat) : Nat → Int → LI → LI → LI → Option α
 | 0, _, _, _, _ => none
 | m + 1, x0, x1, x2, x3 => Fbw.l23_0.r mk0 n (fun y0 y1 y2 y3 => Fbw.l23_0.g mk0 n m y0 y1 y2 y3)  x0 x1 x2 x3
def Fbw.l23_0.m (n m : Nat) (t : (Int × (LI × (LI × LI)))) : Option (LI × LI) := Fbw.l23_0.g (fun a0 a1 => (a0, a1)) n m t.1 t.2.1 t.2.2.1 t.2.2.2
def Fbw.l23_0.pat : St → Option (Int × (LI × (LI × LI)))
 | (St.mk [(.int .i64 x0), (.own 0 1), (.own 1 1), (.ptr 2 [])] [(some (.ints .u8 x1)), (some (.ints .u64 x2)), (some (.var (.ints .u64 4 x3)))]) => some (x0, x1, x2, x3)
 | _ => none
def Fbw.l23_0.shape (t : (Int × (LI × (LI × LI)))) : St := (St.mk [(.int .i64 t.1), (.own 0 1), (.own 1 1), (.ptr 2 [])] [(some (.ints .u8 t.2.1)), (some (.ints .u64 t.2.2.1)), (some (.var (.ints .u64 4 t.2.2.2)))])
def Fbw.l23_0.res : (LI × LI) → Ex × St
 | u => (Prod.mk (.exit 8) (St.mk [(.own 0 1), (.ptr 1 [])] [(some (.ints .u8 u.1)), (some (.var (.ints .u64 4 u.2)))]))
def Fbw.l23_0.resK {R : Type} (u : (LI × LI)) (K : Ex → St → Option R) : Option R := K (Fbw.l23_0.res u).1 (Fbw.l23_0.res u).2
noncomputable def Fbw.A (n : Nat) : Ann := ⟨Tryd.f62.ntmps, 0, Fbw.live, [(3, (.ints .u8)), (4, (.ints .i64)), (5, (.ints .u64)), (6, (.ints .u64)), (10, (.ints .u8))], [none], fun k => match k with
 | 4 => some (.mk' Fbw.l4_0.pat (Fbw.l4_0.m n n) Fbw.l4_0.resK)
 | 17 => some (.mk' Fbw.l17_0.pat (Fbw.l17_0.m n n) Fbw.l17_0.resK)
 | 14 => some (.mk' Fbw.l14_0.pat (Fbw.l14_0.m n n) Fbw.l14_0.resK)
 | 11 => some (.mk' Fbw.l11_0.pat (Fbw.l11_0.m n n) Fbw.l11_0.resK)
 | 26 => some (.mk' Fbw.l26_0.pat (Fbw.l26_0.m n n) Fbw.l26_0.resK)
 | 23 => some (.mk' Fbw.l23_0.pat (Fbw.l23_0.m n n) Fbw.l23_0.resK)
 | _ => none, noNL, lookJ []⟩
noncomputable def Fbw.b0 : Code := (loopsIn (Tryd.f62.body.getD .skip)).getD 0 .skip
noncomputable def Fbw.b1 : Code := (loopsIn (Tryd.f62.body.getD .skip)).getD 1 .skip
noncomputable def Fbw.b2 : Code := (loopsIn (Tryd.f62.body.getD .skip)).getD 2 .skip
noncomputable def Fbw.b3 : Code := (loopsIn (Tryd.f62.body.getD .skip)).getD 3 .skip
noncomputable def Fbw.b4 : Code := (loopsIn (Tryd.f62.body.getD .skip)).getD 4 .skip
noncomputable def Fbw.b5 : Code := (loopsIn (Tryd.f62.body.getD .skip)).getD 5 .skip
def Fbw.g {α : Type} (mk0 : LI → α) (n : Nat) (a0 : LI) : Option α :=
 if (((List.length a0) * 1) ≤ 70368744177664 ∧ (List.length a0) ≤ 9223372036854775807) then
  if ((((List.length a0) + 1) * 1) ≤ 70368744177664 ∧ ((List.length a0) + 1) ≤ 9223372036854775807) then
   bindO (Fbw.l4_0.m n n ((a0 ++ [1]), [0, 0, 0, 0])) fun r6 =>
    if 0 ≤ (IntKind.wrap .i64 ((((List.length (Prod.fst r6)) : Nat) : Int) - 1)) then
     if (IntKind.wrap .i64 ((((List.length (Prod.fst r6)) : Nat) : Int) - 1)) < (((List.length (Prod.fst r6)) : Nat) : Int) then
      if 0 ≤ (IntKind.wrap .i64 ((((List.length (Prod.fst r6)) : Nat) : Int) - 1)) then
       if (IntKind.wrap .i64 ((((List.length (Prod.fst r6)) : Nat) : Int) - 1)) < (((List.length (Prod.fst r6)) : Nat) : Int) then
        bindO (Far.m n Unit.unit) fun r16 =>
         bindO (Fbc.m n Unit.unit) fun r18 =>
          bindO (Fbw.l11_0.m n n (0, (List.set (Prod.fst r6) (Int.toNat (IntKind.wrap .i64 ((((List.length (Prod.fst r6)) : Nat) : Int) - 1))) (ibits BinOp.xor .u8 (List.getD (Prod.fst r6) (Int.toNat (IntKind.wrap .i64 ((((List.length (Prod.fst r6)) : Nat) : Int) - 1))) 0) 128)), ([0, 0, 0, 0, 0, 0, 0, 0, 0, 0, 0, 0, 0, 0, 0, 0, 0, 0, 0, 0, 0, 0, 0, 0, 0] : List Int), r16, r18, (Prod.snd r6))) fun r20 =>
           bindO (Fbw.l23_0.m n n (0, [], (Prod.fst r20), (Prod.snd r20))) fun r22 =>
            bindO (Fbd.m n (Prod.fst r22)) fun r24 =>
             some (mk0 r24)
       else
        none
      else
       none
     else
      none
    else
     none
  else
   none
 else
  none
def Fbw.m (n : Nat) (t : LI) : Option LI := Fbw.g (fun a0 => a0) n t
def Fbw.pat : List AV → Blks → Option LI
 | [(.rints .u8 a0)], [] => some a0
 | _, _ => none
def Fbw.shape (t : LI) : List AV × Blks := ([(.rints .u8 t)], [])
def Fbw.res : LI → AV × Blks
 | u => (Prod.mk (.ints .u64 4 u) [])
def Fbw.resK {R : Type} (u : LI) (K : AV → Blks → Option R) : Option R := K (Fbw.res u).1 (Fbw.res u).2
def Fbw.c (n : Nat) : Abs.Callee := .mk' [] [(some (.ints .u8))] Fbw.pat (Fbw.m n) Fbw.resK
end
end
