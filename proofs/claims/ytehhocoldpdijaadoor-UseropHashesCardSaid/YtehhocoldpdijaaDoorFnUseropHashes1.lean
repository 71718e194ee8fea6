/- What the program's functions compute, as plain functions, each with its proof: the function does just that. Condition: the plain function has an answer. -/
import Derived.Test.YtehhocoldpdijaaDoorAbsG1
import Derived.Test.YtehhocoldpdijaaDoorAbsG6
import Derived.Test.YtehhocoldpdijaaDoorProg
set_option linter.unusedVariables false
set_option linter.unusedSimpArgs false
set_option maxRecDepth 100000
open Go Go.Abs Go.Proofs
section
namespace Go.Abs
open Go
def kecKeys : List Int := [1, 32898, 9223372036854808714, 9223372039002292224, 32907, 2147483649, 9223372039002292353, 9223372036854808585, 138, 136, 2147516425, 2147483658, 2147516555, 9223372036854775947, 9223372036854808713, 9223372036854808579, 9223372036854808578, 9223372036854775936, 32778, 9223372039002259466, 9223372039002292353, 9223372036854808704, 2147483649, 9223372039002292232]
def kecTo : List Int := [10, 7, 11, 17, 18, 3, 5, 16, 8, 21, 24, 4, 15, 23, 19, 13, 12, 2, 20, 14, 22, 9, 6, 1]
def kecTurns : List Int := [1, 3, 6, 10, 15, 21, 28, 36, 45, 55, 2, 14, 27, 41, 56, 8, 25, 43, 62, 18, 39, 61, 20, 44]
def abiG : Nat → AV := fun g => match g with
  | 2 => .ints .u64 24 kecKeys
  | 3 => .ints .i64 24 kecTo
  | 4 => .ints .i64 24 kecTurns
  | _ => .any
end Go.Abs
end
section
noncomputable section
noncomputable def Fd.C (n : Nat) : Ctx := ⟨Tryd.prog, abiG, lookC [], fun _ => false⟩
noncomputable def Fd.A (n : Nat) : Ann := ⟨Tryd.f130.ntmps, 0, noNL, [], [none], fun k => match k with
 | _ => none, noNL, lookJ []⟩
def Fd.g {α : Type} (mk0 : Int → α) (n : Nat) (a0 : Int) (a1 : Int) : Option α :=
 if 0 ≤ (IntKind.wrap .u64 (64 - (ibits BinOp.and .u64 (IntKind.wrap .u64 a1) 63))) then
  some (mk0 (ibits BinOp.or .u64 (ishl .u64 a0 (ibits BinOp.and .u64 (IntKind.wrap .u64 a1) 63)) (ishr .u64 a0 (IntKind.wrap .u64 (64 - (ibits BinOp.and .u64 (IntKind.wrap .u64 a1) 63))))))
 else
  none
def Fd.m (n : Nat) (t : (Int × Int)) : Option Int := Fd.g (fun a0 => a0) n t.1 t.2
def Fd.pat : List AV → Blks → Option (Int × Int)
 | [(.int .u64 a0), (.int .i64 a1)], [] => some (a0, a1)
 | _, _ => none
def Fd.shape (t : (Int × Int)) : List AV × Blks := ([(.int .u64 t.1), (.int .i64 t.2)], [])
def Fd.res : Int → AV × Blks
 | u => ((.int .u64 u), [])
def Fd.resK {R : Type} (u : Int) (K : AV → Blks → Option R) : Option R := K (Fd.res u).1 (Fd.res u).2
def Fd.c (n : Nat) : Abs.Callee := .mk' [] [none, none] Fd.pat (Fd.m n) Fd.resK
end
end
section
noncomputable section
noncomputable def Fb.C (n : Nat) : Ctx := ⟨Tryd.prog, abiG, lookC [(130, Fd.c n)], fun _ => false⟩
def Fb.live : NL := fun k => match k with
 | 2 => ([7, 6, 2, 0], [0, 2])
 | 7 => ([21, 0, 2], [])
 | _ => ([], [])
def Fb.l2_0.r {α : Type} (mk0 : LI → LI → α) (n : Nat) (rc : Int → LI → LI → Option α)  (x0 : Int) (x1 : LI) (x2 : LI) : Option α :=
  if (decide (x0 < 25)) = true then
   if 0 ≤ x0 then
    if x0 < 25 then
     if 0 ≤ (Int.tmod x0 5) then
      if (Int.tmod x0 5) < 5 then
       if 0 ≤ (Int.tmod x0 5) then
        if (Int.tmod x0 5) < 5 then
         rc (IntKind.wrap .i64 (x0 + 1)) x1 (List.set x2 (Int.toNat (Int.tmod x0 5)) (ibits BinOp.xor .u64 (List.getD x2 (Int.toNat (Int.tmod x0 5)) 0) (List.getD x1 (Int.toNat x0) 0)))
        else
         none
       else
        none
      else
       none
     else
      none
    else
     none
   else
    none
  else
   some (mk0 x1 x2)
def Fb.l2_0.g {α : Type} (mk0 : LI → LI → α) (n : Nat) : Nat → Int → LI → LI → Option α
 | 0, _, _, _ => none
 | m + 1, x0, x1, x2 => Fb.l2_0.r mk0 n (fun y0 y1 y2 => Fb.l2_0.g mk0 n m y0 y1 y2)  x0 x1 x2
def Fb.l2_0.m (n m : Nat) (t : (Int × (LI × LI))) : Option (LI × LI) := Fb.l2_0.g (fun a0 a1 => (a0, a1)) n m t.1 t.2.1 t.2.2
def Fb.l2_0.pat : St → Option (Int × (LI × LI))
 | (St.mk [(.int .i64 x0), (.ptr 0 []), (.ptr 1 []), (.ptr 0 [])] [(some (.var (.ints .u64 25 x1))), (some (.var (.ints .u64 5 x2)))]) => some (x0, x1, x2)
 | _ => none
def Fb.l2_0.shape (t : (Int × (LI × LI))) : St := (St.mk [(.int .i64 t.1), (.ptr 0 []), (.ptr 1 []), (.ptr 0 [])] [(some (.var (.ints .u64 25 t.2.1))), (some (.var (.ints .u64 5 t.2.2)))])
def Fb.l2_0.res : (LI × LI) → Ex × St
 | u => ((.exit 0), (St.mk [(.ptr 0 []), (.ptr 1 [])] [(some (.var (.ints .u64 25 u.1))), (some (.var (.ints .u64 5 u.2)))]))
def Fb.l2_0.resK {R : Type} (u : (LI × LI)) (K : Ex → St → Option R) : Option R := K (Fb.l2_0.res u).1 (Fb.l2_0.res u).2
def Fb.l7_0.r {α : Type} (mk0 : LI → α) (n : Nat) (rc : Int → LI → LI → Option α)  (x0 : Int) (x1 : LI) (x2 : LI) : Option α :=
  if (decide (x0 < 25)) = true then
   if 0 ≤ x0 then
    if x0 < 25 then
     if 0 ≤ (Int.tmod (IntKind.wrap .i64 (x0 + 4)) 5) then
      if (Int.tmod (IntKind.wrap .i64 (x0 + 4)) 5) < 5 then
       if 0 ≤ (Int.tmod (IntKind.wrap .i64 (x0 + 1)) 5) then
        if (Int.tmod (IntKind.wrap .i64 (x0 + 1)) 5) < 5 then
         bindO (Fd.m n ((List.getD x2 (Int.toNat (Int.tmod (IntKind.wrap .i64 (x0 + 1)) 5)) 0), 1)) fun r18 =>
          if 0 ≤ x0 then
           if x0 < 25 then
            rc (IntKind.wrap .i64 (x0 + 1)) (List.set x1 (Int.toNat x0) (ibits BinOp.xor .u64 (List.getD x1 (Int.toNat x0) 0) (ibits BinOp.xor .u64 (List.getD x2 (Int.toNat (Int.tmod (IntKind.wrap .i64 (x0 + 4)) 5)) 0) r18))) x2
           else
            none
          else
           none
        else
         none
       else
        none
      else
       none
     else
      none
    else
     none
   else
    none
  else
   some (mk0 x1)
def Fb.l7_0.g {α : Type} (mk0 : LI → α) (n : Nat) : Nat → Int → LI → LI → Option α
 | 0, _, _, _ => none
 | m + 1, x0, x1, x2 => Fb.l7_0.r mk0 n (fun y0 y1 y2 => Fb.l7_0.g mk0 n m y0 y1 y2)  x0 x1 x2
def Fb.l7_0.m (n m : Nat) (t : (Int × (LI × LI))) : Option LI := Fb.l7_0.g (fun a0 => a0) n m t.1 t.2.1 t.2.2
def Fb.l7_0.pat : St → Option (Int × (LI × LI))
 | (St.mk [(.int .i64 x0), (.ptr 0 []), (.ptr 1 [])] [(some (.var (.ints .u64 25 x1))), (some (.var (.ints .u64 5 x2)))]) => some (x0, x1, x2)
 | _ => none
def Fb.l7_0.shape (t : (Int × (LI × LI))) : St := (St.mk [(.int .i64 t.1), (.ptr 0 []), (.ptr 1 [])] [(some (.var (.ints .u64 25 t.2.1))), (some (.var (.ints .u64 5 t.2.2)))])
def Fb.l7_0.res : LI → Ex × St
 | u => ((.exit 2), (St.mk [] [(some (.var (.ints .u64 25 u)))]))
def Fb.l7_0.resK {R : Type} (u : LI) (K : Ex → St → Option R) : Option R := K (Fb.l7_0.res u).1 (Fb.l7_0.res u).2
noncomputable def Fb.A (n : Nat) : Ann := ⟨Tryd.f124.ntmps, 1, Fb.live, [], [], fun k => match k with
 | 2 => some (.mk' Fb.l2_0.pat (Fb.l2_0.m n n) Fb.l2_0.resK)
 | 7 => some (.mk' Fb.l7_0.pat (Fb.l7_0.m n n) Fb.l7_0.resK)
 | _ => none, noNL, lookJ []⟩
noncomputable def Fb.b0 : Code := (loopsIn (Tryd.f124.body.getD .skip)).getD 0 .skip
noncomputable def Fb.b1 : Code := (loopsIn (Tryd.f124.body.getD .skip)).getD 1 .skip
def Fb.g {α : Type} (mk0 : LI → α) (n : Nat) (s : LI) : Option α :=
 bindO (Fb.l2_0.m n n (0, s, [0, 0, 0, 0, 0])) fun r2 =>
  bindO (Fb.l7_0.m n n (0, r2.1, r2.2)) fun r4 =>
   some (mk0 r4)
def Fb.m (n : Nat) (t : LI) : Option LI := Fb.g (fun a0 => a0) n t
def Fb.pat : List AV → Blks → Option LI
 | [(.ptr 0 [])], [(some (.var (.ints .u64 25 s)))] => some s
 | _, _ => none
def Fb.shape (t : LI) : List AV × Blks := ([(.ptr 0 [])], [(some (.var (.ints .u64 25 t)))])
def Fb.res : LI → AV × Blks
 | u => ((.tup []), [(some (.var (.ints .u64 25 u)))])
def Fb.resK {R : Type} (u : LI) (K : AV → Blks → Option R) : Option R := K (Fb.res u).1 (Fb.res u).2
def Fb.c (n : Nat) : Abs.Callee := .mk' [true] [none] Fb.pat (Fb.m n) Fb.resK
end
end
section
theorem Fd.gmap {α β : Type} (h : β → α) (mk0 : Int → β) (n : Nat) (a0 : Int) (a1 : Int) : Fd.g (fun a0 => (h (mk0 a0))) n a0 a1 = (Fd.g mk0 n a0 a1).map h := by
  unfold Fd.g
  exact (ite_map rfl rfl)
theorem Fd.run (n : Nat) (a0 : Int) (a1 : Int) : runF (Fd.C n) (Fd.A n) n Tryd.f130 [(.int .u64 a0), (.int .i64 a1)] [] (fun v o => some (v, o)) = Fd.g (fun a0 => (((.int .u64 a0), []) : AV × Blks)) n a0 a1 := by kernel_rfl
theorem Fd.call (hmix : Tryd.prog.follows .mixedOrders = true) (n : Nat) (t : (Int × Int)) (u) (h : Fd.m n t = some u) : FnC Tryd.prog abiG 130 (Fd.shape t).1 (Fd.shape t).2 (Fd.res u).1 (Fd.res u).2 :=
  fnC1 (C := Fd.C n) (A := Fd.A n) (fn := Tryd.f130) rfl .nil hmix Tryd.func130 (by kernel_rfl) (lp := []) (by kernel_rfl) .nil
  (nj rfl) (by decide) rfl rfl (by show 2 ≤ Tryd.f130.ntmps; decide) (Fd.run n t.1 t.2) (Fd.gmap Fd.res (fun a0 => a0) n t.1 t.2) h
theorem Fd.s (hmix : Tryd.prog.follows .mixedOrders = true) (n : Nat) : CalleeS Tryd.prog abiG 130 (Fd.c n) :=
  .mk1 (res := Fd.res) (shape := Fd.shape) (fun R u K => rfl) (fun _ _ _ h => by unfold Fd.pat at h; split at h <;> cases h; rfl) (fun t u h => Fd.call hmix n t u h) Tryd.func130 (by decide) (by kernel_rfl)
end
section
noncomputable abbrev Fb.R0 (n : Nat) := roundOf (Fb.C n) (Fb.A n) n Fb.b0
noncomputable abbrev Fb.R1 (n : Nat) := roundOf (Fb.C n) (Fb.A n) n Fb.b1
theorem Fb.l2_0.rmap {α β : Type} (h : β → α) (mk0 : LI → LI → β) (n : Nat) (f : Int → LI → LI → Option β)  (x0 : Int) (x1 : LI) (x2 : LI) : Fb.l2_0.r (fun a0 a1 => (h (mk0 a0 a1))) n (fun y0 y1 y2 => (f y0 y1 y2).map h) x0 x1 x2 = (Fb.l2_0.r mk0 n f x0 x1 x2).map h := by
  unfold Fb.l2_0.r
  exact (ite_map (ite_map (ite_map (ite_map (ite_map (ite_map (ite_map rfl rfl) rfl) rfl) rfl) rfl) rfl) rfl)
theorem Fb.l2_0.gmap {α β : Type} (h : β → α) (mk0 : LI → LI → β) (n : Nat) : ∀ (m : Nat) (x0 : Int) (x1 : LI) (x2 : LI), Fb.l2_0.g (fun a0 a1 => (h (mk0 a0 a1))) n m x0 x1 x2 = (Fb.l2_0.g mk0 n m x0 x1 x2).map h
  | 0, _, _, _ => rfl
  | m + 1, x0, x1, x2 => by
    unfold Fb.l2_0.g
    rw [← Fb.l2_0.rmap]
    congr
    · funext y0 y1 y2; exact Fb.l2_0.gmap h mk0 n m y0 y1 y2
theorem Fb.l2_0.pat_shape : ∀ st t, Fb.l2_0.pat st = some t → st = Fb.l2_0.shape t := fun _ _ h => by unfold Fb.l2_0.pat at h; split at h <;> cases h; rfl
def Fb.l2_0.k0 : LI → LI → Ex × St := (fun a0 a1 => (((.exit 0), (St.mk [(.ptr 0 []), (.ptr 1 [])] [(some (.var (.ints .u64 25 a0))), (some (.var (.ints .u64 5 a1)))])) : Ex × St))
theorem Fb.l2_0.round (n : Nat) (rc : St → Option (Ex × St)) (x0 : Int) (x1 : LI) (x2 : LI) : Fb.R0 n rc ((St.mk [(.int .i64 x0), (.ptr 0 []), (.ptr 1 []), (.ptr 0 [])] [(some (.var (.ints .u64 25 x1))), (some (.var (.ints .u64 5 x2)))])) = Fb.l2_0.r Fb.l2_0.k0 n (fun y0 y1 y2 => rc ((St.mk [(.int .i64 y0), (.ptr 0 []), (.ptr 1 []), (.ptr 0 [])] [(some (.var (.ints .u64 25 y1))), (some (.var (.ints .u64 5 y2)))]))) x0 x1 x2 := by kernel_rfl
theorem Fb.l2_0.loop' (n : Nat) : ∀ (m : Nat) (t : (Int × (LI × LI))), loopOf (Fb.R0 n) m (Fb.l2_0.shape t) = Fb.l2_0.g Fb.l2_0.k0 n m t.1 t.2.1 t.2.2 :=
  loop_of_round (shape := Fb.l2_0.shape) (body := Fb.R0 n) (g := fun m t => Fb.l2_0.g Fb.l2_0.k0 n m t.1 t.2.1 t.2.2) (fun t => rfl)
    fun m t ih => (Fb.l2_0.round n (loopOf (Fb.R0 n) m) t.1 t.2.1 t.2.2).trans (congrFun (congrFun (congrFun (congrArg (Fb.l2_0.r Fb.l2_0.k0 n) (funext fun y0 => funext fun y1 => funext fun y2 => ih (y0, y1, y2))) t.1) t.2.1) t.2.2)
theorem Fb.l2_0.loop (n m : Nat) (t : (Int × (LI × LI))) : loopOf (Fb.R0 n) m (Fb.l2_0.shape t) = (Fb.l2_0.m n m t).map Fb.l2_0.res :=
  (Fb.l2_0.loop' n m t).trans (Fb.l2_0.gmap Fb.l2_0.res (fun a0 a1 => (a0, a1)) n m t.1 t.2.1 t.2.2)
theorem Fb.l7_0.rmap {α β : Type} (h : β → α) (mk0 : LI → β) (n : Nat) (f : Int → LI → LI → Option β)  (x0 : Int) (x1 : LI) (x2 : LI) : Fb.l7_0.r (fun a0 => (h (mk0 a0))) n (fun y0 y1 y2 => (f y0 y1 y2).map h) x0 x1 x2 = (Fb.l7_0.r mk0 n f x0 x1 x2).map h := by
  unfold Fb.l7_0.r
  exact (ite_map (ite_map (ite_map (ite_map (ite_map (ite_map (ite_map (bindO_map fun r18 => (ite_map (ite_map rfl rfl) rfl)) rfl) rfl) rfl) rfl) rfl) rfl) rfl)
theorem Fb.l7_0.gmap {α β : Type} (h : β → α) (mk0 : LI → β) (n : Nat) : ∀ (m : Nat) (x0 : Int) (x1 : LI) (x2 : LI), Fb.l7_0.g (fun a0 => (h (mk0 a0))) n m x0 x1 x2 = (Fb.l7_0.g mk0 n m x0 x1 x2).map h
  | 0, _, _, _ => rfl
  | m + 1, x0, x1, x2 => by
    unfold Fb.l7_0.g
    rw [← Fb.l7_0.rmap]
    congr
    · funext y0 y1 y2; exact Fb.l7_0.gmap h mk0 n m y0 y1 y2
theorem Fb.l7_0.pat_shape : ∀ st t, Fb.l7_0.pat st = some t → st = Fb.l7_0.shape t := fun _ _ h => by unfold Fb.l7_0.pat at h; split at h <;> cases h; rfl
def Fb.l7_0.k0 : LI → Ex × St := (fun a0 => (((.exit 2), (St.mk [] [(some (.var (.ints .u64 25 a0)))])) : Ex × St))
theorem Fb.l7_0.round (n : Nat) (rc : St → Option (Ex × St)) (x0 : Int) (x1 : LI) (x2 : LI) : Fb.R1 n rc ((St.mk [(.int .i64 x0), (.ptr 0 []), (.ptr 1 [])] [(some (.var (.ints .u64 25 x1))), (some (.var (.ints .u64 5 x2)))])) = Fb.l7_0.r Fb.l7_0.k0 n (fun y0 y1 y2 => rc ((St.mk [(.int .i64 y0), (.ptr 0 []), (.ptr 1 [])] [(some (.var (.ints .u64 25 y1))), (some (.var (.ints .u64 5 y2)))]))) x0 x1 x2 := by kernel_rfl
theorem Fb.l7_0.loop' (n : Nat) : ∀ (m : Nat) (t : (Int × (LI × LI))), loopOf (Fb.R1 n) m (Fb.l7_0.shape t) = Fb.l7_0.g Fb.l7_0.k0 n m t.1 t.2.1 t.2.2 :=
  loop_of_round (shape := Fb.l7_0.shape) (body := Fb.R1 n) (g := fun m t => Fb.l7_0.g Fb.l7_0.k0 n m t.1 t.2.1 t.2.2) (fun t => rfl)
    fun m t ih => (Fb.l7_0.round n (loopOf (Fb.R1 n) m) t.1 t.2.1 t.2.2).trans (congrFun (congrFun (congrFun (congrArg (Fb.l7_0.r Fb.l7_0.k0 n) (funext fun y0 => funext fun y1 => funext fun y2 => ih (y0, y1, y2))) t.1) t.2.1) t.2.2)
theorem Fb.l7_0.loop (n m : Nat) (t : (Int × (LI × LI))) : loopOf (Fb.R1 n) m (Fb.l7_0.shape t) = (Fb.l7_0.m n m t).map Fb.l7_0.res :=
  (Fb.l7_0.loop' n m t).trans (Fb.l7_0.gmap Fb.l7_0.res (fun a0 => a0) n m t.1 t.2.1 t.2.2)
theorem Fb.gmap {α β : Type} (h : β → α) (mk0 : LI → β) (n : Nat) (s : LI) : Fb.g (fun a0 => (h (mk0 a0))) n s = (Fb.g mk0 n s).map h := by
  unfold Fb.g
  exact (bindO_map fun r2 => (bindO_map fun r4 => rfl))
theorem Fb.run (n : Nat) (s : LI) : runF (Fb.C n) (Fb.A n) n Tryd.f124 [(.ptr 0 [])] [(some (.var (.ints .u64 25 s)))] (fun v o => some (v, o)) = Fb.g (fun a0 => (((.tup []), [(some (.var (.ints .u64 25 a0)))]) : AV × Blks)) n s := by kernel_rfl
theorem Fb.call (hmix : Tryd.prog.follows .mixedOrders = true) (n : Nat) (t : LI) (u) (h : Fb.m n t = some u) : FnC Tryd.prog abiG 124 (Fb.shape t).1 (Fb.shape t).2 (Fb.res u).1 (Fb.res u).2 :=
  fnC1 (C := Fb.C n) (A := Fb.A n) (fn := Tryd.f124) rfl (.cons (Fd.s hmix n) .nil) hmix Tryd.func124 (by kernel_rfl) (lp := [Fb.b0, Fb.b1]) (by kernel_rfl) (.cons (show (Fb.A n).loop (key Fb.b0) = some (.mk' Fb.l2_0.pat (Fb.l2_0.m n n) Fb.l2_0.resK) by kernel_rfl) (LoopS.of (res := Fb.l2_0.res) (fun R u K => rfl) Fb.l2_0.pat_shape fun t => Fb.l2_0.loop n n t)
  (.cons (show (Fb.A n).loop (key Fb.b1) = some (.mk' Fb.l7_0.pat (Fb.l7_0.m n n) Fb.l7_0.resK) by kernel_rfl) (LoopS.of (res := Fb.l7_0.res) (fun R u K => rfl) Fb.l7_0.pat_shape fun t => Fb.l7_0.loop n n t)
  .nil))
  (nj rfl) (by decide) rfl rfl (by show 1 ≤ Tryd.f124.ntmps; decide) (Fb.run n t) (Fb.gmap Fb.res (fun a0 => a0) n t) h
theorem Fb.s (hmix : Tryd.prog.follows .mixedOrders = true) (n : Nat) : CalleeS Tryd.prog abiG 124 (Fb.c n) :=
  .mk1 (res := Fb.res) (shape := Fb.shape) (fun R u K => rfl) (fun _ _ _ h => by unfold Fb.pat at h; split at h <;> cases h; rfl) (fun t u h => Fb.call hmix n t u h) Tryd.func124 (by decide) (by kernel_rfl)
end
section
noncomputable section
noncomputable def Fe.C (n : Nat) : Ctx := ⟨Tryd.prog, abiG, lookC [(130, Fd.c n)], fun _ => false⟩
def Fe.live : NL := fun k => match k with
 | 2 => ([9, 0, 2], [])
 | _ => ([], [])
def Fe.l2_0.r {α : Type} (mk0 : LI → α) (n : Nat) (rc : Int → Int → LI → Option α)  (x0 : Int) (x1 : Int) (x2 : LI) : Option α :=
  if (decide (x0 < 24)) = true then
   if 0 ≤ x0 then
    if x0 < 24 then
     if 0 ≤ (List.getD ([10, 7, 11, 17, 18, 3, 5, 16, 8, 21, 24, 4, 15, 23, 19, 13, 12, 2, 20, 14, 22, 9, 6, 1] : List Int) (Int.toNat x0) 0) then
      if (List.getD ([10, 7, 11, 17, 18, 3, 5, 16, 8, 21, 24, 4, 15, 23, 19, 13, 12, 2, 20, 14, 22, 9, 6, 1] : List Int) (Int.toNat x0) 0) < 25 then
       if 0 ≤ x0 then
        if x0 < 24 then
         if 0 ≤ x0 then
          if x0 < 24 then
           bindO (Fd.m n (x1, (List.getD ([1, 3, 6, 10, 15, 21, 28, 36, 45, 55, 2, 14, 27, 41, 56, 8, 25, 43, 62, 18, 39, 61, 20, 44] : List Int) (Int.toNat x0) 0))) fun r22 =>
            if 0 ≤ (List.getD ([10, 7, 11, 17, 18, 3, 5, 16, 8, 21, 24, 4, 15, 23, 19, 13, 12, 2, 20, 14, 22, 9, 6, 1] : List Int) (Int.toNat x0) 0) then
             if (List.getD ([10, 7, 11, 17, 18, 3, 5, 16, 8, 21, 24, 4, 15, 23, 19, 13, 12, 2, 20, 14, 22, 9, 6, 1] : List Int) (Int.toNat x0) 0) < 25 then
              rc (IntKind.wrap .i64 (x0 + 1)) (List.getD x2 (Int.toNat (List.getD ([10, 7, 11, 17, 18, 3, 5, 16, 8, 21, 24, 4, 15, 23, 19, 13, 12, 2, 20, 14, 22, 9, 6, 1] : List Int) (Int.toNat x0) 0)) 0) (List.set x2 (Int.toNat (List.getD ([10, 7, 11, 17, 18, 3, 5, 16, 8, 21, 24, 4, 15, 23, 19, 13, 12, 2, 20, 14, 22, 9, 6, 1] : List Int) (Int.toNat x0) 0)) r22)
             else
              none
            else
             none
          else
           none
         else
          none
        else
         none
       else
        none
      else
       none
     else
      none
    else
     none
   else
    none
  else
   some (mk0 x2)
def Fe.l2_0.g {α : Type} (mk0 : LI → α) (n : Nat) : Nat → Int → Int → LI → Option α
 | 0, _, _, _ => none
 | m + 1, x0, x1, x2 => Fe.l2_0.r mk0 n (fun y0 y1 y2 => Fe.l2_0.g mk0 n m y0 y1 y2)  x0 x1 x2
def Fe.l2_0.m (n m : Nat) (t : (Int × (Int × LI))) : Option LI := Fe.l2_0.g (fun a0 => a0) n m t.1 t.2.1 t.2.2
def Fe.l2_0.pat : St → Option (Int × (Int × LI))
 | (St.mk [(.int .i64 x0), (.ptr 0 []), (.int .u64 x1)] [(some (.var (.ints .u64 25 x2)))]) => some (x0, x1, x2)
 | _ => none
def Fe.l2_0.shape (t : (Int × (Int × LI))) : St := (St.mk [(.int .i64 t.1), (.ptr 0 []), (.int .u64 t.2.1)] [(some (.var (.ints .u64 25 t.2.2)))])
def Fe.l2_0.res : LI → Ex × St
 | u => ((.exit 0), (St.mk [] [(some (.var (.ints .u64 25 u)))]))
def Fe.l2_0.resK {R : Type} (u : LI) (K : Ex → St → Option R) : Option R := K (Fe.l2_0.res u).1 (Fe.l2_0.res u).2
noncomputable def Fe.A (n : Nat) : Ann := ⟨Tryd.f125.ntmps, 1, Fe.live, [], [], fun k => match k with
 | 2 => some (.mk' Fe.l2_0.pat (Fe.l2_0.m n n) Fe.l2_0.resK)
 | _ => none, noNL, lookJ []⟩
noncomputable def Fe.b0 : Code := (loopsIn (Tryd.f125.body.getD .skip)).getD 0 .skip
def Fe.g {α : Type} (mk0 : LI → α) (n : Nat) (s : LI) : Option α :=
 bindO (Fe.l2_0.m n n (0, (List.getD s 1 0), s)) fun r2 =>
  some (mk0 r2)
def Fe.m (n : Nat) (t : LI) : Option LI := Fe.g (fun a0 => a0) n t
def Fe.pat : List AV → Blks → Option LI
 | [(.ptr 0 [])], [(some (.var (.ints .u64 25 s)))] => some s
 | _, _ => none
def Fe.shape (t : LI) : List AV × Blks := ([(.ptr 0 [])], [(some (.var (.ints .u64 25 t)))])
def Fe.res : LI → AV × Blks
 | u => ((.tup []), [(some (.var (.ints .u64 25 u)))])
def Fe.resK {R : Type} (u : LI) (K : AV → Blks → Option R) : Option R := K (Fe.res u).1 (Fe.res u).2
def Fe.c (n : Nat) : Abs.Callee := .mk' [true] [none] Fe.pat (Fe.m n) Fe.resK
end
end
section
noncomputable abbrev Fe.R0 (n : Nat) := roundOf (Fe.C n) (Fe.A n) n Fe.b0
theorem Fe.l2_0.rmap {α β : Type} (h : β → α) (mk0 : LI → β) (n : Nat) (f : Int → Int → LI → Option β)  (x0 : Int) (x1 : Int) (x2 : LI) : Fe.l2_0.r (fun a0 => (h (mk0 a0))) n (fun y0 y1 y2 => (f y0 y1 y2).map h) x0 x1 x2 = (Fe.l2_0.r mk0 n f x0 x1 x2).map h := by
  unfold Fe.l2_0.r
  exact (ite_map (ite_map (ite_map (ite_map (ite_map (ite_map (ite_map (ite_map (ite_map (bindO_map fun r22 => (ite_map (ite_map rfl rfl) rfl)) rfl) rfl) rfl) rfl) rfl) rfl) rfl) rfl) rfl)
theorem Fe.l2_0.gmap {α β : Type} (h : β → α) (mk0 : LI → β) (n : Nat) : ∀ (m : Nat) (x0 : Int) (x1 : Int) (x2 : LI), Fe.l2_0.g (fun a0 => (h (mk0 a0))) n m x0 x1 x2 = (Fe.l2_0.g mk0 n m x0 x1 x2).map h
  | 0, _, _, _ => rfl
  | m + 1, x0, x1, x2 => by
    unfold Fe.l2_0.g
    rw [← Fe.l2_0.rmap]
    congr
    · funext y0 y1 y2; exact Fe.l2_0.gmap h mk0 n m y0 y1 y2
theorem Fe.l2_0.pat_shape : ∀ st t, Fe.l2_0.pat st = some t → st = Fe.l2_0.shape t := fun _ _ h => by unfold Fe.l2_0.pat at h; split at h <;> cases h; rfl
def Fe.l2_0.k0 : LI → Ex × St := (fun a0 => (((.exit 0), (St.mk [] [(some (.var (.ints .u64 25 a0)))])) : Ex × St))
theorem Fe.l2_0.round (n : Nat) (rc : St → Option (Ex × St)) (x0 : Int) (x1 : Int) (x2 : LI) : Fe.R0 n rc ((St.mk [(.int .i64 x0), (.ptr 0 []), (.int .u64 x1)] [(some (.var (.ints .u64 25 x2)))])) = Fe.l2_0.r Fe.l2_0.k0 n (fun y0 y1 y2 => rc ((St.mk [(.int .i64 y0), (.ptr 0 []), (.int .u64 y1)] [(some (.var (.ints .u64 25 y2)))]))) x0 x1 x2 := by kernel_rfl
theorem Fe.l2_0.loop' (n : Nat) : ∀ (m : Nat) (t : (Int × (Int × LI))), loopOf (Fe.R0 n) m (Fe.l2_0.shape t) = Fe.l2_0.g Fe.l2_0.k0 n m t.1 t.2.1 t.2.2 :=
  loop_of_round (shape := Fe.l2_0.shape) (body := Fe.R0 n) (g := fun m t => Fe.l2_0.g Fe.l2_0.k0 n m t.1 t.2.1 t.2.2) (fun t => rfl)
    fun m t ih => (Fe.l2_0.round n (loopOf (Fe.R0 n) m) t.1 t.2.1 t.2.2).trans (congrFun (congrFun (congrFun (congrArg (Fe.l2_0.r Fe.l2_0.k0 n) (funext fun y0 => funext fun y1 => funext fun y2 => ih (y0, y1, y2))) t.1) t.2.1) t.2.2)
theorem Fe.l2_0.loop (n m : Nat) (t : (Int × (Int × LI))) : loopOf (Fe.R0 n) m (Fe.l2_0.shape t) = (Fe.l2_0.m n m t).map Fe.l2_0.res :=
  (Fe.l2_0.loop' n m t).trans (Fe.l2_0.gmap Fe.l2_0.res (fun a0 => a0) n m t.1 t.2.1 t.2.2)
theorem Fe.gmap {α β : Type} (h : β → α) (mk0 : LI → β) (n : Nat) (s : LI) : Fe.g (fun a0 => (h (mk0 a0))) n s = (Fe.g mk0 n s).map h := by
  unfold Fe.g
  exact (bindO_map fun r2 => rfl)
theorem Fe.run (n : Nat) (s : LI) : runF (Fe.C n) (Fe.A n) n Tryd.f125 [(.ptr 0 [])] [(some (.var (.ints .u64 25 s)))] (fun v o => some (v, o)) = Fe.g (fun a0 => (((.tup []), [(some (.var (.ints .u64 25 a0)))]) : AV × Blks)) n s := by kernel_rfl
theorem Fe.call (hmix : Tryd.prog.follows .mixedOrders = true) (n : Nat) (t : LI) (u) (h : Fe.m n t = some u) : FnC Tryd.prog abiG 125 (Fe.shape t).1 (Fe.shape t).2 (Fe.res u).1 (Fe.res u).2 :=
  fnC1 (C := Fe.C n) (A := Fe.A n) (fn := Tryd.f125) rfl (.cons (Fd.s hmix n) .nil) hmix Tryd.func125 (by kernel_rfl) (lp := [Fe.b0]) (by kernel_rfl) (.cons (show (Fe.A n).loop (key Fe.b0) = some (.mk' Fe.l2_0.pat (Fe.l2_0.m n n) Fe.l2_0.resK) by kernel_rfl) (LoopS.of (res := Fe.l2_0.res) (fun R u K => rfl) Fe.l2_0.pat_shape fun t => Fe.l2_0.loop n n t)
  .nil)
  (nj rfl) (by decide) rfl rfl (by show 1 ≤ Tryd.f125.ntmps; decide) (Fe.run n t) (Fe.gmap Fe.res (fun a0 => a0) n t) h
theorem Fe.s (hmix : Tryd.prog.follows .mixedOrders = true) (n : Nat) : CalleeS Tryd.prog abiG 125 (Fe.c n) :=
  .mk1 (res := Fe.res) (shape := Fe.shape) (fun R u K => rfl) (fun _ _ _ h => by unfold Fe.pat at h; split at h <;> cases h; rfl) (fun t u h => Fe.call hmix n t u h) Tryd.func125 (by decide) (by kernel_rfl)
end
section
noncomputable section
noncomputable def Fg.C (n : Nat) : Ctx := ⟨Tryd.prog, abiG, lookC [], fun _ => false⟩
def Fg.live : NL := fun k => match k with
 | 1 => ([2, 0], [])
 | 5 => ([17, 0, 2, 3], [2, 0])
 | _ => ([], [])
def Fg.l5_0.r {α : Type} (mk0 : Int → LI → α) (n : Nat) (rc : Int → Int → LI → LI → Option α)  (x0 : Int) (x1 : Int) (x2 : LI) (x3 : LI) : Option α :=
  if (decide (x0 < 5)) = true then
   if 0 ≤ x0 then
    if x0 < 5 then
     if 0 ≤ (Int.tmod (IntKind.wrap .i64 (x0 + 1)) 5) then
      if (Int.tmod (IntKind.wrap .i64 (x0 + 1)) 5) < 5 then
       if 0 ≤ (Int.tmod (IntKind.wrap .i64 (x0 + 2)) 5) then
        if (Int.tmod (IntKind.wrap .i64 (x0 + 2)) 5) < 5 then
         if 0 ≤ (IntKind.wrap .i64 (x1 + x0)) then
          if (IntKind.wrap .i64 (x1 + x0)) < 25 then
           rc (IntKind.wrap .i64 (x0 + 1)) x1 (List.set x2 (Int.toNat (IntKind.wrap .i64 (x1 + x0))) (ibits BinOp.xor .u64 (List.getD x3 (Int.toNat x0) 0) (ibits BinOp.and .u64 (ibits BinOp.xor .u64 (if false = true then (-1) else 18446744073709551615) (List.getD x3 (Int.toNat (Int.tmod (IntKind.wrap .i64 (x0 + 1)) 5)) 0)) (List.getD x3 (Int.toNat (Int.tmod (IntKind.wrap .i64 (x0 + 2)) 5)) 0)))) x3
          else
           none
         else
          none
        else
         none
       else
        none
      else
       none
     else
      none
    else
     none
   else
    none
  else
   some (mk0 x1 x2)
def Fg.l5_0.g {α : Type} (mk0 : Int → LI → α) (n : Nat) : Nat → Int → Int → LI → LI → Option α
 | 0, _, _, _, _ => none
 | m + 1, x0, x1, x2, x3 => Fg.l5_0.r mk0 n (fun y0 y1 y2 y3 => Fg.l5_0.g mk0 n m y0 y1 y2 y3)  x0 x1 x2 x3
def Fg.l5_0.m (n m : Nat) (t : (Int × (Int × (LI × LI)))) : Option (Int × LI) := Fg.l5_0.g (fun a0 a1 => (a0, a1)) n m t.1 t.2.1 t.2.2.1 t.2.2.2
def Fg.l5_0.pat : St → Option (Int × (Int × (LI × LI)))
 | (St.mk [(.int .i64 x0), (.ptr 0 []), (.int .i64 x1), (.ptr 1 [])] [(some (.var (.ints .u64 25 x2))), (some (.var (.ints .u64 5 x3)))]) => some (x0, x1, x2, x3)
 | _ => none
def Fg.l5_0.shape (t : (Int × (Int × (LI × LI)))) : St := (St.mk [(.int .i64 t.1), (.ptr 0 []), (.int .i64 t.2.1), (.ptr 1 [])] [(some (.var (.ints .u64 25 t.2.2.1))), (some (.var (.ints .u64 5 t.2.2.2)))])
def Fg.l5_0.res : (Int × LI) → Ex × St
 | u => ((.exit 2), (St.mk [(.int .i64 u.1), (.ptr 0 [])] [(some (.var (.ints .u64 25 u.2)))]))
def Fg.l5_0.resK {R : Type} (u : (Int × LI)) (K : Ex → St → Option R) : Option R := K (Fg.l5_0.res u).1 (Fg.l5_0.res u).2
def Fg.l1_0.r {α : Type} (mk0 : LI → α) (n : Nat) (rc : Int → LI → Option α)  (x0 : Int) (x1 : LI) : Option α :=
  if (decide (x0 < 25)) = true then
   if 0 ≤ (IntKind.wrap .i64 (x0 + 5)) then
    if (IntKind.wrap .i64 (x0 + 5)) ≤ 25 then
     if 0 ≤ x0 then
      if x0 ≤ (IntKind.wrap .i64 (x0 + 5)) then
       if 5 ≤ (Go.Abs.span 25 (Int.toNat x0) (Option.some (Int.toNat (IntKind.wrap .i64 (x0 + 5))))) then
        bindO (Fg.l5_0.m n n (0, x0, x1, (List.take 5 (List.drop (Int.toNat x0) x1)))) fun r16 =>
         rc (IntKind.wrap .i64 (r16.1 + 5)) r16.2
       else
        none
      else
       none
     else
      none
    else
     none
   else
    none
  else
   some (mk0 x1)
def Fg.l1_0.g {α : Type} (mk0 : LI → α) (n : Nat) : Nat → Int → LI → Option α
 | 0, _, _ => none
 | m + 1, x0, x1 => Fg.l1_0.r mk0 n (fun y0 y1 => Fg.l1_0.g mk0 n m y0 y1)  x0 x1
def Fg.l1_0.m (n m : Nat) (t : (Int × LI)) : Option LI := Fg.l1_0.g (fun a0 => a0) n m t.1 t.2
def Fg.l1_0.pat : St → Option (Int × LI)
 | (St.mk [(.int .i64 x0), (.ptr 0 [])] [(some (.var (.ints .u64 25 x1)))]) => some (x0, x1)
 | _ => none
def Fg.l1_0.shape (t : (Int × LI)) : St := (St.mk [(.int .i64 t.1), (.ptr 0 [])] [(some (.var (.ints .u64 25 t.2)))])
def Fg.l1_0.res : LI → Ex × St
 | u => ((.exit 0), (St.mk [] [(some (.var (.ints .u64 25 u)))]))
def Fg.l1_0.resK {R : Type} (u : LI) (K : Ex → St → Option R) : Option R := K (Fg.l1_0.res u).1 (Fg.l1_0.res u).2
noncomputable def Fg.A (n : Nat) : Ann := ⟨Tryd.f126.ntmps, 1, Fg.live, [], [], fun k => match k with
 | 5 => some (.mk' Fg.l5_0.pat (Fg.l5_0.m n n) Fg.l5_0.resK)
 | 1 => some (.mk' Fg.l1_0.pat (Fg.l1_0.m n n) Fg.l1_0.resK)
 | _ => none, noNL, lookJ []⟩
noncomputable def Fg.b0 : Code := (loopsIn (Tryd.f126.body.getD .skip)).getD 0 .skip
noncomputable def Fg.b1 : Code := (loopsIn (Tryd.f126.body.getD .skip)).getD 1 .skip
def Fg.g {α : Type} (mk0 : LI → α) (n : Nat) (s : LI) : Option α :=
 bindO (Fg.l1_0.m n n (0, s)) fun r2 =>
  some (mk0 r2)
def Fg.m (n : Nat) (t : LI) : Option LI := Fg.g (fun a0 => a0) n t
def Fg.pat : List AV → Blks → Option LI
 | [(.ptr 0 [])], [(some (.var (.ints .u64 25 s)))] => some s
 | _, _ => none
def Fg.shape (t : LI) : List AV × Blks := ([(.ptr 0 [])], [(some (.var (.ints .u64 25 t)))])
def Fg.res : LI → AV × Blks
 | u => ((.tup []), [(some (.var (.ints .u64 25 u)))])
def Fg.resK {R : Type} (u : LI) (K : AV → Blks → Option R) : Option R := K (Fg.res u).1 (Fg.res u).2
def Fg.c (n : Nat) : Abs.Callee := .mk' [true] [none] Fg.pat (Fg.m n) Fg.resK
end
end
section
noncomputable abbrev Fg.R0 (n : Nat) := roundOf (Fg.C n) (Fg.A n) n Fg.b0
noncomputable abbrev Fg.R1 (n : Nat) := roundOf (Fg.C n) (Fg.A n) n Fg.b1
theorem Fg.l5_0.rmap {α β : Type} (h : β → α) (mk0 : Int → LI → β) (n : Nat) (f : Int → Int → LI → LI → Option β)  (x0 : Int) (x1 : Int) (x2 : LI) (x3 : LI) : Fg.l5_0.r (fun a0 a1 => (h (mk0 a0 a1))) n (fun y0 y1 y2 y3 => (f y0 y1 y2 y3).map h) x0 x1 x2 x3 = (Fg.l5_0.r mk0 n f x0 x1 x2 x3).map h := by
  unfold Fg.l5_0.r
  exact (ite_map (ite_map (ite_map (ite_map (ite_map (ite_map (ite_map (ite_map (ite_map rfl rfl) rfl) rfl) rfl) rfl) rfl) rfl) rfl) rfl)
theorem Fg.l5_0.gmap {α β : Type} (h : β → α) (mk0 : Int → LI → β) (n : Nat) : ∀ (m : Nat) (x0 : Int) (x1 : Int) (x2 : LI) (x3 : LI), Fg.l5_0.g (fun a0 a1 => (h (mk0 a0 a1))) n m x0 x1 x2 x3 = (Fg.l5_0.g mk0 n m x0 x1 x2 x3).map h
  | 0, _, _, _, _ => rfl
  | m + 1, x0, x1, x2, x3 => by
    unfold Fg.l5_0.g
    rw [← Fg.l5_0.rmap]
    congr
    · funext y0 y1 y2 y3; exact Fg.l5_0.gmap h mk0 n m y0 y1 y2 y3
theorem Fg.l5_0.pat_shape : ∀ st t, Fg.l5_0.pat st = some t → st = Fg.l5_0.shape t := fun _ _ h => by unfold Fg.l5_0.pat at h; split at h <;> cases h; rfl
def Fg.l5_0.k0 : Int → LI → Ex × St := (fun a0 a1 => (((.exit 2), (St.mk [(.int .i64 a0), (.ptr 0 [])] [(some (.var (.ints .u64 25 a1)))])) : Ex × St))
theorem Fg.l5_0.round (n : Nat) (rc : St → Option (Ex × St)) (x0 : Int) (x1 : Int) (x2 : LI) (x3 : LI) : Fg.R1 n rc ((St.mk [(.int .i64 x0), (.ptr 0 []), (.int .i64 x1), (.ptr 1 [])] [(some (.var (.ints .u64 25 x2))), (some (.var (.ints .u64 5 x3)))])) = Fg.l5_0.r Fg.l5_0.k0 n (fun y0 y1 y2 y3 => rc ((St.mk [(.int .i64 y0), (.ptr 0 []), (.int .i64 y1), (.ptr 1 [])] [(some (.var (.ints .u64 25 y2))), (some (.var (.ints .u64 5 y3)))]))) x0 x1 x2 x3 := by kernel_rfl
theorem Fg.l5_0.loop' (n : Nat) : ∀ (m : Nat) (t : (Int × (Int × (LI × LI)))), loopOf (Fg.R1 n) m (Fg.l5_0.shape t) = Fg.l5_0.g Fg.l5_0.k0 n m t.1 t.2.1 t.2.2.1 t.2.2.2 :=
  loop_of_round (shape := Fg.l5_0.shape) (body := Fg.R1 n) (g := fun m t => Fg.l5_0.g Fg.l5_0.k0 n m t.1 t.2.1 t.2.2.1 t.2.2.2) (fun t => rfl)
    fun m t ih => (Fg.l5_0.round n (loopOf (Fg.R1 n) m) t.1 t.2.1 t.2.2.1 t.2.2.2).trans (congrFun (congrFun (congrFun (congrFun (congrArg (Fg.l5_0.r Fg.l5_0.k0 n) (funext fun y0 => funext fun y1 => funext fun y2 => funext fun y3 => ih (y0, y1, y2, y3))) t.1) t.2.1) t.2.2.1) t.2.2.2)
theorem Fg.l5_0.loop (n m : Nat) (t : (Int × (Int × (LI × LI)))) : loopOf (Fg.R1 n) m (Fg.l5_0.shape t) = (Fg.l5_0.m n m t).map Fg.l5_0.res :=
  (Fg.l5_0.loop' n m t).trans (Fg.l5_0.gmap Fg.l5_0.res (fun a0 a1 => (a0, a1)) n m t.1 t.2.1 t.2.2.1 t.2.2.2)
theorem Fg.l1_0.rmap {α β : Type} (h : β → α) (mk0 : LI → β) (n : Nat) (f : Int → LI → Option β)  (x0 : Int) (x1 : LI) : Fg.l1_0.r (fun a0 => (h (mk0 a0))) n (fun y0 y1 => (f y0 y1).map h) x0 x1 = (Fg.l1_0.r mk0 n f x0 x1).map h := by
  unfold Fg.l1_0.r
  exact (ite_map (ite_map (ite_map (ite_map (ite_map (ite_map (bindO_map fun r16 => rfl) rfl) rfl) rfl) rfl) rfl) rfl)
theorem Fg.l1_0.gmap {α β : Type} (h : β → α) (mk0 : LI → β) (n : Nat) : ∀ (m : Nat) (x0 : Int) (x1 : LI), Fg.l1_0.g (fun a0 => (h (mk0 a0))) n m x0 x1 = (Fg.l1_0.g mk0 n m x0 x1).map h
  | 0, _, _ => rfl
  | m + 1, x0, x1 => by
    unfold Fg.l1_0.g
    rw [← Fg.l1_0.rmap]
    congr
    · funext y0 y1; exact Fg.l1_0.gmap h mk0 n m y0 y1
theorem Fg.l1_0.pat_shape : ∀ st t, Fg.l1_0.pat st = some t → st = Fg.l1_0.shape t := fun _ _ h => by unfold Fg.l1_0.pat at h; split at h <;> cases h; rfl
def Fg.l1_0.k0 : LI → Ex × St := (fun a0 => (((.exit 0), (St.mk [] [(some (.var (.ints .u64 25 a0)))])) : Ex × St))
theorem Fg.l1_0.round (n : Nat) (rc : St → Option (Ex × St)) (x0 : Int) (x1 : LI) : Fg.R0 n rc ((St.mk [(.int .i64 x0), (.ptr 0 [])] [(some (.var (.ints .u64 25 x1)))])) = Fg.l1_0.r Fg.l1_0.k0 n (fun y0 y1 => rc ((St.mk [(.int .i64 y0), (.ptr 0 [])] [(some (.var (.ints .u64 25 y1)))]))) x0 x1 := by kernel_rfl
theorem Fg.l1_0.loop' (n : Nat) : ∀ (m : Nat) (t : (Int × LI)), loopOf (Fg.R0 n) m (Fg.l1_0.shape t) = Fg.l1_0.g Fg.l1_0.k0 n m t.1 t.2 :=
  loop_of_round (shape := Fg.l1_0.shape) (body := Fg.R0 n) (g := fun m t => Fg.l1_0.g Fg.l1_0.k0 n m t.1 t.2) (fun t => rfl)
    fun m t ih => (Fg.l1_0.round n (loopOf (Fg.R0 n) m) t.1 t.2).trans (congrFun (congrFun (congrArg (Fg.l1_0.r Fg.l1_0.k0 n) (funext fun y0 => funext fun y1 => ih (y0, y1))) t.1) t.2)
theorem Fg.l1_0.loop (n m : Nat) (t : (Int × LI)) : loopOf (Fg.R0 n) m (Fg.l1_0.shape t) = (Fg.l1_0.m n m t).map Fg.l1_0.res :=
  (Fg.l1_0.loop' n m t).trans (Fg.l1_0.gmap Fg.l1_0.res (fun a0 => a0) n m t.1 t.2)
theorem Fg.gmap {α β : Type} (h : β → α) (mk0 : LI → β) (n : Nat) (s : LI) : Fg.g (fun a0 => (h (mk0 a0))) n s = (Fg.g mk0 n s).map h := by
  unfold Fg.g
  exact (bindO_map fun r2 => rfl)
theorem Fg.run (n : Nat) (s : LI) : runF (Fg.C n) (Fg.A n) n Tryd.f126 [(.ptr 0 [])] [(some (.var (.ints .u64 25 s)))] (fun v o => some (v, o)) = Fg.g (fun a0 => (((.tup []), [(some (.var (.ints .u64 25 a0)))]) : AV × Blks)) n s := by kernel_rfl
theorem Fg.call (hmix : Tryd.prog.follows .mixedOrders = true) (n : Nat) (t : LI) (u) (h : Fg.m n t = some u) : FnC Tryd.prog abiG 126 (Fg.shape t).1 (Fg.shape t).2 (Fg.res u).1 (Fg.res u).2 :=
  fnC1 (C := Fg.C n) (A := Fg.A n) (fn := Tryd.f126) rfl .nil hmix Tryd.func126 (by kernel_rfl) (lp := [Fg.b0, Fg.b1]) (by kernel_rfl) (.cons (show (Fg.A n).loop (key Fg.b0) = some (.mk' Fg.l1_0.pat (Fg.l1_0.m n n) Fg.l1_0.resK) by kernel_rfl) (LoopS.of (res := Fg.l1_0.res) (fun R u K => rfl) Fg.l1_0.pat_shape fun t => Fg.l1_0.loop n n t)
  (.cons (show (Fg.A n).loop (key Fg.b1) = some (.mk' Fg.l5_0.pat (Fg.l5_0.m n n) Fg.l5_0.resK) by kernel_rfl) (LoopS.of (res := Fg.l5_0.res) (fun R u K => rfl) Fg.l5_0.pat_shape fun t => Fg.l5_0.loop n n t)
  .nil))
  (nj rfl) (by decide) rfl rfl (by show 1 ≤ Tryd.f126.ntmps; decide) (Fg.run n t) (Fg.gmap Fg.res (fun a0 => a0) n t) h
theorem Fg.s (hmix : Tryd.prog.follows .mixedOrders = true) (n : Nat) : CalleeS Tryd.prog abiG 126 (Fg.c n) :=
  .mk1 (res := Fg.res) (shape := Fg.shape) (fun R u K => rfl) (fun _ _ _ h => by unfold Fg.pat at h; split at h <;> cases h; rfl) (fun t u h => Fg.call hmix n t u h) Tryd.func126 (by decide) (by kernel_rfl)
end
section
noncomputable section
noncomputable def Fh.C (n : Nat) : Ctx := ⟨Tryd.prog, abiG, lookC [(124, Fb.c n), (125, Fe.c n), (126, Fg.c n)], fun _ => false⟩
def Fh.live : NL := fun k => match k with
 | 1 => ([3, 0], [])
 | _ => ([], [])
def Fh.l1_0.r {α : Type} (mk0 : LI → α) (n : Nat) (rc : Int → LI → Option α)  (x0 : Int) (x1 : LI) : Option α :=
  if (decide (x0 < 24)) = true then
   bindO (Fb.m n x1) fun r6 =>
    bindO (Fe.m n r6) fun r8 =>
     bindO (Fg.m n r8) fun r10 =>
      if 0 ≤ x0 then
       if x0 < 24 then
        rc (IntKind.wrap .i64 (x0 + 1)) (List.set r10 0 (ibits BinOp.xor .u64 (List.getD r10 0 0) (List.getD ([1, 32898, 9223372036854808714, 9223372039002292224, 32907, 2147483649, 9223372039002292353, 9223372036854808585, 138, 136, 2147516425, 2147483658, 2147516555, 9223372036854775947, 9223372036854808713, 9223372036854808579, 9223372036854808578, 9223372036854775936, 32778, 9223372039002259466, 9223372039002292353, 9223372036854808704, 2147483649, 9223372039002292232] : List Int) (Int.toNat x0) 0)))
       else
        none
      else
       none
  else
   some (mk0 x1)
def Fh.l1_0.g {α : Type} (mk0 : LI → α) (n : Nat) : Nat → Int → LI → Option α
 | 0, _, _ => none
 | m + 1, x0, x1 => Fh.l1_0.r mk0 n (fun y0 y1 => Fh.l1_0.g mk0 n m y0 y1)  x0 x1
def Fh.l1_0.m (n m : Nat) (t : (Int × LI)) : Option LI := Fh.l1_0.g (fun a0 => a0) n m t.1 t.2
def Fh.l1_0.pat : St → Option (Int × LI)
 | (St.mk [(.int .i64 x0), (.ptr 0 [])] [(some (.var (.ints .u64 25 x1)))]) => some (x0, x1)
 | _ => none
def Fh.l1_0.shape (t : (Int × LI)) : St := (St.mk [(.int .i64 t.1), (.ptr 0 [])] [(some (.var (.ints .u64 25 t.2)))])
def Fh.l1_0.res : LI → Ex × St
 | u => ((.exit 0), (St.mk [] [(some (.var (.ints .u64 25 u)))]))
def Fh.l1_0.resK {R : Type} (u : LI) (K : Ex → St → Option R) : Option R := K (Fh.l1_0.res u).1 (Fh.l1_0.res u).2
noncomputable def Fh.A (n : Nat) : Ann := ⟨Tryd.f111.ntmps, 1, Fh.live, [], [], fun k => match k with
 | 1 => some (.mk' Fh.l1_0.pat (Fh.l1_0.m n n) Fh.l1_0.resK)
 | _ => none, noNL, lookJ []⟩
noncomputable def Fh.b0 : Code := (loopsIn (Tryd.f111.body.getD .skip)).getD 0 .skip
def Fh.g {α : Type} (mk0 : LI → α) (n : Nat) (s : LI) : Option α :=
 bindO (Fh.l1_0.m n n (0, s)) fun r2 =>
  some (mk0 r2)
def Fh.m (n : Nat) (t : LI) : Option LI := Fh.g (fun a0 => a0) n t
def Fh.pat : List AV → Blks → Option LI
 | [(.ptr 0 [])], [(some (.var (.ints .u64 25 s)))] => some s
 | _, _ => none
def Fh.shape (t : LI) : List AV × Blks := ([(.ptr 0 [])], [(some (.var (.ints .u64 25 t)))])
def Fh.res : LI → AV × Blks
 | u => ((.tup []), [(some (.var (.ints .u64 25 u)))])
def Fh.resK {R : Type} (u : LI) (K : AV → Blks → Option R) : Option R := K (Fh.res u).1 (Fh.res u).2
def Fh.c (n : Nat) : Abs.Callee := .mk' [true] [none] Fh.pat (Fh.m n) Fh.resK
end
end
section
noncomputable abbrev Fh.R0 (n : Nat) := roundOf (Fh.C n) (Fh.A n) n Fh.b0
theorem Fh.l1_0.rmap {α β : Type} (h : β → α) (mk0 : LI → β) (n : Nat) (f : Int → LI → Option β)  (x0 : Int) (x1 : LI) : Fh.l1_0.r (fun a0 => (h (mk0 a0))) n (fun y0 y1 => (f y0 y1).map h) x0 x1 = (Fh.l1_0.r mk0 n f x0 x1).map h := by
  unfold Fh.l1_0.r
  exact (ite_map (bindO_map fun r6 => (bindO_map fun r8 => (bindO_map fun r10 => (ite_map (ite_map rfl rfl) rfl)))) rfl)
theorem Fh.l1_0.gmap {α β : Type} (h : β → α) (mk0 : LI → β) (n : Nat) : ∀ (m : Nat) (x0 : Int) (x1 : LI), Fh.l1_0.g (fun a0 => (h (mk0 a0))) n m x0 x1 = (Fh.l1_0.g mk0 n m x0 x1).map h
  | 0, _, _ => rfl
  | m + 1, x0, x1 => by
    unfold Fh.l1_0.g
    rw [← Fh.l1_0.rmap]
    congr
    · funext y0 y1; exact Fh.l1_0.gmap h mk0 n m y0 y1
theorem Fh.l1_0.pat_shape : ∀ st t, Fh.l1_0.pat st = some t → st = Fh.l1_0.shape t := fun _ _ h => by unfold Fh.l1_0.pat at h; split at h <;> cases h; rfl
def Fh.l1_0.k0 : LI → Ex × St := (fun a0 => (((.exit 0), (St.mk [] [(some (.var (.ints .u64 25 a0)))])) : Ex × St))
theorem Fh.l1_0.round (n : Nat) (rc : St → Option (Ex × St)) (x0 : Int) (x1 : LI) : Fh.R0 n rc ((St.mk [(.int .i64 x0), (.ptr 0 [])] [(some (.var (.ints .u64 25 x1)))])) = Fh.l1_0.r Fh.l1_0.k0 n (fun y0 y1 => rc ((St.mk [(.int .i64 y0), (.ptr 0 [])] [(some (.var (.ints .u64 25 y1)))]))) x0 x1 := by kernel_rfl
theorem Fh.l1_0.loop' (n : Nat) : ∀ (m : Nat) (t : (Int × LI)), loopOf (Fh.R0 n) m (Fh.l1_0.shape t) = Fh.l1_0.g Fh.l1_0.k0 n m t.1 t.2 :=
  loop_of_round (shape := Fh.l1_0.shape) (body := Fh.R0 n) (g := fun m t => Fh.l1_0.g Fh.l1_0.k0 n m t.1 t.2) (fun t => rfl)
    fun m t ih => (Fh.l1_0.round n (loopOf (Fh.R0 n) m) t.1 t.2).trans (congrFun (congrFun (congrArg (Fh.l1_0.r Fh.l1_0.k0 n) (funext fun y0 => funext fun y1 => ih (y0, y1))) t.1) t.2)
theorem Fh.l1_0.loop (n m : Nat) (t : (Int × LI)) : loopOf (Fh.R0 n) m (Fh.l1_0.shape t) = (Fh.l1_0.m n m t).map Fh.l1_0.res :=
  (Fh.l1_0.loop' n m t).trans (Fh.l1_0.gmap Fh.l1_0.res (fun a0 => a0) n m t.1 t.2)
theorem Fh.gmap {α β : Type} (h : β → α) (mk0 : LI → β) (n : Nat) (s : LI) : Fh.g (fun a0 => (h (mk0 a0))) n s = (Fh.g mk0 n s).map h := by
  unfold Fh.g
  exact (bindO_map fun r2 => rfl)
theorem Fh.run (n : Nat) (s : LI) : runF (Fh.C n) (Fh.A n) n Tryd.f111 [(.ptr 0 [])] [(some (.var (.ints .u64 25 s)))] (fun v o => some (v, o)) = Fh.g (fun a0 => (((.tup []), [(some (.var (.ints .u64 25 a0)))]) : AV × Blks)) n s := by kernel_rfl
theorem Fh.call (hmix : Tryd.prog.follows .mixedOrders = true) (n : Nat) (t : LI) (u) (h : Fh.m n t = some u) : FnC Tryd.prog abiG 111 (Fh.shape t).1 (Fh.shape t).2 (Fh.res u).1 (Fh.res u).2 :=
  fnC1 (C := Fh.C n) (A := Fh.A n) (fn := Tryd.f111) rfl (.cons (Fb.s hmix n) (.cons (Fe.s hmix n) (.cons (Fg.s hmix n) .nil))) hmix Tryd.func111 (by kernel_rfl) (lp := [Fh.b0]) (by kernel_rfl) (.cons (show (Fh.A n).loop (key Fh.b0) = some (.mk' Fh.l1_0.pat (Fh.l1_0.m n n) Fh.l1_0.resK) by kernel_rfl) (LoopS.of (res := Fh.l1_0.res) (fun R u K => rfl) Fh.l1_0.pat_shape fun t => Fh.l1_0.loop n n t)
  .nil)
  (nj rfl) (by decide) rfl rfl (by show 1 ≤ Tryd.f111.ntmps; decide) (Fh.run n t) (Fh.gmap Fh.res (fun a0 => a0) n t) h
theorem Fh.s (hmix : Tryd.prog.follows .mixedOrders = true) (n : Nat) : CalleeS Tryd.prog abiG 111 (Fh.c n) :=
  .mk1 (res := Fh.res) (shape := Fh.shape) (fun R u K => rfl) (fun _ _ _ h => by unfold Fh.pat at h; split at h <;> cases h; rfl) (fun t u h => Fh.call hmix n t u h) Tryd.func111 (by decide) (by kernel_rfl)
end
section
noncomputable section
noncomputable def Fby.C (n : Nat) : Ctx := ⟨Tryd.prog, abiG, lookC [], fun _ => false⟩
noncomputable def Fby.A (n : Nat) : Ann := ⟨Tryd.f116.ntmps, 0, noNL, [], [none], fun k => match k with
 | _ => none, noNL, lookJ []⟩
def Fby.g {α : Type} (mk0 : Int → α) (n : Nat) (a0 : Int) (a1 : Int) : Option α :=
 if (a1 == 0) = true then
  some (mk0 a0)
 else
  if 0 ≤ (IntKind.wrap .u64 a1) then
   if 0 ≤ (IntKind.wrap .u64 (IntKind.wrap .i64 (64 - a1))) then
    some (mk0 (ibits BinOp.or .u64 (ishl .u64 a0 (IntKind.wrap .u64 a1)) (ishr .u64 a0 (IntKind.wrap .u64 (IntKind.wrap .i64 (64 - a1))))))
   else
    none
  else
   none
def Fby.m (n : Nat) (t : (Int × Int)) : Option Int := Fby.g (fun a0 => a0) n t.1 t.2
def Fby.pat : List AV → Blks → Option (Int × Int)
 | [(.int .u64 a0), (.int .i64 a1)], [] => some (a0, a1)
 | _, _ => none
def Fby.shape (t : (Int × Int)) : List AV × Blks := ([(.int .u64 t.1), (.int .i64 t.2)], [])
def Fby.res : Int → AV × Blks
 | u => ((.int .u64 u), [])
def Fby.resK {R : Type} (u : Int) (K : AV → Blks → Option R) : Option R := K (Fby.res u).1 (Fby.res u).2
def Fby.c (n : Nat) : Abs.Callee := .mk' [] [none, none] Fby.pat (Fby.m n) Fby.resK
end
end
section
noncomputable section
noncomputable def Fbz.C (n : Nat) : Ctx := ⟨Tryd.prog, abiG, lookC [(116, Fby.c n)], fun _ => false⟩
def Fbz.live : NL := fun k => match k with
 | 2 => ([7, 0, 1, 2], [0])
 | 6 => ([9, 8, 0, 1, 2, 7], [8, 0, 1, 2, 7])
 | 11 => ([11, 8, 10, 0, 1, 2, 7], [10, 2, 7, 1])
 | 15 => ([13, 10, 11, 0, 12, 1, 8, 2, 7], [11, 8, 10, 0, 1, 2, 7])
 | 20 => ([15, 14, 10, 2, 7, 1], [14, 2, 7, 1])
 | 23 => ([16, 14, 10, 15, 2, 7, 1], [15, 14, 10, 2, 7, 1])
 | _ => ([], [])
def Fbz.l6_0.r {α : Type} (mk0 : LI → LI → LI → Int → LI → α) (n : Nat) (rc : Int → LI → LI → LI → Int → LI → Option α)  (x0 : Int) (x1 : LI) (x2 : LI) (x3 : LI) (x4 : Int) (x5 : LI) : Option α :=
  if (decide (x0 < 5)) = true then
   if 0 ≤ x0 then
    if x0 < (((List.length x1) : Nat) : Int) then
     if 0 ≤ (IntKind.wrap .i64 (5 + x0)) then
      if (IntKind.wrap .i64 (5 + x0)) < (((List.length x1) : Nat) : Int) then
       if 0 ≤ (IntKind.wrap .i64 (10 + x0)) then
        if (IntKind.wrap .i64 (10 + x0)) < (((List.length x1) : Nat) : Int) then
         if 0 ≤ (IntKind.wrap .i64 (15 + x0)) then
          if (IntKind.wrap .i64 (15 + x0)) < (((List.length x1) : Nat) : Int) then
           if 0 ≤ (IntKind.wrap .i64 (20 + x0)) then
            if (IntKind.wrap .i64 (20 + x0)) < (((List.length x1) : Nat) : Int) then
             if ((((List.length x5) + 1) * 8) ≤ 70368744177664 ∧ ((List.length x5) + 1) ≤ 9223372036854775807) then
              rc (IntKind.wrap .i64 (x0 + 1)) x1 x2 x3 x4 (x5 ++ [(ibits BinOp.xor .u64 (ibits BinOp.xor .u64 (ibits BinOp.xor .u64 (ibits BinOp.xor .u64 (List.getD x1 (Int.toNat x0) 0) (List.getD x1 (Int.toNat (IntKind.wrap .i64 (5 + x0))) 0)) (List.getD x1 (Int.toNat (IntKind.wrap .i64 (10 + x0))) 0)) (List.getD x1 (Int.toNat (IntKind.wrap .i64 (15 + x0))) 0)) (List.getD x1 (Int.toNat (IntKind.wrap .i64 (20 + x0))) 0))])
             else
              none
            else
             none
           else
            none
          else
           none
         else
          none
        else
         none
       else
        none
      else
       none
     else
      none
    else
     none
   else
    none
  else
   some (mk0 x1 x2 x3 x4 x5)
def Fbz.l6_0.g {α : Type} (mk0 : LI → LI → LI → Int → LI → α) (n : Nat) : Nat → Int → LI → LI → LI → Int → LI → Option α
 | 0, _, _, _, _, _, _ => none
 | m + 1, x0, x1, x2, x3, x4, x5 => Fbz.l6_0.r mk0 n (fun y0 y1 y2 y3 y4 y5 => Fbz.l6_0.g mk0 n m y0 y1 y2 y3 y4 y5)  x0 x1 x2 x3 x4 x5
def Fbz.l6_0.m (n m : Nat) (t : (Int × (LI × (LI × (LI × (Int × LI)))))) : Option (LI × (LI × (LI × (Int × LI)))) := Fbz.l6_0.g (fun a0 a1 a2 a3 a4 => (a0, a1, a2, a3, a4)) n m t.1 t.2.1 t.2.2.1 t.2.2.2.1 t.2.2.2.2.1 t.2.2.2.2.2
def Fbz.l6_0.pat : St → Option (Int × (LI × (LI × (LI × (Int × LI)))))
 | (St.mk [(.int .i64 x0), (.own 0 1), (.rints .u64 x1), (.rints .i64 x2), (.rints .u64 x3), (.int .i64 x4)] [(some (.ints .u64 x5))]) => some (x0, x1, x2, x3, x4, x5)
 | _ => none
def Fbz.l6_0.shape (t : (Int × (LI × (LI × (LI × (Int × LI)))))) : St := (St.mk [(.int .i64 t.1), (.own 0 1), (.rints .u64 t.2.1), (.rints .i64 t.2.2.1), (.rints .u64 t.2.2.2.1), (.int .i64 t.2.2.2.2.1)] [(some (.ints .u64 t.2.2.2.2.2))])
def Fbz.l6_0.res : (LI × (LI × (LI × (Int × LI)))) → Ex × St
 | u => ((.exit 2), (St.mk [(.own 0 1), (.rints .u64 u.1), (.rints .i64 u.2.1), (.rints .u64 u.2.2.1), (.int .i64 u.2.2.2.1)] [(some (.ints .u64 u.2.2.2.2))]))
def Fbz.l6_0.resK {R : Type} (u : (LI × (LI × (LI × (Int × LI))))) (K : Ex → St → Option R) : Option R := K (Fbz.l6_0.res u).1 (Fbz.l6_0.res u).2
def Fbz.l15_0.r {α : Type} (mk0 : Int → LI → LI → LI → Int → LI → LI → α) (n : Nat) (rc : Int → Int → LI → Int → LI → LI → Int → LI → LI → Option α)  (x0 : Int) (x1 : Int) (x2 : LI) (x3 : Int) (x4 : LI) (x5 : LI) (x6 : Int) (x7 : LI) (x8 : LI) : Option α :=
  if (decide (x0 < 5)) = true then
   if 0 ≤ (IntKind.wrap .i64 ((IntKind.wrap .i64 (5 * x0)) + x1)) then
    if (IntKind.wrap .i64 ((IntKind.wrap .i64 (5 * x0)) + x1)) < (((List.length x2) : Nat) : Int) then
     if 0 ≤ (IntKind.wrap .i64 ((IntKind.wrap .i64 (5 * x0)) + x1)) then
      if (IntKind.wrap .i64 ((IntKind.wrap .i64 (5 * x0)) + x1)) < (((List.length x4) : Nat) : Int) then
       bindO (Fby.m n ((ibits BinOp.xor .u64 (List.getD x2 (Int.toNat (IntKind.wrap .i64 ((IntKind.wrap .i64 (5 * x0)) + x1))) 0) x3), (List.getD x4 (Int.toNat (IntKind.wrap .i64 ((IntKind.wrap .i64 (5 * x0)) + x1))) 0))) fun r14 =>
        if 0 ≤ (IntKind.wrap .i64 ((IntKind.wrap .i64 (5 * (Int.tmod (IntKind.wrap .i64 ((IntKind.wrap .i64 (2 * x1)) + (IntKind.wrap .i64 (3 * x0)))) 5))) + x0)) then
         if (IntKind.wrap .i64 ((IntKind.wrap .i64 (5 * (Int.tmod (IntKind.wrap .i64 ((IntKind.wrap .i64 (2 * x1)) + (IntKind.wrap .i64 (3 * x0)))) 5))) + x0)) < (((List.length x7) : Nat) : Int) then
          rc (IntKind.wrap .i64 (x0 + 1)) x1 x2 x3 x4 x5 x6 (List.set x7 (Int.toNat (IntKind.wrap .i64 ((IntKind.wrap .i64 (5 * (Int.tmod (IntKind.wrap .i64 ((IntKind.wrap .i64 (2 * x1)) + (IntKind.wrap .i64 (3 * x0)))) 5))) + x0))) r14) x8
         else
          none
        else
         none
      else
       none
     else
      none
    else
     none
   else
    none
  else
   some (mk0 x1 x2 x4 x5 x6 x8 x7)
def Fbz.l15_0.g {α : Type} (mk0 : Int → LI → LI → LI → Int → LI → LI → α) (n : Nat) : Nat → Int → Int → LI → Int → LI → LI → Int → LI → LI → Option α
 | 0, _, _, _, _, _, _, _, _, _ => none
 | m + 1, x0, x1, x2, x3, x4, x5, x6, x7, x8 => Fbz.l15_0.r mk0 n (fun y0 y1 y2 y3 y4 y5 y6 y7 y8 => Fbz.l15_0.g mk0 n m y0 y1 y2 y3 y4 y5 y6 y7 y8)  x0 x1 x2 x3 x4 x5 x6 x7 x8
def Fbz.l15_0.m (n m : Nat) (t : (Int × (Int × (LI × (Int × (LI × (LI × (Int × (LI × LI))))))))) : Option (Int × (LI × (LI × (LI × (Int × (LI × LI)))))) := Fbz.l15_0.g (fun a0 a1 a2 a3 a4 a5 a6 => (a0, a1, a2, a3, a4, a5, a6)) n m t.1 t.2.1 t.2.2.1 t.2.2.2.1 t.2.2.2.2.1 t.2.2.2.2.2.1 t.2.2.2.2.2.2.1 t.2.2.2.2.2.2.2.1 t.2.2.2.2.2.2.2.2
def Fbz.l15_0.pat : St → Option (Int × (Int × (LI × (Int × (LI × (LI × (Int × (LI × LI))))))))
 | (St.mk [(.int .i64 x0), (.own 0 1), (.int .i64 x1), (.rints .u64 x2), (.int .u64 x3), (.rints .i64 x4), (.own 1 1), (.rints .u64 x5), (.int .i64 x6)] [(some (.ints .u64 x7)), (some (.ints .u64 x8))]) => some (x0, x1, x2, x3, x4, x5, x6, x7, x8)
 | _ => none
def Fbz.l15_0.shape (t : (Int × (Int × (LI × (Int × (LI × (LI × (Int × (LI × LI))))))))) : St := (St.mk [(.int .i64 t.1), (.own 0 1), (.int .i64 t.2.1), (.rints .u64 t.2.2.1), (.int .u64 t.2.2.2.1), (.rints .i64 t.2.2.2.2.1), (.own 1 1), (.rints .u64 t.2.2.2.2.2.1), (.int .i64 t.2.2.2.2.2.2.1)] [(some (.ints .u64 t.2.2.2.2.2.2.2.1)), (some (.ints .u64 t.2.2.2.2.2.2.2.2))])
def Fbz.l15_0.res : (Int × (LI × (LI × (LI × (Int × (LI × LI)))))) → Ex × St
 | u => ((.exit 6), (St.mk [(.int .i64 u.1), (.own 0 1), (.own 1 1), (.rints .u64 u.2.1), (.rints .i64 u.2.2.1), (.rints .u64 u.2.2.2.1), (.int .i64 u.2.2.2.2.1)] [(some (.ints .u64 u.2.2.2.2.2.1)), (some (.ints .u64 u.2.2.2.2.2.2))]))
def Fbz.l15_0.resK {R : Type} (u : (Int × (LI × (LI × (LI × (Int × (LI × LI))))))) (K : Ex → St → Option R) : Option R := K (Fbz.l15_0.res u).1 (Fbz.l15_0.res u).2
def Fbz.l11_0.r {α : Type} (mk0 : LI → Int → LI → LI → α) (n : Nat) (rc : Int → LI → LI → LI → Int → LI → LI → Option α)  (x0 : Int) (x1 : LI) (x2 : LI) (x3 : LI) (x4 : Int) (x5 : LI) (x6 : LI) : Option α :=
  if (decide (x0 < 5)) = true then
   if 0 ≤ (Int.tmod (IntKind.wrap .i64 (x0 + 4)) 5) then
    if (Int.tmod (IntKind.wrap .i64 (x0 + 4)) 5) < (((List.length x5) : Nat) : Int) then
     if 0 ≤ (Int.tmod (IntKind.wrap .i64 (x0 + 1)) 5) then
      if (Int.tmod (IntKind.wrap .i64 (x0 + 1)) 5) < (((List.length x5) : Nat) : Int) then
       bindO (Fby.m n ((List.getD x5 (Int.toNat (Int.tmod (IntKind.wrap .i64 (x0 + 1)) 5)) 0), 1)) fun r14 =>
        bindO (Fbz.l15_0.m n n (0, x0, x1, (ibits BinOp.xor .u64 (List.getD x5 (Int.toNat (Int.tmod (IntKind.wrap .i64 (x0 + 4)) 5)) 0) r14), x2, x3, x4, x6, x5)) fun r16 =>
         rc (IntKind.wrap .i64 (r16.1 + 1)) r16.2.1 r16.2.2.1 r16.2.2.2.1 r16.2.2.2.2.1 r16.2.2.2.2.2.1 r16.2.2.2.2.2.2
      else
       none
     else
      none
    else
     none
   else
    none
  else
   some (mk0 x3 x4 x2 x6)
def Fbz.l11_0.g {α : Type} (mk0 : LI → Int → LI → LI → α) (n : Nat) : Nat → Int → LI → LI → LI → Int → LI → LI → Option α
 | 0, _, _, _, _, _, _, _ => none
 | m + 1, x0, x1, x2, x3, x4, x5, x6 => Fbz.l11_0.r mk0 n (fun y0 y1 y2 y3 y4 y5 y6 => Fbz.l11_0.g mk0 n m y0 y1 y2 y3 y4 y5 y6)  x0 x1 x2 x3 x4 x5 x6
def Fbz.l11_0.m (n m : Nat) (t : (Int × (LI × (LI × (LI × (Int × (LI × LI))))))) : Option (LI × (Int × (LI × LI))) := Fbz.l11_0.g (fun a0 a1 a2 a3 => (a0, a1, a2, a3)) n m t.1 t.2.1 t.2.2.1 t.2.2.2.1 t.2.2.2.2.1 t.2.2.2.2.2.1 t.2.2.2.2.2.2
def Fbz.l11_0.pat : St → Option (Int × (LI × (LI × (LI × (Int × (LI × LI))))))
 | (St.mk [(.int .i64 x0), (.own 0 1), (.own 1 1), (.rints .u64 x1), (.rints .i64 x2), (.rints .u64 x3), (.int .i64 x4)] [(some (.ints .u64 x5)), (some (.ints .u64 x6))]) => some (x0, x1, x2, x3, x4, x5, x6)
 | _ => none
def Fbz.l11_0.shape (t : (Int × (LI × (LI × (LI × (Int × (LI × LI))))))) : St := (St.mk [(.int .i64 t.1), (.own 0 1), (.own 1 1), (.rints .u64 t.2.1), (.rints .i64 t.2.2.1), (.rints .u64 t.2.2.2.1), (.int .i64 t.2.2.2.2.1)] [(some (.ints .u64 t.2.2.2.2.2.1)), (some (.ints .u64 t.2.2.2.2.2.2))])
def Fbz.l11_0.res : (LI × (Int × (LI × LI))) → Ex × St
 | u => ((.exit 4), (St.mk [(.own 0 1), (.rints .u64 u.1), (.int .i64 u.2.1), (.rints .i64 u.2.2.1)] [(some (.ints .u64 u.2.2.2))]))
def Fbz.l11_0.resK {R : Type} (u : (LI × (Int × (LI × LI)))) (K : Ex → St → Option R) : Option R := K (Fbz.l11_0.res u).1 (Fbz.l11_0.res u).2
def Fbz.l23_0.r {α : Type} (mk0 : Int → LI → Int → LI → LI → LI → α) (n : Nat) (rc : Int → Int → LI → Int → LI → LI → LI → Option α)  (x0 : Int) (x1 : Int) (x2 : LI) (x3 : Int) (x4 : LI) (x5 : LI) (x6 : LI) : Option α :=
  if (decide (x0 < 5)) = true then
   if 0 ≤ (IntKind.wrap .i64 ((IntKind.wrap .i64 (5 * x1)) + x0)) then
    if (IntKind.wrap .i64 ((IntKind.wrap .i64 (5 * x1)) + x0)) < (((List.length x6) : Nat) : Int) then
     if 0 ≤ (IntKind.wrap .i64 ((IntKind.wrap .i64 (5 * x1)) + (Int.tmod (IntKind.wrap .i64 (x0 + 1)) 5))) then
      if (IntKind.wrap .i64 ((IntKind.wrap .i64 (5 * x1)) + (Int.tmod (IntKind.wrap .i64 (x0 + 1)) 5))) < (((List.length x6) : Nat) : Int) then
       if 0 ≤ (IntKind.wrap .i64 ((IntKind.wrap .i64 (5 * x1)) + (Int.tmod (IntKind.wrap .i64 (x0 + 2)) 5))) then
        if (IntKind.wrap .i64 ((IntKind.wrap .i64 (5 * x1)) + (Int.tmod (IntKind.wrap .i64 (x0 + 2)) 5))) < (((List.length x6) : Nat) : Int) then
         if ((((List.length x5) + 1) * 8) ≤ 70368744177664 ∧ ((List.length x5) + 1) ≤ 9223372036854775807) then
          rc (IntKind.wrap .i64 (x0 + 1)) x1 x2 x3 x4 (x5 ++ [(ibits BinOp.xor .u64 (List.getD x6 (Int.toNat (IntKind.wrap .i64 ((IntKind.wrap .i64 (5 * x1)) + x0))) 0) (ibits BinOp.and .u64 (ibits BinOp.xor .u64 (if false = true then (-1) else 18446744073709551615) (List.getD x6 (Int.toNat (IntKind.wrap .i64 ((IntKind.wrap .i64 (5 * x1)) + (Int.tmod (IntKind.wrap .i64 (x0 + 1)) 5)))) 0)) (List.getD x6 (Int.toNat (IntKind.wrap .i64 ((IntKind.wrap .i64 (5 * x1)) + (Int.tmod (IntKind.wrap .i64 (x0 + 2)) 5)))) 0)))]) x6
         else
          none
        else
         none
       else
        none
      else
       none
     else
      none
    else
     none
   else
    none
  else
   some (mk0 x1 x2 x3 x4 x5 x6)
def Fbz.l23_0.g {α : Type} (mk0 : Int → LI → Int → LI → LI → LI → α) (n : Nat) : Nat → Int → Int → LI → Int → LI → LI → LI → Option α
 | 0, _, _, _, _, _, _, _ => none
 | m + 1, x0, x1, x2, x3, x4, x5, x6 => Fbz.l23_0.r mk0 n (fun y0 y1 y2 y3 y4 y5 y6 => Fbz.l23_0.g mk0 n m y0 y1 y2 y3 y4 y5 y6)  x0 x1 x2 x3 x4 x5 x6
def Fbz.l23_0.m (n m : Nat) (t : (Int × (Int × (LI × (Int × (LI × (LI × LI))))))) : Option (Int × (LI × (Int × (LI × (LI × LI))))) := Fbz.l23_0.g (fun a0 a1 a2 a3 a4 a5 => (a0, a1, a2, a3, a4, a5)) n m t.1 t.2.1 t.2.2.1 t.2.2.2.1 t.2.2.2.2.1 t.2.2.2.2.2.1 t.2.2.2.2.2.2
def Fbz.l23_0.pat : St → Option (Int × (Int × (LI × (Int × (LI × (LI × LI))))))
 | (St.mk [(.int .i64 x0), (.own 0 1), (.own 1 1), (.int .i64 x1), (.rints .u64 x2), (.int .i64 x3), (.rints .i64 x4)] [(some (.ints .u64 x5)), (some (.ints .u64 x6))]) => some (x0, x1, x2, x3, x4, x5, x6)
 | _ => none
def Fbz.l23_0.shape (t : (Int × (Int × (LI × (Int × (LI × (LI × LI))))))) : St := (St.mk [(.int .i64 t.1), (.own 0 1), (.own 1 1), (.int .i64 t.2.1), (.rints .u64 t.2.2.1), (.int .i64 t.2.2.2.1), (.rints .i64 t.2.2.2.2.1)] [(some (.ints .u64 t.2.2.2.2.2.1)), (some (.ints .u64 t.2.2.2.2.2.2))])
def Fbz.l23_0.res : (Int × (LI × (Int × (LI × (LI × LI))))) → Ex × St
 | u => ((.exit 10), (St.mk [(.int .i64 u.1), (.own 0 1), (.own 1 1), (.rints .u64 u.2.1), (.int .i64 u.2.2.1), (.rints .i64 u.2.2.2.1)] [(some (.ints .u64 u.2.2.2.2.1)), (some (.ints .u64 u.2.2.2.2.2))]))
def Fbz.l23_0.resK {R : Type} (u : (Int × (LI × (Int × (LI × (LI × LI)))))) (K : Ex → St → Option R) : Option R := K (Fbz.l23_0.res u).1 (Fbz.l23_0.res u).2
def Fbz.l20_0.r {α : Type} (mk0 : LI → Int → LI → LI → α) (n : Nat) (rc : Int → LI → Int → LI → LI → LI → Option α)  (x0 : Int) (x1 : LI) (x2 : Int) (x3 : LI) (x4 : LI) (x5 : LI) : Option α :=
  if (decide (x0 < 5)) = true then
   bindO (Fbz.l23_0.m n n (0, x0, x1, x2, x3, x4, x5)) fun r6 =>
    rc (IntKind.wrap .i64 (r6.1 + 1)) r6.2.1 r6.2.2.1 r6.2.2.2.1 r6.2.2.2.2.1 r6.2.2.2.2.2
  else
   some (mk0 x1 x2 x3 x4)
def Fbz.l20_0.g {α : Type} (mk0 : LI → Int → LI → LI → α) (n : Nat) : Nat → Int → LI → Int → LI → LI → LI → Option α
 | 0, _, _, _, _, _, _ => none
 | m + 1, x0, x1, x2, x3, x4, x5 => Fbz.l20_0.r mk0 n (fun y0 y1 y2 y3 y4 y5 => Fbz.l20_0.g mk0 n m y0 y1 y2 y3 y4 y5)  x0 x1 x2 x3 x4 x5
def Fbz.l20_0.m (n m : Nat) (t : (Int × (LI × (Int × (LI × (LI × LI)))))) : Option (LI × (Int × (LI × LI))) := Fbz.l20_0.g (fun a0 a1 a2 a3 => (a0, a1, a2, a3)) n m t.1 t.2.1 t.2.2.1 t.2.2.2.1 t.2.2.2.2.1 t.2.2.2.2.2
def Fbz.l20_0.pat : St → Option (Int × (LI × (Int × (LI × (LI × LI)))))
 | (St.mk [(.int .i64 x0), (.own 0 1), (.own 1 1), (.rints .u64 x1), (.int .i64 x2), (.rints .i64 x3)] [(some (.ints .u64 x4)), (some (.ints .u64 x5))]) => some (x0, x1, x2, x3, x4, x5)
 | _ => none
def Fbz.l20_0.shape (t : (Int × (LI × (Int × (LI × (LI × LI)))))) : St := (St.mk [(.int .i64 t.1), (.own 0 1), (.own 1 1), (.rints .u64 t.2.1), (.int .i64 t.2.2.1), (.rints .i64 t.2.2.2.1)] [(some (.ints .u64 t.2.2.2.2.1)), (some (.ints .u64 t.2.2.2.2.2))])
def Fbz.l20_0.res : (LI × (Int × (LI × LI))) → Ex × St
 | u => ((.exit 8), (St.mk [(.own 0 1), (.rints .u64 u.1), (.int .i64 u.2.1), (.rints .i64 u.2.2.1)] [(some (.ints .u64 u.2.2.2))]))
def Fbz.l20_0.resK {R : Type} (u : (LI × (Int × (LI × LI)))) (K : Ex → St → Option R) : Option R := K (Fbz.l20_0.res u).1 (Fbz.l20_0.res u).2
def Fbz.l6v1_0.r {α : Type} (mk0 : LI → LI → Int → LI → LI → α) (n : Nat) (rc : Int → LI → LI → Int → LI → LI → Option α)  (x0 : Int) (x1 : LI) (x2 : LI) (x3 : Int) (x4 : LI) (x5 : LI) : Option α :=
  if (decide (x0 < 5)) = true then
   if 0 ≤ x0 then
    if x0 < (((List.length x5) : Nat) : Int) then
     if 0 ≤ (IntKind.wrap .i64 (5 + x0)) then
      if (IntKind.wrap .i64 (5 + x0)) < (((List.length x5) : Nat) : Int) then
       if 0 ≤ (IntKind.wrap .i64 (10 + x0)) then
        if (IntKind.wrap .i64 (10 + x0)) < (((List.length x5) : Nat) : Int) then
         if 0 ≤ (IntKind.wrap .i64 (15 + x0)) then
          if (IntKind.wrap .i64 (15 + x0)) < (((List.length x5) : Nat) : Int) then
           if 0 ≤ (IntKind.wrap .i64 (20 + x0)) then
            if (IntKind.wrap .i64 (20 + x0)) < (((List.length x5) : Nat) : Int) then
             if ((((List.length x4) + 1) * 8) ≤ 70368744177664 ∧ ((List.length x4) + 1) ≤ 9223372036854775807) then
              rc (IntKind.wrap .i64 (x0 + 1)) x1 x2 x3 (x4 ++ [(ibits BinOp.xor .u64 (ibits BinOp.xor .u64 (ibits BinOp.xor .u64 (ibits BinOp.xor .u64 (List.getD x5 (Int.toNat x0) 0) (List.getD x5 (Int.toNat (IntKind.wrap .i64 (5 + x0))) 0)) (List.getD x5 (Int.toNat (IntKind.wrap .i64 (10 + x0))) 0)) (List.getD x5 (Int.toNat (IntKind.wrap .i64 (15 + x0))) 0)) (List.getD x5 (Int.toNat (IntKind.wrap .i64 (20 + x0))) 0))]) x5
             else
              none
            else
             none
           else
            none
          else
           none
         else
          none
        else
         none
       else
        none
      else
       none
     else
      none
    else
     none
   else
    none
  else
   some (mk0 x1 x2 x3 x4 x5)
def Fbz.l6v1_0.g {α : Type} (mk0 : LI → LI → Int → LI → LI → α) (n : Nat) : Nat → Int → LI → LI → Int → LI → LI → Option α
 | 0, _, _, _, _, _, _ => none
 | m + 1, x0, x1, x2, x3, x4, x5 => Fbz.l6v1_0.r mk0 n (fun y0 y1 y2 y3 y4 y5 => Fbz.l6v1_0.g mk0 n m y0 y1 y2 y3 y4 y5)  x0 x1 x2 x3 x4 x5
def Fbz.l6v1_0.m (n m : Nat) (t : (Int × (LI × (LI × (Int × (LI × LI)))))) : Option (LI × (LI × (Int × (LI × LI)))) := Fbz.l6v1_0.g (fun a0 a1 a2 a3 a4 => (a0, a1, a2, a3, a4)) n m t.1 t.2.1 t.2.2.1 t.2.2.2.1 t.2.2.2.2.1 t.2.2.2.2.2
def Fbz.l6v1_0.pat : St → Option (Int × (LI × (LI × (Int × (LI × LI)))))
 | (St.mk [(.int .i64 x0), (.own 0 1), (.own 1 1), (.rints .i64 x1), (.rints .u64 x2), (.int .i64 x3)] [(some (.ints .u64 x4)), (some (.ints .u64 x5))]) => some (x0, x1, x2, x3, x4, x5)
 | _ => none
def Fbz.l6v1_0.shape (t : (Int × (LI × (LI × (Int × (LI × LI)))))) : St := (St.mk [(.int .i64 t.1), (.own 0 1), (.own 1 1), (.rints .i64 t.2.1), (.rints .u64 t.2.2.1), (.int .i64 t.2.2.2.1)] [(some (.ints .u64 t.2.2.2.2.1)), (some (.ints .u64 t.2.2.2.2.2))])
def Fbz.l6v1_0.res : (LI × (LI × (Int × (LI × LI)))) → Ex × St
 | u => ((.exit 2), (St.mk [(.own 0 1), (.own 1 1), (.rints .i64 u.1), (.rints .u64 u.2.1), (.int .i64 u.2.2.1)] [(some (.ints .u64 u.2.2.2.1)), (some (.ints .u64 u.2.2.2.2))]))
def Fbz.l6v1_0.resK {R : Type} (u : (LI × (LI × (Int × (LI × LI))))) (K : Ex → St → Option R) : Option R := K (Fbz.l6v1_0.res u).1 (Fbz.l6v1_0.res u).2
def Fbz.l15v1_0.r {α : Type} (mk0 : Int → LI → LI → Int → LI → LI → LI → α) (n : Nat) (rc : Int → Int → Int → LI → LI → Int → LI → LI → LI → Option α)  (x0 : Int) (x1 : Int) (x2 : Int) (x3 : LI) (x4 : LI) (x5 : Int) (x6 : LI) (x7 : LI) (x8 : LI) : Option α :=
  if (decide (x0 < 5)) = true then
   if 0 ≤ (IntKind.wrap .i64 ((IntKind.wrap .i64 (5 * x0)) + x1)) then
    if (IntKind.wrap .i64 ((IntKind.wrap .i64 (5 * x0)) + x1)) < (((List.length x7) : Nat) : Int) then
     if 0 ≤ (IntKind.wrap .i64 ((IntKind.wrap .i64 (5 * x0)) + x1)) then
      if (IntKind.wrap .i64 ((IntKind.wrap .i64 (5 * x0)) + x1)) < (((List.length x3) : Nat) : Int) then
       bindO (Fby.m n ((ibits BinOp.xor .u64 (List.getD x7 (Int.toNat (IntKind.wrap .i64 ((IntKind.wrap .i64 (5 * x0)) + x1))) 0) x2), (List.getD x3 (Int.toNat (IntKind.wrap .i64 ((IntKind.wrap .i64 (5 * x0)) + x1))) 0))) fun r14 =>
        if 0 ≤ (IntKind.wrap .i64 ((IntKind.wrap .i64 (5 * (Int.tmod (IntKind.wrap .i64 ((IntKind.wrap .i64 (2 * x1)) + (IntKind.wrap .i64 (3 * x0)))) 5))) + x0)) then
         if (IntKind.wrap .i64 ((IntKind.wrap .i64 (5 * (Int.tmod (IntKind.wrap .i64 ((IntKind.wrap .i64 (2 * x1)) + (IntKind.wrap .i64 (3 * x0)))) 5))) + x0)) < (((List.length x6) : Nat) : Int) then
          rc (IntKind.wrap .i64 (x0 + 1)) x1 x2 x3 x4 x5 (List.set x6 (Int.toNat (IntKind.wrap .i64 ((IntKind.wrap .i64 (5 * (Int.tmod (IntKind.wrap .i64 ((IntKind.wrap .i64 (2 * x1)) + (IntKind.wrap .i64 (3 * x0)))) 5))) + x0))) r14) x7 x8
         else
          none
        else
         none
      else
       none
     else
      none
    else
     none
   else
    none
  else
   some (mk0 x1 x3 x4 x5 x8 x6 x7)
def Fbz.l15v1_0.g {α : Type} (mk0 : Int → LI → LI → Int → LI → LI → LI → α) (n : Nat) : Nat → Int → Int → Int → LI → LI → Int → LI → LI → LI → Option α
 | 0, _, _, _, _, _, _, _, _, _ => none
 | m + 1, x0, x1, x2, x3, x4, x5, x6, x7, x8 => Fbz.l15v1_0.r mk0 n (fun y0 y1 y2 y3 y4 y5 y6 y7 y8 => Fbz.l15v1_0.g mk0 n m y0 y1 y2 y3 y4 y5 y6 y7 y8)  x0 x1 x2 x3 x4 x5 x6 x7 x8
def Fbz.l15v1_0.m (n m : Nat) (t : (Int × (Int × (Int × (LI × (LI × (Int × (LI × (LI × LI))))))))) : Option (Int × (LI × (LI × (Int × (LI × (LI × LI)))))) := Fbz.l15v1_0.g (fun a0 a1 a2 a3 a4 a5 a6 => (a0, a1, a2, a3, a4, a5, a6)) n m t.1 t.2.1 t.2.2.1 t.2.2.2.1 t.2.2.2.2.1 t.2.2.2.2.2.1 t.2.2.2.2.2.2.1 t.2.2.2.2.2.2.2.1 t.2.2.2.2.2.2.2.2
def Fbz.l15v1_0.pat : St → Option (Int × (Int × (Int × (LI × (LI × (Int × (LI × (LI × LI))))))))
 | (St.mk [(.int .i64 x0), (.own 0 1), (.int .i64 x1), (.own 1 1), (.int .u64 x2), (.rints .i64 x3), (.own 2 1), (.rints .u64 x4), (.int .i64 x5)] [(some (.ints .u64 x6)), (some (.ints .u64 x7)), (some (.ints .u64 x8))]) => some (x0, x1, x2, x3, x4, x5, x6, x7, x8)
 | _ => none
def Fbz.l15v1_0.shape (t : (Int × (Int × (Int × (LI × (LI × (Int × (LI × (LI × LI))))))))) : St := (St.mk [(.int .i64 t.1), (.own 0 1), (.int .i64 t.2.1), (.own 1 1), (.int .u64 t.2.2.1), (.rints .i64 t.2.2.2.1), (.own 2 1), (.rints .u64 t.2.2.2.2.1), (.int .i64 t.2.2.2.2.2.1)] [(some (.ints .u64 t.2.2.2.2.2.2.1)), (some (.ints .u64 t.2.2.2.2.2.2.2.1)), (some (.ints .u64 t.2.2.2.2.2.2.2.2))])
def Fbz.l15v1_0.res : (Int × (LI × (LI × (Int × (LI × (LI × LI)))))) → Ex × St
 | u => ((.exit 6), (St.mk [(.int .i64 u.1), (.own 0 1), (.own 1 1), (.own 2 1), (.rints .i64 u.2.1), (.rints .u64 u.2.2.1), (.int .i64 u.2.2.2.1)] [(some (.ints .u64 u.2.2.2.2.1)), (some (.ints .u64 u.2.2.2.2.2.1)), (some (.ints .u64 u.2.2.2.2.2.2))]))
def Fbz.l15v1_0.resK {R : Type} (u : (Int × (LI × (LI × (Int × (LI × (LI × LI))))))) (K : Ex → St → Option R) : Option R := K (Fbz.l15v1_0.res u).1 (Fbz.l15v1_0.res u).2
def Fbz.l11v1_0.r {α : Type} (mk0 : LI → Int → LI → LI → α) (n : Nat) (rc : Int → LI → LI → Int → LI → LI → LI → Option α)  (x0 : Int) (x1 : LI) (x2 : LI) (x3 : Int) (x4 : LI) (x5 : LI) (x6 : LI) : Option α :=
  if (decide (x0 < 5)) = true then
   if 0 ≤ (Int.tmod (IntKind.wrap .i64 (x0 + 4)) 5) then
    if (Int.tmod (IntKind.wrap .i64 (x0 + 4)) 5) < (((List.length x4) : Nat) : Int) then
     if 0 ≤ (Int.tmod (IntKind.wrap .i64 (x0 + 1)) 5) then
      if (Int.tmod (IntKind.wrap .i64 (x0 + 1)) 5) < (((List.length x4) : Nat) : Int) then
       bindO (Fby.m n ((List.getD x4 (Int.toNat (Int.tmod (IntKind.wrap .i64 (x0 + 1)) 5)) 0), 1)) fun r14 =>
        bindO (Fbz.l15v1_0.m n n (0, x0, (ibits BinOp.xor .u64 (List.getD x4 (Int.toNat (Int.tmod (IntKind.wrap .i64 (x0 + 4)) 5)) 0) r14), x1, x2, x3, x5, x6, x4)) fun r16 =>
         rc (IntKind.wrap .i64 (r16.1 + 1)) r16.2.1 r16.2.2.1 r16.2.2.2.1 r16.2.2.2.2.1 r16.2.2.2.2.2.1 r16.2.2.2.2.2.2
      else
       none
     else
      none
    else
     none
   else
    none
  else
   some (mk0 x2 x3 x1 x5)
def Fbz.l11v1_0.g {α : Type} (mk0 : LI → Int → LI → LI → α) (n : Nat) : Nat → Int → LI → LI → Int → LI → LI → LI → Option α
 | 0, _, _, _, _, _, _, _ => none
 | m + 1, x0, x1, x2, x3, x4, x5, x6 => Fbz.l11v1_0.r mk0 n (fun y0 y1 y2 y3 y4 y5 y6 => Fbz.l11v1_0.g mk0 n m y0 y1 y2 y3 y4 y5 y6)  x0 x1 x2 x3 x4 x5 x6
def Fbz.l11v1_0.m (n m : Nat) (t : (Int × (LI × (LI × (Int × (LI × (LI × LI))))))) : Option (LI × (Int × (LI × LI))) := Fbz.l11v1_0.g (fun a0 a1 a2 a3 => (a0, a1, a2, a3)) n m t.1 t.2.1 t.2.2.1 t.2.2.2.1 t.2.2.2.2.1 t.2.2.2.2.2.1 t.2.2.2.2.2.2
def Fbz.l11v1_0.pat : St → Option (Int × (LI × (LI × (Int × (LI × (LI × LI))))))
 | (St.mk [(.int .i64 x0), (.own 0 1), (.own 1 1), (.own 2 1), (.rints .i64 x1), (.rints .u64 x2), (.int .i64 x3)] [(some (.ints .u64 x4)), (some (.ints .u64 x5)), (some (.ints .u64 x6))]) => some (x0, x1, x2, x3, x4, x5, x6)
 | _ => none
def Fbz.l11v1_0.shape (t : (Int × (LI × (LI × (Int × (LI × (LI × LI))))))) : St := (St.mk [(.int .i64 t.1), (.own 0 1), (.own 1 1), (.own 2 1), (.rints .i64 t.2.1), (.rints .u64 t.2.2.1), (.int .i64 t.2.2.2.1)] [(some (.ints .u64 t.2.2.2.2.1)), (some (.ints .u64 t.2.2.2.2.2.1)), (some (.ints .u64 t.2.2.2.2.2.2))])
def Fbz.l11v1_0.res : (LI × (Int × (LI × LI))) → Ex × St
 | u => ((.exit 4), (St.mk [(.own 0 1), (.rints .u64 u.1), (.int .i64 u.2.1), (.rints .i64 u.2.2.1)] [(some (.ints .u64 u.2.2.2))]))
def Fbz.l11v1_0.resK {R : Type} (u : (LI × (Int × (LI × LI)))) (K : Ex → St → Option R) : Option R := K (Fbz.l11v1_0.res u).1 (Fbz.l11v1_0.res u).2
def Fbz.l2_1.r {α : Type} (mk0 : LI → α) (mk1 : LI → α) (n : Nat) (rc : Int → LI → LI → LI → Option α)  (x0 : Int) (x1 : LI) (x2 : LI) (x3 : LI) : Option α :=
  if (decide (x0 < 24)) = true then
   bindO (Fbz.l6v1_0.m n n (0, x1, x2, x0, [], x3)) fun r6 =>
    bindO (Fbz.l11v1_0.m n n (0, r6.1, r6.2.1, r6.2.2.1, r6.2.2.2.1, ([0, 0, 0, 0, 0, 0, 0, 0, 0, 0, 0, 0, 0, 0, 0, 0, 0, 0, 0, 0, 0, 0, 0, 0, 0] : List Int), r6.2.2.2.2)) fun r8 =>
     bindO (Fbz.l20_0.m n n (0, r8.1, r8.2.1, r8.2.2.1, [], r8.2.2.2)) fun r10 =>
      if 0 < (((List.length r10.2.2.2) : Nat) : Int) then
       if 0 ≤ r10.2.1 then
        if r10.2.1 < (((List.length r10.1) : Nat) : Int) then
         if 0 < (((List.length r10.2.2.2) : Nat) : Int) then
          rc (IntKind.wrap .i64 (r10.2.1 + 1)) r10.2.2.1 r10.1 (List.set r10.2.2.2 0 (ibits BinOp.xor .u64 (List.getD r10.2.2.2 0 0) (List.getD r10.1 (Int.toNat r10.2.1) 0)))
         else
          none
        else
         none
       else
        none
      else
       none
  else
   some (mk0 x3)
def Fbz.l2_1.g {α : Type} (mk0 : LI → α) (mk1 : LI → α) (n : Nat) : Nat → Int → LI → LI → LI → Option α
 | 0, _, _, _, _ => none
 | m + 1, x0, x1, x2, x3 => Fbz.l2_1.r mk0 mk1 n (fun y0 y1 y2 y3 => Fbz.l2_1.g mk0 mk1 n m y0 y1 y2 y3)  x0 x1 x2 x3
def Fbz.l2_1.shape (t : (Int × (LI × (LI × LI)))) : St := (St.mk [(.int .i64 t.1), (.own 0 1), (.rints .i64 t.2.1), (.rints .u64 t.2.2.1)] [(some (.ints .u64 t.2.2.2))])
def Fbz.l2_0.r {α : Type} (mk0 : LI → α) (mk1 : LI → α) (n : Nat) (rc : Int → LI → LI → LI → Option α) (rc0 : Int → LI → LI → LI → Option α) (x0 : Int) (x1 : LI) (x2 : LI) (x3 : LI) : Option α :=
  if (decide (x0 < 24)) = true then
   bindO (Fbz.l6_0.m n n (0, x1, x2, x3, x0, [])) fun r6 =>
    bindO (Fbz.l11_0.m n n (0, r6.1, r6.2.1, r6.2.2.1, r6.2.2.2.1, r6.2.2.2.2, ([0, 0, 0, 0, 0, 0, 0, 0, 0, 0, 0, 0, 0, 0, 0, 0, 0, 0, 0, 0, 0, 0, 0, 0, 0] : List Int))) fun r8 =>
     bindO (Fbz.l20_0.m n n (0, r8.1, r8.2.1, r8.2.2.1, [], r8.2.2.2)) fun r10 =>
      if 0 < (((List.length r10.2.2.2) : Nat) : Int) then
       if 0 ≤ r10.2.1 then
        if r10.2.1 < (((List.length r10.1) : Nat) : Int) then
         if 0 < (((List.length r10.2.2.2) : Nat) : Int) then
          rc0 (IntKind.wrap .i64 (r10.2.1 + 1)) r10.2.2.1 r10.1 (List.set r10.2.2.2 0 (ibits BinOp.xor .u64 (List.getD r10.2.2.2 0 0) (List.getD r10.1 (Int.toNat r10.2.1) 0)))
         else
          none
        else
         none
       else
        none
      else
       none
  else
   some (mk1 x1)
def Fbz.l2_0.g {α : Type} (mk0 : LI → α) (mk1 : LI → α) (n : Nat) : Nat → Int → LI → LI → LI → Option α
 | 0, _, _, _, _ => none
 | m + 1, x0, x1, x2, x3 => Fbz.l2_0.r mk0 mk1 n (fun y0 y1 y2 y3 => Fbz.l2_0.g mk0 mk1 n m y0 y1 y2 y3) (fun y0 y1 y2 y3 => Fbz.l2_1.g mk0 mk1 n m y0 y1 y2 y3) x0 x1 x2 x3
def Fbz.l2_0.m (n m : Nat) (t : (Int × (LI × (LI × LI)))) : Option (LI ⊕ LI) := Fbz.l2_0.g (fun a0 => (.inl a0)) (fun a0 => (.inr a0)) n m t.1 t.2.1 t.2.2.1 t.2.2.2
def Fbz.l2_0.pat : St → Option (Int × (LI × (LI × LI)))
 | (St.mk [(.int .i64 x0), (.rints .u64 x1), (.rints .i64 x2), (.rints .u64 x3)] []) => some (x0, x1, x2, x3)
 | _ => none
def Fbz.l2_0.shape (t : (Int × (LI × (LI × LI)))) : St := (St.mk [(.int .i64 t.1), (.rints .u64 t.2.1), (.rints .i64 t.2.2.1), (.rints .u64 t.2.2.2)] [])
def Fbz.l2_0.res : (LI ⊕ LI) → Ex × St
 | (.inl u) => ((.exit 0), (St.mk [(.own 0 1)] [(some (.ints .u64 u))]))
 | (.inr u) => ((.exit 0), (St.mk [(.rints .u64 u)] []))
def Fbz.l2_0.resK {R : Type} (u : (LI ⊕ LI)) (K : Ex → St → Option R) : Option R := match u with
 | (.inl u) => (fun p : Ex × St => K p.1 p.2) ((.exit 0), (St.mk [(.own 0 1)] [(some (.ints .u64 u))]))
 | (.inr u) => (fun p : Ex × St => K p.1 p.2) ((.exit 0), (St.mk [(.rints .u64 u)] []))
noncomputable def Fbz.A (n : Nat) : Ann := ⟨Tryd.f98.ntmps, 0, Fbz.live, [(0, (.ints .u64)), (1, (.ints .i64)), (2, (.ints .u64)), (8, (.ints .u64)), (10, (.ints .u64)), (14, (.ints .u64))], [(some (.ints .u64))], fun k => match k with
 | 6 => some (.alt Fbz.l6_0.pat (.mk' Fbz.l6_0.pat (Fbz.l6_0.m n n) Fbz.l6_0.resK) (.mk' Fbz.l6v1_0.pat (Fbz.l6v1_0.m n n) Fbz.l6v1_0.resK))
 | 15 => some (.alt Fbz.l15_0.pat (.mk' Fbz.l15_0.pat (Fbz.l15_0.m n n) Fbz.l15_0.resK) (.mk' Fbz.l15v1_0.pat (Fbz.l15v1_0.m n n) Fbz.l15v1_0.resK))
 | 11 => some (.alt Fbz.l11_0.pat (.mk' Fbz.l11_0.pat (Fbz.l11_0.m n n) Fbz.l11_0.resK) (.mk' Fbz.l11v1_0.pat (Fbz.l11v1_0.m n n) Fbz.l11v1_0.resK))
 | 23 => some (.mk' Fbz.l23_0.pat (Fbz.l23_0.m n n) Fbz.l23_0.resK)
 | 20 => some (.mk' Fbz.l20_0.pat (Fbz.l20_0.m n n) Fbz.l20_0.resK)
 | 2 => some (.mk' Fbz.l2_0.pat (Fbz.l2_0.m n n) Fbz.l2_0.resK)
 | _ => none, noNL, lookJ []⟩
noncomputable def Fbz.b0 : Code := (loopsIn (Tryd.f98.body.getD .skip)).getD 0 .skip
noncomputable def Fbz.b1 : Code := (loopsIn (Tryd.f98.body.getD .skip)).getD 1 .skip
noncomputable def Fbz.b2 : Code := (loopsIn (Tryd.f98.body.getD .skip)).getD 2 .skip
noncomputable def Fbz.b3 : Code := (loopsIn (Tryd.f98.body.getD .skip)).getD 3 .skip
noncomputable def Fbz.b4 : Code := (loopsIn (Tryd.f98.body.getD .skip)).getD 4 .skip
noncomputable def Fbz.b5 : Code := (loopsIn (Tryd.f98.body.getD .skip)).getD 5 .skip
def Fbz.g {α : Type} (mk0 : LI → α) (mk1 : LI → α) (n : Nat) (a0 : LI) (a1 : LI) (a2 : LI) : Option α :=
 bindO (Fbz.l2_0.m n n (0, a0, a1, a2)) fun r2 => match r2 with
  | (.inl r2) =>
   some (mk0 r2)
  | (.inr r2) =>
   some (mk1 r2)
def Fbz.m (n : Nat) (t : (LI × (LI × LI))) : Option (LI ⊕ LI) := Fbz.g (fun a0 => (.inl a0)) (fun a0 => (.inr a0)) n t.1 t.2.1 t.2.2
def Fbz.pat : List AV → Blks → Option (LI × (LI × LI))
 | [(.rints .u64 a0), (.rints .i64 a1), (.rints .u64 a2)], [] => some (a0, a1, a2)
 | _, _ => none
def Fbz.shape (t : (LI × (LI × LI))) : List AV × Blks := ([(.rints .u64 t.1), (.rints .i64 t.2.1), (.rints .u64 t.2.2)], [])
def Fbz.res : (LI ⊕ LI) → AV × Blks
 | (.inl u) => ((.own 0 1), [(some (.ints .u64 u))])
 | (.inr u) => ((.rints .u64 u), [])
def Fbz.resK {R : Type} (u : (LI ⊕ LI)) (K : AV → Blks → Option R) : Option R := match u with
 | (.inl u) => (fun p : AV × Blks => K p.1 p.2) ((.own 0 1), [(some (.ints .u64 u))])
 | (.inr u) => (fun p : AV × Blks => K p.1 p.2) ((.rints .u64 u), [])
def Fbz.c (n : Nat) : Abs.Callee := .mk' [] [(some (.ints .u64)), (some (.ints .i64)), (some (.ints .u64))] Fbz.pat (Fbz.m n) Fbz.resK
end
end
section
theorem Fby.gmap {α β : Type} (h : β → α) (mk0 : Int → β) (n : Nat) (a0 : Int) (a1 : Int) : Fby.g (fun a0 => (h (mk0 a0))) n a0 a1 = (Fby.g mk0 n a0 a1).map h := by
  unfold Fby.g
  exact (ite_map rfl (ite_map (ite_map rfl rfl) rfl))
theorem Fby.run (n : Nat) (a0 : Int) (a1 : Int) : runF (Fby.C n) (Fby.A n) n Tryd.f116 [(.int .u64 a0), (.int .i64 a1)] [] (fun v o => some (v, o)) = Fby.g (fun a0 => (((.int .u64 a0), []) : AV × Blks)) n a0 a1 := by kernel_rfl
theorem Fby.call (hmix : Tryd.prog.follows .mixedOrders = true) (n : Nat) (t : (Int × Int)) (u) (h : Fby.m n t = some u) : FnC Tryd.prog abiG 116 (Fby.shape t).1 (Fby.shape t).2 (Fby.res u).1 (Fby.res u).2 :=
  fnC1 (C := Fby.C n) (A := Fby.A n) (fn := Tryd.f116) rfl .nil hmix Tryd.func116 (by kernel_rfl) (lp := []) (by kernel_rfl) .nil
  (nj rfl) (by decide) rfl rfl (by show 2 ≤ Tryd.f116.ntmps; decide) (Fby.run n t.1 t.2) (Fby.gmap Fby.res (fun a0 => a0) n t.1 t.2) h
theorem Fby.s (hmix : Tryd.prog.follows .mixedOrders = true) (n : Nat) : CalleeS Tryd.prog abiG 116 (Fby.c n) :=
  .mk1 (res := Fby.res) (shape := Fby.shape) (fun R u K => rfl) (fun _ _ _ h => by unfold Fby.pat at h; split at h <;> cases h; rfl) (fun t u h => Fby.call hmix n t u h) Tryd.func116 (by decide) (by kernel_rfl)
end
section
noncomputable abbrev Fbz.R0 (n : Nat) := roundOf (Fbz.C n) (Fbz.A n) n Fbz.b0
noncomputable abbrev Fbz.R1 (n : Nat) := roundOf (Fbz.C n) (Fbz.A n) n Fbz.b1
noncomputable abbrev Fbz.R2 (n : Nat) := roundOf (Fbz.C n) (Fbz.A n) n Fbz.b2
noncomputable abbrev Fbz.R3 (n : Nat) := roundOf (Fbz.C n) (Fbz.A n) n Fbz.b3
noncomputable abbrev Fbz.R4 (n : Nat) := roundOf (Fbz.C n) (Fbz.A n) n Fbz.b4
noncomputable abbrev Fbz.R5 (n : Nat) := roundOf (Fbz.C n) (Fbz.A n) n Fbz.b5
theorem Fbz.l6_0.rmap {α β : Type} (h : β → α) (mk0 : LI → LI → LI → Int → LI → β) (n : Nat) (f : Int → LI → LI → LI → Int → LI → Option β)  (x0 : Int) (x1 : LI) (x2 : LI) (x3 : LI) (x4 : Int) (x5 : LI) : Fbz.l6_0.r (fun a0 a1 a2 a3 a4 => (h (mk0 a0 a1 a2 a3 a4))) n (fun y0 y1 y2 y3 y4 y5 => (f y0 y1 y2 y3 y4 y5).map h) x0 x1 x2 x3 x4 x5 = (Fbz.l6_0.r mk0 n f x0 x1 x2 x3 x4 x5).map h := by
  unfold Fbz.l6_0.r
  exact (ite_map (ite_map (ite_map (ite_map (ite_map (ite_map (ite_map (ite_map (ite_map (ite_map (ite_map (ite_map rfl rfl) rfl) rfl) rfl) rfl) rfl) rfl) rfl) rfl) rfl) rfl) rfl)
theorem Fbz.l6_0.gmap {α β : Type} (h : β → α) (mk0 : LI → LI → LI → Int → LI → β) (n : Nat) : ∀ (m : Nat) (x0 : Int) (x1 : LI) (x2 : LI) (x3 : LI) (x4 : Int) (x5 : LI), Fbz.l6_0.g (fun a0 a1 a2 a3 a4 => (h (mk0 a0 a1 a2 a3 a4))) n m x0 x1 x2 x3 x4 x5 = (Fbz.l6_0.g mk0 n m x0 x1 x2 x3 x4 x5).map h
  | 0, _, _, _, _, _, _ => rfl
  | m + 1, x0, x1, x2, x3, x4, x5 => by
    unfold Fbz.l6_0.g
    rw [← Fbz.l6_0.rmap]
    congr
    · funext y0 y1 y2 y3 y4 y5; exact Fbz.l6_0.gmap h mk0 n m y0 y1 y2 y3 y4 y5
theorem Fbz.l6_0.pat_shape : ∀ st t, Fbz.l6_0.pat st = some t → st = Fbz.l6_0.shape t := fun _ _ h => by unfold Fbz.l6_0.pat at h; split at h <;> cases h; rfl
def Fbz.l6_0.k0 : LI → LI → LI → Int → LI → Ex × St := (fun a0 a1 a2 a3 a4 => (((.exit 2), (St.mk [(.own 0 1), (.rints .u64 a0), (.rints .i64 a1), (.rints .u64 a2), (.int .i64 a3)] [(some (.ints .u64 a4))])) : Ex × St))
theorem Fbz.l6_0.round (n : Nat) (rc : St → Option (Ex × St)) (x0 : Int) (x1 : LI) (x2 : LI) (x3 : LI) (x4 : Int) (x5 : LI) : Fbz.R1 n rc ((St.mk [(.int .i64 x0), (.own 0 1), (.rints .u64 x1), (.rints .i64 x2), (.rints .u64 x3), (.int .i64 x4)] [(some (.ints .u64 x5))])) = Fbz.l6_0.r Fbz.l6_0.k0 n (fun y0 y1 y2 y3 y4 y5 => rc ((St.mk [(.int .i64 y0), (.own 0 1), (.rints .u64 y1), (.rints .i64 y2), (.rints .u64 y3), (.int .i64 y4)] [(some (.ints .u64 y5))]))) x0 x1 x2 x3 x4 x5 := by kernel_rfl
theorem Fbz.l6_0.loop' (n : Nat) : ∀ (m : Nat) (t : (Int × (LI × (LI × (LI × (Int × LI)))))), loopOf (Fbz.R1 n) m (Fbz.l6_0.shape t) = Fbz.l6_0.g Fbz.l6_0.k0 n m t.1 t.2.1 t.2.2.1 t.2.2.2.1 t.2.2.2.2.1 t.2.2.2.2.2 :=
  loop_of_round (shape := Fbz.l6_0.shape) (body := Fbz.R1 n) (g := fun m t => Fbz.l6_0.g Fbz.l6_0.k0 n m t.1 t.2.1 t.2.2.1 t.2.2.2.1 t.2.2.2.2.1 t.2.2.2.2.2) (fun t => rfl)
    fun m t ih => (Fbz.l6_0.round n (loopOf (Fbz.R1 n) m) t.1 t.2.1 t.2.2.1 t.2.2.2.1 t.2.2.2.2.1 t.2.2.2.2.2).trans (congrFun (congrFun (congrFun (congrFun (congrFun (congrFun (congrArg (Fbz.l6_0.r Fbz.l6_0.k0 n) (funext fun y0 => funext fun y1 => funext fun y2 => funext fun y3 => funext fun y4 => funext fun y5 => ih (y0, y1, y2, y3, y4, y5))) t.1) t.2.1) t.2.2.1) t.2.2.2.1) t.2.2.2.2.1) t.2.2.2.2.2)
theorem Fbz.l6_0.loop (n m : Nat) (t : (Int × (LI × (LI × (LI × (Int × LI)))))) : loopOf (Fbz.R1 n) m (Fbz.l6_0.shape t) = (Fbz.l6_0.m n m t).map Fbz.l6_0.res :=
  (Fbz.l6_0.loop' n m t).trans (Fbz.l6_0.gmap Fbz.l6_0.res (fun a0 a1 a2 a3 a4 => (a0, a1, a2, a3, a4)) n m t.1 t.2.1 t.2.2.1 t.2.2.2.1 t.2.2.2.2.1 t.2.2.2.2.2)
theorem Fbz.l15_0.rmap {α β : Type} (h : β → α) (mk0 : Int → LI → LI → LI → Int → LI → LI → β) (n : Nat) (f : Int → Int → LI → Int → LI → LI → Int → LI → LI → Option β)  (x0 : Int) (x1 : Int) (x2 : LI) (x3 : Int) (x4 : LI) (x5 : LI) (x6 : Int) (x7 : LI) (x8 : LI) : Fbz.l15_0.r (fun a0 a1 a2 a3 a4 a5 a6 => (h (mk0 a0 a1 a2 a3 a4 a5 a6))) n (fun y0 y1 y2 y3 y4 y5 y6 y7 y8 => (f y0 y1 y2 y3 y4 y5 y6 y7 y8).map h) x0 x1 x2 x3 x4 x5 x6 x7 x8 = (Fbz.l15_0.r mk0 n f x0 x1 x2 x3 x4 x5 x6 x7 x8).map h := by
  unfold Fbz.l15_0.r
  exact (ite_map (ite_map (ite_map (ite_map (ite_map (bindO_map fun r14 => (ite_map (ite_map rfl rfl) rfl)) rfl) rfl) rfl) rfl) rfl)
theorem Fbz.l15_0.gmap {α β : Type} (h : β → α) (mk0 : Int → LI → LI → LI → Int → LI → LI → β) (n : Nat) : ∀ (m : Nat) (x0 : Int) (x1 : Int) (x2 : LI) (x3 : Int) (x4 : LI) (x5 : LI) (x6 : Int) (x7 : LI) (x8 : LI), Fbz.l15_0.g (fun a0 a1 a2 a3 a4 a5 a6 => (h (mk0 a0 a1 a2 a3 a4 a5 a6))) n m x0 x1 x2 x3 x4 x5 x6 x7 x8 = (Fbz.l15_0.g mk0 n m x0 x1 x2 x3 x4 x5 x6 x7 x8).map h
  | 0, _, _, _, _, _, _, _, _, _ => rfl
  | m + 1, x0, x1, x2, x3, x4, x5, x6, x7, x8 => by
    unfold Fbz.l15_0.g
    rw [← Fbz.l15_0.rmap]
    congr
    · funext y0 y1 y2 y3 y4 y5 y6 y7 y8; exact Fbz.l15_0.gmap h mk0 n m y0 y1 y2 y3 y4 y5 y6 y7 y8
theorem Fbz.l15_0.pat_shape : ∀ st t, Fbz.l15_0.pat st = some t → st = Fbz.l15_0.shape t := fun _ _ h => by unfold Fbz.l15_0.pat at h; split at h <;> cases h; rfl
def Fbz.l15_0.k0 : Int → LI → LI → LI → Int → LI → LI → Ex × St := (fun a0 a1 a2 a3 a4 a5 a6 => (((.exit 6), (St.mk [(.int .i64 a0), (.own 0 1), (.own 1 1), (.rints .u64 a1), (.rints .i64 a2), (.rints .u64 a3), (.int .i64 a4)] [(some (.ints .u64 a5)), (some (.ints .u64 a6))])) : Ex × St))
theorem Fbz.l15_0.round (n : Nat) (rc : St → Option (Ex × St)) (x0 : Int) (x1 : Int) (x2 : LI) (x3 : Int) (x4 : LI) (x5 : LI) (x6 : Int) (x7 : LI) (x8 : LI) : Fbz.R3 n rc ((St.mk [(.int .i64 x0), (.own 0 1), (.int .i64 x1), (.rints .u64 x2), (.int .u64 x3), (.rints .i64 x4), (.own 1 1), (.rints .u64 x5), (.int .i64 x6)] [(some (.ints .u64 x7)), (some (.ints .u64 x8))])) = Fbz.l15_0.r Fbz.l15_0.k0 n (fun y0 y1 y2 y3 y4 y5 y6 y7 y8 => rc ((St.mk [(.int .i64 y0), (.own 0 1), (.int .i64 y1), (.rints .u64 y2), (.int .u64 y3), (.rints .i64 y4), (.own 1 1), (.rints .u64 y5), (.int .i64 y6)] [(some (.ints .u64 y7)), (some (.ints .u64 y8))]))) x0 x1 x2 x3 x4 x5 x6 x7 x8 := by kernel_rfl
theorem Fbz.l15_0.loop' (n : Nat) : ∀ (m : Nat) (t : (Int × (Int × (LI × (Int × (LI × (LI × (Int × (LI × LI))))))))), loopOf (Fbz.R3 n) m (Fbz.l15_0.shape t) = Fbz.l15_0.g Fbz.l15_0.k0 n m t.1 t.2.1 t.2.2.1 t.2.2.2.1 t.2.2.2.2.1 t.2.2.2.2.2.1 t.2.2.2.2.2.2.1 t.2.2.2.2.2.2.2.1 t.2.2.2.2.2.2.2.2 :=
  loop_of_round (shape := Fbz.l15_0.shape) (body := Fbz.R3 n) (g := fun m t => Fbz.l15_0.g Fbz.l15_0.k0 n m t.1 t.2.1 t.2.2.1 t.2.2.2.1 t.2.2.2.2.1 t.2.2.2.2.2.1 t.2.2.2.2.2.2.1 t.2.2.2.2.2.2.2.1 t.2.2.2.2.2.2.2.2) (fun t => rfl)
    fun m t ih => (Fbz.l15_0.round n (loopOf (Fbz.R3 n) m) t.1 t.2.1 t.2.2.1 t.2.2.2.1 t.2.2.2.2.1 t.2.2.2.2.2.1 t.2.2.2.2.2.2.1 t.2.2.2.2.2.2.2.1 t.2.2.2.2.2.2.2.2).trans (congrFun (congrFun (congrFun (congrFun (congrFun (congrFun (congrFun (congrFun (congrFun (congrArg (Fbz.l15_0.r Fbz.l15_0.k0 n) (funext fun y0 => funext fun y1 => funext fun y2 => funext fun y3 => funext fun y4 => funext fun y5 => funext fun y6 => funext fun y7 => funext fun y8 => ih (y0, y1, y2, y3, y4, y5, y6, y7, y8))) t.1) t.2.1) t.2.2.1) t.2.2.2.1) t.2.2.2.2.1) t.2.2.2.2.2.1) t.2.2.2.2.2.2.1) t.2.2.2.2.2.2.2.1) t.2.2.2.2.2.2.2.2)
theorem Fbz.l15_0.loop (n m : Nat) (t : (Int × (Int × (LI × (Int × (LI × (LI × (Int × (LI × LI))))))))) : loopOf (Fbz.R3 n) m (Fbz.l15_0.shape t) = (Fbz.l15_0.m n m t).map Fbz.l15_0.res :=
  (Fbz.l15_0.loop' n m t).trans (Fbz.l15_0.gmap Fbz.l15_0.res (fun a0 a1 a2 a3 a4 a5 a6 => (a0, a1, a2, a3, a4, a5, a6)) n m t.1 t.2.1 t.2.2.1 t.2.2.2.1 t.2.2.2.2.1 t.2.2.2.2.2.1 t.2.2.2.2.2.2.1 t.2.2.2.2.2.2.2.1 t.2.2.2.2.2.2.2.2)
theorem Fbz.l11_0.rmap {α β : Type} (h : β → α) (mk0 : LI → Int → LI → LI → β) (n : Nat) (f : Int → LI → LI → LI → Int → LI → LI → Option β)  (x0 : Int) (x1 : LI) (x2 : LI) (x3 : LI) (x4 : Int) (x5 : LI) (x6 : LI) : Fbz.l11_0.r (fun a0 a1 a2 a3 => (h (mk0 a0 a1 a2 a3))) n (fun y0 y1 y2 y3 y4 y5 y6 => (f y0 y1 y2 y3 y4 y5 y6).map h) x0 x1 x2 x3 x4 x5 x6 = (Fbz.l11_0.r mk0 n f x0 x1 x2 x3 x4 x5 x6).map h := by
  unfold Fbz.l11_0.r
  exact (ite_map (ite_map (ite_map (ite_map (ite_map (bindO_map fun r14 => (bindO_map fun r16 => rfl)) rfl) rfl) rfl) rfl) rfl)
theorem Fbz.l11_0.gmap {α β : Type} (h : β → α) (mk0 : LI → Int → LI → LI → β) (n : Nat) : ∀ (m : Nat) (x0 : Int) (x1 : LI) (x2 : LI) (x3 : LI) (x4 : Int) (x5 : LI) (x6 : LI), Fbz.l11_0.g (fun a0 a1 a2 a3 => (h (mk0 a0 a1 a2 a3))) n m x0 x1 x2 x3 x4 x5 x6 = (Fbz.l11_0.g mk0 n m x0 x1 x2 x3 x4 x5 x6).map h
  | 0, _, _, _, _, _, _, _ => rfl
  | m + 1, x0, x1, x2, x3, x4, x5, x6 => by
    unfold Fbz.l11_0.g
    rw [← Fbz.l11_0.rmap]
    congr
    · funext y0 y1 y2 y3 y4 y5 y6; exact Fbz.l11_0.gmap h mk0 n m y0 y1 y2 y3 y4 y5 y6
theorem Fbz.l11_0.pat_shape : ∀ st t, Fbz.l11_0.pat st = some t → st = Fbz.l11_0.shape t := fun _ _ h => by unfold Fbz.l11_0.pat at h; split at h <;> cases h; rfl
def Fbz.l11_0.k0 : LI → Int → LI → LI → Ex × St := (fun a0 a1 a2 a3 => (((.exit 4), (St.mk [(.own 0 1), (.rints .u64 a0), (.int .i64 a1), (.rints .i64 a2)] [(some (.ints .u64 a3))])) : Ex × St))
theorem Fbz.l11_0.round (n : Nat) (rc : St → Option (Ex × St)) (x0 : Int) (x1 : LI) (x2 : LI) (x3 : LI) (x4 : Int) (x5 : LI) (x6 : LI) : Fbz.R2 n rc ((St.mk [(.int .i64 x0), (.own 0 1), (.own 1 1), (.rints .u64 x1), (.rints .i64 x2), (.rints .u64 x3), (.int .i64 x4)] [(some (.ints .u64 x5)), (some (.ints .u64 x6))])) = Fbz.l11_0.r Fbz.l11_0.k0 n (fun y0 y1 y2 y3 y4 y5 y6 => rc ((St.mk [(.int .i64 y0), (.own 0 1), (.own 1 1), (.rints .u64 y1), (.rints .i64 y2), (.rints .u64 y3), (.int .i64 y4)] [(some (.ints .u64 y5)), (some (.ints .u64 y6))]))) x0 x1 x2 x3 x4 x5 x6 := by kernel_rfl
theorem Fbz.l11_0.loop' (n : Nat) : ∀ (m : Nat) (t : (Int × (LI × (LI × (LI × (Int × (LI × LI))))))), loopOf (Fbz.R2 n) m (Fbz.l11_0.shape t) = Fbz.l11_0.g Fbz.l11_0.k0 n m t.1 t.2.1 t.2.2.1 t.2.2.2.1 t.2.2.2.2.1 t.2.2.2.2.2.1 t.2.2.2.2.2.2 :=
  loop_of_round (shape := Fbz.l11_0.shape) (body := Fbz.R2 n) (g := fun m t => Fbz.l11_0.g Fbz.l11_0.k0 n m t.1 t.2.1 t.2.2.1 t.2.2.2.1 t.2.2.2.2.1 t.2.2.2.2.2.1 t.2.2.2.2.2.2) (fun t => rfl)
    fun m t ih => (Fbz.l11_0.round n (loopOf (Fbz.R2 n) m) t.1 t.2.1 t.2.2.1 t.2.2.2.1 t.2.2.2.2.1 t.2.2.2.2.2.1 t.2.2.2.2.2.2).trans (congrFun (congrFun (congrFun (congrFun (congrFun (congrFun (congrFun (congrArg (Fbz.l11_0.r Fbz.l11_0.k0 n) (funext fun y0 => funext fun y1 => funext fun y2 => funext fun y3 => funext fun y4 => funext fun y5 => funext fun y6 => ih (y0, y1, y2, y3, y4, y5, y6))) t.1) t.2.1) t.2.2.1) t.2.2.2.1) t.2.2.2.2.1) t.2.2.2.2.2.1) t.2.2.2.2.2.2)
theorem Fbz.l11_0.loop (n m : Nat) (t : (Int × (LI × (LI × (LI × (Int × (LI × LI))))))) : loopOf (Fbz.R2 n) m (Fbz.l11_0.shape t) = (Fbz.l11_0.m n m t).map Fbz.l11_0.res :=
  (Fbz.l11_0.loop' n m t).trans (Fbz.l11_0.gmap Fbz.l11_0.res (fun a0 a1 a2 a3 => (a0, a1, a2, a3)) n m t.1 t.2.1 t.2.2.1 t.2.2.2.1 t.2.2.2.2.1 t.2.2.2.2.2.1 t.2.2.2.2.2.2)
theorem Fbz.l23_0.rmap {α β : Type} (h : β → α) (mk0 : Int → LI → Int → LI → LI → LI → β) (n : Nat) (f : Int → Int → LI → Int → LI → LI → LI → Option β)  (x0 : Int) (x1 : Int) (x2 : LI) (x3 : Int) (x4 : LI) (x5 : LI) (x6 : LI) : Fbz.l23_0.r (fun a0 a1 a2 a3 a4 a5 => (h (mk0 a0 a1 a2 a3 a4 a5))) n (fun y0 y1 y2 y3 y4 y5 y6 => (f y0 y1 y2 y3 y4 y5 y6).map h) x0 x1 x2 x3 x4 x5 x6 = (Fbz.l23_0.r mk0 n f x0 x1 x2 x3 x4 x5 x6).map h := by
  unfold Fbz.l23_0.r
  exact (ite_map (ite_map (ite_map (ite_map (ite_map (ite_map (ite_map (ite_map rfl rfl) rfl) rfl) rfl) rfl) rfl) rfl) rfl)
theorem Fbz.l23_0.gmap {α β : Type} (h : β → α) (mk0 : Int → LI → Int → LI → LI → LI → β) (n : Nat) : ∀ (m : Nat) (x0 : Int) (x1 : Int) (x2 : LI) (x3 : Int) (x4 : LI) (x5 : LI) (x6 : LI), Fbz.l23_0.g (fun a0 a1 a2 a3 a4 a5 => (h (mk0 a0 a1 a2 a3 a4 a5))) n m x0 x1 x2 x3 x4 x5 x6 = (Fbz.l23_0.g mk0 n m x0 x1 x2 x3 x4 x5 x6).map h
  | 0, _, _, _, _, _, _, _ => rfl
  | m + 1, x0, x1, x2, x3, x4, x5, x6 => by
    unfold Fbz.l23_0.g
    rw [← Fbz.l23_0.rmap]
    congr
    · funext y0 y1 y2 y3 y4 y5 y6; exact Fbz.l23_0.gmap h mk0 n m y0 y1 y2 y3 y4 y5 y6
theorem Fbz.l23_0.pat_shape : ∀ st t, Fbz.l23_0.pat st = some t → st = Fbz.l23_0.shape t := fun _ _ h => by unfold Fbz.l23_0.pat at h; split at h <;> cases h; rfl
def Fbz.l23_0.k0 : Int → LI → Int → LI → LI → LI → Ex × St := (fun a0 a1 a2 a3 a4 a5 => (((.exit 10), (St.mk [(.int .i64 a0), (.own 0 1), (.own 1 1), (.rints .u64 a1), (.int .i64 a2), (.rints .i64 a3)] [(some (.ints .u64 a4)), (some (.ints .u64 a5))])) : Ex × St))
theorem Fbz.l23_0.round (n : Nat) (rc : St → Option (Ex × St)) (x0 : Int) (x1 : Int) (x2 : LI) (x3 : Int) (x4 : LI) (x5 : LI) (x6 : LI) : Fbz.R5 n rc ((St.mk [(.int .i64 x0), (.own 0 1), (.own 1 1), (.int .i64 x1), (.rints .u64 x2), (.int .i64 x3), (.rints .i64 x4)] [(some (.ints .u64 x5)), (some (.ints .u64 x6))])) = Fbz.l23_0.r Fbz.l23_0.k0 n (fun y0 y1 y2 y3 y4 y5 y6 => rc ((St.mk [(.int .i64 y0), (.own 0 1), (.own 1 1), (.int .i64 y1), (.rints .u64 y2), (.int .i64 y3), (.rints .i64 y4)] [(some (.ints .u64 y5)), (some (.ints .u64 y6))]))) x0 x1 x2 x3 x4 x5 x6 := by kernel_rfl
theorem Fbz.l23_0.loop' (n : Nat) : ∀ (m : Nat) (t : (Int × (Int × (LI × (Int × (LI × (LI × LI))))))), loopOf (Fbz.R5 n) m (Fbz.l23_0.shape t) = Fbz.l23_0.g Fbz.l23_0.k0 n m t.1 t.2.1 t.2.2.1 t.2.2.2.1 t.2.2.2.2.1 t.2.2.2.2.2.1 t.2.2.2.2.2.2 :=
  loop_of_round (shape := Fbz.l23_0.shape) (body := Fbz.R5 n) (g := fun m t => Fbz.l23_0.g Fbz.l23_0.k0 n m t.1 t.2.1 t.2.2.1 t.2.2.2.1 t.2.2.2.2.1 t.2.2.2.2.2.1 t.2.2.2.2.2.2) (fun t => rfl)
    fun m t ih => (Fbz.l23_0.round n (loopOf (Fbz.R5 n) m) t.1 t.2.1 t.2.2.1 t.2.2.2.1 t.2.2.2.2.1 t.2.2.2.2.2.1 t.2.2.2.2.2.2).trans (congrFun (congrFun (congrFun (congrFun (congrFun (congrFun (congrFun (congrArg (Fbz.l23_0.r Fbz.l23_0.k0 n) (funext fun y0 => funext fun y1 => funext fun y2 => funext fun y3 => funext fun y4 => funext fun y5 => funext fun y6 => ih (y0, y1, y2, y3, y4, y5, y6))) t.1) t.2.1) t.2.2.1) t.2.2.2.1) t.2.2.2.2.1) t.2.2.2.2.2.1) t.2.2.2.2.2.2)
theorem Fbz.l23_0.loop (n m : Nat) (t : (Int × (Int × (LI × (Int × (LI × (LI × LI))))))) : loopOf (Fbz.R5 n) m (Fbz.l23_0.shape t) = (Fbz.l23_0.m n m t).map Fbz.l23_0.res :=
  (Fbz.l23_0.loop' n m t).trans (Fbz.l23_0.gmap Fbz.l23_0.res (fun a0 a1 a2 a3 a4 a5 => (a0, a1, a2, a3, a4, a5)) n m t.1 t.2.1 t.2.2.1 t.2.2.2.1 t.2.2.2.2.1 t.2.2.2.2.2.1 t.2.2.2.2.2.2)
theorem Fbz.l20_0.rmap {α β : Type} (h : β → α) (mk0 : LI → Int → LI → LI → β) (n : Nat) (f : Int → LI → Int → LI → LI → LI → Option β)  (x0 : Int) (x1 : LI) (x2 : Int) (x3 : LI) (x4 : LI) (x5 : LI) : Fbz.l20_0.r (fun a0 a1 a2 a3 => (h (mk0 a0 a1 a2 a3))) n (fun y0 y1 y2 y3 y4 y5 => (f y0 y1 y2 y3 y4 y5).map h) x0 x1 x2 x3 x4 x5 = (Fbz.l20_0.r mk0 n f x0 x1 x2 x3 x4 x5).map h := by
  unfold Fbz.l20_0.r
  exact (ite_map (bindO_map fun r6 => rfl) rfl)
theorem Fbz.l20_0.gmap {α β : Type} (h : β → α) (mk0 : LI → Int → LI → LI → β) (n : Nat) : ∀ (m : Nat) (x0 : Int) (x1 : LI) (x2 : Int) (x3 : LI) (x4 : LI) (x5 : LI), Fbz.l20_0.g (fun a0 a1 a2 a3 => (h (mk0 a0 a1 a2 a3))) n m x0 x1 x2 x3 x4 x5 = (Fbz.l20_0.g mk0 n m x0 x1 x2 x3 x4 x5).map h
  | 0, _, _, _, _, _, _ => rfl
  | m + 1, x0, x1, x2, x3, x4, x5 => by
    unfold Fbz.l20_0.g
    rw [← Fbz.l20_0.rmap]
    congr
    · funext y0 y1 y2 y3 y4 y5; exact Fbz.l20_0.gmap h mk0 n m y0 y1 y2 y3 y4 y5
theorem Fbz.l20_0.pat_shape : ∀ st t, Fbz.l20_0.pat st = some t → st = Fbz.l20_0.shape t := fun _ _ h => by unfold Fbz.l20_0.pat at h; split at h <;> cases h; rfl
def Fbz.l20_0.k0 : LI → Int → LI → LI → Ex × St := (fun a0 a1 a2 a3 => (((.exit 8), (St.mk [(.own 0 1), (.rints .u64 a0), (.int .i64 a1), (.rints .i64 a2)] [(some (.ints .u64 a3))])) : Ex × St))
theorem Fbz.l20_0.round (n : Nat) (rc : St → Option (Ex × St)) (x0 : Int) (x1 : LI) (x2 : Int) (x3 : LI) (x4 : LI) (x5 : LI) : Fbz.R4 n rc ((St.mk [(.int .i64 x0), (.own 0 1), (.own 1 1), (.rints .u64 x1), (.int .i64 x2), (.rints .i64 x3)] [(some (.ints .u64 x4)), (some (.ints .u64 x5))])) = Fbz.l20_0.r Fbz.l20_0.k0 n (fun y0 y1 y2 y3 y4 y5 => rc ((St.mk [(.int .i64 y0), (.own 0 1), (.own 1 1), (.rints .u64 y1), (.int .i64 y2), (.rints .i64 y3)] [(some (.ints .u64 y4)), (some (.ints .u64 y5))]))) x0 x1 x2 x3 x4 x5 := by kernel_rfl
theorem Fbz.l20_0.loop' (n : Nat) : ∀ (m : Nat) (t : (Int × (LI × (Int × (LI × (LI × LI)))))), loopOf (Fbz.R4 n) m (Fbz.l20_0.shape t) = Fbz.l20_0.g Fbz.l20_0.k0 n m t.1 t.2.1 t.2.2.1 t.2.2.2.1 t.2.2.2.2.1 t.2.2.2.2.2 :=
  loop_of_round (shape := Fbz.l20_0.shape) (body := Fbz.R4 n) (g := fun m t => Fbz.l20_0.g Fbz.l20_0.k0 n m t.1 t.2.1 t.2.2.1 t.2.2.2.1 t.2.2.2.2.1 t.2.2.2.2.2) (fun t => rfl)
    fun m t ih => (Fbz.l20_0.round n (loopOf (Fbz.R4 n) m) t.1 t.2.1 t.2.2.1 t.2.2.2.1 t.2.2.2.2.1 t.2.2.2.2.2).trans (congrFun (congrFun (congrFun (congrFun (congrFun (congrFun (congrArg (Fbz.l20_0.r Fbz.l20_0.k0 n) (funext fun y0 => funext fun y1 => funext fun y2 => funext fun y3 => funext fun y4 => funext fun y5 => ih (y0, y1, y2, y3, y4, y5))) t.1) t.2.1) t.2.2.1) t.2.2.2.1) t.2.2.2.2.1) t.2.2.2.2.2)
theorem Fbz.l20_0.loop (n m : Nat) (t : (Int × (LI × (Int × (LI × (LI × LI)))))) : loopOf (Fbz.R4 n) m (Fbz.l20_0.shape t) = (Fbz.l20_0.m n m t).map Fbz.l20_0.res :=
  (Fbz.l20_0.loop' n m t).trans (Fbz.l20_0.gmap Fbz.l20_0.res (fun a0 a1 a2 a3 => (a0, a1, a2, a3)) n m t.1 t.2.1 t.2.2.1 t.2.2.2.1 t.2.2.2.2.1 t.2.2.2.2.2)
theorem Fbz.l6v1_0.rmap {α β : Type} (h : β → α) (mk0 : LI → LI → Int → LI → LI → β) (n : Nat) (f : Int → LI → LI → Int → LI → LI → Option β)  (x0 : Int) (x1 : LI) (x2 : LI) (x3 : Int) (x4 : LI) (x5 : LI) : Fbz.l6v1_0.r (fun a0 a1 a2 a3 a4 => (h (mk0 a0 a1 a2 a3 a4))) n (fun y0 y1 y2 y3 y4 y5 => (f y0 y1 y2 y3 y4 y5).map h) x0 x1 x2 x3 x4 x5 = (Fbz.l6v1_0.r mk0 n f x0 x1 x2 x3 x4 x5).map h := by
  unfold Fbz.l6v1_0.r
  exact (ite_map (ite_map (ite_map (ite_map (ite_map (ite_map (ite_map (ite_map (ite_map (ite_map (ite_map (ite_map rfl rfl) rfl) rfl) rfl) rfl) rfl) rfl) rfl) rfl) rfl) rfl) rfl)
theorem Fbz.l6v1_0.gmap {α β : Type} (h : β → α) (mk0 : LI → LI → Int → LI → LI → β) (n : Nat) : ∀ (m : Nat) (x0 : Int) (x1 : LI) (x2 : LI) (x3 : Int) (x4 : LI) (x5 : LI), Fbz.l6v1_0.g (fun a0 a1 a2 a3 a4 => (h (mk0 a0 a1 a2 a3 a4))) n m x0 x1 x2 x3 x4 x5 = (Fbz.l6v1_0.g mk0 n m x0 x1 x2 x3 x4 x5).map h
  | 0, _, _, _, _, _, _ => rfl
  | m + 1, x0, x1, x2, x3, x4, x5 => by
    unfold Fbz.l6v1_0.g
    rw [← Fbz.l6v1_0.rmap]
    congr
    · funext y0 y1 y2 y3 y4 y5; exact Fbz.l6v1_0.gmap h mk0 n m y0 y1 y2 y3 y4 y5
theorem Fbz.l6v1_0.pat_shape : ∀ st t, Fbz.l6v1_0.pat st = some t → st = Fbz.l6v1_0.shape t := fun _ _ h => by unfold Fbz.l6v1_0.pat at h; split at h <;> cases h; rfl
def Fbz.l6v1_0.k0 : LI → LI → Int → LI → LI → Ex × St := (fun a0 a1 a2 a3 a4 => (((.exit 2), (St.mk [(.own 0 1), (.own 1 1), (.rints .i64 a0), (.rints .u64 a1), (.int .i64 a2)] [(some (.ints .u64 a3)), (some (.ints .u64 a4))])) : Ex × St))
theorem Fbz.l6v1_0.round (n : Nat) (rc : St → Option (Ex × St)) (x0 : Int) (x1 : LI) (x2 : LI) (x3 : Int) (x4 : LI) (x5 : LI) : Fbz.R1 n rc ((St.mk [(.int .i64 x0), (.own 0 1), (.own 1 1), (.rints .i64 x1), (.rints .u64 x2), (.int .i64 x3)] [(some (.ints .u64 x4)), (some (.ints .u64 x5))])) = Fbz.l6v1_0.r Fbz.l6v1_0.k0 n (fun y0 y1 y2 y3 y4 y5 => rc ((St.mk [(.int .i64 y0), (.own 0 1), (.own 1 1), (.rints .i64 y1), (.rints .u64 y2), (.int .i64 y3)] [(some (.ints .u64 y4)), (some (.ints .u64 y5))]))) x0 x1 x2 x3 x4 x5 := by kernel_rfl
theorem Fbz.l6v1_0.loop' (n : Nat) : ∀ (m : Nat) (t : (Int × (LI × (LI × (Int × (LI × LI)))))), loopOf (Fbz.R1 n) m (Fbz.l6v1_0.shape t) = Fbz.l6v1_0.g Fbz.l6v1_0.k0 n m t.1 t.2.1 t.2.2.1 t.2.2.2.1 t.2.2.2.2.1 t.2.2.2.2.2 :=
  loop_of_round (shape := Fbz.l6v1_0.shape) (body := Fbz.R1 n) (g := fun m t => Fbz.l6v1_0.g Fbz.l6v1_0.k0 n m t.1 t.2.1 t.2.2.1 t.2.2.2.1 t.2.2.2.2.1 t.2.2.2.2.2) (fun t => rfl)
    fun m t ih => (Fbz.l6v1_0.round n (loopOf (Fbz.R1 n) m) t.1 t.2.1 t.2.2.1 t.2.2.2.1 t.2.2.2.2.1 t.2.2.2.2.2).trans (congrFun (congrFun (congrFun (congrFun (congrFun (congrFun (congrArg (Fbz.l6v1_0.r Fbz.l6v1_0.k0 n) (funext fun y0 => funext fun y1 => funext fun y2 => funext fun y3 => funext fun y4 => funext fun y5 => ih (y0, y1, y2, y3, y4, y5))) t.1) t.2.1) t.2.2.1) t.2.2.2.1) t.2.2.2.2.1) t.2.2.2.2.2)
theorem Fbz.l6v1_0.loop (n m : Nat) (t : (Int × (LI × (LI × (Int × (LI × LI)))))) : loopOf (Fbz.R1 n) m (Fbz.l6v1_0.shape t) = (Fbz.l6v1_0.m n m t).map Fbz.l6v1_0.res :=
  (Fbz.l6v1_0.loop' n m t).trans (Fbz.l6v1_0.gmap Fbz.l6v1_0.res (fun a0 a1 a2 a3 a4 => (a0, a1, a2, a3, a4)) n m t.1 t.2.1 t.2.2.1 t.2.2.2.1 t.2.2.2.2.1 t.2.2.2.2.2)
theorem Fbz.l15v1_0.rmap {α β : Type} (h : β → α) (mk0 : Int → LI → LI → Int → LI → LI → LI → β) (n : Nat) (f : Int → Int → Int → LI → LI → Int → LI → LI → LI → Option β)  (x0 : Int) (x1 : Int) (x2 : Int) (x3 : LI) (x4 : LI) (x5 : Int) (x6 : LI) (x7 : LI) (x8 : LI) : Fbz.l15v1_0.r (fun a0 a1 a2 a3 a4 a5 a6 => (h (mk0 a0 a1 a2 a3 a4 a5 a6))) n (fun y0 y1 y2 y3 y4 y5 y6 y7 y8 => (f y0 y1 y2 y3 y4 y5 y6 y7 y8).map h) x0 x1 x2 x3 x4 x5 x6 x7 x8 = (Fbz.l15v1_0.r mk0 n f x0 x1 x2 x3 x4 x5 x6 x7 x8).map h := by
  unfold Fbz.l15v1_0.r
  exact (ite_map (ite_map (ite_map (ite_map (ite_map (bindO_map fun r14 => (ite_map (ite_map rfl rfl) rfl)) rfl) rfl) rfl) rfl) rfl)
theorem Fbz.l15v1_0.gmap {α β : Type} (h : β → α) (mk0 : Int → LI → LI → Int → LI → LI → LI → β) (n : Nat) : ∀ (m : Nat) (x0 : Int) (x1 : Int) (x2 : Int) (x3 : LI) (x4 : LI) (x5 : Int) (x6 : LI) (x7 : LI) (x8 : LI), Fbz.l15v1_0.g (fun a0 a1 a2 a3 a4 a5 a6 => (h (mk0 a0 a1 a2 a3 a4 a5 a6))) n m x0 x1 x2 x3 x4 x5 x6 x7 x8 = (Fbz.l15v1_0.g mk0 n m x0 x1 x2 x3 x4 x5 x6 x7 x8).map h
  | 0, _, _, _, _, _, _, _, _, _ => rfl
  | m + 1, x0, x1, x2, x3, x4, x5, x6, x7, x8 => by
    unfold Fbz.l15v1_0.g
    rw [← Fbz.l15v1_0.rmap]
    congr
    · funext y0 y1 y2 y3 y4 y5 y6 y7 y8; exact Fbz.l15v1_0.gmap h mk0 n m y0 y1 y2 y3 y4 y5 y6 y7 y8
theorem Fbz.l15v1_0.pat_shape : ∀ st t, Fbz.l15v1_0.pat st = some t → st = Fbz.l15v1_0.shape t := fun _ _ h => by unfold Fbz.l15v1_0.pat at h; split at h <;> cases h; rfl
def Fbz.l15v1_0.k0 : Int → LI → LI → Int → LI → LI → LI → Ex × St := (fun a0 a1 a2 a3 a4 a5 a6 => (((.exit 6), (St.mk [(.int .i64 a0), (.own 0 1), (.own 1 1), (.own 2 1), (.rints .i64 a1), (.rints .u64 a2), (.int .i64 a3)] [(some (.ints .u64 a4)), (some (.ints .u64 a5)), (some (.ints .u64 a6))])) : Ex × St))
theorem Fbz.l15v1_0.round (n : Nat) (rc : St → Option (Ex × St)) (x0 : Int) (x1 : Int) (x2 : Int) (x3 : LI) (x4 : LI) (x5 : Int) (x6 : LI) (x7 : LI) (x8 : LI) : Fbz.R3 n rc ((St.mk [(.int .i64 x0), (.own 0 1), (.int .i64 x1), (.own 1 1), (.int .u64 x2), (.rints .i64 x3), (.own 2 1), (.rints .u64 x4), (.int .i64 x5)] [(some (.ints .u64 x6)), (some (.ints .u64 x7)), (some (.ints .u64 x8))])) = Fbz.l15v1_0.r Fbz.l15v1_0.k0 n (fun y0 y1 y2 y3 y4 y5 y6 y7 y8 => rc ((St.mk [(.int .i64 y0), (.own 0 1), (.int .i64 y1), (.own 1 1), (.int .u64 y2), (.rints .i64 y3), (.own 2 1), (.rints .u64 y4), (.int .i64 y5)] [(some (.ints .u64 y6)), (some (.ints .u64 y7)), (some (.ints .u64 y8))]))) x0 x1 x2 x3 x4 x5 x6 x7 x8 := by kernel_rfl
theorem Fbz.l15v1_0.loop' (n : Nat) : ∀ (m : Nat) (t : (Int × (Int × (Int × (LI × (LI × (Int × (LI × (LI × LI))))))))), loopOf (Fbz.R3 n) m (Fbz.l15v1_0.shape t) = Fbz.l15v1_0.g Fbz.l15v1_0.k0 n m t.1 t.2.1 t.2.2.1 t.2.2.2.1 t.2.2.2.2.1 t.2.2.2.2.2.1 t.2.2.2.2.2.2.1 t.2.2.2.2.2.2.2.1 t.2.2.2.2.2.2.2.2 :=
  loop_of_round (shape := Fbz.l15v1_0.shape) (body := Fbz.R3 n) (g := fun m t => Fbz.l15v1_0.g Fbz.l15v1_0.k0 n m t.1 t.2.1 t.2.2.1 t.2.2.2.1 t.2.2.2.2.1 t.2.2.2.2.2.1 t.2.2.2.2.2.2.1 t.2.2.2.2.2.2.2.1 t.2.2.2.2.2.2.2.2) (fun t => rfl)
    fun m t ih => (Fbz.l15v1_0.round n (loopOf (Fbz.R3 n) m) t.1 t.2.1 t.2.2.1 t.2.2.2.1 t.2.2.2.2.1 t.2.2.2.2.2.1 t.2.2.2.2.2.2.1 t.2.2.2.2.2.2.2.1 t.2.2.2.2.2.2.2.2).trans (congrFun (congrFun (congrFun (congrFun (congrFun (congrFun (congrFun (congrFun (congrFun (congrArg (Fbz.l15v1_0.r Fbz.l15v1_0.k0 n) (funext fun y0 => funext fun y1 => funext fun y2 => funext fun y3 => funext fun y4 => funext fun y5 => funext fun y6 => funext fun y7 => funext fun y8 => ih (y0, y1, y2, y3, y4, y5, y6, y7, y8))) t.1) t.2.1) t.2.2.1) t.2.2.2.1) t.2.2.2.2.1) t.2.2.2.2.2.1) t.2.2.2.2.2.2.1) t.2.2.2.2.2.2.2.1) t.2.2.2.2.2.2.2.2)
theorem Fbz.l15v1_0.loop (n m : Nat) (t : (Int × (Int × (Int × (LI × (LI × (Int × (LI × (LI × LI))))))))) : loopOf (Fbz.R3 n) m (Fbz.l15v1_0.shape t) = (Fbz.l15v1_0.m n m t).map Fbz.l15v1_0.res :=
  (Fbz.l15v1_0.loop' n m t).trans (Fbz.l15v1_0.gmap Fbz.l15v1_0.res (fun a0 a1 a2 a3 a4 a5 a6 => (a0, a1, a2, a3, a4, a5, a6)) n m t.1 t.2.1 t.2.2.1 t.2.2.2.1 t.2.2.2.2.1 t.2.2.2.2.2.1 t.2.2.2.2.2.2.1 t.2.2.2.2.2.2.2.1 t.2.2.2.2.2.2.2.2)
theorem Fbz.l11v1_0.rmap {α β : Type} (h : β → α) (mk0 : LI → Int → LI → LI → β) (n : Nat) (f : Int → LI → LI → Int → LI → LI → LI → Option β)  (x0 : Int) (x1 : LI) (x2 : LI) (x3 : Int) (x4 : LI) (x5 : LI) (x6 : LI) : Fbz.l11v1_0.r (fun a0 a1 a2 a3 => (h (mk0 a0 a1 a2 a3))) n (fun y0 y1 y2 y3 y4 y5 y6 => (f y0 y1 y2 y3 y4 y5 y6).map h) x0 x1 x2 x3 x4 x5 x6 = (Fbz.l11v1_0.r mk0 n f x0 x1 x2 x3 x4 x5 x6).map h := by
  unfold Fbz.l11v1_0.r
  exact (ite_map (ite_map (ite_map (ite_map (ite_map (bindO_map fun r14 => (bindO_map fun r16 => rfl)) rfl) rfl) rfl) rfl) rfl)
theorem Fbz.l11v1_0.gmap {α β : Type} (h : β → α) (mk0 : LI → Int → LI → LI → β) (n : Nat) : ∀ (m : Nat) (x0 : Int) (x1 : LI) (x2 : LI) (x3 : Int) (x4 : LI) (x5 : LI) (x6 : LI), Fbz.l11v1_0.g (fun a0 a1 a2 a3 => (h (mk0 a0 a1 a2 a3))) n m x0 x1 x2 x3 x4 x5 x6 = (Fbz.l11v1_0.g mk0 n m x0 x1 x2 x3 x4 x5 x6).map h
  | 0, _, _, _, _, _, _, _ => rfl
  | m + 1, x0, x1, x2, x3, x4, x5, x6 => by
    unfold Fbz.l11v1_0.g
    rw [← Fbz.l11v1_0.rmap]
    congr
    · funext y0 y1 y2 y3 y4 y5 y6; exact Fbz.l11v1_0.gmap h mk0 n m y0 y1 y2 y3 y4 y5 y6
theorem Fbz.l11v1_0.pat_shape : ∀ st t, Fbz.l11v1_0.pat st = some t → st = Fbz.l11v1_0.shape t := fun _ _ h => by unfold Fbz.l11v1_0.pat at h; split at h <;> cases h; rfl
theorem Fbz.l11v1_0.round (n : Nat) (rc : St → Option (Ex × St)) (x0 : Int) (x1 : LI) (x2 : LI) (x3 : Int) (x4 : LI) (x5 : LI) (x6 : LI) : Fbz.R2 n rc ((St.mk [(.int .i64 x0), (.own 0 1), (.own 1 1), (.own 2 1), (.rints .i64 x1), (.rints .u64 x2), (.int .i64 x3)] [(some (.ints .u64 x4)), (some (.ints .u64 x5)), (some (.ints .u64 x6))])) = Fbz.l11v1_0.r Fbz.l11_0.k0 n (fun y0 y1 y2 y3 y4 y5 y6 => rc ((St.mk [(.int .i64 y0), (.own 0 1), (.own 1 1), (.own 2 1), (.rints .i64 y1), (.rints .u64 y2), (.int .i64 y3)] [(some (.ints .u64 y4)), (some (.ints .u64 y5)), (some (.ints .u64 y6))]))) x0 x1 x2 x3 x4 x5 x6 := by kernel_rfl
theorem Fbz.l11v1_0.loop' (n : Nat) : ∀ (m : Nat) (t : (Int × (LI × (LI × (Int × (LI × (LI × LI))))))), loopOf (Fbz.R2 n) m (Fbz.l11v1_0.shape t) = Fbz.l11v1_0.g Fbz.l11_0.k0 n m t.1 t.2.1 t.2.2.1 t.2.2.2.1 t.2.2.2.2.1 t.2.2.2.2.2.1 t.2.2.2.2.2.2 :=
  loop_of_round (shape := Fbz.l11v1_0.shape) (body := Fbz.R2 n) (g := fun m t => Fbz.l11v1_0.g Fbz.l11_0.k0 n m t.1 t.2.1 t.2.2.1 t.2.2.2.1 t.2.2.2.2.1 t.2.2.2.2.2.1 t.2.2.2.2.2.2) (fun t => rfl)
    fun m t ih => (Fbz.l11v1_0.round n (loopOf (Fbz.R2 n) m) t.1 t.2.1 t.2.2.1 t.2.2.2.1 t.2.2.2.2.1 t.2.2.2.2.2.1 t.2.2.2.2.2.2).trans (congrFun (congrFun (congrFun (congrFun (congrFun (congrFun (congrFun (congrArg (Fbz.l11v1_0.r Fbz.l11_0.k0 n) (funext fun y0 => funext fun y1 => funext fun y2 => funext fun y3 => funext fun y4 => funext fun y5 => funext fun y6 => ih (y0, y1, y2, y3, y4, y5, y6))) t.1) t.2.1) t.2.2.1) t.2.2.2.1) t.2.2.2.2.1) t.2.2.2.2.2.1) t.2.2.2.2.2.2)
theorem Fbz.l11v1_0.loop (n m : Nat) (t : (Int × (LI × (LI × (Int × (LI × (LI × LI))))))) : loopOf (Fbz.R2 n) m (Fbz.l11v1_0.shape t) = (Fbz.l11v1_0.m n m t).map Fbz.l11v1_0.res :=
  (Fbz.l11v1_0.loop' n m t).trans (Fbz.l11v1_0.gmap Fbz.l11v1_0.res (fun a0 a1 a2 a3 => (a0, a1, a2, a3)) n m t.1 t.2.1 t.2.2.1 t.2.2.2.1 t.2.2.2.2.1 t.2.2.2.2.2.1 t.2.2.2.2.2.2)
theorem Fbz.l2_1.rmap {α β : Type} (h : β → α) (mk0 : LI → β) (mk1 : LI → β) (n : Nat) (f : Int → LI → LI → LI → Option β)  (x0 : Int) (x1 : LI) (x2 : LI) (x3 : LI) : Fbz.l2_1.r (fun a0 => (h (mk0 a0))) (fun a0 => (h (mk1 a0))) n (fun y0 y1 y2 y3 => (f y0 y1 y2 y3).map h) x0 x1 x2 x3 = (Fbz.l2_1.r mk0 mk1 n f x0 x1 x2 x3).map h := by
  unfold Fbz.l2_1.r
  exact (ite_map (bindO_map fun r6 => (bindO_map fun r8 => (bindO_map fun r10 => (ite_map (ite_map (ite_map (ite_map rfl rfl) rfl) rfl) rfl)))) rfl)
theorem Fbz.l2_1.gmap {α β : Type} (h : β → α) (mk0 : LI → β) (mk1 : LI → β) (n : Nat) : ∀ (m : Nat) (x0 : Int) (x1 : LI) (x2 : LI) (x3 : LI), Fbz.l2_1.g (fun a0 => (h (mk0 a0))) (fun a0 => (h (mk1 a0))) n m x0 x1 x2 x3 = (Fbz.l2_1.g mk0 mk1 n m x0 x1 x2 x3).map h
  | 0, _, _, _, _ => rfl
  | m + 1, x0, x1, x2, x3 => by
    unfold Fbz.l2_1.g
    rw [← Fbz.l2_1.rmap]
    congr
    · funext y0 y1 y2 y3; exact Fbz.l2_1.gmap h mk0 mk1 n m y0 y1 y2 y3
def Fbz.l2_1.k0 : LI → Ex × St := (fun a0 => (((.exit 0), (St.mk [(.own 0 1)] [(some (.ints .u64 a0))])) : Ex × St))
def Fbz.l2_1.k1 : LI → Ex × St := (fun a0 => (((.exit 0), (St.mk [(.rints .u64 a0)] [])) : Ex × St))
theorem Fbz.l2_1.round (n : Nat) (rc : St → Option (Ex × St)) (x0 : Int) (x1 : LI) (x2 : LI) (x3 : LI) : Fbz.R0 n rc ((St.mk [(.int .i64 x0), (.own 0 1), (.rints .i64 x1), (.rints .u64 x2)] [(some (.ints .u64 x3))])) = Fbz.l2_1.r Fbz.l2_1.k0 Fbz.l2_1.k1 n (fun y0 y1 y2 y3 => rc ((St.mk [(.int .i64 y0), (.own 0 1), (.rints .i64 y1), (.rints .u64 y2)] [(some (.ints .u64 y3))]))) x0 x1 x2 x3 := by kernel_rfl
theorem Fbz.l2_1.loop' (n : Nat) : ∀ (m : Nat) (t : (Int × (LI × (LI × LI)))), loopOf (Fbz.R0 n) m (Fbz.l2_1.shape t) = Fbz.l2_1.g Fbz.l2_1.k0 Fbz.l2_1.k1 n m t.1 t.2.1 t.2.2.1 t.2.2.2 :=
  loop_of_round (shape := Fbz.l2_1.shape) (body := Fbz.R0 n) (g := fun m t => Fbz.l2_1.g Fbz.l2_1.k0 Fbz.l2_1.k1 n m t.1 t.2.1 t.2.2.1 t.2.2.2) (fun t => rfl)
    fun m t ih => (Fbz.l2_1.round n (loopOf (Fbz.R0 n) m) t.1 t.2.1 t.2.2.1 t.2.2.2).trans (congrFun (congrFun (congrFun (congrFun (congrArg (Fbz.l2_1.r Fbz.l2_1.k0 Fbz.l2_1.k1 n) (funext fun y0 => funext fun y1 => funext fun y2 => funext fun y3 => ih (y0, y1, y2, y3))) t.1) t.2.1) t.2.2.1) t.2.2.2)
theorem Fbz.l2_0.rmap {α β : Type} (h : β → α) (mk0 : LI → β) (mk1 : LI → β) (n : Nat) (f : Int → LI → LI → LI → Option β) (f0 : Int → LI → LI → LI → Option β) (x0 : Int) (x1 : LI) (x2 : LI) (x3 : LI) : Fbz.l2_0.r (fun a0 => (h (mk0 a0))) (fun a0 => (h (mk1 a0))) n (fun y0 y1 y2 y3 => (f y0 y1 y2 y3).map h) (fun y0 y1 y2 y3 => (f0 y0 y1 y2 y3).map h) x0 x1 x2 x3 = (Fbz.l2_0.r mk0 mk1 n f f0 x0 x1 x2 x3).map h := by
  unfold Fbz.l2_0.r
  exact (ite_map (bindO_map fun r6 => (bindO_map fun r8 => (bindO_map fun r10 => (ite_map (ite_map (ite_map (ite_map rfl rfl) rfl) rfl) rfl)))) rfl)
theorem Fbz.l2_0.gmap {α β : Type} (h : β → α) (mk0 : LI → β) (mk1 : LI → β) (n : Nat) : ∀ (m : Nat) (x0 : Int) (x1 : LI) (x2 : LI) (x3 : LI), Fbz.l2_0.g (fun a0 => (h (mk0 a0))) (fun a0 => (h (mk1 a0))) n m x0 x1 x2 x3 = (Fbz.l2_0.g mk0 mk1 n m x0 x1 x2 x3).map h
  | 0, _, _, _, _ => rfl
  | m + 1, x0, x1, x2, x3 => by
    unfold Fbz.l2_0.g
    rw [← Fbz.l2_0.rmap]
    congr
    · funext y0 y1 y2 y3; exact Fbz.l2_0.gmap h mk0 mk1 n m y0 y1 y2 y3
    · funext y0 y1 y2 y3; exact Fbz.l2_1.gmap h mk0 mk1 n m y0 y1 y2 y3
theorem Fbz.l2_0.pat_shape : ∀ st t, Fbz.l2_0.pat st = some t → st = Fbz.l2_0.shape t := fun _ _ h => by unfold Fbz.l2_0.pat at h; split at h <;> cases h; rfl
theorem Fbz.l2_0.round (n : Nat) (rc : St → Option (Ex × St)) (x0 : Int) (x1 : LI) (x2 : LI) (x3 : LI) : Fbz.R0 n rc ((St.mk [(.int .i64 x0), (.rints .u64 x1), (.rints .i64 x2), (.rints .u64 x3)] [])) = Fbz.l2_0.r Fbz.l2_1.k0 Fbz.l2_1.k1 n (fun y0 y1 y2 y3 => rc ((St.mk [(.int .i64 y0), (.rints .u64 y1), (.rints .i64 y2), (.rints .u64 y3)] []))) (fun y0 y1 y2 y3 => rc ((St.mk [(.int .i64 y0), (.own 0 1), (.rints .i64 y1), (.rints .u64 y2)] [(some (.ints .u64 y3))]))) x0 x1 x2 x3 := by kernel_rfl
theorem Fbz.l2_0.loop' (n : Nat) : ∀ (m : Nat) (t : (Int × (LI × (LI × LI)))), loopOf (Fbz.R0 n) m (Fbz.l2_0.shape t) = Fbz.l2_0.g Fbz.l2_1.k0 Fbz.l2_1.k1 n m t.1 t.2.1 t.2.2.1 t.2.2.2 :=
  loop_of_round (shape := Fbz.l2_0.shape) (body := Fbz.R0 n) (g := fun m t => Fbz.l2_0.g Fbz.l2_1.k0 Fbz.l2_1.k1 n m t.1 t.2.1 t.2.2.1 t.2.2.2) (fun t => rfl)
    fun m t ih => (Fbz.l2_0.round n (loopOf (Fbz.R0 n) m) t.1 t.2.1 t.2.2.1 t.2.2.2).trans (congrFun (congrFun (congrFun (congrFun (congr (congrArg (Fbz.l2_0.r Fbz.l2_1.k0 Fbz.l2_1.k1 n) (funext fun y0 => funext fun y1 => funext fun y2 => funext fun y3 => ih (y0, y1, y2, y3))) (funext fun y0 => funext fun y1 => funext fun y2 => funext fun y3 => Fbz.l2_1.loop' n m (y0, y1, y2, y3))) t.1) t.2.1) t.2.2.1) t.2.2.2)
theorem Fbz.l2_0.loop (n m : Nat) (t : (Int × (LI × (LI × LI)))) : loopOf (Fbz.R0 n) m (Fbz.l2_0.shape t) = (Fbz.l2_0.m n m t).map Fbz.l2_0.res :=
  (Fbz.l2_0.loop' n m t).trans (Fbz.l2_0.gmap Fbz.l2_0.res (fun a0 => (.inl a0)) (fun a0 => (.inr a0)) n m t.1 t.2.1 t.2.2.1 t.2.2.2)
theorem Fbz.gmap {α β : Type} (h : β → α) (mk0 : LI → β) (mk1 : LI → β) (n : Nat) (a0 : LI) (a1 : LI) (a2 : LI) : Fbz.g (fun a0 => (h (mk0 a0))) (fun a0 => (h (mk1 a0))) n a0 a1 a2 = (Fbz.g mk0 mk1 n a0 a1 a2).map h := by
  unfold Fbz.g
  exact (bindO_map fun r2 => match r2 with | (.inl r2) => rfl | (.inr r2) => rfl)
theorem Fbz.run (n : Nat) (a0 : LI) (a1 : LI) (a2 : LI) : runF (Fbz.C n) (Fbz.A n) n Tryd.f98 [(.rints .u64 a0), (.rints .i64 a1), (.rints .u64 a2)] [] (fun v o => some (v, o)) = Fbz.g (fun a0 => (((.own 0 1), [(some (.ints .u64 a0))]) : AV × Blks)) (fun a0 => (((.rints .u64 a0), []) : AV × Blks)) n a0 a1 a2 := by kernel_rfl
theorem Fbz.call (hmix : Tryd.prog.follows .mixedOrders = true) (n : Nat) (t : (LI × (LI × LI))) (u) (h : Fbz.m n t = some u) : FnC Tryd.prog abiG 98 (Fbz.shape t).1 (Fbz.shape t).2 (Fbz.res u).1 (Fbz.res u).2 :=
  fnC1 (C := Fbz.C n) (A := Fbz.A n) (fn := Tryd.f98) rfl (.cons (Fby.s hmix n) .nil) hmix Tryd.func98 (by kernel_rfl) (lp := [Fbz.b0, Fbz.b1, Fbz.b2, Fbz.b3, Fbz.b4, Fbz.b5]) (by kernel_rfl) (.cons (show (Fbz.A n).loop (key Fbz.b0) = some (.mk' Fbz.l2_0.pat (Fbz.l2_0.m n n) Fbz.l2_0.resK) by kernel_rfl) (LoopS.of (res := Fbz.l2_0.res) (fun R u K => by rcases u with u | u <;> rfl) Fbz.l2_0.pat_shape fun t => Fbz.l2_0.loop n n t)
  (.cons (show (Fbz.A n).loop (key Fbz.b1) = some (.alt Fbz.l6_0.pat (.mk' Fbz.l6_0.pat (Fbz.l6_0.m n n) Fbz.l6_0.resK) (.mk' Fbz.l6v1_0.pat (Fbz.l6v1_0.m n n) Fbz.l6v1_0.resK)) by kernel_rfl) (LoopS.alt (LoopS.of (res := Fbz.l6_0.res) (fun R u K => rfl) Fbz.l6_0.pat_shape fun t => Fbz.l6_0.loop n n t) (LoopS.of (res := Fbz.l6v1_0.res) (fun R u K => rfl) Fbz.l6v1_0.pat_shape fun t => Fbz.l6v1_0.loop n n t))
  (.cons (show (Fbz.A n).loop (key Fbz.b2) = some (.alt Fbz.l11_0.pat (.mk' Fbz.l11_0.pat (Fbz.l11_0.m n n) Fbz.l11_0.resK) (.mk' Fbz.l11v1_0.pat (Fbz.l11v1_0.m n n) Fbz.l11v1_0.resK)) by kernel_rfl) (LoopS.alt (LoopS.of (res := Fbz.l11_0.res) (fun R u K => rfl) Fbz.l11_0.pat_shape fun t => Fbz.l11_0.loop n n t) (LoopS.of (res := Fbz.l11v1_0.res) (fun R u K => rfl) Fbz.l11v1_0.pat_shape fun t => Fbz.l11v1_0.loop n n t))
  (.cons (show (Fbz.A n).loop (key Fbz.b3) = some (.alt Fbz.l15_0.pat (.mk' Fbz.l15_0.pat (Fbz.l15_0.m n n) Fbz.l15_0.resK) (.mk' Fbz.l15v1_0.pat (Fbz.l15v1_0.m n n) Fbz.l15v1_0.resK)) by kernel_rfl) (LoopS.alt (LoopS.of (res := Fbz.l15_0.res) (fun R u K => rfl) Fbz.l15_0.pat_shape fun t => Fbz.l15_0.loop n n t) (LoopS.of (res := Fbz.l15v1_0.res) (fun R u K => rfl) Fbz.l15v1_0.pat_shape fun t => Fbz.l15v1_0.loop n n t))
  (.cons (show (Fbz.A n).loop (key Fbz.b4) = some (.mk' Fbz.l20_0.pat (Fbz.l20_0.m n n) Fbz.l20_0.resK) by kernel_rfl) (LoopS.of (res := Fbz.l20_0.res) (fun R u K => rfl) Fbz.l20_0.pat_shape fun t => Fbz.l20_0.loop n n t)
  (.cons (show (Fbz.A n).loop (key Fbz.b5) = some (.mk' Fbz.l23_0.pat (Fbz.l23_0.m n n) Fbz.l23_0.resK) by kernel_rfl) (LoopS.of (res := Fbz.l23_0.res) (fun R u K => rfl) Fbz.l23_0.pat_shape fun t => Fbz.l23_0.loop n n t)
  .nil))))))
  (nj rfl) (by decide) rfl rfl (by show 3 ≤ Tryd.f98.ntmps; decide) (Fbz.run n t.1 t.2.1 t.2.2) (Fbz.gmap Fbz.res (fun a0 => (.inl a0)) (fun a0 => (.inr a0)) n t.1 t.2.1 t.2.2) h
theorem Fbz.s (hmix : Tryd.prog.follows .mixedOrders = true) (n : Nat) : CalleeS Tryd.prog abiG 98 (Fbz.c n) :=
  .mk1 (res := Fbz.res) (shape := Fbz.shape) (fun R u K => by rcases u with u | u <;> rfl) (fun _ _ _ h => by unfold Fbz.pat at h; split at h <;> cases h; rfl) (fun t u h => Fbz.call hmix n t u h) Tryd.func98 (by decide) (by kernel_rfl)
end
section
noncomputable section
noncomputable def Fat.C (n : Nat) : Ctx := ⟨Tryd.prog, abiG, lookC [], fun _ => false⟩
def Fat.live : NL := fun k => match k with
 | 2 => ([1], [1])
 | 7 => ([4, 1, 3, 2], [1])
 | _ => ([], [])
def Fat.l2_0.r {α : Type} (mk0 : LI → α) (n : Nat) (rc : LI → Option α)  (x0 : LI) : Option α :=
  if (decide ((((List.length x0) : Nat) : Int) < 25)) = true then
   if ((((List.length x0) + 1) * 8) ≤ 70368744177664 ∧ ((List.length x0) + 1) ≤ 9223372036854775807) then
    rc (x0 ++ [0])
   else
    none
  else
   some (mk0 x0)
def Fat.l2_0.g {α : Type} (mk0 : LI → α) (n : Nat) : Nat → LI → Option α
 | 0, _ => none
 | m + 1, x0 => Fat.l2_0.r mk0 n (fun y0 => Fat.l2_0.g mk0 n m y0)  x0
def Fat.l2_0.m (n m : Nat) (t : LI) : Option LI := Fat.l2_0.g (fun a0 => a0) n m t
def Fat.l2_0.pat : St → Option LI
 | (St.mk [(.own 0 1)] [(some (.ints .i64 x0))]) => some x0
 | _ => none
def Fat.l2_0.shape (t : LI) : St := (St.mk [(.own 0 1)] [(some (.ints .i64 t))])
def Fat.l2_0.res : LI → Ex × St
 | u => ((.exit 0), (St.mk [(.own 0 1)] [(some (.ints .i64 u))]))
def Fat.l2_0.resK {R : Type} (u : LI) (K : Ex → St → Option R) : Option R := K (Fat.l2_0.res u).1 (Fat.l2_0.res u).2
def Fat.l7_0.r {α : Type} (mk0 : LI → α) (n : Nat) (rc : Int → Int → Int → LI → Option α)  (x0 : Int) (x1 : Int) (x2 : Int) (x3 : LI) : Option α :=
  if (decide (x0 < 24)) = true then
   if 0 ≤ (IntKind.wrap .i64 ((IntKind.wrap .i64 (5 * x1)) + x2)) then
    if (IntKind.wrap .i64 ((IntKind.wrap .i64 (5 * x1)) + x2)) < (((List.length x3) : Nat) : Int) then
     rc (IntKind.wrap .i64 (x0 + 1)) (Int.tmod (IntKind.wrap .i64 ((IntKind.wrap .i64 (2 * x2)) + (IntKind.wrap .i64 (3 * x1)))) 5) x1 (List.set x3 (Int.toNat (IntKind.wrap .i64 ((IntKind.wrap .i64 (5 * x1)) + x2))) (Int.tmod (IntKind.wrap .i64 (Int.tdiv (IntKind.wrap .i64 ((IntKind.wrap .i64 (x0 + 1)) * (IntKind.wrap .i64 (x0 + 2)))) 2)) 64))
    else
     none
   else
    none
  else
   some (mk0 x3)
def Fat.l7_0.g {α : Type} (mk0 : LI → α) (n : Nat) : Nat → Int → Int → Int → LI → Option α
 | 0, _, _, _, _ => none
 | m + 1, x0, x1, x2, x3 => Fat.l7_0.r mk0 n (fun y0 y1 y2 y3 => Fat.l7_0.g mk0 n m y0 y1 y2 y3)  x0 x1 x2 x3
def Fat.l7_0.m (n m : Nat) (t : (Int × (Int × (Int × LI)))) : Option LI := Fat.l7_0.g (fun a0 => a0) n m t.1 t.2.1 t.2.2.1 t.2.2.2
def Fat.l7_0.pat : St → Option (Int × (Int × (Int × LI)))
 | (St.mk [(.int .i64 x0), (.own 0 1), (.int .i64 x1), (.int .i64 x2)] [(some (.ints .i64 x3))]) => some (x0, x1, x2, x3)
 | _ => none
def Fat.l7_0.shape (t : (Int × (Int × (Int × LI)))) : St := (St.mk [(.int .i64 t.1), (.own 0 1), (.int .i64 t.2.1), (.int .i64 t.2.2.1)] [(some (.ints .i64 t.2.2.2))])
def Fat.l7_0.res : LI → Ex × St
 | u => ((.exit 2), (St.mk [(.own 0 1)] [(some (.ints .i64 u))]))
def Fat.l7_0.resK {R : Type} (u : LI) (K : Ex → St → Option R) : Option R := K (Fat.l7_0.res u).1 (Fat.l7_0.res u).2
noncomputable def Fat.A (n : Nat) : Ann := ⟨Tryd.f96.ntmps, 0, Fat.live, [(1, (.ints .i64))], [(some (.ints .i64))], fun k => match k with
 | 2 => some (.mk' Fat.l2_0.pat (Fat.l2_0.m n n) Fat.l2_0.resK)
 | 7 => some (.mk' Fat.l7_0.pat (Fat.l7_0.m n n) Fat.l7_0.resK)
 | _ => none, noNL, lookJ []⟩
noncomputable def Fat.b0 : Code := (loopsIn (Tryd.f96.body.getD .skip)).getD 0 .skip
noncomputable def Fat.b1 : Code := (loopsIn (Tryd.f96.body.getD .skip)).getD 1 .skip
def Fat.g {α : Type} (mk0 : LI → α) (n : Nat)  : Option α :=
 bindO (Fat.l2_0.m n n [0]) fun r2 =>
  bindO (Fat.l7_0.m n n (0, 0, 1, r2)) fun r4 =>
   some (mk0 r4)
def Fat.m (n : Nat) (t : Unit) : Option LI := Fat.g (fun a0 => a0) n 
def Fat.pat : List AV → Blks → Option Unit
 | [], [] => some ()
 | _, _ => none
def Fat.shape (t : Unit) : List AV × Blks := ([], [])
def Fat.res : LI → AV × Blks
 | u => ((.own 0 1), [(some (.ints .i64 u))])
def Fat.resK {R : Type} (u : LI) (K : AV → Blks → Option R) : Option R := K (Fat.res u).1 (Fat.res u).2
def Fat.c (n : Nat) : Abs.Callee := .mk' [] [] Fat.pat (Fat.m n) Fat.resK
end
end
section
noncomputable abbrev Fat.R0 (n : Nat) := roundOf (Fat.C n) (Fat.A n) n Fat.b0
noncomputable abbrev Fat.R1 (n : Nat) := roundOf (Fat.C n) (Fat.A n) n Fat.b1
theorem Fat.l2_0.rmap {α β : Type} (h : β → α) (mk0 : LI → β) (n : Nat) (f : LI → Option β)  (x0 : LI) : Fat.l2_0.r (fun a0 => (h (mk0 a0))) n (fun y0 => (f y0).map h) x0 = (Fat.l2_0.r mk0 n f x0).map h := by
  unfold Fat.l2_0.r
  exact (ite_map (ite_map rfl rfl) rfl)
theorem Fat.l2_0.gmap {α β : Type} (h : β → α) (mk0 : LI → β) (n : Nat) : ∀ (m : Nat) (x0 : LI), Fat.l2_0.g (fun a0 => (h (mk0 a0))) n m x0 = (Fat.l2_0.g mk0 n m x0).map h
  | 0, _ => rfl
  | m + 1, x0 => by
    unfold Fat.l2_0.g
    rw [← Fat.l2_0.rmap]
    congr
    · funext y0; exact Fat.l2_0.gmap h mk0 n m y0
theorem Fat.l2_0.pat_shape : ∀ st t, Fat.l2_0.pat st = some t → st = Fat.l2_0.shape t := fun _ _ h => by unfold Fat.l2_0.pat at h; split at h <;> cases h; rfl
def Fat.l2_0.k0 : LI → Ex × St := (fun a0 => (((.exit 0), (St.mk [(.own 0 1)] [(some (.ints .i64 a0))])) : Ex × St))
theorem Fat.l2_0.round (n : Nat) (rc : St → Option (Ex × St)) (x0 : LI) : Fat.R0 n rc ((St.mk [(.own 0 1)] [(some (.ints .i64 x0))])) = Fat.l2_0.r Fat.l2_0.k0 n (fun y0 => rc ((St.mk [(.own 0 1)] [(some (.ints .i64 y0))]))) x0 := by kernel_rfl
theorem Fat.l2_0.loop' (n : Nat) : ∀ (m : Nat) (t : LI), loopOf (Fat.R0 n) m (Fat.l2_0.shape t) = Fat.l2_0.g Fat.l2_0.k0 n m t :=
  loop_of_round (shape := Fat.l2_0.shape) (body := Fat.R0 n) (g := fun m t => Fat.l2_0.g Fat.l2_0.k0 n m t) (fun t => rfl)
    fun m t ih => (Fat.l2_0.round n (loopOf (Fat.R0 n) m) t).trans (congrFun (congrArg (Fat.l2_0.r Fat.l2_0.k0 n) (funext fun y0 => ih y0)) t)
theorem Fat.l2_0.loop (n m : Nat) (t : LI) : loopOf (Fat.R0 n) m (Fat.l2_0.shape t) = (Fat.l2_0.m n m t).map Fat.l2_0.res :=
  (Fat.l2_0.loop' n m t).trans (Fat.l2_0.gmap Fat.l2_0.res (fun a0 => a0) n m t)
theorem Fat.l7_0.rmap {α β : Type} (h : β → α) (mk0 : LI → β) (n : Nat) (f : Int → Int → Int → LI → Option β)  (x0 : Int) (x1 : Int) (x2 : Int) (x3 : LI) : Fat.l7_0.r (fun a0 => (h (mk0 a0))) n (fun y0 y1 y2 y3 => (f y0 y1 y2 y3).map h) x0 x1 x2 x3 = (Fat.l7_0.r mk0 n f x0 x1 x2 x3).map h := by
  unfold Fat.l7_0.r
  exact (ite_map (ite_map (ite_map rfl rfl) rfl) rfl)
theorem Fat.l7_0.gmap {α β : Type} (h : β → α) (mk0 : LI → β) (n : Nat) : ∀ (m : Nat) (x0 : Int) (x1 : Int) (x2 : Int) (x3 : LI), Fat.l7_0.g (fun a0 => (h (mk0 a0))) n m x0 x1 x2 x3 = (Fat.l7_0.g mk0 n m x0 x1 x2 x3).map h
  | 0, _, _, _, _ => rfl
  | m + 1, x0, x1, x2, x3 => by
    unfold Fat.l7_0.g
    rw [← Fat.l7_0.rmap]
    congr
    · funext y0 y1 y2 y3; exact Fat.l7_0.gmap h mk0 n m y0 y1 y2 y3
theorem Fat.l7_0.pat_shape : ∀ st t, Fat.l7_0.pat st = some t → st = Fat.l7_0.shape t := fun _ _ h => by unfold Fat.l7_0.pat at h; split at h <;> cases h; rfl
def Fat.l7_0.k0 : LI → Ex × St := (fun a0 => (((.exit 2), (St.mk [(.own 0 1)] [(some (.ints .i64 a0))])) : Ex × St))
theorem Fat.l7_0.round (n : Nat) (rc : St → Option (Ex × St)) (x0 : Int) (x1 : Int) (x2 : Int) (x3 : LI) : Fat.R1 n rc ((St.mk [(.int .i64 x0), (.own 0 1), (.int .i64 x1), (.int .i64 x2)] [(some (.ints .i64 x3))])) = Fat.l7_0.r Fat.l7_0.k0 n (fun y0 y1 y2 y3 => rc ((St.mk [(.int .i64 y0), (.own 0 1), (.int .i64 y1), (.int .i64 y2)] [(some (.ints .i64 y3))]))) x0 x1 x2 x3 := by kernel_rfl
theorem Fat.l7_0.loop' (n : Nat) : ∀ (m : Nat) (t : (Int × (Int × (Int × LI)))), loopOf (Fat.R1 n) m (Fat.l7_0.shape t) = Fat.l7_0.g Fat.l7_0.k0 n m t.1 t.2.1 t.2.2.1 t.2.2.2 :=
  loop_of_round (shape := Fat.l7_0.shape) (body := Fat.R1 n) (g := fun m t => Fat.l7_0.g Fat.l7_0.k0 n m t.1 t.2.1 t.2.2.1 t.2.2.2) (fun t => rfl)
    fun m t ih => (Fat.l7_0.round n (loopOf (Fat.R1 n) m) t.1 t.2.1 t.2.2.1 t.2.2.2).trans (congrFun (congrFun (congrFun (congrFun (congrArg (Fat.l7_0.r Fat.l7_0.k0 n) (funext fun y0 => funext fun y1 => funext fun y2 => funext fun y3 => ih (y0, y1, y2, y3))) t.1) t.2.1) t.2.2.1) t.2.2.2)
theorem Fat.l7_0.loop (n m : Nat) (t : (Int × (Int × (Int × LI)))) : loopOf (Fat.R1 n) m (Fat.l7_0.shape t) = (Fat.l7_0.m n m t).map Fat.l7_0.res :=
  (Fat.l7_0.loop' n m t).trans (Fat.l7_0.gmap Fat.l7_0.res (fun a0 => a0) n m t.1 t.2.1 t.2.2.1 t.2.2.2)
theorem Fat.gmap {α β : Type} (h : β → α) (mk0 : LI → β) (n : Nat)  : Fat.g (fun a0 => (h (mk0 a0))) n  = (Fat.g mk0 n ).map h := by
  unfold Fat.g
  exact (bindO_map fun r2 => (bindO_map fun r4 => rfl))
theorem Fat.run (n : Nat)  : runF (Fat.C n) (Fat.A n) n Tryd.f96 [] [] (fun v o => some (v, o)) = Fat.g (fun a0 => (((.own 0 1), [(some (.ints .i64 a0))]) : AV × Blks)) n  := by kernel_rfl
theorem Fat.call (hmix : Tryd.prog.follows .mixedOrders = true) (n : Nat) (t : Unit) (u) (h : Fat.m n t = some u) : FnC Tryd.prog abiG 96 (Fat.shape t).1 (Fat.shape t).2 (Fat.res u).1 (Fat.res u).2 :=
  fnC1 (C := Fat.C n) (A := Fat.A n) (fn := Tryd.f96) rfl .nil hmix Tryd.func96 (by kernel_rfl) (lp := [Fat.b0, Fat.b1]) (by kernel_rfl) (.cons (show (Fat.A n).loop (key Fat.b0) = some (.mk' Fat.l2_0.pat (Fat.l2_0.m n n) Fat.l2_0.resK) by kernel_rfl) (LoopS.of (res := Fat.l2_0.res) (fun R u K => rfl) Fat.l2_0.pat_shape fun t => Fat.l2_0.loop n n t)
  (.cons (show (Fat.A n).loop (key Fat.b1) = some (.mk' Fat.l7_0.pat (Fat.l7_0.m n n) Fat.l7_0.resK) by kernel_rfl) (LoopS.of (res := Fat.l7_0.res) (fun R u K => rfl) Fat.l7_0.pat_shape fun t => Fat.l7_0.loop n n t)
  .nil))
  (nj rfl) (by decide) rfl rfl (by show 0 ≤ Tryd.f96.ntmps; decide) (Fat.run n ) (Fat.gmap Fat.res (fun a0 => a0) n ) h
theorem Fat.s (hmix : Tryd.prog.follows .mixedOrders = true) (n : Nat) : CalleeS Tryd.prog abiG 96 (Fat.c n) :=
  .mk1 (res := Fat.res) (shape := Fat.shape) (fun R u K => rfl) (fun _ _ _ h => by unfold Fat.pat at h; split at h <;> cases h; rfl) (fun t u h => Fat.call hmix n t u h) Tryd.func96 (by decide) (by kernel_rfl)
end
section
noncomputable section
noncomputable def Fbe.C (n : Nat) : Ctx := ⟨Tryd.prog, abiG, lookC [], fun _ => false⟩
def Fbe.live : NL := fun k => match k with
 | 4 => ([3, 2, 1], [1])
 | 9 => ([6, 2, 4, 5, 1, 3], [1, 4, 3, 2])
 | _ => ([], [])
def Fbe.l9_0.r {α : Type} (mk0 : Int → Int → Int → LI → α) (n : Nat) (rc : Int → Int → Int → Int → Int → LI → Option α)  (x0 : Int) (x1 : Int) (x2 : Int) (x3 : Int) (x4 : Int) (x5 : LI) : Option α :=
  if (decide (x0 < 7)) = true then
   if ((Int.tmod x1 2) == 1) = true then
    if 0 ≤ (IntKind.wrap .u64 (IntKind.wrap .i64 (x3 - 1))) then
     if (decide ((IntKind.wrap .i64 (2 * x1)) ≥ 256)) = true then
      rc (IntKind.wrap .i64 (x0 + 1)) (ibits BinOp.xor .i64 (IntKind.wrap .i64 (2 * x1)) 369) (ibits BinOp.or .u64 x2 (ishl .u64 1 (IntKind.wrap .u64 (IntKind.wrap .i64 (x3 - 1))))) (IntKind.wrap .i64 (2 * x3)) x4 x5
     else
      rc (IntKind.wrap .i64 (x0 + 1)) (IntKind.wrap .i64 (2 * x1)) (ibits BinOp.or .u64 x2 (ishl .u64 1 (IntKind.wrap .u64 (IntKind.wrap .i64 (x3 - 1))))) (IntKind.wrap .i64 (2 * x3)) x4 x5
    else
     none
   else
    if (decide ((IntKind.wrap .i64 (2 * x1)) ≥ 256)) = true then
     rc (IntKind.wrap .i64 (x0 + 1)) (ibits BinOp.xor .i64 (IntKind.wrap .i64 (2 * x1)) 369) x2 (IntKind.wrap .i64 (2 * x3)) x4 x5
    else
     rc (IntKind.wrap .i64 (x0 + 1)) (IntKind.wrap .i64 (2 * x1)) x2 (IntKind.wrap .i64 (2 * x3)) x4 x5
  else
   some (mk0 x2 x4 x1 x5)
def Fbe.l9_0.g {α : Type} (mk0 : Int → Int → Int → LI → α) (n : Nat) : Nat → Int → Int → Int → Int → Int → LI → Option α
 | 0, _, _, _, _, _, _ => none
 | m + 1, x0, x1, x2, x3, x4, x5 => Fbe.l9_0.r mk0 n (fun y0 y1 y2 y3 y4 y5 => Fbe.l9_0.g mk0 n m y0 y1 y2 y3 y4 y5)  x0 x1 x2 x3 x4 x5
def Fbe.l9_0.m (n m : Nat) (t : (Int × (Int × (Int × (Int × (Int × LI)))))) : Option (Int × (Int × (Int × LI))) := Fbe.l9_0.g (fun a0 a1 a2 a3 => (a0, a1, a2, a3)) n m t.1 t.2.1 t.2.2.1 t.2.2.2.1 t.2.2.2.2.1 t.2.2.2.2.2
def Fbe.l9_0.pat : St → Option (Int × (Int × (Int × (Int × (Int × LI)))))
 | (St.mk [(.int .i64 x0), (.int .i64 x1), (.int .u64 x2), (.int .i64 x3), (.own 0 1), (.int .i64 x4)] [(some (.ints .u64 x5))]) => some (x0, x1, x2, x3, x4, x5)
 | _ => none
def Fbe.l9_0.shape (t : (Int × (Int × (Int × (Int × (Int × LI)))))) : St := (St.mk [(.int .i64 t.1), (.int .i64 t.2.1), (.int .u64 t.2.2.1), (.int .i64 t.2.2.2.1), (.own 0 1), (.int .i64 t.2.2.2.2.1)] [(some (.ints .u64 t.2.2.2.2.2))])
def Fbe.l9_0.res : (Int × (Int × (Int × LI))) → Ex × St
 | u => ((.exit 2), (St.mk [(.own 0 1), (.int .u64 u.1), (.int .i64 u.2.1), (.int .i64 u.2.2.1)] [(some (.ints .u64 u.2.2.2))]))
def Fbe.l9_0.resK {R : Type} (u : (Int × (Int × (Int × LI)))) (K : Ex → St → Option R) : Option R := K (Fbe.l9_0.res u).1 (Fbe.l9_0.res u).2
def Fbe.l4_0.r {α : Type} (mk0 : LI → α) (n : Nat) (rc : Int → Int → LI → Option α)  (x0 : Int) (x1 : Int) (x2 : LI) : Option α :=
  if (decide (x0 < 24)) = true then
   bindO (Fbe.l9_0.m n n (0, x1, 0, 1, x0, x2)) fun r6 =>
    if ((((List.length r6.2.2.2) + 1) * 8) ≤ 70368744177664 ∧ ((List.length r6.2.2.2) + 1) ≤ 9223372036854775807) then
     rc (IntKind.wrap .i64 (r6.2.1 + 1)) r6.2.2.1 (r6.2.2.2 ++ [r6.1])
    else
     none
  else
   some (mk0 x2)
def Fbe.l4_0.g {α : Type} (mk0 : LI → α) (n : Nat) : Nat → Int → Int → LI → Option α
 | 0, _, _, _ => none
 | m + 1, x0, x1, x2 => Fbe.l4_0.r mk0 n (fun y0 y1 y2 => Fbe.l4_0.g mk0 n m y0 y1 y2)  x0 x1 x2
def Fbe.l4_0.m (n m : Nat) (t : (Int × (Int × LI))) : Option LI := Fbe.l4_0.g (fun a0 => a0) n m t.1 t.2.1 t.2.2
def Fbe.l4_0.pat : St → Option (Int × (Int × LI))
 | (St.mk [(.int .i64 x0), (.int .i64 x1), (.own 0 1)] [(some (.ints .u64 x2))]) => some (x0, x1, x2)
 | _ => none
def Fbe.l4_0.shape (t : (Int × (Int × LI))) : St := (St.mk [(.int .i64 t.1), (.int .i64 t.2.1), (.own 0 1)] [(some (.ints .u64 t.2.2))])
def Fbe.l4_0.res : LI → Ex × St
 | u => ((.exit 0), (St.mk [(.own 0 1)] [(some (.ints .u64 u))]))
def Fbe.l4_0.resK {R : Type} (u : LI) (K : Ex → St → Option R) : Option R := K (Fbe.l4_0.res u).1 (Fbe.l4_0.res u).2
noncomputable def Fbe.A (n : Nat) : Ann := ⟨Tryd.f97.ntmps, 0, Fbe.live, [(1, (.ints .u64))], [(some (.ints .u64))], fun k => match k with
 | 9 => some (.mk' Fbe.l9_0.pat (Fbe.l9_0.m n n) Fbe.l9_0.resK)
 | 4 => some (.mk' Fbe.l4_0.pat (Fbe.l4_0.m n n) Fbe.l4_0.resK)
 | _ => none, noNL, lookJ []⟩
noncomputable def Fbe.b0 : Code := (loopsIn (Tryd.f97.body.getD .skip)).getD 0 .skip
noncomputable def Fbe.b1 : Code := (loopsIn (Tryd.f97.body.getD .skip)).getD 1 .skip
def Fbe.g {α : Type} (mk0 : LI → α) (n : Nat)  : Option α :=
 bindO (Fbe.l4_0.m n n (0, 1, [])) fun r2 =>
  some (mk0 r2)
def Fbe.m (n : Nat) (t : Unit) : Option LI := Fbe.g (fun a0 => a0) n 
def Fbe.pat : List AV → Blks → Option Unit
 | [], [] => some ()
 | _, _ => none
def Fbe.shape (t : Unit) : List AV × Blks := ([], [])
def Fbe.res : LI → AV × Blks
 | u => ((.own 0 1), [(some (.ints .u64 u))])
def Fbe.resK {R : Type} (u : LI) (K : AV → Blks → Option R) : Option R := K (Fbe.res u).1 (Fbe.res u).2
def Fbe.c (n : Nat) : Abs.Callee := .mk' [] [] Fbe.pat (Fbe.m n) Fbe.resK
end
end
section
noncomputable abbrev Fbe.R0 (n : Nat) := roundOf (Fbe.C n) (Fbe.A n) n Fbe.b0
noncomputable abbrev Fbe.R1 (n : Nat) := roundOf (Fbe.C n) (Fbe.A n) n Fbe.b1
theorem Fbe.l9_0.rmap {α β : Type} (h : β → α) (mk0 : Int → Int → Int → LI → β) (n : Nat) (f : Int → Int → Int → Int → Int → LI → Option β)  (x0 : Int) (x1 : Int) (x2 : Int) (x3 : Int) (x4 : Int) (x5 : LI) : Fbe.l9_0.r (fun a0 a1 a2 a3 => (h (mk0 a0 a1 a2 a3))) n (fun y0 y1 y2 y3 y4 y5 => (f y0 y1 y2 y3 y4 y5).map h) x0 x1 x2 x3 x4 x5 = (Fbe.l9_0.r mk0 n f x0 x1 x2 x3 x4 x5).map h := by
  unfold Fbe.l9_0.r
  exact (ite_map (ite_map (ite_map (ite_map rfl rfl) rfl) (ite_map rfl rfl)) rfl)
theorem Fbe.l9_0.gmap {α β : Type} (h : β → α) (mk0 : Int → Int → Int → LI → β) (n : Nat) : ∀ (m : Nat) (x0 : Int) (x1 : Int) (x2 : Int) (x3 : Int) (x4 : Int) (x5 : LI), Fbe.l9_0.g (fun a0 a1 a2 a3 => (h (mk0 a0 a1 a2 a3))) n m x0 x1 x2 x3 x4 x5 = (Fbe.l9_0.g mk0 n m x0 x1 x2 x3 x4 x5).map h
  | 0, _, _, _, _, _, _ => rfl
  | m + 1, x0, x1, x2, x3, x4, x5 => by
    unfold Fbe.l9_0.g
    rw [← Fbe.l9_0.rmap]
    congr
    · funext y0 y1 y2 y3 y4 y5; exact Fbe.l9_0.gmap h mk0 n m y0 y1 y2 y3 y4 y5
theorem Fbe.l9_0.pat_shape : ∀ st t, Fbe.l9_0.pat st = some t → st = Fbe.l9_0.shape t := fun _ _ h => by unfold Fbe.l9_0.pat at h; split at h <;> cases h; rfl
def Fbe.l9_0.k0 : Int → Int → Int → LI → Ex × St := (fun a0 a1 a2 a3 => (((.exit 2), (St.mk [(.own 0 1), (.int .u64 a0), (.int .i64 a1), (.int .i64 a2)] [(some (.ints .u64 a3))])) : Ex × St))
theorem Fbe.l9_0.round (n : Nat) (rc : St → Option (Ex × St)) (x0 : Int) (x1 : Int) (x2 : Int) (x3 : Int) (x4 : Int) (x5 : LI) : Fbe.R1 n rc ((St.mk [(.int .i64 x0), (.int .i64 x1), (.int .u64 x2), (.int .i64 x3), (.own 0 1), (.int .i64 x4)] [(some (.ints .u64 x5))])) = Fbe.l9_0.r Fbe.l9_0.k0 n (fun y0 y1 y2 y3 y4 y5 => rc ((St.mk [(.int .i64 y0), (.int .i64 y1), (.int .u64 y2), (.int .i64 y3), (.own 0 1), (.int .i64 y4)] [(some (.ints .u64 y5))]))) x0 x1 x2 x3 x4 x5 := by kernel_rfl
theorem Fbe.l9_0.loop' (n : Nat) : ∀ (m : Nat) (t : (Int × (Int × (Int × (Int × (Int × LI)))))), loopOf (Fbe.R1 n) m (Fbe.l9_0.shape t) = Fbe.l9_0.g Fbe.l9_0.k0 n m t.1 t.2.1 t.2.2.1 t.2.2.2.1 t.2.2.2.2.1 t.2.2.2.2.2 :=
  loop_of_round (shape := Fbe.l9_0.shape) (body := Fbe.R1 n) (g := fun m t => Fbe.l9_0.g Fbe.l9_0.k0 n m t.1 t.2.1 t.2.2.1 t.2.2.2.1 t.2.2.2.2.1 t.2.2.2.2.2) (fun t => rfl)
    fun m t ih => (Fbe.l9_0.round n (loopOf (Fbe.R1 n) m) t.1 t.2.1 t.2.2.1 t.2.2.2.1 t.2.2.2.2.1 t.2.2.2.2.2).trans (congrFun (congrFun (congrFun (congrFun (congrFun (congrFun (congrArg (Fbe.l9_0.r Fbe.l9_0.k0 n) (funext fun y0 => funext fun y1 => funext fun y2 => funext fun y3 => funext fun y4 => funext fun y5 => ih (y0, y1, y2, y3, y4, y5))) t.1) t.2.1) t.2.2.1) t.2.2.2.1) t.2.2.2.2.1) t.2.2.2.2.2)
theorem Fbe.l9_0.loop (n m : Nat) (t : (Int × (Int × (Int × (Int × (Int × LI)))))) : loopOf (Fbe.R1 n) m (Fbe.l9_0.shape t) = (Fbe.l9_0.m n m t).map Fbe.l9_0.res :=
  (Fbe.l9_0.loop' n m t).trans (Fbe.l9_0.gmap Fbe.l9_0.res (fun a0 a1 a2 a3 => (a0, a1, a2, a3)) n m t.1 t.2.1 t.2.2.1 t.2.2.2.1 t.2.2.2.2.1 t.2.2.2.2.2)
theorem Fbe.l4_0.rmap {α β : Type} (h : β → α) (mk0 : LI → β) (n : Nat) (f : Int → Int → LI → Option β)  (x0 : Int) (x1 : Int) (x2 : LI) : Fbe.l4_0.r (fun a0 => (h (mk0 a0))) n (fun y0 y1 y2 => (f y0 y1 y2).map h) x0 x1 x2 = (Fbe.l4_0.r mk0 n f x0 x1 x2).map h := by
  unfold Fbe.l4_0.r
  exact (ite_map (bindO_map fun r6 => (ite_map rfl rfl)) rfl)
theorem Fbe.l4_0.gmap {α β : Type} (h : β → α) (mk0 : LI → β) (n : Nat) : ∀ (m : Nat) (x0 : Int) (x1 : Int) (x2 : LI), Fbe.l4_0.g (fun a0 => (h (mk0 a0))) n m x0 x1 x2 = (Fbe.l4_0.g mk0 n m x0 x1 x2).map h
  | 0, _, _, _ => rfl
  | m + 1, x0, x1, x2 => by
    unfold Fbe.l4_0.g
    rw [← Fbe.l4_0.rmap]
    congr
    · funext y0 y1 y2; exact Fbe.l4_0.gmap h mk0 n m y0 y1 y2
theorem Fbe.l4_0.pat_shape : ∀ st t, Fbe.l4_0.pat st = some t → st = Fbe.l4_0.shape t := fun _ _ h => by unfold Fbe.l4_0.pat at h; split at h <;> cases h; rfl
def Fbe.l4_0.k0 : LI → Ex × St := (fun a0 => (((.exit 0), (St.mk [(.own 0 1)] [(some (.ints .u64 a0))])) : Ex × St))
theorem Fbe.l4_0.round (n : Nat) (rc : St → Option (Ex × St)) (x0 : Int) (x1 : Int) (x2 : LI) : Fbe.R0 n rc ((St.mk [(.int .i64 x0), (.int .i64 x1), (.own 0 1)] [(some (.ints .u64 x2))])) = Fbe.l4_0.r Fbe.l4_0.k0 n (fun y0 y1 y2 => rc ((St.mk [(.int .i64 y0), (.int .i64 y1), (.own 0 1)] [(some (.ints .u64 y2))]))) x0 x1 x2 := by kernel_rfl
theorem Fbe.l4_0.loop' (n : Nat) : ∀ (m : Nat) (t : (Int × (Int × LI))), loopOf (Fbe.R0 n) m (Fbe.l4_0.shape t) = Fbe.l4_0.g Fbe.l4_0.k0 n m t.1 t.2.1 t.2.2 :=
  loop_of_round (shape := Fbe.l4_0.shape) (body := Fbe.R0 n) (g := fun m t => Fbe.l4_0.g Fbe.l4_0.k0 n m t.1 t.2.1 t.2.2) (fun t => rfl)
    fun m t ih => (Fbe.l4_0.round n (loopOf (Fbe.R0 n) m) t.1 t.2.1 t.2.2).trans (congrFun (congrFun (congrFun (congrArg (Fbe.l4_0.r Fbe.l4_0.k0 n) (funext fun y0 => funext fun y1 => funext fun y2 => ih (y0, y1, y2))) t.1) t.2.1) t.2.2)
theorem Fbe.l4_0.loop (n m : Nat) (t : (Int × (Int × LI))) : loopOf (Fbe.R0 n) m (Fbe.l4_0.shape t) = (Fbe.l4_0.m n m t).map Fbe.l4_0.res :=
  (Fbe.l4_0.loop' n m t).trans (Fbe.l4_0.gmap Fbe.l4_0.res (fun a0 => a0) n m t.1 t.2.1 t.2.2)
theorem Fbe.gmap {α β : Type} (h : β → α) (mk0 : LI → β) (n : Nat)  : Fbe.g (fun a0 => (h (mk0 a0))) n  = (Fbe.g mk0 n ).map h := by
  unfold Fbe.g
  exact (bindO_map fun r2 => rfl)
theorem Fbe.run (n : Nat)  : runF (Fbe.C n) (Fbe.A n) n Tryd.f97 [] [] (fun v o => some (v, o)) = Fbe.g (fun a0 => (((.own 0 1), [(some (.ints .u64 a0))]) : AV × Blks)) n  := by kernel_rfl
theorem Fbe.call (hmix : Tryd.prog.follows .mixedOrders = true) (n : Nat) (t : Unit) (u) (h : Fbe.m n t = some u) : FnC Tryd.prog abiG 97 (Fbe.shape t).1 (Fbe.shape t).2 (Fbe.res u).1 (Fbe.res u).2 :=
  fnC1 (C := Fbe.C n) (A := Fbe.A n) (fn := Tryd.f97) rfl .nil hmix Tryd.func97 (by kernel_rfl) (lp := [Fbe.b0, Fbe.b1]) (by kernel_rfl) (.cons (show (Fbe.A n).loop (key Fbe.b0) = some (.mk' Fbe.l4_0.pat (Fbe.l4_0.m n n) Fbe.l4_0.resK) by kernel_rfl) (LoopS.of (res := Fbe.l4_0.res) (fun R u K => rfl) Fbe.l4_0.pat_shape fun t => Fbe.l4_0.loop n n t)
  (.cons (show (Fbe.A n).loop (key Fbe.b1) = some (.mk' Fbe.l9_0.pat (Fbe.l9_0.m n n) Fbe.l9_0.resK) by kernel_rfl) (LoopS.of (res := Fbe.l9_0.res) (fun R u K => rfl) Fbe.l9_0.pat_shape fun t => Fbe.l9_0.loop n n t)
  .nil))
  (nj rfl) (by decide) rfl rfl (by show 0 ≤ Tryd.f97.ntmps; decide) (Fbe.run n ) (Fbe.gmap Fbe.res (fun a0 => a0) n ) h
theorem Fbe.s (hmix : Tryd.prog.follows .mixedOrders = true) (n : Nat) : CalleeS Tryd.prog abiG 97 (Fbe.c n) :=
  .mk1 (res := Fbe.res) (shape := Fbe.shape) (fun R u K => rfl) (fun _ _ _ h => by unfold Fbe.pat at h; split at h <;> cases h; rfl) (fun t u h => Fbe.call hmix n t u h) Tryd.func97 (by decide) (by kernel_rfl)
end
section
noncomputable section
noncomputable def Ff.C (n : Nat) : Ctx := ⟨Tryd.prog, abiG, lookC [(111, Fh.c n)], fun _ => false⟩
def Ff.live : NL := fun k => match k with
 | 1 => ([8, 7, 6, 0], [0])
 | _ => ([], [])
def Ff.l1_0.r {α : Type} (mk0 : LI → α) (n : Nat) (rc : Int → Int → LI → LI → Option α)  (x0 : Int) (x1 : Int) (x2 : LI) (x3 : LI) : Option α :=
  if (decide (x0 < x1)) = true then
   if 0 ≤ x0 then
    if x0 < (((List.length x2) : Nat) : Int) then
     if 0 ≤ (IntKind.wrap .i64 (Int.tdiv x0 8)) then
      if (IntKind.wrap .i64 (Int.tdiv x0 8)) < 25 then
       if 0 ≤ (IntKind.wrap .i64 ((Int.tmod x0 8) * 8)) then
        if 0 ≤ (IntKind.wrap .i64 (Int.tdiv x0 8)) then
         if (IntKind.wrap .i64 (Int.tdiv x0 8)) < 25 then
          rc (IntKind.wrap .i64 (x0 + 1)) x1 x2 (List.set x3 (Int.toNat (IntKind.wrap .i64 (Int.tdiv x0 8))) (ibits BinOp.xor .u64 (List.getD x3 (Int.toNat (IntKind.wrap .i64 (Int.tdiv x0 8))) 0) (ishl .u64 (IntKind.wrap .u64 (List.getD x2 (Int.toNat x0) 0)) (IntKind.wrap .i64 ((Int.tmod x0 8) * 8)))))
         else
          none
        else
         none
       else
        none
      else
       none
     else
      none
    else
     none
   else
    none
  else
   some (mk0 x3)
def Ff.l1_0.g {α : Type} (mk0 : LI → α) (n : Nat) : Nat → Int → Int → LI → LI → Option α
 | 0, _, _, _, _ => none
 | m + 1, x0, x1, x2, x3 => Ff.l1_0.r mk0 n (fun y0 y1 y2 y3 => Ff.l1_0.g mk0 n m y0 y1 y2 y3)  x0 x1 x2 x3
def Ff.l1_0.m (n m : Nat) (t : (Int × (Int × (LI × LI)))) : Option LI := Ff.l1_0.g (fun a0 => a0) n m t.1 t.2.1 t.2.2.1 t.2.2.2
def Ff.l1_0.pat : St → Option (Int × (Int × (LI × LI)))
 | (St.mk [(.int .i64 x0), (.int .i64 x1), (.rints .u8 x2), (.ptr 0 [])] [(some (.var (.ints .u64 25 x3)))]) => some (x0, x1, x2, x3)
 | _ => none
def Ff.l1_0.shape (t : (Int × (Int × (LI × LI)))) : St := (St.mk [(.int .i64 t.1), (.int .i64 t.2.1), (.rints .u8 t.2.2.1), (.ptr 0 [])] [(some (.var (.ints .u64 25 t.2.2.2)))])
def Ff.l1_0.res : LI → Ex × St
 | u => ((.exit 0), (St.mk [(.ptr 0 [])] [(some (.var (.ints .u64 25 u)))]))
def Ff.l1_0.resK {R : Type} (u : LI) (K : Ex → St → Option R) : Option R := K (Ff.l1_0.res u).1 (Ff.l1_0.res u).2
noncomputable def Ff.A (n : Nat) : Ann := ⟨Tryd.f93.ntmps, 1, Ff.live, [(6, (.ints .u8))], [], fun k => match k with
 | 1 => some (.mk' Ff.l1_0.pat (Ff.l1_0.m n n) Ff.l1_0.resK)
 | _ => none, noNL, lookJ []⟩
noncomputable def Ff.b0 : Code := (loopsIn (Tryd.f93.body.getD .skip)).getD 0 .skip
def Ff.g {α : Type} (mk0 : LI → α) (n : Nat) (b : LI) (s : LI) : Option α :=
 bindO (Ff.l1_0.m n n (0, (((List.length b) : Nat) : Int), b, s)) fun r2 =>
  bindO (Fh.m n r2) fun r4 =>
   some (mk0 r4)
def Ff.m (n : Nat) (t : (LI × LI)) : Option LI := Ff.g (fun a0 => a0) n t.1 t.2
def Ff.pat : List AV → Blks → Option (LI × LI)
 | [(.ptr 0 []), (.rints .u8 b)], [(some (.var (.ints .u64 25 s)))] => some (b, s)
 | _, _ => none
def Ff.shape (t : (LI × LI)) : List AV × Blks := ([(.ptr 0 []), (.rints .u8 t.1)], [(some (.var (.ints .u64 25 t.2)))])
def Ff.res : LI → AV × Blks
 | u => ((.tup []), [(some (.var (.ints .u64 25 u)))])
def Ff.resK {R : Type} (u : LI) (K : AV → Blks → Option R) : Option R := K (Ff.res u).1 (Ff.res u).2
def Ff.c (n : Nat) : Abs.Callee := .mk' [true, false] [none, (some (.ints .u8))] Ff.pat (Ff.m n) Ff.resK
end
end
section
noncomputable section
noncomputable def Fau.C (n : Nat) : Ctx := ⟨Tryd.prog, abiG, lookC [], fun _ => false⟩
def Fau.live : NL := fun k => match k with
 | 4 => ([13, 12, 3, 0, 2], [3, 2])
 | _ => ([], [])
def Fau.l4_0.r {α : Type} (mk0 : LI → LI → α) (n : Nat) (rc : Int → Int → LI → LI → LI → Option α)  (x0 : Int) (x1 : Int) (x2 : LI) (x3 : LI) (x4 : LI) : Option α :=
  if (decide (x0 < x1)) = true then
   if 0 ≤ (IntKind.wrap .i64 (Int.tdiv x0 8)) then
    if (IntKind.wrap .i64 (Int.tdiv x0 8)) < 4 then
     if 0 ≤ (IntKind.wrap .i64 ((IntKind.wrap .i64 ((((List.length x2) : Nat) : Int) - 1)) - x0)) then
      if (IntKind.wrap .i64 ((IntKind.wrap .i64 ((((List.length x2) : Nat) : Int) - 1)) - x0)) < (((List.length x2) : Nat) : Int) then
       if 0 ≤ (IntKind.wrap .i64 ((Int.tmod x0 8) * 8)) then
        if 0 ≤ (IntKind.wrap .i64 (Int.tdiv x0 8)) then
         if (IntKind.wrap .i64 (Int.tdiv x0 8)) < 4 then
          rc (IntKind.wrap .i64 (x0 + 1)) x1 x2 (List.set x3 (Int.toNat (IntKind.wrap .i64 (Int.tdiv x0 8))) (ibits BinOp.or .u64 (List.getD x3 (Int.toNat (IntKind.wrap .i64 (Int.tdiv x0 8))) 0) (ishl .u64 (IntKind.wrap .u64 (List.getD x2 (Int.toNat (IntKind.wrap .i64 ((IntKind.wrap .i64 ((((List.length x2) : Nat) : Int) - 1)) - x0))) 0)) (IntKind.wrap .i64 ((Int.tmod x0 8) * 8))))) x4
         else
          none
        else
         none
       else
        none
      else
       none
     else
      none
    else
     none
   else
    none
  else
   some (mk0 x3 x4)
def Fau.l4_0.g {α : Type} (mk0 : LI → LI → α) (n : Nat) : Nat → Int → Int → LI → LI → LI → Option α
 | 0, _, _, _, _, _ => none
 | m + 1, x0, x1, x2, x3, x4 => Fau.l4_0.r mk0 n (fun y0 y1 y2 y3 y4 => Fau.l4_0.g mk0 n m y0 y1 y2 y3 y4)  x0 x1 x2 x3 x4
def Fau.l4_0.m (n m : Nat) (t : (Int × (Int × (LI × (LI × LI))))) : Option (LI × LI) := Fau.l4_0.g (fun a0 a1 => (a0, a1)) n m t.1 t.2.1 t.2.2.1 t.2.2.2.1 t.2.2.2.2
def Fau.l4_0.pat : St → Option (Int × (Int × (LI × (LI × LI))))
 | (St.mk [(.int .i64 x0), (.int .i64 x1), (.ptr 0 []), (.rints .u8 x2), (.ptr 1 [])] [(some (.var (.ints .u64 4 x3))), (some (.var (.ints .u64 4 x4)))]) => some (x0, x1, x2, x3, x4)
 | _ => none
def Fau.l4_0.shape (t : (Int × (Int × (LI × (LI × LI))))) : St := (St.mk [(.int .i64 t.1), (.int .i64 t.2.1), (.ptr 0 []), (.rints .u8 t.2.2.1), (.ptr 1 [])] [(some (.var (.ints .u64 4 t.2.2.2.1))), (some (.var (.ints .u64 4 t.2.2.2.2)))])
def Fau.l4_0.res : (LI × LI) → Ex × St
 | u => ((.exit 0), (St.mk [(.ptr 0 []), (.ptr 1 [])] [(some (.var (.ints .u64 4 u.1))), (some (.var (.ints .u64 4 u.2)))]))
def Fau.l4_0.resK {R : Type} (u : (LI × LI)) (K : Ex → St → Option R) : Option R := K (Fau.l4_0.res u).1 (Fau.l4_0.res u).2
noncomputable def Fau.A (n : Nat) : Ann := ⟨Tryd.f89.ntmps, 0, Fau.live, [(0, (.ints .u8))], [none], fun k => match k with
 | 4 => some (.mk' Fau.l4_0.pat (Fau.l4_0.m n n) Fau.l4_0.resK)
 | _ => none, noNL, lookJ []⟩
noncomputable def Fau.b0 : Code := (loopsIn (Tryd.f89.body.getD .skip)).getD 0 .skip
def Fau.g {α : Type} (mk0 : LI → α) (n : Nat) (a0 : LI) : Option α :=
 if 0 ≤ (if 0 > (IntKind.wrap .i64 ((((List.length a0) : Nat) : Int) - 32)) then 0 else (IntKind.wrap .i64 ((((List.length a0) : Nat) : Int) - 32))) then
  if (if 0 > (IntKind.wrap .i64 ((((List.length a0) : Nat) : Int) - 32)) then 0 else (IntKind.wrap .i64 ((((List.length a0) : Nat) : Int) - 32))) ≤ (((List.length a0) : Nat) : Int) then
   bindO (Fau.l4_0.m n n (0, (((List.length (Go.Abs.cut a0 (Int.toNat (if 0 > (IntKind.wrap .i64 ((((List.length a0) : Nat) : Int) - 32)) then 0 else (IntKind.wrap .i64 ((((List.length a0) : Nat) : Int) - 32)))) (Option.none))) : Nat) : Int), (Go.Abs.cut a0 (Int.toNat (if 0 > (IntKind.wrap .i64 ((((List.length a0) : Nat) : Int) - 32)) then 0 else (IntKind.wrap .i64 ((((List.length a0) : Nat) : Int) - 32)))) (Option.none)), [0, 0, 0, 0], [0, 0, 0, 0])) fun r6 =>
    some (mk0 r6.1)
  else
   none
 else
  none
def Fau.m (n : Nat) (t : LI) : Option LI := Fau.g (fun a0 => a0) n t
def Fau.pat : List AV → Blks → Option LI
 | [(.rints .u8 a0)], [] => some a0
 | _, _ => none
def Fau.shape (t : LI) : List AV × Blks := ([(.rints .u8 t)], [])
def Fau.res : LI → AV × Blks
 | u => ((.ints .u64 4 u), [])
def Fau.resK {R : Type} (u : LI) (K : AV → Blks → Option R) : Option R := K (Fau.res u).1 (Fau.res u).2
def Fau.c (n : Nat) : Abs.Callee := .mk' [] [(some (.ints .u8))] Fau.pat (Fau.m n) Fau.resK
end
end
section
noncomputable section
noncomputable def Fad.C (n : Nat) : Ctx := ⟨Tryd.prog, abiG, lookC [(93, Ff.c n), (89, Fau.c n)], fun _ => false⟩
def Fad.live : NL := fun k => match k with
 | 2 => ([0, 3, 2], [0, 3, 2])
 | 12 => ([30, 3, 5, 2], [5, 2])
 | _ => ([], [])
def Fad.l2_0.r {α : Type} (mk0 : LI → LI → LI → α) (n : Nat) (rc : LI → LI → LI → Option α)  (x0 : LI) (x1 : LI) (x2 : LI) : Option α :=
  if (decide ((((List.length x0) : Nat) : Int) ≥ 136)) = true then
   if 136 ≤ (((List.length x0) : Nat) : Int) then
    bindO (Ff.m n ((Go.Abs.cut x0 0 (Option.some 136)), x1)) fun r8 =>
     if 136 ≤ (((List.length x0) : Nat) : Int) then
      rc (Go.Abs.cut x0 136 (Option.none)) r8 x2
     else
      none
   else
    none
  else
   some (mk0 x0 x1 x2)
def Fad.l2_0.g {α : Type} (mk0 : LI → LI → LI → α) (n : Nat) : Nat → LI → LI → LI → Option α
 | 0, _, _, _ => none
 | m + 1, x0, x1, x2 => Fad.l2_0.r mk0 n (fun y0 y1 y2 => Fad.l2_0.g mk0 n m y0 y1 y2)  x0 x1 x2
def Fad.l2_0.m (n m : Nat) (t : (LI × (LI × LI))) : Option (LI × (LI × LI)) := Fad.l2_0.g (fun a0 a1 a2 => (a0, a1, a2)) n m t.1 t.2.1 t.2.2
def Fad.l2_0.pat : St → Option (LI × (LI × LI))
 | (St.mk [(.rints .u8 x0), (.ptr 0 []), (.ptr 1 [])] [(some (.var (.ints .u64 25 x1))), (some (.var (.ints .u64 4 x2)))]) => some (x0, x1, x2)
 | _ => none
def Fad.l2_0.shape (t : (LI × (LI × LI))) : St := (St.mk [(.rints .u8 t.1), (.ptr 0 []), (.ptr 1 [])] [(some (.var (.ints .u64 25 t.2.1))), (some (.var (.ints .u64 4 t.2.2)))])
def Fad.l2_0.res : (LI × (LI × LI)) → Ex × St
 | u => ((.exit 0), (St.mk [(.rints .u8 u.1), (.ptr 0 []), (.ptr 1 [])] [(some (.var (.ints .u64 25 u.2.1))), (some (.var (.ints .u64 4 u.2.2)))]))
def Fad.l2_0.resK {R : Type} (u : (LI × (LI × LI))) (K : Ex → St → Option R) : Option R := K (Fad.l2_0.res u).1 (Fad.l2_0.res u).2
def Fad.l12_0.r {α : Type} (mk0 : LI → LI → α) (n : Nat) (rc : Int → LI → LI → LI → Option α)  (x0 : Int) (x1 : LI) (x2 : LI) (x3 : LI) : Option α :=
  if (decide (x0 < 32)) = true then
   if 0 ≤ (IntKind.wrap .i64 (Int.tdiv x0 8)) then
    if (IntKind.wrap .i64 (Int.tdiv x0 8)) < 25 then
     if 0 ≤ (IntKind.wrap .i64 ((Int.tmod x0 8) * 8)) then
      if 0 ≤ x0 then
       if x0 < 32 then
        rc (IntKind.wrap .i64 (x0 + 1)) x1 (List.set x2 (Int.toNat x0) (IntKind.wrap .u8 (ishr .u64 (List.getD x1 (Int.toNat (IntKind.wrap .i64 (Int.tdiv x0 8))) 0) (IntKind.wrap .i64 ((Int.tmod x0 8) * 8))))) x3
       else
        none
      else
       none
     else
      none
    else
     none
   else
    none
  else
   some (mk0 x2 x3)
def Fad.l12_0.g {α : Type} (mk0 : LI → LI → α) (n : Nat) : Nat → Int → LI → LI → LI → Option α
 | 0, _, _, _, _ => none
 | m + 1, x0, x1, x2, x3 => Fad.l12_0.r mk0 n (fun y0 y1 y2 y3 => Fad.l12_0.g mk0 n m y0 y1 y2 y3)  x0 x1 x2 x3
def Fad.l12_0.m (n m : Nat) (t : (Int × (LI × (LI × LI)))) : Option (LI × LI) := Fad.l12_0.g (fun a0 a1 => (a0, a1)) n m t.1 t.2.1 t.2.2.1 t.2.2.2
def Fad.l12_0.pat : St → Option (Int × (LI × (LI × LI)))
 | (St.mk [(.int .i64 x0), (.ptr 0 []), (.ptr 1 []), (.ptr 2 [])] [(some (.var (.ints .u64 25 x1))), (some (.var (.ints .u8 32 x2))), (some (.var (.ints .u64 4 x3)))]) => some (x0, x1, x2, x3)
 | _ => none
def Fad.l12_0.shape (t : (Int × (LI × (LI × LI)))) : St := (St.mk [(.int .i64 t.1), (.ptr 0 []), (.ptr 1 []), (.ptr 2 [])] [(some (.var (.ints .u64 25 t.2.1))), (some (.var (.ints .u8 32 t.2.2.1))), (some (.var (.ints .u64 4 t.2.2.2)))])
def Fad.l12_0.res : (LI × LI) → Ex × St
 | u => ((.exit 2), (St.mk [(.ptr 0 []), (.ptr 1 [])] [(some (.var (.ints .u8 32 u.1))), (some (.var (.ints .u64 4 u.2)))]))
def Fad.l12_0.resK {R : Type} (u : (LI × LI)) (K : Ex → St → Option R) : Option R := K (Fad.l12_0.res u).1 (Fad.l12_0.res u).2
noncomputable def Fad.A (n : Nat) : Ann := ⟨Tryd.f57.ntmps, 0, Fad.live, [(0, (.ints .u8))], [none], fun k => match k with
 | 2 => some (.mk' Fad.l2_0.pat (Fad.l2_0.m n n) Fad.l2_0.resK)
 | 12 => some (.mk' Fad.l12_0.pat (Fad.l12_0.m n n) Fad.l12_0.resK)
 | _ => none, noNL, lookJ []⟩
noncomputable def Fad.b0 : Code := (loopsIn (Tryd.f57.body.getD .skip)).getD 0 .skip
noncomputable def Fad.b1 : Code := (loopsIn (Tryd.f57.body.getD .skip)).getD 1 .skip
def Fad.g {α : Type} (mk0 : LI → α) (n : Nat) (a0 : LI) : Option α :=
 bindO (Fad.l2_0.m n n (a0, ([0, 0, 0, 0, 0, 0, 0, 0, 0, 0, 0, 0, 0, 0, 0, 0, 0, 0, 0, 0, 0, 0, 0, 0, 0] : List Int), [0, 0, 0, 0])) fun r2 =>
  if (((List.length r2.1) : Nat) : Int) < 136 then
   if (((List.length r2.1) : Nat) : Int) < 136 then
    bindO (Ff.m n ((List.take 136 (List.drop 0 (List.set (List.set ([] ++ ((List.take 136 r2.1) ++ (List.drop (0 + (Min.min (List.length r2.1) 136)) ([0, 0, 0, 0, 0, 0, 0, 0, 0, 0, 0, 0, 0, 0, 0, 0, 0, 0, 0, 0, 0, 0, 0, 0, 0, 0, 0, 0, 0, 0, 0, 0, 0, 0, 0, 0, 0, 0, 0, 0, 0, 0, 0, 0, 0, 0, 0, 0, 0, 0, 0, 0, 0, 0, 0, 0, 0, 0, 0, 0, 0, 0, 0, 0, 0, 0, 0, 0, 0, 0, 0, 0, 0, 0, 0, 0, 0, 0, 0, 0, 0, 0, 0, 0, 0, 0, 0, 0, 0, 0, 0, 0, 0, 0, 0, 0, 0, 0, 0, 0, 0, 0, 0, 0, 0, 0, 0, 0, 0, 0, 0, 0, 0, 0, 0, 0, 0, 0, 0, 0, 0, 0, 0, 0, 0, 0, 0, 0, 0, 0, 0, 0, 0, 0, 0, 0] : List Int)))) (Int.toNat (((List.length r2.1) : Nat) : Int)) (ibits BinOp.xor .u8 (List.getD ([] ++ ((List.take 136 r2.1) ++ (List.drop (0 + (Min.min (List.length r2.1) 136)) ([0, 0, 0, 0, 0, 0, 0, 0, 0, 0, 0, 0, 0, 0, 0, 0, 0, 0, 0, 0, 0, 0, 0, 0, 0, 0, 0, 0, 0, 0, 0, 0, 0, 0, 0, 0, 0, 0, 0, 0, 0, 0, 0, 0, 0, 0, 0, 0, 0, 0, 0, 0, 0, 0, 0, 0, 0, 0, 0, 0, 0, 0, 0, 0, 0, 0, 0, 0, 0, 0, 0, 0, 0, 0, 0, 0, 0, 0, 0, 0, 0, 0, 0, 0, 0, 0, 0, 0, 0, 0, 0, 0, 0, 0, 0, 0, 0, 0, 0, 0, 0, 0, 0, 0, 0, 0, 0, 0, 0, 0, 0, 0, 0, 0, 0, 0, 0, 0, 0, 0, 0, 0, 0, 0, 0, 0, 0, 0, 0, 0, 0, 0, 0, 0, 0, 0] : List Int)))) (Int.toNat (((List.length r2.1) : Nat) : Int)) 0) 1)) 135 (ibits BinOp.xor .u8 (List.getD (List.set ([] ++ ((List.take 136 r2.1) ++ (List.drop (0 + (Min.min (List.length r2.1) 136)) ([0, 0, 0, 0, 0, 0, 0, 0, 0, 0, 0, 0, 0, 0, 0, 0, 0, 0, 0, 0, 0, 0, 0, 0, 0, 0, 0, 0, 0, 0, 0, 0, 0, 0, 0, 0, 0, 0, 0, 0, 0, 0, 0, 0, 0, 0, 0, 0, 0, 0, 0, 0, 0, 0, 0, 0, 0, 0, 0, 0, 0, 0, 0, 0, 0, 0, 0, 0, 0, 0, 0, 0, 0, 0, 0, 0, 0, 0, 0, 0, 0, 0, 0, 0, 0, 0, 0, 0, 0, 0, 0, 0, 0, 0, 0, 0, 0, 0, 0, 0, 0, 0, 0, 0, 0, 0, 0, 0, 0, 0, 0, 0, 0, 0, 0, 0, 0, 0, 0, 0, 0, 0, 0, 0, 0, 0, 0, 0, 0, 0, 0, 0, 0, 0, 0, 0] : List Int)))) (Int.toNat (((List.length r2.1) : Nat) : Int)) (ibits BinOp.xor .u8 (List.getD ([] ++ ((List.take 136 r2.1) ++ (List.drop (0 + (Min.min (List.length r2.1) 136)) ([0, 0, 0, 0, 0, 0, 0, 0, 0, 0, 0, 0, 0, 0, 0, 0, 0, 0, 0, 0, 0, 0, 0, 0, 0, 0, 0, 0, 0, 0, 0, 0, 0, 0, 0, 0, 0, 0, 0, 0, 0, 0, 0, 0, 0, 0, 0, 0, 0, 0, 0, 0, 0, 0, 0, 0, 0, 0, 0, 0, 0, 0, 0, 0, 0, 0, 0, 0, 0, 0, 0, 0, 0, 0, 0, 0, 0, 0, 0, 0, 0, 0, 0, 0, 0, 0, 0, 0, 0, 0, 0, 0, 0, 0, 0, 0, 0, 0, 0, 0, 0, 0, 0, 0, 0, 0, 0, 0, 0, 0, 0, 0, 0, 0, 0, 0, 0, 0, 0, 0, 0, 0, 0, 0, 0, 0, 0, 0, 0, 0, 0, 0, 0, 0, 0, 0] : List Int)))) (Int.toNat (((List.length r2.1) : Nat) : Int)) 0) 1)) 135 0) 128)))), r2.2.1)) fun r8 =>
     bindO (Fad.l12_0.m n n (0, r8, ([0, 0, 0, 0, 0, 0, 0, 0, 0, 0, 0, 0, 0, 0, 0, 0, 0, 0, 0, 0, 0, 0, 0, 0, 0, 0, 0, 0, 0, 0, 0, 0] : List Int), r2.2.2)) fun r10 =>
      bindO (Fau.m n (List.take 32 (List.drop 0 r10.1))) fun r12 =>
       some (mk0 r12)
   else
    none
  else
   none
def Fad.m (n : Nat) (t : LI) : Option LI := Fad.g (fun a0 => a0) n t
def Fad.pat : List AV → Blks → Option LI
 | [(.rints .u8 a0)], [] => some a0
 | _, _ => none
def Fad.shape (t : LI) : List AV × Blks := ([(.rints .u8 t)], [])
def Fad.res : LI → AV × Blks
 | u => ((.ints .u64 4 u), [])
def Fad.resK {R : Type} (u : LI) (K : AV → Blks → Option R) : Option R := K (Fad.res u).1 (Fad.res u).2
def Fad.c (n : Nat) : Abs.Callee := .mk' [] [(some (.ints .u8))] Fad.pat (Fad.m n) Fad.resK
end
end
section
noncomputable abbrev Ff.R0 (n : Nat) := roundOf (Ff.C n) (Ff.A n) n Ff.b0
theorem Ff.l1_0.rmap {α β : Type} (h : β → α) (mk0 : LI → β) (n : Nat) (f : Int → Int → LI → LI → Option β)  (x0 : Int) (x1 : Int) (x2 : LI) (x3 : LI) : Ff.l1_0.r (fun a0 => (h (mk0 a0))) n (fun y0 y1 y2 y3 => (f y0 y1 y2 y3).map h) x0 x1 x2 x3 = (Ff.l1_0.r mk0 n f x0 x1 x2 x3).map h := by
  unfold Ff.l1_0.r
  exact (ite_map (ite_map (ite_map (ite_map (ite_map (ite_map (ite_map (ite_map rfl rfl) rfl) rfl) rfl) rfl) rfl) rfl) rfl)
theorem Ff.l1_0.gmap {α β : Type} (h : β → α) (mk0 : LI → β) (n : Nat) : ∀ (m : Nat) (x0 : Int) (x1 : Int) (x2 : LI) (x3 : LI), Ff.l1_0.g (fun a0 => (h (mk0 a0))) n m x0 x1 x2 x3 = (Ff.l1_0.g mk0 n m x0 x1 x2 x3).map h
  | 0, _, _, _, _ => rfl
  | m + 1, x0, x1, x2, x3 => by
    unfold Ff.l1_0.g
    rw [← Ff.l1_0.rmap]
    congr
    · funext y0 y1 y2 y3; exact Ff.l1_0.gmap h mk0 n m y0 y1 y2 y3
theorem Ff.l1_0.pat_shape : ∀ st t, Ff.l1_0.pat st = some t → st = Ff.l1_0.shape t := fun _ _ h => by unfold Ff.l1_0.pat at h; split at h <;> cases h; rfl
def Ff.l1_0.k0 : LI → Ex × St := (fun a0 => (((.exit 0), (St.mk [(.ptr 0 [])] [(some (.var (.ints .u64 25 a0)))])) : Ex × St))
theorem Ff.l1_0.round (n : Nat) (rc : St → Option (Ex × St)) (x0 : Int) (x1 : Int) (x2 : LI) (x3 : LI) : Ff.R0 n rc ((St.mk [(.int .i64 x0), (.int .i64 x1), (.rints .u8 x2), (.ptr 0 [])] [(some (.var (.ints .u64 25 x3)))])) = Ff.l1_0.r Ff.l1_0.k0 n (fun y0 y1 y2 y3 => rc ((St.mk [(.int .i64 y0), (.int .i64 y1), (.rints .u8 y2), (.ptr 0 [])] [(some (.var (.ints .u64 25 y3)))]))) x0 x1 x2 x3 := by kernel_rfl
theorem Ff.l1_0.loop' (n : Nat) : ∀ (m : Nat) (t : (Int × (Int × (LI × LI)))), loopOf (Ff.R0 n) m (Ff.l1_0.shape t) = Ff.l1_0.g Ff.l1_0.k0 n m t.1 t.2.1 t.2.2.1 t.2.2.2 :=
  loop_of_round (shape := Ff.l1_0.shape) (body := Ff.R0 n) (g := fun m t => Ff.l1_0.g Ff.l1_0.k0 n m t.1 t.2.1 t.2.2.1 t.2.2.2) (fun t => rfl)
    fun m t ih => (Ff.l1_0.round n (loopOf (Ff.R0 n) m) t.1 t.2.1 t.2.2.1 t.2.2.2).trans (congrFun (congrFun (congrFun (congrFun (congrArg (Ff.l1_0.r Ff.l1_0.k0 n) (funext fun y0 => funext fun y1 => funext fun y2 => funext fun y3 => ih (y0, y1, y2, y3))) t.1) t.2.1) t.2.2.1) t.2.2.2)
theorem Ff.l1_0.loop (n m : Nat) (t : (Int × (Int × (LI × LI)))) : loopOf (Ff.R0 n) m (Ff.l1_0.shape t) = (Ff.l1_0.m n m t).map Ff.l1_0.res :=
  (Ff.l1_0.loop' n m t).trans (Ff.l1_0.gmap Ff.l1_0.res (fun a0 => a0) n m t.1 t.2.1 t.2.2.1 t.2.2.2)
theorem Ff.gmap {α β : Type} (h : β → α) (mk0 : LI → β) (n : Nat) (b : LI) (s : LI) : Ff.g (fun a0 => (h (mk0 a0))) n b s = (Ff.g mk0 n b s).map h := by
  unfold Ff.g
  exact (bindO_map fun r2 => (bindO_map fun r4 => rfl))
theorem Ff.run (n : Nat) (b : LI) (s : LI) : runF (Ff.C n) (Ff.A n) n Tryd.f93 [(.ptr 0 []), (.rints .u8 b)] [(some (.var (.ints .u64 25 s)))] (fun v o => some (v, o)) = Ff.g (fun a0 => (((.tup []), [(some (.var (.ints .u64 25 a0)))]) : AV × Blks)) n b s := by kernel_rfl
theorem Ff.call (hmix : Tryd.prog.follows .mixedOrders = true) (n : Nat) (t : (LI × LI)) (u) (h : Ff.m n t = some u) : FnC Tryd.prog abiG 93 (Ff.shape t).1 (Ff.shape t).2 (Ff.res u).1 (Ff.res u).2 :=
  fnC1 (C := Ff.C n) (A := Ff.A n) (fn := Tryd.f93) rfl (.cons (Fh.s hmix n) .nil) hmix Tryd.func93 (by kernel_rfl) (lp := [Ff.b0]) (by kernel_rfl) (.cons (show (Ff.A n).loop (key Ff.b0) = some (.mk' Ff.l1_0.pat (Ff.l1_0.m n n) Ff.l1_0.resK) by kernel_rfl) (LoopS.of (res := Ff.l1_0.res) (fun R u K => rfl) Ff.l1_0.pat_shape fun t => Ff.l1_0.loop n n t)
  .nil)
  (nj rfl) (by decide) rfl rfl (by show 2 ≤ Tryd.f93.ntmps; decide) (Ff.run n t.1 t.2) (Ff.gmap Ff.res (fun a0 => a0) n t.1 t.2) h
theorem Ff.s (hmix : Tryd.prog.follows .mixedOrders = true) (n : Nat) : CalleeS Tryd.prog abiG 93 (Ff.c n) :=
  .mk1 (res := Ff.res) (shape := Ff.shape) (fun R u K => rfl) (fun _ _ _ h => by unfold Ff.pat at h; split at h <;> cases h; rfl) (fun t u h => Ff.call hmix n t u h) Tryd.func93 (by decide) (by kernel_rfl)
end
section
noncomputable abbrev Fau.R0 (n : Nat) := roundOf (Fau.C n) (Fau.A n) n Fau.b0
theorem Fau.l4_0.rmap {α β : Type} (h : β → α) (mk0 : LI → LI → β) (n : Nat) (f : Int → Int → LI → LI → LI → Option β)  (x0 : Int) (x1 : Int) (x2 : LI) (x3 : LI) (x4 : LI) : Fau.l4_0.r (fun a0 a1 => (h (mk0 a0 a1))) n (fun y0 y1 y2 y3 y4 => (f y0 y1 y2 y3 y4).map h) x0 x1 x2 x3 x4 = (Fau.l4_0.r mk0 n f x0 x1 x2 x3 x4).map h := by
  unfold Fau.l4_0.r
  exact (ite_map (ite_map (ite_map (ite_map (ite_map (ite_map (ite_map (ite_map rfl rfl) rfl) rfl) rfl) rfl) rfl) rfl) rfl)
theorem Fau.l4_0.gmap {α β : Type} (h : β → α) (mk0 : LI → LI → β) (n : Nat) : ∀ (m : Nat) (x0 : Int) (x1 : Int) (x2 : LI) (x3 : LI) (x4 : LI), Fau.l4_0.g (fun a0 a1 => (h (mk0 a0 a1))) n m x0 x1 x2 x3 x4 = (Fau.l4_0.g mk0 n m x0 x1 x2 x3 x4).map h
  | 0, _, _, _, _, _ => rfl
  | m + 1, x0, x1, x2, x3, x4 => by
    unfold Fau.l4_0.g
    rw [← Fau.l4_0.rmap]
    congr
    · funext y0 y1 y2 y3 y4; exact Fau.l4_0.gmap h mk0 n m y0 y1 y2 y3 y4
theorem Fau.l4_0.pat_shape : ∀ st t, Fau.l4_0.pat st = some t → st = Fau.l4_0.shape t := fun _ _ h => by unfold Fau.l4_0.pat at h; split at h <;> cases h; rfl
def Fau.l4_0.k0 : LI → LI → Ex × St := (fun a0 a1 => (((.exit 0), (St.mk [(.ptr 0 []), (.ptr 1 [])] [(some (.var (.ints .u64 4 a0))), (some (.var (.ints .u64 4 a1)))])) : Ex × St))
theorem Fau.l4_0.round (n : Nat) (rc : St → Option (Ex × St)) (x0 : Int) (x1 : Int) (x2 : LI) (x3 : LI) (x4 : LI) : Fau.R0 n rc ((St.mk [(.int .i64 x0), (.int .i64 x1), (.ptr 0 []), (.rints .u8 x2), (.ptr 1 [])] [(some (.var (.ints .u64 4 x3))), (some (.var (.ints .u64 4 x4)))])) = Fau.l4_0.r Fau.l4_0.k0 n (fun y0 y1 y2 y3 y4 => rc ((St.mk [(.int .i64 y0), (.int .i64 y1), (.ptr 0 []), (.rints .u8 y2), (.ptr 1 [])] [(some (.var (.ints .u64 4 y3))), (some (.var (.ints .u64 4 y4)))]))) x0 x1 x2 x3 x4 := by kernel_rfl
theorem Fau.l4_0.loop' (n : Nat) : ∀ (m : Nat) (t : (Int × (Int × (LI × (LI × LI))))), loopOf (Fau.R0 n) m (Fau.l4_0.shape t) = Fau.l4_0.g Fau.l4_0.k0 n m t.1 t.2.1 t.2.2.1 t.2.2.2.1 t.2.2.2.2 :=
  loop_of_round (shape := Fau.l4_0.shape) (body := Fau.R0 n) (g := fun m t => Fau.l4_0.g Fau.l4_0.k0 n m t.1 t.2.1 t.2.2.1 t.2.2.2.1 t.2.2.2.2) (fun t => rfl)
    fun m t ih => (Fau.l4_0.round n (loopOf (Fau.R0 n) m) t.1 t.2.1 t.2.2.1 t.2.2.2.1 t.2.2.2.2).trans (congrFun (congrFun (congrFun (congrFun (congrFun (congrArg (Fau.l4_0.r Fau.l4_0.k0 n) (funext fun y0 => funext fun y1 => funext fun y2 => funext fun y3 => funext fun y4 => ih (y0, y1, y2, y3, y4))) t.1) t.2.1) t.2.2.1) t.2.2.2.1) t.2.2.2.2)
theorem Fau.l4_0.loop (n m : Nat) (t : (Int × (Int × (LI × (LI × LI))))) : loopOf (Fau.R0 n) m (Fau.l4_0.shape t) = (Fau.l4_0.m n m t).map Fau.l4_0.res :=
  (Fau.l4_0.loop' n m t).trans (Fau.l4_0.gmap Fau.l4_0.res (fun a0 a1 => (a0, a1)) n m t.1 t.2.1 t.2.2.1 t.2.2.2.1 t.2.2.2.2)
theorem Fau.gmap {α β : Type} (h : β → α) (mk0 : LI → β) (n : Nat) (a0 : LI) : Fau.g (fun a0 => (h (mk0 a0))) n a0 = (Fau.g mk0 n a0).map h := by
  unfold Fau.g
  exact (ite_map (ite_map (bindO_map fun r6 => rfl) rfl) rfl)
theorem Fau.run (n : Nat) (a0 : LI) : runF (Fau.C n) (Fau.A n) n Tryd.f89 [(.rints .u8 a0)] [] (fun v o => some (v, o)) = Fau.g (fun a0 => (((.ints .u64 4 a0), []) : AV × Blks)) n a0 := by kernel_rfl
theorem Fau.call (hmix : Tryd.prog.follows .mixedOrders = true) (n : Nat) (t : LI) (u) (h : Fau.m n t = some u) : FnC Tryd.prog abiG 89 (Fau.shape t).1 (Fau.shape t).2 (Fau.res u).1 (Fau.res u).2 :=
  fnC1 (C := Fau.C n) (A := Fau.A n) (fn := Tryd.f89) rfl .nil hmix Tryd.func89 (by kernel_rfl) (lp := [Fau.b0]) (by kernel_rfl) (.cons (show (Fau.A n).loop (key Fau.b0) = some (.mk' Fau.l4_0.pat (Fau.l4_0.m n n) Fau.l4_0.resK) by kernel_rfl) (LoopS.of (res := Fau.l4_0.res) (fun R u K => rfl) Fau.l4_0.pat_shape fun t => Fau.l4_0.loop n n t)
  .nil)
  (nj rfl) (by decide) rfl rfl (by show 1 ≤ Tryd.f89.ntmps; decide) (Fau.run n t) (Fau.gmap Fau.res (fun a0 => a0) n t) h
theorem Fau.s (hmix : Tryd.prog.follows .mixedOrders = true) (n : Nat) : CalleeS Tryd.prog abiG 89 (Fau.c n) :=
  .mk1 (res := Fau.res) (shape := Fau.shape) (fun R u K => rfl) (fun _ _ _ h => by unfold Fau.pat at h; split at h <;> cases h; rfl) (fun t u h => Fau.call hmix n t u h) Tryd.func89 (by decide) (by kernel_rfl)
end
section
noncomputable abbrev Fad.R0 (n : Nat) := roundOf (Fad.C n) (Fad.A n) n Fad.b0
noncomputable abbrev Fad.R1 (n : Nat) := roundOf (Fad.C n) (Fad.A n) n Fad.b1
theorem Fad.l2_0.rmap {α β : Type} (h : β → α) (mk0 : LI → LI → LI → β) (n : Nat) (f : LI → LI → LI → Option β)  (x0 : LI) (x1 : LI) (x2 : LI) : Fad.l2_0.r (fun a0 a1 a2 => (h (mk0 a0 a1 a2))) n (fun y0 y1 y2 => (f y0 y1 y2).map h) x0 x1 x2 = (Fad.l2_0.r mk0 n f x0 x1 x2).map h := by
  unfold Fad.l2_0.r
  exact (ite_map (ite_map (bindO_map fun r8 => (ite_map rfl rfl)) rfl) rfl)
theorem Fad.l2_0.gmap {α β : Type} (h : β → α) (mk0 : LI → LI → LI → β) (n : Nat) : ∀ (m : Nat) (x0 : LI) (x1 : LI) (x2 : LI), Fad.l2_0.g (fun a0 a1 a2 => (h (mk0 a0 a1 a2))) n m x0 x1 x2 = (Fad.l2_0.g mk0 n m x0 x1 x2).map h
  | 0, _, _, _ => rfl
  | m + 1, x0, x1, x2 => by
    unfold Fad.l2_0.g
    rw [← Fad.l2_0.rmap]
    congr
    · funext y0 y1 y2; exact Fad.l2_0.gmap h mk0 n m y0 y1 y2
theorem Fad.l2_0.pat_shape : ∀ st t, Fad.l2_0.pat st = some t → st = Fad.l2_0.shape t := fun _ _ h => by unfold Fad.l2_0.pat at h; split at h <;> cases h; rfl
def Fad.l2_0.k0 : LI → LI → LI → Ex × St := (fun a0 a1 a2 => (((.exit 0), (St.mk [(.rints .u8 a0), (.ptr 0 []), (.ptr 1 [])] [(some (.var (.ints .u64 25 a1))), (some (.var (.ints .u64 4 a2)))])) : Ex × St))
theorem Fad.l2_0.round (n : Nat) (rc : St → Option (Ex × St)) (x0 : LI) (x1 : LI) (x2 : LI) : Fad.R0 n rc ((St.mk [(.rints .u8 x0), (.ptr 0 []), (.ptr 1 [])] [(some (.var (.ints .u64 25 x1))), (some (.var (.ints .u64 4 x2)))])) = Fad.l2_0.r Fad.l2_0.k0 n (fun y0 y1 y2 => rc ((St.mk [(.rints .u8 y0), (.ptr 0 []), (.ptr 1 [])] [(some (.var (.ints .u64 25 y1))), (some (.var (.ints .u64 4 y2)))]))) x0 x1 x2 := by kernel_rfl
theorem Fad.l2_0.loop' (n : Nat) : ∀ (m : Nat) (t : (LI × (LI × LI))), loopOf (Fad.R0 n) m (Fad.l2_0.shape t) = Fad.l2_0.g Fad.l2_0.k0 n m t.1 t.2.1 t.2.2 :=
  loop_of_round (shape := Fad.l2_0.shape) (body := Fad.R0 n) (g := fun m t => Fad.l2_0.g Fad.l2_0.k0 n m t.1 t.2.1 t.2.2) (fun t => rfl)
    fun m t ih => (Fad.l2_0.round n (loopOf (Fad.R0 n) m) t.1 t.2.1 t.2.2).trans (congrFun (congrFun (congrFun (congrArg (Fad.l2_0.r Fad.l2_0.k0 n) (funext fun y0 => funext fun y1 => funext fun y2 => ih (y0, y1, y2))) t.1) t.2.1) t.2.2)
theorem Fad.l2_0.loop (n m : Nat) (t : (LI × (LI × LI))) : loopOf (Fad.R0 n) m (Fad.l2_0.shape t) = (Fad.l2_0.m n m t).map Fad.l2_0.res :=
  (Fad.l2_0.loop' n m t).trans (Fad.l2_0.gmap Fad.l2_0.res (fun a0 a1 a2 => (a0, a1, a2)) n m t.1 t.2.1 t.2.2)
theorem Fad.l12_0.rmap {α β : Type} (h : β → α) (mk0 : LI → LI → β) (n : Nat) (f : Int → LI → LI → LI → Option β)  (x0 : Int) (x1 : LI) (x2 : LI) (x3 : LI) : Fad.l12_0.r (fun a0 a1 => (h (mk0 a0 a1))) n (fun y0 y1 y2 y3 => (f y0 y1 y2 y3).map h) x0 x1 x2 x3 = (Fad.l12_0.r mk0 n f x0 x1 x2 x3).map h := by
  unfold Fad.l12_0.r
  exact (ite_map (ite_map (ite_map (ite_map (ite_map (ite_map rfl rfl) rfl) rfl) rfl) rfl) rfl)
theorem Fad.l12_0.gmap {α β : Type} (h : β → α) (mk0 : LI → LI → β) (n : Nat) : ∀ (m : Nat) (x0 : Int) (x1 : LI) (x2 : LI) (x3 : LI), Fad.l12_0.g (fun a0 a1 => (h (mk0 a0 a1))) n m x0 x1 x2 x3 = (Fad.l12_0.g mk0 n m x0 x1 x2 x3).map h
  | 0, _, _, _, _ => rfl
  | m + 1, x0, x1, x2, x3 => by
    unfold Fad.l12_0.g
    rw [← Fad.l12_0.rmap]
    congr
    · funext y0 y1 y2 y3; exact Fad.l12_0.gmap h mk0 n m y0 y1 y2 y3
theorem Fad.l12_0.pat_shape : ∀ st t, Fad.l12_0.pat st = some t → st = Fad.l12_0.shape t := fun _ _ h => by unfold Fad.l12_0.pat at h; split at h <;> cases h; rfl
def Fad.l12_0.k0 : LI → LI → Ex × St := (fun a0 a1 => (((.exit 2), (St.mk [(.ptr 0 []), (.ptr 1 [])] [(some (.var (.ints .u8 32 a0))), (some (.var (.ints .u64 4 a1)))])) : Ex × St))
theorem Fad.l12_0.round (n : Nat) (rc : St → Option (Ex × St)) (x0 : Int) (x1 : LI) (x2 : LI) (x3 : LI) : Fad.R1 n rc ((St.mk [(.int .i64 x0), (.ptr 0 []), (.ptr 1 []), (.ptr 2 [])] [(some (.var (.ints .u64 25 x1))), (some (.var (.ints .u8 32 x2))), (some (.var (.ints .u64 4 x3)))])) = Fad.l12_0.r Fad.l12_0.k0 n (fun y0 y1 y2 y3 => rc ((St.mk [(.int .i64 y0), (.ptr 0 []), (.ptr 1 []), (.ptr 2 [])] [(some (.var (.ints .u64 25 y1))), (some (.var (.ints .u8 32 y2))), (some (.var (.ints .u64 4 y3)))]))) x0 x1 x2 x3 := by kernel_rfl
theorem Fad.l12_0.loop' (n : Nat) : ∀ (m : Nat) (t : (Int × (LI × (LI × LI)))), loopOf (Fad.R1 n) m (Fad.l12_0.shape t) = Fad.l12_0.g Fad.l12_0.k0 n m t.1 t.2.1 t.2.2.1 t.2.2.2 :=
  loop_of_round (shape := Fad.l12_0.shape) (body := Fad.R1 n) (g := fun m t => Fad.l12_0.g Fad.l12_0.k0 n m t.1 t.2.1 t.2.2.1 t.2.2.2) (fun t => rfl)
    fun m t ih => (Fad.l12_0.round n (loopOf (Fad.R1 n) m) t.1 t.2.1 t.2.2.1 t.2.2.2).trans (congrFun (congrFun (congrFun (congrFun (congrArg (Fad.l12_0.r Fad.l12_0.k0 n) (funext fun y0 => funext fun y1 => funext fun y2 => funext fun y3 => ih (y0, y1, y2, y3))) t.1) t.2.1) t.2.2.1) t.2.2.2)
theorem Fad.l12_0.loop (n m : Nat) (t : (Int × (LI × (LI × LI)))) : loopOf (Fad.R1 n) m (Fad.l12_0.shape t) = (Fad.l12_0.m n m t).map Fad.l12_0.res :=
  (Fad.l12_0.loop' n m t).trans (Fad.l12_0.gmap Fad.l12_0.res (fun a0 a1 => (a0, a1)) n m t.1 t.2.1 t.2.2.1 t.2.2.2)
theorem Fad.gmap {α β : Type} (h : β → α) (mk0 : LI → β) (n : Nat) (a0 : LI) : Fad.g (fun a0 => (h (mk0 a0))) n a0 = (Fad.g mk0 n a0).map h := by
  unfold Fad.g
  exact (bindO_map fun r2 => (ite_map (ite_map (bindO_map fun r8 => (bindO_map fun r10 => (bindO_map fun r12 => rfl))) rfl) rfl))
theorem Fad.run (n : Nat) (a0 : LI) : runF (Fad.C n) (Fad.A n) n Tryd.f57 [(.rints .u8 a0)] [] (fun v o => some (v, o)) = Fad.g (fun a0 => (((.ints .u64 4 a0), []) : AV × Blks)) n a0 := by kernel_rfl
theorem Fad.call (hmix : Tryd.prog.follows .mixedOrders = true) (n : Nat) (t : LI) (u) (h : Fad.m n t = some u) : FnC Tryd.prog abiG 57 (Fad.shape t).1 (Fad.shape t).2 (Fad.res u).1 (Fad.res u).2 :=
  fnC1 (C := Fad.C n) (A := Fad.A n) (fn := Tryd.f57) rfl (.cons (Ff.s hmix n) (.cons (Fau.s hmix n) .nil)) hmix Tryd.func57 (by kernel_rfl) (lp := [Fad.b0, Fad.b1]) (by kernel_rfl) (.cons (show (Fad.A n).loop (key Fad.b0) = some (.mk' Fad.l2_0.pat (Fad.l2_0.m n n) Fad.l2_0.resK) by kernel_rfl) (LoopS.of (res := Fad.l2_0.res) (fun R u K => rfl) Fad.l2_0.pat_shape fun t => Fad.l2_0.loop n n t)
  (.cons (show (Fad.A n).loop (key Fad.b1) = some (.mk' Fad.l12_0.pat (Fad.l12_0.m n n) Fad.l12_0.resK) by kernel_rfl) (LoopS.of (res := Fad.l12_0.res) (fun R u K => rfl) Fad.l12_0.pat_shape fun t => Fad.l12_0.loop n n t)
  .nil))
  (nj rfl) (by decide) rfl rfl (by show 1 ≤ Tryd.f57.ntmps; decide) (Fad.run n t) (Fad.gmap Fad.res (fun a0 => a0) n t) h
theorem Fad.s (hmix : Tryd.prog.follows .mixedOrders = true) (n : Nat) : CalleeS Tryd.prog abiG 57 (Fad.c n) :=
  .mk1 (res := Fad.res) (shape := Fad.shape) (fun R u K => rfl) (fun _ _ _ h => by unfold Fad.pat at h; split at h <;> cases h; rfl) (fun t u h => Fad.call hmix n t u h) Tryd.func57 (by decide) (by kernel_rfl)
end
section
noncomputable section
noncomputable def Fbf.C (n : Nat) : Ctx := ⟨Tryd.prog, abiG, lookC [], fun _ => false⟩
def Fbf.live : NL := fun k => match k with
 | 4 => ([5, 4, 3, 0, 2], [3, 2])
 | _ => ([], [])
def Fbf.l4_0.r {α : Type} (mk0 : LI → LI → α) (n : Nat) (rc : Int → Int → LI → LI → LI → Option α)  (x0 : Int) (x1 : Int) (x2 : LI) (x3 : LI) (x4 : LI) : Option α :=
  if (decide (x0 < 32)) = true then
   if (decide (x0 < x1)) = true then
    if 0 ≤ (IntKind.wrap .i64 (Int.tdiv x0 8)) then
     if (IntKind.wrap .i64 (Int.tdiv x0 8)) < 4 then
      if 0 ≤ (IntKind.wrap .i64 ((IntKind.wrap .i64 (x1 - 1)) - x0)) then
       if (IntKind.wrap .i64 ((IntKind.wrap .i64 (x1 - 1)) - x0)) < (((List.length x2) : Nat) : Int) then
        if 0 ≤ (IntKind.wrap .u64 (IntKind.wrap .i64 ((Int.tmod x0 8) * 8))) then
         if 0 ≤ (IntKind.wrap .i64 (Int.tdiv x0 8)) then
          if (IntKind.wrap .i64 (Int.tdiv x0 8)) < 4 then
           rc (IntKind.wrap .i64 (x0 + 1)) x1 x2 (List.set x3 (Int.toNat (IntKind.wrap .i64 (Int.tdiv x0 8))) (ibits BinOp.or .u64 (List.getD x3 (Int.toNat (IntKind.wrap .i64 (Int.tdiv x0 8))) 0) (ishl .u64 (IntKind.wrap .u64 (List.getD x2 (Int.toNat (IntKind.wrap .i64 ((IntKind.wrap .i64 (x1 - 1)) - x0))) 0)) (IntKind.wrap .u64 (IntKind.wrap .i64 ((Int.tmod x0 8) * 8)))))) x4
          else
           none
         else
          none
        else
         none
       else
        none
      else
       none
     else
      none
    else
     none
   else
    some (mk0 x3 x4)
  else
   some (mk0 x3 x4)
def Fbf.l4_0.g {α : Type} (mk0 : LI → LI → α) (n : Nat) : Nat → Int → Int → LI → LI → LI → Option α
 | 0, _, _, _, _, _ => none
 | m + 1, x0, x1, x2, x3, x4 => Fbf.l4_0.r mk0 n (fun y0 y1 y2 y3 y4 => Fbf.l4_0.g mk0 n m y0 y1 y2 y3 y4)  x0 x1 x2 x3 x4
def Fbf.l4_0.m (n m : Nat) (t : (Int × (Int × (LI × (LI × LI))))) : Option (LI × LI) := Fbf.l4_0.g (fun a0 a1 => (a0, a1)) n m t.1 t.2.1 t.2.2.1 t.2.2.2.1 t.2.2.2.2
def Fbf.l4_0.pat : St → Option (Int × (Int × (LI × (LI × LI))))
 | (St.mk [(.int .i64 x0), (.int .i64 x1), (.ptr 0 []), (.rints .u8 x2), (.ptr 1 [])] [(some (.var (.ints .u64 4 x3))), (some (.var (.ints .u64 4 x4)))]) => some (x0, x1, x2, x3, x4)
 | _ => none
def Fbf.l4_0.shape (t : (Int × (Int × (LI × (LI × LI))))) : St := (St.mk [(.int .i64 t.1), (.int .i64 t.2.1), (.ptr 0 []), (.rints .u8 t.2.2.1), (.ptr 1 [])] [(some (.var (.ints .u64 4 t.2.2.2.1))), (some (.var (.ints .u64 4 t.2.2.2.2)))])
def Fbf.l4_0.res : (LI × LI) → Ex × St
 | u => ((.exit 0), (St.mk [(.ptr 0 []), (.ptr 1 [])] [(some (.var (.ints .u64 4 u.1))), (some (.var (.ints .u64 4 u.2)))]))
def Fbf.l4_0.resK {R : Type} (u : (LI × LI)) (K : Ex → St → Option R) : Option R := K (Fbf.l4_0.res u).1 (Fbf.l4_0.res u).2
noncomputable def Fbf.A (n : Nat) : Ann := ⟨Tryd.f65.ntmps, 0, Fbf.live, [(0, (.ints .u8))], [none], fun k => match k with
 | 4 => some (.mk' Fbf.l4_0.pat (Fbf.l4_0.m n n) Fbf.l4_0.resK)
 | _ => none, noNL, lookJ []⟩
noncomputable def Fbf.b0 : Code := (loopsIn (Tryd.f65.body.getD .skip)).getD 0 .skip
def Fbf.g {α : Type} (mk0 : LI → α) (n : Nat) (a0 : LI) : Option α :=
 bindO (Fbf.l4_0.m n n (0, (((List.length a0) : Nat) : Int), a0, [0, 0, 0, 0], [0, 0, 0, 0])) fun r2 =>
  some (mk0 r2.1)
def Fbf.m (n : Nat) (t : LI) : Option LI := Fbf.g (fun a0 => a0) n t
def Fbf.pat : List AV → Blks → Option LI
 | [(.rints .u8 a0)], [] => some a0
 | _, _ => none
def Fbf.shape (t : LI) : List AV × Blks := ([(.rints .u8 t)], [])
def Fbf.res : LI → AV × Blks
 | u => ((.ints .u64 4 u), [])
def Fbf.resK {R : Type} (u : LI) (K : AV → Blks → Option R) : Option R := K (Fbf.res u).1 (Fbf.res u).2
def Fbf.c (n : Nat) : Abs.Callee := .mk' [] [(some (.ints .u8))] Fbf.pat (Fbf.m n) Fbf.resK
end
end
section
noncomputable section
noncomputable def Fca.C (n : Nat) : Ctx := ⟨Tryd.prog, abiG, lookC [(96, Fat.c n), (97, Fbe.c n), (98, Fbz.c n), (65, Fbf.c n)], fun _ => false⟩
def Fca.live : NL := fun k => match k with
 | 4 => ([3, 2], [3, 2])
 | 11 => ([7, 3, 6, 4, 5, 2], [6, 2])
 | 14 => ([8, 6, 3, 7, 4, 5, 2], [6, 4, 5, 7, 3, 2])
 | 17 => ([9, 6, 8, 3, 7, 4, 5, 2], [8, 6, 3, 7, 4, 5, 2])
 | 23 => ([11, 10, 6, 2], [10, 2])
 | 26 => ([12, 10, 6, 11, 2], [11, 10, 6, 2])
 | _ => ([], [])
def Fca.l4_0.r {α : Type} (mk0 : LI → LI → α) (n : Nat) (rc : LI → LI → Option α)  (x0 : LI) (x1 : LI) : Option α :=
  if ((Int.tmod (((List.length x0) : Nat) : Int) 136) != 0) = true then
   if ((((List.length x0) + 1) * 1) ≤ 70368744177664 ∧ ((List.length x0) + 1) ≤ 9223372036854775807) then
    rc (x0 ++ [0]) x1
   else
    none
  else
   some (mk0 x0 x1)
def Fca.l4_0.g {α : Type} (mk0 : LI → LI → α) (n : Nat) : Nat → LI → LI → Option α
 | 0, _, _ => none
 | m + 1, x0, x1 => Fca.l4_0.r mk0 n (fun y0 y1 => Fca.l4_0.g mk0 n m y0 y1)  x0 x1
def Fca.l4_0.m (n m : Nat) (t : (LI × LI)) : Option (LI × LI) := Fca.l4_0.g (fun a0 a1 => (a0, a1)) n m t.1 t.2
def Fca.l4_0.pat : St → Option (LI × LI)
 | (St.mk [(.own 0 1), (.ptr 1 [])] [(some (.ints .u8 x0)), (some (.var (.ints .u64 4 x1)))]) => some (x0, x1)
 | _ => none
def Fca.l4_0.shape (t : (LI × LI)) : St := (St.mk [(.own 0 1), (.ptr 1 [])] [(some (.ints .u8 t.1)), (some (.var (.ints .u64 4 t.2)))])
def Fca.l4_0.res : (LI × LI) → Ex × St
 | u => ((.exit 0), (St.mk [(.own 0 1), (.ptr 1 [])] [(some (.ints .u8 u.1)), (some (.var (.ints .u64 4 u.2)))]))
def Fca.l4_0.resK {R : Type} (u : (LI × LI)) (K : Ex → St → Option R) : Option R := K (Fca.l4_0.res u).1 (Fca.l4_0.res u).2
def Fca.l17_0.r {α : Type} (mk0 : Int → Int → LI → LI → LI → LI → LI → α) (n : Nat) (rc : Int → Int → Int → LI → LI → LI → LI → LI → Option α)  (x0 : Int) (x1 : Int) (x2 : Int) (x3 : LI) (x4 : LI) (x5 : LI) (x6 : LI) (x7 : LI) : Option α :=
  if (decide (x0 < 8)) = true then
   if 0 ≤ x1 then
    if x1 < (((List.length x3) : Nat) : Int) then
     if 0 ≤ (IntKind.wrap .i64 ((IntKind.wrap .i64 (x2 + (IntKind.wrap .i64 (8 * x1)))) + x0)) then
      if (IntKind.wrap .i64 ((IntKind.wrap .i64 (x2 + (IntKind.wrap .i64 (8 * x1)))) + x0)) < (((List.length x4) : Nat) : Int) then
       if 0 ≤ (IntKind.wrap .u64 (IntKind.wrap .i64 (8 * x0))) then
        if 0 ≤ x1 then
         if x1 < (((List.length x3) : Nat) : Int) then
          rc (IntKind.wrap .i64 (x0 + 1)) x1 x2 (List.set x3 (Int.toNat x1) (ibits BinOp.xor .u64 (List.getD x3 (Int.toNat x1) 0) (ishl .u64 (IntKind.wrap .u64 (List.getD x4 (Int.toNat (IntKind.wrap .i64 ((IntKind.wrap .i64 (x2 + (IntKind.wrap .i64 (8 * x1)))) + x0))) 0)) (IntKind.wrap .u64 (IntKind.wrap .i64 (8 * x0)))))) x4 x5 x6 x7
         else
          none
        else
         none
       else
        none
      else
       none
     else
      none
    else
     none
   else
    none
  else
   some (mk0 x1 x2 x3 x4 x5 x6 x7)
def Fca.l17_0.g {α : Type} (mk0 : Int → Int → LI → LI → LI → LI → LI → α) (n : Nat) : Nat → Int → Int → Int → LI → LI → LI → LI → LI → Option α
 | 0, _, _, _, _, _, _, _, _ => none
 | m + 1, x0, x1, x2, x3, x4, x5, x6, x7 => Fca.l17_0.r mk0 n (fun y0 y1 y2 y3 y4 y5 y6 y7 => Fca.l17_0.g mk0 n m y0 y1 y2 y3 y4 y5 y6 y7)  x0 x1 x2 x3 x4 x5 x6 x7
def Fca.l17_0.m (n m : Nat) (t : (Int × (Int × (Int × (LI × (LI × (LI × (LI × LI)))))))) : Option (Int × (Int × (LI × (LI × (LI × (LI × LI)))))) := Fca.l17_0.g (fun a0 a1 a2 a3 a4 a5 a6 => (a0, a1, a2, a3, a4, a5, a6)) n m t.1 t.2.1 t.2.2.1 t.2.2.2.1 t.2.2.2.2.1 t.2.2.2.2.2.1 t.2.2.2.2.2.2.1 t.2.2.2.2.2.2.2
def Fca.l17_0.pat : St → Option (Int × (Int × (Int × (LI × (LI × (LI × (LI × LI)))))))
 | (St.mk [(.int .i64 x0), (.own 0 1), (.int .i64 x1), (.own 1 1), (.int .i64 x2), (.own 2 1), (.own 3 1), (.ptr 4 [])] [(some (.ints .u64 x3)), (some (.ints .u8 x4)), (some (.ints .i64 x5)), (some (.ints .u64 x6)), (some (.var (.ints .u64 4 x7)))]) => some (x0, x1, x2, x3, x4, x5, x6, x7)
 | _ => none
def Fca.l17_0.shape (t : (Int × (Int × (Int × (LI × (LI × (LI × (LI × LI)))))))) : St := (St.mk [(.int .i64 t.1), (.own 0 1), (.int .i64 t.2.1), (.own 1 1), (.int .i64 t.2.2.1), (.own 2 1), (.own 3 1), (.ptr 4 [])] [(some (.ints .u64 t.2.2.2.1)), (some (.ints .u8 t.2.2.2.2.1)), (some (.ints .i64 t.2.2.2.2.2.1)), (some (.ints .u64 t.2.2.2.2.2.2.1)), (some (.var (.ints .u64 4 t.2.2.2.2.2.2.2)))])
def Fca.l17_0.res : (Int × (Int × (LI × (LI × (LI × (LI × LI)))))) → Ex × St
 | u => ((.exit 6), (St.mk [(.int .i64 u.1), (.own 0 1), (.own 1 1), (.int .i64 u.2.1), (.own 2 1), (.own 3 1), (.ptr 4 [])] [(some (.ints .u64 u.2.2.1)), (some (.ints .u8 u.2.2.2.1)), (some (.ints .i64 u.2.2.2.2.1)), (some (.ints .u64 u.2.2.2.2.2.1)), (some (.var (.ints .u64 4 u.2.2.2.2.2.2)))]))
def Fca.l17_0.resK {R : Type} (u : (Int × (Int × (LI × (LI × (LI × (LI × LI))))))) (K : Ex → St → Option R) : Option R := K (Fca.l17_0.res u).1 (Fca.l17_0.res u).2
def Fca.l14_0.r {α : Type} (mk0 : Int → LI → LI → LI → LI → LI → α) (n : Nat) (rc : Int → Int → LI → LI → LI → LI → LI → Option α)  (x0 : Int) (x1 : Int) (x2 : LI) (x3 : LI) (x4 : LI) (x5 : LI) (x6 : LI) : Option α :=
  if (decide (x0 < 17)) = true then
   bindO (Fca.l17_0.m n n (0, x0, x1, x2, x3, x4, x5, x6)) fun r6 =>
    rc (IntKind.wrap .i64 (r6.1 + 1)) r6.2.1 r6.2.2.1 r6.2.2.2.1 r6.2.2.2.2.1 r6.2.2.2.2.2.1 r6.2.2.2.2.2.2
  else
   some (mk0 x1 x2 x4 x5 x3 x6)
def Fca.l14_0.g {α : Type} (mk0 : Int → LI → LI → LI → LI → LI → α) (n : Nat) : Nat → Int → Int → LI → LI → LI → LI → LI → Option α
 | 0, _, _, _, _, _, _, _ => none
 | m + 1, x0, x1, x2, x3, x4, x5, x6 => Fca.l14_0.r mk0 n (fun y0 y1 y2 y3 y4 y5 y6 => Fca.l14_0.g mk0 n m y0 y1 y2 y3 y4 y5 y6)  x0 x1 x2 x3 x4 x5 x6
def Fca.l14_0.m (n m : Nat) (t : (Int × (Int × (LI × (LI × (LI × (LI × LI))))))) : Option (Int × (LI × (LI × (LI × (LI × LI))))) := Fca.l14_0.g (fun a0 a1 a2 a3 a4 a5 => (a0, a1, a2, a3, a4, a5)) n m t.1 t.2.1 t.2.2.1 t.2.2.2.1 t.2.2.2.2.1 t.2.2.2.2.2.1 t.2.2.2.2.2.2
def Fca.l14_0.pat : St → Option (Int × (Int × (LI × (LI × (LI × (LI × LI))))))
 | (St.mk [(.int .i64 x0), (.own 0 1), (.own 1 1), (.int .i64 x1), (.own 2 1), (.own 3 1), (.ptr 4 [])] [(some (.ints .u64 x2)), (some (.ints .u8 x3)), (some (.ints .i64 x4)), (some (.ints .u64 x5)), (some (.var (.ints .u64 4 x6)))]) => some (x0, x1, x2, x3, x4, x5, x6)
 | _ => none
def Fca.l14_0.shape (t : (Int × (Int × (LI × (LI × (LI × (LI × LI))))))) : St := (St.mk [(.int .i64 t.1), (.own 0 1), (.own 1 1), (.int .i64 t.2.1), (.own 2 1), (.own 3 1), (.ptr 4 [])] [(some (.ints .u64 t.2.2.1)), (some (.ints .u8 t.2.2.2.1)), (some (.ints .i64 t.2.2.2.2.1)), (some (.ints .u64 t.2.2.2.2.2.1)), (some (.var (.ints .u64 4 t.2.2.2.2.2.2)))])
def Fca.l14_0.res : (Int × (LI × (LI × (LI × (LI × LI))))) → Ex × St
 | u => ((.exit 4), (St.mk [(.own 0 1), (.own 1 1), (.own 2 1), (.int .i64 u.1), (.own 3 1), (.ptr 4 [])] [(some (.ints .u64 u.2.1)), (some (.ints .i64 u.2.2.1)), (some (.ints .u64 u.2.2.2.1)), (some (.ints .u8 u.2.2.2.2.1)), (some (.var (.ints .u64 4 u.2.2.2.2.2)))]))
def Fca.l14_0.resK {R : Type} (u : (Int × (LI × (LI × (LI × (LI × LI)))))) (K : Ex → St → Option R) : Option R := K (Fca.l14_0.res u).1 (Fca.l14_0.res u).2
def Fca.l11_0.r {α : Type} (mk0 : LI → LI → α) (n : Nat) (rc : Int → LI → LI → LI → LI → LI → Option α)  (x0 : Int) (x1 : LI) (x2 : LI) (x3 : LI) (x4 : LI) (x5 : LI) : Option α :=
  if (decide (x0 < (((List.length x1) : Nat) : Int))) = true then
   bindO (Fca.l14_0.m n n (0, x0, x2, x1, x3, x4, x5)) fun r6 =>
    bindO (Fbz.m n (r6.2.1, r6.2.2.1, r6.2.2.2.1)) fun r8 => match r8 with
     | (.inl r8) =>
      rc (IntKind.wrap .i64 (r6.1 + 136)) r6.2.2.2.2.1 r8 r6.2.2.1 r6.2.2.2.1 r6.2.2.2.2.2
     | (.inr r8) =>
      none
  else
   some (mk0 x2 x5)
def Fca.l11_0.g {α : Type} (mk0 : LI → LI → α) (n : Nat) : Nat → Int → LI → LI → LI → LI → LI → Option α
 | 0, _, _, _, _, _, _ => none
 | m + 1, x0, x1, x2, x3, x4, x5 => Fca.l11_0.r mk0 n (fun y0 y1 y2 y3 y4 y5 => Fca.l11_0.g mk0 n m y0 y1 y2 y3 y4 y5)  x0 x1 x2 x3 x4 x5
def Fca.l11_0.m (n m : Nat) (t : (Int × (LI × (LI × (LI × (LI × LI)))))) : Option (LI × LI) := Fca.l11_0.g (fun a0 a1 => (a0, a1)) n m t.1 t.2.1 t.2.2.1 t.2.2.2.1 t.2.2.2.2.1 t.2.2.2.2.2
def Fca.l11_0.pat : St → Option (Int × (LI × (LI × (LI × (LI × LI)))))
 | (St.mk [(.int .i64 x0), (.own 0 1), (.own 1 1), (.own 2 1), (.own 3 1), (.ptr 4 [])] [(some (.ints .u8 x1)), (some (.ints .u64 x2)), (some (.ints .i64 x3)), (some (.ints .u64 x4)), (some (.var (.ints .u64 4 x5)))]) => some (x0, x1, x2, x3, x4, x5)
 | _ => none
def Fca.l11_0.shape (t : (Int × (LI × (LI × (LI × (LI × LI)))))) : St := (St.mk [(.int .i64 t.1), (.own 0 1), (.own 1 1), (.own 2 1), (.own 3 1), (.ptr 4 [])] [(some (.ints .u8 t.2.1)), (some (.ints .u64 t.2.2.1)), (some (.ints .i64 t.2.2.2.1)), (some (.ints .u64 t.2.2.2.2.1)), (some (.var (.ints .u64 4 t.2.2.2.2.2)))])
def Fca.l11_0.res : (LI × LI) → Ex × St
 | u => ((.exit 2), (St.mk [(.own 0 1), (.ptr 1 [])] [(some (.ints .u64 u.1)), (some (.var (.ints .u64 4 u.2)))]))
def Fca.l11_0.resK {R : Type} (u : (LI × LI)) (K : Ex → St → Option R) : Option R := K (Fca.l11_0.res u).1 (Fca.l11_0.res u).2
def Fca.l26_0.r {α : Type} (mk0 : Int → LI → LI → LI → α) (n : Nat) (rc : Int → Int → LI → LI → LI → Option α)  (x0 : Int) (x1 : Int) (x2 : LI) (x3 : LI) (x4 : LI) : Option α :=
  if (decide (x0 < 8)) = true then
   if 0 ≤ x1 then
    if x1 < (((List.length x3) : Nat) : Int) then
     if 0 ≤ (IntKind.wrap .u64 (IntKind.wrap .i64 (8 * x0))) then
      if ((((List.length x2) + 1) * 1) ≤ 70368744177664 ∧ ((List.length x2) + 1) ≤ 9223372036854775807) then
       rc (IntKind.wrap .i64 (x0 + 1)) x1 (x2 ++ [(IntKind.wrap .u8 (ishr .u64 (List.getD x3 (Int.toNat x1) 0) (IntKind.wrap .u64 (IntKind.wrap .i64 (8 * x0)))))]) x3 x4
      else
       none
     else
      none
    else
     none
   else
    none
  else
   some (mk0 x1 x2 x3 x4)
def Fca.l26_0.g {α : Type} (mk0 : Int → LI → LI → LI → α) (n : Nat) : Nat → Int → Int → LI → LI → LI → Option α
 | 0, _, _, _, _, _ => none
 | m + 1, x0, x1, x2, x3, x4 => Fca.l26_0.r mk0 n (fun y0 y1 y2 y3 y4 => Fca.l26_0.g mk0 n m y0 y1 y2 y3 y4)  x0 x1 x2 x3 x4
def Fca.l26_0.m (n m : Nat) (t : (Int × (Int × (LI × (LI × LI))))) : Option (Int × (LI × (LI × LI))) := Fca.l26_0.g (fun a0 a1 a2 a3 => (a0, a1, a2, a3)) n m t.1 t.2.1 t.2.2.1 t.2.2.2.1 t.2.2.2.2
def Fca.l26_0.pat : St → Option (Int × (Int × (LI × (LI × LI))))
 | (St.mk [(.int .i64 x0), (.own 0 1), (.own 1 1), (.int .i64 x1), (.ptr 2 [])] [(some (.ints .u8 x2)), (some (.ints .u64 x3)), (some (.var (.ints .u64 4 x4)))]) => some (x0, x1, x2, x3, x4)
 | _ => none
def Fca.l26_0.shape (t : (Int × (Int × (LI × (LI × LI))))) : St := (St.mk [(.int .i64 t.1), (.own 0 1), (.own 1 1), (.int .i64 t.2.1), (.ptr 2 [])] [(some (.ints .u8 t.2.2.1)), (some (.ints .u64 t.2.2.2.1)), (some (.var (.ints .u64 4 t.2.2.2.2)))])
def Fca.l26_0.res : (Int × (LI × (LI × LI))) → Ex × St
 | u => ((.exit 10), (St.mk [(.int .i64 u.1), (.own 0 1), (.own 1 1), (.ptr 2 [])] [(some (.ints .u8 u.2.1)), (some (.ints .u64 u.2.2.1)), (some (.var (.ints .u64 4 u.2.2.2)))]))
def Fca.l26_0.resK {R : Type} (u : (Int × (LI × (LI × LI)))) (K : Ex → St → Option R) : Option R := K (Fca.l26_0.res u).1 (Fca.l26_0.res u).2
def Fca.l23_0.r {α : Type} (mk0 : LI → LI → α) (n : Nat) (rc : Int → LI → LI → LI → Option α)  (x0 : Int) (x1 : LI) (x2 : LI) (x3 : LI) : Option α :=
  if (decide (x0 < 4)) = true then
   bindO (Fca.l26_0.m n n (0, x0, x1, x2, x3)) fun r6 =>
    rc (IntKind.wrap .i64 (r6.1 + 1)) r6.2.1 r6.2.2.1 r6.2.2.2
  else
   some (mk0 x1 x3)
def Fca.l23_0.g {α : Type} (mk0 : LI → LI → α) (n : Nat) : Nat → Int → LI → LI → LI → Option α
 | 0, _, _, _, _ => none
 | m + 1, x0, x1, x2, x3 => Fca.l23_0.r mk0 n (fun y0 y1 y2 y3 => Fca.l23_0.g mk0 n m y0 y1 y2 y3)  x0 x1 x2 x3
def Fca.l23_0.m (n m : Nat) (t : (Int × (LI × (LI × LI)))) : Option (LI × LI) := Fca.l23_0.g (fun a0 a1 => (a0, a1)) n m t.1 t.2.1 t.2.2.1 t.2.2.2
def Fca.l23_0.pat : St → Option (Int × (LI × (LI × LI)))
 | (St.mk [(.int .i64 x0), (.own 0 1), (.own 1 1), (.ptr 2 [])] [(some (.ints .u8 x1)), (some (.ints .u64 x2)), (some (.var (.ints .u64 4 x3)))]) => some (x0, x1, x2, x3)
 | _ => none
def Fca.l23_0.shape (t : (Int × (LI × (LI × LI)))) : St := (St.mk [(.int .i64 t.1), (.own 0 1), (.own 1 1), (.ptr 2 [])] [(some (.ints .u8 t.2.1)), (some (.ints .u64 t.2.2.1)), (some (.var (.ints .u64 4 t.2.2.2)))])
def Fca.l23_0.res : (LI × LI) → Ex × St
 | u => ((.exit 8), (St.mk [(.own 0 1), (.ptr 1 [])] [(some (.ints .u8 u.1)), (some (.var (.ints .u64 4 u.2)))]))
def Fca.l23_0.resK {R : Type} (u : (LI × LI)) (K : Ex → St → Option R) : Option R := K (Fca.l23_0.res u).1 (Fca.l23_0.res u).2
noncomputable def Fca.A (n : Nat) : Ann := ⟨Tryd.f62.ntmps, 0, Fca.live, [(3, (.ints .u8)), (4, (.ints .i64)), (5, (.ints .u64)), (6, (.ints .u64)), (10, (.ints .u8))], [none], fun k => match k with
 | 4 => some (.mk' Fca.l4_0.pat (Fca.l4_0.m n n) Fca.l4_0.resK)
 | 17 => some (.mk' Fca.l17_0.pat (Fca.l17_0.m n n) Fca.l17_0.resK)
 | 14 => some (.mk' Fca.l14_0.pat (Fca.l14_0.m n n) Fca.l14_0.resK)
 | 11 => some (.mk' Fca.l11_0.pat (Fca.l11_0.m n n) Fca.l11_0.resK)
 | 26 => some (.mk' Fca.l26_0.pat (Fca.l26_0.m n n) Fca.l26_0.resK)
 | 23 => some (.mk' Fca.l23_0.pat (Fca.l23_0.m n n) Fca.l23_0.resK)
 | _ => none, noNL, lookJ []⟩
noncomputable def Fca.b0 : Code := (loopsIn (Tryd.f62.body.getD .skip)).getD 0 .skip
noncomputable def Fca.b1 : Code := (loopsIn (Tryd.f62.body.getD .skip)).getD 1 .skip
noncomputable def Fca.b2 : Code := (loopsIn (Tryd.f62.body.getD .skip)).getD 2 .skip
noncomputable def Fca.b3 : Code := (loopsIn (Tryd.f62.body.getD .skip)).getD 3 .skip
noncomputable def Fca.b4 : Code := (loopsIn (Tryd.f62.body.getD .skip)).getD 4 .skip
noncomputable def Fca.b5 : Code := (loopsIn (Tryd.f62.body.getD .skip)).getD 5 .skip
def Fca.g {α : Type} (mk0 : LI → α) (n : Nat) (a0 : LI) : Option α :=
 if (((List.length a0) * 1) ≤ 70368744177664 ∧ (List.length a0) ≤ 9223372036854775807) then
  if ((((List.length a0) + 1) * 1) ≤ 70368744177664 ∧ ((List.length a0) + 1) ≤ 9223372036854775807) then
   bindO (Fca.l4_0.m n n ((a0 ++ [1]), [0, 0, 0, 0])) fun r6 =>
    if 0 ≤ (IntKind.wrap .i64 ((((List.length r6.1) : Nat) : Int) - 1)) then
     if (IntKind.wrap .i64 ((((List.length r6.1) : Nat) : Int) - 1)) < (((List.length r6.1) : Nat) : Int) then
      if 0 ≤ (IntKind.wrap .i64 ((((List.length r6.1) : Nat) : Int) - 1)) then
       if (IntKind.wrap .i64 ((((List.length r6.1) : Nat) : Int) - 1)) < (((List.length r6.1) : Nat) : Int) then
        bindO (Fat.m n Unit.unit) fun r16 =>
         bindO (Fbe.m n Unit.unit) fun r18 =>
          bindO (Fca.l11_0.m n n (0, (List.set r6.1 (Int.toNat (IntKind.wrap .i64 ((((List.length r6.1) : Nat) : Int) - 1))) (ibits BinOp.xor .u8 (List.getD r6.1 (Int.toNat (IntKind.wrap .i64 ((((List.length r6.1) : Nat) : Int) - 1))) 0) 128)), ([0, 0, 0, 0, 0, 0, 0, 0, 0, 0, 0, 0, 0, 0, 0, 0, 0, 0, 0, 0, 0, 0, 0, 0, 0] : List Int), r16, r18, r6.2)) fun r20 =>
           bindO (Fca.l23_0.m n n (0, [], r20.1, r20.2)) fun r22 =>
            bindO (Fbf.m n r22.1) fun r24 =>
             some (mk0 r24)
       else
        none
      else
       none
     else
      none
    else
     none
  else
   none
 else
  none
def Fca.m (n : Nat) (t : LI) : Option LI := Fca.g (fun a0 => a0) n t
def Fca.pat : List AV → Blks → Option LI
 | [(.rints .u8 a0)], [] => some a0
 | _, _ => none
def Fca.shape (t : LI) : List AV × Blks := ([(.rints .u8 t)], [])
def Fca.res : LI → AV × Blks
 | u => ((.ints .u64 4 u), [])
def Fca.resK {R : Type} (u : LI) (K : AV → Blks → Option R) : Option R := K (Fca.res u).1 (Fca.res u).2
def Fca.c (n : Nat) : Abs.Callee := .mk' [] [(some (.ints .u8))] Fca.pat (Fca.m n) Fca.resK
end
end
