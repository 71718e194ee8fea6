/- What the program's functions compute, as plain functions, each with its proof: the function does just that. Condition: the plain function has an answer. -/
import Derived.Test.YtehhocoldpdijaaDoorAbsG1
import Derived.Test.YtehhocoldpdijaaDoorAbsG6
import Derived.Test.YtehhocoldpdijaaDoorProg
set_option linter.unusedVariables false
set_option linter.unusedSimpArgs false
set_option maxRecDepth 100000
open Go Go.Abs Go.Proofs
section
namespace Go.Abs
open Go
def kecKeys : List Int := [1, 32898, 9223372036854808714, 9223372039002292224, 32907, 2147483649, 9223372039002292353, 9223372036854808585, 138, 136, 2147516425, 2147483658, 2147516555, 9223372036854775947, 9223372036854808713, 9223372036854808579, 9223372036854808578, 9223372036854775936, 32778, 9223372039002259466, 9223372039002292353, 9223372036854808704, 2147483649, 9223372039002292232]
def kecTo : List Int := [10, 7, 11, 17, 18, 3, 5, 16, 8, 21, 24, 4, 15, 23, 19, 13, 12, 2, 20, 14, 22, 9, 6, 1]
def kecTurns : List Int := [1, 3, 6, 10, 15, 21, 28, 36, 45, 55, 2, 14, 27, 41, 56, 8, 25, 43, 62, 18, 39, 61, 20, 44]
def abiG : Nat → AV := fun g => match g with
  | 2 => .ints .u64 24 kecKeys
  | 3 => .ints .i64 24 kecTo
  | 4 => .ints .i64 24 kecTurns
  | _ => .any
end Go.Abs
end
section
noncomputable section
noncomputable def Fd.C (n : Nat) : Ctx := ⟨Tryd.prog, abiG, lookC [], fun _ => false⟩
noncomputable def Fd.A (n : Nat) : Ann := ⟨Tryd.f130.ntmps, 0, noNL, [], [none], fun k => match k with
 | _ => none, noNL, lookJ []⟩
def Fd.g {α : Type} (mk0 : Int → α) (n : Nat) (a0 : Int) (a1 : Int) : Option α :=
 if 0 ≤ (IntKind.wrap .u64 (64 - (ibits BinOp.and .u64 (IntKind.wrap .u64 a1) 63))) then
  some (mk0 (ibits BinOp.or .u64 (ishl .u64 a0 (ibits BinOp.and .u64 (IntKind.wrap .u64 a1) 63)) (ishr .u64 a0 (IntKind.wrap .u64 (64 - (ibits BinOp.and .u64 (IntKind.wrap .u64 a1) 63))))))
 else
  none
def Fd.m (n : Nat) (t : (Int × Int)) : Option Int := Fd.g (fun a0 => a0) n t.1 t.2
def Fd.pat : List AV → Blks → Option (Int × Int)
 | [(.int .u64 a0), (.int .i64 a1)], [] => some (a0, a1)
 | _, _ => none
def Fd.shape (t : (Int × Int)) : List AV × Blks := ([(.int .u64 t.1), (.int .i64 t.2)], [])
def Fd.res : Int → AV × Blks
 | u => ((.int .u64 u), [])
def Fd.resK {R : Type} (u : Int) (K : AV → Blks → Option R) : Option R := K (Fd.res u).1 (Fd.res u).2
def Fd.c (n : Nat) : Abs.Callee := .mk' [] [none, none] Fd.pat (Fd.m n) Fd.resK
end
end
section
noncomputable section
noncomputable def Fb.C (n : Nat) : Ctx := ⟨Tryd.prog, abiG, lookC [(130, Fd.c n)], fun _ => false⟩
def Fb.live : NL := fun k => match k with
 | 2 => ([7, 6, 2, 0], [0, 2])
 | 7 => ([21, 0, 2], [])
 | _ => ([], [])
def Fb.l2_0.r {α : Type} (mk0 : LI → LI → α) (n : Nat) (rc : Int → LI → LI → Option α)  (x0 : Int) (x1 : LI) (x2 : LI) : Option α :=
  if (decide (x0 < 25)) = true then
   if 0 ≤ x0 then
    if x0 < 25 then
     if 0 ≤ (Int.tmod x0 5) then
      if (Int.tmod x0 5) < 5 then
       if 0 ≤ (Int.tmod x0 5) then
        if (Int.tmod x0 5) < 5 then
         rc (IntKind.wrap .i64 (x0 + 1)) x1 (List.set x2 (Int.toNat (Int.tmod x0 5)) (ibits BinOp.xor .u64 (List.getD x2 (Int.toNat (Int.tmod x0 5)) 0) (List.getD x1 (Int.toNat x0) 0)))
        else
         none
       else
        none
      else
       none
     else
      none
    else
     none
   else
    none
  else
   some (mk0 x1 x2)
def Fb.l2_0.g {α : Type} (mk0 : LI → LI → α) (n : Nat) : Nat → Int → LI → LI → Option α
 | 0, _, _, _ => none
 | m + 1, x0, x1, x2 => Fb.l2_0.r mk0 n (fun y0 y1 y2 => Fb.l2_0.g mk0 n m y0 y1 y2)  x0 x1 x2
def Fb.l2_0.m (n m : Nat) (t : (Int × (LI × LI))) : Option (LI × LI) := Fb.l2_0.g (fun a0 a1 => (a0, a1)) n m t.1 t.2.1 t.2.2
def Fb.l2_0.pat : St → Option (Int × (LI × LI))
 | (St.mk [(.int .i64 x0), (.ptr 0 []), (.ptr 1 []), (.ptr 0 [])] [(some (.var (.ints .u64 25 x1))), (some (.var (.ints .u64 5 x2)))]) => some (x0, x1, x2)
 | _ => none
def Fb.l2_0.shape (t : (Int × (LI × LI))) : St := (St.mk [(.int .i64 t.1), (.ptr 0 []), (.ptr 1 []), (.ptr 0 [])] [(some (.var (.ints .u64 25 t.2.1))), (some (.var (.ints .u64 5 t.2.2)))])
def Fb.l2_0.res : (LI × LI) → Ex × St
 | u => ((.exit 0), (St.mk [(.ptr 0 []), (.ptr 1 [])] [(some (.var (.ints .u64 25 u.1))), (some (.var (.ints .u64 5 u.2)))]))
def Fb.l2_0.resK {R : Type} (u : (LI × LI)) (K : Ex → St → Option R) : Option R := K (Fb.l2_0.res u).1 (Fb.l2_0.res u).2
def Fb.l7_0.r {α : Type} (mk0 : LI → α) (n : Nat) (rc : Int → LI → LI → Option α)  (x0 : Int) (x1 : LI) (x2 : LI) : Option α :=
  if (decide (x0 < 25)) = true then
   if 0 ≤ x0 then
    if x0 < 25 then
     if 0 ≤ (Int.tmod (IntKind.wrap .i64 (x0 + 4)) 5) then
      if (Int.tmod (IntKind.wrap .i64 (x0 + 4)) 5) < 5 then
       if 0 ≤ (Int.tmod (IntKind.wrap .i64 (x0 + 1)) 5) then
        if (Int.tmod (IntKind.wrap .i64 (x0 + 1)) 5) < 5 then
         bindO (Fd.m n ((List.getD x2 (Int.toNat (Int.tmod (IntKind.wrap .i64 (x0 + 1)) 5)) 0), 1)) fun r18 =>
          if 0 ≤ x0 then
           if x0 < 25 then
            rc (IntKind.wrap .i64 (x0 + 1)) (List.set x1 (Int.toNat x0) (ibits BinOp.xor .u64 (List.getD x1 (Int.toNat x0) 0) (ibits BinOp.xor .u64 (List.getD x2 (Int.toNat (Int.tmod (IntKind.wrap .i64 (x0 + 4)) 5)) 0) r18))) x2
           else
            none
          else
           none
        else
         none
       else
        none
      else
       none
     else
      none
    else
     none
   else
    none
  else
   some (mk0 x1)
def Fb.l7_0.g {α : Type} (mk0 : LI → α) (n : Nat) : Nat → Int → LI → LI → Option α
 | 0, _, _, _ => none
 | m + 1, x0, x1, x2 => Fb.l7_0.r mk0 n (fun y0 y1 y2 => Fb.l7_0.g mk0 n m y0 y1 y2)  x0 x1 x2
def Fb.l7_0.m (n m : Nat) (t : (Int × (LI × LI))) : Option LI := Fb.l7_0.g (fun a0 => a0) n m t.1 t.2.1 t.2.2
def Fb.l7_0.pat : St → Option (Int × (LI × LI))
 | (St.mk [(.int .i64 x0), (.ptr 0 []), (.ptr 1 [])] [(some (.var (.ints .u64 25 x1))), (some (.var (.ints .u64 5 x2)))]) => some (x0, x1, x2)
 | _ => none
def Fb.l7_0.shape (t : (Int × (LI × LI))) : St := (St.mk [(.int .i64 t.1), (.ptr 0 []), (.ptr 1 [])] [(some (.var (.ints .u64 25 t.2.1))), (some (.var (.ints .u64 5 t.2.2)))])
def Fb.l7_0.res : LI → Ex × St
 | u => ((.exit 2), (St.mk [] [(some (.var (.ints .u64 25 u)))]))
def Fb.l7_0.resK {R : Type} (u : LI) (K : Ex → St → Option R) : Option R := K (Fb.l7_0.res u).1 (Fb.l7_0.res u).2
noncomputable def Fb.A (n : Nat) : Ann := ⟨Tryd.f124.ntmps, 1, Fb.live, [], [], fun k => match k with
 | 2 => some (.mk' Fb.l2_0.pat (Fb.l2_0.m n n) Fb.l2_0.resK)
 | 7 => some (.mk' Fb.l7_0.pat (Fb.l7_0.m n n) Fb.l7_0.resK)
 | _ => none, noNL, lookJ []⟩
noncomputable def Fb.b0 : Code := (loopsIn (Tryd.f124.body.getD .skip)).getD 0 .skip
noncomputable def Fb.b1 : Code := (loopsIn (Tryd.f124.body.getD .skip)).getD 1 .skip
def Fb.g {α : Type} (mk0 : LI → α) (n : Nat) (s : LI) : Option α :=
 bindO (Fb.l2_0.m n n (0, s, [0, 0, 0, 0, 0])) fun r2 =>
  bindO (Fb.l7_0.m n n (0, r2.1, r2.2)) fun r4 =>
   some (mk0 r4)
def Fb.m (n : Nat) (t : LI) : Option LI := Fb.g (fun a0 => a0) n t
def Fb.pat : List AV → Blks → Option LI
 | [(.ptr 0 [])], [(some (.var (.ints .u64 25 s)))] => some s
 | _, _ => none
def Fb.shape (t : LI) : List AV × Blks := ([(.ptr 0 [])], [(some (.var (.ints .u64 25 t)))])
def Fb.res : LI → AV × Blks
 | u => ((.tup []), [(some (.var (.ints .u64 25 u)))])
def Fb.resK {R : Type} (u : LI) (K : AV → Blks → Option R) : Option R := K (Fb.res u).1 (Fb.res u).2
def Fb.c (n : Nat) : Abs.Callee := .mk' [true] [none] Fb.pat (Fb.m n) Fb.resK
end
end
section
theorem Fd.gmap {α β : Type} (h : β → α) (mk0 : Int → β) (n : Nat) (a0 : Int) (a1 : Int) : Fd.g (fun a0 => (h (mk0 a0))) n a0 a1 = (Fd.g mk0 n a0 a1).map h := by
  unfold Fd.g
  exact (ite_map rfl rfl)
theorem Fd.run (n : Nat) (a0 : Int) (a1 : Int) : runF (Fd.C n) (Fd.A n) n Tryd.f130 [(.int .u64 a0), (.int .i64 a1)] [] (fun v o => some (v, o)) = Fd.g (fun a0 => (((.int .u64 a0), []) : AV × Blks)) n a0 a1 := by kernel_rfl
theorem Fd.call (hmix : Tryd.prog.follows .mixedOrders = true) (n : Nat) (t : (Int × Int)) (u) (h : Fd.m n t = some u) : FnC Tryd.prog abiG 130 (Fd.shape t).1 (Fd.shape t).2 (Fd.res u).1 (Fd.res u).2 :=
  fnC1 (C := Fd.C n) (A := Fd.A n) (fn := Tryd.f130) rfl .nil hmix Tryd.func130 (by kernel_rfl) (lp := []) (by kernel_rfl) .nil
  (nj rfl) (by decide) rfl rfl (by show 2 ≤ Tryd.f130.ntmps; decide) (Fd.run n t.1 t.2) (Fd.gmap Fd.res (fun a0 => a0) n t.1 t.2) h
theorem Fd.s (hmix : Tryd.prog.follows .mixedOrders = true) (n : Nat) : CalleeS Tryd.prog abiG 130 (Fd.c n) :=
  .mk1 (res := Fd.res) (shape := Fd.shape) (fun R u K => rfl) (fun _ _ _ h => by unfold Fd.pat at h; split at h <;> cases h; rfl) (fun t u h => Fd.call hmix n t u h) Tryd.func130 (by decide) (by kernel_rfl)
end
section
noncomputable abbrev Fb.R0 (n : Nat) := roundOf (Fb.C n) (Fb.A n) n Fb.b0
noncomputable abbrev Fb.R1 (n : Nat) := roundOf (Fb.C n) (Fb.A n) n Fb.b1
theorem Fb.l2_0.rmap {α β : Type} (h : β → α) (mk0 : LI → LI → β) (n : Nat) (f : Int → LI → LI → Option β)  (x0 : Int) (x1 : LI) (x2 : LI) : Fb.l2_0.r (fun a0 a1 => (h (mk0 a0 a1))) n (fun y0 y1 y2 => (f y0 y1 y2).map h) x0 x1 x2 = (Fb.l2_0.r mk0 n f x0 x1 x2).map h := by
  unfold Fb.l2_0.r
  exact (ite_map (ite_map (ite_map (ite_map (ite_map (ite_map (ite_map rfl rfl) rfl) rfl) rfl) rfl) rfl) rfl)
theorem Fb.l2_0.gmap {α β : Type} (h : β → α) (mk0 : LI → LI → β) (n : Nat) : ∀ (m : Nat) (x0 : Int) (x1 : LI) (x2 : LI), Fb.l2_0.g (fun a0 a1 => (h (mk0 a0 a1))) n m x0 x1 x2 = (Fb.l2_0.g mk0 n m x0 x1 x2).map h
  | 0, _, _, _ => rfl
  | m + 1, x0, x1, x2 => by
    unfold Fb.l2_0.g
    rw [← Fb.l2_0.rmap]
    congr
    · funext y0 y1 y2; exact Fb.l2_0.gmap h mk0 n m y0 y1 y2
theorem Fb.l2_0.pat_shape : ∀ st t, Fb.l2_0.pat st = some t → st = Fb.l2_0.shape t := fun _ _ h => by unfold Fb.l2_0.pat at h; split at h <;> cases h; rfl
def Fb.l2_0.k0 : LI → LI → Ex × St := (fun a0 a1 => (((.exit 0), (St.mk [(.ptr 0 []), (.ptr 1 [])] [(some (.var (.ints .u64 25 a0))), (some (.var (.ints .u64 5 a1)))])) : Ex × St))
theorem Fb.l2_0.round (n : Nat) (rc : St → Option (Ex × St)) (x0 : Int) (x1 : LI) (x2 : LI) : Fb.R0 n rc ((St.mk [(.int .i64 x0), (.ptr 0 []), (.ptr 1 []), (.ptr 0 [])] [(some (.var (.ints .u64 25 x1))), (some (.var (.ints .u64 5 x2)))])) = Fb.l2_0.r Fb.l2_0.k0 n (fun y0 y1 y2 => rc ((St.mk [(.int .i64 y0), (.ptr 0 []), (.ptr 1 []), (.ptr 0 [])] [(some (.var (.ints .u64 25 y1))), (some (.var (.ints .u64 5 y2)))]))) x0 x1 x2 := by kernel_rfl
theorem Fb.l2_0.loop' (n : Nat) : ∀ (m : Nat) (t : (Int × (LI × LI))), loopOf (Fb.R0 n) m (Fb.l2_0.shape t) = Fb.l2_0.g Fb.l2_0.k0 n m t.1 t.2.1 t.2.2 :=
  loop_of_round (shape := Fb.l2_0.shape) (body := Fb.R0 n) (g := fun m t => Fb.l2_0.g Fb.l2_0.k0 n m t.1 t.2.1 t.2.2) (fun t => rfl)
    fun m t ih => (Fb.l2_0.round n (loopOf (Fb.R0 n) m) t.1 t.2.1 t.2.2).trans (congrFun (congrFun (congrFun (congrArg (Fb.l2_0.r Fb.l2_0.k0 n) (funext fun y0 => funext fun y1 => funext fun y2 => ih (y0, y1, y2))) t.1) t.2.1) t.2.2)
theorem Fb.l2_0.loop (n m : Nat) (t : (Int × (LI × LI))) : loopOf (Fb.R0 n) m (Fb.l2_0.shape t) = (Fb.l2_0.m n m t).map Fb.l2_0.res :=
  (Fb.l2_0.loop' n m t).trans (Fb.l2_0.gmap Fb.l2_0.res (fun a0 a1 => (a0, a1)) n m t.1 t.2.1 t.2.2)
theorem Fb.l7_0.rmap {α β : Type} (h : β → α) (mk0 : LI → β) (n : Nat) (f : Int → LI → LI → Option β)  (x0 : Int) (x1 : LI) (x2 : LI) : Fb.l7_0.r (fun a0 => (h (mk0 a0))) n (fun y0 y1 y2 => (f y0 y1 y2).map h) x0 x1 x2 = (Fb.l7_0.r mk0 n f x0 x1 x2).map h := by
  unfold Fb.l7_0.r
  exact (ite_map (ite_map (ite_map (ite_map (ite_map (ite_map (ite_map (bindO_map fun r18 => (ite_map (ite_map rfl rfl) rfl)) rfl) rfl) rfl) rfl) rfl) rfl) rfl)
theorem Fb.l7_0.gmap {α β : Type} (h : β → α) (mk0 : LI → β) (n : Nat) : ∀ (m : Nat) (x0 : Int) (x1 : LI) (x2 : LI), Fb.l7_0.g (fun a0 => (h (mk0 a0))) n m x0 x1 x2 = (Fb.l7_0.g mk0 n m x0 x1 x2).map h
  | 0, _, _, _ => rfl
  | m + 1, x0, x1, x2 => by
    unfold Fb.l7_0.g
    rw [← Fb.l7_0.rmap]
    congr
    · funext y0 y1 y2; exact Fb.l7_0.gmap h mk0 n m y0 y1 y2
theorem Fb.l7_0.pat_shape : ∀ st t, Fb.l7_0.pat st = some t → st = Fb.l7_0.shape t := fun _ _ h => by unfold Fb.l7_0.pat at h; split at h <;> cases h; rfl
def Fb.l7_0.k0 : LI → Ex × St := (fun a0 => (((.exit 2), (St.mk [] [(some (.var (.ints .u64 25 a0)))])) : Ex × St))
theorem Fb.l7_0.round (n : Nat) (rc : St → Option (Ex × St)) (x0 : Int) (x1 : LI) (x2 : LI) : Fb.R1 n rc ((St.mk [(.int .i64 x0), (.ptr 0 []), (.ptr 1 [])] [(some (.var (.ints .u64 25 x1))), (some (.var (.ints .u64 5 x2)))])) = Fb.l7_0.r Fb.l7_0.k0 n (fun y0 y1 y2 => rc ((St.mk [(.int .i64 y0), (.ptr 0 []), (.ptr 1 [])] [(some (.var (.ints .u64 25 y1))), (some (.var (.ints .u64 5 y2)))]))) x0 x1 x2 := by kernel_rfl
theorem Fb.l7_0.loop' (n : Nat) : ∀ (m : Nat) (t : (Int × (LI × LI))), loopOf (Fb.R1 n) m (Fb.l7_0.shape t) = Fb.l7_0.g Fb.l7_0.k0 n m t.1 t.2.1 t.2.2 :=
  loop_of_round (shape := Fb.l7_0.shape) (body := Fb.R1 n) (g := fun m t => Fb.l7_0.g Fb.l7_0.k0 n m t.1 t.2.1 t.2.2) (fun t => rfl)
    fun m t ih => (Fb.l7_0.round n (loopOf (Fb.R1 n) m) t.1 t.2.1 t.2.2).trans (congrFun (congrFun (congrFun (congrArg (Fb.l7_0.r Fb.l7_0.k0 n) (funext fun y0 => funext fun y1 => funext fun y2 => ih (y0, y1, y2))) t.1) t.2.1) t.2.2)
theorem Fb.l7_0.loop (n m : Nat) (t : (Int × (LI × LI))) : loopOf (Fb.R1 n) m (Fb.l7_0.shape t) = (Fb.l7_0.m n m t).map Fb.l7_0.res :=
  (Fb.l7_0.loop' n m t).trans (Fb.l7_0.gmap Fb.l7_0.res (fun a0 => a0) n m t.1 t.2.1 t.2.2)
theorem Fb.gmap {α β : Type} (h : β → α) (mk0 : LI → β) (n : Nat) (s : LI) : Fb.g (fun a0 => (h (mk0 a0))) n s = (Fb.g mk0 n s).map h := by
  unfold Fb.g
  exact (bindO_map fun r2 => (bindO_map fun r4 => rfl))
theorem Fb.run (n : Nat) (s : LI) : runF (Fb.C n) (Fb.A n) n Tryd.f124 [(.ptr 0 [])] [(some (.var (.ints .u64 25 s)))] (fun v o => some (v, o)) = Fb.g (fun a0 => (((.tup []), [(some (.var (.ints .u64 25 a0)))]) : AV × Blks)) n s := by kernel_rfl
theorem Fb.call (hmix : Tryd.prog.follows .mixedOrders = true) (n : Nat) (t : LI) (u) (h : Fb.m n t = some u) : FnC Tryd.prog abiG 124 (Fb.shape t).1 (Fb.shape t).2 (Fb.res u).1 (Fb.res u).2 :=
  fnC1 (C := Fb.C n) (A := Fb.A n) (fn := Tryd.f124) rfl (.cons (Fd.s hmix n) .nil) hmix Tryd.func124 (by kernel_rfl) (lp := [Fb.b0, Fb.b1]) (by kernel_rfl) (.cons (show (Fb.A n).loop (key Fb.b0) = some (.mk' Fb.l2_0.pat (Fb.l2_0.m n n) Fb.l2_0.resK) by kernel_rfl) (LoopS.of (res := Fb.l2_0.res) (fun R u K => rfl) Fb.l2_0.pat_shape fun t => Fb.l2_0.loop n n t)
  (.cons (show (Fb.A n).loop (key Fb.b1) = some (.mk' Fb.l7_0.pat (Fb.l7_0.m n n) Fb.l7_0.resK) by kernel_rfl) (LoopS.of (res := Fb.l7_0.res) (fun R u K => rfl) Fb.l7_0.pat_shape fun t => Fb.l7_0.loop n n t)
  .nil))
  (nj rfl) (by decide) rfl rfl (by show 1 ≤ Tryd.f124.ntmps; decide) (Fb.run n t) (Fb.gmap Fb.res (fun a0 => a0) n t) h
theorem Fb.s (hmix : Tryd.prog.follows .mixedOrders = true) (n : Nat) : CalleeS Tryd.prog abiG 124 (Fb.c n) :=
  .mk1 (res := Fb.res) (shape := Fb.shape) (fun R u K => rfl) (fun _ _ _ h => by unfold Fb.pat at h; split at h <;> cases h; rfl) (fun t u h => Fb.call hmix n t u h) Tryd.func124 (by decide) (by kernel_rfl)
end
section
noncomputable section
noncomputable def Fe.C (n : Nat) : Ctx := ⟨Tryd.prog, abiG, lookC [(130, Fd.c n)], fun _ => false⟩
def Fe.live : NL := fun k => match k with
 | 2 => ([9, 0, 2], [])
 | _ => ([], [])
def Fe.l2_0.r {α : Type} (mk0 : LI → α) (n : Nat) (rc : Int → Int → LI → Option α)  (x0 : Int) (x1 : Int) (x2 : LI) : Option α :=
  if (decide (x0 < 24)) = true then
   if 0 ≤ x0 then
    if x0 < 24 then
     if 0 ≤ (List.getD ([10, 7, 11, 17, 18, 3, 5, 16, 8, 21, 24, 4, 15, 23, 19, 13, 12, 2, 20, 14, 22, 9, 6, 1] : List Int) (Int.toNat x0) 0) then
      if (List.getD ([10, 7, 11, 17, 18, 3, 5, 16, 8, 21, 24, 4, 15, 23, 19, 13, 12, 2, 20, 14, 22, 9, 6, 1] : List Int) (Int.toNat x0) 0) < 25 then
       if 0 ≤ x0 then
        if x0 < 24 then
         if 0 ≤ x0 then
          if x0 < 24 then
           bindO (Fd.m n (x1, (List.getD ([1, 3, 6, 10, 15, 21, 28, 36, 45, 55, 2, 14, 27, 41, 56, 8, 25, 43, 62, 18, 39, 61, 20, 44] : List Int) (Int.toNat x0) 0))) fun r22 =>
            if 0 ≤ (List.getD ([10, 7, 11, 17, 18, 3, 5, 16, 8, 21, 24, 4, 15, 23, 19, 13, 12, 2, 20, 14, 22, 9, 6, 1] : List Int) (Int.toNat x0) 0) then
             if (List.getD ([10, 7, 11, 17, 18, 3, 5, 16, 8, 21, 24, 4, 15, 23, 19, 13, 12, 2, 20, 14, 22, 9, 6, 1] : List Int) (Int.toNat x0) 0) < 25 then
              rc (IntKind.wrap .i64 (x0 + 1)) (List.getD x2 (Int.toNat (List.getD ([10, 7, 11, 17, 18, 3, 5, 16, 8, 21, 24, 4, 15, 23, 19, 13, 12, 2, 20, 14, 22, 9, 6, 1] : List Int) (Int.toNat x0) 0)) 0) (List.set x2 (Int.toNat (List.getD ([10, 7, 11, 17, 18, 3, 5, 16, 8, 21, 24, 4, 15, 23, 19, 13, 12, 2, 20, 14, 22, 9, 6, 1] : List Int) (Int.toNat x0) 0)) r22)
             else
              none
            else
             none
          else
           none
         else
          none
        else
         none
       else
        none
      else
       none
     else
      none
    else
     none
   else
    none
  else
   some (mk0 x2)
def Fe.l2_0.g {α : Type} (mk0 : LI → α) (n : Nat) : Nat → Int → Int → LI → Option α
 | 0, _, _, _ => none
 | m + 1, x0, x1, x2 => Fe.l2_0.r mk0 n (fun y0 y1 y2 => Fe.l2_0.g mk0 n m y0 y1 y2)  x0 x1 x2
def Fe.l2_0.m (n m : Nat) (t : (Int × (Int × LI))) : Option LI := Fe.l2_0.g (fun a0 => a0) n m t.1 t.2.1 t.2.2
def Fe.l2_0.pat : St → Option (Int × (Int × LI))
 | (St.mk [(.int .i64 x0), (.ptr 0 []), (.int .u64 x1)] [(some (.var (.ints .u64 25 x2)))]) => some (x0, x1, x2)
 | _ => none
def Fe.l2_0.shape (t : (Int × (Int × LI))) : St := (St.mk [(.int .i64 t.1), (.ptr 0 []), (.int .u64 t.2.1)] [(some (.var (.ints .u64 25 t.2.2)))])
def Fe.l2_0.res : LI → Ex × St
 | u => ((.exit 0), (St.mk [] [(some (.var (.ints .u64 25 u)))]))
def Fe.l2_0.resK {R : Type} (u : LI) (K : Ex → St → Option R) : Option R := K (Fe.l2_0.res u).1 (Fe.l2_0.res u).2
noncomputable def Fe.A (n : Nat) : Ann := ⟨Tryd.f125.ntmps, 1, Fe.live, [], [], fun k => match k with
 | 2 => some (.mk' Fe.l2_0.pat (Fe.l2_0.m n n) Fe.l2_0.resK)
 | _ => none, noNL, lookJ []⟩
noncomputable def Fe.b0 : Code := (loopsIn (Tryd.f125.body.getD .skip)).getD 0 .skip
def Fe.g {α : Type} (mk0 : LI → α) (n : Nat) (s : LI) : Option α :=
 bindO (Fe.l2_0.m n n (0, (List.getD s 1 0), s)) fun r2 =>
  some (mk0 r2)
def Fe.m (n : Nat) (t : LI) : Option LI := Fe.g (fun a0 => a0) n t
def Fe.pat : List AV → Blks → Option LI
 | [(.ptr 0 [])], [(some (.var (.ints .u64 25 s)))] => some s
 | _, _ => none
def Fe.shape (t : LI) : List AV × Blks := ([(.ptr 0 [])], [(some (.var (.ints .u64 25 t)))])
def Fe.res : LI → AV × Blks
 | u => ((.tup []), [(some (.var (.ints .u64 25 u)))])
def Fe.resK {R : Type} (u : LI) (K : AV → Blks → Option R) : Option R := K (Fe.res u).1 (Fe.res u).2
def Fe.c (n : Nat) : Abs.Callee := .mk' [true] [none] Fe.pat (Fe.m n) Fe.resK
end
end
section
noncomputable abbrev Fe.R0 (n : Nat) := roundOf (Fe.C n) (Fe.A n) n Fe.b0
theorem Fe.l2_0.rmap {α β : Type} (h : β → α) (mk0 : LI → β) (n : Nat) (f : Int → Int → LI → Option β)  (x0 : Int) (x1 : Int) (x2 : LI) : Fe.l2_0.r (fun a0 => (h (mk0 a0))) n (fun y0 y1 y2 => (f y0 y1 y2).map h) x0 x1 x2 = (Fe.l2_0.r mk0 n f x0 x1 x2).map h := by
  unfold Fe.l2_0.r
  exact (ite_map (ite_map (ite_map (ite_map (ite_map (ite_map (ite_map (ite_map (ite_map (bindO_map fun r22 => (ite_map (ite_map rfl rfl) rfl)) rfl) rfl) rfl) rfl) rfl) rfl) rfl) rfl) rfl)
theorem Fe.l2_0.gmap {α β : Type} (h : β → α) (mk0 : LI → β) (n : Nat) : ∀ (m : Nat) (x0 : Int) (x1 : Int) (x2 : LI), Fe.l2_0.g (fun a0 => (h (mk0 a0))) n m x0 x1 x2 = (Fe.l2_0.g mk0 n m x0 x1 x2).map h
  | 0, _, _, _ => rfl
  | m + 1, x0, x1, x2 => by
    unfold Fe.l2_0.g
    rw [← Fe.l2_0.rmap]
    congr
    · funext y0 y1 y2; exact Fe.l2_0.gmap h mk0 n m y0 y1 y2
theorem Fe.l2_0.pat_shape : ∀ st t, Fe.l2_0.pat st = some t → st = Fe.l2_0.shape t := fun _ _ h => by unfold Fe.l2_0.pat at h; split at h <;> cases h; rfl
def Fe.l2_0.k0 : LI → Ex × St := (fun a0 => (((.exit 0), (St.mk [] [(some (.var (.ints .u64 25 a0)))])) : Ex × St))
theorem Fe.l2_0.round (n : Nat) (rc : St → Option (Ex × St)) (x0 : Int) (x1 : Int) (x2 : LI) : Fe.R0 n rc ((St.mk [(.int .i64 x0), (.ptr 0 []), (.int .u64 x1)] [(some (.var (.ints .u64 25 x2)))])) = Fe.l2_0.r Fe.l2_0.k0 n (fun y0 y1 y2 => rc ((St.mk [(.int .i64 y0), (.ptr 0 []), (.int .u64 y1)] [(some (.var (.ints .u64 25 y2)))]))) x0 x1 x2 := by kernel_rfl
theorem Fe.l2_0.loop' (n : Nat) : ∀ (m : Nat) (t : (Int × (Int × LI))), loopOf (Fe.R0 n) m (Fe.l2_0.shape t) = Fe.l2_0.g Fe.l2_0.k0 n m t.1 t.2.1 t.2.2 :=
  loop_of_round (shape := Fe.l2_0.shape) (body := Fe.R0 n) (g := fun m t => Fe.l2_0.g Fe.l2_0.k0 n m t.1 t.2.1 t.2.2) (fun t => rfl)
    fun m t ih => (Fe.l2_0.round n (loopOf (Fe.R0 n) m) t.1 t.2.1 t.2.2).trans (congrFun (congrFun (congrFun (congrArg (Fe.l2_0.r Fe.l2_0.k0 n) (funext fun y0 => funext fun y1 => funext fun y2 => ih (y0, y1, y2))) t.1) t.2.1) t.2.2)
theorem Fe.l2_0.loop (n m : Nat) (t : (Int × (Int × LI))) : loopOf (Fe.R0 n) m (Fe.l2_0.shape t) = (Fe.l2_0.m n m t).map Fe.l2_0.res :=
  (Fe.l2_0.loop' n m t).trans (Fe.l2_0.gmap Fe.l2_0.res (fun a0 => a0) n m t.1 t.2.1 t.2.2)
theorem Fe.gmap {α β : Type} (h : β → α) (mk0 : LI → β) (n : Nat) (s : LI) : Fe.g (fun a0 => (h (mk0 a0))) n s = (Fe.g mk0 n s).map h := by
  unfold Fe.g
  exact (bindO_map fun r2 => rfl)
theorem Fe.run (n : Nat) (s : LI) : runF (Fe.C n) (Fe.A n) n Tryd.f125 [(.ptr 0 [])] [(some (.var (.ints .u64 25 s)))] (fun v o => some (v, o)) = Fe.g (fun a0 => (((.tup []), [(some (.var (.ints .u64 25 a0)))]) : AV × Blks)) n s := by kernel_rfl
theorem Fe.call (hmix : Tryd.prog.follows .mixedOrders = true) (n : Nat) (t : LI) (u) (h : Fe.m n t = some u) : FnC Tryd.prog abiG 125 (Fe.shape t).1 (Fe.shape t).2 (Fe.res u).1 (Fe.res u).2 :=
  fnC1 (C := Fe.C n) (A := Fe.A n) (fn := Tryd.f125) rfl (.cons (Fd.s hmix n) .nil) hmix Tryd.func125 (by kernel_rfl) (lp := [Fe.b0]) (by kernel_rfl) (.cons (show (Fe.A n).loop (key Fe.b0) = some (.mk' Fe.l2_0.pat (Fe.l2_0.m n n) Fe.l2_0.resK) by kernel_rfl) (LoopS.of (res := Fe.l2_0.res) (fun R u K => rfl) Fe.l2_0.pat_shape fun t => Fe.l2_0.loop n n t)
  .nil)
  (nj rfl) (by decide) rfl rfl (by show 1 ≤ Tryd.f125.ntmps; decide) (Fe.run n t) (Fe.gmap Fe.res (fun a0 => a0) n t) h
theorem Fe.s (hmix : Tryd.prog.follows .mixedOrders = true) (n : Nat) : CalleeS Tryd.prog abiG 125 (Fe.c n) :=
  .mk1 (res := Fe.res) (shape := Fe.shape) (fun R u K => rfl) (fun _ _ _ h => by unfold Fe.pat at h; split at h <;> cases h; rfl) (fun t u h => Fe.call hmix n t u h) Tryd.func125 (by decide) (by kernel_rfl)
end
section
noncomputable section
noncomputable def Fg.C (n : Nat) : Ctx := ⟨Tryd.prog, abiG, lookC [], fun _ => false⟩
def Fg.live : NL := fun k => match k with
 | 1 => ([2, 0], [])
 | 5 => ([17, 0, 2, 3], [2, 0])
 | _ => ([], [])
def Fg.l5_0.r {α : Type} (mk0 : Int → LI → α) (n : Nat) (rc : Int → Int → LI → LI → Option α)  (x0 : Int) (x1 : Int) (x2 : LI) (x3 : LI) : Option α :=
  if (decide (x0 < 5)) = true then
   if 0 ≤ x0 then
    if x0 < 5 then
     if 0 ≤ (Int.tmod (IntKind.wrap .i64 (x0 + 1)) 5) then
      if (Int.tmod (IntKind.wrap .i64 (x0 + 1)) 5) < 5 then
       if 0 ≤ (Int.tmod (IntKind.wrap .i64 (x0 + 2)) 5) then
        if (Int.tmod (IntKind.wrap .i64 (x0 + 2)) 5) < 5 then
         if 0 ≤ (IntKind.wrap .i64 (x1 + x0)) then
          if (IntKind.wrap .i64 (x1 + x0)) < 25 then
           rc (IntKind.wrap .i64 (x0 + 1)) x1 (List.set x2 (Int.toNat (IntKind.wrap .i64 (x1 + x0))) (ibits BinOp.xor .u64 (List.getD x3 (Int.toNat x0) 0) (ibits BinOp.and .u64 (ibits BinOp.xor .u64 (if false = true then (-1) else 18446744073709551615) (List.getD x3 (Int.toNat (Int.tmod (IntKind.wrap .i64 (x0 + 1)) 5)) 0)) (List.getD x3 (Int.toNat (Int.tmod (IntKind.wrap .i64 (x0 + 2)) 5)) 0)))) x3
          else
           none
         else
          none
        else
         none
       else
        none
      else
       none
     else
      none
    else
     none
   else
    none
  else
   some (mk0 x1 x2)
def Fg.l5_0.g {α : Type} (mk0 : Int → LI → α) (n : Nat) : Nat → Int → Int → LI → LI → Option α
 | 0, _, _, _, _ => none
 | m + 1, x0, x1, x2, x3 => Fg.l5_0.r mk0 n (fun y0 y1 y2 y3 => Fg.l5_0.g mk0 n m y0 y1 y2 y3)  x0 x1 x2 x3
def Fg.l5_0.m (n m : Nat) (t : (Int × (Int × (LI × LI)))) : Option (Int × LI) := Fg.l5_0.g (fun a0 a1 => (a0, a1)) n m t.1 t.2.1 t.2.2.1 t.2.2.2
def Fg.l5_0.pat : St → Option (Int × (Int × (LI × LI)))
 | (St.mk [(.int .i64 x0), (.ptr 0 []), (.int .i64 x1), (.ptr 1 [])] [(some (.var (.ints .u64 25 x2))), (some (.var (.ints .u64 5 x3)))]) => some (x0, x1, x2, x3)
 | _ => none
def Fg.l5_0.shape (t : (Int × (Int × (LI × LI)))) : St := (St.mk [(.int .i64 t.1), (.ptr 0 []), (.int .i64 t.2.1), (.ptr 1 [])] [(some (.var (.ints .u64 25 t.2.2.1))), (some (.var (.ints .u64 5 t.2.2.2)))])
def Fg.l5_0.res : (Int × LI) → Ex × St
 | u => ((.exit 2), (St.mk [(.int .i64 u.1), (.ptr 0 [])] [(some (.var (.ints .u64 25 u.2)))]))
def Fg.l5_0.resK {R : Type} (u : (Int × LI)) (K : Ex → St → Option R) : Option R := K (Fg.l5_0.res u).1 (Fg.l5_0.res u).2
def Fg.l1_0.r {α : Type} (mk0 : LI → α) (n : Nat) (rc : Int → LI → Option α)  (x0 : Int) (x1 : LI) : Option α :=
  if (decide (x0 < 25)) = true then
   if 0 ≤ (IntKind.wrap .i64 (x0 + 5)) then
    if (IntKind.wrap .i64 (x0 + 5)) ≤ 25 then
     if 0 ≤ x0 then
      if x0 ≤ (IntKind.wrap .i64 (x0 + 5)) then
       if 5 ≤ (Go.Abs.span 25 (Int.toNat x0) (Option.some (Int.toNat (IntKind.wrap .i64 (x0 + 5))))) then
        bindO (Fg.l5_0.m n n (0, x0, x1, (List.take 5 (List.drop (Int.toNat x0) x1)))) fun r16 =>
         rc (IntKind.wrap .i64 (r16.1 + 5)) r16.2
       else
        none
      else
       none
     else
      none
    else
     none
   else
    none
  else
   some (mk0 x1)
def Fg.l1_0.g {α : Type} (mk0 : LI → α) (n : Nat) : Nat → Int → LI → Option α
 | 0, _, _ => none
 | m + 1, x0, x1 => Fg.l1_0.r mk0 n (fun y0 y1 => Fg.l1_0.g mk0 n m y0 y1)  x0 x1
def Fg.l1_0.m (n m : Nat) (t : (Int × LI)) : Option LI := Fg.l1_0.g (fun a0 => a0) n m t.1 t.2
def Fg.l1_0.pat : St → Option (Int × LI)
 | (St.mk [(.int .i64 x0), (.ptr 0 [])] [(some (.var (.ints .u64 25 x1)))]) => some (x0, x1)
 | _ => none
def Fg.l1_0.shape (t : (Int × LI)) : St := (St.mk [(.int .i64 t.1), (.ptr 0 [])] [(some (.var (.ints .u64 25 t.2)))])
def Fg.l1_0.res : LI → Ex × St
 | u => ((.exit 0), (St.mk [] [(some (.var (.ints .u64 25 u)))]))
def Fg.l1_0.resK {R : Type} (u : LI) (K : Ex → St → Option R) : Option R := K (Fg.l1_0.res u).1 (Fg.l1_0.res u).2
noncomputable def Fg.A (n : Nat) : Ann := ⟨Tryd.f126.ntmps, 1, Fg.live, [], [], fun k => match k with
 | 5 => some (.mk' Fg.l5_0.pat (Fg.l5_0.m n n) Fg.l5_0.resK)
 | 1 => some (.mk' Fg.l1_0.pat (Fg.l1_0.m n n) Fg.l1_0.resK)
 | _ => none, noNL, lookJ []⟩
noncomputable def Fg.b0 : Code := (loopsIn (Tryd.f126.body.getD .skip)).getD 0 .skip
noncomputable def Fg.b1 : Code := (loopsIn (Tryd.f126.body.getD .skip)).getD 1 .skip
def Fg.g {α : Type} (mk0 : LI → α) (n : Nat) (s : LI) : Option α :=
 bindO (Fg.l1_0.m n n (0, s)) fun r2 =>
  some (mk0 r2)
def Fg.m (n : Nat) (t : LI) : Option LI := Fg.g (fun a0 => a0) n t
def Fg.pat : List AV → Blks → Option LI
 | [(.ptr 0 [])], [(some (.var (.ints .u64 25 s)))] => some s
 | _, _ => none
def Fg.shape (t : LI) : List AV × Blks := ([(.ptr 0 [])], [(some (.var (.ints .u64 25 t)))])
def Fg.res : LI → AV × Blks
 | u => ((.tup []), [(some (.var (.ints .u64 25 u)))])
def Fg.resK {R : Type} (u : LI) (K : AV → Blks → Option R) : Option R := K (Fg.res u).1 (Fg.res u).2
def Fg.c (n : Nat) : Abs.Callee := .mk' [true] [none] Fg.pat (Fg.m n) Fg.resK
end
end
section
noncomputable abbrev Fg.R0 (n : Nat) := roundOf (Fg.C n) (Fg.A n) n Fg.b0
noncomputable abbrev Fg.R1 (n : Nat) := roundOf (Fg.C n) (Fg.A n) n Fg.b1
theorem Fg.l5_0.rmap {α β : Type} (h : β → α) (mk0 : Int → LI → β) (n : Nat) (f : Int → Int → LI → LI → Option β)  (x0 : Int) (x1 : Int) (x2 : LI) (x3 : LI) : Fg.l5_0.r (fun a0 a1 => (h (mk0 a0 a1))) n (fun y0 y1 y2 y3 => (f y0 y1 y2 y3).map h) x0 x1 x2 x3 = (Fg.l5_0.r mk0 n f x0 x1 x2 x3).map h := by
  unfold Fg.l5_0.r
  exact (ite_map (ite_map (ite_map (ite_map (ite_map (ite_map (ite_map (ite_map (ite_map rfl rfl) rfl) rfl) rfl) rfl) rfl) rfl) rfl) rfl)
theorem Fg.l5_0.gmap {α β : Type} (h : β → α) (mk0 : Int → LI → β) (n : Nat) : ∀ (m : Nat) (x0 : Int) (x1 : Int) (x2 : LI) (x3 : LI), Fg.l5_0.g (fun a0 a1 => (h (mk0 a0 a1))) n m x0 x1 x2 x3 = (Fg.l5_0.g mk0 n m x0 x1 x2 x3).map h
  | 0, _, _, _, _ => rfl
  | m + 1, x0, x1, x2, x3 => by
    unfold Fg.l5_0.g
    rw [← Fg.l5_0.rmap]
    congr
    · funext y0 y1 y2 y3; exact Fg.l5_0.gmap h mk0 n m y0 y1 y2 y3
theorem Fg.l5_0.pat_shape : ∀ st t, Fg.l5_0.pat st = some t → st = Fg.l5_0.shape t := fun _ _ h => by unfold Fg.l5_0.pat at h; split at h <;> cases h; rfl
def Fg.l5_0.k0 : Int → LI → Ex × St := (fun a0 a1 => (((.exit 2), (St.mk [(.int .i64 a0), (.ptr 0 [])] [(some (.var (.ints .u64 25 a1)))])) : Ex × St))
theorem Fg.l5_0.round (n : Nat) (rc : St → Option (Ex × St)) (x0 : Int) (x1 : Int) (x2 : LI) (x3 : LI) : Fg.R1 n rc ((St.mk [(.int .i64 x0), (.ptr 0 []), (.int .i64 x1), (.ptr 1 [])] [(some (.var (.ints .u64 25 x2))), (some (.var (.ints .u64 5 x3)))])) = Fg.l5_0.r Fg.l5_0.k0 n (fun y0 y1 y2 y3 => rc ((St.mk [(.int .i64 y0), (.ptr 0 []), (.int .i64 y1), (.ptr 1 [])] [(some (.var (.ints .u64 25 y2))), (some (.var (.ints .u64 5 y3)))]))) x0 x1 x2 x3 := by kernel_rfl
theorem Fg.l5_0.loop' (n : Nat) : ∀ (m : Nat) (t : (Int × (Int × (LI × LI)))), loopOf (Fg.R1 n) m (Fg.l5_0.shape t) = Fg.l5_0.g Fg.l5_0.k0 n m t.1 t.2.1 t.2.2.1 t.2.2.2 :=
  loop_of_round (shape := Fg.l5_0.shape) (body := Fg.R1 n) (g := fun m t => Fg.l5_0.g Fg.l5_0.k0 n m t.1 t.2.1 t.2.2.1 t.2.2.2) (fun t => rfl)
    fun m t ih => (Fg.l5_0.round n (loopOf (Fg.R1 n) m) t.1 t.2.1 t.2.2.1 t.2.2.2).trans (congrFun (congrFun (congrFun (congrFun (congrArg (Fg.l5_0.r Fg.l5_0.k0 n) (funext fun y0 => funext fun y1 => funext fun y2 => funext fun y3 => ih (y0, y1, y2, y3))) t.1) t.2.1) t.2.2.1) t.2.2.2)
theorem Fg.l5_0.loop (n m : Nat) (t : (Int × (Int × (LI × LI)))) : loopOf (Fg.R1 n) m (Fg.l5_0.shape t) = (Fg.l5_0.m n m t).map Fg.l5_0.res :=
  (Fg.l5_0.loop' n m t).trans (Fg.l5_0.gmap Fg.l5_0.res (fun a0 a1 => (a0, a1)) n m t.1 t.2.1 t.2.2.1 t.2.2.2)
theorem Fg.l1_0.rmap {α β : Type} (h : β → α) (mk0 : LI → β) (n : Nat) (f : Int → LI → Option β)  (x0 : Int) (x1 : LI) : Fg.l1_0.r (fun a0 => (h (mk0 a0))) n (fun y0 y1 => (f y0 y1).map h) x0 x1 = (Fg.l1_0.r mk0 n f x0 x1).map h := by
  unfold Fg.l1_0.r
  exact (ite_map (ite_map (ite_map (ite_map (ite_map (ite_map (bindO_map fun r16 => rfl) rfl) rfl) rfl) rfl) rfl) rfl)
theorem Fg.l1_0.gmap {α β : Type} (h : β → α) (mk0 : LI → β) (n : Nat) : ∀ (m : Nat) (x0 : Int) (x1 : LI), Fg.l1_0.g (fun a0 => (h (mk0 a0))) n m x0 x1 = (Fg.l1_0.g mk0 n m x0 x1).map h
  | 0, _, _ => rfl
  | m + 1, x0, x1 => by
    unfold Fg.l1_0.g
    rw [← Fg.l1_0.rmap]
    congr
    · funext y0 y1; exact Fg.l1_0.gmap h mk0 n m y0 y1
theorem Fg.l1_0.pat_shape : ∀ st t, Fg.l1_0.pat st = some t → st = Fg.l1_0.shape t := fun _ _ h => by unfold Fg.l1_0.pat at h; split at h <;> cases h; rfl
def Fg.l1_0.k0 : LI → Ex × St := (fun a0 => (((.exit 0), (St.mk [] [(some (.var (.ints .u64 25 a0)))])) : Ex × St))
theorem Fg.l1_0.round (n : Nat) (rc : St → Option (Ex × St)) (x0 : Int) (x1 : LI) : Fg.R0 n rc ((St.mk [(.int .i64 x0), (.ptr 0 [])] [(some (.var (.ints .u64 25 x1)))])) = Fg.l1_0.r Fg.l1_0.k0 n (fun y0 y1 => rc ((St.mk [(.int .i64 y0), (.ptr 0 [])] [(some (.var (.ints .u64 25 y1)))]))) x0 x1 := by kernel_rfl
theorem Fg.l1_0.loop' (n : Nat) : ∀ (m : Nat) (t : (Int × LI)), loopOf (Fg.R0 n) m (Fg.l1_0.shape t) = Fg.l1_0.g Fg.l1_0.k0 n m t.1 t.2 :=
  loop_of_round (shape := Fg.l1_0.shape) (body := Fg.R0 n) (g := fun m t => Fg.l1_0.g Fg.l1_0.k0 n m t.1 t.2) (fun t => rfl)
    fun m t ih => (Fg.l1_0.round n (loopOf (Fg.R0 n) m) t.1 t.2).trans (congrFun (congrFun (congrArg (Fg.l1_0.r Fg.l1_0.k0 n) (funext fun y0 => funext fun y1 => ih (y0, y1))) t.1) t.2)
theorem Fg.l1_0.loop (n m : Nat) (t : (Int × LI)) : loopOf (Fg.R0 n) m (Fg.l1_0.shape t) = (Fg.l1_0.m n m t).map Fg.l1_0.res :=
  (Fg.l1_0.loop' n m t).trans (Fg.l1_0.gmap Fg.l1_0.res (fun a0 => a0) n m t.1 t.2)
theorem Fg.gmap {α β : Type} (h : β → α) (mk0 : LI → β) (n : Nat) (s : LI) : Fg.g (fun a0 => (h (mk0 a0))) n s = (Fg.g mk0 n s).map h := by
  unfold Fg.g
  exact (bindO_map fun r2 => rfl)
theorem Fg.run (n : Nat) (s : LI) : runF (Fg.C n) (Fg.A n) n Tryd.f126 [(.ptr 0 [])] [(some (.var (.ints .u64 25 s)))] (fun v o => some (v, o)) = Fg.g (fun a0 => (((.tup []), [(some (.var (.ints .u64 25 a0)))]) : AV × Blks)) n s := by kernel_rfl
theorem Fg.call (hmix : Tryd.prog.follows .mixedOrders = true) (n : Nat) (t : LI) (u) (h : Fg.m n t = some u) : FnC Tryd.prog abiG 126 (Fg.shape t).1 (Fg.shape t).2 (Fg.res u).1 (Fg.res u).2 :=
  fnC1 (C := Fg.C n) (A := Fg.A n) (fn := Tryd.f126) rfl .nil hmix Tryd.func126 (by kernel_rfl) (lp := [Fg.b0, Fg.b1]) (by kernel_rfl) (.cons (show (Fg.A n).loop (key Fg.b0) = some (.mk' Fg.l1_0.pat (Fg.l1_0.m n n) Fg.l1_0.resK) by kernel_rfl) (LoopS.of (res := Fg.l1_0.res) (fun R u K => rfl) Fg.l1_0.pat_shape fun t => Fg.l1_0.loop n n t)
  (.cons (show (Fg.A n).loop (key Fg.b1) = some (.mk' Fg.l5_0.pat (Fg.l5_0.m n n) Fg.l5_0.resK) by kernel_rfl) (LoopS.of (res := Fg.l5_0.res) (fun R u K => rfl) Fg.l5_0.pat_shape fun t => Fg.l5_0.loop n n t)
  .nil))
  (nj rfl) (by decide) rfl rfl (by show 1 ≤ Tryd.f126.ntmps; decide) (Fg.run n t) (Fg.gmap Fg.res (fun a0 => a0) n t) h
theorem Fg.s (hmix : Tryd.prog.follows .mixedOrders = true) (n : Nat) : CalleeS Tryd.prog abiG 126 (Fg.c n) :=
  .mk1 (res := Fg.res) (shape := Fg.shape) (fun R u K => rfl) (fun _ _ _ h => by unfold Fg.pat at h; split at h <;> cases h; rfl) (fun t u h => Fg.call hmix n t u h) Tryd.func126 (by decide) (by kernel_rfl)
end
section
noncomputable section
noncomputable def Fh.C (n : Nat) : Ctx := ⟨Tryd.prog, abiG, lookC [(124, Fb.c n), (125, Fe.c n), (126, Fg.c n)], fun _ => false⟩
def Fh.live : NL := fun k => match k with
 | 1 => ([3, 0], [])
 | _ => ([], [])
def Fh.l1_0.r {α : Type} (mk0 : LI → α) (n : Nat) (rc : Int → LI → Option α)  (x0 : Int) (x1 : LI) : Option α :=
  if (decide (x0 < 24)) = true then
   bindO (Fb.m n x1) fun r6 =>
    bindO (Fe.m n r6) fun r8 =>
     bindO (Fg.m n r8) fun r10 =>
      if 0 ≤ x0 then
       if x0 < 24 then
        rc (IntKind.wrap .i64 (x0 + 1)) (List.set r10 0 (ibits BinOp.xor .u64 (List.getD r10 0 0) (List.getD ([1, 32898, 9223372036854808714, 9223372039002292224, 32907, 2147483649, 9223372039002292353, 9223372036854808585, 138, 136, 2147516425, 2147483658, 2147516555, 9223372036854775947, 9223372036854808713, 9223372036854808579, 9223372036854808578, 9223372036854775936, 32778, 9223372039002259466, 9223372039002292353, 9223372036854808704, 2147483649, 9223372039002292232] : List Int) (Int.toNat x0) 0)))
       else
        none
      else
       none
  else
   some (mk0 x1)
def Fh.l1_0.g {α : Type} (mk0 : LI → α) (n : Nat) : Nat → Int → LI → Option α
 | 0, _, _ => none
 | m + 1, x0, x1 => Fh.l1_0.r mk0 n (fun y0 y1 => Fh.l1_0.g mk0 n m y0 y1)  x0 x1
def Fh.l1_0.m (n m : Nat) (t : (Int × LI)) : Option LI := Fh.l1_0.g (fun a0 => a0) n m t.1 t.2
def Fh.l1_0.pat : St → Option (Int × LI)
 | (St.mk [(.int .i64 x0), (.ptr 0 [])] [(some (.var (.ints .u64 25 x1)))]) => some (x0, x1)
 | _ => none
def Fh.l1_0.shape (t : (Int × LI)) : St := (St.mk [(.int .i64 t.1), (.ptr 0 [])] [(some (.var (.ints .u64 25 t.2)))])
def Fh.l1_0.res : LI → Ex × St
 | u => ((.exit 0), (St.mk [] [(some (.var (.ints .u64 25 u)))]))
def Fh.l1_0.resK {R : Type} (u : LI) (K : Ex → St → Option R) : Option R := K (Fh.l1_0.res u).1 (Fh.l1_0.res u).2
noncomputable def Fh.A (n : Nat) : Ann := ⟨Tryd.f111.ntmps, 1, Fh.live, [], [], fun k => match k with
 | 1 => some (.mk' Fh.l1_0.pat (Fh.l1_0.m n n) Fh.l1_0.resK)
 | _ => none, noNL, lookJ []⟩
noncomputable def Fh.b0 : Code := (loopsIn (Tryd.f111.body.getD .skip)).getD 0 .skip
def Fh.g {α : Type} (mk0 : LI → α) (n : Nat) (s : LI) : Option α :=
 bindO (Fh.l1_0.m n n (0, s)) fun r2 =>
  some (mk0 r2)
def Fh.m (n : Nat) (t : LI) : Option LI := Fh.g (fun a0 => a0) n t
def Fh.pat : List AV → Blks → Option LI
 | [(.ptr 0 [])], [(some (.var (.ints .u64 25 s)))] => some s
 | _, _ => none
def Fh.shape (t : LI) : List AV × Blks := ([(.ptr 0 [])], [(some (.var (.ints .u64 25 t)))])
def Fh.res : LI → AV × Blks
 | u => ((.tup []), [(some (.var (.ints .u64 25 u)))])
def Fh.resK {R : Type} (u : LI) (K : AV → Blks → Option R) : Option R := K (Fh.res u).1 (Fh.res u).2
def Fh.c (n : Nat) : Abs.Callee := .mk' [true] [none] Fh.pat (Fh.m n) Fh.resK
end
end
section
noncomputable abbrev Fh.R0 (n : Nat) := roundOf (Fh.C n) (Fh.A n) n Fh.b0
theorem Fh.l1_0.rmap {α β : Type} (h : β → α) (mk0 : LI → β) (n : Nat) (f : Int → LI → Option β)  (x0 : Int) (x1 : LI) : Fh.l1_0.r (fun a0 => (h (mk0 a0))) n (fun y0 y1 => (f y0 y1).map h) x0 x1 = (Fh.l1_0.r mk0 n f x0 x1).map h := by
  unfold Fh.l1_0.r
  exact (ite_map (bindO_map fun r6 => (bindO_map fun r8 => (bindO_map fun r10 => (ite_map (ite_map rfl rfl) rfl)))) rfl)
theorem Fh.l1_0.gmap {α β : Type} (h : β → α) (mk0 : LI → β) (n : Nat) : ∀ (m : Nat) (x0 : Int) (x1 : LI), Fh.l1_0.g (fun a0 => (h (mk0 a0))) n m x0 x1 = (Fh.l1_0.g mk0 n m x0 x1).map h
  | 0, _, _ => rfl
  | m + 1, x0, x1 => by
    unfold Fh.l1_0.g
    rw [← Fh.l1_0.rmap]
    congr
    · funext y0 y1; exact Fh.l1_0.gmap h mk0 n m y0 y1
theorem Fh.l1_0.pat_shape : ∀ st t, Fh.l1_0.pat st = some t → st = Fh.l1_0.shape t := fun _ _ h => by unfold Fh.l1_0.pat at h; split at h <;> cases h; rfl
def Fh.l1_0.k0 : LI → Ex × St := (fun a0 => (((.exit 0), (St.mk [] [(some (.var (.ints .u64 25 a0)))])) : Ex × St))
theorem Fh.l1_0.round (n : Nat) (rc : St → Option (Ex × St)) (x0 : Int) (x1 : LI) : Fh.R0 n rc ((St.mk [(.int .i64 x0), (.ptr 0 [])] [(some (.var (.ints .u64 25 x1)))])) = Fh.l1_0.r Fh.l1_0.k0 n (fun y0 y1 => rc ((St.mk [(.int .i64 y0), (.ptr 0 [])] [(some (.var (.ints .u64 25 y1)))]))) x0 x1 := by kernel_rfl
theorem Fh.l1_0.loop' (n : Nat) : ∀ (m : Nat) (t : (Int × LI)), loopOf (Fh.R0 n) m (Fh.l1_0.shape t) = Fh.l1_0.g Fh.l1_0.k0 n m t.1 t.2 :=
  loop_of_round (shape := Fh.l1_0.shape) (body := Fh.R0 n) (g := fun m t => Fh.l1_0.g Fh.l1_0.k0 n m t.1 t.2) (fun t => rfl)
    fun m t ih => (Fh.l1_0.round n (loopOf (Fh.R0 n) m) t.1 t.2).trans (congrFun (congrFun (congrArg (Fh.l1_0.r Fh.l1_0.k0 n) (funext fun y0 => funext fun y1 => ih (y0, y1))) t.1) t.2)
theorem Fh.l1_0.loop (n m : Nat) (t : (Int × LI)) : loopOf (Fh.R0 n) m (Fh.l1_0.shape t) = (Fh.l1_0.m n m t).map Fh.l1_0.res :=
  (Fh.l1_0.loop' n m t).trans (Fh.l1_0.gmap Fh.l1_0.res (fun a0 => a0) n m t.1 t.2)
theorem Fh.gmap {α β : Type} (h : β → α) (mk0 : LI → β) (n : Nat) (s : LI) : Fh.g (fun a0 => (h (mk0 a0))) n s = (Fh.g mk0 n s).map h := by
  unfold Fh.g
  exact (bindO_map fun r2 => rfl)
theorem Fh.run (n : Nat) (s : LI) : runF (Fh.C n) (Fh.A n) n Tryd.f111 [(.ptr 0 [])] [(some (.var (.ints .u64 25 s)))] (fun v o => some (v, o)) = Fh.g (fun a0 => (((.tup []), [(some (.var (.ints .u64 25 a0)))]) : AV × Blks)) n s := by kernel_rfl
theorem Fh.call (hmix : Tryd.prog.follows .mixedOrders = true) (n : Nat) (t : LI) (u) (h : Fh.m n t = some u) : FnC Tryd.prog abiG 111 (Fh.shape t).1 (Fh.shape t).2 (Fh.res u).1 (Fh.res u).2 :=
  fnC1 (C := Fh.C n) (A := Fh.A n) (fn := Tryd.f111) rfl (.cons (Fb.s hmix n) (.cons (Fe.s hmix n) (.cons (Fg.s hmix n) .nil))) hmix Tryd.func111 (by kernel_rfl) (lp := [Fh.b0]) (by kernel_rfl) (.cons (show (Fh.A n).loop (key Fh.b0) = some (.mk' Fh.l1_0.pat (Fh.l1_0.m n n) Fh.l1_0.resK) by kernel_rfl) (LoopS.of (res := Fh.l1_0.res) (fun R u K => rfl) Fh.l1_0.pat_shape fun t => Fh.l1_0.loop n n t)
  .nil)
  (nj rfl) (by decide) rfl rfl (by show 1 ≤ Tryd.f111.ntmps; decide) (Fh.run n t) (Fh.gmap Fh.res (fun a0 => a0) n t) h
theorem Fh.s (hmix : Tryd.prog.follows .mixedOrders = true) (n : Nat) : CalleeS Tryd.prog abiG 111 (Fh.c n) :=
  .mk1 (res := Fh.res) (shape := Fh.shape) (fun R u K => rfl) (fun _ _ _ h => by unfold Fh.pat at h; split at h <;> cases h; rfl) (fun t u h => Fh.call hmix n t u h) Tryd.func111 (by decide) (by kernel_rfl)
end
section
noncomputable section
def Fby.g {α : Type} (mk0 : Int → α) (n : Nat) (a0 : Int) (a1 : Int) : Option α :=
 if (a1 == 0) = true then
  some (mk0 a0)
 else
  if 0 ≤ (IntKind.wrap .u64 a1) then
   if 0 ≤ (IntKind.wrap .u64 (IntKind.wrap .i64 (64 - a1))) then
    some (mk0 (ibits BinOp.or .u64 (ishl .u64 a0 (IntKind.wrap .u64 a1)) (ishr .u64 a0 (IntKind.wrap .u64 (IntKind.wrap .i64 (64 - a1))))))
   else
    none
  else
   none
def Fby.m (n : Nat) (t : (Int × Int)) : Option Int := Fby.g (fun a0 => a0) n t.1 t.2
end
end
section
noncomputable section
def Fbz.l6_0.r {α : Type} (mk0 : LI → LI → LI → Int → LI → α) (n : Nat) (rc : Int → LI → LI → LI → Int → LI → Option α)  (x0 : Int) (x1 : LI) (x2 : LI) (x3 : LI) (x4 : Int) (x5 : LI) : Option α :=
  if (decide (x0 < 5)) = true then
   if 0 ≤ x0 then
    if x0 < (((List.length x1) : Nat) : Int) then
     if 0 ≤ (IntKind.wrap .i64 (5 + x0)) then
      if (IntKind.wrap .i64 (5 + x0)) < (((List.length x1) : Nat) : Int) then
       if 0 ≤ (IntKind.wrap .i64 (10 + x0)) then
        if (IntKind.wrap .i64 (10 + x0)) < (((List.length x1) : Nat) : Int) then
         if 0 ≤ (IntKind.wrap .i64 (15 + x0)) then
          if (IntKind.wrap .i64 (15 + x0)) < (((List.length x1) : Nat) : Int) then
           if 0 ≤ (IntKind.wrap .i64 (20 + x0)) then
            if (IntKind.wrap .i64 (20 + x0)) < (((List.length x1) : Nat) : Int) then
             if ((((List.length x5) + 1) * 8) ≤ 70368744177664 ∧ ((List.length x5) + 1) ≤ 9223372036854775807) then
              rc (IntKind.wrap .i64 (x0 + 1)) x1 x2 x3 x4 (x5 ++ [(ibits BinOp.xor .u64 (ibits BinOp.xor .u64 (ibits BinOp.xor .u64 (ibits BinOp.xor .u64 (List.getD x1 (Int.toNat x0) 0) (List.getD x1 (Int.toNat (IntKind.wrap .i64 (5 + x0))) 0)) (List.getD x1 (Int.toNat (IntKind.wrap .i64 (10 + x0))) 0)) (List.getD x1 (Int.toNat (IntKind.wrap .i64 (15 + x0))) 0)) (List.getD x1 (Int.toNat (IntKind.wrap .i64 (20 + x0))) 0))])
             else
              none
            else
             none
           else
            none
          else
           none
         else
          none
        else
         none
       else
        none
      else
       none
     else
      none
    else
     none
   else
    none
  else
   some (mk0 x1 x2 x3 x4 x5)
def Fbz.l6_0.g {α : Type} (mk0 : LI → LI → LI → Int → LI → α) (n : Nat) : Nat → Int → LI → LI → LI → Int → LI → Option α
 | 0, _, _, _, _, _, _ => none
 | m + 1, x0, x1, x2, x3, x4, x5 => Fbz.l6_0.r mk0 n (fun y0 y1 y2 y3 y4 y5 => Fbz.l6_0.g mk0 n m y0 y1 y2 y3 y4 y5)  x0 x1 x2 x3 x4 x5
def Fbz.l6_0.m (n m : Nat) (t : (Int × (LI × (LI × (LI × (Int × LI)))))) : Option (LI × (LI × (LI × (Int × LI)))) := Fbz.l6_0.g (fun a0 a1 a2 a3 a4 => (a0, a1, a2, a3, a4)) n m t.1 t.2.1 t.2.2.1 t.2.2.2.1 t.2.2.2.2.1 t.2.2.2.2.2
def Fbz.l15_0.r {α : Type} (mk0 : Int → LI → LI → LI → Int → LI → LI → α) (n : Nat) (rc : Int → Int → LI → Int → LI → LI → Int → LI → LI → Option α)  (x0 : Int) (x1 : Int) (x2 : LI) (x3 : Int) (x4 : LI) (x5 : LI) (x6 : Int) (x7 : LI) (x8 : LI) : Option α :=
  if (decide (x0 < 5)) = true then
   if 0 ≤ (IntKind.wrap .i64 ((IntKind.wrap .i64 (5 * x0)) + x1)) then
    if (IntKind.wrap .i64 ((IntKind.wrap .i64 (5 * x0)) + x1)) < (((List.length x2) : Nat) : Int) then
     if 0 ≤ (IntKind.wrap .i64 ((IntKind.wrap .i64 (5 * x0)) + x1)) then
      if (IntKind.wrap .i64 ((IntKind.wrap .i64 (5 * x0)) + x1)) < (((List.length x4) : Nat) : Int) then
       bindO (Fby.m n ((ibits BinOp.xor .u64 (List.getD x2 (Int.toNat (IntKind.wrap .i64 ((IntKind.wrap .i64 (5 * x0)) + x1))) 0) x3), (List.getD x4 (Int.toNat (IntKind.wrap .i64 ((IntKind.wrap .i64 (5 * x0)) + x1))) 0))) fun r14 =>
        if 0 ≤ (IntKind.wrap .i64 ((IntKind.wrap .i64 (5 * (Int.tmod (IntKind.wrap .i64 ((IntKind.wrap .i64 (2 * x1)) + (IntKind.wrap .i64 (3 * x0)))) 5))) + x0)) then
         if (IntKind.wrap .i64 ((IntKind.wrap .i64 (5 * (Int.tmod (IntKind.wrap .i64 ((IntKind.wrap .i64 (2 * x1)) + (IntKind.wrap .i64 (3 * x0)))) 5))) + x0)) < (((List.length x7) : Nat) : Int) then
          rc (IntKind.wrap .i64 (x0 + 1)) x1 x2 x3 x4 x5 x6 (List.set x7 (Int.toNat (IntKind.wrap .i64 ((IntKind.wrap .i64 (5 * (Int.tmod (IntKind.wrap .i64 ((IntKind.wrap .i64 (2 * x1)) + (IntKind.wrap .i64 (3 * x0)))) 5))) + x0))) r14) x8
         else
          none
        else
         none
      else
       none
     else
      none
    else
     none
   else
    none
  else
   some (mk0 x1 x2 x4 x5 x6 x8 x7)
def Fbz.l15_0.g {α : Type} (mk0 : Int → LI → LI → LI → Int → LI → LI → α) (n : Nat) : Nat → Int → Int → LI → Int → LI → LI → Int → LI → LI → Option α
 | 0, _, _, _, _, _, _, _, _, _ => none
 | m + 1, x0, x1, x2, x3, x4, x5, x6, x7, x8 => Fbz.l15_0.r mk0 n (fun y0 y1 y2 y3 y4 y5 y6 y7 y8 => Fbz.l15_0.g mk0 n m y0 y1 y2 y3 y4 y5 y6 y7 y8)  x0 x1 x2 x3 x4 x5 x6 x7 x8
def Fbz.l15_0.m (n m : Nat) (t : (Int × (Int × (LI × (Int × (LI × (LI × (Int × (LI × LI))))))))) : Option (Int × (LI × (LI × (LI × (Int × (LI × LI)))))) := Fbz.l15_0.g (fun a0 a1 a2 a3 a4 a5 a6 => (a0, a1, a2, a3, a4, a5, a6)) n m t.1 t.2.1 t.2.2.1 t.2.2.2.1 t.2.2.2.2.1 t.2.2.2.2.2.1 t.2.2.2.2.2.2.1 t.2.2.2.2.2.2.2.1 t.2.2.2.2.2.2.2.2
def Fbz.l11_0.r {α : Type} (mk0 : LI → Int → LI → LI → α) (n : Nat) (rc : Int → LI → LI → LI → Int → LI → LI → Option α)  (x0 : Int) (x1 : LI) (x2 : LI) (x3 : LI) (x4 : Int) (x5 : LI) (x6 : LI) : Option α :=
  if (decide (x0 < 5)) = true then
   if 0 ≤ (Int.tmod (IntKind.wrap .i64 (x0 + 4)) 5) then
    if (Int.tmod (IntKind.wrap .i64 (x0 + 4)) 5) < (((List.length x5) : Nat) : Int) then
     if 0 ≤ (Int.tmod (IntKind.wrap .i64 (x0 + 1)) 5) then
      if (Int.tmod (IntKind.wrap .i64 (x0 + 1)) 5) < (((List.length x5) : Nat) : Int) then
       bindO (Fby.m n ((List.getD x5 (Int.toNat (Int.tmod (IntKind.wrap .i64 (x0 + 1)) 5)) 0), 1)) fun r14 =>
        bindO (Fbz.l15_0.m n n (0, x0, x1, (ibits BinOp.xor .u64 (List.getD x5 (Int.toNat (Int.tmod (IntKind.wrap .i64 (x0 + 4)) 5)) 0) r14), x2, x3, x4, x6, x5)) fun r16 =>
         rc (IntKind.wrap .i64 (r16.1 + 1)) r16.2.1 r16.2.2.1 r16.2.2.2.1 r16.2.2.2.2.1 r16.2.2.2.2.2.1 r16.2.2.2.2.2.2
      else
       none
     else
      none
    else
     none
   else
    none
  else
   some (mk0 x3 x4 x2 x6)
def Fbz.l11_0.g {α : Type} (mk0 : LI → Int → LI → LI → α) (n : Nat) : Nat → Int → LI → LI → LI → Int → LI → LI → Option α
 | 0, _, _, _, _, _, _, _ => none
 | m + 1, x0, x1, x2, x3, x4, x5, x6 => Fbz.l11_0.r mk0 n (fun y0 y1 y2 y3 y4 y5 y6 => Fbz.l11_0.g mk0 n m y0 y1 y2 y3 y4 y5 y6)  x0 x1 x2 x3 x4 x5 x6
def Fbz.l11_0.m (n m : Nat) (t : (Int × (LI × (LI × (LI × (Int × (LI × LI))))))) : Option (LI × (Int × (LI × LI))) := Fbz.l11_0.g (fun a0 a1 a2 a3 => (a0, a1, a2, a3)) n m t.1 t.2.1 t.2.2.1 t.2.2.2.1 t.2.2.2.2.1 t.2.2.2.2.2.1 t.2.2.2.2.2.2
def Fbz.l23_0.r {α : Type} (mk0 : Int → LI → Int → LI → LI → LI → α) (n : Nat) (rc : Int → Int → LI → Int → LI → LI → LI → Option α)  (x0 : Int) (x1 : Int) (x2 : LI) (x3 : Int) (x4 : LI) (x5 : LI) (x6 : LI) : Option α :=
  if (decide (x0 < 5)) = true then
   if 0 ≤ (IntKind.wrap .i64 ((IntKind.wrap .i64 (5 * x1)) + x0)) then
    if (IntKind.wrap .i64 ((IntKind.wrap .i64 (5 * x1)) + x0)) < (((List.length x6) : Nat) : Int) then
     if 0 ≤ (IntKind.wrap .i64 ((IntKind.wrap .i64 (5 * x1)) + (Int.tmod (IntKind.wrap .i64 (x0 + 1)) 5))) then
      if (IntKind.wrap .i64 ((IntKind.wrap .i64 (5 * x1)) + (Int.tmod (IntKind.wrap .i64 (x0 + 1)) 5))) < (((List.length x6) : Nat) : Int) then
       if 0 ≤ (IntKind.wrap .i64 ((IntKind.wrap .i64 (5 * x1)) + (Int.tmod (IntKind.wrap .i64 (x0 + 2)) 5))) then
        if (IntKind.wrap .i64 ((IntKind.wrap .i64 (5 * x1)) + (Int.tmod (IntKind.wrap .i64 (x0 + 2)) 5))) < (((List.length x6) : Nat) : Int) then
         if ((((List.length x5) + 1) * 8) ≤ 70368744177664 ∧ ((List.length x5) + 1) ≤ 9223372036854775807) then
          rc (IntKind.wrap .i64 (x0 + 1)) x1 x2 x3 x4 (x5 ++ [(ibits BinOp.xor .u64 (List.getD x6 (Int.toNat (IntKind.wrap .i64 ((IntKind.wrap .i64 (5 * x1)) + x0))) 0) (ibits BinOp.and .u64 (ibits BinOp.xor .u64 (if false = true then (-1) else 18446744073709551615) (List.getD x6 (Int.toNat (IntKind.wrap .i64 ((IntKind.wrap .i64 (5 * x1)) + (Int.tmod (IntKind.wrap .i64 (x0 + 1)) 5)))) 0)) (List.getD x6 (Int.toNat (IntKind.wrap .i64 ((IntKind.wrap .i64 (5 * x1)) + (Int.tmod (IntKind.wrap .i64 (x0 + 2)) 5)))) 0)))]) x6
         else
          none
        else
         none
       else
        none
      else
       none
     else
      none
    else
     none
   else
    none
  else
   some (mk0 x1 x2 x3 x4 x5 x6)
def Fbz.l23_0.g {α : Type} (mk0 : Int → LI → Int → LI → LI → LI → α) (n : Nat) : Nat → Int → Int → LI → Int → LI → LI → LI → Option α
 | 0, _, _, _, _, _, _, _ => none
 | m + 1, x0, x1, x2, x3, x4, x5, x6 => Fbz.l23_0.r mk0 n (fun y0 y1 y2 y3 y4 y5 y6 => Fbz.l23_0.g mk0 n m y0 y1 y2 y3 y4 y5 y6)  x0 x1 x2 x3 x4 x5 x6
def Fbz.l23_0.m (n m : Nat) (t : (Int × (Int × (LI × (Int × (LI × (LI × LI))))))) : Option (Int × (LI × (Int × (LI × (LI × LI))))) := Fbz.l23_0.g (fun a0 a1 a2 a3 a4 a5 => (a0, a1, a2, a3, a4, a5)) n m t.1 t.2.1 t.2.2.1 t.2.2.2.1 t.2.2.2.2.1 t.2.2.2.2.2.1 t.2.2.2.2.2.2
def Fbz.l20_0.r {α : Type} (mk0 : LI → Int → LI → LI → α) (n : Nat) (rc : Int → LI → Int → LI → LI → LI → Option α)  (x0 : Int) (x1 : LI) (x2 : Int) (x3 : LI) (x4 : LI) (x5 : LI) : Option α :=
  if (decide (x0 < 5)) = true then
   bindO (Fbz.l23_0.m n n (0, x0, x1, x2, x3, x4, x5)) fun r6 =>
    rc (IntKind.wrap .i64 (r6.1 + 1)) r6.2.1 r6.2.2.1 r6.2.2.2.1 r6.2.2.2.2.1 r6.2.2.2.2.2
  else
   some (mk0 x1 x2 x3 x4)
def Fbz.l20_0.g {α : Type} (mk0 : LI → Int → LI → LI → α) (n : Nat) : Nat → Int → LI → Int → LI → LI → LI → Option α
 | 0, _, _, _, _, _, _ => none
 | m + 1, x0, x1, x2, x3, x4, x5 => Fbz.l20_0.r mk0 n (fun y0 y1 y2 y3 y4 y5 => Fbz.l20_0.g mk0 n m y0 y1 y2 y3 y4 y5)  x0 x1 x2 x3 x4 x5
def Fbz.l20_0.m (n m : Nat) (t : (Int × (LI × (Int × (LI × (LI × LI)))))) : Option (LI × (Int × (LI × LI))) := Fbz.l20_0.g (fun a0 a1 a2 a3 => (a0, a1, a2, a3)) n m t.1 t.2.1 t.2.2.1 t.2.2.2.1 t.2.2.2.2.1 t.2.2.2.2.2
def Fbz.l6v1_0.r {α : Type} (mk0 : LI → LI → Int → LI → LI → α) (n : Nat) (rc : Int → LI → LI → Int → LI → LI → Option α)  (x0 : Int) (x1 : LI) (x2 : LI) (x3 : Int) (x4 : LI) (x5 : LI) : Option α :=
  if (decide (x0 < 5)) = true then
   if 0 ≤ x0 then
    if x0 < (((List.length x5) : Nat) : Int) then
     if 0 ≤ (IntKind.wrap .i64 (5 + x0)) then
      if (IntKind.wrap .i64 (5 + x0)) < (((List.length x5) : Nat) : Int) then
       if 0 ≤ (IntKind.wrap .i64 (10 + x0)) then
        if (IntKind.wrap .i64 (10 + x0)) < (((List.length x5) : Nat) : Int) then
         if 0 ≤ (IntKind.wrap .i64 (15 + x0)) then
          if (IntKind.wrap .i64 (15 + x0)) < (((List.length x5) : Nat) : Int) then
           if 0 ≤ (IntKind.wrap .i64 (20 + x0)) then
            if (IntKind.wrap .i64 (20 + x0)) < (((List.length x5) : Nat) : Int) then
             if ((((List.length x4) + 1) * 8) ≤ 70368744177664 ∧ ((List.length x4) + 1) ≤ 9223372036854775807) then
              rc (IntKind.wrap .i64 (x0 + 1)) x1 x2 x3 (x4 ++ [(ibits BinOp.xor .u64 (ibits BinOp.xor .u64 (ibits BinOp.xor .u64 (ibits BinOp.xor .u64 (List.getD x5 (Int.toNat x0) 0) (List.getD x5 (Int.toNat (IntKind.wrap .i64 (5 + x0))) 0)) (List.getD x5 (Int.toNat (IntKind.wrap .i64 (10 + x0))) 0)) (List.getD x5 (Int.toNat (IntKind.wrap .i64 (15 + x0))) 0)) (List.getD x5 (Int.toNat (IntKind.wrap .i64 (20 + x0))) 0))]) x5
             else
              none
            else
             none
           else
            none
          else
           none
         else
          none
        else
         none
       else
        none
      else
       none
     else
      none
    else
     none
   else
    none
  else
   some (mk0 x1 x2 x3 x4 x5)
def Fbz.l6v1_0.g {α : Type} (mk0 : LI → LI → Int → LI → LI → α) (n : Nat) : Nat → Int → LI → LI → Int → LI → LI → Option α
 | 0, _, _, _, _, _, _ => none
 | m + 1, x0, x1, x2, x3, x4, x5 => Fbz.l6v1_0.r mk0 n (fun y0 y1 y2 y3 y4 y5 => Fbz.l6v1_0.g mk0 n m y0 y1 y2 y3 y4 y5)  x0 x1 x2 x3 x4 x5
def Fbz.l6v1_0.m (n m : Nat) (t : (Int × (LI × (LI × (Int × (LI × LI)))))) : Option (LI × (LI × (Int × (LI × LI)))) := Fbz.l6v1_0.g (fun a0 a1 a2 a3 a4 => (a0, a1, a2, a3, a4)) n m t.1 t.2.1 t.2.2.1 t.2.2.2.1 t.2.2.2.2.1 t.2.2.2.2.2
def Fbz.l15v1_0.r {α : Type} (mk0 : Int → LI → LI → Int → LI → LI → LI → α) (n : Nat) (rc : Int → Int → Int → LI → LI → Int → LI → LI → LI → Option α)  (x0 : Int) (x1 : Int) (x2 : Int) (x3 : LI) (x4 : LI) (x5 : Int) (x6 : LI) (x7 : LI) (x8 : LI) : Option α :=
  if (decide (x0 < 5)) = true then
   if 0 ≤ (IntKind.wrap .i64 ((IntKind.wrap .i64 (5 * x0)) + x1)) then
    if (IntKind.wrap .i64 ((IntKind.wrap .i64 (5 * x0)) + x1)) < (((List.length x7) : Nat) : Int) then
     if 0 ≤ (IntKind.wrap .i64 ((IntKind.wrap .i64 (5 * x0)) + x1)) then
      if (IntKind.wrap .i64 ((IntKind.wrap .i64 (5 * x0)) + x1)) < (((List.length x3) : Nat) : Int) then
       bindO (Fby.m n ((ibits BinOp.xor .u64 (List.getD x7 (Int.toNat (IntKind.wrap .i64 ((IntKind.wrap .i64 (5 * x0)) + x1))) 0) x2), (List.getD x3 (Int.toNat (IntKind.wrap .i64 ((IntKind.wrap .i64 (5 * x0)) + x1))) 0))) fun r14 =>
        if 0 ≤ (IntKind.wrap .i64 ((IntKind.wrap .i64 (5 * (Int.tmod (IntKind.wrap .i64 ((IntKind.wrap .i64 (2 * x1)) + (IntKind.wrap .i64 (3 * x0)))) 5))) + x0)) then
         if (IntKind.wrap .i64 ((IntKind.wrap .i64 (5 * (Int.tmod (IntKind.wrap .i64 ((IntKind.wrap .i64 (2 * x1)) + (IntKind.wrap .i64 (3 * x0)))) 5))) + x0)) < (((List.length x6) : Nat) : Int) then
          rc (IntKind.wrap .i64 (x0 + 1)) x1 x2 x3 x4 x5 (List.set x6 (Int.toNat (IntKind.wrap .i64 ((IntKind.wrap .i64 (5 * (Int.tmod (IntKind.wrap .i64 ((IntKind.wrap .i64 (2 * x1)) + (IntKind.wrap .i64 (3 * x0)))) 5))) + x0))) r14) x7 x8
         else
          none
        else
         none
      else
       none
     else
      none
    else
     none
   else
    none
  else
   some (mk0 x1 x3 x4 x5 x8 x6 x7)
def Fbz.l15v1_0.g {α : Type} (mk0 : Int → LI → LI → Int → LI → LI → LI → α) (n : Nat) : Nat → Int → Int → Int → LI → LI → Int → LI → LI → LI → Option α
 | 0, _, _, _, _, _, _, _, _, _ => none
 | m + 1, x0, x1, x2, x3, x4, x5, x6, x7, x8 => Fbz.l15v1_0.r mk0 n (fun y0 y1 y2 y3 y4 y5 y6 y7 y8 => Fbz.l15v1_0.g mk0 n m y0 y1 y2 y3 y4 y5 y6 y7 y8)  x0 x1 x2 x3 x4 x5 x6 x7 x8
def Fbz.l15v1_0.m (n m : Nat) (t : (Int × (Int × (Int × (LI × (LI × (Int × (LI × (LI × LI))))))))) : Option (Int × (LI × (LI × (Int × (LI × (LI × LI)))))) := Fbz.l15v1_0.g (fun a0 a1 a2 a3 a4 a5 a6 => (a0, a1, a2, a3, a4, a5, a6)) n m t.1 t.2.1 t.2.2.1 t.2.2.2.1 t.2.2.2.2.1 t.2.2.2.2.2.1 t.2.2.2.2.2.2.1 t.2.2.2.2.2.2.2.1 t.2.2.2.2.2.2.2.2
def Fbz.l11v1_0.r {α : Type} (mk0 : LI → Int → LI → LI → α) (n : Nat) (rc : Int → LI → LI → Int → LI → LI → LI → Option α)  (x0 : Int) (x1 : LI) (x2 : LI) (x3 : Int) (x4 : LI) (x5 : LI) (x6 : LI) : Option α :=
  if (decide (x0 < 5)) = true then
   if 0 ≤ (Int.tmod (IntKind.wrap .i64 (x0 + 4)) 5) then
    if (Int.tmod (IntKind.wrap .i64 (x0 + 4)) 5) < (((List.length x4) : Nat) : Int) then
     if 0 ≤ (Int.tmod (IntKind.wrap .i64 (x0 + 1)) 5) then
      if (Int.tmod (IntKind.wrap .i64 (x0 + 1)) 5) < (((List.length x4) : Nat) : Int) then
       bindO (Fby.m n ((List.getD x4 (Int.toNat (Int.tmod (IntKind.wrap .i64 (x0 + 1)) 5)) 0), 1)) fun r14 =>
        bindO (Fbz.l15v1_0.m n n (0, x0, (ibits BinOp.xor .u64 (List.getD x4 (Int.toNat (Int.tmod (IntKind.wrap .i64 (x0 + 4)) 5)) 0) r14), x1, x2, x3, x5, x6, x4)) fun r16 =>
         rc (IntKind.wrap .i64 (r16.1 + 1)) r16.2.1 r16.2.2.1 r16.2.2.2.1 r16.2.2.2.2.1 r16.2.2.2.2.2.1 r16.2.2.2.2.2.2
      else
       none
     else
      none
    else
     none
   else
    none
  else
   some (mk0 x2 x3 x1 x5)
def Fbz.l11v1_0.g {α : Type} (mk0 : LI → Int → LI → LI → α) (n : Nat) : Nat → Int → LI → LI → Int → LI → LI → LI → Option α
 | 0, _, _, _, _, _, _, _ => none
 | m + 1, x0, x1, x2, x3, x4, x5, x6 => Fbz.l11v1_0.r mk0 n (fun y0 y1 y2 y3 y4 y5 y6 => Fbz.l11v1_0.g mk0 n m y0 y1 y2 y3 y4 y5 y6)  x0 x1 x2 x3 x4 x5 x6
def Fbz.l11v1_0.m (n m : Nat) (t : (Int × (LI × (LI × (Int × (LI × (LI × LI))))))) : Option (LI × (Int × (LI × LI))) := Fbz.l11v1_0.g (fun a0 a1 a2 a3 => (a0, a1, a2, a3)) n m t.1 t.2.1 t.2.2.1 t.2.2.2.1 t.2.2.2.2.1 t.2.2.2.2.2.1 t.2.2.2.2.2.2
def Fbz.l2_1.r {α : Type} (mk0 : LI → α) (mk1 : LI → α) (n : Nat) (rc : Int → LI → LI → LI → Option α)  (x0 : Int) (x1 : LI) (x2 : LI) (x3 : LI) : Option α :=
  if (decide (x0 < 24)) = true then
   bindO (Fbz.l6v1_0.m n n (0, x1, x2, x0, [], x3)) fun r6 =>
    bindO (Fbz.l11v1_0.m n n (0, r6.1, r6.2.1, r6.2.2.1, r6.2.2.2.1, ([0, 0, 0, 0, 0, 0, 0, 0, 0, 0, 0, 0, 0, 0, 0, 0, 0, 0, 0, 0, 0, 0, 0, 0, 0] : List Int), r6.2.2.2.2)) fun r8 =>
     bindO (Fbz.l20_0.m n n (0, r8.1, r8.2.1, r8.2.2.1, [], r8.2.2.2)) fun r10 =>
      if 0 < (((List.length r10.2.2.2) : Nat) : Int) then
       if 0 ≤ r10.2.1 then
        if r10.2.1 < (((List.length r10.1) : Nat) : Int) then
         if 0 < (((List.length r10.2.2.2) : Nat) : Int) then
          rc (IntKind.wrap .i64 (r10.2.1 + 1)) r10.2.2.1 r10.1 (List.set r10.2.2.2 0 (ibits BinOp.xor .u64 (List.getD r10.2.2.2 0 0) (List.getD r10.1 (Int.toNat r10.2.1) 0)))
         else
          none
        else
         none
       else
        none
      else
       none
  else
   some (mk0 x3)
def Fbz.l2_1.g {α : Type} (mk0 : LI → α) (mk1 : LI → α) (n : Nat) : Nat → Int → LI → LI → LI → Option α
 | 0, _, _, _, _ => none
 | m + 1, x0, x1, x2, x3 => Fbz.l2_1.r mk0 mk1 n (fun y0 y1 y2 y3 => Fbz.l2_1.g mk0 mk1 n m y0 y1 y2 y3)  x0 x1 x2 x3
def Fbz.l2_0.r {α : Type} (mk0 : LI → α) (mk1 : LI → α) (n : Nat) (rc : Int → LI → LI → LI → Option α) (rc0 : Int → LI → LI → LI → Option α) (x0 : Int) (x1 : LI) (x2 : LI) (x3 : LI) : Option α :=
  if (decide (x0 < 24)) = true then
   bindO (Fbz.l6_0.m n n (0, x1, x2, x3, x0, [])) fun r6 =>
    bindO (Fbz.l11_0.m n n (0, r6.1, r6.2.1, r6.2.2.1, r6.2.2.2.1, r6.2.2.2.2, ([0, 0, 0, 0, 0, 0, 0, 0, 0, 0, 0, 0, 0, 0, 0, 0, 0, 0, 0, 0, 0, 0, 0, 0, 0] : List Int))) fun r8 =>
     bindO (Fbz.l20_0.m n n (0, r8.1, r8.2.1, r8.2.2.1, [], r8.2.2.2)) fun r10 =>
      if 0 < (((List.length r10.2.2.2) : Nat) : Int) then
       if 0 ≤ r10.2.1 then
        if r10.2.1 < (((List.length r10.1) : Nat) : Int) then
         if 0 < (((List.length r10.2.2.2) : Nat) : Int) then
          rc0 (IntKind.wrap .i64 (r10.2.1 + 1)) r10.2.2.1 r10.1 (List.set r10.2.2.2 0 (ibits BinOp.xor .u64 (List.getD r10.2.2.2 0 0) (List.getD r10.1 (Int.toNat r10.2.1) 0)))
         else
          none
        else
         none
       else
        none
      else
       none
  else
   some (mk1 x1)
def Fbz.l2_0.g {α : Type} (mk0 : LI → α) (mk1 : LI → α) (n : Nat) : Nat → Int → LI → LI → LI → Option α
 | 0, _, _, _, _ => none
 | m + 1, x0, x1, x2, x3 => Fbz.l2_0.r mk0 mk1 n (fun y0 y1 y2 y3 => Fbz.l2_0.g mk0 mk1 n m y0 y1 y2 y3) (fun y0 y1 y2 y3 => Fbz.l2_1.g mk0 mk1 n m y0 y1 y2 y3) x0 x1 x2 x3
def Fbz.l2_0.m (n m : Nat) (t : (Int × (LI × (LI × LI)))) : Option (LI ⊕ LI) := Fbz.l2_0.g (fun a0 => (.inl a0)) (fun a0 => (.inr a0)) n m t.1 t.2.1 t.2.2.1 t.2.2.2
def Fbz.g {α : Type} (mk0 : LI → α) (mk1 : LI → α) (n : Nat) (a0 : LI) (a1 : LI) (a2 : LI) : Option α :=
 bindO (Fbz.l2_0.m n n (0, a0, a1, a2)) fun r2 => match r2 with
  | (.inl r2) =>
   some (mk0 r2)
  | (.inr r2) =>
   some (mk1 r2)
def Fbz.m (n : Nat) (t : (LI × (LI × LI))) : Option (LI ⊕ LI) := Fbz.g (fun a0 => (.inl a0)) (fun a0 => (.inr a0)) n t.1 t.2.1 t.2.2
end
end
section
noncomputable section
def Fat.l2_0.r {α : Type} (mk0 : LI → α) (n : Nat) (rc : LI → Option α)  (x0 : LI) : Option α :=
  if (decide ((((List.length x0) : Nat) : Int) < 25)) = true then
   if ((((List.length x0) + 1) * 8) ≤ 70368744177664 ∧ ((List.length x0) + 1) ≤ 9223372036854775807) then
    rc (x0 ++ [0])
   else
    none
  else
   some (mk0 x0)
def Fat.l2_0.g {α : Type} (mk0 : LI → α) (n : Nat) : Nat → LI → Option α
 | 0, _ => none
 | m + 1, x0 => Fat.l2_0.r mk0 n (fun y0 => Fat.l2_0.g mk0 n m y0)  x0
def Fat.l2_0.m (n m : Nat) (t : LI) : Option LI := Fat.l2_0.g (fun a0 => a0) n m t
def Fat.l7_0.r {α : Type} (mk0 : LI → α) (n : Nat) (rc : Int → Int → Int → LI → Option α)  (x0 : Int) (x1 : Int) (x2 : Int) (x3 : LI) : Option α :=
  if (decide (x0 < 24)) = true then
   if 0 ≤ (IntKind.wrap .i64 ((IntKind.wrap .i64 (5 * x1)) + x2)) then
    if (IntKind.wrap .i64 ((IntKind.wrap .i64 (5 * x1)) + x2)) < (((List.length x3) : Nat) : Int) then
     rc (IntKind.wrap .i64 (x0 + 1)) (Int.tmod (IntKind.wrap .i64 ((IntKind.wrap .i64 (2 * x2)) + (IntKind.wrap .i64 (3 * x1)))) 5) x1 (List.set x3 (Int.toNat (IntKind.wrap .i64 ((IntKind.wrap .i64 (5 * x1)) + x2))) (Int.tmod (IntKind.wrap .i64 (Int.tdiv (IntKind.wrap .i64 ((IntKind.wrap .i64 (x0 + 1)) * (IntKind.wrap .i64 (x0 + 2)))) 2)) 64))
    else
     none
   else
    none
  else
   some (mk0 x3)
def Fat.l7_0.g {α : Type} (mk0 : LI → α) (n : Nat) : Nat → Int → Int → Int → LI → Option α
 | 0, _, _, _, _ => none
 | m + 1, x0, x1, x2, x3 => Fat.l7_0.r mk0 n (fun y0 y1 y2 y3 => Fat.l7_0.g mk0 n m y0 y1 y2 y3)  x0 x1 x2 x3
def Fat.l7_0.m (n m : Nat) (t : (Int × (Int × (Int × LI)))) : Option LI := Fat.l7_0.g (fun a0 => a0) n m t.1 t.2.1 t.2.2.1 t.2.2.2
def Fat.g {α : Type} (mk0 : LI → α) (n : Nat)  : Option α :=
 bindO (Fat.l2_0.m n n [0]) fun r2 =>
  bindO (Fat.l7_0.m n n (0, 0, 1, r2)) fun r4 =>
   some (mk0 r4)
def Fat.m (n : Nat) (t : Unit) : Option LI := Fat.g (fun a0 => a0) n 
end
end
section
noncomputable section
def Fbe.l9_0.r {α : Type} (mk0 : Int → Int → Int → LI → α) (n : Nat) (rc : Int → Int → Int → Int → Int → LI → Option α)  (x0 : Int) (x1 : Int) (x2 : Int) (x3 : Int) (x4 : Int) (x5 : LI) : Option α :=
  if (decide (x0 < 7)) = true then
   if ((Int.tmod x1 2) == 1) = true then
    if 0 ≤ (IntKind.wrap .u64 (IntKind.wrap .i64 (x3 - 1))) then
     if (decide ((IntKind.wrap .i64 (2 * x1)) ≥ 256)) = true then
      rc (IntKind.wrap .i64 (x0 + 1)) (ibits BinOp.xor .i64 (IntKind.wrap .i64 (2 * x1)) 369) (ibits BinOp.or .u64 x2 (ishl .u64 1 (IntKind.wrap .u64 (IntKind.wrap .i64 (x3 - 1))))) (IntKind.wrap .i64 (2 * x3)) x4 x5
     else
      rc (IntKind.wrap .i64 (x0 + 1)) (IntKind.wrap .i64 (2 * x1)) (ibits BinOp.or .u64 x2 (ishl .u64 1 (IntKind.wrap .u64 (IntKind.wrap .i64 (x3 - 1))))) (IntKind.wrap .i64 (2 * x3)) x4 x5
    else
     none
   else
    if (decide ((IntKind.wrap .i64 (2 * x1)) ≥ 256)) = true then
     rc (IntKind.wrap .i64 (x0 + 1)) (ibits BinOp.xor .i64 (IntKind.wrap .i64 (2 * x1)) 369) x2 (IntKind.wrap .i64 (2 * x3)) x4 x5
    else
     rc (IntKind.wrap .i64 (x0 + 1)) (IntKind.wrap .i64 (2 * x1)) x2 (IntKind.wrap .i64 (2 * x3)) x4 x5
  else
   some (mk0 x2 x4 x1 x5)
def Fbe.l9_0.g {α : Type} (mk0 : Int → Int → Int → LI → α) (n : Nat) : Nat → Int → Int → Int → Int → Int → LI → Option α
 | 0, _, _, _, _, _, _ => none
 | m + 1, x0, x1, x2, x3, x4, x5 => Fbe.l9_0.r mk0 n (fun y0 y1 y2 y3 y4 y5 => Fbe.l9_0.g mk0 n m y0 y1 y2 y3 y4 y5)  x0 x1 x2 x3 x4 x5
def Fbe.l9_0.m (n m : Nat) (t : (Int × (Int × (Int × (Int × (Int × LI)))))) : Option (Int × (Int × (Int × LI))) := Fbe.l9_0.g (fun a0 a1 a2 a3 => (a0, a1, a2, a3)) n m t.1 t.2.1 t.2.2.1 t.2.2.2.1 t.2.2.2.2.1 t.2.2.2.2.2
def Fbe.l4_0.r {α : Type} (mk0 : LI → α) (n : Nat) (rc : Int → Int → LI → Option α)  (x0 : Int) (x1 : Int) (x2 : LI) : Option α :=
  if (decide (x0 < 24)) = true then
   bindO (Fbe.l9_0.m n n (0, x1, 0, 1, x0, x2)) fun r6 =>
    if ((((List.length r6.2.2.2) + 1) * 8) ≤ 70368744177664 ∧ ((List.length r6.2.2.2) + 1) ≤ 9223372036854775807) then
     rc (IntKind.wrap .i64 (r6.2.1 + 1)) r6.2.2.1 (r6.2.2.2 ++ [r6.1])
    else
     none
  else
   some (mk0 x2)
def Fbe.l4_0.g {α : Type} (mk0 : LI → α) (n : Nat) : Nat → Int → Int → LI → Option α
 | 0, _, _, _ => none
 | m + 1, x0, x1, x2 => Fbe.l4_0.r mk0 n (fun y0 y1 y2 => Fbe.l4_0.g mk0 n m y0 y1 y2)  x0 x1 x2
def Fbe.l4_0.m (n m : Nat) (t : (Int × (Int × LI))) : Option LI := Fbe.l4_0.g (fun a0 => a0) n m t.1 t.2.1 t.2.2
def Fbe.g {α : Type} (mk0 : LI → α) (n : Nat)  : Option α :=
 bindO (Fbe.l4_0.m n n (0, 1, [])) fun r2 =>
  some (mk0 r2)
def Fbe.m (n : Nat) (t : Unit) : Option LI := Fbe.g (fun a0 => a0) n 
end
end
section
noncomputable section
noncomputable def Ff.C (n : Nat) : Ctx := ⟨Tryd.prog, abiG, lookC [(111, Fh.c n)], fun _ => false⟩
def Ff.live : NL := fun k => match k with
 | 1 => ([8, 7, 6, 0], [0])
 | _ => ([], [])
def Ff.l1_0.r {α : Type} (mk0 : LI → α) (n : Nat) (rc : Int → Int → LI → LI → Option α)  (x0 : Int) (x1 : Int) (x2 : LI) (x3 : LI) : Option α :=
  if (decide (x0 < x1)) = true then
   if 0 ≤ x0 then
    if x0 < (((List.length x2) : Nat) : Int) then
     if 0 ≤ (IntKind.wrap .i64 (Int.tdiv x0 8)) then
      if (IntKind.wrap .i64 (Int.tdiv x0 8)) < 25 then
       if 0 ≤ (IntKind.wrap .i64 ((Int.tmod x0 8) * 8)) then
        if 0 ≤ (IntKind.wrap .i64 (Int.tdiv x0 8)) then
         if (IntKind.wrap .i64 (Int.tdiv x0 8)) < 25 then
          rc (IntKind.wrap .i64 (x0 + 1)) x1 x2 (List.set x3 (Int.toNat (IntKind.wrap .i64 (Int.tdiv x0 8))) (ibits BinOp.xor .u64 (List.getD x3 (Int.toNat (IntKind.wrap .i64 (Int.tdiv x0 8))) 0) (ishl .u64 (IntKind.wrap .u64 (List.getD x2 (Int.toNat x0) 0)) (IntKind.wrap .i64 ((Int.tmod x0 8) * 8)))))
         else
          none
        else
         none
       else
        none
      else
       none
     else
      none
    else
     none
   else
    none
  else
   some (mk0 x3)
def Ff.l1_0.g {α : Type} (mk0 : LI → α) (n : Nat) : Nat → Int → Int → LI → LI → Option α
 | 0, _, _, _, _ => none
 | m + 1, x0, x1, x2, x3 => Ff.l1_0.r mk0 n (fun y0 y1 y2 y3 => Ff.l1_0.g mk0 n m y0 y1 y2 y3)  x0 x1 x2 x3
def Ff.l1_0.m (n m : Nat) (t : (Int × (Int × (LI × LI)))) : Option LI := Ff.l1_0.g (fun a0 => a0) n m t.1 t.2.1 t.2.2.1 t.2.2.2
def Ff.l1_0.pat : St → Option (Int × (Int × (LI × LI)))
 | (St.mk [(.int .i64 x0), (.int .i64 x1), (.rints .u8 x2), (.ptr 0 [])] [(some (.var (.ints .u64 25 x3)))]) => some (x0, x1, x2, x3)
 | _ => none
def Ff.l1_0.shape (t : (Int × (Int × (LI × LI)))) : St := (St.mk [(.int .i64 t.1), (.int .i64 t.2.1), (.rints .u8 t.2.2.1), (.ptr 0 [])] [(some (.var (.ints .u64 25 t.2.2.2)))])
def Ff.l1_0.res : LI → Ex × St
 | u => ((.exit 0), (St.mk [(.ptr 0 [])] [(some (.var (.ints .u64 25 u)))]))
def Ff.l1_0.resK {R : Type} (u : LI) (K : Ex → St → Option R) : Option R := K (Ff.l1_0.res u).1 (Ff.l1_0.res u).2
noncomputable def Ff.A (n : Nat) : Ann := ⟨Tryd.f93.ntmps, 1, Ff.live, [(6, (.ints .u8))], [], fun k => match k with
 | 1 => some (.mk' Ff.l1_0.pat (Ff.l1_0.m n n) Ff.l1_0.resK)
 | _ => none, noNL, lookJ []⟩
noncomputable def Ff.b0 : Code := (loopsIn (Tryd.f93.body.getD .skip)).getD 0 .skip
def Ff.g {α : Type} (mk0 : LI → α) (n : Nat) (b : LI) (s : LI) : Option α :=
 bindO (Ff.l1_0.m n n (0, (((List.length b) : Nat) : Int), b, s)) fun r2 =>
  bindO (Fh.m n r2) fun r4 =>
   some (mk0 r4)
def Ff.m (n : Nat) (t : (LI × LI)) : Option LI := Ff.g (fun a0 => a0) n t.1 t.2
def Ff.pat : List AV → Blks → Option (LI × LI)
 | [(.ptr 0 []), (.rints .u8 b)], [(some (.var (.ints .u64 25 s)))] => some (b, s)
 | _, _ => none
def Ff.shape (t : (LI × LI)) : List AV × Blks := ([(.ptr 0 []), (.rints .u8 t.1)], [(some (.var (.ints .u64 25 t.2)))])
def Ff.res : LI → AV × Blks
 | u => ((.tup []), [(some (.var (.ints .u64 25 u)))])
def Ff.resK {R : Type} (u : LI) (K : AV → Blks → Option R) : Option R := K (Ff.res u).1 (Ff.res u).2
def Ff.c (n : Nat) : Abs.Callee := .mk' [true, false] [none, (some (.ints .u8))] Ff.pat (Ff.m n) Ff.resK
end
end
section
noncomputable section
noncomputable def Fau.C (n : Nat) : Ctx := ⟨Tryd.prog, abiG, lookC [], fun _ => false⟩
def Fau.live : NL := fun k => match k with
 | 4 => ([13, 12, 3, 0, 2], [3, 2])
 | _ => ([], [])
def Fau.l4_0.r {α : Type} (mk0 : LI → LI → α) (n : Nat) (rc : Int → Int → LI → LI → LI → Option α)  (x0 : Int) (x1 : Int) (x2 : LI) (x3 : LI) (x4 : LI) : Option α :=
  if (decide (x0 < x1)) = true then
   if 0 ≤ (IntKind.wrap .i64 (Int.tdiv x0 8)) then
    if (IntKind.wrap .i64 (Int.tdiv x0 8)) < 4 then
     if 0 ≤ (IntKind.wrap .i64 ((IntKind.wrap .i64 ((((List.length x2) : Nat) : Int) - 1)) - x0)) then
      if (IntKind.wrap .i64 ((IntKind.wrap .i64 ((((List.length x2) : Nat) : Int) - 1)) - x0)) < (((List.length x2) : Nat) : Int) then
       if 0 ≤ (IntKind.wrap .i64 ((Int.tmod x0 8) * 8)) then
        if 0 ≤ (IntKind.wrap .i64 (Int.tdiv x0 8)) then
         if (IntKind.wrap .i64 (Int.tdiv x0 8)) < 4 then
          rc (IntKind.wrap .i64 (x0 + 1)) x1 x2 (List.set x3 (Int.toNat (IntKind.wrap .i64 (Int.tdiv x0 8))) (ibits BinOp.or .u64 (List.getD x3 (Int.toNat (IntKind.wrap .i64 (Int.tdiv x0 8))) 0) (ishl .u64 (IntKind.wrap .u64 (List.getD x2 (Int.toNat (IntKind.wrap .i64 ((IntKind.wrap .i64 ((((List.length x2) : Nat) : Int) - 1)) - x0))) 0)) (IntKind.wrap .i64 ((Int.tmod x0 8) * 8))))) x4
         else
          none
        else
         none
       else
        none
      else
       none
     else
      none
    else
     none
   else
    none
  else
   some (mk0 x3 x4)
def Fau.l4_0.g {α : Type} (mk0 : LI → LI → α) (n : Nat) : Nat → Int → Int → LI → LI → LI → Option α
 | 0, _, _, _, _, _ => none
 | m + 1, x0, x1, x2, x3, x4 => Fau.l4_0.r mk0 n (fun y0 y1 y2 y3 y4 => Fau.l4_0.g mk0 n m y0 y1 y2 y3 y4)  x0 x1 x2 x3 x4
def Fau.l4_0.m (n m : Nat) (t : (Int × (Int × (LI × (LI × LI))))) : Option (LI × LI) := Fau.l4_0.g (fun a0 a1 => (a0, a1)) n m t.1 t.2.1 t.2.2.1 t.2.2.2.1 t.2.2.2.2
def Fau.l4_0.pat : St → Option (Int × (Int × (LI × (LI × LI))))
 | (St.mk [(.int .i64 x0), (.int .i64 x1), (.ptr 0 []), (.rints .u8 x2), (.ptr 1 [])] [(some (.var (.ints .u64 4 x3))), (some (.var (.ints .u64 4 x4)))]) => some (x0, x1, x2, x3, x4)
 | _ => none
def Fau.l4_0.shape (t : (Int × (Int × (LI × (LI × LI))))) : St := (St.mk [(.int .i64 t.1), (.int .i64 t.2.1), (.ptr 0 []), (.rints .u8 t.2.2.1), (.ptr 1 [])] [(some (.var (.ints .u64 4 t.2.2.2.1))), (some (.var (.ints .u64 4 t.2.2.2.2)))])
def Fau.l4_0.res : (LI × LI) → Ex × St
 | u => ((.exit 0), (St.mk [(.ptr 0 []), (.ptr 1 [])] [(some (.var (.ints .u64 4 u.1))), (some (.var (.ints .u64 4 u.2)))]))
def Fau.l4_0.resK {R : Type} (u : (LI × LI)) (K : Ex → St → Option R) : Option R := K (Fau.l4_0.res u).1 (Fau.l4_0.res u).2
noncomputable def Fau.A (n : Nat) : Ann := ⟨Tryd.f89.ntmps, 0, Fau.live, [(0, (.ints .u8))], [none], fun k => match k with
 | 4 => some (.mk' Fau.l4_0.pat (Fau.l4_0.m n n) Fau.l4_0.resK)
 | _ => none, noNL, lookJ []⟩
noncomputable def Fau.b0 : Code := (loopsIn (Tryd.f89.body.getD .skip)).getD 0 .skip
def Fau.g {α : Type} (mk0 : LI → α) (n : Nat) (a0 : LI) : Option α :=
 if 0 ≤ (if 0 > (IntKind.wrap .i64 ((((List.length a0) : Nat) : Int) - 32)) then 0 else (IntKind.wrap .i64 ((((List.length a0) : Nat) : Int) - 32))) then
  if (if 0 > (IntKind.wrap .i64 ((((List.length a0) : Nat) : Int) - 32)) then 0 else (IntKind.wrap .i64 ((((List.length a0) : Nat) : Int) - 32))) ≤ (((List.length a0) : Nat) : Int) then
   bindO (Fau.l4_0.m n n (0, (((List.length (Go.Abs.cut a0 (Int.toNat (if 0 > (IntKind.wrap .i64 ((((List.length a0) : Nat) : Int) - 32)) then 0 else (IntKind.wrap .i64 ((((List.length a0) : Nat) : Int) - 32)))) (Option.none))) : Nat) : Int), (Go.Abs.cut a0 (Int.toNat (if 0 > (IntKind.wrap .i64 ((((List.length a0) : Nat) : Int) - 32)) then 0 else (IntKind.wrap .i64 ((((List.length a0) : Nat) : Int) - 32)))) (Option.none)), [0, 0, 0, 0], [0, 0, 0, 0])) fun r6 =>
    some (mk0 r6.1)
  else
   none
 else
  none
def Fau.m (n : Nat) (t : LI) : Option LI := Fau.g (fun a0 => a0) n t
def Fau.pat : List AV → Blks → Option LI
 | [(.rints .u8 a0)], [] => some a0
 | _, _ => none
def Fau.shape (t : LI) : List AV × Blks := ([(.rints .u8 t)], [])
def Fau.res : LI → AV × Blks
 | u => ((.ints .u64 4 u), [])
def Fau.resK {R : Type} (u : LI) (K : AV → Blks → Option R) : Option R := K (Fau.res u).1 (Fau.res u).2
def Fau.c (n : Nat) : Abs.Callee := .mk' [] [(some (.ints .u8))] Fau.pat (Fau.m n) Fau.resK
end
end
section
noncomputable section
noncomputable def Fad.C (n : Nat) : Ctx := ⟨Tryd.prog, abiG, lookC [(93, Ff.c n), (89, Fau.c n)], fun _ => false⟩
def Fad.live : NL := fun k => match k with
 | 2 => ([0, 3, 2], [0, 3, 2])
 | 12 => ([30, 3, 5, 2], [5, 2])
 | _ => ([], [])
def Fad.l2_0.r {α : Type} (mk0 : LI → LI → LI → α) (n : Nat) (rc : LI → LI → LI → Option α)  (x0 : LI) (x1 : LI) (x2 : LI) : Option α :=
  if (decide ((((List.length x0) : Nat) : Int) ≥ 136)) = true then
   if 136 ≤ (((List.length x0) : Nat) : Int) then
    bindO (Ff.m n ((Go.Abs.cut x0 0 (Option.some 136)), x1)) fun r8 =>
     if 136 ≤ (((List.length x0) : Nat) : Int) then
      rc (Go.Abs.cut x0 136 (Option.none)) r8 x2
     else
      none
   else
    none
  else
   some (mk0 x0 x1 x2)
def Fad.l2_0.g {α : Type} (mk0 : LI → LI → LI → α) (n : Nat) : Nat → LI → LI → LI → Option α
 | 0, _, _, _ => none
 | m + 1, x0, x1, x2 => Fad.l2_0.r mk0 n (fun y0 y1 y2 => Fad.l2_0.g mk0 n m y0 y1 y2)  x0 x1 x2
def Fad.l2_0.m (n m : Nat) (t : (LI × (LI × LI))) : Option (LI × (LI × LI)) := Fad.l2_0.g (fun a0 a1 a2 => (a0, a1, a2)) n m t.1 t.2.1 t.2.2
def Fad.l2_0.pat : St → Option (LI × (LI × LI))
 | (St.mk [(.rints .u8 x0), (.ptr 0 []), (.ptr 1 [])] [(some (.var (.ints .u64 25 x1))), (some (.var (.ints .u64 4 x2)))]) => some (x0, x1, x2)
 | _ => none
def Fad.l2_0.shape (t : (LI × (LI × LI))) : St := (St.mk [(.rints .u8 t.1), (.ptr 0 []), (.ptr 1 [])] [(some (.var (.ints .u64 25 t.2.1))), (some (.var (.ints .u64 4 t.2.2)))])
def Fad.l2_0.res : (LI × (LI × LI)) → Ex × St
 | u => ((.exit 0), (St.mk [(.rints .u8 u.1), (.ptr 0 []), (.ptr 1 [])] [(some (.var (.ints .u64 25 u.2.1))), (some (.var (.ints .u64 4 u.2.2)))]))
def Fad.l2_0.resK {R : Type} (u : (LI × (LI × LI))) (K : Ex → St → Option R) : Option R := K (Fad.l2_0.res u).1 (Fad.l2_0.res u).2
def Fad.l12_0.r {α : Type} (mk0 : LI → LI → α) (n : Nat) (rc : Int → LI → LI → LI → Option α)  (x0 : Int) (x1 : LI) (x2 : LI) (x3 : LI) : Option α :=
  if (decide (x0 < 32)) = true then
   if 0 ≤ (IntKind.wrap .i64 (Int.tdiv x0 8)) then
    if (IntKind.wrap .i64 (Int.tdiv x0 8)) < 25 then
     if 0 ≤ (IntKind.wrap .i64 ((Int.tmod x0 8) * 8)) then
      if 0 ≤ x0 then
       if x0 < 32 then
        rc (IntKind.wrap .i64 (x0 + 1)) x1 (List.set x2 (Int.toNat x0) (IntKind.wrap .u8 (ishr .u64 (List.getD x1 (Int.toNat (IntKind.wrap .i64 (Int.tdiv x0 8))) 0) (IntKind.wrap .i64 ((Int.tmod x0 8) * 8))))) x3
       else
        none
      else
       none
     else
      none
    else
     none
   else
    none
  else
   some (mk0 x2 x3)
def Fad.l12_0.g {α : Type} (mk0 : LI → LI → α) (n : Nat) : Nat → Int → LI → LI → LI → Option α
 | 0, _, _, _, _ => none
 | m + 1, x0, x1, x2, x3 => Fad.l12_0.r mk0 n (fun y0 y1 y2 y3 => Fad.l12_0.g mk0 n m y0 y1 y2 y3)  x0 x1 x2 x3
def Fad.l12_0.m (n m : Nat) (t : (Int × (LI × (LI × LI)))) : Option (LI × LI) := Fad.l12_0.g (fun a0 a1 => (a0, a1)) n m t.1 t.2.1 t.2.2.1 t.2.2.2
def Fad.l12_0.pat : St → Option (Int × (LI × (LI × LI)))
 | (St.mk [(.int .i64 x0), (.ptr 0 []), (.ptr 1 []), (.ptr 2 [])] [(some (.var (.ints .u64 25 x1))), (some (.var (.ints .u8 32 x2))), (some (.var (.ints .u64 4 x3)))]) => some (x0, x1, x2, x3)
 | _ => none
def Fad.l12_0.shape (t : (Int × (LI × (LI × LI)))) : St := (St.mk [(.int .i64 t.1), (.ptr 0 []), (.ptr 1 []), (.ptr 2 [])] [(some (.var (.ints .u64 25 t.2.1))), (some (.var (.ints .u8 32 t.2.2.1))), (some (.var (.ints .u64 4 t.2.2.2)))])
def Fad.l12_0.res : (LI × LI) → Ex × St
 | u => ((.exit 2), (St.mk [(.ptr 0 []), (.ptr 1 [])] [(some (.var (.ints .u8 32 u.1))), (some (.var (.ints .u64 4 u.2)))]))
def Fad.l12_0.resK {R : Type} (u : (LI × LI)) (K : Ex → St → Option R) : Option R := K (Fad.l12_0.res u).1 (Fad.l12_0.res u).2
noncomputable def Fad.A (n : Nat) : Ann := ⟨Tryd.f57.ntmps, 0, Fad.live, [(0, (.ints .u8))], [none], fun k => match k with
 | 2 => some (.mk' Fad.l2_0.pat (Fad.l2_0.m n n) Fad.l2_0.resK)
 | 12 => some (.mk' Fad.l12_0.pat (Fad.l12_0.m n n) Fad.l12_0.resK)
 | _ => none, noNL, lookJ []⟩
noncomputable def Fad.b0 : Code := (loopsIn (Tryd.f57.body.getD .skip)).getD 0 .skip
noncomputable def Fad.b1 : Code := (loopsIn (Tryd.f57.body.getD .skip)).getD 1 .skip
def Fad.g {α : Type} (mk0 : LI → α) (n : Nat) (a0 : LI) : Option α :=
 bindO (Fad.l2_0.m n n (a0, ([0, 0, 0, 0, 0, 0, 0, 0, 0, 0, 0, 0, 0, 0, 0, 0, 0, 0, 0, 0, 0, 0, 0, 0, 0] : List Int), [0, 0, 0, 0])) fun r2 =>
  if (((List.length r2.1) : Nat) : Int) < 136 then
   if (((List.length r2.1) : Nat) : Int) < 136 then
    bindO (Ff.m n ((List.take 136 (List.drop 0 (List.set (List.set ([] ++ ((List.take 136 r2.1) ++ (List.drop (0 + (Min.min (List.length r2.1) 136)) ([0, 0, 0, 0, 0, 0, 0, 0, 0, 0, 0, 0, 0, 0, 0, 0, 0, 0, 0, 0, 0, 0, 0, 0, 0, 0, 0, 0, 0, 0, 0, 0, 0, 0, 0, 0, 0, 0, 0, 0, 0, 0, 0, 0, 0, 0, 0, 0, 0, 0, 0, 0, 0, 0, 0, 0, 0, 0, 0, 0, 0, 0, 0, 0, 0, 0, 0, 0, 0, 0, 0, 0, 0, 0, 0, 0, 0, 0, 0, 0, 0, 0, 0, 0, 0, 0, 0, 0, 0, 0, 0, 0, 0, 0, 0, 0, 0, 0, 0, 0, 0, 0, 0, 0, 0, 0, 0, 0, 0, 0, 0, 0, 0, 0, 0, 0, 0, 0, 0, 0, 0, 0, 0, 0, 0, 0, 0, 0, 0, 0, 0, 0, 0, 0, 0, 0] : List Int)))) (Int.toNat (((List.length r2.1) : Nat) : Int)) (ibits BinOp.xor .u8 (List.getD ([] ++ ((List.take 136 r2.1) ++ (List.drop (0 + (Min.min (List.length r2.1) 136)) ([0, 0, 0, 0, 0, 0, 0, 0, 0, 0, 0, 0, 0, 0, 0, 0, 0, 0, 0, 0, 0, 0, 0, 0, 0, 0, 0, 0, 0, 0, 0, 0, 0, 0, 0, 0, 0, 0, 0, 0, 0, 0, 0, 0, 0, 0, 0, 0, 0, 0, 0, 0, 0, 0, 0, 0, 0, 0, 0, 0, 0, 0, 0, 0, 0, 0, 0, 0, 0, 0, 0, 0, 0, 0, 0, 0, 0, 0, 0, 0, 0, 0, 0, 0, 0, 0, 0, 0, 0, 0, 0, 0, 0, 0, 0, 0, 0, 0, 0, 0, 0, 0, 0, 0, 0, 0, 0, 0, 0, 0, 0, 0, 0, 0, 0, 0, 0, 0, 0, 0, 0, 0, 0, 0, 0, 0, 0, 0, 0, 0, 0, 0, 0, 0, 0, 0] : List Int)))) (Int.toNat (((List.length r2.1) : Nat) : Int)) 0) 1)) 135 (ibits BinOp.xor .u8 (List.getD (List.set ([] ++ ((List.take 136 r2.1) ++ (List.drop (0 + (Min.min (List.length r2.1) 136)) ([0, 0, 0, 0, 0, 0, 0, 0, 0, 0, 0, 0, 0, 0, 0, 0, 0, 0, 0, 0, 0, 0, 0, 0, 0, 0, 0, 0, 0, 0, 0, 0, 0, 0, 0, 0, 0, 0, 0, 0, 0, 0, 0, 0, 0, 0, 0, 0, 0, 0, 0, 0, 0, 0, 0, 0, 0, 0, 0, 0, 0, 0, 0, 0, 0, 0, 0, 0, 0, 0, 0, 0, 0, 0, 0, 0, 0, 0, 0, 0, 0, 0, 0, 0, 0, 0, 0, 0, 0, 0, 0, 0, 0, 0, 0, 0, 0, 0, 0, 0, 0, 0, 0, 0, 0, 0, 0, 0, 0, 0, 0, 0, 0, 0, 0, 0, 0, 0, 0, 0, 0, 0, 0, 0, 0, 0, 0, 0, 0, 0, 0, 0, 0, 0, 0, 0] : List Int)))) (Int.toNat (((List.length r2.1) : Nat) : Int)) (ibits BinOp.xor .u8 (List.getD ([] ++ ((List.take 136 r2.1) ++ (List.drop (0 + (Min.min (List.length r2.1) 136)) ([0, 0, 0, 0, 0, 0, 0, 0, 0, 0, 0, 0, 0, 0, 0, 0, 0, 0, 0, 0, 0, 0, 0, 0, 0, 0, 0, 0, 0, 0, 0, 0, 0, 0, 0, 0, 0, 0, 0, 0, 0, 0, 0, 0, 0, 0, 0, 0, 0, 0, 0, 0, 0, 0, 0, 0, 0, 0, 0, 0, 0, 0, 0, 0, 0, 0, 0, 0, 0, 0, 0, 0, 0, 0, 0, 0, 0, 0, 0, 0, 0, 0, 0, 0, 0, 0, 0, 0, 0, 0, 0, 0, 0, 0, 0, 0, 0, 0, 0, 0, 0, 0, 0, 0, 0, 0, 0, 0, 0, 0, 0, 0, 0, 0, 0, 0, 0, 0, 0, 0, 0, 0, 0, 0, 0, 0, 0, 0, 0, 0, 0, 0, 0, 0, 0, 0] : List Int)))) (Int.toNat (((List.length r2.1) : Nat) : Int)) 0) 1)) 135 0) 128)))), r2.2.1)) fun r8 =>
     bindO (Fad.l12_0.m n n (0, r8, ([0, 0, 0, 0, 0, 0, 0, 0, 0, 0, 0, 0, 0, 0, 0, 0, 0, 0, 0, 0, 0, 0, 0, 0, 0, 0, 0, 0, 0, 0, 0, 0] : List Int), r2.2.2)) fun r10 =>
      bindO (Fau.m n (List.take 32 (List.drop 0 r10.1))) fun r12 =>
       some (mk0 r12)
   else
    none
  else
   none
def Fad.m (n : Nat) (t : LI) : Option LI := Fad.g (fun a0 => a0) n t
def Fad.pat : List AV → Blks → Option LI
 | [(.rints .u8 a0)], [] => some a0
 | _, _ => none
def Fad.shape (t : LI) : List AV × Blks := ([(.rints .u8 t)], [])
def Fad.res : LI → AV × Blks
 | u => ((.ints .u64 4 u), [])
def Fad.resK {R : Type} (u : LI) (K : AV → Blks → Option R) : Option R := K (Fad.res u).1 (Fad.res u).2
def Fad.c (n : Nat) : Abs.Callee := .mk' [] [(some (.ints .u8))] Fad.pat (Fad.m n) Fad.resK
end
end
section
noncomputable abbrev Ff.R0 (n : Nat) := roundOf (Ff.C n) (Ff.A n) n Ff.b0
theorem Ff.l1_0.rmap {α β : Type} (h : β → α) (mk0 : LI → β) (n : Nat) (f : Int → Int → LI → LI → Option β)  (x0 : Int) (x1 : Int) (x2 : LI) (x3 : LI) : Ff.l1_0.r (fun a0 => (h (mk0 a0))) n (fun y0 y1 y2 y3 => (f y0 y1 y2 y3).map h) x0 x1 x2 x3 = (Ff.l1_0.r mk0 n f x0 x1 x2 x3).map h := by
  unfold Ff.l1_0.r
  exact (ite_map (ite_map (ite_map (ite_map (ite_map (ite_map (ite_map (ite_map rfl rfl) rfl) rfl) rfl) rfl) rfl) rfl) rfl)
theorem Ff.l1_0.gmap {α β : Type} (h : β → α) (mk0 : LI → β) (n : Nat) : ∀ (m : Nat) (x0 : Int) (x1 : Int) (x2 : LI) (x3 : LI), Ff.l1_0.g (fun a0 => (h (mk0 a0))) n m x0 x1 x2 x3 = (Ff.l1_0.g mk0 n m x0 x1 x2 x3).map h
  | 0, _, _, _, _ => rfl
  | m + 1, x0, x1, x2, x3 => by
    unfold Ff.l1_0.g
    rw [← Ff.l1_0.rmap]
    congr
    · funext y0 y1 y2 y3; exact Ff.l1_0.gmap h mk0 n m y0 y1 y2 y3
theorem Ff.l1_0.pat_shape : ∀ st t, Ff.l1_0.pat st = some t → st = Ff.l1_0.shape t := fun _ _ h => by unfold Ff.l1_0.pat at h; split at h <;> cases h; rfl
def Ff.l1_0.k0 : LI → Ex × St := (fun a0 => (((.exit 0), (St.mk [(.ptr 0 [])] [(some (.var (.ints .u64 25 a0)))])) : Ex × St))
theorem Ff.l1_0.round (n : Nat) (rc : St → Option (Ex × St)) (x0 : Int) (x1 : Int) (x2 : LI) (x3 : LI) : Ff.R0 n rc ((St.mk [(.int .i64 x0), (.int .i64 x1), (.rints .u8 x2), (.ptr 0 [])] [(some (.var (.ints .u64 25 x3)))])) = Ff.l1_0.r Ff.l1_0.k0 n (fun y0 y1 y2 y3 => rc ((St.mk [(.int .i64 y0), (.int .i64 y1), (.rints .u8 y2), (.ptr 0 [])] [(some (.var (.ints .u64 25 y3)))]))) x0 x1 x2 x3 := by kernel_rfl
theorem Ff.l1_0.loop' (n : Nat) : ∀ (m : Nat) (t : (Int × (Int × (LI × LI)))), loopOf (Ff.R0 n) m (Ff.l1_0.shape t) = Ff.l1_0.g Ff.l1_0.k0 n m t.1 t.2.1 t.2.2.1 t.2.2.2 :=
  loop_of_round (shape := Ff.l1_0.shape) (body := Ff.R0 n) (g := fun m t => Ff.l1_0.g Ff.l1_0.k0 n m t.1 t.2.1 t.2.2.1 t.2.2.2) (fun t => rfl)
    fun m t ih => (Ff.l1_0.round n (loopOf (Ff.R0 n) m) t.1 t.2.1 t.2.2.1 t.2.2.2).trans (congrFun (congrFun (congrFun (congrFun (congrArg (Ff.l1_0.r Ff.l1_0.k0 n) (funext fun y0 => funext fun y1 => funext fun y2 => funext fun y3 => ih (y0, y1, y2, y3))) t.1) t.2.1) t.2.2.1) t.2.2.2)
theorem Ff.l1_0.loop (n m : Nat) (t : (Int × (Int × (LI × LI)))) : loopOf (Ff.R0 n) m (Ff.l1_0.shape t) = (Ff.l1_0.m n m t).map Ff.l1_0.res :=
  (Ff.l1_0.loop' n m t).trans (Ff.l1_0.gmap Ff.l1_0.res (fun a0 => a0) n m t.1 t.2.1 t.2.2.1 t.2.2.2)
theorem Ff.gmap {α β : Type} (h : β → α) (mk0 : LI → β) (n : Nat) (b : LI) (s : LI) : Ff.g (fun a0 => (h (mk0 a0))) n b s = (Ff.g mk0 n b s).map h := by
  unfold Ff.g
  exact (bindO_map fun r2 => (bindO_map fun r4 => rfl))
theorem Ff.run (n : Nat) (b : LI) (s : LI) : runF (Ff.C n) (Ff.A n) n Tryd.f93 [(.ptr 0 []), (.rints .u8 b)] [(some (.var (.ints .u64 25 s)))] (fun v o => some (v, o)) = Ff.g (fun a0 => (((.tup []), [(some (.var (.ints .u64 25 a0)))]) : AV × Blks)) n b s := by kernel_rfl
theorem Ff.call (hmix : Tryd.prog.follows .mixedOrders = true) (n : Nat) (t : (LI × LI)) (u) (h : Ff.m n t = some u) : FnC Tryd.prog abiG 93 (Ff.shape t).1 (Ff.shape t).2 (Ff.res u).1 (Ff.res u).2 :=
  fnC1 (C := Ff.C n) (A := Ff.A n) (fn := Tryd.f93) rfl (.cons (Fh.s hmix n) .nil) hmix Tryd.func93 (by kernel_rfl) (lp := [Ff.b0]) (by kernel_rfl) (.cons (show (Ff.A n).loop (key Ff.b0) = some (.mk' Ff.l1_0.pat (Ff.l1_0.m n n) Ff.l1_0.resK) by kernel_rfl) (LoopS.of (res := Ff.l1_0.res) (fun R u K => rfl) Ff.l1_0.pat_shape fun t => Ff.l1_0.loop n n t)
  .nil)
  (nj rfl) (by decide) rfl rfl (by show 2 ≤ Tryd.f93.ntmps; decide) (Ff.run n t.1 t.2) (Ff.gmap Ff.res (fun a0 => a0) n t.1 t.2) h
theorem Ff.s (hmix : Tryd.prog.follows .mixedOrders = true) (n : Nat) : CalleeS Tryd.prog abiG 93 (Ff.c n) :=
  .mk1 (res := Ff.res) (shape := Ff.shape) (fun R u K => rfl) (fun _ _ _ h => by unfold Ff.pat at h; split at h <;> cases h; rfl) (fun t u h => Ff.call hmix n t u h) Tryd.func93 (by decide) (by kernel_rfl)
end
section
noncomputable abbrev Fau.R0 (n : Nat) := roundOf (Fau.C n) (Fau.A n) n Fau.b0
theorem Fau.l4_0.rmap {α β : Type} (h : β → α) (mk0 : LI → LI → β) (n : Nat) (f : Int → Int → LI → LI → LI → Option β)  (x0 : Int) (x1 : Int) (x2 : LI) (x3 : LI) (x4 : LI) : Fau.l4_0.r (fun a0 a1 => (h (mk0 a0 a1))) n (fun y0 y1 y2 y3 y4 => (f y0 y1 y2 y3 y4).map h) x0 x1 x2 x3 x4 = (Fau.l4_0.r mk0 n f x0 x1 x2 x3 x4).map h := by
  unfold Fau.l4_0.r
  exact (ite_map (ite_map (ite_map (ite_map (ite_map (ite_map (ite_map (ite_map rfl rfl) rfl) rfl) rfl) rfl) rfl) rfl) rfl)
theorem Fau.l4_0.gmap {α β : Type} (h : β → α) (mk0 : LI → LI → β) (n : Nat) : ∀ (m : Nat) (x0 : Int) (x1 : Int) (x2 : LI) (x3 : LI) (x4 : LI), Fau.l4_0.g (fun a0 a1 => (h (mk0 a0 a1))) n m x0 x1 x2 x3 x4 = (Fau.l4_0.g mk0 n m x0 x1 x2 x3 x4).map h
  | 0, _, _, _, _, _ => rfl
  | m + 1, x0, x1, x2, x3, x4 => by
    unfold Fau.l4_0.g
    rw [← Fau.l4_0.rmap]
    congr
    · funext y0 y1 y2 y3 y4; exact Fau.l4_0.gmap h mk0 n m y0 y1 y2 y3 y4
theorem Fau.l4_0.pat_shape : ∀ st t, Fau.l4_0.pat st = some t → st = Fau.l4_0.shape t := fun _ _ h => by unfold Fau.l4_0.pat at h; split at h <;> cases h; rfl
def Fau.l4_0.k0 : LI → LI → Ex × St := (fun a0 a1 => (((.exit 0), (St.mk [(.ptr 0 []), (.ptr 1 [])] [(some (.var (.ints .u64 4 a0))), (some (.var (.ints .u64 4 a1)))])) : Ex × St))
theorem Fau.l4_0.round (n : Nat) (rc : St → Option (Ex × St)) (x0 : Int) (x1 : Int) (x2 : LI) (x3 : LI) (x4 : LI) : Fau.R0 n rc ((St.mk [(.int .i64 x0), (.int .i64 x1), (.ptr 0 []), (.rints .u8 x2), (.ptr 1 [])] [(some (.var (.ints .u64 4 x3))), (some (.var (.ints .u64 4 x4)))])) = Fau.l4_0.r Fau.l4_0.k0 n (fun y0 y1 y2 y3 y4 => rc ((St.mk [(.int .i64 y0), (.int .i64 y1), (.ptr 0 []), (.rints .u8 y2), (.ptr 1 [])] [(some (.var (.ints .u64 4 y3))), (some (.var (.ints .u64 4 y4)))]))) x0 x1 x2 x3 x4 := by kernel_rfl
theorem Fau.l4_0.loop' (n : Nat) : ∀ (m : Nat) (t : (Int × (Int × (LI × (LI × LI))))), loopOf (Fau.R0 n) m (Fau.l4_0.shape t) = Fau.l4_0.g Fau.l4_0.k0 n m t.1 t.2.1 t.2.2.1 t.2.2.2.1 t.2.2.2.2 :=
  loop_of_round (shape := Fau.l4_0.shape) (body := Fau.R0 n) (g := fun m t => Fau.l4_0.g Fau.l4_0.k0 n m t.1 t.2.1 t.2.2.1 t.2.2.2.1 t.2.2.2.2) (fun t => rfl)
    fun m t ih => (Fau.l4_0.round n (loopOf (Fau.R0 n) m) t.1 t.2.1 t.2.2.1 t.2.2.2.1 t.2.2.2.2).trans (congrFun (congrFun (congrFun (congrFun (congrFun (congrArg (Fau.l4_0.r Fau.l4_0.k0 n) (funext fun y0 => funext fun y1 => funext fun y2 => funext fun y3 => funext fun y4 => ih (y0, y1, y2, y3, y4))) t.1) t.2.1) t.2.2.1) t.2.2.2.1) t.2.2.2.2)
theorem Fau.l4_0.loop (n m : Nat) (t : (Int × (Int × (LI × (LI × LI))))) : loopOf (Fau.R0 n) m (Fau.l4_0.shape t) = (Fau.l4_0.m n m t).map Fau.l4_0.res :=
  (Fau.l4_0.loop' n m t).trans (Fau.l4_0.gmap Fau.l4_0.res (fun a0 a1 => (a0, a1)) n m t.1 t.2.1 t.2.2.1 t.2.2.2.1 t.2.2.2.2)
theorem Fau.gmap {α β : Type} (h : β → α) (mk0 : LI → β) (n : Nat) (a0 : LI) : Fau.g (fun a0 => (h (mk0 a0))) n a0 = (Fau.g mk0 n a0).map h := by
  unfold Fau.g
  exact (ite_map (ite_map (bindO_map fun r6 => rfl) rfl) rfl)
theorem Fau.run (n : Nat) (a0 : LI) : runF (Fau.C n) (Fau.A n) n Tryd.f89 [(.rints .u8 a0)] [] (fun v o => some (v, o)) = Fau.g (fun a0 => (((.ints .u64 4 a0), []) : AV × Blks)) n a0 := by kernel_rfl
theorem Fau.call (hmix : Tryd.prog.follows .mixedOrders = true) (n : Nat) (t : LI) (u) (h : Fau.m n t = some u) : FnC Tryd.prog abiG 89 (Fau.shape t).1 (Fau.shape t).2 (Fau.res u).1 (Fau.res u).2 :=
  fnC1 (C := Fau.C n) (A := Fau.A n) (fn := Tryd.f89) rfl .nil hmix Tryd.func89 (by kernel_rfl) (lp := [Fau.b0]) (by kernel_rfl) (.cons (show (Fau.A n).loop (key Fau.b0) = some (.mk' Fau.l4_0.pat (Fau.l4_0.m n n) Fau.l4_0.resK) by kernel_rfl) (LoopS.of (res := Fau.l4_0.res) (fun R u K => rfl) Fau.l4_0.pat_shape fun t => Fau.l4_0.loop n n t)
  .nil)
  (nj rfl) (by decide) rfl rfl (by show 1 ≤ Tryd.f89.ntmps; decide) (Fau.run n t) (Fau.gmap Fau.res (fun a0 => a0) n t) h
theorem Fau.s (hmix : Tryd.prog.follows .mixedOrders = true) (n : Nat) : CalleeS Tryd.prog abiG 89 (Fau.c n) :=
  .mk1 (res := Fau.res) (shape := Fau.shape) (fun R u K => rfl) (fun _ _ _ h => by unfold Fau.pat at h; split at h <;> cases h; rfl) (fun t u h => Fau.call hmix n t u h) Tryd.func89 (by decide) (by kernel_rfl)
end
section
noncomputable abbrev Fad.R0 (n : Nat) := roundOf (Fad.C n) (Fad.A n) n Fad.b0
noncomputable abbrev Fad.R1 (n : Nat) := roundOf (Fad.C n) (Fad.A n) n Fad.b1
theorem Fad.l2_0.rmap {α β : Type} (h : β → α) (mk0 : LI → LI → LI → β) (n : Nat) (f : LI → LI → LI → Option β)  (x0 : LI) (x1 : LI) (x2 : LI) : Fad.l2_0.r (fun a0 a1 a2 => (h (mk0 a0 a1 a2))) n (fun y0 y1 y2 => (f y0 y1 y2).map h) x0 x1 x2 = (Fad.l2_0.r mk0 n f x0 x1 x2).map h := by
  unfold Fad.l2_0.r
  exact (ite_map (ite_map (bindO_map fun r8 => (ite_map rfl rfl)) rfl) rfl)
theorem Fad.l2_0.gmap {α β : Type} (h : β → α) (mk0 : LI → LI → LI → β) (n : Nat) : ∀ (m : Nat) (x0 : LI) (x1 : LI) (x2 : LI), Fad.l2_0.g (fun a0 a1 a2 => (h (mk0 a0 a1 a2))) n m x0 x1 x2 = (Fad.l2_0.g mk0 n m x0 x1 x2).map h
  | 0, _, _, _ => rfl
  | m + 1, x0, x1, x2 => by
    unfold Fad.l2_0.g
    rw [← Fad.l2_0.rmap]
    congr
    · funext y0 y1 y2; exact Fad.l2_0.gmap h mk0 n m y0 y1 y2
theorem Fad.l2_0.pat_shape : ∀ st t, Fad.l2_0.pat st = some t → st = Fad.l2_0.shape t := fun _ _ h => by unfold Fad.l2_0.pat at h; split at h <;> cases h; rfl
def Fad.l2_0.k0 : LI → LI → LI → Ex × St := (fun a0 a1 a2 => (((.exit 0), (St.mk [(.rints .u8 a0), (.ptr 0 []), (.ptr 1 [])] [(some (.var (.ints .u64 25 a1))), (some (.var (.ints .u64 4 a2)))])) : Ex × St))
theorem Fad.l2_0.round (n : Nat) (rc : St → Option (Ex × St)) (x0 : LI) (x1 : LI) (x2 : LI) : Fad.R0 n rc ((St.mk [(.rints .u8 x0), (.ptr 0 []), (.ptr 1 [])] [(some (.var (.ints .u64 25 x1))), (some (.var (.ints .u64 4 x2)))])) = Fad.l2_0.r Fad.l2_0.k0 n (fun y0 y1 y2 => rc ((St.mk [(.rints .u8 y0), (.ptr 0 []), (.ptr 1 [])] [(some (.var (.ints .u64 25 y1))), (some (.var (.ints .u64 4 y2)))]))) x0 x1 x2 := by kernel_rfl
theorem Fad.l2_0.loop' (n : Nat) : ∀ (m : Nat) (t : (LI × (LI × LI))), loopOf (Fad.R0 n) m (Fad.l2_0.shape t) = Fad.l2_0.g Fad.l2_0.k0 n m t.1 t.2.1 t.2.2 :=
  loop_of_round (shape := Fad.l2_0.shape) (body := Fad.R0 n) (g := fun m t => Fad.l2_0.g Fad.l2_0.k0 n m t.1 t.2.1 t.2.2) (fun t => rfl)
    fun m t ih => (Fad.l2_0.round n (loopOf (Fad.R0 n) m) t.1 t.2.1 t.2.2).trans (congrFun (congrFun (congrFun (congrArg (Fad.l2_0.r Fad.l2_0.k0 n) (funext fun y0 => funext fun y1 => funext fun y2 => ih (y0, y1, y2))) t.1) t.2.1) t.2.2)
theorem Fad.l2_0.loop (n m : Nat) (t : (LI × (LI × LI))) : loopOf (Fad.R0 n) m (Fad.l2_0.shape t) = (Fad.l2_0.m n m t).map Fad.l2_0.res :=
  (Fad.l2_0.loop' n m t).trans (Fad.l2_0.gmap Fad.l2_0.res (fun a0 a1 a2 => (a0, a1, a2)) n m t.1 t.2.1 t.2.2)
theorem Fad.l12_0.rmap {α β : Type} (h : β → α) (mk0 : LI → LI → β) (n : Nat) (f : Int → LI → LI → LI → Option β)  (x0 : Int) (x1 : LI) (x2 : LI) (x3 : LI) : Fad.l12_0.r (fun a0 a1 => (h (mk0 a0 a1))) n (fun y0 y1 y2 y3 => (f y0 y1 y2 y3).map h) x0 x1 x2 x3 = (Fad.l12_0.r mk0 n f x0 x1 x2 x3).map h := by
  unfold Fad.l12_0.r
  exact (ite_map (ite_map (ite_map (ite_map (ite_map (ite_map rfl rfl) rfl) rfl) rfl) rfl) rfl)
theorem Fad.l12_0.gmap {α β : Type} (h : β → α) (mk0 : LI → LI → β) (n : Nat) : ∀ (m : Nat) (x0 : Int) (x1 : LI) (x2 : LI) (x3 : LI), Fad.l12_0.g (fun a0 a1 => (h (mk0 a0 a1))) n m x0 x1 x2 x3 = (Fad.l12_0.g mk0 n m x0 x1 x2 x3).map h
  | 0, _, _, _, _ => rfl
  | m + 1, x0, x1, x2, x3 => by
    unfold Fad.l12_0.g
    rw [← Fad.l12_0.rmap]
    congr
    · funext y0 y1 y2 y3; exact Fad.l12_0.gmap h mk0 n m y0 y1 y2 y3
theorem Fad.l12_0.pat_shape : ∀ st t, Fad.l12_0.pat st = some t → st = Fad.l12_0.shape t := fun _ _ h => by unfold Fad.l12_0.pat at h; split at h <;> cases h; rfl
def Fad.l12_0.k0 : LI → LI → Ex × St := (fun a0 a1 => (((.exit 2), (St.mk [(.ptr 0 []), (.ptr 1 [])] [(some (.var (.ints .u8 32 a0))), (some (.var (.ints .u64 4 a1)))])) : Ex × St))
theorem Fad.l12_0.round (n : Nat) (rc : St → Option (Ex × St)) (x0 : Int) (x1 : LI) (x2 : LI) (x3 : LI) : Fad.R1 n rc ((St.mk [(.int .i64 x0), (.ptr 0 []), (.ptr 1 []), (.ptr 2 [])] [(some (.var (.ints .u64 25 x1))), (some (.var (.ints .u8 32 x2))), (some (.var (.ints .u64 4 x3)))])) = Fad.l12_0.r Fad.l12_0.k0 n (fun y0 y1 y2 y3 => rc ((St.mk [(.int .i64 y0), (.ptr 0 []), (.ptr 1 []), (.ptr 2 [])] [(some (.var (.ints .u64 25 y1))), (some (.var (.ints .u8 32 y2))), (some (.var (.ints .u64 4 y3)))]))) x0 x1 x2 x3 := by kernel_rfl
theorem Fad.l12_0.loop' (n : Nat) : ∀ (m : Nat) (t : (Int × (LI × (LI × LI)))), loopOf (Fad.R1 n) m (Fad.l12_0.shape t) = Fad.l12_0.g Fad.l12_0.k0 n m t.1 t.2.1 t.2.2.1 t.2.2.2 :=
  loop_of_round (shape := Fad.l12_0.shape) (body := Fad.R1 n) (g := fun m t => Fad.l12_0.g Fad.l12_0.k0 n m t.1 t.2.1 t.2.2.1 t.2.2.2) (fun t => rfl)
    fun m t ih => (Fad.l12_0.round n (loopOf (Fad.R1 n) m) t.1 t.2.1 t.2.2.1 t.2.2.2).trans (congrFun (congrFun (congrFun (congrFun (congrArg (Fad.l12_0.r Fad.l12_0.k0 n) (funext fun y0 => funext fun y1 => funext fun y2 => funext fun y3 => ih (y0, y1, y2, y3))) t.1) t.2.1) t.2.2.1) t.2.2.2)
theorem Fad.l12_0.loop (n m : Nat) (t : (Int × (LI × (LI × LI)))) : loopOf (Fad.R1 n) m (Fad.l12_0.shape t) = (Fad.l12_0.m n m t).map Fad.l12_0.res :=
  (Fad.l12_0.loop' n m t).trans (Fad.l12_0.gmap Fad.l12_0.res (fun a0 a1 => (a0, a1)) n m t.1 t.2.1 t.2.2.1 t.2.2.2)
theorem Fad.gmap {α β : Type} (h : β → α) (mk0 : LI → β) (n : Nat) (a0 : LI) : Fad.g (fun a0 => (h (mk0 a0))) n a0 = (Fad.g mk0 n a0).map h := by
  unfold Fad.g
  exact (bindO_map fun r2 => (ite_map (ite_map (bindO_map fun r8 => (bindO_map fun r10 => (bindO_map fun r12 => rfl))) rfl) rfl))
theorem Fad.run (n : Nat) (a0 : LI) : runF (Fad.C n) (Fad.A n) n Tryd.f57 [(.rints .u8 a0)] [] (fun v o => some (v, o)) = Fad.g (fun a0 => (((.ints .u64 4 a0), []) : AV × Blks)) n a0 := by kernel_rfl
theorem Fad.call (hmix : Tryd.prog.follows .mixedOrders = true) (n : Nat) (t : LI) (u) (h : Fad.m n t = some u) : FnC Tryd.prog abiG 57 (Fad.shape t).1 (Fad.shape t).2 (Fad.res u).1 (Fad.res u).2 :=
  fnC1 (C := Fad.C n) (A := Fad.A n) (fn := Tryd.f57) rfl (.cons (Ff.s hmix n) (.cons (Fau.s hmix n) .nil)) hmix Tryd.func57 (by kernel_rfl) (lp := [Fad.b0, Fad.b1]) (by kernel_rfl) (.cons (show (Fad.A n).loop (key Fad.b0) = some (.mk' Fad.l2_0.pat (Fad.l2_0.m n n) Fad.l2_0.resK) by kernel_rfl) (LoopS.of (res := Fad.l2_0.res) (fun R u K => rfl) Fad.l2_0.pat_shape fun t => Fad.l2_0.loop n n t)
  (.cons (show (Fad.A n).loop (key Fad.b1) = some (.mk' Fad.l12_0.pat (Fad.l12_0.m n n) Fad.l12_0.resK) by kernel_rfl) (LoopS.of (res := Fad.l12_0.res) (fun R u K => rfl) Fad.l12_0.pat_shape fun t => Fad.l12_0.loop n n t)
  .nil))
  (nj rfl) (by decide) rfl rfl (by show 1 ≤ Tryd.f57.ntmps; decide) (Fad.run n t) (Fad.gmap Fad.res (fun a0 => a0) n t) h
theorem Fad.s (hmix : Tryd.prog.follows .mixedOrders = true) (n : Nat) : CalleeS Tryd.prog abiG 57 (Fad.c n) :=
  .mk1 (res := Fad.res) (shape := Fad.shape) (fun R u K => rfl) (fun _ _ _ h => by unfold Fad.pat at h; split at h <;> cases h; rfl) (fun t u h => Fad.call hmix n t u h) Tryd.func57 (by decide) (by kernel_rfl)
end
section
noncomputable section
def Fbf.l4_0.r {α : Type} (mk0 : LI → LI → α) (n : Nat) (rc : Int → Int → LI → LI → LI → Option α)  (x0 : Int) (x1 : Int) (x2 : LI) (x3 : LI) (x4 : LI) : Option α :=
  if (decide (x0 < 32)) = true then
   if (decide (x0 < x1)) = true then
    if 0 ≤ (IntKind.wrap .i64 (Int.tdiv x0 8)) then
     if (IntKind.wrap .i64 (Int.tdiv x0 8)) < 4 then
      if 0 ≤ (IntKind.wrap .i64 ((IntKind.wrap .i64 (x1 - 1)) - x0)) then
       if (IntKind.wrap .i64 ((IntKind.wrap .i64 (x1 - 1)) - x0)) < (((List.length x2) : Nat) : Int) then
        if 0 ≤ (IntKind.wrap .u64 (IntKind.wrap .i64 ((Int.tmod x0 8) * 8))) then
         if 0 ≤ (IntKind.wrap .i64 (Int.tdiv x0 8)) then
          if (IntKind.wrap .i64 (Int.tdiv x0 8)) < 4 then
           rc (IntKind.wrap .i64 (x0 + 1)) x1 x2 (List.set x3 (Int.toNat (IntKind.wrap .i64 (Int.tdiv x0 8))) (ibits BinOp.or .u64 (List.getD x3 (Int.toNat (IntKind.wrap .i64 (Int.tdiv x0 8))) 0) (ishl .u64 (IntKind.wrap .u64 (List.getD x2 (Int.toNat (IntKind.wrap .i64 ((IntKind.wrap .i64 (x1 - 1)) - x0))) 0)) (IntKind.wrap .u64 (IntKind.wrap .i64 ((Int.tmod x0 8) * 8)))))) x4
          else
           none
         else
          none
        else
         none
       else
        none
      else
       none
     else
      none
    else
     none
   else
    some (mk0 x3 x4)
  else
   some (mk0 x3 x4)
def Fbf.l4_0.g {α : Type} (mk0 : LI → LI → α) (n : Nat) : Nat → Int → Int → LI → LI → LI → Option α
 | 0, _, _, _, _, _ => none
 | m + 1, x0, x1, x2, x3, x4 => Fbf.l4_0.r mk0 n (fun y0 y1 y2 y3 y4 => Fbf.l4_0.g mk0 n m y0 y1 y2 y3 y4)  x0 x1 x2 x3 x4
def Fbf.l4_0.m (n m : Nat) (t : (Int × (Int × (LI × (LI × LI))))) : Option (LI × LI) := Fbf.l4_0.g (fun a0 a1 => (a0, a1)) n m t.1 t.2.1 t.2.2.1 t.2.2.2.1 t.2.2.2.2
def Fbf.g {α : Type} (mk0 : LI → α) (n : Nat) (a0 : LI) : Option α :=
 bindO (Fbf.l4_0.m n n (0, (((List.length a0) : Nat) : Int), a0, [0, 0, 0, 0], [0, 0, 0, 0])) fun r2 =>
  some (mk0 r2.1)
def Fbf.m (n : Nat) (t : LI) : Option LI := Fbf.g (fun a0 => a0) n t
end
end
section
noncomputable section
def Fca.l4_0.r {α : Type} (mk0 : LI → LI → α) (n : Nat) (rc : LI → LI → Option α)  (x0 : LI) (x1 : LI) : Option α :=
  if ((Int.tmod (((List.length x0) : Nat) : Int) 136) != 0) = true then
   if ((((List.length x0) + 1) * 1) ≤ 70368744177664 ∧ ((List.length x0) + 1) ≤ 9223372036854775807) then
    rc (x0 ++ [0]) x1
   else
    none
  else
   some (mk0 x0 x1)
def Fca.l4_0.g {α : Type} (mk0 : LI → LI → α) (n : Nat) : Nat → LI → LI → Option α
 | 0, _, _ => none
 | m + 1, x0, x1 => Fca.l4_0.r mk0 n (fun y0 y1 => Fca.l4_0.g mk0 n m y0 y1)  x0 x1
def Fca.l4_0.m (n m : Nat) (t : (LI × LI)) : Option (LI × LI) := Fca.l4_0.g (fun a0 a1 => (a0, a1)) n m t.1 t.2
def Fca.l17_0.r {α : Type} (mk0 : Int → Int → LI → LI → LI → LI → LI → α) (n : Nat) (rc : Int → Int → Int → LI → LI → LI → LI → LI → Option α)  (x0 : Int) (x1 : Int) (x2 : Int) (x3 : LI) (x4 : LI) (x5 : LI) (x6 : LI) (x7 : LI) : Option α :=
  if (decide (x0 < 8)) = true then
   if 0 ≤ x1 then
    if x1 < (((List.length x3) : Nat) : Int) then
     if 0 ≤ (IntKind.wrap .i64 ((IntKind.wrap .i64 (x2 + (IntKind.wrap .i64 (8 * x1)))) + x0)) then
      if (IntKind.wrap .i64 ((IntKind.wrap .i64 (x2 + (IntKind.wrap .i64 (8 * x1)))) + x0)) < (((List.length x4) : Nat) : Int) then
       if 0 ≤ (IntKind.wrap .u64 (IntKind.wrap .i64 (8 * x0))) then
        if 0 ≤ x1 then
         if x1 < (((List.length x3) : Nat) : Int) then
          rc (IntKind.wrap .i64 (x0 + 1)) x1 x2 (List.set x3 (Int.toNat x1) (ibits BinOp.xor .u64 (List.getD x3 (Int.toNat x1) 0) (ishl .u64 (IntKind.wrap .u64 (List.getD x4 (Int.toNat (IntKind.wrap .i64 ((IntKind.wrap .i64 (x2 + (IntKind.wrap .i64 (8 * x1)))) + x0))) 0)) (IntKind.wrap .u64 (IntKind.wrap .i64 (8 * x0)))))) x4 x5 x6 x7
         else
          none
        else
         none
       else
        none
      else
       none
     else
      none
    else
     none
   else
    none
  else
   some (mk0 x1 x2 x3 x4 x5 x6 x7)
def Fca.l17_0.g {α : Type} (mk0 : Int → Int → LI → LI → LI → LI → LI → α) (n : Nat) : Nat → Int → Int → Int → LI → LI → LI → LI → LI → Option α
 | 0, _, _, _, _, _, _, _, _ => none
 | m + 1, x0, x1, x2, x3, x4, x5, x6, x7 => Fca.l17_0.r mk0 n (fun y0 y1 y2 y3 y4 y5 y6 y7 => Fca.l17_0.g mk0 n m y0 y1 y2 y3 y4 y5 y6 y7)  x0 x1 x2 x3 x4 x5 x6 x7
def Fca.l17_0.m (n m : Nat) (t : (Int × (Int × (Int × (LI × (LI × (LI × (LI × LI)))))))) : Option (Int × (Int × (LI × (LI × (LI × (LI × LI)))))) := Fca.l17_0.g (fun a0 a1 a2 a3 a4 a5 a6 => (a0, a1, a2, a3, a4, a5, a6)) n m t.1 t.2.1 t.2.2.1 t.2.2.2.1 t.2.2.2.2.1 t.2.2.2.2.2.1 t.2.2.2.2.2.2.1 t.2.2.2.2.2.2.2
def Fca.l14_0.r {α : Type} (mk0 : Int → LI → LI → LI → LI → LI → α) (n : Nat) (rc : Int → Int → LI → LI → LI → LI → LI → Option α)  (x0 : Int) (x1 : Int) (x2 : LI) (x3 : LI) (x4 : LI) (x5 : LI) (x6 : LI) : Option α :=
  if (decide (x0 < 17)) = true then
   bindO (Fca.l17_0.m n n (0, x0, x1, x2, x3, x4, x5, x6)) fun r6 =>
    rc (IntKind.wrap .i64 (r6.1 + 1)) r6.2.1 r6.2.2.1 r6.2.2.2.1 r6.2.2.2.2.1 r6.2.2.2.2.2.1 r6.2.2.2.2.2.2
  else
   some (mk0 x1 x2 x4 x5 x3 x6)
def Fca.l14_0.g {α : Type} (mk0 : Int → LI → LI → LI → LI → LI → α) (n : Nat) : Nat → Int → Int → LI → LI → LI → LI → LI → Option α
 | 0, _, _, _, _, _, _, _ => none
 | m + 1, x0, x1, x2, x3, x4, x5, x6 => Fca.l14_0.r mk0 n (fun y0 y1 y2 y3 y4 y5 y6 => Fca.l14_0.g mk0 n m y0 y1 y2 y3 y4 y5 y6)  x0 x1 x2 x3 x4 x5 x6
def Fca.l14_0.m (n m : Nat) (t : (Int × (Int × (LI × (LI × (LI × (LI × LI))))))) : Option (Int × (LI × (LI × (LI × (LI × LI))))) := Fca.l14_0.g (fun a0 a1 a2 a3 a4 a5 => (a0, a1, a2, a3, a4, a5)) n m t.1 t.2.1 t.2.2.1 t.2.2.2.1 t.2.2.2.2.1 t.2.2.2.2.2.1 t.2.2.2.2.2.2
def Fca.l11_0.r {α : Type} (mk0 : LI → LI → α) (n : Nat) (rc : Int → LI → LI → LI → LI → LI → Option α)  (x0 : Int) (x1 : LI) (x2 : LI) (x3 : LI) (x4 : LI) (x5 : LI) : Option α :=
  if (decide (x0 < (((List.length x1) : Nat) : Int))) = true then
   bindO (Fca.l14_0.m n n (0, x0, x2, x1, x3, x4, x5)) fun r6 =>
    bindO (Fbz.m n (r6.2.1, r6.2.2.1, r6.2.2.2.1)) fun r8 => match r8 with
     | (.inl r8) =>
      rc (IntKind.wrap .i64 (r6.1 + 136)) r6.2.2.2.2.1 r8 r6.2.2.1 r6.2.2.2.1 r6.2.2.2.2.2
     | (.inr r8) =>
      none
  else
   some (mk0 x2 x5)
def Fca.l11_0.g {α : Type} (mk0 : LI → LI → α) (n : Nat) : Nat → Int → LI → LI → LI → LI → LI → Option α
 | 0, _, _, _, _, _, _ => none
 | m + 1, x0, x1, x2, x3, x4, x5 => Fca.l11_0.r mk0 n (fun y0 y1 y2 y3 y4 y5 => Fca.l11_0.g mk0 n m y0 y1 y2 y3 y4 y5)  x0 x1 x2 x3 x4 x5
def Fca.l11_0.m (n m : Nat) (t : (Int × (LI × (LI × (LI × (LI × LI)))))) : Option (LI × LI) := Fca.l11_0.g (fun a0 a1 => (a0, a1)) n m t.1 t.2.1 t.2.2.1 t.2.2.2.1 t.2.2.2.2.1 t.2.2.2.2.2
def Fca.l26_0.r {α : Type} (mk0 : Int → LI → LI → LI → α) (n : Nat) (rc : Int → Int → LI → LI → LI → Option α)  (x0 : Int) (x1 : Int) (x2 : LI) (x3 : LI) (x4 : LI) : Option α :=
  if (decide (x0 < 8)) = true then
   if 0 ≤ x1 then
    if x1 < (((List.length x3) : Nat) : Int) then
     if 0 ≤ (IntKind.wrap .u64 (IntKind.wrap .i64 (8 * x0))) then
      if ((((List.length x2) + 1) * 1) ≤ 70368744177664 ∧ ((List.length x2) + 1) ≤ 9223372036854775807) then
       rc (IntKind.wrap .i64 (x0 + 1)) x1 (x2 ++ [(IntKind.wrap .u8 (ishr .u64 (List.getD x3 (Int.toNat x1) 0) (IntKind.wrap .u64 (IntKind.wrap .i64 (8 * x0)))))]) x3 x4
      else
       none
     else
      none
    else
     none
   else
    none
  else
   some (mk0 x1 x2 x3 x4)
def Fca.l26_0.g {α : Type} (mk0 : Int → LI → LI → LI → α) (n : Nat) : Nat → Int → Int → LI → LI → LI → Option α
 | 0, _, _, _, _, _ => none
 | m + 1, x0, x1, x2, x3, x4 => Fca.l26_0.r mk0 n (fun y0 y1 y2 y3 y4 => Fca.l26_0.g mk0 n m y0 y1 y2 y3 y4)  x0 x1 x2 x3 x4
def Fca.l26_0.m (n m : Nat) (t : (Int × (Int × (LI × (LI × LI))))) : Option (Int × (LI × (LI × LI))) := Fca.l26_0.g (fun a0 a1 a2 a3 => (a0, a1, a2, a3)) n m t.1 t.2.1 t.2.2.1 t.2.2.2.1 t.2.2.2.2
def Fca.l23_0.r {α : Type} (mk0 : LI → LI → α) (n : Nat) (rc : Int → LI → LI → LI → Option α)  (x0 : Int) (x1 : LI) (x2 : LI) (x3 : LI) : Option α :=
  if (decide (x0 < 4)) = true then
   bindO (Fca.l26_0.m n n (0, x0, x1, x2, x3)) fun r6 =>
    rc (IntKind.wrap .i64 (r6.1 + 1)) r6.2.1 r6.2.2.1 r6.2.2.2
  else
   some (mk0 x1 x3)
def Fca.l23_0.g {α : Type} (mk0 : LI → LI → α) (n : Nat) : Nat → Int → LI → LI → LI → Option α
 | 0, _, _, _, _ => none
 | m + 1, x0, x1, x2, x3 => Fca.l23_0.r mk0 n (fun y0 y1 y2 y3 => Fca.l23_0.g mk0 n m y0 y1 y2 y3)  x0 x1 x2 x3
def Fca.l23_0.m (n m : Nat) (t : (Int × (LI × (LI × LI)))) : Option (LI × LI) := Fca.l23_0.g (fun a0 a1 => (a0, a1)) n m t.1 t.2.1 t.2.2.1 t.2.2.2
def Fca.g {α : Type} (mk0 : LI → α) (n : Nat) (a0 : LI) : Option α :=
 if (((List.length a0) * 1) ≤ 70368744177664 ∧ (List.length a0) ≤ 9223372036854775807) then
  if ((((List.length a0) + 1) * 1) ≤ 70368744177664 ∧ ((List.length a0) + 1) ≤ 9223372036854775807) then
   bindO (Fca.l4_0.m n n ((a0 ++ [1]), [0, 0, 0, 0])) fun r6 =>
    if 0 ≤ (IntKind.wrap .i64 ((((List.length r6.1) : Nat) : Int) - 1)) then
     if (IntKind.wrap .i64 ((((List.length r6.1) : Nat) : Int) - 1)) < (((List.length r6.1) : Nat) : Int) then
      if 0 ≤ (IntKind.wrap .i64 ((((List.length r6.1) : Nat) : Int) - 1)) then
       if (IntKind.wrap .i64 ((((List.length r6.1) : Nat) : Int) - 1)) < (((List.length r6.1) : Nat) : Int) then
        bindO (Fat.m n Unit.unit) fun r16 =>
         bindO (Fbe.m n Unit.unit) fun r18 =>
          bindO (Fca.l11_0.m n n (0, (List.set r6.1 (Int.toNat (IntKind.wrap .i64 ((((List.length r6.1) : Nat) : Int) - 1))) (ibits BinOp.xor .u8 (List.getD r6.1 (Int.toNat (IntKind.wrap .i64 ((((List.length r6.1) : Nat) : Int) - 1))) 0) 128)), ([0, 0, 0, 0, 0, 0, 0, 0, 0, 0, 0, 0, 0, 0, 0, 0, 0, 0, 0, 0, 0, 0, 0, 0, 0] : List Int), r16, r18, r6.2)) fun r20 =>
           bindO (Fca.l23_0.m n n (0, [], r20.1, r20.2)) fun r22 =>
            bindO (Fbf.m n r22.1) fun r24 =>
             some (mk0 r24)
       else
        none
      else
       none
     else
      none
    else
     none
  else
   none
 else
  none
def Fca.m (n : Nat) (t : LI) : Option LI := Fca.g (fun a0 => a0) n t
end
end
section
noncomputable section
noncomputable def Fae.C (n : Nat) : Ctx := ⟨Tryd.prog, abiG, lookC [], fun _ => false⟩
def Fae.live : NL := fun k => match k with
 | 3 => ([6, 3, 1], [3])
 | _ => ([], [])
def Fae.l3_0.r {α : Type} (mk0 : LI → α) (n : Nat) (rc : Int → LI → LI → Option α)  (x0 : Int) (x1 : LI) (x2 : LI) : Option α :=
  if (decide (x0 < 32)) = true then
   if 0 ≤ (IntKind.wrap .i64 (Int.tdiv x0 8)) then
    if (IntKind.wrap .i64 (Int.tdiv x0 8)) < 4 then
     if 0 ≤ (IntKind.wrap .i64 ((Int.tmod x0 8) * 8)) then
      if 0 ≤ (IntKind.wrap .i64 (31 - x0)) then
       if (IntKind.wrap .i64 (31 - x0)) < (((List.length x1) : Nat) : Int) then
        rc (IntKind.wrap .i64 (x0 + 1)) (List.set x1 (Int.toNat (IntKind.wrap .i64 (31 - x0))) (IntKind.wrap .u8 (ishr .u64 (List.getD x2 (Int.toNat (IntKind.wrap .i64 (Int.tdiv x0 8))) 0) (IntKind.wrap .i64 ((Int.tmod x0 8) * 8))))) x2
       else
        none
      else
       none
     else
      none
    else
     none
   else
    none
  else
   some (mk0 x1)
def Fae.l3_0.g {α : Type} (mk0 : LI → α) (n : Nat) : Nat → Int → LI → LI → Option α
 | 0, _, _, _ => none
 | m + 1, x0, x1, x2 => Fae.l3_0.r mk0 n (fun y0 y1 y2 => Fae.l3_0.g mk0 n m y0 y1 y2)  x0 x1 x2
def Fae.l3_0.m (n m : Nat) (t : (Int × (LI × LI))) : Option LI := Fae.l3_0.g (fun a0 => a0) n m t.1 t.2.1 t.2.2
def Fae.l3_0.pat : St → Option (Int × (LI × LI))
 | (St.mk [(.int .i64 x0), (.own 0 1), (.ptr 1 [])] [(some (.ints .u8 x1)), (some (.var (.ints .u64 4 x2)))]) => some (x0, x1, x2)
 | _ => none
def Fae.l3_0.shape (t : (Int × (LI × LI))) : St := (St.mk [(.int .i64 t.1), (.own 0 1), (.ptr 1 [])] [(some (.ints .u8 t.2.1)), (some (.var (.ints .u64 4 t.2.2)))])
def Fae.l3_0.res : LI → Ex × St
 | u => ((.exit 0), (St.mk [(.own 0 1)] [(some (.ints .u8 u))]))
def Fae.l3_0.resK {R : Type} (u : LI) (K : Ex → St → Option R) : Option R := K (Fae.l3_0.res u).1 (Fae.l3_0.res u).2
noncomputable def Fae.A (n : Nat) : Ann := ⟨Tryd.f56.ntmps, 0, Fae.live, [(3, (.ints .u8))], [(some (.ints .u8))], fun k => match k with
 | 3 => some (.mk' Fae.l3_0.pat (Fae.l3_0.m n n) Fae.l3_0.resK)
 | _ => none, noNL, lookJ []⟩
noncomputable def Fae.b0 : Code := (loopsIn (Tryd.f56.body.getD .skip)).getD 0 .skip
def Fae.g {α : Type} (mk0 : LI → α) (n : Nat) (a0 : LI) : Option α :=
 bindO (Fae.l3_0.m n n (0, ([0, 0, 0, 0, 0, 0, 0, 0, 0, 0, 0, 0, 0, 0, 0, 0, 0, 0, 0, 0, 0, 0, 0, 0, 0, 0, 0, 0, 0, 0, 0, 0] : List Int), a0)) fun r2 =>
  some (mk0 r2)
def Fae.m (n : Nat) (t : LI) : Option LI := Fae.g (fun a0 => a0) n t
def Fae.pat : List AV → Blks → Option LI
 | [(.ints .u64 4 a0)], [] => some a0
 | _, _ => none
def Fae.shape (t : LI) : List AV × Blks := ([(.ints .u64 4 t)], [])
def Fae.res : LI → AV × Blks
 | u => ((.own 0 1), [(some (.ints .u8 u))])
def Fae.resK {R : Type} (u : LI) (K : AV → Blks → Option R) : Option R := K (Fae.res u).1 (Fae.res u).2
def Fae.c (n : Nat) : Abs.Callee := .mk' [] [none] Fae.pat (Fae.m n) Fae.resK
end
end
section
noncomputable abbrev Fae.R0 (n : Nat) := roundOf (Fae.C n) (Fae.A n) n Fae.b0
theorem Fae.l3_0.rmap {α β : Type} (h : β → α) (mk0 : LI → β) (n : Nat) (f : Int → LI → LI → Option β)  (x0 : Int) (x1 : LI) (x2 : LI) : Fae.l3_0.r (fun a0 => (h (mk0 a0))) n (fun y0 y1 y2 => (f y0 y1 y2).map h) x0 x1 x2 = (Fae.l3_0.r mk0 n f x0 x1 x2).map h := by
  unfold Fae.l3_0.r
  exact (ite_map (ite_map (ite_map (ite_map (ite_map (ite_map rfl rfl) rfl) rfl) rfl) rfl) rfl)
theorem Fae.l3_0.gmap {α β : Type} (h : β → α) (mk0 : LI → β) (n : Nat) : ∀ (m : Nat) (x0 : Int) (x1 : LI) (x2 : LI), Fae.l3_0.g (fun a0 => (h (mk0 a0))) n m x0 x1 x2 = (Fae.l3_0.g mk0 n m x0 x1 x2).map h
  | 0, _, _, _ => rfl
  | m + 1, x0, x1, x2 => by
    unfold Fae.l3_0.g
    rw [← Fae.l3_0.rmap]
    congr
    · funext y0 y1 y2; exact Fae.l3_0.gmap h mk0 n m y0 y1 y2
theorem Fae.l3_0.pat_shape : ∀ st t, Fae.l3_0.pat st = some t → st = Fae.l3_0.shape t := fun _ _ h => by unfold Fae.l3_0.pat at h; split at h <;> cases h; rfl
def Fae.l3_0.k0 : LI → Ex × St := (fun a0 => (((.exit 0), (St.mk [(.own 0 1)] [(some (.ints .u8 a0))])) : Ex × St))
theorem Fae.l3_0.round (n : Nat) (rc : St → Option (Ex × St)) (x0 : Int) (x1 : LI) (x2 : LI) : Fae.R0 n rc ((St.mk [(.int .i64 x0), (.own 0 1), (.ptr 1 [])] [(some (.ints .u8 x1)), (some (.var (.ints .u64 4 x2)))])) = Fae.l3_0.r Fae.l3_0.k0 n (fun y0 y1 y2 => rc ((St.mk [(.int .i64 y0), (.own 0 1), (.ptr 1 [])] [(some (.ints .u8 y1)), (some (.var (.ints .u64 4 y2)))]))) x0 x1 x2 := by kernel_rfl
theorem Fae.l3_0.loop' (n : Nat) : ∀ (m : Nat) (t : (Int × (LI × LI))), loopOf (Fae.R0 n) m (Fae.l3_0.shape t) = Fae.l3_0.g Fae.l3_0.k0 n m t.1 t.2.1 t.2.2 :=
  loop_of_round (shape := Fae.l3_0.shape) (body := Fae.R0 n) (g := fun m t => Fae.l3_0.g Fae.l3_0.k0 n m t.1 t.2.1 t.2.2) (fun t => rfl)
    fun m t ih => (Fae.l3_0.round n (loopOf (Fae.R0 n) m) t.1 t.2.1 t.2.2).trans (congrFun (congrFun (congrFun (congrArg (Fae.l3_0.r Fae.l3_0.k0 n) (funext fun y0 => funext fun y1 => funext fun y2 => ih (y0, y1, y2))) t.1) t.2.1) t.2.2)
theorem Fae.l3_0.loop (n m : Nat) (t : (Int × (LI × LI))) : loopOf (Fae.R0 n) m (Fae.l3_0.shape t) = (Fae.l3_0.m n m t).map Fae.l3_0.res :=
  (Fae.l3_0.loop' n m t).trans (Fae.l3_0.gmap Fae.l3_0.res (fun a0 => a0) n m t.1 t.2.1 t.2.2)
theorem Fae.gmap {α β : Type} (h : β → α) (mk0 : LI → β) (n : Nat) (a0 : LI) : Fae.g (fun a0 => (h (mk0 a0))) n a0 = (Fae.g mk0 n a0).map h := by
  unfold Fae.g
  exact (bindO_map fun r2 => rfl)
theorem Fae.run (n : Nat) (a0 : LI) : runF (Fae.C n) (Fae.A n) n Tryd.f56 [(.ints .u64 4 a0)] [] (fun v o => some (v, o)) = Fae.g (fun a0 => (((.own 0 1), [(some (.ints .u8 a0))]) : AV × Blks)) n a0 := by kernel_rfl
theorem Fae.call (hmix : Tryd.prog.follows .mixedOrders = true) (n : Nat) (t : LI) (u) (h : Fae.m n t = some u) : FnC Tryd.prog abiG 56 (Fae.shape t).1 (Fae.shape t).2 (Fae.res u).1 (Fae.res u).2 :=
  fnC1 (C := Fae.C n) (A := Fae.A n) (fn := Tryd.f56) rfl .nil hmix Tryd.func56 (by kernel_rfl) (lp := [Fae.b0]) (by kernel_rfl) (.cons (show (Fae.A n).loop (key Fae.b0) = some (.mk' Fae.l3_0.pat (Fae.l3_0.m n n) Fae.l3_0.resK) by kernel_rfl) (LoopS.of (res := Fae.l3_0.res) (fun R u K => rfl) Fae.l3_0.pat_shape fun t => Fae.l3_0.loop n n t)
  .nil)
  (nj rfl) (by decide) rfl rfl (by show 1 ≤ Tryd.f56.ntmps; decide) (Fae.run n t) (Fae.gmap Fae.res (fun a0 => a0) n t) h
theorem Fae.s (hmix : Tryd.prog.follows .mixedOrders = true) (n : Nat) : CalleeS Tryd.prog abiG 56 (Fae.c n) :=
  .mk1 (res := Fae.res) (shape := Fae.shape) (fun R u K => rfl) (fun _ _ _ h => by unfold Fae.pat at h; split at h <;> cases h; rfl) (fun t u h => Fae.call hmix n t u h) Tryd.func56 (by decide) (by kernel_rfl)
end
section
noncomputable section
def Fav.l3_0.r {α : Type} (mk0 : LI → α) (n : Nat) (rc : Int → LI → LI → Option α)  (x0 : Int) (x1 : LI) (x2 : LI) : Option α :=
  if (decide (x0 < 32)) = true then
   if 0 ≤ (IntKind.wrap .i64 (Int.tdiv (IntKind.wrap .i64 (31 - x0)) 8)) then
    if (IntKind.wrap .i64 (Int.tdiv (IntKind.wrap .i64 (31 - x0)) 8)) < 4 then
     if 0 ≤ (IntKind.wrap .u64 (IntKind.wrap .i64 ((Int.tmod (IntKind.wrap .i64 (31 - x0)) 8) * 8))) then
      if ((((List.length x1) + 1) * 1) ≤ 70368744177664 ∧ ((List.length x1) + 1) ≤ 9223372036854775807) then
       rc (IntKind.wrap .i64 (x0 + 1)) (x1 ++ [(IntKind.wrap .u8 (ishr .u64 (List.getD x2 (Int.toNat (IntKind.wrap .i64 (Int.tdiv (IntKind.wrap .i64 (31 - x0)) 8))) 0) (IntKind.wrap .u64 (IntKind.wrap .i64 ((Int.tmod (IntKind.wrap .i64 (31 - x0)) 8) * 8)))))]) x2
      else
       none
     else
      none
    else
     none
   else
    none
  else
   some (mk0 x1)
def Fav.l3_0.g {α : Type} (mk0 : LI → α) (n : Nat) : Nat → Int → LI → LI → Option α
 | 0, _, _, _ => none
 | m + 1, x0, x1, x2 => Fav.l3_0.r mk0 n (fun y0 y1 y2 => Fav.l3_0.g mk0 n m y0 y1 y2)  x0 x1 x2
def Fav.l3_0.m (n m : Nat) (t : (Int × (LI × LI))) : Option LI := Fav.l3_0.g (fun a0 => a0) n m t.1 t.2.1 t.2.2
def Fav.g {α : Type} (mk0 : LI → α) (n : Nat) (a0 : LI) : Option α :=
 bindO (Fav.l3_0.m n n (0, [], a0)) fun r2 =>
  some (mk0 r2)
def Fav.m (n : Nat) (t : LI) : Option LI := Fav.g (fun a0 => a0) n t
end
end
section
noncomputable section
noncomputable def Faw.C (n : Nat) : Ctx := ⟨Tryd.prog, abiG, lookC [], fun _ => false⟩
noncomputable def Faw.A (n : Nat) : Ann := ⟨Tryd.f69.ntmps, 0, noNL, [], [none], fun k => match k with
 | _ => none, noNL, lookJ []⟩
def Faw.g {α : Type} (mk0 : LI → α) (n : Nat) (a0 : Int) : Option α :=
 some (mk0 [a0, 0, 0, 0])
def Faw.m (n : Nat) (t : Int) : Option LI := Faw.g (fun a0 => a0) n t
def Faw.pat : List AV → Blks → Option Int
 | [(.int .u64 a0)], [] => some a0
 | _, _ => none
def Faw.shape (t : Int) : List AV × Blks := ([(.int .u64 t)], [])
def Faw.res : LI → AV × Blks
 | u => ((.ints .u64 4 u), [])
def Faw.resK {R : Type} (u : LI) (K : AV → Blks → Option R) : Option R := K (Faw.res u).1 (Faw.res u).2
def Faw.c (n : Nat) : Abs.Callee := .mk' [] [none] Faw.pat (Faw.m n) Faw.resK
end
end
section
noncomputable section
noncomputable def Faf.C (n : Nat) : Ctx := ⟨Tryd.prog, abiG, lookC [(69, Faw.c n), (56, Fae.c n)], fun _ => false⟩
noncomputable def Faf.A (n : Nat) : Ann := ⟨Tryd.f61.ntmps, 0, noNL, [], [(some (.ints .u8))], fun k => match k with
 | _ => none, noNL, lookJ []⟩
def Faf.g {α : Type} (mk0 : LI → α) (n : Nat) (a0 : Int) : Option α :=
 bindO (Faw.m n (IntKind.wrap .u64 a0)) fun r2 =>
  bindO (Fae.m n r2) fun r4 =>
   some (mk0 r4)
def Faf.m (n : Nat) (t : Int) : Option LI := Faf.g (fun a0 => a0) n t
def Faf.pat : List AV → Blks → Option Int
 | [(.int .i64 a0)], [] => some a0
 | _, _ => none
def Faf.shape (t : Int) : List AV × Blks := ([(.int .i64 t)], [])
def Faf.res : LI → AV × Blks
 | u => ((.own 0 1), [(some (.ints .u8 u))])
def Faf.resK {R : Type} (u : LI) (K : AV → Blks → Option R) : Option R := K (Faf.res u).1 (Faf.res u).2
def Faf.c (n : Nat) : Abs.Callee := .mk' [] [none] Faf.pat (Faf.m n) Faf.resK
end
end
section
noncomputable section
noncomputable def Fag.C (n : Nat) : Ctx := ⟨Tryd.prog, abiG, lookC [(56, Fae.c n), (61, Faf.c n)], fun _ => false⟩
def Fag.live : NL := fun k => match k with
 | 3 => ([9, 8, 7, 3, 0, 4], [3, 4])
 | _ => ([], [])
def Fag.l3_0.r {α : Type} (mk0 : LI → LI → α) (n : Nat) (rc : Int → Int → LA → LA → LI → LI → Option α)  (x0 : Int) (x1 : Int) (x2 : LA) (x3 : LA) (x4 : LI) (x5 : LI) : Option α :=
  if (decide (x0 < x1)) = true then
   if 0 ≤ x0 then
    if x0 < (((List.length x2) : Nat) : Int) then
     bindO (tkAgg 3 (List.getD x2 (Int.toNat x0) AV.any)) fun r10 =>
      bindO (tkBool (List.getD r10 0 AV.any)) fun r12 =>
       bindO (tkInts .u64 4 (List.getD r10 1 AV.any)) fun r14 =>
        bindO (tkRints .u8 (List.getD r10 2 AV.any)) fun r16 =>
         if (!r12) = true then
          bindO (Fae.m n r14) fun r20 =>
           if ((((List.length x4) + (List.length r20)) * 1) ≤ 70368744177664 ∧ ((List.length x4) + (List.length r20)) ≤ 9223372036854775807) then
            rc (IntKind.wrap .i64 (x0 + 1)) x1 x2 x3 (x4 ++ r20) x5
           else
            none
         else
          bindO (Faf.m n (IntKind.wrap .i64 ((IntKind.wrap .i64 (32 * (((List.length x3) : Nat) : Int))) + (((List.length x5) : Nat) : Int)))) fun r20 =>
           if ((((List.length x4) + (List.length r20)) * 1) ≤ 70368744177664 ∧ ((List.length x4) + (List.length r20)) ≤ 9223372036854775807) then
            bindO (Faf.m n (((List.length r16) : Nat) : Int)) fun r24 =>
             if ((((List.length x5) + (List.length r24)) * 1) ≤ 70368744177664 ∧ ((List.length x5) + (List.length r24)) ≤ 9223372036854775807) then
              if ((((List.length (x5 ++ r24)) + (List.length r16)) * 1) ≤ 70368744177664 ∧ ((List.length (x5 ++ r24)) + (List.length r16)) ≤ 9223372036854775807) then
               if 0 ≤ (Int.tmod (IntKind.wrap .i64 (32 - (Int.tmod (((List.length r16) : Nat) : Int) 32))) 32) then
                if ((((List.length ((x5 ++ r24) ++ r16)) + (List.length (List.replicate (Int.toNat (Int.tmod (IntKind.wrap .i64 (32 - (Int.tmod (((List.length r16) : Nat) : Int) 32))) 32)) (0 : Int)))) * 1) ≤ 70368744177664 ∧ ((List.length ((x5 ++ r24) ++ r16)) + (List.length (List.replicate (Int.toNat (Int.tmod (IntKind.wrap .i64 (32 - (Int.tmod (((List.length r16) : Nat) : Int) 32))) 32)) (0 : Int)))) ≤ 9223372036854775807) then
                 rc (IntKind.wrap .i64 (x0 + 1)) x1 x2 x3 (x4 ++ r20) (((x5 ++ r24) ++ r16) ++ (List.replicate (Int.toNat (Int.tmod (IntKind.wrap .i64 (32 - (Int.tmod (((List.length r16) : Nat) : Int) 32))) 32)) (0 : Int)))
                else
                 none
               else
                none
              else
               none
             else
              none
           else
            none
    else
     none
   else
    none
  else
   some (mk0 x4 x5)
def Fag.l3_0.g {α : Type} (mk0 : LI → LI → α) (n : Nat) : Nat → Int → Int → LA → LA → LI → LI → Option α
 | 0, _, _, _, _, _, _ => none
 | m + 1, x0, x1, x2, x3, x4, x5 => Fag.l3_0.r mk0 n (fun y0 y1 y2 y3 y4 y5 => Fag.l3_0.g mk0 n m y0 y1 y2 y3 y4 y5)  x0 x1 x2 x3 x4 x5
def Fag.l3_0.m (n m : Nat) (t : (Int × (Int × (LA × (LA × (LI × LI)))))) : Option (LI × LI) := Fag.l3_0.g (fun a0 a1 => (a0, a1)) n m t.1 t.2.1 t.2.2.1 t.2.2.2.1 t.2.2.2.2.1 t.2.2.2.2.2
def Fag.l3_0.pat : St → Option (Int × (Int × (LA × (LA × (LI × LI)))))
 | (St.mk [(.int .i64 x0), (.int .i64 x1), (.robjs 69 6 x2), (.own 0 1), (.robjs 69 6 x3), (.own 1 1)] [(some (.ints .u8 x4)), (some (.ints .u8 x5))]) => some (x0, x1, x2, x3, x4, x5)
 | _ => none
def Fag.l3_0.shape (t : (Int × (Int × (LA × (LA × (LI × LI)))))) : St := (St.mk [(.int .i64 t.1), (.int .i64 t.2.1), (.robjs 69 6 t.2.2.1), (.own 0 1), (.robjs 69 6 t.2.2.2.1), (.own 1 1)] [(some (.ints .u8 t.2.2.2.2.1)), (some (.ints .u8 t.2.2.2.2.2))])
def Fag.l3_0.res : (LI × LI) → Ex × St
 | u => ((.exit 0), (St.mk [(.own 0 1), (.own 1 1)] [(some (.ints .u8 u.1)), (some (.ints .u8 u.2))]))
def Fag.l3_0.resK {R : Type} (u : (LI × LI)) (K : Ex → St → Option R) : Option R := K (Fag.l3_0.res u).1 (Fag.l3_0.res u).2
noncomputable def Fag.A (n : Nat) : Ann := ⟨Tryd.f20.ntmps, 0, Fag.live, [(0, (.objs 69 6)), (7, (.objs 69 6)), (3, (.ints .u8)), (4, (.ints .u8))], [(some (.ints .u8))], fun k => match k with
 | 3 => some (.mk' Fag.l3_0.pat (Fag.l3_0.m n n) Fag.l3_0.resK)
 | _ => none, noNL, lookJ []⟩
noncomputable def Fag.b0 : Code := (loopsIn (Tryd.f20.body.getD .skip)).getD 0 .skip
def Fag.g {α : Type} (mk0 : LI → α) (n : Nat) (a0 : LA) : Option α :=
 bindO (Fag.l3_0.m n n (0, (((List.length a0) : Nat) : Int), a0, a0, [], [])) fun r2 =>
  if ((((List.length r2.1) + (List.length r2.2)) * 1) ≤ 70368744177664 ∧ ((List.length r2.1) + (List.length r2.2)) ≤ 9223372036854775807) then
   some (mk0 (r2.1 ++ r2.2))
  else
   none
def Fag.m (n : Nat) (t : LA) : Option LI := Fag.g (fun a0 => a0) n t
def Fag.pat : List AV → Blks → Option LA
 | [(.robjs 69 6 a0)], [] => some a0
 | _, _ => none
def Fag.shape (t : LA) : List AV × Blks := ([(.robjs 69 6 t)], [])
def Fag.res : LI → AV × Blks
 | u => ((.own 0 1), [(some (.ints .u8 u))])
def Fag.resK {R : Type} (u : LI) (K : AV → Blks → Option R) : Option R := K (Fag.res u).1 (Fag.res u).2
def Fag.c (n : Nat) : Abs.Callee := .mk' [] [(some (.objs 69 6))] Fag.pat (Fag.m n) Fag.resK
end
end
section
theorem Faw.gmap {α β : Type} (h : β → α) (mk0 : LI → β) (n : Nat) (a0 : Int) : Faw.g (fun a0 => (h (mk0 a0))) n a0 = (Faw.g mk0 n a0).map h := by
  unfold Faw.g
  exact rfl
theorem Faw.run (n : Nat) (a0 : Int) : runF (Faw.C n) (Faw.A n) n Tryd.f69 [(.int .u64 a0)] [] (fun v o => some (v, o)) = Faw.g (fun a0 => (((.ints .u64 4 a0), []) : AV × Blks)) n a0 := by kernel_rfl
theorem Faw.call (hmix : Tryd.prog.follows .mixedOrders = true) (n : Nat) (t : Int) (u) (h : Faw.m n t = some u) : FnC Tryd.prog abiG 69 (Faw.shape t).1 (Faw.shape t).2 (Faw.res u).1 (Faw.res u).2 :=
  fnC1 (C := Faw.C n) (A := Faw.A n) (fn := Tryd.f69) rfl .nil hmix Tryd.func69 (by kernel_rfl) (lp := []) (by kernel_rfl) .nil
  (nj rfl) (by decide) rfl rfl (by show 1 ≤ Tryd.f69.ntmps; decide) (Faw.run n t) (Faw.gmap Faw.res (fun a0 => a0) n t) h
theorem Faw.s (hmix : Tryd.prog.follows .mixedOrders = true) (n : Nat) : CalleeS Tryd.prog abiG 69 (Faw.c n) :=
  .mk1 (res := Faw.res) (shape := Faw.shape) (fun R u K => rfl) (fun _ _ _ h => by unfold Faw.pat at h; split at h <;> cases h; rfl) (fun t u h => Faw.call hmix n t u h) Tryd.func69 (by decide) (by kernel_rfl)
end
section
theorem Faf.gmap {α β : Type} (h : β → α) (mk0 : LI → β) (n : Nat) (a0 : Int) : Faf.g (fun a0 => (h (mk0 a0))) n a0 = (Faf.g mk0 n a0).map h := by
  unfold Faf.g
  exact (bindO_map fun r2 => (bindO_map fun r4 => rfl))
theorem Faf.run (n : Nat) (a0 : Int) : runF (Faf.C n) (Faf.A n) n Tryd.f61 [(.int .i64 a0)] [] (fun v o => some (v, o)) = Faf.g (fun a0 => (((.own 0 1), [(some (.ints .u8 a0))]) : AV × Blks)) n a0 := by kernel_rfl
theorem Faf.call (hmix : Tryd.prog.follows .mixedOrders = true) (n : Nat) (t : Int) (u) (h : Faf.m n t = some u) : FnC Tryd.prog abiG 61 (Faf.shape t).1 (Faf.shape t).2 (Faf.res u).1 (Faf.res u).2 :=
  fnC1 (C := Faf.C n) (A := Faf.A n) (fn := Tryd.f61) rfl (.cons (Faw.s hmix n) (.cons (Fae.s hmix n) .nil)) hmix Tryd.func61 (by kernel_rfl) (lp := []) (by kernel_rfl) .nil
  (nj rfl) (by decide) rfl rfl (by show 1 ≤ Tryd.f61.ntmps; decide) (Faf.run n t) (Faf.gmap Faf.res (fun a0 => a0) n t) h
theorem Faf.s (hmix : Tryd.prog.follows .mixedOrders = true) (n : Nat) : CalleeS Tryd.prog abiG 61 (Faf.c n) :=
  .mk1 (res := Faf.res) (shape := Faf.shape) (fun R u K => rfl) (fun _ _ _ h => by unfold Faf.pat at h; split at h <;> cases h; rfl) (fun t u h => Faf.call hmix n t u h) Tryd.func61 (by decide) (by kernel_rfl)
end
section
noncomputable abbrev Fag.R0 (n : Nat) := roundOf (Fag.C n) (Fag.A n) n Fag.b0
theorem Fag.l3_0.rmap {α β : Type} (h : β → α) (mk0 : LI → LI → β) (n : Nat) (f : Int → Int → LA → LA → LI → LI → Option β)  (x0 : Int) (x1 : Int) (x2 : LA) (x3 : LA) (x4 : LI) (x5 : LI) : Fag.l3_0.r (fun a0 a1 => (h (mk0 a0 a1))) n (fun y0 y1 y2 y3 y4 y5 => (f y0 y1 y2 y3 y4 y5).map h) x0 x1 x2 x3 x4 x5 = (Fag.l3_0.r mk0 n f x0 x1 x2 x3 x4 x5).map h := by
  unfold Fag.l3_0.r
  exact (ite_map (ite_map (ite_map (bindO_map fun r10 => (bindO_map fun r12 => (bindO_map fun r14 => (bindO_map fun r16 => (ite_map (bindO_map fun r20 => (ite_map rfl rfl)) (bindO_map fun r20 => (ite_map (bindO_map fun r24 => (ite_map (ite_map (ite_map (ite_map rfl rfl) rfl) rfl) rfl)) rfl))))))) rfl) rfl) rfl)
theorem Fag.l3_0.gmap {α β : Type} (h : β → α) (mk0 : LI → LI → β) (n : Nat) : ∀ (m : Nat) (x0 : Int) (x1 : Int) (x2 : LA) (x3 : LA) (x4 : LI) (x5 : LI), Fag.l3_0.g (fun a0 a1 => (h (mk0 a0 a1))) n m x0 x1 x2 x3 x4 x5 = (Fag.l3_0.g mk0 n m x0 x1 x2 x3 x4 x5).map h
  | 0, _, _, _, _, _, _ => rfl
  | m + 1, x0, x1, x2, x3, x4, x5 => by
    unfold Fag.l3_0.g
    rw [← Fag.l3_0.rmap]
    congr
    · funext y0 y1 y2 y3 y4 y5; exact Fag.l3_0.gmap h mk0 n m y0 y1 y2 y3 y4 y5
theorem Fag.l3_0.pat_shape : ∀ st t, Fag.l3_0.pat st = some t → st = Fag.l3_0.shape t := fun _ _ h => by unfold Fag.l3_0.pat at h; split at h <;> cases h; rfl
def Fag.l3_0.k0 : LI → LI → Ex × St := (fun a0 a1 => (((.exit 0), (St.mk [(.own 0 1), (.own 1 1)] [(some (.ints .u8 a0)), (some (.ints .u8 a1))])) : Ex × St))
theorem Fag.l3_0.round (n : Nat) (rc : St → Option (Ex × St)) (x0 : Int) (x1 : Int) (x2 : LA) (x3 : LA) (x4 : LI) (x5 : LI) : Fag.R0 n rc ((St.mk [(.int .i64 x0), (.int .i64 x1), (.robjs 69 6 x2), (.own 0 1), (.robjs 69 6 x3), (.own 1 1)] [(some (.ints .u8 x4)), (some (.ints .u8 x5))])) = Fag.l3_0.r Fag.l3_0.k0 n (fun y0 y1 y2 y3 y4 y5 => rc ((St.mk [(.int .i64 y0), (.int .i64 y1), (.robjs 69 6 y2), (.own 0 1), (.robjs 69 6 y3), (.own 1 1)] [(some (.ints .u8 y4)), (some (.ints .u8 y5))]))) x0 x1 x2 x3 x4 x5 := by kernel_rfl
theorem Fag.l3_0.loop' (n : Nat) : ∀ (m : Nat) (t : (Int × (Int × (LA × (LA × (LI × LI)))))), loopOf (Fag.R0 n) m (Fag.l3_0.shape t) = Fag.l3_0.g Fag.l3_0.k0 n m t.1 t.2.1 t.2.2.1 t.2.2.2.1 t.2.2.2.2.1 t.2.2.2.2.2 :=
  loop_of_round (shape := Fag.l3_0.shape) (body := Fag.R0 n) (g := fun m t => Fag.l3_0.g Fag.l3_0.k0 n m t.1 t.2.1 t.2.2.1 t.2.2.2.1 t.2.2.2.2.1 t.2.2.2.2.2) (fun t => rfl)
    fun m t ih => (Fag.l3_0.round n (loopOf (Fag.R0 n) m) t.1 t.2.1 t.2.2.1 t.2.2.2.1 t.2.2.2.2.1 t.2.2.2.2.2).trans (congrFun (congrFun (congrFun (congrFun (congrFun (congrFun (congrArg (Fag.l3_0.r Fag.l3_0.k0 n) (funext fun y0 => funext fun y1 => funext fun y2 => funext fun y3 => funext fun y4 => funext fun y5 => ih (y0, y1, y2, y3, y4, y5))) t.1) t.2.1) t.2.2.1) t.2.2.2.1) t.2.2.2.2.1) t.2.2.2.2.2)
theorem Fag.l3_0.loop (n m : Nat) (t : (Int × (Int × (LA × (LA × (LI × LI)))))) : loopOf (Fag.R0 n) m (Fag.l3_0.shape t) = (Fag.l3_0.m n m t).map Fag.l3_0.res :=
  (Fag.l3_0.loop' n m t).trans (Fag.l3_0.gmap Fag.l3_0.res (fun a0 a1 => (a0, a1)) n m t.1 t.2.1 t.2.2.1 t.2.2.2.1 t.2.2.2.2.1 t.2.2.2.2.2)
theorem Fag.gmap {α β : Type} (h : β → α) (mk0 : LI → β) (n : Nat) (a0 : LA) : Fag.g (fun a0 => (h (mk0 a0))) n a0 = (Fag.g mk0 n a0).map h := by
  unfold Fag.g
  exact (bindO_map fun r2 => (ite_map rfl rfl))
theorem Fag.run (n : Nat) (a0 : LA) : runF (Fag.C n) (Fag.A n) n Tryd.f20 [(.robjs 69 6 a0)] [] (fun v o => some (v, o)) = Fag.g (fun a0 => (((.own 0 1), [(some (.ints .u8 a0))]) : AV × Blks)) n a0 := by kernel_rfl
theorem Fag.call (hmix : Tryd.prog.follows .mixedOrders = true) (n : Nat) (t : LA) (u) (h : Fag.m n t = some u) : FnC Tryd.prog abiG 20 (Fag.shape t).1 (Fag.shape t).2 (Fag.res u).1 (Fag.res u).2 :=
  fnC1 (C := Fag.C n) (A := Fag.A n) (fn := Tryd.f20) rfl (.cons (Fae.s hmix n) (.cons (Faf.s hmix n) .nil)) hmix Tryd.func20 (by kernel_rfl) (lp := [Fag.b0]) (by kernel_rfl) (.cons (show (Fag.A n).loop (key Fag.b0) = some (.mk' Fag.l3_0.pat (Fag.l3_0.m n n) Fag.l3_0.resK) by kernel_rfl) (LoopS.of (res := Fag.l3_0.res) (fun R u K => rfl) Fag.l3_0.pat_shape fun t => Fag.l3_0.loop n n t)
  .nil)
  (nj rfl) (by decide) rfl rfl (by show 1 ≤ Tryd.f20.ntmps; decide) (Fag.run n t) (Fag.gmap Fag.res (fun a0 => a0) n t) h
theorem Fag.s (hmix : Tryd.prog.follows .mixedOrders = true) (n : Nat) : CalleeS Tryd.prog abiG 20 (Fag.c n) :=
  .mk1 (res := Fag.res) (shape := Fag.shape) (fun R u K => rfl) (fun _ _ _ h => by unfold Fag.pat at h; split at h <;> cases h; rfl) (fun t u h => Fag.call hmix n t u h) Tryd.func20 (by decide) (by kernel_rfl)
end
section
noncomputable section
noncomputable def Fbg.C (n : Nat) : Ctx := ⟨Tryd.prog, abiG, lookC [], fun _ => false⟩
noncomputable def Fbg.A (n : Nat) : Ann := ⟨Tryd.f51.ntmps, 0, noNL, [], [none], fun k => match k with
 | _ => none, noNL, lookJ []⟩
def Fbg.g {α : Type} (mk0 : LI → α) (n : Nat) (a0 : Int) : Option α :=
 some (mk0 [a0, 0, 0, 0])
def Fbg.m (n : Nat) (t : Int) : Option LI := Fbg.g (fun a0 => a0) n t
def Fbg.pat : List AV → Blks → Option Int
 | [(.int .u64 a0)], [] => some a0
 | _, _ => none
def Fbg.shape (t : Int) : List AV × Blks := ([(.int .u64 t)], [])
def Fbg.res : LI → AV × Blks
 | u => ((.ints .u64 4 u), [])
def Fbg.resK {R : Type} (u : LI) (K : AV → Blks → Option R) : Option R := K (Fbg.res u).1 (Fbg.res u).2
def Fbg.c (n : Nat) : Abs.Callee := .mk' [] [none] Fbg.pat (Fbg.m n) Fbg.resK
end
end
section
theorem Fbg.gmap {α β : Type} (h : β → α) (mk0 : LI → β) (n : Nat) (a0 : Int) : Fbg.g (fun a0 => (h (mk0 a0))) n a0 = (Fbg.g mk0 n a0).map h := by
  unfold Fbg.g
  exact rfl
theorem Fbg.run (n : Nat) (a0 : Int) : runF (Fbg.C n) (Fbg.A n) n Tryd.f51 [(.int .u64 a0)] [] (fun v o => some (v, o)) = Fbg.g (fun a0 => (((.ints .u64 4 a0), []) : AV × Blks)) n a0 := by kernel_rfl
theorem Fbg.call (hmix : Tryd.prog.follows .mixedOrders = true) (n : Nat) (t : Int) (u) (h : Fbg.m n t = some u) : FnC Tryd.prog abiG 51 (Fbg.shape t).1 (Fbg.shape t).2 (Fbg.res u).1 (Fbg.res u).2 :=
  fnC1 (C := Fbg.C n) (A := Fbg.A n) (fn := Tryd.f51) rfl .nil hmix Tryd.func51 (by kernel_rfl) (lp := []) (by kernel_rfl) .nil
  (nj rfl) (by decide) rfl rfl (by show 1 ≤ Tryd.f51.ntmps; decide) (Fbg.run n t) (Fbg.gmap Fbg.res (fun a0 => a0) n t) h
theorem Fbg.s (hmix : Tryd.prog.follows .mixedOrders = true) (n : Nat) : CalleeS Tryd.prog abiG 51 (Fbg.c n) :=
  .mk1 (res := Fbg.res) (shape := Fbg.shape) (fun R u K => rfl) (fun _ _ _ h => by unfold Fbg.pat at h; split at h <;> cases h; rfl) (fun t u h => Fbg.call hmix n t u h) Tryd.func51 (by decide) (by kernel_rfl)
end
section
noncomputable section
noncomputable def Fc.C (n : Nat) : Ctx := ⟨Tryd.prog, abiG, lookC [], fun _ => false⟩
noncomputable def Fc.A (n : Nat) : Ann := ⟨Tryd.f117.ntmps, 0, noNL, [], [(some (.ints .u8))], fun k => match k with
 | _ => none, noNL, lookJ []⟩
def Fc.g {α : Type} (mk0 : LI → α) (n : Nat) (sz : Int) : Option α :=
 if (decide (sz < 0)) = true then
  none
 else
  if (decide ((IntKind.wrap .i64 (sz - 0)) > 0)) = true then
   if 0 ≤ (IntKind.wrap .i64 (sz - 0)) then
    if (((List.length (List.replicate (Int.toNat (IntKind.wrap .i64 (sz - 0))) (0 : Int))) * 1) ≤ 70368744177664 ∧ (List.length (List.replicate (Int.toNat (IntKind.wrap .i64 (sz - 0))) (0 : Int))) ≤ 9223372036854775807) then
     some (mk0 [])
    else
     none
   else
    none
  else
   some (mk0 [])
def Fc.m (n : Nat) (t : Int) : Option LI := Fc.g (fun a0 => a0) n t
def Fc.pat : List AV → Blks → Option Int
 | [.snil, (.int .i64 sz)], [] => some sz
 | _, _ => none
def Fc.shape (t : Int) : List AV × Blks := ([.snil, (.int .i64 t)], [])
def Fc.res : LI → AV × Blks
 | u => ((.own 0 1), [(some (.ints .u8 u))])
def Fc.resK {R : Type} (u : LI) (K : AV → Blks → Option R) : Option R := K (Fc.res u).1 (Fc.res u).2
def Fc.c (n : Nat) : Abs.Callee := .mk' [] [none, none] Fc.pat (Fc.m n) Fc.resK
end
end
section
noncomputable section
noncomputable def Fa.C (n : Nat) : Ctx := ⟨Tryd.prog, abiG, lookC [(117, Fc.c n)], fun _ => false⟩
def Fa.live : NL := fun k => match k with
 | 3 => ([11, 10, 9, 3, 0], [3, 0])
 | 11 => ([27, 26, 25, 6], [6])
 | _ => ([], [])
def Fa.l3_0.r {α : Type} (mk0 : Int → LA → α) (n : Nat) (rc : Int → Int → LA → Int → LA → Option α)  (x0 : Int) (x1 : Int) (x2 : LA) (x3 : Int) (x4 : LA) : Option α :=
  if (decide (x0 < x1)) = true then
   if 0 ≤ x0 then
    if x0 < (((List.length x2) : Nat) : Int) then
     bindO (tkRints .u8 (List.getD x2 (Int.toNat x0) AV.any)) fun r10 =>
      if (decide ((IntKind.wrap .i64 (x3 + (((List.length r10) : Nat) : Int))) < 0)) = true then
       none
      else
       rc (IntKind.wrap .i64 (x0 + 1)) x1 x2 (IntKind.wrap .i64 (x3 + (((List.length r10) : Nat) : Int))) x4
    else
     none
   else
    none
  else
   some (mk0 x3 x4)
def Fa.l3_0.g {α : Type} (mk0 : Int → LA → α) (n : Nat) : Nat → Int → Int → LA → Int → LA → Option α
 | 0, _, _, _, _, _ => none
 | m + 1, x0, x1, x2, x3, x4 => Fa.l3_0.r mk0 n (fun y0 y1 y2 y3 y4 => Fa.l3_0.g mk0 n m y0 y1 y2 y3 y4)  x0 x1 x2 x3 x4
def Fa.l3_0.m (n m : Nat) (t : (Int × (Int × (LA × (Int × LA))))) : Option (Int × LA) := Fa.l3_0.g (fun a0 a1 => (a0, a1)) n m t.1 t.2.1 t.2.2.1 t.2.2.2.1 t.2.2.2.2
def Fa.l3_0.pat : St → Option (Int × (Int × (LA × (Int × LA))))
 | (St.mk [(.int .i64 x0), (.int .i64 x1), (.robjs 26 1 x2), (.int .i64 x3), (.robjs 26 1 x4)] []) => some (x0, x1, x2, x3, x4)
 | _ => none
def Fa.l3_0.shape (t : (Int × (Int × (LA × (Int × LA))))) : St := (St.mk [(.int .i64 t.1), (.int .i64 t.2.1), (.robjs 26 1 t.2.2.1), (.int .i64 t.2.2.2.1), (.robjs 26 1 t.2.2.2.2)] [])
def Fa.l3_0.res : (Int × LA) → Ex × St
 | u => ((.exit 0), (St.mk [(.int .i64 u.1), (.robjs 26 1 u.2)] []))
def Fa.l3_0.resK {R : Type} (u : (Int × LA)) (K : Ex → St → Option R) : Option R := K (Fa.l3_0.res u).1 (Fa.l3_0.res u).2
def Fa.l11_0.r {α : Type} (mk0 : LI → α) (n : Nat) (rc : Int → Int → LA → LI → Option α)  (x0 : Int) (x1 : Int) (x2 : LA) (x3 : LI) : Option α :=
  if (decide (x0 < x1)) = true then
   if 0 ≤ x0 then
    if x0 < (((List.length x2) : Nat) : Int) then
     bindO (tkRints .u8 (List.getD x2 (Int.toNat x0) AV.any)) fun r10 =>
      if ((((List.length x3) + (List.length r10)) * 1) ≤ 70368744177664 ∧ ((List.length x3) + (List.length r10)) ≤ 9223372036854775807) then
       rc (IntKind.wrap .i64 (x0 + 1)) x1 x2 (x3 ++ r10)
      else
       none
    else
     none
   else
    none
  else
   some (mk0 x3)
def Fa.l11_0.g {α : Type} (mk0 : LI → α) (n : Nat) : Nat → Int → Int → LA → LI → Option α
 | 0, _, _, _, _ => none
 | m + 1, x0, x1, x2, x3 => Fa.l11_0.r mk0 n (fun y0 y1 y2 y3 => Fa.l11_0.g mk0 n m y0 y1 y2 y3)  x0 x1 x2 x3
def Fa.l11_0.m (n m : Nat) (t : (Int × (Int × (LA × LI)))) : Option LI := Fa.l11_0.g (fun a0 => a0) n m t.1 t.2.1 t.2.2.1 t.2.2.2
def Fa.l11_0.pat : St → Option (Int × (Int × (LA × LI)))
 | (St.mk [(.int .i64 x0), (.int .i64 x1), (.robjs 26 1 x2), (.own 0 1)] [(some (.ints .u8 x3))]) => some (x0, x1, x2, x3)
 | _ => none
def Fa.l11_0.shape (t : (Int × (Int × (LA × LI)))) : St := (St.mk [(.int .i64 t.1), (.int .i64 t.2.1), (.robjs 26 1 t.2.2.1), (.own 0 1)] [(some (.ints .u8 t.2.2.2))])
def Fa.l11_0.res : LI → Ex × St
 | u => ((.exit 2), (St.mk [(.own 0 1)] [(some (.ints .u8 u))]))
def Fa.l11_0.resK {R : Type} (u : LI) (K : Ex → St → Option R) : Option R := K (Fa.l11_0.res u).1 (Fa.l11_0.res u).2
noncomputable def Fa.A (n : Nat) : Ann := ⟨Tryd.f99.ntmps, 0, Fa.live, [(0, (.objs 26 1)), (9, (.objs 26 1)), (25, (.objs 26 1)), (6, (.ints .u8))], [(some (.ints .u8))], fun k => match k with
 | 3 => some (.mk' Fa.l3_0.pat (Fa.l3_0.m n n) Fa.l3_0.resK)
 | 11 => some (.mk' Fa.l11_0.pat (Fa.l11_0.m n n) Fa.l11_0.resK)
 | _ => none, noNL, lookJ []⟩
noncomputable def Fa.b0 : Code := (loopsIn (Tryd.f99.body.getD .skip)).getD 0 .skip
noncomputable def Fa.b1 : Code := (loopsIn (Tryd.f99.body.getD .skip)).getD 1 .skip
def Fa.g {α : Type} (mk0 : LI → α) (n : Nat) (a0 : LA) : Option α :=
 bindO (Fa.l3_0.m n n (0, (((List.length a0) : Nat) : Int), a0, 0, a0)) fun r2 =>
  bindO (Fc.m n r2.1) fun r4 =>
   bindO (Fa.l11_0.m n n (0, (((List.length r2.2) : Nat) : Int), r2.2, r4)) fun r6 =>
    some (mk0 r6)
def Fa.m (n : Nat) (t : LA) : Option LI := Fa.g (fun a0 => a0) n t
def Fa.pat : List AV → Blks → Option LA
 | [(.robjs 26 1 a0)], [] => some a0
 | _, _ => none
def Fa.shape (t : LA) : List AV × Blks := ([(.robjs 26 1 t)], [])
def Fa.res : LI → AV × Blks
 | u => ((.own 0 1), [(some (.ints .u8 u))])
def Fa.resK {R : Type} (u : LI) (K : AV → Blks → Option R) : Option R := K (Fa.res u).1 (Fa.res u).2
def Fa.c (n : Nat) : Abs.Callee := .mk' [] [(some (.objs 26 1))] Fa.pat (Fa.m n) Fa.resK
end
end
section
theorem Fc.gmap {α β : Type} (h : β → α) (mk0 : LI → β) (n : Nat) (sz : Int) : Fc.g (fun a0 => (h (mk0 a0))) n sz = (Fc.g mk0 n sz).map h := by
  unfold Fc.g
  exact (ite_map rfl (ite_map (ite_map (ite_map rfl rfl) rfl) rfl))
theorem Fc.run (n : Nat) (sz : Int) : runF (Fc.C n) (Fc.A n) n Tryd.f117 [.snil, (.int .i64 sz)] [] (fun v o => some (v, o)) = Fc.g (fun a0 => (((.own 0 1), [(some (.ints .u8 a0))]) : AV × Blks)) n sz := by kernel_rfl
theorem Fc.call (hmix : Tryd.prog.follows .mixedOrders = true) (n : Nat) (t : Int) (u) (h : Fc.m n t = some u) : FnC Tryd.prog abiG 117 (Fc.shape t).1 (Fc.shape t).2 (Fc.res u).1 (Fc.res u).2 :=
  fnC1 (C := Fc.C n) (A := Fc.A n) (fn := Tryd.f117) rfl .nil hmix Tryd.func117 (by kernel_rfl) (lp := []) (by kernel_rfl) .nil
  (nj rfl) (by decide) rfl rfl (by show 2 ≤ Tryd.f117.ntmps; decide) (Fc.run n t) (Fc.gmap Fc.res (fun a0 => a0) n t) h
theorem Fc.s (hmix : Tryd.prog.follows .mixedOrders = true) (n : Nat) : CalleeS Tryd.prog abiG 117 (Fc.c n) :=
  .mk1 (res := Fc.res) (shape := Fc.shape) (fun R u K => rfl) (fun _ _ _ h => by unfold Fc.pat at h; split at h <;> cases h; rfl) (fun t u h => Fc.call hmix n t u h) Tryd.func117 (by decide) (by kernel_rfl)
end
section
noncomputable abbrev Fa.R0 (n : Nat) := roundOf (Fa.C n) (Fa.A n) n Fa.b0
noncomputable abbrev Fa.R1 (n : Nat) := roundOf (Fa.C n) (Fa.A n) n Fa.b1
theorem Fa.l3_0.rmap {α β : Type} (h : β → α) (mk0 : Int → LA → β) (n : Nat) (f : Int → Int → LA → Int → LA → Option β)  (x0 : Int) (x1 : Int) (x2 : LA) (x3 : Int) (x4 : LA) : Fa.l3_0.r (fun a0 a1 => (h (mk0 a0 a1))) n (fun y0 y1 y2 y3 y4 => (f y0 y1 y2 y3 y4).map h) x0 x1 x2 x3 x4 = (Fa.l3_0.r mk0 n f x0 x1 x2 x3 x4).map h := by
  unfold Fa.l3_0.r
  exact (ite_map (ite_map (ite_map (bindO_map fun r10 => (ite_map rfl rfl)) rfl) rfl) rfl)
theorem Fa.l3_0.gmap {α β : Type} (h : β → α) (mk0 : Int → LA → β) (n : Nat) : ∀ (m : Nat) (x0 : Int) (x1 : Int) (x2 : LA) (x3 : Int) (x4 : LA), Fa.l3_0.g (fun a0 a1 => (h (mk0 a0 a1))) n m x0 x1 x2 x3 x4 = (Fa.l3_0.g mk0 n m x0 x1 x2 x3 x4).map h
  | 0, _, _, _, _, _ => rfl
  | m + 1, x0, x1, x2, x3, x4 => by
    unfold Fa.l3_0.g
    rw [← Fa.l3_0.rmap]
    congr
    · funext y0 y1 y2 y3 y4; exact Fa.l3_0.gmap h mk0 n m y0 y1 y2 y3 y4
theorem Fa.l3_0.pat_shape : ∀ st t, Fa.l3_0.pat st = some t → st = Fa.l3_0.shape t := fun _ _ h => by unfold Fa.l3_0.pat at h; split at h <;> cases h; rfl
def Fa.l3_0.k0 : Int → LA → Ex × St := (fun a0 a1 => (((.exit 0), (St.mk [(.int .i64 a0), (.robjs 26 1 a1)] [])) : Ex × St))
theorem Fa.l3_0.round (n : Nat) (rc : St → Option (Ex × St)) (x0 : Int) (x1 : Int) (x2 : LA) (x3 : Int) (x4 : LA) : Fa.R0 n rc ((St.mk [(.int .i64 x0), (.int .i64 x1), (.robjs 26 1 x2), (.int .i64 x3), (.robjs 26 1 x4)] [])) = Fa.l3_0.r Fa.l3_0.k0 n (fun y0 y1 y2 y3 y4 => rc ((St.mk [(.int .i64 y0), (.int .i64 y1), (.robjs 26 1 y2), (.int .i64 y3), (.robjs 26 1 y4)] []))) x0 x1 x2 x3 x4 := by kernel_rfl
theorem Fa.l3_0.loop' (n : Nat) : ∀ (m : Nat) (t : (Int × (Int × (LA × (Int × LA))))), loopOf (Fa.R0 n) m (Fa.l3_0.shape t) = Fa.l3_0.g Fa.l3_0.k0 n m t.1 t.2.1 t.2.2.1 t.2.2.2.1 t.2.2.2.2 :=
  loop_of_round (shape := Fa.l3_0.shape) (body := Fa.R0 n) (g := fun m t => Fa.l3_0.g Fa.l3_0.k0 n m t.1 t.2.1 t.2.2.1 t.2.2.2.1 t.2.2.2.2) (fun t => rfl)
    fun m t ih => (Fa.l3_0.round n (loopOf (Fa.R0 n) m) t.1 t.2.1 t.2.2.1 t.2.2.2.1 t.2.2.2.2).trans (congrFun (congrFun (congrFun (congrFun (congrFun (congrArg (Fa.l3_0.r Fa.l3_0.k0 n) (funext fun y0 => funext fun y1 => funext fun y2 => funext fun y3 => funext fun y4 => ih (y0, y1, y2, y3, y4))) t.1) t.2.1) t.2.2.1) t.2.2.2.1) t.2.2.2.2)
theorem Fa.l3_0.loop (n m : Nat) (t : (Int × (Int × (LA × (Int × LA))))) : loopOf (Fa.R0 n) m (Fa.l3_0.shape t) = (Fa.l3_0.m n m t).map Fa.l3_0.res :=
  (Fa.l3_0.loop' n m t).trans (Fa.l3_0.gmap Fa.l3_0.res (fun a0 a1 => (a0, a1)) n m t.1 t.2.1 t.2.2.1 t.2.2.2.1 t.2.2.2.2)
theorem Fa.l11_0.rmap {α β : Type} (h : β → α) (mk0 : LI → β) (n : Nat) (f : Int → Int → LA → LI → Option β)  (x0 : Int) (x1 : Int) (x2 : LA) (x3 : LI) : Fa.l11_0.r (fun a0 => (h (mk0 a0))) n (fun y0 y1 y2 y3 => (f y0 y1 y2 y3).map h) x0 x1 x2 x3 = (Fa.l11_0.r mk0 n f x0 x1 x2 x3).map h := by
  unfold Fa.l11_0.r
  exact (ite_map (ite_map (ite_map (bindO_map fun r10 => (ite_map rfl rfl)) rfl) rfl) rfl)
theorem Fa.l11_0.gmap {α β : Type} (h : β → α) (mk0 : LI → β) (n : Nat) : ∀ (m : Nat) (x0 : Int) (x1 : Int) (x2 : LA) (x3 : LI), Fa.l11_0.g (fun a0 => (h (mk0 a0))) n m x0 x1 x2 x3 = (Fa.l11_0.g mk0 n m x0 x1 x2 x3).map h
  | 0, _, _, _, _ => rfl
  | m + 1, x0, x1, x2, x3 => by
    unfold Fa.l11_0.g
    rw [← Fa.l11_0.rmap]
    congr
    · funext y0 y1 y2 y3; exact Fa.l11_0.gmap h mk0 n m y0 y1 y2 y3
theorem Fa.l11_0.pat_shape : ∀ st t, Fa.l11_0.pat st = some t → st = Fa.l11_0.shape t := fun _ _ h => by unfold Fa.l11_0.pat at h; split at h <;> cases h; rfl
def Fa.l11_0.k0 : LI → Ex × St := (fun a0 => (((.exit 2), (St.mk [(.own 0 1)] [(some (.ints .u8 a0))])) : Ex × St))
theorem Fa.l11_0.round (n : Nat) (rc : St → Option (Ex × St)) (x0 : Int) (x1 : Int) (x2 : LA) (x3 : LI) : Fa.R1 n rc ((St.mk [(.int .i64 x0), (.int .i64 x1), (.robjs 26 1 x2), (.own 0 1)] [(some (.ints .u8 x3))])) = Fa.l11_0.r Fa.l11_0.k0 n (fun y0 y1 y2 y3 => rc ((St.mk [(.int .i64 y0), (.int .i64 y1), (.robjs 26 1 y2), (.own 0 1)] [(some (.ints .u8 y3))]))) x0 x1 x2 x3 := by kernel_rfl
theorem Fa.l11_0.loop' (n : Nat) : ∀ (m : Nat) (t : (Int × (Int × (LA × LI)))), loopOf (Fa.R1 n) m (Fa.l11_0.shape t) = Fa.l11_0.g Fa.l11_0.k0 n m t.1 t.2.1 t.2.2.1 t.2.2.2 :=
  loop_of_round (shape := Fa.l11_0.shape) (body := Fa.R1 n) (g := fun m t => Fa.l11_0.g Fa.l11_0.k0 n m t.1 t.2.1 t.2.2.1 t.2.2.2) (fun t => rfl)
    fun m t ih => (Fa.l11_0.round n (loopOf (Fa.R1 n) m) t.1 t.2.1 t.2.2.1 t.2.2.2).trans (congrFun (congrFun (congrFun (congrFun (congrArg (Fa.l11_0.r Fa.l11_0.k0 n) (funext fun y0 => funext fun y1 => funext fun y2 => funext fun y3 => ih (y0, y1, y2, y3))) t.1) t.2.1) t.2.2.1) t.2.2.2)
theorem Fa.l11_0.loop (n m : Nat) (t : (Int × (Int × (LA × LI)))) : loopOf (Fa.R1 n) m (Fa.l11_0.shape t) = (Fa.l11_0.m n m t).map Fa.l11_0.res :=
  (Fa.l11_0.loop' n m t).trans (Fa.l11_0.gmap Fa.l11_0.res (fun a0 => a0) n m t.1 t.2.1 t.2.2.1 t.2.2.2)
theorem Fa.gmap {α β : Type} (h : β → α) (mk0 : LI → β) (n : Nat) (a0 : LA) : Fa.g (fun a0 => (h (mk0 a0))) n a0 = (Fa.g mk0 n a0).map h := by
  unfold Fa.g
  exact (bindO_map fun r2 => (bindO_map fun r4 => (bindO_map fun r6 => rfl)))
theorem Fa.run (n : Nat) (a0 : LA) : runF (Fa.C n) (Fa.A n) n Tryd.f99 [(.robjs 26 1 a0)] [] (fun v o => some (v, o)) = Fa.g (fun a0 => (((.own 0 1), [(some (.ints .u8 a0))]) : AV × Blks)) n a0 := by kernel_rfl
theorem Fa.call (hmix : Tryd.prog.follows .mixedOrders = true) (n : Nat) (t : LA) (u) (h : Fa.m n t = some u) : FnC Tryd.prog abiG 99 (Fa.shape t).1 (Fa.shape t).2 (Fa.res u).1 (Fa.res u).2 :=
  fnC1 (C := Fa.C n) (A := Fa.A n) (fn := Tryd.f99) rfl (.cons (Fc.s hmix n) .nil) hmix Tryd.func99 (by kernel_rfl) (lp := [Fa.b0, Fa.b1]) (by kernel_rfl) (.cons (show (Fa.A n).loop (key Fa.b0) = some (.mk' Fa.l3_0.pat (Fa.l3_0.m n n) Fa.l3_0.resK) by kernel_rfl) (LoopS.of (res := Fa.l3_0.res) (fun R u K => rfl) Fa.l3_0.pat_shape fun t => Fa.l3_0.loop n n t)
  (.cons (show (Fa.A n).loop (key Fa.b1) = some (.mk' Fa.l11_0.pat (Fa.l11_0.m n n) Fa.l11_0.resK) by kernel_rfl) (LoopS.of (res := Fa.l11_0.res) (fun R u K => rfl) Fa.l11_0.pat_shape fun t => Fa.l11_0.loop n n t)
  .nil))
  (nj rfl) (by decide) rfl rfl (by show 1 ≤ Tryd.f99.ntmps; decide) (Fa.run n t) (Fa.gmap Fa.res (fun a0 => a0) n t) h
theorem Fa.s (hmix : Tryd.prog.follows .mixedOrders = true) (n : Nat) : CalleeS Tryd.prog abiG 99 (Fa.c n) :=
  .mk1 (res := Fa.res) (shape := Fa.shape) (fun R u K => rfl) (fun _ _ _ h => by unfold Fa.pat at h; split at h <;> cases h; rfl) (fun t u h => Fa.call hmix n t u h) Tryd.func99 (by decide) (by kernel_rfl)
end
section
noncomputable section
noncomputable def Fp.C (n : Nat) : Ctx := ⟨Tryd.prog, abiG, lookC [(99, Fa.c n)], fun _ => false⟩
noncomputable def Fp.A (n : Nat) : Ann := ⟨Tryd.f70.ntmps, 0, noNL, [], [none], fun k => match k with
 | _ => none, noNL, lookJ []⟩
def Fp.g {α : Type} (mk0 : Bool → LI → LI → α) (n : Nat) (a0 : LA) : Option α :=
 bindO (Fa.m n a0) fun r2 =>
  some (mk0 true [0, 0, 0, 0] r2)
def Fp.m (n : Nat) (t : LA) : Option (Bool × (LI × LI)) := Fp.g (fun a0 a1 a2 => (a0, a1, a2)) n t
def Fp.pat : List AV → Blks → Option LA
 | [(.robjs 26 1 a0)], [] => some a0
 | _, _ => none
def Fp.shape (t : LA) : List AV × Blks := ([(.robjs 26 1 t)], [])
def Fp.res : (Bool × (LI × LI)) → AV × Blks
 | u => ((.agg [(.bool u.1), (.ints .u64 4 u.2.1), (.own 0 1)]), [(some (.ints .u8 u.2.2))])
def Fp.resK {R : Type} (u : (Bool × (LI × LI))) (K : AV → Blks → Option R) : Option R := K (Fp.res u).1 (Fp.res u).2
def Fp.c (n : Nat) : Abs.Callee := .mk' [] [(some (.objs 26 1))] Fp.pat (Fp.m n) Fp.resK
end
end
section
theorem Fp.gmap {α β : Type} (h : β → α) (mk0 : Bool → LI → LI → β) (n : Nat) (a0 : LA) : Fp.g (fun a0 a1 a2 => (h (mk0 a0 a1 a2))) n a0 = (Fp.g mk0 n a0).map h := by
  unfold Fp.g
  exact (bindO_map fun r2 => rfl)
theorem Fp.run (n : Nat) (a0 : LA) : runF (Fp.C n) (Fp.A n) n Tryd.f70 [(.robjs 26 1 a0)] [] (fun v o => some (v, o)) = Fp.g (fun a0 a1 a2 => (((.agg [(.bool a0), (.ints .u64 4 a1), (.own 0 1)]), [(some (.ints .u8 a2))]) : AV × Blks)) n a0 := by kernel_rfl
theorem Fp.call (hmix : Tryd.prog.follows .mixedOrders = true) (n : Nat) (t : LA) (u) (h : Fp.m n t = some u) : FnC Tryd.prog abiG 70 (Fp.shape t).1 (Fp.shape t).2 (Fp.res u).1 (Fp.res u).2 :=
  fnC1 (C := Fp.C n) (A := Fp.A n) (fn := Tryd.f70) rfl (.cons (Fa.s hmix n) .nil) hmix Tryd.func70 (by kernel_rfl) (lp := []) (by kernel_rfl) .nil
  (nj rfl) (by decide) rfl rfl (by show 1 ≤ Tryd.f70.ntmps; decide) (Fp.run n t) (Fp.gmap Fp.res (fun a0 a1 a2 => (a0, a1, a2)) n t) h
theorem Fp.s (hmix : Tryd.prog.follows .mixedOrders = true) (n : Nat) : CalleeS Tryd.prog abiG 70 (Fp.c n) :=
  .mk1 (res := Fp.res) (shape := Fp.shape) (fun R u K => rfl) (fun _ _ _ h => by unfold Fp.pat at h; split at h <;> cases h; rfl) (fun t u h => Fp.call hmix n t u h) Tryd.func70 (by decide) (by kernel_rfl)
end
section
noncomputable section
noncomputable def Fcb.C (n : Nat) : Ctx := ⟨Tryd.prog, abiG, lookC [], fun _ => false⟩
noncomputable def Fcb.A (n : Nat) : Ann := ⟨Tryd.f128.ntmps, 0, noNL, [], [none], fun k => match k with
 | _ => none, noNL, lookJ []⟩
def Fcb.g {α : Type} (mk0 : Bool → α) (n : Nat) (a0 : LI) (a1 : Int) : Option α :=
 if 0 ≤ (IntKind.wrap .i64 (Int.tdiv a1 64)) then
  if (IntKind.wrap .i64 (Int.tdiv a1 64)) < 4 then
   if 0 ≤ (IntKind.wrap .u64 (Int.tmod a1 64)) then
    some (mk0 ((ibits BinOp.and .u64 (ishr .u64 (List.getD a0 (Int.toNat (IntKind.wrap .i64 (Int.tdiv a1 64))) 0) (IntKind.wrap .u64 (Int.tmod a1 64))) 1) == 1))
   else
    none
  else
   none
 else
  none
def Fcb.m (n : Nat) (t : (LI × Int)) : Option Bool := Fcb.g (fun a0 => a0) n t.1 t.2
def Fcb.pat : List AV → Blks → Option (LI × Int)
 | [(.ints .u64 4 a0), (.int .i64 a1)], [] => some (a0, a1)
 | _, _ => none
def Fcb.shape (t : (LI × Int)) : List AV × Blks := ([(.ints .u64 4 t.1), (.int .i64 t.2)], [])
def Fcb.res : Bool → AV × Blks
 | u => ((.bool u), [])
def Fcb.resK {R : Type} (u : Bool) (K : AV → Blks → Option R) : Option R := K (Fcb.res u).1 (Fcb.res u).2
def Fcb.c (n : Nat) : Abs.Callee := .mk' [] [none, none] Fcb.pat (Fcb.m n) Fcb.resK
end
end
section
theorem Fcb.gmap {α β : Type} (h : β → α) (mk0 : Bool → β) (n : Nat) (a0 : LI) (a1 : Int) : Fcb.g (fun a0 => (h (mk0 a0))) n a0 a1 = (Fcb.g mk0 n a0 a1).map h := by
  unfold Fcb.g
  exact (ite_map (ite_map (ite_map rfl rfl) rfl) rfl)
theorem Fcb.run (n : Nat) (a0 : LI) (a1 : Int) : runF (Fcb.C n) (Fcb.A n) n Tryd.f128 [(.ints .u64 4 a0), (.int .i64 a1)] [] (fun v o => some (v, o)) = Fcb.g (fun a0 => (((.bool a0), []) : AV × Blks)) n a0 a1 := by kernel_rfl
theorem Fcb.call (hmix : Tryd.prog.follows .mixedOrders = true) (n : Nat) (t : (LI × Int)) (u) (h : Fcb.m n t = some u) : FnC Tryd.prog abiG 128 (Fcb.shape t).1 (Fcb.shape t).2 (Fcb.res u).1 (Fcb.res u).2 :=
  fnC1 (C := Fcb.C n) (A := Fcb.A n) (fn := Tryd.f128) rfl .nil hmix Tryd.func128 (by kernel_rfl) (lp := []) (by kernel_rfl) .nil
  (nj rfl) (by decide) rfl rfl (by show 2 ≤ Tryd.f128.ntmps; decide) (Fcb.run n t.1 t.2) (Fcb.gmap Fcb.res (fun a0 => a0) n t.1 t.2) h
theorem Fcb.s (hmix : Tryd.prog.follows .mixedOrders = true) (n : Nat) : CalleeS Tryd.prog abiG 128 (Fcb.c n) :=
  .mk1 (res := Fcb.res) (shape := Fcb.shape) (fun R u K => rfl) (fun _ _ _ h => by unfold Fcb.pat at h; split at h <;> cases h; rfl) (fun t u h => Fcb.call hmix n t u h) Tryd.func128 (by decide) (by kernel_rfl)
end
section
noncomputable section
def Faj.m (n : Nat) (t : (Int × (Int × Int))) : Option (Int × Int) := xAdd64 t
def Faj.pat : List AV → Blks → Option (Int × (Int × Int))
 | [(.int .u64 a0), (.int .u64 a1), (.int .u64 a2)], [] => some (a0, a1, a2)
 | _, _ => none
def Faj.shape (t : (Int × (Int × Int))) : List AV × Blks := ([(.int .u64 t.1), (.int .u64 t.2.1), (.int .u64 t.2.2)], [])
def Faj.res : (Int × Int) → AV × Blks
 | u => ((.tup [(.int .u64 u.1), (.int .u64 u.2)]), [])
def Faj.resK {R : Type} (u : (Int × Int)) (K : AV → Blks → Option R) : Option R := K (Faj.res u).1 (Faj.res u).2
def Faj.c (n : Nat) : Abs.Callee := .mk' [] [none, none, none] Faj.pat (Faj.m n) Faj.resK
end
end
section
noncomputable section
noncomputable def Fbk.C (n : Nat) : Ctx := ⟨Tryd.prog, abiG, lookC [(103, Faj.c n)], fun _ => false⟩
def Fbk.live : NL := fun k => match k with
 | 4 => ([9, 2, 3, 7, 6, 4], [6, 7, 4])
 | _ => ([], [])
def Fbk.l4_0.r {α : Type} (mk0 : Int → LI → LI → α) (n : Nat) (rc : Int → Int → LI → LI → LI → LI → Option α)  (x0 : Int) (x1 : Int) (x2 : LI) (x3 : LI) (x4 : LI) (x5 : LI) : Option α :=
  if (decide (x0 < 4)) = true then
   if 0 ≤ x0 then
    if x0 < 4 then
     if 0 ≤ x0 then
      if x0 < 4 then
       bindO (Faj.m n ((List.getD x2 (Int.toNat x0) 0), (List.getD x3 (Int.toNat x0) 0), x1)) fun r14 =>
        if 0 ≤ x0 then
         if x0 < 4 then
          rc (IntKind.wrap .i64 (x0 + 1)) r14.2 x2 x3 (List.set x4 (Int.toNat x0) r14.1) x5
         else
          none
        else
         none
      else
       none
     else
      none
    else
     none
   else
    none
  else
   some (mk0 x1 x4 x5)
def Fbk.l4_0.g {α : Type} (mk0 : Int → LI → LI → α) (n : Nat) : Nat → Int → Int → LI → LI → LI → LI → Option α
 | 0, _, _, _, _, _, _ => none
 | m + 1, x0, x1, x2, x3, x4, x5 => Fbk.l4_0.r mk0 n (fun y0 y1 y2 y3 y4 y5 => Fbk.l4_0.g mk0 n m y0 y1 y2 y3 y4 y5)  x0 x1 x2 x3 x4 x5
def Fbk.l4_0.m (n m : Nat) (t : (Int × (Int × (LI × (LI × (LI × LI)))))) : Option (Int × (LI × LI)) := Fbk.l4_0.g (fun a0 a1 a2 => (a0, a1, a2)) n m t.1 t.2.1 t.2.2.1 t.2.2.2.1 t.2.2.2.2.1 t.2.2.2.2.2
def Fbk.l4_0.pat : St → Option (Int × (Int × (LI × (LI × (LI × LI)))))
 | (St.mk [(.int .i64 x0), (.ptr 0 []), (.ptr 1 []), (.int .u64 x1), (.ptr 2 []), (.ptr 3 [])] [(some (.var (.ints .u64 4 x2))), (some (.var (.ints .u64 4 x3))), (some (.var (.ints .u64 4 x4))), (some (.var (.ints .u64 4 x5)))]) => some (x0, x1, x2, x3, x4, x5)
 | _ => none
def Fbk.l4_0.shape (t : (Int × (Int × (LI × (LI × (LI × LI)))))) : St := (St.mk [(.int .i64 t.1), (.ptr 0 []), (.ptr 1 []), (.int .u64 t.2.1), (.ptr 2 []), (.ptr 3 [])] [(some (.var (.ints .u64 4 t.2.2.1))), (some (.var (.ints .u64 4 t.2.2.2.1))), (some (.var (.ints .u64 4 t.2.2.2.2.1))), (some (.var (.ints .u64 4 t.2.2.2.2.2)))])
def Fbk.l4_0.res : (Int × (LI × LI)) → Ex × St
 | u => ((.exit 0), (St.mk [(.ptr 0 []), (.int .u64 u.1), (.ptr 1 [])] [(some (.var (.ints .u64 4 u.2.1))), (some (.var (.ints .u64 4 u.2.2)))]))
def Fbk.l4_0.resK {R : Type} (u : (Int × (LI × LI))) (K : Ex → St → Option R) : Option R := K (Fbk.l4_0.res u).1 (Fbk.l4_0.res u).2
noncomputable def Fbk.A (n : Nat) : Ann := ⟨Tryd.f85.ntmps, 0, Fbk.live, [], [none, none], fun k => match k with
 | 4 => some (.mk' Fbk.l4_0.pat (Fbk.l4_0.m n n) Fbk.l4_0.resK)
 | _ => none, noNL, lookJ []⟩
noncomputable def Fbk.b0 : Code := (loopsIn (Tryd.f85.body.getD .skip)).getD 0 .skip
def Fbk.g {α : Type} (mk0 : LI → Bool → α) (n : Nat) (a0 : LI) (a1 : LI) : Option α :=
 bindO (Fbk.l4_0.m n n (0, 0, a0, a1, [0, 0, 0, 0], [0, 0, 0, 0])) fun r2 =>
  some (mk0 r2.2.1 (r2.1 != 0))
def Fbk.m (n : Nat) (t : (LI × LI)) : Option (LI × Bool) := Fbk.g (fun a0 a1 => (a0, a1)) n t.1 t.2
def Fbk.pat : List AV → Blks → Option (LI × LI)
 | [(.ints .u64 4 a0), (.ints .u64 4 a1)], [] => some (a0, a1)
 | _, _ => none
def Fbk.shape (t : (LI × LI)) : List AV × Blks := ([(.ints .u64 4 t.1), (.ints .u64 4 t.2)], [])
def Fbk.res : (LI × Bool) → AV × Blks
 | u => ((.tup [(.ints .u64 4 u.1), (.bool u.2)]), [])
def Fbk.resK {R : Type} (u : (LI × Bool)) (K : AV → Blks → Option R) : Option R := K (Fbk.res u).1 (Fbk.res u).2
def Fbk.c (n : Nat) : Abs.Callee := .mk' [] [none, none] Fbk.pat (Fbk.m n) Fbk.resK
end
end
section
theorem Faj.ok (hmix : Tryd.prog.follows .mixedOrders = true) (n : Nat) (t) (u) (h : Faj.m n t = some u) : FnOK Tryd.prog abiG 103 (Faj.shape t).1 (Faj.shape t).2 (Faj.res u).1 (Faj.res u).2 :=
  xAdd64_ok Tryd.func103 (by kernel_rfl) (by kernel_rfl) (by kernel_rfl) (show Go.Extern.find Tryd.f103 = some add64Entry by kernel_rfl) t u h
theorem Faj.s (hmix : Tryd.prog.follows .mixedOrders = true) (n : Nat) : CalleeS Tryd.prog abiG 103 (Faj.c n) :=
  CalleeS.of (res := Faj.res) (shape := Faj.shape) (fun R u K => rfl) (fun args lent t h => by
    unfold Faj.pat at h
    split at h
    · cases h; rfl
    · cases h) fun t u h => Faj.ok hmix n t u h
end
section
noncomputable abbrev Fbk.R0 (n : Nat) := roundOf (Fbk.C n) (Fbk.A n) n Fbk.b0
theorem Fbk.l4_0.rmap {α β : Type} (h : β → α) (mk0 : Int → LI → LI → β) (n : Nat) (f : Int → Int → LI → LI → LI → LI → Option β)  (x0 : Int) (x1 : Int) (x2 : LI) (x3 : LI) (x4 : LI) (x5 : LI) : Fbk.l4_0.r (fun a0 a1 a2 => (h (mk0 a0 a1 a2))) n (fun y0 y1 y2 y3 y4 y5 => (f y0 y1 y2 y3 y4 y5).map h) x0 x1 x2 x3 x4 x5 = (Fbk.l4_0.r mk0 n f x0 x1 x2 x3 x4 x5).map h := by
  unfold Fbk.l4_0.r
  exact (ite_map (ite_map (ite_map (ite_map (ite_map (bindO_map fun r14 => (ite_map (ite_map rfl rfl) rfl)) rfl) rfl) rfl) rfl) rfl)
theorem Fbk.l4_0.gmap {α β : Type} (h : β → α) (mk0 : Int → LI → LI → β) (n : Nat) : ∀ (m : Nat) (x0 : Int) (x1 : Int) (x2 : LI) (x3 : LI) (x4 : LI) (x5 : LI), Fbk.l4_0.g (fun a0 a1 a2 => (h (mk0 a0 a1 a2))) n m x0 x1 x2 x3 x4 x5 = (Fbk.l4_0.g mk0 n m x0 x1 x2 x3 x4 x5).map h
  | 0, _, _, _, _, _, _ => rfl
  | m + 1, x0, x1, x2, x3, x4, x5 => by
    unfold Fbk.l4_0.g
    rw [← Fbk.l4_0.rmap]
    congr
    · funext y0 y1 y2 y3 y4 y5; exact Fbk.l4_0.gmap h mk0 n m y0 y1 y2 y3 y4 y5
theorem Fbk.l4_0.pat_shape : ∀ st t, Fbk.l4_0.pat st = some t → st = Fbk.l4_0.shape t := fun _ _ h => by unfold Fbk.l4_0.pat at h; split at h <;> cases h; rfl
def Fbk.l4_0.k0 : Int → LI → LI → Ex × St := (fun a0 a1 a2 => (((.exit 0), (St.mk [(.ptr 0 []), (.int .u64 a0), (.ptr 1 [])] [(some (.var (.ints .u64 4 a1))), (some (.var (.ints .u64 4 a2)))])) : Ex × St))
theorem Fbk.l4_0.round (n : Nat) (rc : St → Option (Ex × St)) (x0 : Int) (x1 : Int) (x2 : LI) (x3 : LI) (x4 : LI) (x5 : LI) : Fbk.R0 n rc ((St.mk [(.int .i64 x0), (.ptr 0 []), (.ptr 1 []), (.int .u64 x1), (.ptr 2 []), (.ptr 3 [])] [(some (.var (.ints .u64 4 x2))), (some (.var (.ints .u64 4 x3))), (some (.var (.ints .u64 4 x4))), (some (.var (.ints .u64 4 x5)))])) = Fbk.l4_0.r Fbk.l4_0.k0 n (fun y0 y1 y2 y3 y4 y5 => rc ((St.mk [(.int .i64 y0), (.ptr 0 []), (.ptr 1 []), (.int .u64 y1), (.ptr 2 []), (.ptr 3 [])] [(some (.var (.ints .u64 4 y2))), (some (.var (.ints .u64 4 y3))), (some (.var (.ints .u64 4 y4))), (some (.var (.ints .u64 4 y5)))]))) x0 x1 x2 x3 x4 x5 := by kernel_rfl
theorem Fbk.l4_0.loop' (n : Nat) : ∀ (m : Nat) (t : (Int × (Int × (LI × (LI × (LI × LI)))))), loopOf (Fbk.R0 n) m (Fbk.l4_0.shape t) = Fbk.l4_0.g Fbk.l4_0.k0 n m t.1 t.2.1 t.2.2.1 t.2.2.2.1 t.2.2.2.2.1 t.2.2.2.2.2 :=
  loop_of_round (shape := Fbk.l4_0.shape) (body := Fbk.R0 n) (g := fun m t => Fbk.l4_0.g Fbk.l4_0.k0 n m t.1 t.2.1 t.2.2.1 t.2.2.2.1 t.2.2.2.2.1 t.2.2.2.2.2) (fun t => rfl)
    fun m t ih => (Fbk.l4_0.round n (loopOf (Fbk.R0 n) m) t.1 t.2.1 t.2.2.1 t.2.2.2.1 t.2.2.2.2.1 t.2.2.2.2.2).trans (congrFun (congrFun (congrFun (congrFun (congrFun (congrFun (congrArg (Fbk.l4_0.r Fbk.l4_0.k0 n) (funext fun y0 => funext fun y1 => funext fun y2 => funext fun y3 => funext fun y4 => funext fun y5 => ih (y0, y1, y2, y3, y4, y5))) t.1) t.2.1) t.2.2.1) t.2.2.2.1) t.2.2.2.2.1) t.2.2.2.2.2)
theorem Fbk.l4_0.loop (n m : Nat) (t : (Int × (Int × (LI × (LI × (LI × LI)))))) : loopOf (Fbk.R0 n) m (Fbk.l4_0.shape t) = (Fbk.l4_0.m n m t).map Fbk.l4_0.res :=
  (Fbk.l4_0.loop' n m t).trans (Fbk.l4_0.gmap Fbk.l4_0.res (fun a0 a1 a2 => (a0, a1, a2)) n m t.1 t.2.1 t.2.2.1 t.2.2.2.1 t.2.2.2.2.1 t.2.2.2.2.2)
theorem Fbk.gmap {α β : Type} (h : β → α) (mk0 : LI → Bool → β) (n : Nat) (a0 : LI) (a1 : LI) : Fbk.g (fun a0 a1 => (h (mk0 a0 a1))) n a0 a1 = (Fbk.g mk0 n a0 a1).map h := by
  unfold Fbk.g
  exact (bindO_map fun r2 => rfl)
theorem Fbk.run (n : Nat) (a0 : LI) (a1 : LI) : runF (Fbk.C n) (Fbk.A n) n Tryd.f85 [(.ints .u64 4 a0), (.ints .u64 4 a1)] [] (fun v o => some (v, o)) = Fbk.g (fun a0 a1 => (((.tup [(.ints .u64 4 a0), (.bool a1)]), []) : AV × Blks)) n a0 a1 := by kernel_rfl
theorem Fbk.call (hmix : Tryd.prog.follows .mixedOrders = true) (n : Nat) (t : (LI × LI)) (u) (h : Fbk.m n t = some u) : FnC Tryd.prog abiG 85 (Fbk.shape t).1 (Fbk.shape t).2 (Fbk.res u).1 (Fbk.res u).2 :=
  fnC1 (C := Fbk.C n) (A := Fbk.A n) (fn := Tryd.f85) rfl (.cons (Faj.s hmix n) .nil) hmix Tryd.func85 (by kernel_rfl) (lp := [Fbk.b0]) (by kernel_rfl) (.cons (show (Fbk.A n).loop (key Fbk.b0) = some (.mk' Fbk.l4_0.pat (Fbk.l4_0.m n n) Fbk.l4_0.resK) by kernel_rfl) (LoopS.of (res := Fbk.l4_0.res) (fun R u K => rfl) Fbk.l4_0.pat_shape fun t => Fbk.l4_0.loop n n t)
  .nil)
  (nj rfl) (by decide) rfl rfl (by show 2 ≤ Tryd.f85.ntmps; decide) (Fbk.run n t.1 t.2) (Fbk.gmap Fbk.res (fun a0 a1 => (a0, a1)) n t.1 t.2) h
theorem Fbk.s (hmix : Tryd.prog.follows .mixedOrders = true) (n : Nat) : CalleeS Tryd.prog abiG 85 (Fbk.c n) :=
  .mk1 (res := Fbk.res) (shape := Fbk.shape) (fun R u K => rfl) (fun _ _ _ h => by unfold Fbk.pat at h; split at h <;> cases h; rfl) (fun t u h => Fbk.call hmix n t u h) Tryd.func85 (by decide) (by kernel_rfl)
end
section
noncomputable section
noncomputable def Fcd.C (n : Nat) : Ctx := ⟨Tryd.prog, abiG, lookC [], fun _ => false⟩
def Fcd.live : NL := fun k => match k with
 | 2 => ([5, 2, 3], [4])
 | _ => ([], [])
def Fcd.l2_0.r {α : Type} (mk0 : Int → α) (mk1 : α) (n : Nat) (rc : Int → LI → LI → Option α)  (x0 : Int) (x1 : LI) (x2 : LI) : Option α :=
  if (decide (x0 ≥ 0)) = true then
   if 0 ≤ x0 then
    if x0 < 4 then
     if 0 ≤ x0 then
      if x0 < 4 then
       if (decide ((List.getD x1 (Int.toNat x0) 0) < (List.getD x2 (Int.toNat x0) 0))) = true then
        some (mk0 (-1))
       else
        if 0 ≤ x0 then
         if x0 < 4 then
          if 0 ≤ x0 then
           if x0 < 4 then
            if (decide ((List.getD x1 (Int.toNat x0) 0) > (List.getD x2 (Int.toNat x0) 0))) = true then
             some (mk0 1)
            else
             rc (IntKind.wrap .i64 (x0 - 1)) x1 x2
           else
            none
          else
           none
         else
          none
        else
         none
      else
       none
     else
      none
    else
     none
   else
    none
  else
   some (mk1)
def Fcd.l2_0.g {α : Type} (mk0 : Int → α) (mk1 : α) (n : Nat) : Nat → Int → LI → LI → Option α
 | 0, _, _, _ => none
 | m + 1, x0, x1, x2 => Fcd.l2_0.r mk0 mk1 n (fun y0 y1 y2 => Fcd.l2_0.g mk0 mk1 n m y0 y1 y2)  x0 x1 x2
def Fcd.l2_0.m (n m : Nat) (t : (Int × (LI × LI))) : Option (Int ⊕ Unit) := Fcd.l2_0.g (fun a0 => (.inl a0)) (.inr ()) n m t.1 t.2.1 t.2.2
def Fcd.l2_0.pat : St → Option (Int × (LI × LI))
 | (St.mk [(.int .i64 x0), (.ptr 0 []), (.ptr 1 [])] [(some (.var (.ints .u64 4 x1))), (some (.var (.ints .u64 4 x2)))]) => some (x0, x1, x2)
 | _ => none
def Fcd.l2_0.shape (t : (Int × (LI × LI))) : St := (St.mk [(.int .i64 t.1), (.ptr 0 []), (.ptr 1 [])] [(some (.var (.ints .u64 4 t.2.1))), (some (.var (.ints .u64 4 t.2.2)))])
def Fcd.l2_0.res : (Int ⊕ Unit) → Ex × St
 | (.inl u) => (.ret, (St.mk [(.int .i64 u)] []))
 | (.inr u) => ((.exit 0), (St.mk [.any] []))
def Fcd.l2_0.resK {R : Type} (u : (Int ⊕ Unit)) (K : Ex → St → Option R) : Option R := match u with
 | (.inl u) => (fun p : Ex × St => K p.1 p.2) (.ret, (St.mk [(.int .i64 u)] []))
 | (.inr u) => (fun p : Ex × St => K p.1 p.2) ((.exit 0), (St.mk [.any] []))
noncomputable def Fcd.A (n : Nat) : Ann := ⟨Tryd.f49.ntmps, 0, Fcd.live, [], [none], fun k => match k with
 | 2 => some (.mk' Fcd.l2_0.pat (Fcd.l2_0.m n n) Fcd.l2_0.resK)
 | _ => none, noNL, lookJ []⟩
noncomputable def Fcd.b0 : Code := (loopsIn (Tryd.f49.body.getD .skip)).getD 0 .skip
def Fcd.g {α : Type} (mk0 : Int → α) (n : Nat) (a0 : LI) (a1 : LI) : Option α :=
 bindO (Fcd.l2_0.m n n (3, a0, a1)) fun r2 => match r2 with
  | (.inl r2) =>
   some (mk0 r2)
  | (.inr r2) =>
   some (mk0 0)
def Fcd.m (n : Nat) (t : (LI × LI)) : Option Int := Fcd.g (fun a0 => a0) n t.1 t.2
def Fcd.pat : List AV → Blks → Option (LI × LI)
 | [(.ints .u64 4 a0), (.ints .u64 4 a1)], [] => some (a0, a1)
 | _, _ => none
def Fcd.shape (t : (LI × LI)) : List AV × Blks := ([(.ints .u64 4 t.1), (.ints .u64 4 t.2)], [])
def Fcd.res : Int → AV × Blks
 | u => ((.int .i64 u), [])
def Fcd.resK {R : Type} (u : Int) (K : AV → Blks → Option R) : Option R := K (Fcd.res u).1 (Fcd.res u).2
def Fcd.c (n : Nat) : Abs.Callee := .mk' [] [none, none] Fcd.pat (Fcd.m n) Fcd.resK
end
end
section
noncomputable abbrev Fcd.R0 (n : Nat) := roundOf (Fcd.C n) (Fcd.A n) n Fcd.b0
theorem Fcd.l2_0.rmap {α β : Type} (h : β → α) (mk0 : Int → β) (mk1 : β) (n : Nat) (f : Int → LI → LI → Option β)  (x0 : Int) (x1 : LI) (x2 : LI) : Fcd.l2_0.r (fun a0 => (h (mk0 a0))) (h mk1) n (fun y0 y1 y2 => (f y0 y1 y2).map h) x0 x1 x2 = (Fcd.l2_0.r mk0 mk1 n f x0 x1 x2).map h := by
  unfold Fcd.l2_0.r
  exact (ite_map (ite_map (ite_map (ite_map (ite_map (ite_map rfl (ite_map (ite_map (ite_map (ite_map (ite_map rfl rfl) rfl) rfl) rfl) rfl)) rfl) rfl) rfl) rfl) rfl)
theorem Fcd.l2_0.gmap {α β : Type} (h : β → α) (mk0 : Int → β) (mk1 : β) (n : Nat) : ∀ (m : Nat) (x0 : Int) (x1 : LI) (x2 : LI), Fcd.l2_0.g (fun a0 => (h (mk0 a0))) (h mk1) n m x0 x1 x2 = (Fcd.l2_0.g mk0 mk1 n m x0 x1 x2).map h
  | 0, _, _, _ => rfl
  | m + 1, x0, x1, x2 => by
    unfold Fcd.l2_0.g
    rw [← Fcd.l2_0.rmap]
    congr
    · funext y0 y1 y2; exact Fcd.l2_0.gmap h mk0 mk1 n m y0 y1 y2
theorem Fcd.l2_0.pat_shape : ∀ st t, Fcd.l2_0.pat st = some t → st = Fcd.l2_0.shape t := fun _ _ h => by unfold Fcd.l2_0.pat at h; split at h <;> cases h; rfl
def Fcd.l2_0.k0 : Int → Ex × St := (fun a0 => ((.ret, (St.mk [(.int .i64 a0)] [])) : Ex × St))
def Fcd.l2_0.k1 : Ex × St := (((.exit 0), (St.mk [.any] [])) : Ex × St)
theorem Fcd.l2_0.round (n : Nat) (rc : St → Option (Ex × St)) (x0 : Int) (x1 : LI) (x2 : LI) : Fcd.R0 n rc ((St.mk [(.int .i64 x0), (.ptr 0 []), (.ptr 1 [])] [(some (.var (.ints .u64 4 x1))), (some (.var (.ints .u64 4 x2)))])) = Fcd.l2_0.r Fcd.l2_0.k0 Fcd.l2_0.k1 n (fun y0 y1 y2 => rc ((St.mk [(.int .i64 y0), (.ptr 0 []), (.ptr 1 [])] [(some (.var (.ints .u64 4 y1))), (some (.var (.ints .u64 4 y2)))]))) x0 x1 x2 := by kernel_rfl
theorem Fcd.l2_0.loop' (n : Nat) : ∀ (m : Nat) (t : (Int × (LI × LI))), loopOf (Fcd.R0 n) m (Fcd.l2_0.shape t) = Fcd.l2_0.g Fcd.l2_0.k0 Fcd.l2_0.k1 n m t.1 t.2.1 t.2.2 :=
  loop_of_round (shape := Fcd.l2_0.shape) (body := Fcd.R0 n) (g := fun m t => Fcd.l2_0.g Fcd.l2_0.k0 Fcd.l2_0.k1 n m t.1 t.2.1 t.2.2) (fun t => rfl)
    fun m t ih => (Fcd.l2_0.round n (loopOf (Fcd.R0 n) m) t.1 t.2.1 t.2.2).trans (congrFun (congrFun (congrFun (congrArg (Fcd.l2_0.r Fcd.l2_0.k0 Fcd.l2_0.k1 n) (funext fun y0 => funext fun y1 => funext fun y2 => ih (y0, y1, y2))) t.1) t.2.1) t.2.2)
theorem Fcd.l2_0.loop (n m : Nat) (t : (Int × (LI × LI))) : loopOf (Fcd.R0 n) m (Fcd.l2_0.shape t) = (Fcd.l2_0.m n m t).map Fcd.l2_0.res :=
  (Fcd.l2_0.loop' n m t).trans (Fcd.l2_0.gmap Fcd.l2_0.res (fun a0 => (.inl a0)) (.inr ()) n m t.1 t.2.1 t.2.2)
theorem Fcd.gmap {α β : Type} (h : β → α) (mk0 : Int → β) (n : Nat) (a0 : LI) (a1 : LI) : Fcd.g (fun a0 => (h (mk0 a0))) n a0 a1 = (Fcd.g mk0 n a0 a1).map h := by
  unfold Fcd.g
  exact (bindO_map fun r2 => match r2 with | (.inl r2) => rfl | (.inr r2) => rfl)
theorem Fcd.run (n : Nat) (a0 : LI) (a1 : LI) : runF (Fcd.C n) (Fcd.A n) n Tryd.f49 [(.ints .u64 4 a0), (.ints .u64 4 a1)] [] (fun v o => some (v, o)) = Fcd.g (fun a0 => (((.int .i64 a0), []) : AV × Blks)) n a0 a1 := by kernel_rfl
theorem Fcd.call (hmix : Tryd.prog.follows .mixedOrders = true) (n : Nat) (t : (LI × LI)) (u) (h : Fcd.m n t = some u) : FnC Tryd.prog abiG 49 (Fcd.shape t).1 (Fcd.shape t).2 (Fcd.res u).1 (Fcd.res u).2 :=
  fnC1 (C := Fcd.C n) (A := Fcd.A n) (fn := Tryd.f49) rfl .nil hmix Tryd.func49 (by kernel_rfl) (lp := [Fcd.b0]) (by kernel_rfl) (.cons (show (Fcd.A n).loop (key Fcd.b0) = some (.mk' Fcd.l2_0.pat (Fcd.l2_0.m n n) Fcd.l2_0.resK) by kernel_rfl) (LoopS.of (res := Fcd.l2_0.res) (fun R u K => by rcases u with u | u <;> rfl) Fcd.l2_0.pat_shape fun t => Fcd.l2_0.loop n n t)
  .nil)
  (nj rfl) (by decide) rfl rfl (by show 2 ≤ Tryd.f49.ntmps; decide) (Fcd.run n t.1 t.2) (Fcd.gmap Fcd.res (fun a0 => a0) n t.1 t.2) h
theorem Fcd.s (hmix : Tryd.prog.follows .mixedOrders = true) (n : Nat) : CalleeS Tryd.prog abiG 49 (Fcd.c n) :=
  .mk1 (res := Fcd.res) (shape := Fcd.shape) (fun R u K => rfl) (fun _ _ _ h => by unfold Fcd.pat at h; split at h <;> cases h; rfl) (fun t u h => Fcd.call hmix n t u h) Tryd.func49 (by decide) (by kernel_rfl)
end
section
noncomputable section
noncomputable def Fak.C (n : Nat) : Ctx := ⟨Tryd.prog, abiG, lookC [], fun _ => false⟩
noncomputable def Fak.A (n : Nat) : Ann := ⟨Tryd.f118.ntmps, 0, noNL, [], [none, none], fun k => match k with
 | _ => none, noNL, lookJ []⟩
def Fak.g {α : Type} (mk0 : Int → Int → α) (n : Nat) (a0 : Int) (a1 : Int) : Option α :=
 some (mk0 (IntKind.wrap .u64 ((IntKind.wrap .u64 ((IntKind.wrap .u64 ((ishr .u64 a0 32) * (ishr .u64 a1 32))) + (ishr .u64 (IntKind.wrap .u64 ((IntKind.wrap .u64 ((ishr .u64 a0 32) * (ibits BinOp.and .u64 a1 4294967295))) + (ishr .u64 (IntKind.wrap .u64 ((ibits BinOp.and .u64 a0 4294967295) * (ibits BinOp.and .u64 a1 4294967295))) 32))) 32))) + (ishr .u64 (IntKind.wrap .u64 ((ibits BinOp.and .u64 (IntKind.wrap .u64 ((IntKind.wrap .u64 ((ishr .u64 a0 32) * (ibits BinOp.and .u64 a1 4294967295))) + (ishr .u64 (IntKind.wrap .u64 ((ibits BinOp.and .u64 a0 4294967295) * (ibits BinOp.and .u64 a1 4294967295))) 32))) 4294967295) + (IntKind.wrap .u64 ((ibits BinOp.and .u64 a0 4294967295) * (ishr .u64 a1 32))))) 32))) (IntKind.wrap .u64 (a0 * a1)))
def Fak.m (n : Nat) (t : (Int × Int)) : Option (Int × Int) := Fak.g (fun a0 a1 => (a0, a1)) n t.1 t.2
def Fak.pat : List AV → Blks → Option (Int × Int)
 | [(.int .u64 a0), (.int .u64 a1)], [] => some (a0, a1)
 | _, _ => none
def Fak.shape (t : (Int × Int)) : List AV × Blks := ([(.int .u64 t.1), (.int .u64 t.2)], [])
def Fak.res : (Int × Int) → AV × Blks
 | u => ((.tup [(.int .u64 u.1), (.int .u64 u.2)]), [])
def Fak.resK {R : Type} (u : (Int × Int)) (K : AV → Blks → Option R) : Option R := K (Fak.res u).1 (Fak.res u).2
def Fak.c (n : Nat) : Abs.Callee := .mk' [] [none, none] Fak.pat (Fak.m n) Fak.resK
end
end
section
theorem Fak.gmap {α β : Type} (h : β → α) (mk0 : Int → Int → β) (n : Nat) (a0 : Int) (a1 : Int) : Fak.g (fun a0 a1 => (h (mk0 a0 a1))) n a0 a1 = (Fak.g mk0 n a0 a1).map h := by
  unfold Fak.g
  exact rfl
theorem Fak.run (n : Nat) (a0 : Int) (a1 : Int) : runF (Fak.C n) (Fak.A n) n Tryd.f118 [(.int .u64 a0), (.int .u64 a1)] [] (fun v o => some (v, o)) = Fak.g (fun a0 a1 => (((.tup [(.int .u64 a0), (.int .u64 a1)]), []) : AV × Blks)) n a0 a1 := by kernel_rfl
theorem Fak.call (hmix : Tryd.prog.follows .mixedOrders = true) (n : Nat) (t : (Int × Int)) (u) (h : Fak.m n t = some u) : FnC Tryd.prog abiG 118 (Fak.shape t).1 (Fak.shape t).2 (Fak.res u).1 (Fak.res u).2 :=
  fnC1 (C := Fak.C n) (A := Fak.A n) (fn := Tryd.f118) rfl .nil hmix Tryd.func118 (by kernel_rfl) (lp := []) (by kernel_rfl) .nil
  (nj rfl) (by decide) rfl rfl (by show 2 ≤ Tryd.f118.ntmps; decide) (Fak.run n t.1 t.2) (Fak.gmap Fak.res (fun a0 a1 => (a0, a1)) n t.1 t.2) h
theorem Fak.s (hmix : Tryd.prog.follows .mixedOrders = true) (n : Nat) : CalleeS Tryd.prog abiG 118 (Fak.c n) :=
  .mk1 (res := Fak.res) (shape := Fak.shape) (fun R u K => rfl) (fun _ _ _ h => by unfold Fak.pat at h; split at h <;> cases h; rfl) (fun t u h => Fak.call hmix n t u h) Tryd.func118 (by decide) (by kernel_rfl)
end
section
noncomputable section
noncomputable def Fq.C (n : Nat) : Ctx := ⟨Tryd.prog, abiG, lookC [(118, Fak.c n), (103, Faj.c n)], fun _ => false⟩
def Fq.live : NL := fun k => match k with
 | 3 => ([12, 2, 3, 5, 4], [5, 4])
 | 7 => ([15, 6, 2, 3, 7, 5, 12, 4], [6, 7, 5, 12, 2, 3, 4])
 | _ => ([], [])
def Fq.l7_0.r {α : Type} (mk0 : Int → Int → Int → LI → LI → LI → LI → α) (n : Nat) (rc : Int → Int → Int → Int → LI → LI → LI → LI → Option α)  (x0 : Int) (x1 : Int) (x2 : Int) (x3 : Int) (x4 : LI) (x5 : LI) (x6 : LI) (x7 : LI) : Option α :=
  if (decide (x0 < 4)) = true then
   if 0 ≤ x1 then
    if x1 < 4 then
     if 0 ≤ x0 then
      if x0 < 4 then
       bindO (Fak.m n ((List.getD x4 (Int.toNat x1) 0), (List.getD x5 (Int.toNat x0) 0))) fun r14 =>
        bindO (Faj.m n (r14.2, x2, 0)) fun r16 =>
         if 0 ≤ (IntKind.wrap .i64 (x1 + x0)) then
          if (IntKind.wrap .i64 (x1 + x0)) < 8 then
           bindO (Faj.m n ((List.getD x6 (Int.toNat (IntKind.wrap .i64 (x1 + x0))) 0), r16.1, 0)) fun r22 =>
            if 0 ≤ (IntKind.wrap .i64 (x1 + x0)) then
             if (IntKind.wrap .i64 (x1 + x0)) < 8 then
              rc (IntKind.wrap .i64 (x0 + 1)) x1 (IntKind.wrap .u64 ((IntKind.wrap .u64 (r14.1 + r16.2)) + r22.2)) x3 x4 x5 (List.set x6 (Int.toNat (IntKind.wrap .i64 (x1 + x0))) r22.1) x7
             else
              none
            else
             none
          else
           none
         else
          none
      else
       none
     else
      none
    else
     none
   else
    none
  else
   some (mk0 x1 x2 x3 x6 x4 x5 x7)
def Fq.l7_0.g {α : Type} (mk0 : Int → Int → Int → LI → LI → LI → LI → α) (n : Nat) : Nat → Int → Int → Int → Int → LI → LI → LI → LI → Option α
 | 0, _, _, _, _, _, _, _, _ => none
 | m + 1, x0, x1, x2, x3, x4, x5, x6, x7 => Fq.l7_0.r mk0 n (fun y0 y1 y2 y3 y4 y5 y6 y7 => Fq.l7_0.g mk0 n m y0 y1 y2 y3 y4 y5 y6 y7)  x0 x1 x2 x3 x4 x5 x6 x7
def Fq.l7_0.m (n m : Nat) (t : (Int × (Int × (Int × (Int × (LI × (LI × (LI × LI)))))))) : Option (Int × (Int × (Int × (LI × (LI × (LI × LI)))))) := Fq.l7_0.g (fun a0 a1 a2 a3 a4 a5 a6 => (a0, a1, a2, a3, a4, a5, a6)) n m t.1 t.2.1 t.2.2.1 t.2.2.2.1 t.2.2.2.2.1 t.2.2.2.2.2.1 t.2.2.2.2.2.2.1 t.2.2.2.2.2.2.2
def Fq.l7_0.pat : St → Option (Int × (Int × (Int × (Int × (LI × (LI × (LI × LI)))))))
 | (St.mk [(.int .i64 x0), (.int .i64 x1), (.ptr 0 []), (.ptr 1 []), (.int .u64 x2), (.ptr 2 []), (.int .i64 x3), (.ptr 3 [])] [(some (.var (.ints .u64 4 x4))), (some (.var (.ints .u64 4 x5))), (some (.var (.ints .u64 8 x6))), (some (.var (.ints .u64 8 x7)))]) => some (x0, x1, x2, x3, x4, x5, x6, x7)
 | _ => none
def Fq.l7_0.shape (t : (Int × (Int × (Int × (Int × (LI × (LI × (LI × LI)))))))) : St := (St.mk [(.int .i64 t.1), (.int .i64 t.2.1), (.ptr 0 []), (.ptr 1 []), (.int .u64 t.2.2.1), (.ptr 2 []), (.int .i64 t.2.2.2.1), (.ptr 3 [])] [(some (.var (.ints .u64 4 t.2.2.2.2.1))), (some (.var (.ints .u64 4 t.2.2.2.2.2.1))), (some (.var (.ints .u64 8 t.2.2.2.2.2.2.1))), (some (.var (.ints .u64 8 t.2.2.2.2.2.2.2)))])
def Fq.l7_0.res : (Int × (Int × (Int × (LI × (LI × (LI × LI)))))) → Ex × St
 | u => ((.exit 2), (St.mk [(.int .i64 u.1), (.int .u64 u.2.1), (.ptr 0 []), (.int .i64 u.2.2.1), (.ptr 1 []), (.ptr 2 []), (.ptr 3 [])] [(some (.var (.ints .u64 8 u.2.2.2.1))), (some (.var (.ints .u64 4 u.2.2.2.2.1))), (some (.var (.ints .u64 4 u.2.2.2.2.2.1))), (some (.var (.ints .u64 8 u.2.2.2.2.2.2)))]))
def Fq.l7_0.resK {R : Type} (u : (Int × (Int × (Int × (LI × (LI × (LI × LI))))))) (K : Ex → St → Option R) : Option R := K (Fq.l7_0.res u).1 (Fq.l7_0.res u).2
def Fq.l3_0.r {α : Type} (mk0 : LI → LI → α) (n : Nat) (rc : Int → LI → LI → LI → LI → Option α)  (x0 : Int) (x1 : LI) (x2 : LI) (x3 : LI) (x4 : LI) : Option α :=
  if (decide (x0 < 4)) = true then
   bindO (Fq.l7_0.m n n (0, x0, 0, x0, x1, x2, x3, x4)) fun r6 =>
    if 0 ≤ (IntKind.wrap .i64 (r6.1 + 4)) then
     if (IntKind.wrap .i64 (r6.1 + 4)) < 8 then
      rc (IntKind.wrap .i64 (r6.2.2.1 + 1)) r6.2.2.2.2.1 r6.2.2.2.2.2.1 (List.set r6.2.2.2.1 (Int.toNat (IntKind.wrap .i64 (r6.1 + 4))) r6.2.1) r6.2.2.2.2.2.2
     else
      none
    else
     none
  else
   some (mk0 x3 x4)
def Fq.l3_0.g {α : Type} (mk0 : LI → LI → α) (n : Nat) : Nat → Int → LI → LI → LI → LI → Option α
 | 0, _, _, _, _, _ => none
 | m + 1, x0, x1, x2, x3, x4 => Fq.l3_0.r mk0 n (fun y0 y1 y2 y3 y4 => Fq.l3_0.g mk0 n m y0 y1 y2 y3 y4)  x0 x1 x2 x3 x4
def Fq.l3_0.m (n m : Nat) (t : (Int × (LI × (LI × (LI × LI))))) : Option (LI × LI) := Fq.l3_0.g (fun a0 a1 => (a0, a1)) n m t.1 t.2.1 t.2.2.1 t.2.2.2.1 t.2.2.2.2
def Fq.l3_0.pat : St → Option (Int × (LI × (LI × (LI × LI))))
 | (St.mk [(.int .i64 x0), (.ptr 0 []), (.ptr 1 []), (.ptr 2 []), (.ptr 3 [])] [(some (.var (.ints .u64 4 x1))), (some (.var (.ints .u64 4 x2))), (some (.var (.ints .u64 8 x3))), (some (.var (.ints .u64 8 x4)))]) => some (x0, x1, x2, x3, x4)
 | _ => none
def Fq.l3_0.shape (t : (Int × (LI × (LI × (LI × LI))))) : St := (St.mk [(.int .i64 t.1), (.ptr 0 []), (.ptr 1 []), (.ptr 2 []), (.ptr 3 [])] [(some (.var (.ints .u64 4 t.2.1))), (some (.var (.ints .u64 4 t.2.2.1))), (some (.var (.ints .u64 8 t.2.2.2.1))), (some (.var (.ints .u64 8 t.2.2.2.2)))])
def Fq.l3_0.res : (LI × LI) → Ex × St
 | u => ((.exit 0), (St.mk [(.ptr 0 []), (.ptr 1 [])] [(some (.var (.ints .u64 8 u.1))), (some (.var (.ints .u64 8 u.2)))]))
def Fq.l3_0.resK {R : Type} (u : (LI × LI)) (K : Ex → St → Option R) : Option R := K (Fq.l3_0.res u).1 (Fq.l3_0.res u).2
noncomputable def Fq.A (n : Nat) : Ann := ⟨Tryd.f102.ntmps, 0, Fq.live, [], [none], fun k => match k with
 | 7 => some (.mk' Fq.l7_0.pat (Fq.l7_0.m n n) Fq.l7_0.resK)
 | 3 => some (.mk' Fq.l3_0.pat (Fq.l3_0.m n n) Fq.l3_0.resK)
 | _ => none, noNL, lookJ []⟩
noncomputable def Fq.b0 : Code := (loopsIn (Tryd.f102.body.getD .skip)).getD 0 .skip
noncomputable def Fq.b1 : Code := (loopsIn (Tryd.f102.body.getD .skip)).getD 1 .skip
def Fq.g {α : Type} (mk0 : LI → α) (n : Nat) (a0 : LI) (a1 : LI) : Option α :=
 bindO (Fq.l3_0.m n n (0, a0, a1, ([0, 0, 0, 0, 0, 0, 0, 0] : List Int), ([0, 0, 0, 0, 0, 0, 0, 0] : List Int))) fun r2 =>
  some (mk0 r2.1)
def Fq.m (n : Nat) (t : (LI × LI)) : Option LI := Fq.g (fun a0 => a0) n t.1 t.2
def Fq.pat : List AV → Blks → Option (LI × LI)
 | [(.ints .u64 4 a0), (.ints .u64 4 a1)], [] => some (a0, a1)
 | _, _ => none
def Fq.shape (t : (LI × LI)) : List AV × Blks := ([(.ints .u64 4 t.1), (.ints .u64 4 t.2)], [])
def Fq.res : LI → AV × Blks
 | u => ((.ints .u64 8 u), [])
def Fq.resK {R : Type} (u : LI) (K : AV → Blks → Option R) : Option R := K (Fq.res u).1 (Fq.res u).2
def Fq.c (n : Nat) : Abs.Callee := .mk' [] [none, none] Fq.pat (Fq.m n) Fq.resK
end
end
