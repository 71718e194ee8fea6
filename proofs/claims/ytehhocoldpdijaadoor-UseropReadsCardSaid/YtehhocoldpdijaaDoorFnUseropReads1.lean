/- What the program's functions compute, as plain functions, each with its proof: the function does just that. Condition: the plain function has an answer. -/
import Derived.Test.YtehhocoldpdijaaDoorAbsR1
import Derived.Test.YtehhocoldpdijaaDoorAbsR6
import Derived.Test.YtehhocoldpdijaaDoorProg
set_option linter.unusedVariables false
set_option linter.unusedSimpArgs false
set_option maxRecDepth 100000
open Go Go.Abs Go.Proofs
section
namespace Go.Abs
open Go
def kecKeys : List Int := [1, 32898, 9223372036854808714, 9223372039002292224, 32907, 2147483649, 9223372039002292353, 9223372036854808585, 138, 136, 2147516425, 2147483658, 2147516555, 9223372036854775947, 9223372036854808713, 9223372036854808579, 9223372036854808578, 9223372036854775936, 32778, 9223372039002259466, 9223372039002292353, 9223372036854808704, 2147483649, 9223372039002292232]
def kecTo : List Int := [10, 7, 11, 17, 18, 3, 5, 16, 8, 21, 24, 4, 15, 23, 19, 13, 12, 2, 20, 14, 22, 9, 6, 1]
def kecTurns : List Int := [1, 3, 6, 10, 15, 21, 28, 36, 45, 55, 2, 14, 27, 41, 56, 8, 25, 43, 62, 18, 39, 61, 20, 44]
def abiG : Nat → AV := fun g => match g with
  | 0 => .raw (.iface 148 (.agg #[.pointer (some ⟨5, 100, none⟩)]))
  | 1 => .iface 166 .any
  | 2 => .ints .u64 24 kecKeys
  | 3 => .ints .i64 24 kecTo
  | 4 => .ints .i64 24 kecTurns
  | _ => .any
end Go.Abs
end
section
noncomputable section
noncomputable def Fe.C (n : Nat) : Ctx := ⟨Tryd.prog, abiG, lookC [], fun _ => false⟩
noncomputable def Fe.A (n : Nat) : Ann := ⟨Tryd.f130.ntmps, 0, noNL, [], [none], fun k => match k with
 | _ => none, noNL, lookJ []⟩
def Fe.g {α : Type} (mk0 : Int → α) (n : Nat) (a0 : Int) (a1 : Int) : Option α :=
 if 0 ≤ (IntKind.wrap .u64 (64 - (ibits BinOp.and .u64 (IntKind.wrap .u64 a1) 63))) then
  some (mk0 (ibits BinOp.or .u64 (ishl .u64 a0 (ibits BinOp.and .u64 (IntKind.wrap .u64 a1) 63)) (ishr .u64 a0 (IntKind.wrap .u64 (64 - (ibits BinOp.and .u64 (IntKind.wrap .u64 a1) 63))))))
 else
  none
def Fe.m (n : Nat) (t : (Int × Int)) : Option Int := Fe.g (fun a0 => a0) n t.1 t.2
def Fe.pat : List AV → Blks → Option (Int × Int)
 | [(.int .u64 a0), (.int .i64 a1)], [] => some (a0, a1)
 | _, _ => none
def Fe.shape (t : (Int × Int)) : List AV × Blks := ([(.int .u64 t.1), (.int .i64 t.2)], [])
def Fe.res : Int → AV × Blks
 | u => ((.int .u64 u), [])
def Fe.resK {R : Type} (u : Int) (K : AV → Blks → Option R) : Option R := K (Fe.res u).1 (Fe.res u).2
def Fe.c (n : Nat) : Abs.Callee := .mk' [] [none, none] Fe.pat (Fe.m n) Fe.resK
end
end
section
noncomputable section
noncomputable def Fc.C (n : Nat) : Ctx := ⟨Tryd.prog, abiG, lookC [(130, Fe.c n)], fun _ => false⟩
def Fc.live : NL := fun k => match k with
 | 2 => ([7, 6, 2, 0], [0, 2])
 | 7 => ([21, 0, 2], [])
 | _ => ([], [])
def Fc.l2_0.r {α : Type} (mk0 : LI → LI → α) (n : Nat) (rc : Int → LI → LI → Option α)  (x0 : Int) (x1 : LI) (x2 : LI) : Option α :=
  if (decide (x0 < 25)) = true then
   if 0 ≤ x0 then
    if x0 < 25 then
     if 0 ≤ (Int.tmod x0 5) then
      if (Int.tmod x0 5) < 5 then
       if 0 ≤ (Int.tmod x0 5) then
        if (Int.tmod x0 5) < 5 then
         rc (IntKind.wrap .i64 (x0 + 1)) x1 (List.set x2 (Int.toNat (Int.tmod x0 5)) (ibits BinOp.xor .u64 (List.getD x2 (Int.toNat (Int.tmod x0 5)) 0) (List.getD x1 (Int.toNat x0) 0)))
        else
         none
       else
        none
      else
       none
     else
      none
    else
     none
   else
    none
  else
   some (mk0 x1 x2)
def Fc.l2_0.g {α : Type} (mk0 : LI → LI → α) (n : Nat) : Nat → Int → LI → LI → Option α
 | 0, _, _, _ => none
 | m + 1, x0, x1, x2 => Fc.l2_0.r mk0 n (fun y0 y1 y2 => Fc.l2_0.g mk0 n m y0 y1 y2)  x0 x1 x2
def Fc.l2_0.m (n m : Nat) (t : (Int × (LI × LI))) : Option (LI × LI) := Fc.l2_0.g (fun a0 a1 => (a0, a1)) n m t.1 t.2.1 t.2.2
def Fc.l2_0.pat : St → Option (Int × (LI × LI))
 | (St.mk [(.int .i64 x0), (.ptr 0 []), (.ptr 1 []), (.ptr 0 [])] [(some (.var (.ints .u64 25 x1))), (some (.var (.ints .u64 5 x2)))]) => some (x0, x1, x2)
 | _ => none
def Fc.l2_0.shape (t : (Int × (LI × LI))) : St := (St.mk [(.int .i64 t.1), (.ptr 0 []), (.ptr 1 []), (.ptr 0 [])] [(some (.var (.ints .u64 25 t.2.1))), (some (.var (.ints .u64 5 t.2.2)))])
def Fc.l2_0.res : (LI × LI) → Ex × St
 | u => ((.exit 0), (St.mk [(.ptr 0 []), (.ptr 1 [])] [(some (.var (.ints .u64 25 u.1))), (some (.var (.ints .u64 5 u.2)))]))
def Fc.l2_0.resK {R : Type} (u : (LI × LI)) (K : Ex → St → Option R) : Option R := K (Fc.l2_0.res u).1 (Fc.l2_0.res u).2
def Fc.l7_0.r {α : Type} (mk0 : LI → α) (n : Nat) (rc : Int → LI → LI → Option α)  (x0 : Int) (x1 : LI) (x2 : LI) : Option α :=
  if (decide (x0 < 25)) = true then
   if 0 ≤ x0 then
    if x0 < 25 then
     if 0 ≤ (Int.tmod (IntKind.wrap .i64 (x0 + 4)) 5) then
      if (Int.tmod (IntKind.wrap .i64 (x0 + 4)) 5) < 5 then
       if 0 ≤ (Int.tmod (IntKind.wrap .i64 (x0 + 1)) 5) then
        if (Int.tmod (IntKind.wrap .i64 (x0 + 1)) 5) < 5 then
         bindO (Fe.m n ((List.getD x2 (Int.toNat (Int.tmod (IntKind.wrap .i64 (x0 + 1)) 5)) 0), 1)) fun r18 =>
          if 0 ≤ x0 then
           if x0 < 25 then
            rc (IntKind.wrap .i64 (x0 + 1)) (List.set x1 (Int.toNat x0) (ibits BinOp.xor .u64 (List.getD x1 (Int.toNat x0) 0) (ibits BinOp.xor .u64 (List.getD x2 (Int.toNat (Int.tmod (IntKind.wrap .i64 (x0 + 4)) 5)) 0) r18))) x2
           else
            none
          else
           none
        else
         none
       else
        none
      else
       none
     else
      none
    else
     none
   else
    none
  else
   some (mk0 x1)
def Fc.l7_0.g {α : Type} (mk0 : LI → α) (n : Nat) : Nat → Int → LI → LI → Option α
 | 0, _, _, _ => none
 | m + 1, x0, x1, x2 => Fc.l7_0.r mk0 n (fun y0 y1 y2 => Fc.l7_0.g mk0 n m y0 y1 y2)  x0 x1 x2
def Fc.l7_0.m (n m : Nat) (t : (Int × (LI × LI))) : Option LI := Fc.l7_0.g (fun a0 => a0) n m t.1 t.2.1 t.2.2
def Fc.l7_0.pat : St → Option (Int × (LI × LI))
 | (St.mk [(.int .i64 x0), (.ptr 0 []), (.ptr 1 [])] [(some (.var (.ints .u64 25 x1))), (some (.var (.ints .u64 5 x2)))]) => some (x0, x1, x2)
 | _ => none
def Fc.l7_0.shape (t : (Int × (LI × LI))) : St := (St.mk [(.int .i64 t.1), (.ptr 0 []), (.ptr 1 [])] [(some (.var (.ints .u64 25 t.2.1))), (some (.var (.ints .u64 5 t.2.2)))])
def Fc.l7_0.res : LI → Ex × St
 | u => ((.exit 2), (St.mk [] [(some (.var (.ints .u64 25 u)))]))
def Fc.l7_0.resK {R : Type} (u : LI) (K : Ex → St → Option R) : Option R := K (Fc.l7_0.res u).1 (Fc.l7_0.res u).2
noncomputable def Fc.A (n : Nat) : Ann := ⟨Tryd.f124.ntmps, 1, Fc.live, [], [], fun k => match k with
 | 2 => some (.mk' Fc.l2_0.pat (Fc.l2_0.m n n) Fc.l2_0.resK)
 | 7 => some (.mk' Fc.l7_0.pat (Fc.l7_0.m n n) Fc.l7_0.resK)
 | _ => none, noNL, lookJ []⟩
noncomputable def Fc.b0 : Code := (loopsIn (Tryd.f124.body.getD .skip)).getD 0 .skip
noncomputable def Fc.b1 : Code := (loopsIn (Tryd.f124.body.getD .skip)).getD 1 .skip
def Fc.g {α : Type} (mk0 : LI → α) (n : Nat) (s : LI) : Option α :=
 bindO (Fc.l2_0.m n n (0, s, [0, 0, 0, 0, 0])) fun r2 =>
  bindO (Fc.l7_0.m n n (0, r2.1, r2.2)) fun r4 =>
   some (mk0 r4)
def Fc.m (n : Nat) (t : LI) : Option LI := Fc.g (fun a0 => a0) n t
def Fc.pat : List AV → Blks → Option LI
 | [(.ptr 0 [])], [(some (.var (.ints .u64 25 s)))] => some s
 | _, _ => none
def Fc.shape (t : LI) : List AV × Blks := ([(.ptr 0 [])], [(some (.var (.ints .u64 25 t)))])
def Fc.res : LI → AV × Blks
 | u => ((.tup []), [(some (.var (.ints .u64 25 u)))])
def Fc.resK {R : Type} (u : LI) (K : AV → Blks → Option R) : Option R := K (Fc.res u).1 (Fc.res u).2
def Fc.c (n : Nat) : Abs.Callee := .mk' [true] [none] Fc.pat (Fc.m n) Fc.resK
end
end
section
theorem Fe.gmap {α β : Type} (h : β → α) (mk0 : Int → β) (n : Nat) (a0 : Int) (a1 : Int) : Fe.g (fun a0 => (h (mk0 a0))) n a0 a1 = (Fe.g mk0 n a0 a1).map h := by
  unfold Fe.g
  exact (ite_map rfl rfl)
theorem Fe.run (n : Nat) (a0 : Int) (a1 : Int) : runF (Fe.C n) (Fe.A n) n Tryd.f130 [(.int .u64 a0), (.int .i64 a1)] [] (fun v o => some (v, o)) = Fe.g (fun a0 => (((.int .u64 a0), []) : AV × Blks)) n a0 a1 := by kernel_rfl
theorem Fe.call (hmix : Tryd.prog.follows .mixedOrders = true) (n : Nat) (t : (Int × Int)) (u) (h : Fe.m n t = some u) : FnC Tryd.prog abiG 130 (Fe.shape t).1 (Fe.shape t).2 (Fe.res u).1 (Fe.res u).2 :=
  fnC1 (C := Fe.C n) (A := Fe.A n) (fn := Tryd.f130) rfl .nil hmix Tryd.func130 (by kernel_rfl) (lp := []) (by kernel_rfl) .nil
  (nj rfl) (by decide) rfl rfl (by show 2 ≤ Tryd.f130.ntmps; decide) (Fe.run n t.1 t.2) (Fe.gmap Fe.res (fun a0 => a0) n t.1 t.2) h
theorem Fe.s (hmix : Tryd.prog.follows .mixedOrders = true) (n : Nat) : CalleeS Tryd.prog abiG 130 (Fe.c n) :=
  .mk1 (res := Fe.res) (shape := Fe.shape) (fun R u K => rfl) (fun _ _ _ h => by unfold Fe.pat at h; split at h <;> cases h; rfl) (fun t u h => Fe.call hmix n t u h) Tryd.func130 (by decide) (by kernel_rfl)
end
section
noncomputable abbrev Fc.R0 (n : Nat) := roundOf (Fc.C n) (Fc.A n) n Fc.b0
noncomputable abbrev Fc.R1 (n : Nat) := roundOf (Fc.C n) (Fc.A n) n Fc.b1
theorem Fc.l2_0.rmap {α β : Type} (h : β → α) (mk0 : LI → LI → β) (n : Nat) (f : Int → LI → LI → Option β)  (x0 : Int) (x1 : LI) (x2 : LI) : Fc.l2_0.r (fun a0 a1 => (h (mk0 a0 a1))) n (fun y0 y1 y2 => (f y0 y1 y2).map h) x0 x1 x2 = (Fc.l2_0.r mk0 n f x0 x1 x2).map h := by
  unfold Fc.l2_0.r
  exact (ite_map (ite_map (ite_map (ite_map (ite_map (ite_map (ite_map rfl rfl) rfl) rfl) rfl) rfl) rfl) rfl)
theorem Fc.l2_0.gmap {α β : Type} (h : β → α) (mk0 : LI → LI → β) (n : Nat) : ∀ (m : Nat) (x0 : Int) (x1 : LI) (x2 : LI), Fc.l2_0.g (fun a0 a1 => (h (mk0 a0 a1))) n m x0 x1 x2 = (Fc.l2_0.g mk0 n m x0 x1 x2).map h
  | 0, _, _, _ => rfl
  | m + 1, x0, x1, x2 => by
    unfold Fc.l2_0.g
    rw [← Fc.l2_0.rmap]
    congr
    · funext y0 y1 y2; exact Fc.l2_0.gmap h mk0 n m y0 y1 y2
theorem Fc.l2_0.pat_shape : ∀ st t, Fc.l2_0.pat st = some t → st = Fc.l2_0.shape t := fun _ _ h => by unfold Fc.l2_0.pat at h; split at h <;> cases h; rfl
def Fc.l2_0.k0 : LI → LI → Ex × St := (fun a0 a1 => (((.exit 0), (St.mk [(.ptr 0 []), (.ptr 1 [])] [(some (.var (.ints .u64 25 a0))), (some (.var (.ints .u64 5 a1)))])) : Ex × St))
theorem Fc.l2_0.round (n : Nat) (rc : St → Option (Ex × St)) (x0 : Int) (x1 : LI) (x2 : LI) : Fc.R0 n rc ((St.mk [(.int .i64 x0), (.ptr 0 []), (.ptr 1 []), (.ptr 0 [])] [(some (.var (.ints .u64 25 x1))), (some (.var (.ints .u64 5 x2)))])) = Fc.l2_0.r Fc.l2_0.k0 n (fun y0 y1 y2 => rc ((St.mk [(.int .i64 y0), (.ptr 0 []), (.ptr 1 []), (.ptr 0 [])] [(some (.var (.ints .u64 25 y1))), (some (.var (.ints .u64 5 y2)))]))) x0 x1 x2 := by kernel_rfl
theorem Fc.l2_0.loop' (n : Nat) : ∀ (m : Nat) (t : (Int × (LI × LI))), loopOf (Fc.R0 n) m (Fc.l2_0.shape t) = Fc.l2_0.g Fc.l2_0.k0 n m t.1 t.2.1 t.2.2 :=
  loop_of_round (shape := Fc.l2_0.shape) (body := Fc.R0 n) (g := fun m t => Fc.l2_0.g Fc.l2_0.k0 n m t.1 t.2.1 t.2.2) (fun t => rfl)
    fun m t ih => (Fc.l2_0.round n (loopOf (Fc.R0 n) m) t.1 t.2.1 t.2.2).trans (congrFun (congrFun (congrFun (congrArg (Fc.l2_0.r Fc.l2_0.k0 n) (funext fun y0 => funext fun y1 => funext fun y2 => ih (y0, y1, y2))) t.1) t.2.1) t.2.2)
theorem Fc.l2_0.loop (n m : Nat) (t : (Int × (LI × LI))) : loopOf (Fc.R0 n) m (Fc.l2_0.shape t) = (Fc.l2_0.m n m t).map Fc.l2_0.res :=
  (Fc.l2_0.loop' n m t).trans (Fc.l2_0.gmap Fc.l2_0.res (fun a0 a1 => (a0, a1)) n m t.1 t.2.1 t.2.2)
theorem Fc.l7_0.rmap {α β : Type} (h : β → α) (mk0 : LI → β) (n : Nat) (f : Int → LI → LI → Option β)  (x0 : Int) (x1 : LI) (x2 : LI) : Fc.l7_0.r (fun a0 => (h (mk0 a0))) n (fun y0 y1 y2 => (f y0 y1 y2).map h) x0 x1 x2 = (Fc.l7_0.r mk0 n f x0 x1 x2).map h := by
  unfold Fc.l7_0.r
  exact (ite_map (ite_map (ite_map (ite_map (ite_map (ite_map (ite_map (bindO_map fun r18 => (ite_map (ite_map rfl rfl) rfl)) rfl) rfl) rfl) rfl) rfl) rfl) rfl)
theorem Fc.l7_0.gmap {α β : Type} (h : β → α) (mk0 : LI → β) (n : Nat) : ∀ (m : Nat) (x0 : Int) (x1 : LI) (x2 : LI), Fc.l7_0.g (fun a0 => (h (mk0 a0))) n m x0 x1 x2 = (Fc.l7_0.g mk0 n m x0 x1 x2).map h
  | 0, _, _, _ => rfl
  | m + 1, x0, x1, x2 => by
    unfold Fc.l7_0.g
    rw [← Fc.l7_0.rmap]
    congr
    · funext y0 y1 y2; exact Fc.l7_0.gmap h mk0 n m y0 y1 y2
theorem Fc.l7_0.pat_shape : ∀ st t, Fc.l7_0.pat st = some t → st = Fc.l7_0.shape t := fun _ _ h => by unfold Fc.l7_0.pat at h; split at h <;> cases h; rfl
def Fc.l7_0.k0 : LI → Ex × St := (fun a0 => (((.exit 2), (St.mk [] [(some (.var (.ints .u64 25 a0)))])) : Ex × St))
theorem Fc.l7_0.round (n : Nat) (rc : St → Option (Ex × St)) (x0 : Int) (x1 : LI) (x2 : LI) : Fc.R1 n rc ((St.mk [(.int .i64 x0), (.ptr 0 []), (.ptr 1 [])] [(some (.var (.ints .u64 25 x1))), (some (.var (.ints .u64 5 x2)))])) = Fc.l7_0.r Fc.l7_0.k0 n (fun y0 y1 y2 => rc ((St.mk [(.int .i64 y0), (.ptr 0 []), (.ptr 1 [])] [(some (.var (.ints .u64 25 y1))), (some (.var (.ints .u64 5 y2)))]))) x0 x1 x2 := by kernel_rfl
theorem Fc.l7_0.loop' (n : Nat) : ∀ (m : Nat) (t : (Int × (LI × LI))), loopOf (Fc.R1 n) m (Fc.l7_0.shape t) = Fc.l7_0.g Fc.l7_0.k0 n m t.1 t.2.1 t.2.2 :=
  loop_of_round (shape := Fc.l7_0.shape) (body := Fc.R1 n) (g := fun m t => Fc.l7_0.g Fc.l7_0.k0 n m t.1 t.2.1 t.2.2) (fun t => rfl)
    fun m t ih => (Fc.l7_0.round n (loopOf (Fc.R1 n) m) t.1 t.2.1 t.2.2).trans (congrFun (congrFun (congrFun (congrArg (Fc.l7_0.r Fc.l7_0.k0 n) (funext fun y0 => funext fun y1 => funext fun y2 => ih (y0, y1, y2))) t.1) t.2.1) t.2.2)
theorem Fc.l7_0.loop (n m : Nat) (t : (Int × (LI × LI))) : loopOf (Fc.R1 n) m (Fc.l7_0.shape t) = (Fc.l7_0.m n m t).map Fc.l7_0.res :=
  (Fc.l7_0.loop' n m t).trans (Fc.l7_0.gmap Fc.l7_0.res (fun a0 => a0) n m t.1 t.2.1 t.2.2)
theorem Fc.gmap {α β : Type} (h : β → α) (mk0 : LI → β) (n : Nat) (s : LI) : Fc.g (fun a0 => (h (mk0 a0))) n s = (Fc.g mk0 n s).map h := by
  unfold Fc.g
  exact (bindO_map fun r2 => (bindO_map fun r4 => rfl))
theorem Fc.run (n : Nat) (s : LI) : runF (Fc.C n) (Fc.A n) n Tryd.f124 [(.ptr 0 [])] [(some (.var (.ints .u64 25 s)))] (fun v o => some (v, o)) = Fc.g (fun a0 => (((.tup []), [(some (.var (.ints .u64 25 a0)))]) : AV × Blks)) n s := by kernel_rfl
theorem Fc.call (hmix : Tryd.prog.follows .mixedOrders = true) (n : Nat) (t : LI) (u) (h : Fc.m n t = some u) : FnC Tryd.prog abiG 124 (Fc.shape t).1 (Fc.shape t).2 (Fc.res u).1 (Fc.res u).2 :=
  fnC1 (C := Fc.C n) (A := Fc.A n) (fn := Tryd.f124) rfl (.cons (Fe.s hmix n) .nil) hmix Tryd.func124 (by kernel_rfl) (lp := [Fc.b0, Fc.b1]) (by kernel_rfl) (.cons (show (Fc.A n).loop (key Fc.b0) = some (.mk' Fc.l2_0.pat (Fc.l2_0.m n n) Fc.l2_0.resK) by kernel_rfl) (LoopS.of (res := Fc.l2_0.res) (fun R u K => rfl) Fc.l2_0.pat_shape fun t => Fc.l2_0.loop n n t)
  (.cons (show (Fc.A n).loop (key Fc.b1) = some (.mk' Fc.l7_0.pat (Fc.l7_0.m n n) Fc.l7_0.resK) by kernel_rfl) (LoopS.of (res := Fc.l7_0.res) (fun R u K => rfl) Fc.l7_0.pat_shape fun t => Fc.l7_0.loop n n t)
  .nil))
  (nj rfl) (by decide) rfl rfl (by show 1 ≤ Tryd.f124.ntmps; decide) (Fc.run n t) (Fc.gmap Fc.res (fun a0 => a0) n t) h
theorem Fc.s (hmix : Tryd.prog.follows .mixedOrders = true) (n : Nat) : CalleeS Tryd.prog abiG 124 (Fc.c n) :=
  .mk1 (res := Fc.res) (shape := Fc.shape) (fun R u K => rfl) (fun _ _ _ h => by unfold Fc.pat at h; split at h <;> cases h; rfl) (fun t u h => Fc.call hmix n t u h) Tryd.func124 (by decide) (by kernel_rfl)
end
section
noncomputable section
noncomputable def Ff.C (n : Nat) : Ctx := ⟨Tryd.prog, abiG, lookC [(130, Fe.c n)], fun _ => false⟩
def Ff.live : NL := fun k => match k with
 | 2 => ([9, 0, 2], [])
 | _ => ([], [])
def Ff.l2_0.r {α : Type} (mk0 : LI → α) (n : Nat) (rc : Int → Int → LI → Option α)  (x0 : Int) (x1 : Int) (x2 : LI) : Option α :=
  if (decide (x0 < 24)) = true then
   if 0 ≤ x0 then
    if x0 < 24 then
     if 0 ≤ (List.getD ([10, 7, 11, 17, 18, 3, 5, 16, 8, 21, 24, 4, 15, 23, 19, 13, 12, 2, 20, 14, 22, 9, 6, 1] : List Int) (Int.toNat x0) 0) then
      if (List.getD ([10, 7, 11, 17, 18, 3, 5, 16, 8, 21, 24, 4, 15, 23, 19, 13, 12, 2, 20, 14, 22, 9, 6, 1] : List Int) (Int.toNat x0) 0) < 25 then
       if 0 ≤ x0 then
        if x0 < 24 then
         if 0 ≤ x0 then
          if x0 < 24 then
           bindO (Fe.m n (x1, (List.getD ([1, 3, 6, 10, 15, 21, 28, 36, 45, 55, 2, 14, 27, 41, 56, 8, 25, 43, 62, 18, 39, 61, 20, 44] : List Int) (Int.toNat x0) 0))) fun r22 =>
            if 0 ≤ (List.getD ([10, 7, 11, 17, 18, 3, 5, 16, 8, 21, 24, 4, 15, 23, 19, 13, 12, 2, 20, 14, 22, 9, 6, 1] : List Int) (Int.toNat x0) 0) then
             if (List.getD ([10, 7, 11, 17, 18, 3, 5, 16, 8, 21, 24, 4, 15, 23, 19, 13, 12, 2, 20, 14, 22, 9, 6, 1] : List Int) (Int.toNat x0) 0) < 25 then
              rc (IntKind.wrap .i64 (x0 + 1)) (List.getD x2 (Int.toNat (List.getD ([10, 7, 11, 17, 18, 3, 5, 16, 8, 21, 24, 4, 15, 23, 19, 13, 12, 2, 20, 14, 22, 9, 6, 1] : List Int) (Int.toNat x0) 0)) 0) (List.set x2 (Int.toNat (List.getD ([10, 7, 11, 17, 18, 3, 5, 16, 8, 21, 24, 4, 15, 23, 19, 13, 12, 2, 20, 14, 22, 9, 6, 1] : List Int) (Int.toNat x0) 0)) r22)
             else
              none
            else
             none
          else
           none
         else
          none
        else
         none
       else
        none
      else
       none
     else
      none
    else
     none
   else
    none
  else
   some (mk0 x2)
def Ff.l2_0.g {α : Type} (mk0 : LI → α) (n : Nat) : Nat → Int → Int → LI → Option α
 | 0, _, _, _ => none
 | m + 1, x0, x1, x2 => Ff.l2_0.r mk0 n (fun y0 y1 y2 => Ff.l2_0.g mk0 n m y0 y1 y2)  x0 x1 x2
def Ff.l2_0.m (n m : Nat) (t : (Int × (Int × LI))) : Option LI := Ff.l2_0.g (fun a0 => a0) n m t.1 t.2.1 t.2.2
def Ff.l2_0.pat : St → Option (Int × (Int × LI))
 | (St.mk [(.int .i64 x0), (.ptr 0 []), (.int .u64 x1)] [(some (.var (.ints .u64 25 x2)))]) => some (x0, x1, x2)
 | _ => none
def Ff.l2_0.shape (t : (Int × (Int × LI))) : St := (St.mk [(.int .i64 t.1), (.ptr 0 []), (.int .u64 t.2.1)] [(some (.var (.ints .u64 25 t.2.2)))])
def Ff.l2_0.res : LI → Ex × St
 | u => ((.exit 0), (St.mk [] [(some (.var (.ints .u64 25 u)))]))
def Ff.l2_0.resK {R : Type} (u : LI) (K : Ex → St → Option R) : Option R := K (Ff.l2_0.res u).1 (Ff.l2_0.res u).2
noncomputable def Ff.A (n : Nat) : Ann := ⟨Tryd.f125.ntmps, 1, Ff.live, [], [], fun k => match k with
 | 2 => some (.mk' Ff.l2_0.pat (Ff.l2_0.m n n) Ff.l2_0.resK)
 | _ => none, noNL, lookJ []⟩
noncomputable def Ff.b0 : Code := (loopsIn (Tryd.f125.body.getD .skip)).getD 0 .skip
def Ff.g {α : Type} (mk0 : LI → α) (n : Nat) (s : LI) : Option α :=
 bindO (Ff.l2_0.m n n (0, (List.getD s 1 0), s)) fun r2 =>
  some (mk0 r2)
def Ff.m (n : Nat) (t : LI) : Option LI := Ff.g (fun a0 => a0) n t
def Ff.pat : List AV → Blks → Option LI
 | [(.ptr 0 [])], [(some (.var (.ints .u64 25 s)))] => some s
 | _, _ => none
def Ff.shape (t : LI) : List AV × Blks := ([(.ptr 0 [])], [(some (.var (.ints .u64 25 t)))])
def Ff.res : LI → AV × Blks
 | u => ((.tup []), [(some (.var (.ints .u64 25 u)))])
def Ff.resK {R : Type} (u : LI) (K : AV → Blks → Option R) : Option R := K (Ff.res u).1 (Ff.res u).2
def Ff.c (n : Nat) : Abs.Callee := .mk' [true] [none] Ff.pat (Ff.m n) Ff.resK
end
end
section
noncomputable abbrev Ff.R0 (n : Nat) := roundOf (Ff.C n) (Ff.A n) n Ff.b0
theorem Ff.l2_0.rmap {α β : Type} (h : β → α) (mk0 : LI → β) (n : Nat) (f : Int → Int → LI → Option β)  (x0 : Int) (x1 : Int) (x2 : LI) : Ff.l2_0.r (fun a0 => (h (mk0 a0))) n (fun y0 y1 y2 => (f y0 y1 y2).map h) x0 x1 x2 = (Ff.l2_0.r mk0 n f x0 x1 x2).map h := by
  unfold Ff.l2_0.r
  exact (ite_map (ite_map (ite_map (ite_map (ite_map (ite_map (ite_map (ite_map (ite_map (bindO_map fun r22 => (ite_map (ite_map rfl rfl) rfl)) rfl) rfl) rfl) rfl) rfl) rfl) rfl) rfl) rfl)
theorem Ff.l2_0.gmap {α β : Type} (h : β → α) (mk0 : LI → β) (n : Nat) : ∀ (m : Nat) (x0 : Int) (x1 : Int) (x2 : LI), Ff.l2_0.g (fun a0 => (h (mk0 a0))) n m x0 x1 x2 = (Ff.l2_0.g mk0 n m x0 x1 x2).map h
  | 0, _, _, _ => rfl
  | m + 1, x0, x1, x2 => by
    unfold Ff.l2_0.g
    rw [← Ff.l2_0.rmap]
    congr
    · funext y0 y1 y2; exact Ff.l2_0.gmap h mk0 n m y0 y1 y2
theorem Ff.l2_0.pat_shape : ∀ st t, Ff.l2_0.pat st = some t → st = Ff.l2_0.shape t := fun _ _ h => by unfold Ff.l2_0.pat at h; split at h <;> cases h; rfl
def Ff.l2_0.k0 : LI → Ex × St := (fun a0 => (((.exit 0), (St.mk [] [(some (.var (.ints .u64 25 a0)))])) : Ex × St))
theorem Ff.l2_0.round (n : Nat) (rc : St → Option (Ex × St)) (x0 : Int) (x1 : Int) (x2 : LI) : Ff.R0 n rc ((St.mk [(.int .i64 x0), (.ptr 0 []), (.int .u64 x1)] [(some (.var (.ints .u64 25 x2)))])) = Ff.l2_0.r Ff.l2_0.k0 n (fun y0 y1 y2 => rc ((St.mk [(.int .i64 y0), (.ptr 0 []), (.int .u64 y1)] [(some (.var (.ints .u64 25 y2)))]))) x0 x1 x2 := by kernel_rfl
theorem Ff.l2_0.loop' (n : Nat) : ∀ (m : Nat) (t : (Int × (Int × LI))), loopOf (Ff.R0 n) m (Ff.l2_0.shape t) = Ff.l2_0.g Ff.l2_0.k0 n m t.1 t.2.1 t.2.2 :=
  loop_of_round (shape := Ff.l2_0.shape) (body := Ff.R0 n) (g := fun m t => Ff.l2_0.g Ff.l2_0.k0 n m t.1 t.2.1 t.2.2) (fun t => rfl)
    fun m t ih => (Ff.l2_0.round n (loopOf (Ff.R0 n) m) t.1 t.2.1 t.2.2).trans (congrFun (congrFun (congrFun (congrArg (Ff.l2_0.r Ff.l2_0.k0 n) (funext fun y0 => funext fun y1 => funext fun y2 => ih (y0, y1, y2))) t.1) t.2.1) t.2.2)
theorem Ff.l2_0.loop (n m : Nat) (t : (Int × (Int × LI))) : loopOf (Ff.R0 n) m (Ff.l2_0.shape t) = (Ff.l2_0.m n m t).map Ff.l2_0.res :=
  (Ff.l2_0.loop' n m t).trans (Ff.l2_0.gmap Ff.l2_0.res (fun a0 => a0) n m t.1 t.2.1 t.2.2)
theorem Ff.gmap {α β : Type} (h : β → α) (mk0 : LI → β) (n : Nat) (s : LI) : Ff.g (fun a0 => (h (mk0 a0))) n s = (Ff.g mk0 n s).map h := by
  unfold Ff.g
  exact (bindO_map fun r2 => rfl)
theorem Ff.run (n : Nat) (s : LI) : runF (Ff.C n) (Ff.A n) n Tryd.f125 [(.ptr 0 [])] [(some (.var (.ints .u64 25 s)))] (fun v o => some (v, o)) = Ff.g (fun a0 => (((.tup []), [(some (.var (.ints .u64 25 a0)))]) : AV × Blks)) n s := by kernel_rfl
theorem Ff.call (hmix : Tryd.prog.follows .mixedOrders = true) (n : Nat) (t : LI) (u) (h : Ff.m n t = some u) : FnC Tryd.prog abiG 125 (Ff.shape t).1 (Ff.shape t).2 (Ff.res u).1 (Ff.res u).2 :=
  fnC1 (C := Ff.C n) (A := Ff.A n) (fn := Tryd.f125) rfl (.cons (Fe.s hmix n) .nil) hmix Tryd.func125 (by kernel_rfl) (lp := [Ff.b0]) (by kernel_rfl) (.cons (show (Ff.A n).loop (key Ff.b0) = some (.mk' Ff.l2_0.pat (Ff.l2_0.m n n) Ff.l2_0.resK) by kernel_rfl) (LoopS.of (res := Ff.l2_0.res) (fun R u K => rfl) Ff.l2_0.pat_shape fun t => Ff.l2_0.loop n n t)
  .nil)
  (nj rfl) (by decide) rfl rfl (by show 1 ≤ Tryd.f125.ntmps; decide) (Ff.run n t) (Ff.gmap Ff.res (fun a0 => a0) n t) h
theorem Ff.s (hmix : Tryd.prog.follows .mixedOrders = true) (n : Nat) : CalleeS Tryd.prog abiG 125 (Ff.c n) :=
  .mk1 (res := Ff.res) (shape := Ff.shape) (fun R u K => rfl) (fun _ _ _ h => by unfold Ff.pat at h; split at h <;> cases h; rfl) (fun t u h => Ff.call hmix n t u h) Tryd.func125 (by decide) (by kernel_rfl)
end
section
noncomputable section
noncomputable def Fh.C (n : Nat) : Ctx := ⟨Tryd.prog, abiG, lookC [], fun _ => false⟩
def Fh.live : NL := fun k => match k with
 | 1 => ([2, 0], [])
 | 5 => ([17, 0, 2, 3], [2, 0])
 | _ => ([], [])
def Fh.l5_0.r {α : Type} (mk0 : Int → LI → α) (n : Nat) (rc : Int → Int → LI → LI → Option α)  (x0 : Int) (x1 : Int) (x2 : LI) (x3 : LI) : Option α :=
  if (decide (x0 < 5)) = true then
   if 0 ≤ x0 then
    if x0 < 5 then
     if 0 ≤ (Int.tmod (IntKind.wrap .i64 (x0 + 1)) 5) then
      if (Int.tmod (IntKind.wrap .i64 (x0 + 1)) 5) < 5 then
       if 0 ≤ (Int.tmod (IntKind.wrap .i64 (x0 + 2)) 5) then
        if (Int.tmod (IntKind.wrap .i64 (x0 + 2)) 5) < 5 then
         if 0 ≤ (IntKind.wrap .i64 (x1 + x0)) then
          if (IntKind.wrap .i64 (x1 + x0)) < 25 then
           rc (IntKind.wrap .i64 (x0 + 1)) x1 (List.set x2 (Int.toNat (IntKind.wrap .i64 (x1 + x0))) (ibits BinOp.xor .u64 (List.getD x3 (Int.toNat x0) 0) (ibits BinOp.and .u64 (ibits BinOp.xor .u64 (if false = true then (-1) else 18446744073709551615) (List.getD x3 (Int.toNat (Int.tmod (IntKind.wrap .i64 (x0 + 1)) 5)) 0)) (List.getD x3 (Int.toNat (Int.tmod (IntKind.wrap .i64 (x0 + 2)) 5)) 0)))) x3
          else
           none
         else
          none
        else
         none
       else
        none
      else
       none
     else
      none
    else
     none
   else
    none
  else
   some (mk0 x1 x2)
def Fh.l5_0.g {α : Type} (mk0 : Int → LI → α) (n : Nat) : Nat → Int → Int → LI → LI → Option α
 | 0, _, _, _, _ => none
 | m + 1, x0, x1, x2, x3 => Fh.l5_0.r mk0 n (fun y0 y1 y2 y3 => Fh.l5_0.g mk0 n m y0 y1 y2 y3)  x0 x1 x2 x3
def Fh.l5_0.m (n m : Nat) (t : (Int × (Int × (LI × LI)))) : Option (Int × LI) := Fh.l5_0.g (fun a0 a1 => (a0, a1)) n m t.1 t.2.1 t.2.2.1 t.2.2.2
def Fh.l5_0.pat : St → Option (Int × (Int × (LI × LI)))
 | (St.mk [(.int .i64 x0), (.ptr 0 []), (.int .i64 x1), (.ptr 1 [])] [(some (.var (.ints .u64 25 x2))), (some (.var (.ints .u64 5 x3)))]) => some (x0, x1, x2, x3)
 | _ => none
def Fh.l5_0.shape (t : (Int × (Int × (LI × LI)))) : St := (St.mk [(.int .i64 t.1), (.ptr 0 []), (.int .i64 t.2.1), (.ptr 1 [])] [(some (.var (.ints .u64 25 t.2.2.1))), (some (.var (.ints .u64 5 t.2.2.2)))])
def Fh.l5_0.res : (Int × LI) → Ex × St
 | u => ((.exit 2), (St.mk [(.int .i64 u.1), (.ptr 0 [])] [(some (.var (.ints .u64 25 u.2)))]))
def Fh.l5_0.resK {R : Type} (u : (Int × LI)) (K : Ex → St → Option R) : Option R := K (Fh.l5_0.res u).1 (Fh.l5_0.res u).2
def Fh.l1_0.r {α : Type} (mk0 : LI → α) (n : Nat) (rc : Int → LI → Option α)  (x0 : Int) (x1 : LI) : Option α :=
  if (decide (x0 < 25)) = true then
   if 0 ≤ (IntKind.wrap .i64 (x0 + 5)) then
    if (IntKind.wrap .i64 (x0 + 5)) ≤ 25 then
     if 0 ≤ x0 then
      if x0 ≤ (IntKind.wrap .i64 (x0 + 5)) then
       if 5 ≤ (Go.Abs.span 25 (Int.toNat x0) (Option.some (Int.toNat (IntKind.wrap .i64 (x0 + 5))))) then
        bindO (Fh.l5_0.m n n (0, x0, x1, (List.take 5 (List.drop (Int.toNat x0) x1)))) fun r16 =>
         rc (IntKind.wrap .i64 (r16.1 + 5)) r16.2
       else
        none
      else
       none
     else
      none
    else
     none
   else
    none
  else
   some (mk0 x1)
def Fh.l1_0.g {α : Type} (mk0 : LI → α) (n : Nat) : Nat → Int → LI → Option α
 | 0, _, _ => none
 | m + 1, x0, x1 => Fh.l1_0.r mk0 n (fun y0 y1 => Fh.l1_0.g mk0 n m y0 y1)  x0 x1
def Fh.l1_0.m (n m : Nat) (t : (Int × LI)) : Option LI := Fh.l1_0.g (fun a0 => a0) n m t.1 t.2
def Fh.l1_0.pat : St → Option (Int × LI)
 | (St.mk [(.int .i64 x0), (.ptr 0 [])] [(some (.var (.ints .u64 25 x1)))]) => some (x0, x1)
 | _ => none
def Fh.l1_0.shape (t : (Int × LI)) : St := (St.mk [(.int .i64 t.1), (.ptr 0 [])] [(some (.var (.ints .u64 25 t.2)))])
def Fh.l1_0.res : LI → Ex × St
 | u => ((.exit 0), (St.mk [] [(some (.var (.ints .u64 25 u)))]))
def Fh.l1_0.resK {R : Type} (u : LI) (K : Ex → St → Option R) : Option R := K (Fh.l1_0.res u).1 (Fh.l1_0.res u).2
noncomputable def Fh.A (n : Nat) : Ann := ⟨Tryd.f126.ntmps, 1, Fh.live, [], [], fun k => match k with
 | 5 => some (.mk' Fh.l5_0.pat (Fh.l5_0.m n n) Fh.l5_0.resK)
 | 1 => some (.mk' Fh.l1_0.pat (Fh.l1_0.m n n) Fh.l1_0.resK)
 | _ => none, noNL, lookJ []⟩
noncomputable def Fh.b0 : Code := (loopsIn (Tryd.f126.body.getD .skip)).getD 0 .skip
noncomputable def Fh.b1 : Code := (loopsIn (Tryd.f126.body.getD .skip)).getD 1 .skip
def Fh.g {α : Type} (mk0 : LI → α) (n : Nat) (s : LI) : Option α :=
 bindO (Fh.l1_0.m n n (0, s)) fun r2 =>
  some (mk0 r2)
def Fh.m (n : Nat) (t : LI) : Option LI := Fh.g (fun a0 => a0) n t
def Fh.pat : List AV → Blks → Option LI
 | [(.ptr 0 [])], [(some (.var (.ints .u64 25 s)))] => some s
 | _, _ => none
def Fh.shape (t : LI) : List AV × Blks := ([(.ptr 0 [])], [(some (.var (.ints .u64 25 t)))])
def Fh.res : LI → AV × Blks
 | u => ((.tup []), [(some (.var (.ints .u64 25 u)))])
def Fh.resK {R : Type} (u : LI) (K : AV → Blks → Option R) : Option R := K (Fh.res u).1 (Fh.res u).2
def Fh.c (n : Nat) : Abs.Callee := .mk' [true] [none] Fh.pat (Fh.m n) Fh.resK
end
end
section
noncomputable abbrev Fh.R0 (n : Nat) := roundOf (Fh.C n) (Fh.A n) n Fh.b0
noncomputable abbrev Fh.R1 (n : Nat) := roundOf (Fh.C n) (Fh.A n) n Fh.b1
theorem Fh.l5_0.rmap {α β : Type} (h : β → α) (mk0 : Int → LI → β) (n : Nat) (f : Int → Int → LI → LI → Option β)  (x0 : Int) (x1 : Int) (x2 : LI) (x3 : LI) : Fh.l5_0.r (fun a0 a1 => (h (mk0 a0 a1))) n (fun y0 y1 y2 y3 => (f y0 y1 y2 y3).map h) x0 x1 x2 x3 = (Fh.l5_0.r mk0 n f x0 x1 x2 x3).map h := by
  unfold Fh.l5_0.r
  exact (ite_map (ite_map (ite_map (ite_map (ite_map (ite_map (ite_map (ite_map (ite_map rfl rfl) rfl) rfl) rfl) rfl) rfl) rfl) rfl) rfl)
theorem Fh.l5_0.gmap {α β : Type} (h : β → α) (mk0 : Int → LI → β) (n : Nat) : ∀ (m : Nat) (x0 : Int) (x1 : Int) (x2 : LI) (x3 : LI), Fh.l5_0.g (fun a0 a1 => (h (mk0 a0 a1))) n m x0 x1 x2 x3 = (Fh.l5_0.g mk0 n m x0 x1 x2 x3).map h
  | 0, _, _, _, _ => rfl
  | m + 1, x0, x1, x2, x3 => by
    unfold Fh.l5_0.g
    rw [← Fh.l5_0.rmap]
    congr
    · funext y0 y1 y2 y3; exact Fh.l5_0.gmap h mk0 n m y0 y1 y2 y3
theorem Fh.l5_0.pat_shape : ∀ st t, Fh.l5_0.pat st = some t → st = Fh.l5_0.shape t := fun _ _ h => by unfold Fh.l5_0.pat at h; split at h <;> cases h; rfl
def Fh.l5_0.k0 : Int → LI → Ex × St := (fun a0 a1 => (((.exit 2), (St.mk [(.int .i64 a0), (.ptr 0 [])] [(some (.var (.ints .u64 25 a1)))])) : Ex × St))
theorem Fh.l5_0.round (n : Nat) (rc : St → Option (Ex × St)) (x0 : Int) (x1 : Int) (x2 : LI) (x3 : LI) : Fh.R1 n rc ((St.mk [(.int .i64 x0), (.ptr 0 []), (.int .i64 x1), (.ptr 1 [])] [(some (.var (.ints .u64 25 x2))), (some (.var (.ints .u64 5 x3)))])) = Fh.l5_0.r Fh.l5_0.k0 n (fun y0 y1 y2 y3 => rc ((St.mk [(.int .i64 y0), (.ptr 0 []), (.int .i64 y1), (.ptr 1 [])] [(some (.var (.ints .u64 25 y2))), (some (.var (.ints .u64 5 y3)))]))) x0 x1 x2 x3 := by kernel_rfl
theorem Fh.l5_0.loop' (n : Nat) : ∀ (m : Nat) (t : (Int × (Int × (LI × LI)))), loopOf (Fh.R1 n) m (Fh.l5_0.shape t) = Fh.l5_0.g Fh.l5_0.k0 n m t.1 t.2.1 t.2.2.1 t.2.2.2 :=
  loop_of_round (shape := Fh.l5_0.shape) (body := Fh.R1 n) (g := fun m t => Fh.l5_0.g Fh.l5_0.k0 n m t.1 t.2.1 t.2.2.1 t.2.2.2) (fun t => rfl)
    fun m t ih => (Fh.l5_0.round n (loopOf (Fh.R1 n) m) t.1 t.2.1 t.2.2.1 t.2.2.2).trans (congrFun (congrFun (congrFun (congrFun (congrArg (Fh.l5_0.r Fh.l5_0.k0 n) (funext fun y0 => funext fun y1 => funext fun y2 => funext fun y3 => ih (y0, y1, y2, y3))) t.1) t.2.1) t.2.2.1) t.2.2.2)
theorem Fh.l5_0.loop (n m : Nat) (t : (Int × (Int × (LI × LI)))) : loopOf (Fh.R1 n) m (Fh.l5_0.shape t) = (Fh.l5_0.m n m t).map Fh.l5_0.res :=
  (Fh.l5_0.loop' n m t).trans (Fh.l5_0.gmap Fh.l5_0.res (fun a0 a1 => (a0, a1)) n m t.1 t.2.1 t.2.2.1 t.2.2.2)
theorem Fh.l1_0.rmap {α β : Type} (h : β → α) (mk0 : LI → β) (n : Nat) (f : Int → LI → Option β)  (x0 : Int) (x1 : LI) : Fh.l1_0.r (fun a0 => (h (mk0 a0))) n (fun y0 y1 => (f y0 y1).map h) x0 x1 = (Fh.l1_0.r mk0 n f x0 x1).map h := by
  unfold Fh.l1_0.r
  exact (ite_map (ite_map (ite_map (ite_map (ite_map (ite_map (bindO_map fun r16 => rfl) rfl) rfl) rfl) rfl) rfl) rfl)
theorem Fh.l1_0.gmap {α β : Type} (h : β → α) (mk0 : LI → β) (n : Nat) : ∀ (m : Nat) (x0 : Int) (x1 : LI), Fh.l1_0.g (fun a0 => (h (mk0 a0))) n m x0 x1 = (Fh.l1_0.g mk0 n m x0 x1).map h
  | 0, _, _ => rfl
  | m + 1, x0, x1 => by
    unfold Fh.l1_0.g
    rw [← Fh.l1_0.rmap]
    congr
    · funext y0 y1; exact Fh.l1_0.gmap h mk0 n m y0 y1
theorem Fh.l1_0.pat_shape : ∀ st t, Fh.l1_0.pat st = some t → st = Fh.l1_0.shape t := fun _ _ h => by unfold Fh.l1_0.pat at h; split at h <;> cases h; rfl
def Fh.l1_0.k0 : LI → Ex × St := (fun a0 => (((.exit 0), (St.mk [] [(some (.var (.ints .u64 25 a0)))])) : Ex × St))
theorem Fh.l1_0.round (n : Nat) (rc : St → Option (Ex × St)) (x0 : Int) (x1 : LI) : Fh.R0 n rc ((St.mk [(.int .i64 x0), (.ptr 0 [])] [(some (.var (.ints .u64 25 x1)))])) = Fh.l1_0.r Fh.l1_0.k0 n (fun y0 y1 => rc ((St.mk [(.int .i64 y0), (.ptr 0 [])] [(some (.var (.ints .u64 25 y1)))]))) x0 x1 := by kernel_rfl
theorem Fh.l1_0.loop' (n : Nat) : ∀ (m : Nat) (t : (Int × LI)), loopOf (Fh.R0 n) m (Fh.l1_0.shape t) = Fh.l1_0.g Fh.l1_0.k0 n m t.1 t.2 :=
  loop_of_round (shape := Fh.l1_0.shape) (body := Fh.R0 n) (g := fun m t => Fh.l1_0.g Fh.l1_0.k0 n m t.1 t.2) (fun t => rfl)
    fun m t ih => (Fh.l1_0.round n (loopOf (Fh.R0 n) m) t.1 t.2).trans (congrFun (congrFun (congrArg (Fh.l1_0.r Fh.l1_0.k0 n) (funext fun y0 => funext fun y1 => ih (y0, y1))) t.1) t.2)
theorem Fh.l1_0.loop (n m : Nat) (t : (Int × LI)) : loopOf (Fh.R0 n) m (Fh.l1_0.shape t) = (Fh.l1_0.m n m t).map Fh.l1_0.res :=
  (Fh.l1_0.loop' n m t).trans (Fh.l1_0.gmap Fh.l1_0.res (fun a0 => a0) n m t.1 t.2)
theorem Fh.gmap {α β : Type} (h : β → α) (mk0 : LI → β) (n : Nat) (s : LI) : Fh.g (fun a0 => (h (mk0 a0))) n s = (Fh.g mk0 n s).map h := by
  unfold Fh.g
  exact (bindO_map fun r2 => rfl)
theorem Fh.run (n : Nat) (s : LI) : runF (Fh.C n) (Fh.A n) n Tryd.f126 [(.ptr 0 [])] [(some (.var (.ints .u64 25 s)))] (fun v o => some (v, o)) = Fh.g (fun a0 => (((.tup []), [(some (.var (.ints .u64 25 a0)))]) : AV × Blks)) n s := by kernel_rfl
theorem Fh.call (hmix : Tryd.prog.follows .mixedOrders = true) (n : Nat) (t : LI) (u) (h : Fh.m n t = some u) : FnC Tryd.prog abiG 126 (Fh.shape t).1 (Fh.shape t).2 (Fh.res u).1 (Fh.res u).2 :=
  fnC1 (C := Fh.C n) (A := Fh.A n) (fn := Tryd.f126) rfl .nil hmix Tryd.func126 (by kernel_rfl) (lp := [Fh.b0, Fh.b1]) (by kernel_rfl) (.cons (show (Fh.A n).loop (key Fh.b0) = some (.mk' Fh.l1_0.pat (Fh.l1_0.m n n) Fh.l1_0.resK) by kernel_rfl) (LoopS.of (res := Fh.l1_0.res) (fun R u K => rfl) Fh.l1_0.pat_shape fun t => Fh.l1_0.loop n n t)
  (.cons (show (Fh.A n).loop (key Fh.b1) = some (.mk' Fh.l5_0.pat (Fh.l5_0.m n n) Fh.l5_0.resK) by kernel_rfl) (LoopS.of (res := Fh.l5_0.res) (fun R u K => rfl) Fh.l5_0.pat_shape fun t => Fh.l5_0.loop n n t)
  .nil))
  (nj rfl) (by decide) rfl rfl (by show 1 ≤ Tryd.f126.ntmps; decide) (Fh.run n t) (Fh.gmap Fh.res (fun a0 => a0) n t) h
theorem Fh.s (hmix : Tryd.prog.follows .mixedOrders = true) (n : Nat) : CalleeS Tryd.prog abiG 126 (Fh.c n) :=
  .mk1 (res := Fh.res) (shape := Fh.shape) (fun R u K => rfl) (fun _ _ _ h => by unfold Fh.pat at h; split at h <;> cases h; rfl) (fun t u h => Fh.call hmix n t u h) Tryd.func126 (by decide) (by kernel_rfl)
end
section
noncomputable section
noncomputable def Fi.C (n : Nat) : Ctx := ⟨Tryd.prog, abiG, lookC [(124, Fc.c n), (125, Ff.c n), (126, Fh.c n)], fun _ => false⟩
def Fi.live : NL := fun k => match k with
 | 1 => ([3, 0], [])
 | _ => ([], [])
def Fi.l1_0.r {α : Type} (mk0 : LI → α) (n : Nat) (rc : Int → LI → Option α)  (x0 : Int) (x1 : LI) : Option α :=
  if (decide (x0 < 24)) = true then
   bindO (Fc.m n x1) fun r6 =>
    bindO (Ff.m n r6) fun r8 =>
     bindO (Fh.m n r8) fun r10 =>
      if 0 ≤ x0 then
       if x0 < 24 then
        rc (IntKind.wrap .i64 (x0 + 1)) (List.set r10 0 (ibits BinOp.xor .u64 (List.getD r10 0 0) (List.getD ([1, 32898, 9223372036854808714, 9223372039002292224, 32907, 2147483649, 9223372039002292353, 9223372036854808585, 138, 136, 2147516425, 2147483658, 2147516555, 9223372036854775947, 9223372036854808713, 9223372036854808579, 9223372036854808578, 9223372036854775936, 32778, 9223372039002259466, 9223372039002292353, 9223372036854808704, 2147483649, 9223372039002292232] : List Int) (Int.toNat x0) 0)))
       else
        none
      else
       none
  else
   some (mk0 x1)
def Fi.l1_0.g {α : Type} (mk0 : LI → α) (n : Nat) : Nat → Int → LI → Option α
 | 0, _, _ => none
 | m + 1, x0, x1 => Fi.l1_0.r mk0 n (fun y0 y1 => Fi.l1_0.g mk0 n m y0 y1)  x0 x1
def Fi.l1_0.m (n m : Nat) (t : (Int × LI)) : Option LI := Fi.l1_0.g (fun a0 => a0) n m t.1 t.2
def Fi.l1_0.pat : St → Option (Int × LI)
 | (St.mk [(.int .i64 x0), (.ptr 0 [])] [(some (.var (.ints .u64 25 x1)))]) => some (x0, x1)
 | _ => none
def Fi.l1_0.shape (t : (Int × LI)) : St := (St.mk [(.int .i64 t.1), (.ptr 0 [])] [(some (.var (.ints .u64 25 t.2)))])
def Fi.l1_0.res : LI → Ex × St
 | u => ((.exit 0), (St.mk [] [(some (.var (.ints .u64 25 u)))]))
def Fi.l1_0.resK {R : Type} (u : LI) (K : Ex → St → Option R) : Option R := K (Fi.l1_0.res u).1 (Fi.l1_0.res u).2
noncomputable def Fi.A (n : Nat) : Ann := ⟨Tryd.f111.ntmps, 1, Fi.live, [], [], fun k => match k with
 | 1 => some (.mk' Fi.l1_0.pat (Fi.l1_0.m n n) Fi.l1_0.resK)
 | _ => none, noNL, lookJ []⟩
noncomputable def Fi.b0 : Code := (loopsIn (Tryd.f111.body.getD .skip)).getD 0 .skip
def Fi.g {α : Type} (mk0 : LI → α) (n : Nat) (s : LI) : Option α :=
 bindO (Fi.l1_0.m n n (0, s)) fun r2 =>
  some (mk0 r2)
def Fi.m (n : Nat) (t : LI) : Option LI := Fi.g (fun a0 => a0) n t
def Fi.pat : List AV → Blks → Option LI
 | [(.ptr 0 [])], [(some (.var (.ints .u64 25 s)))] => some s
 | _, _ => none
def Fi.shape (t : LI) : List AV × Blks := ([(.ptr 0 [])], [(some (.var (.ints .u64 25 t)))])
def Fi.res : LI → AV × Blks
 | u => ((.tup []), [(some (.var (.ints .u64 25 u)))])
def Fi.resK {R : Type} (u : LI) (K : AV → Blks → Option R) : Option R := K (Fi.res u).1 (Fi.res u).2
def Fi.c (n : Nat) : Abs.Callee := .mk' [true] [none] Fi.pat (Fi.m n) Fi.resK
end
end
section
noncomputable abbrev Fi.R0 (n : Nat) := roundOf (Fi.C n) (Fi.A n) n Fi.b0
theorem Fi.l1_0.rmap {α β : Type} (h : β → α) (mk0 : LI → β) (n : Nat) (f : Int → LI → Option β)  (x0 : Int) (x1 : LI) : Fi.l1_0.r (fun a0 => (h (mk0 a0))) n (fun y0 y1 => (f y0 y1).map h) x0 x1 = (Fi.l1_0.r mk0 n f x0 x1).map h := by
  unfold Fi.l1_0.r
  exact (ite_map (bindO_map fun r6 => (bindO_map fun r8 => (bindO_map fun r10 => (ite_map (ite_map rfl rfl) rfl)))) rfl)
theorem Fi.l1_0.gmap {α β : Type} (h : β → α) (mk0 : LI → β) (n : Nat) : ∀ (m : Nat) (x0 : Int) (x1 : LI), Fi.l1_0.g (fun a0 => (h (mk0 a0))) n m x0 x1 = (Fi.l1_0.g mk0 n m x0 x1).map h
  | 0, _, _ => rfl
  | m + 1, x0, x1 => by
    unfold Fi.l1_0.g
    rw [← Fi.l1_0.rmap]
    congr
    · funext y0 y1; exact Fi.l1_0.gmap h mk0 n m y0 y1
theorem Fi.l1_0.pat_shape : ∀ st t, Fi.l1_0.pat st = some t → st = Fi.l1_0.shape t := fun _ _ h => by unfold Fi.l1_0.pat at h; split at h <;> cases h; rfl
def Fi.l1_0.k0 : LI → Ex × St := (fun a0 => (((.exit 0), (St.mk [] [(some (.var (.ints .u64 25 a0)))])) : Ex × St))
theorem Fi.l1_0.round (n : Nat) (rc : St → Option (Ex × St)) (x0 : Int) (x1 : LI) : Fi.R0 n rc ((St.mk [(.int .i64 x0), (.ptr 0 [])] [(some (.var (.ints .u64 25 x1)))])) = Fi.l1_0.r Fi.l1_0.k0 n (fun y0 y1 => rc ((St.mk [(.int .i64 y0), (.ptr 0 [])] [(some (.var (.ints .u64 25 y1)))]))) x0 x1 := by kernel_rfl
theorem Fi.l1_0.loop' (n : Nat) : ∀ (m : Nat) (t : (Int × LI)), loopOf (Fi.R0 n) m (Fi.l1_0.shape t) = Fi.l1_0.g Fi.l1_0.k0 n m t.1 t.2 :=
  loop_of_round (shape := Fi.l1_0.shape) (body := Fi.R0 n) (g := fun m t => Fi.l1_0.g Fi.l1_0.k0 n m t.1 t.2) (fun t => rfl)
    fun m t ih => (Fi.l1_0.round n (loopOf (Fi.R0 n) m) t.1 t.2).trans (congrFun (congrFun (congrArg (Fi.l1_0.r Fi.l1_0.k0 n) (funext fun y0 => funext fun y1 => ih (y0, y1))) t.1) t.2)
theorem Fi.l1_0.loop (n m : Nat) (t : (Int × LI)) : loopOf (Fi.R0 n) m (Fi.l1_0.shape t) = (Fi.l1_0.m n m t).map Fi.l1_0.res :=
  (Fi.l1_0.loop' n m t).trans (Fi.l1_0.gmap Fi.l1_0.res (fun a0 => a0) n m t.1 t.2)
theorem Fi.gmap {α β : Type} (h : β → α) (mk0 : LI → β) (n : Nat) (s : LI) : Fi.g (fun a0 => (h (mk0 a0))) n s = (Fi.g mk0 n s).map h := by
  unfold Fi.g
  exact (bindO_map fun r2 => rfl)
theorem Fi.run (n : Nat) (s : LI) : runF (Fi.C n) (Fi.A n) n Tryd.f111 [(.ptr 0 [])] [(some (.var (.ints .u64 25 s)))] (fun v o => some (v, o)) = Fi.g (fun a0 => (((.tup []), [(some (.var (.ints .u64 25 a0)))]) : AV × Blks)) n s := by kernel_rfl
theorem Fi.call (hmix : Tryd.prog.follows .mixedOrders = true) (n : Nat) (t : LI) (u) (h : Fi.m n t = some u) : FnC Tryd.prog abiG 111 (Fi.shape t).1 (Fi.shape t).2 (Fi.res u).1 (Fi.res u).2 :=
  fnC1 (C := Fi.C n) (A := Fi.A n) (fn := Tryd.f111) rfl (.cons (Fc.s hmix n) (.cons (Ff.s hmix n) (.cons (Fh.s hmix n) .nil))) hmix Tryd.func111 (by kernel_rfl) (lp := [Fi.b0]) (by kernel_rfl) (.cons (show (Fi.A n).loop (key Fi.b0) = some (.mk' Fi.l1_0.pat (Fi.l1_0.m n n) Fi.l1_0.resK) by kernel_rfl) (LoopS.of (res := Fi.l1_0.res) (fun R u K => rfl) Fi.l1_0.pat_shape fun t => Fi.l1_0.loop n n t)
  .nil)
  (nj rfl) (by decide) rfl rfl (by show 1 ≤ Tryd.f111.ntmps; decide) (Fi.run n t) (Fi.gmap Fi.res (fun a0 => a0) n t) h
theorem Fi.s (hmix : Tryd.prog.follows .mixedOrders = true) (n : Nat) : CalleeS Tryd.prog abiG 111 (Fi.c n) :=
  .mk1 (res := Fi.res) (shape := Fi.shape) (fun R u K => rfl) (fun _ _ _ h => by unfold Fi.pat at h; split at h <;> cases h; rfl) (fun t u h => Fi.call hmix n t u h) Tryd.func111 (by decide) (by kernel_rfl)
end
section
noncomputable section
def Fcg.g {α : Type} (mk0 : Int → α) (n : Nat) (a0 : Int) (a1 : Int) : Option α :=
 if (a1 == 0) = true then
  some (mk0 a0)
 else
  if 0 ≤ (IntKind.wrap .u64 a1) then
   if 0 ≤ (IntKind.wrap .u64 (IntKind.wrap .i64 (64 - a1))) then
    some (mk0 (ibits BinOp.or .u64 (ishl .u64 a0 (IntKind.wrap .u64 a1)) (ishr .u64 a0 (IntKind.wrap .u64 (IntKind.wrap .i64 (64 - a1))))))
   else
    none
  else
   none
def Fcg.m (n : Nat) (t : (Int × Int)) : Option Int := Fcg.g (fun a0 => a0) n t.1 t.2
end
end
section
noncomputable section
def Fch.l6_0.r {α : Type} (mk0 : LI → LI → LI → Int → LI → α) (n : Nat) (rc : Int → LI → LI → LI → Int → LI → Option α)  (x0 : Int) (x1 : LI) (x2 : LI) (x3 : LI) (x4 : Int) (x5 : LI) : Option α :=
  if (decide (x0 < 5)) = true then
   if 0 ≤ x0 then
    if x0 < (((List.length x1) : Nat) : Int) then
     if 0 ≤ (IntKind.wrap .i64 (5 + x0)) then
      if (IntKind.wrap .i64 (5 + x0)) < (((List.length x1) : Nat) : Int) then
       if 0 ≤ (IntKind.wrap .i64 (10 + x0)) then
        if (IntKind.wrap .i64 (10 + x0)) < (((List.length x1) : Nat) : Int) then
         if 0 ≤ (IntKind.wrap .i64 (15 + x0)) then
          if (IntKind.wrap .i64 (15 + x0)) < (((List.length x1) : Nat) : Int) then
           if 0 ≤ (IntKind.wrap .i64 (20 + x0)) then
            if (IntKind.wrap .i64 (20 + x0)) < (((List.length x1) : Nat) : Int) then
             if ((((List.length x5) + 1) * 8) ≤ 70368744177664 ∧ ((List.length x5) + 1) ≤ 9223372036854775807) then
              rc (IntKind.wrap .i64 (x0 + 1)) x1 x2 x3 x4 (x5 ++ [(ibits BinOp.xor .u64 (ibits BinOp.xor .u64 (ibits BinOp.xor .u64 (ibits BinOp.xor .u64 (List.getD x1 (Int.toNat x0) 0) (List.getD x1 (Int.toNat (IntKind.wrap .i64 (5 + x0))) 0)) (List.getD x1 (Int.toNat (IntKind.wrap .i64 (10 + x0))) 0)) (List.getD x1 (Int.toNat (IntKind.wrap .i64 (15 + x0))) 0)) (List.getD x1 (Int.toNat (IntKind.wrap .i64 (20 + x0))) 0))])
             else
              none
            else
             none
           else
            none
          else
           none
         else
          none
        else
         none
       else
        none
      else
       none
     else
      none
    else
     none
   else
    none
  else
   some (mk0 x1 x2 x3 x4 x5)
def Fch.l6_0.g {α : Type} (mk0 : LI → LI → LI → Int → LI → α) (n : Nat) : Nat → Int → LI → LI → LI → Int → LI → Option α
 | 0, _, _, _, _, _, _ => none
 | m + 1, x0, x1, x2, x3, x4, x5 => Fch.l6_0.r mk0 n (fun y0 y1 y2 y3 y4 y5 => Fch.l6_0.g mk0 n m y0 y1 y2 y3 y4 y5)  x0 x1 x2 x3 x4 x5
def Fch.l6_0.m (n m : Nat) (t : (Int × (LI × (LI × (LI × (Int × LI)))))) : Option (LI × (LI × (LI × (Int × LI)))) := Fch.l6_0.g (fun a0 a1 a2 a3 a4 => (a0, a1, a2, a3, a4)) n m t.1 t.2.1 t.2.2.1 t.2.2.2.1 t.2.2.2.2.1 t.2.2.2.2.2
def Fch.l15_0.r {α : Type} (mk0 : Int → LI → LI → LI → Int → LI → LI → α) (n : Nat) (rc : Int → Int → LI → Int → LI → LI → Int → LI → LI → Option α)  (x0 : Int) (x1 : Int) (x2 : LI) (x3 : Int) (x4 : LI) (x5 : LI) (x6 : Int) (x7 : LI) (x8 : LI) : Option α :=
  if (decide (x0 < 5)) = true then
   if 0 ≤ (IntKind.wrap .i64 ((IntKind.wrap .i64 (5 * x0)) + x1)) then
    if (IntKind.wrap .i64 ((IntKind.wrap .i64 (5 * x0)) + x1)) < (((List.length x2) : Nat) : Int) then
     if 0 ≤ (IntKind.wrap .i64 ((IntKind.wrap .i64 (5 * x0)) + x1)) then
      if (IntKind.wrap .i64 ((IntKind.wrap .i64 (5 * x0)) + x1)) < (((List.length x4) : Nat) : Int) then
       bindO (Fcg.m n ((ibits BinOp.xor .u64 (List.getD x2 (Int.toNat (IntKind.wrap .i64 ((IntKind.wrap .i64 (5 * x0)) + x1))) 0) x3), (List.getD x4 (Int.toNat (IntKind.wrap .i64 ((IntKind.wrap .i64 (5 * x0)) + x1))) 0))) fun r14 =>
        if 0 ≤ (IntKind.wrap .i64 ((IntKind.wrap .i64 (5 * (Int.tmod (IntKind.wrap .i64 ((IntKind.wrap .i64 (2 * x1)) + (IntKind.wrap .i64 (3 * x0)))) 5))) + x0)) then
         if (IntKind.wrap .i64 ((IntKind.wrap .i64 (5 * (Int.tmod (IntKind.wrap .i64 ((IntKind.wrap .i64 (2 * x1)) + (IntKind.wrap .i64 (3 * x0)))) 5))) + x0)) < (((List.length x7) : Nat) : Int) then
          rc (IntKind.wrap .i64 (x0 + 1)) x1 x2 x3 x4 x5 x6 (List.set x7 (Int.toNat (IntKind.wrap .i64 ((IntKind.wrap .i64 (5 * (Int.tmod (IntKind.wrap .i64 ((IntKind.wrap .i64 (2 * x1)) + (IntKind.wrap .i64 (3 * x0)))) 5))) + x0))) r14) x8
         else
          none
        else
         none
      else
       none
     else
      none
    else
     none
   else
    none
  else
   some (mk0 x1 x2 x4 x5 x6 x8 x7)
def Fch.l15_0.g {α : Type} (mk0 : Int → LI → LI → LI → Int → LI → LI → α) (n : Nat) : Nat → Int → Int → LI → Int → LI → LI → Int → LI → LI → Option α
 | 0, _, _, _, _, _, _, _, _, _ => none
 | m + 1, x0, x1, x2, x3, x4, x5, x6, x7, x8 => Fch.l15_0.r mk0 n (fun y0 y1 y2 y3 y4 y5 y6 y7 y8 => Fch.l15_0.g mk0 n m y0 y1 y2 y3 y4 y5 y6 y7 y8)  x0 x1 x2 x3 x4 x5 x6 x7 x8
def Fch.l15_0.m (n m : Nat) (t : (Int × (Int × (LI × (Int × (LI × (LI × (Int × (LI × LI))))))))) : Option (Int × (LI × (LI × (LI × (Int × (LI × LI)))))) := Fch.l15_0.g (fun a0 a1 a2 a3 a4 a5 a6 => (a0, a1, a2, a3, a4, a5, a6)) n m t.1 t.2.1 t.2.2.1 t.2.2.2.1 t.2.2.2.2.1 t.2.2.2.2.2.1 t.2.2.2.2.2.2.1 t.2.2.2.2.2.2.2.1 t.2.2.2.2.2.2.2.2
def Fch.l11_0.r {α : Type} (mk0 : LI → Int → LI → LI → α) (n : Nat) (rc : Int → LI → LI → LI → Int → LI → LI → Option α)  (x0 : Int) (x1 : LI) (x2 : LI) (x3 : LI) (x4 : Int) (x5 : LI) (x6 : LI) : Option α :=
  if (decide (x0 < 5)) = true then
   if 0 ≤ (Int.tmod (IntKind.wrap .i64 (x0 + 4)) 5) then
    if (Int.tmod (IntKind.wrap .i64 (x0 + 4)) 5) < (((List.length x5) : Nat) : Int) then
     if 0 ≤ (Int.tmod (IntKind.wrap .i64 (x0 + 1)) 5) then
      if (Int.tmod (IntKind.wrap .i64 (x0 + 1)) 5) < (((List.length x5) : Nat) : Int) then
       bindO (Fcg.m n ((List.getD x5 (Int.toNat (Int.tmod (IntKind.wrap .i64 (x0 + 1)) 5)) 0), 1)) fun r14 =>
        bindO (Fch.l15_0.m n n (0, x0, x1, (ibits BinOp.xor .u64 (List.getD x5 (Int.toNat (Int.tmod (IntKind.wrap .i64 (x0 + 4)) 5)) 0) r14), x2, x3, x4, x6, x5)) fun r16 =>
         rc (IntKind.wrap .i64 (r16.1 + 1)) r16.2.1 r16.2.2.1 r16.2.2.2.1 r16.2.2.2.2.1 r16.2.2.2.2.2.1 r16.2.2.2.2.2.2
      else
       none
     else
      none
    else
     none
   else
    none
  else
   some (mk0 x3 x4 x2 x6)
def Fch.l11_0.g {α : Type} (mk0 : LI → Int → LI → LI → α) (n : Nat) : Nat → Int → LI → LI → LI → Int → LI → LI → Option α
 | 0, _, _, _, _, _, _, _ => none
 | m + 1, x0, x1, x2, x3, x4, x5, x6 => Fch.l11_0.r mk0 n (fun y0 y1 y2 y3 y4 y5 y6 => Fch.l11_0.g mk0 n m y0 y1 y2 y3 y4 y5 y6)  x0 x1 x2 x3 x4 x5 x6
def Fch.l11_0.m (n m : Nat) (t : (Int × (LI × (LI × (LI × (Int × (LI × LI))))))) : Option (LI × (Int × (LI × LI))) := Fch.l11_0.g (fun a0 a1 a2 a3 => (a0, a1, a2, a3)) n m t.1 t.2.1 t.2.2.1 t.2.2.2.1 t.2.2.2.2.1 t.2.2.2.2.2.1 t.2.2.2.2.2.2
def Fch.l23_0.r {α : Type} (mk0 : Int → LI → Int → LI → LI → LI → α) (n : Nat) (rc : Int → Int → LI → Int → LI → LI → LI → Option α)  (x0 : Int) (x1 : Int) (x2 : LI) (x3 : Int) (x4 : LI) (x5 : LI) (x6 : LI) : Option α :=
  if (decide (x0 < 5)) = true then
   if 0 ≤ (IntKind.wrap .i64 ((IntKind.wrap .i64 (5 * x1)) + x0)) then
    if (IntKind.wrap .i64 ((IntKind.wrap .i64 (5 * x1)) + x0)) < (((List.length x6) : Nat) : Int) then
     if 0 ≤ (IntKind.wrap .i64 ((IntKind.wrap .i64 (5 * x1)) + (Int.tmod (IntKind.wrap .i64 (x0 + 1)) 5))) then
      if (IntKind.wrap .i64 ((IntKind.wrap .i64 (5 * x1)) + (Int.tmod (IntKind.wrap .i64 (x0 + 1)) 5))) < (((List.length x6) : Nat) : Int) then
       if 0 ≤ (IntKind.wrap .i64 ((IntKind.wrap .i64 (5 * x1)) + (Int.tmod (IntKind.wrap .i64 (x0 + 2)) 5))) then
        if (IntKind.wrap .i64 ((IntKind.wrap .i64 (5 * x1)) + (Int.tmod (IntKind.wrap .i64 (x0 + 2)) 5))) < (((List.length x6) : Nat) : Int) then
         if ((((List.length x5) + 1) * 8) ≤ 70368744177664 ∧ ((List.length x5) + 1) ≤ 9223372036854775807) then
          rc (IntKind.wrap .i64 (x0 + 1)) x1 x2 x3 x4 (x5 ++ [(ibits BinOp.xor .u64 (List.getD x6 (Int.toNat (IntKind.wrap .i64 ((IntKind.wrap .i64 (5 * x1)) + x0))) 0) (ibits BinOp.and .u64 (ibits BinOp.xor .u64 (if false = true then (-1) else 18446744073709551615) (List.getD x6 (Int.toNat (IntKind.wrap .i64 ((IntKind.wrap .i64 (5 * x1)) + (Int.tmod (IntKind.wrap .i64 (x0 + 1)) 5)))) 0)) (List.getD x6 (Int.toNat (IntKind.wrap .i64 ((IntKind.wrap .i64 (5 * x1)) + (Int.tmod (IntKind.wrap .i64 (x0 + 2)) 5)))) 0)))]) x6
         else
          none
        else
         none
       else
        none
      else
       none
     else
      none
    else
     none
   else
    none
  else
   some (mk0 x1 x2 x3 x4 x5 x6)
def Fch.l23_0.g {α : Type} (mk0 : Int → LI → Int → LI → LI → LI → α) (n : Nat) : Nat → Int → Int → LI → Int → LI → LI → LI → Option α
 | 0, _, _, _, _, _, _, _ => none
 | m + 1, x0, x1, x2, x3, x4, x5, x6 => Fch.l23_0.r mk0 n (fun y0 y1 y2 y3 y4 y5 y6 => Fch.l23_0.g mk0 n m y0 y1 y2 y3 y4 y5 y6)  x0 x1 x2 x3 x4 x5 x6
def Fch.l23_0.m (n m : Nat) (t : (Int × (Int × (LI × (Int × (LI × (LI × LI))))))) : Option (Int × (LI × (Int × (LI × (LI × LI))))) := Fch.l23_0.g (fun a0 a1 a2 a3 a4 a5 => (a0, a1, a2, a3, a4, a5)) n m t.1 t.2.1 t.2.2.1 t.2.2.2.1 t.2.2.2.2.1 t.2.2.2.2.2.1 t.2.2.2.2.2.2
def Fch.l20_0.r {α : Type} (mk0 : LI → Int → LI → LI → α) (n : Nat) (rc : Int → LI → Int → LI → LI → LI → Option α)  (x0 : Int) (x1 : LI) (x2 : Int) (x3 : LI) (x4 : LI) (x5 : LI) : Option α :=
  if (decide (x0 < 5)) = true then
   bindO (Fch.l23_0.m n n (0, x0, x1, x2, x3, x4, x5)) fun r6 =>
    rc (IntKind.wrap .i64 (r6.1 + 1)) r6.2.1 r6.2.2.1 r6.2.2.2.1 r6.2.2.2.2.1 r6.2.2.2.2.2
  else
   some (mk0 x1 x2 x3 x4)
def Fch.l20_0.g {α : Type} (mk0 : LI → Int → LI → LI → α) (n : Nat) : Nat → Int → LI → Int → LI → LI → LI → Option α
 | 0, _, _, _, _, _, _ => none
 | m + 1, x0, x1, x2, x3, x4, x5 => Fch.l20_0.r mk0 n (fun y0 y1 y2 y3 y4 y5 => Fch.l20_0.g mk0 n m y0 y1 y2 y3 y4 y5)  x0 x1 x2 x3 x4 x5
def Fch.l20_0.m (n m : Nat) (t : (Int × (LI × (Int × (LI × (LI × LI)))))) : Option (LI × (Int × (LI × LI))) := Fch.l20_0.g (fun a0 a1 a2 a3 => (a0, a1, a2, a3)) n m t.1 t.2.1 t.2.2.1 t.2.2.2.1 t.2.2.2.2.1 t.2.2.2.2.2
def Fch.l6v1_0.r {α : Type} (mk0 : LI → LI → Int → LI → LI → α) (n : Nat) (rc : Int → LI → LI → Int → LI → LI → Option α)  (x0 : Int) (x1 : LI) (x2 : LI) (x3 : Int) (x4 : LI) (x5 : LI) : Option α :=
  if (decide (x0 < 5)) = true then
   if 0 ≤ x0 then
    if x0 < (((List.length x5) : Nat) : Int) then
     if 0 ≤ (IntKind.wrap .i64 (5 + x0)) then
      if (IntKind.wrap .i64 (5 + x0)) < (((List.length x5) : Nat) : Int) then
       if 0 ≤ (IntKind.wrap .i64 (10 + x0)) then
        if (IntKind.wrap .i64 (10 + x0)) < (((List.length x5) : Nat) : Int) then
         if 0 ≤ (IntKind.wrap .i64 (15 + x0)) then
          if (IntKind.wrap .i64 (15 + x0)) < (((List.length x5) : Nat) : Int) then
           if 0 ≤ (IntKind.wrap .i64 (20 + x0)) then
            if (IntKind.wrap .i64 (20 + x0)) < (((List.length x5) : Nat) : Int) then
             if ((((List.length x4) + 1) * 8) ≤ 70368744177664 ∧ ((List.length x4) + 1) ≤ 9223372036854775807) then
              rc (IntKind.wrap .i64 (x0 + 1)) x1 x2 x3 (x4 ++ [(ibits BinOp.xor .u64 (ibits BinOp.xor .u64 (ibits BinOp.xor .u64 (ibits BinOp.xor .u64 (List.getD x5 (Int.toNat x0) 0) (List.getD x5 (Int.toNat (IntKind.wrap .i64 (5 + x0))) 0)) (List.getD x5 (Int.toNat (IntKind.wrap .i64 (10 + x0))) 0)) (List.getD x5 (Int.toNat (IntKind.wrap .i64 (15 + x0))) 0)) (List.getD x5 (Int.toNat (IntKind.wrap .i64 (20 + x0))) 0))]) x5
             else
              none
            else
             none
           else
            none
          else
           none
         else
          none
        else
         none
       else
        none
      else
       none
     else
      none
    else
     none
   else
    none
  else
   some (mk0 x1 x2 x3 x4 x5)
def Fch.l6v1_0.g {α : Type} (mk0 : LI → LI → Int → LI → LI → α) (n : Nat) : Nat → Int → LI → LI → Int → LI → LI → Option α
 | 0, _, _, _, _, _, _ => none
 | m + 1, x0, x1, x2, x3, x4, x5 => Fch.l6v1_0.r mk0 n (fun y0 y1 y2 y3 y4 y5 => Fch.l6v1_0.g mk0 n m y0 y1 y2 y3 y4 y5)  x0 x1 x2 x3 x4 x5
def Fch.l6v1_0.m (n m : Nat) (t : (Int × (LI × (LI × (Int × (LI × LI)))))) : Option (LI × (LI × (Int × (LI × LI)))) := Fch.l6v1_0.g (fun a0 a1 a2 a3 a4 => (a0, a1, a2, a3, a4)) n m t.1 t.2.1 t.2.2.1 t.2.2.2.1 t.2.2.2.2.1 t.2.2.2.2.2
def Fch.l15v1_0.r {α : Type} (mk0 : Int → LI → LI → Int → LI → LI → LI → α) (n : Nat) (rc : Int → Int → Int → LI → LI → Int → LI → LI → LI → Option α)  (x0 : Int) (x1 : Int) (x2 : Int) (x3 : LI) (x4 : LI) (x5 : Int) (x6 : LI) (x7 : LI) (x8 : LI) : Option α :=
  if (decide (x0 < 5)) = true then
   if 0 ≤ (IntKind.wrap .i64 ((IntKind.wrap .i64 (5 * x0)) + x1)) then
    if (IntKind.wrap .i64 ((IntKind.wrap .i64 (5 * x0)) + x1)) < (((List.length x7) : Nat) : Int) then
     if 0 ≤ (IntKind.wrap .i64 ((IntKind.wrap .i64 (5 * x0)) + x1)) then
      if (IntKind.wrap .i64 ((IntKind.wrap .i64 (5 * x0)) + x1)) < (((List.length x3) : Nat) : Int) then
       bindO (Fcg.m n ((ibits BinOp.xor .u64 (List.getD x7 (Int.toNat (IntKind.wrap .i64 ((IntKind.wrap .i64 (5 * x0)) + x1))) 0) x2), (List.getD x3 (Int.toNat (IntKind.wrap .i64 ((IntKind.wrap .i64 (5 * x0)) + x1))) 0))) fun r14 =>
        if 0 ≤ (IntKind.wrap .i64 ((IntKind.wrap .i64 (5 * (Int.tmod (IntKind.wrap .i64 ((IntKind.wrap .i64 (2 * x1)) + (IntKind.wrap .i64 (3 * x0)))) 5))) + x0)) then
         if (IntKind.wrap .i64 ((IntKind.wrap .i64 (5 * (Int.tmod (IntKind.wrap .i64 ((IntKind.wrap .i64 (2 * x1)) + (IntKind.wrap .i64 (3 * x0)))) 5))) + x0)) < (((List.length x6) : Nat) : Int) then
          rc (IntKind.wrap .i64 (x0 + 1)) x1 x2 x3 x4 x5 (List.set x6 (Int.toNat (IntKind.wrap .i64 ((IntKind.wrap .i64 (5 * (Int.tmod (IntKind.wrap .i64 ((IntKind.wrap .i64 (2 * x1)) + (IntKind.wrap .i64 (3 * x0)))) 5))) + x0))) r14) x7 x8
         else
          none
        else
         none
      else
       none
     else
      none
    else
     none
   else
    none
  else
   some (mk0 x1 x3 x4 x5 x8 x6 x7)
def Fch.l15v1_0.g {α : Type} (mk0 : Int → LI → LI → Int → LI → LI → LI → α) (n : Nat) : Nat → Int → Int → Int → LI → LI → Int → LI → LI → LI → Option α
 | 0, _, _, _, _, _, _, _, _, _ => none
 | m + 1, x0, x1, x2, x3, x4, x5, x6, x7, x8 => Fch.l15v1_0.r mk0 n (fun y0 y1 y2 y3 y4 y5 y6 y7 y8 => Fch.l15v1_0.g mk0 n m y0 y1 y2 y3 y4 y5 y6 y7 y8)  x0 x1 x2 x3 x4 x5 x6 x7 x8
def Fch.l15v1_0.m (n m : Nat) (t : (Int × (Int × (Int × (LI × (LI × (Int × (LI × (LI × LI))))))))) : Option (Int × (LI × (LI × (Int × (LI × (LI × LI)))))) := Fch.l15v1_0.g (fun a0 a1 a2 a3 a4 a5 a6 => (a0, a1, a2, a3, a4, a5, a6)) n m t.1 t.2.1 t.2.2.1 t.2.2.2.1 t.2.2.2.2.1 t.2.2.2.2.2.1 t.2.2.2.2.2.2.1 t.2.2.2.2.2.2.2.1 t.2.2.2.2.2.2.2.2
def Fch.l11v1_0.r {α : Type} (mk0 : LI → Int → LI → LI → α) (n : Nat) (rc : Int → LI → LI → Int → LI → LI → LI → Option α)  (x0 : Int) (x1 : LI) (x2 : LI) (x3 : Int) (x4 : LI) (x5 : LI) (x6 : LI) : Option α :=
  if (decide (x0 < 5)) = true then
   if 0 ≤ (Int.tmod (IntKind.wrap .i64 (x0 + 4)) 5) then
    if (Int.tmod (IntKind.wrap .i64 (x0 + 4)) 5) < (((List.length x4) : Nat) : Int) then
     if 0 ≤ (Int.tmod (IntKind.wrap .i64 (x0 + 1)) 5) then
      if (Int.tmod (IntKind.wrap .i64 (x0 + 1)) 5) < (((List.length x4) : Nat) : Int) then
       bindO (Fcg.m n ((List.getD x4 (Int.toNat (Int.tmod (IntKind.wrap .i64 (x0 + 1)) 5)) 0), 1)) fun r14 =>
        bindO (Fch.l15v1_0.m n n (0, x0, (ibits BinOp.xor .u64 (List.getD x4 (Int.toNat (Int.tmod (IntKind.wrap .i64 (x0 + 4)) 5)) 0) r14), x1, x2, x3, x5, x6, x4)) fun r16 =>
         rc (IntKind.wrap .i64 (r16.1 + 1)) r16.2.1 r16.2.2.1 r16.2.2.2.1 r16.2.2.2.2.1 r16.2.2.2.2.2.1 r16.2.2.2.2.2.2
      else
       none
     else
      none
    else
     none
   else
    none
  else
   some (mk0 x2 x3 x1 x5)
def Fch.l11v1_0.g {α : Type} (mk0 : LI → Int → LI → LI → α) (n : Nat) : Nat → Int → LI → LI → Int → LI → LI → LI → Option α
 | 0, _, _, _, _, _, _, _ => none
 | m + 1, x0, x1, x2, x3, x4, x5, x6 => Fch.l11v1_0.r mk0 n (fun y0 y1 y2 y3 y4 y5 y6 => Fch.l11v1_0.g mk0 n m y0 y1 y2 y3 y4 y5 y6)  x0 x1 x2 x3 x4 x5 x6
def Fch.l11v1_0.m (n m : Nat) (t : (Int × (LI × (LI × (Int × (LI × (LI × LI))))))) : Option (LI × (Int × (LI × LI))) := Fch.l11v1_0.g (fun a0 a1 a2 a3 => (a0, a1, a2, a3)) n m t.1 t.2.1 t.2.2.1 t.2.2.2.1 t.2.2.2.2.1 t.2.2.2.2.2.1 t.2.2.2.2.2.2
def Fch.l2_1.r {α : Type} (mk0 : LI → α) (mk1 : LI → α) (n : Nat) (rc : Int → LI → LI → LI → Option α)  (x0 : Int) (x1 : LI) (x2 : LI) (x3 : LI) : Option α :=
  if (decide (x0 < 24)) = true then
   bindO (Fch.l6v1_0.m n n (0, x1, x2, x0, [], x3)) fun r6 =>
    bindO (Fch.l11v1_0.m n n (0, r6.1, r6.2.1, r6.2.2.1, r6.2.2.2.1, ([0, 0, 0, 0, 0, 0, 0, 0, 0, 0, 0, 0, 0, 0, 0, 0, 0, 0, 0, 0, 0, 0, 0, 0, 0] : List Int), r6.2.2.2.2)) fun r8 =>
     bindO (Fch.l20_0.m n n (0, r8.1, r8.2.1, r8.2.2.1, [], r8.2.2.2)) fun r10 =>
      if 0 < (((List.length r10.2.2.2) : Nat) : Int) then
       if 0 ≤ r10.2.1 then
        if r10.2.1 < (((List.length r10.1) : Nat) : Int) then
         if 0 < (((List.length r10.2.2.2) : Nat) : Int) then
          rc (IntKind.wrap .i64 (r10.2.1 + 1)) r10.2.2.1 r10.1 (List.set r10.2.2.2 0 (ibits BinOp.xor .u64 (List.getD r10.2.2.2 0 0) (List.getD r10.1 (Int.toNat r10.2.1) 0)))
         else
          none
        else
         none
       else
        none
      else
       none
  else
   some (mk0 x3)
def Fch.l2_1.g {α : Type} (mk0 : LI → α) (mk1 : LI → α) (n : Nat) : Nat → Int → LI → LI → LI → Option α
 | 0, _, _, _, _ => none
 | m + 1, x0, x1, x2, x3 => Fch.l2_1.r mk0 mk1 n (fun y0 y1 y2 y3 => Fch.l2_1.g mk0 mk1 n m y0 y1 y2 y3)  x0 x1 x2 x3
def Fch.l2_0.r {α : Type} (mk0 : LI → α) (mk1 : LI → α) (n : Nat) (rc : Int → LI → LI → LI → Option α) (rc0 : Int → LI → LI → LI → Option α) (x0 : Int) (x1 : LI) (x2 : LI) (x3 : LI) : Option α :=
  if (decide (x0 < 24)) = true then
   bindO (Fch.l6_0.m n n (0, x1, x2, x3, x0, [])) fun r6 =>
    bindO (Fch.l11_0.m n n (0, r6.1, r6.2.1, r6.2.2.1, r6.2.2.2.1, r6.2.2.2.2, ([0, 0, 0, 0, 0, 0, 0, 0, 0, 0, 0, 0, 0, 0, 0, 0, 0, 0, 0, 0, 0, 0, 0, 0, 0] : List Int))) fun r8 =>
     bindO (Fch.l20_0.m n n (0, r8.1, r8.2.1, r8.2.2.1, [], r8.2.2.2)) fun r10 =>
      if 0 < (((List.length r10.2.2.2) : Nat) : Int) then
       if 0 ≤ r10.2.1 then
        if r10.2.1 < (((List.length r10.1) : Nat) : Int) then
         if 0 < (((List.length r10.2.2.2) : Nat) : Int) then
          rc0 (IntKind.wrap .i64 (r10.2.1 + 1)) r10.2.2.1 r10.1 (List.set r10.2.2.2 0 (ibits BinOp.xor .u64 (List.getD r10.2.2.2 0 0) (List.getD r10.1 (Int.toNat r10.2.1) 0)))
         else
          none
        else
         none
       else
        none
      else
       none
  else
   some (mk1 x1)
def Fch.l2_0.g {α : Type} (mk0 : LI → α) (mk1 : LI → α) (n : Nat) : Nat → Int → LI → LI → LI → Option α
 | 0, _, _, _, _ => none
 | m + 1, x0, x1, x2, x3 => Fch.l2_0.r mk0 mk1 n (fun y0 y1 y2 y3 => Fch.l2_0.g mk0 mk1 n m y0 y1 y2 y3) (fun y0 y1 y2 y3 => Fch.l2_1.g mk0 mk1 n m y0 y1 y2 y3) x0 x1 x2 x3
def Fch.l2_0.m (n m : Nat) (t : (Int × (LI × (LI × LI)))) : Option (LI ⊕ LI) := Fch.l2_0.g (fun a0 => (.inl a0)) (fun a0 => (.inr a0)) n m t.1 t.2.1 t.2.2.1 t.2.2.2
def Fch.g {α : Type} (mk0 : LI → α) (mk1 : LI → α) (n : Nat) (a0 : LI) (a1 : LI) (a2 : LI) : Option α :=
 bindO (Fch.l2_0.m n n (0, a0, a1, a2)) fun r2 => match r2 with
  | (.inl r2) =>
   some (mk0 r2)
  | (.inr r2) =>
   some (mk1 r2)
def Fch.m (n : Nat) (t : (LI × (LI × LI))) : Option (LI ⊕ LI) := Fch.g (fun a0 => (.inl a0)) (fun a0 => (.inr a0)) n t.1 t.2.1 t.2.2
end
end
section
noncomputable section
def Fbc.l2_0.r {α : Type} (mk0 : LI → α) (n : Nat) (rc : LI → Option α)  (x0 : LI) : Option α :=
  if (decide ((((List.length x0) : Nat) : Int) < 25)) = true then
   if ((((List.length x0) + 1) * 8) ≤ 70368744177664 ∧ ((List.length x0) + 1) ≤ 9223372036854775807) then
    rc (x0 ++ [0])
   else
    none
  else
   some (mk0 x0)
def Fbc.l2_0.g {α : Type} (mk0 : LI → α) (n : Nat) : Nat → LI → Option α
 | 0, _ => none
 | m + 1, x0 => Fbc.l2_0.r mk0 n (fun y0 => Fbc.l2_0.g mk0 n m y0)  x0
def Fbc.l2_0.m (n m : Nat) (t : LI) : Option LI := Fbc.l2_0.g (fun a0 => a0) n m t
def Fbc.l7_0.r {α : Type} (mk0 : LI → α) (n : Nat) (rc : Int → Int → Int → LI → Option α)  (x0 : Int) (x1 : Int) (x2 : Int) (x3 : LI) : Option α :=
  if (decide (x0 < 24)) = true then
   if 0 ≤ (IntKind.wrap .i64 ((IntKind.wrap .i64 (5 * x1)) + x2)) then
    if (IntKind.wrap .i64 ((IntKind.wrap .i64 (5 * x1)) + x2)) < (((List.length x3) : Nat) : Int) then
     rc (IntKind.wrap .i64 (x0 + 1)) (Int.tmod (IntKind.wrap .i64 ((IntKind.wrap .i64 (2 * x2)) + (IntKind.wrap .i64 (3 * x1)))) 5) x1 (List.set x3 (Int.toNat (IntKind.wrap .i64 ((IntKind.wrap .i64 (5 * x1)) + x2))) (Int.tmod (IntKind.wrap .i64 (Int.tdiv (IntKind.wrap .i64 ((IntKind.wrap .i64 (x0 + 1)) * (IntKind.wrap .i64 (x0 + 2)))) 2)) 64))
    else
     none
   else
    none
  else
   some (mk0 x3)
def Fbc.l7_0.g {α : Type} (mk0 : LI → α) (n : Nat) : Nat → Int → Int → Int → LI → Option α
 | 0, _, _, _, _ => none
 | m + 1, x0, x1, x2, x3 => Fbc.l7_0.r mk0 n (fun y0 y1 y2 y3 => Fbc.l7_0.g mk0 n m y0 y1 y2 y3)  x0 x1 x2 x3
def Fbc.l7_0.m (n m : Nat) (t : (Int × (Int × (Int × LI)))) : Option LI := Fbc.l7_0.g (fun a0 => a0) n m t.1 t.2.1 t.2.2.1 t.2.2.2
def Fbc.g {α : Type} (mk0 : LI → α) (n : Nat)  : Option α :=
 bindO (Fbc.l2_0.m n n [0]) fun r2 =>
  bindO (Fbc.l7_0.m n n (0, 0, 1, r2)) fun r4 =>
   some (mk0 r4)
def Fbc.m (n : Nat) (t : Unit) : Option LI := Fbc.g (fun a0 => a0) n 
end
end
section
noncomputable section
def Fbo.l9_0.r {α : Type} (mk0 : Int → Int → Int → LI → α) (n : Nat) (rc : Int → Int → Int → Int → Int → LI → Option α)  (x0 : Int) (x1 : Int) (x2 : Int) (x3 : Int) (x4 : Int) (x5 : LI) : Option α :=
  if (decide (x0 < 7)) = true then
   if ((Int.tmod x1 2) == 1) = true then
    if 0 ≤ (IntKind.wrap .u64 (IntKind.wrap .i64 (x3 - 1))) then
     if (decide ((IntKind.wrap .i64 (2 * x1)) ≥ 256)) = true then
      rc (IntKind.wrap .i64 (x0 + 1)) (ibits BinOp.xor .i64 (IntKind.wrap .i64 (2 * x1)) 369) (ibits BinOp.or .u64 x2 (ishl .u64 1 (IntKind.wrap .u64 (IntKind.wrap .i64 (x3 - 1))))) (IntKind.wrap .i64 (2 * x3)) x4 x5
     else
      rc (IntKind.wrap .i64 (x0 + 1)) (IntKind.wrap .i64 (2 * x1)) (ibits BinOp.or .u64 x2 (ishl .u64 1 (IntKind.wrap .u64 (IntKind.wrap .i64 (x3 - 1))))) (IntKind.wrap .i64 (2 * x3)) x4 x5
    else
     none
   else
    if (decide ((IntKind.wrap .i64 (2 * x1)) ≥ 256)) = true then
     rc (IntKind.wrap .i64 (x0 + 1)) (ibits BinOp.xor .i64 (IntKind.wrap .i64 (2 * x1)) 369) x2 (IntKind.wrap .i64 (2 * x3)) x4 x5
    else
     rc (IntKind.wrap .i64 (x0 + 1)) (IntKind.wrap .i64 (2 * x1)) x2 (IntKind.wrap .i64 (2 * x3)) x4 x5
  else
   some (mk0 x2 x4 x1 x5)
def Fbo.l9_0.g {α : Type} (mk0 : Int → Int → Int → LI → α) (n : Nat) : Nat → Int → Int → Int → Int → Int → LI → Option α
 | 0, _, _, _, _, _, _ => none
 | m + 1, x0, x1, x2, x3, x4, x5 => Fbo.l9_0.r mk0 n (fun y0 y1 y2 y3 y4 y5 => Fbo.l9_0.g mk0 n m y0 y1 y2 y3 y4 y5)  x0 x1 x2 x3 x4 x5
def Fbo.l9_0.m (n m : Nat) (t : (Int × (Int × (Int × (Int × (Int × LI)))))) : Option (Int × (Int × (Int × LI))) := Fbo.l9_0.g (fun a0 a1 a2 a3 => (a0, a1, a2, a3)) n m t.1 t.2.1 t.2.2.1 t.2.2.2.1 t.2.2.2.2.1 t.2.2.2.2.2
def Fbo.l4_0.r {α : Type} (mk0 : LI → α) (n : Nat) (rc : Int → Int → LI → Option α)  (x0 : Int) (x1 : Int) (x2 : LI) : Option α :=
  if (decide (x0 < 24)) = true then
   bindO (Fbo.l9_0.m n n (0, x1, 0, 1, x0, x2)) fun r6 =>
    if ((((List.length r6.2.2.2) + 1) * 8) ≤ 70368744177664 ∧ ((List.length r6.2.2.2) + 1) ≤ 9223372036854775807) then
     rc (IntKind.wrap .i64 (r6.2.1 + 1)) r6.2.2.1 (r6.2.2.2 ++ [r6.1])
    else
     none
  else
   some (mk0 x2)
def Fbo.l4_0.g {α : Type} (mk0 : LI → α) (n : Nat) : Nat → Int → Int → LI → Option α
 | 0, _, _, _ => none
 | m + 1, x0, x1, x2 => Fbo.l4_0.r mk0 n (fun y0 y1 y2 => Fbo.l4_0.g mk0 n m y0 y1 y2)  x0 x1 x2
def Fbo.l4_0.m (n m : Nat) (t : (Int × (Int × LI))) : Option LI := Fbo.l4_0.g (fun a0 => a0) n m t.1 t.2.1 t.2.2
def Fbo.g {α : Type} (mk0 : LI → α) (n : Nat)  : Option α :=
 bindO (Fbo.l4_0.m n n (0, 1, [])) fun r2 =>
  some (mk0 r2)
def Fbo.m (n : Nat) (t : Unit) : Option LI := Fbo.g (fun a0 => a0) n 
end
end
section
noncomputable section
noncomputable def Fg.C (n : Nat) : Ctx := ⟨Tryd.prog, abiG, lookC [(111, Fi.c n)], fun _ => false⟩
def Fg.live : NL := fun k => match k with
 | 1 => ([8, 7, 6, 0], [0])
 | _ => ([], [])
def Fg.l1_0.r {α : Type} (mk0 : LI → α) (n : Nat) (rc : Int → Int → LI → LI → Option α)  (x0 : Int) (x1 : Int) (x2 : LI) (x3 : LI) : Option α :=
  if (decide (x0 < x1)) = true then
   if 0 ≤ x0 then
    if x0 < (((List.length x2) : Nat) : Int) then
     if 0 ≤ (IntKind.wrap .i64 (Int.tdiv x0 8)) then
      if (IntKind.wrap .i64 (Int.tdiv x0 8)) < 25 then
       if 0 ≤ (IntKind.wrap .i64 ((Int.tmod x0 8) * 8)) then
        if 0 ≤ (IntKind.wrap .i64 (Int.tdiv x0 8)) then
         if (IntKind.wrap .i64 (Int.tdiv x0 8)) < 25 then
          rc (IntKind.wrap .i64 (x0 + 1)) x1 x2 (List.set x3 (Int.toNat (IntKind.wrap .i64 (Int.tdiv x0 8))) (ibits BinOp.xor .u64 (List.getD x3 (Int.toNat (IntKind.wrap .i64 (Int.tdiv x0 8))) 0) (ishl .u64 (IntKind.wrap .u64 (List.getD x2 (Int.toNat x0) 0)) (IntKind.wrap .i64 ((Int.tmod x0 8) * 8)))))
         else
          none
        else
         none
       else
        none
      else
       none
     else
      none
    else
     none
   else
    none
  else
   some (mk0 x3)
def Fg.l1_0.g {α : Type} (mk0 : LI → α) (n : Nat) : Nat → Int → Int → LI → LI → Option α
 | 0, _, _, _, _ => none
 | m + 1, x0, x1, x2, x3 => Fg.l1_0.r mk0 n (fun y0 y1 y2 y3 => Fg.l1_0.g mk0 n m y0 y1 y2 y3)  x0 x1 x2 x3
def Fg.l1_0.m (n m : Nat) (t : (Int × (Int × (LI × LI)))) : Option LI := Fg.l1_0.g (fun a0 => a0) n m t.1 t.2.1 t.2.2.1 t.2.2.2
def Fg.l1_0.pat : St → Option (Int × (Int × (LI × LI)))
 | (St.mk [(.int .i64 x0), (.int .i64 x1), (.rints .u8 x2), (.ptr 0 [])] [(some (.var (.ints .u64 25 x3)))]) => some (x0, x1, x2, x3)
 | _ => none
def Fg.l1_0.shape (t : (Int × (Int × (LI × LI)))) : St := (St.mk [(.int .i64 t.1), (.int .i64 t.2.1), (.rints .u8 t.2.2.1), (.ptr 0 [])] [(some (.var (.ints .u64 25 t.2.2.2)))])
def Fg.l1_0.res : LI → Ex × St
 | u => ((.exit 0), (St.mk [(.ptr 0 [])] [(some (.var (.ints .u64 25 u)))]))
def Fg.l1_0.resK {R : Type} (u : LI) (K : Ex → St → Option R) : Option R := K (Fg.l1_0.res u).1 (Fg.l1_0.res u).2
noncomputable def Fg.A (n : Nat) : Ann := ⟨Tryd.f93.ntmps, 1, Fg.live, [(6, (.ints .u8))], [], fun k => match k with
 | 1 => some (.mk' Fg.l1_0.pat (Fg.l1_0.m n n) Fg.l1_0.resK)
 | _ => none, noNL, lookJ []⟩
noncomputable def Fg.b0 : Code := (loopsIn (Tryd.f93.body.getD .skip)).getD 0 .skip
def Fg.g {α : Type} (mk0 : LI → α) (n : Nat) (b : LI) (s : LI) : Option α :=
 bindO (Fg.l1_0.m n n (0, (((List.length b) : Nat) : Int), b, s)) fun r2 =>
  bindO (Fi.m n r2) fun r4 =>
   some (mk0 r4)
def Fg.m (n : Nat) (t : (LI × LI)) : Option LI := Fg.g (fun a0 => a0) n t.1 t.2
def Fg.pat : List AV → Blks → Option (LI × LI)
 | [(.ptr 0 []), (.rints .u8 b)], [(some (.var (.ints .u64 25 s)))] => some (b, s)
 | _, _ => none
def Fg.shape (t : (LI × LI)) : List AV × Blks := ([(.ptr 0 []), (.rints .u8 t.1)], [(some (.var (.ints .u64 25 t.2)))])
def Fg.res : LI → AV × Blks
 | u => ((.tup []), [(some (.var (.ints .u64 25 u)))])
def Fg.resK {R : Type} (u : LI) (K : AV → Blks → Option R) : Option R := K (Fg.res u).1 (Fg.res u).2
def Fg.c (n : Nat) : Abs.Callee := .mk' [true, false] [none, (some (.ints .u8))] Fg.pat (Fg.m n) Fg.resK
end
end
section
noncomputable section
noncomputable def Fbd.C (n : Nat) : Ctx := ⟨Tryd.prog, abiG, lookC [], fun _ => false⟩
def Fbd.live : NL := fun k => match k with
 | 4 => ([13, 12, 3, 0, 2], [3, 2])
 | _ => ([], [])
def Fbd.l4_0.r {α : Type} (mk0 : LI → LI → α) (n : Nat) (rc : Int → Int → LI → LI → LI → Option α)  (x0 : Int) (x1 : Int) (x2 : LI) (x3 : LI) (x4 : LI) : Option α :=
  if (decide (x0 < x1)) = true then
   if 0 ≤ (IntKind.wrap .i64 (Int.tdiv x0 8)) then
    if (IntKind.wrap .i64 (Int.tdiv x0 8)) < 4 then
     if 0 ≤ (IntKind.wrap .i64 ((IntKind.wrap .i64 ((((List.length x2) : Nat) : Int) - 1)) - x0)) then
      if (IntKind.wrap .i64 ((IntKind.wrap .i64 ((((List.length x2) : Nat) : Int) - 1)) - x0)) < (((List.length x2) : Nat) : Int) then
       if 0 ≤ (IntKind.wrap .i64 ((Int.tmod x0 8) * 8)) then
        if 0 ≤ (IntKind.wrap .i64 (Int.tdiv x0 8)) then
         if (IntKind.wrap .i64 (Int.tdiv x0 8)) < 4 then
          rc (IntKind.wrap .i64 (x0 + 1)) x1 x2 (List.set x3 (Int.toNat (IntKind.wrap .i64 (Int.tdiv x0 8))) (ibits BinOp.or .u64 (List.getD x3 (Int.toNat (IntKind.wrap .i64 (Int.tdiv x0 8))) 0) (ishl .u64 (IntKind.wrap .u64 (List.getD x2 (Int.toNat (IntKind.wrap .i64 ((IntKind.wrap .i64 ((((List.length x2) : Nat) : Int) - 1)) - x0))) 0)) (IntKind.wrap .i64 ((Int.tmod x0 8) * 8))))) x4
         else
          none
        else
         none
       else
        none
      else
       none
     else
      none
    else
     none
   else
    none
  else
   some (mk0 x3 x4)
def Fbd.l4_0.g {α : Type} (mk0 : LI → LI → α) (n : Nat) : Nat → Int → Int → LI → LI → LI → Option α
 | 0, _, _, _, _, _ => none
 | m + 1, x0, x1, x2, x3, x4 => Fbd.l4_0.r mk0 n (fun y0 y1 y2 y3 y4 => Fbd.l4_0.g mk0 n m y0 y1 y2 y3 y4)  x0 x1 x2 x3 x4
def Fbd.l4_0.m (n m : Nat) (t : (Int × (Int × (LI × (LI × LI))))) : Option (LI × LI) := Fbd.l4_0.g (fun a0 a1 => (a0, a1)) n m t.1 t.2.1 t.2.2.1 t.2.2.2.1 t.2.2.2.2
def Fbd.l4_0.pat : St → Option (Int × (Int × (LI × (LI × LI))))
 | (St.mk [(.int .i64 x0), (.int .i64 x1), (.ptr 0 []), (.rints .u8 x2), (.ptr 1 [])] [(some (.var (.ints .u64 4 x3))), (some (.var (.ints .u64 4 x4)))]) => some (x0, x1, x2, x3, x4)
 | _ => none
def Fbd.l4_0.shape (t : (Int × (Int × (LI × (LI × LI))))) : St := (St.mk [(.int .i64 t.1), (.int .i64 t.2.1), (.ptr 0 []), (.rints .u8 t.2.2.1), (.ptr 1 [])] [(some (.var (.ints .u64 4 t.2.2.2.1))), (some (.var (.ints .u64 4 t.2.2.2.2)))])
def Fbd.l4_0.res : (LI × LI) → Ex × St
 | u => ((.exit 0), (St.mk [(.ptr 0 []), (.ptr 1 [])] [(some (.var (.ints .u64 4 u.1))), (some (.var (.ints .u64 4 u.2)))]))
def Fbd.l4_0.resK {R : Type} (u : (LI × LI)) (K : Ex → St → Option R) : Option R := K (Fbd.l4_0.res u).1 (Fbd.l4_0.res u).2
noncomputable def Fbd.A (n : Nat) : Ann := ⟨Tryd.f89.ntmps, 0, Fbd.live, [(0, (.ints .u8))], [none], fun k => match k with
 | 4 => some (.mk' Fbd.l4_0.pat (Fbd.l4_0.m n n) Fbd.l4_0.resK)
 | _ => none, noNL, lookJ []⟩
noncomputable def Fbd.b0 : Code := (loopsIn (Tryd.f89.body.getD .skip)).getD 0 .skip
def Fbd.g {α : Type} (mk0 : LI → α) (n : Nat) (a0 : LI) : Option α :=
 if 0 ≤ (if 0 > (IntKind.wrap .i64 ((((List.length a0) : Nat) : Int) - 32)) then 0 else (IntKind.wrap .i64 ((((List.length a0) : Nat) : Int) - 32))) then
  if (if 0 > (IntKind.wrap .i64 ((((List.length a0) : Nat) : Int) - 32)) then 0 else (IntKind.wrap .i64 ((((List.length a0) : Nat) : Int) - 32))) ≤ (((List.length a0) : Nat) : Int) then
   bindO (Fbd.l4_0.m n n (0, (((List.length (Go.Abs.cut a0 (Int.toNat (if 0 > (IntKind.wrap .i64 ((((List.length a0) : Nat) : Int) - 32)) then 0 else (IntKind.wrap .i64 ((((List.length a0) : Nat) : Int) - 32)))) (Option.none))) : Nat) : Int), (Go.Abs.cut a0 (Int.toNat (if 0 > (IntKind.wrap .i64 ((((List.length a0) : Nat) : Int) - 32)) then 0 else (IntKind.wrap .i64 ((((List.length a0) : Nat) : Int) - 32)))) (Option.none)), [0, 0, 0, 0], [0, 0, 0, 0])) fun r6 =>
    some (mk0 r6.1)
  else
   none
 else
  none
def Fbd.m (n : Nat) (t : LI) : Option LI := Fbd.g (fun a0 => a0) n t
def Fbd.pat : List AV → Blks → Option LI
 | [(.rints .u8 a0)], [] => some a0
 | _, _ => none
def Fbd.shape (t : LI) : List AV × Blks := ([(.rints .u8 t)], [])
def Fbd.res : LI → AV × Blks
 | u => ((.ints .u64 4 u), [])
def Fbd.resK {R : Type} (u : LI) (K : AV → Blks → Option R) : Option R := K (Fbd.res u).1 (Fbd.res u).2
def Fbd.c (n : Nat) : Abs.Callee := .mk' [] [(some (.ints .u8))] Fbd.pat (Fbd.m n) Fbd.resK
end
end
section
noncomputable section
noncomputable def Fam.C (n : Nat) : Ctx := ⟨Tryd.prog, abiG, lookC [(93, Fg.c n), (89, Fbd.c n)], fun _ => false⟩
def Fam.live : NL := fun k => match k with
 | 2 => ([0, 3, 2], [0, 3, 2])
 | 12 => ([30, 3, 5, 2], [5, 2])
 | _ => ([], [])
def Fam.l2_0.r {α : Type} (mk0 : LI → LI → LI → α) (n : Nat) (rc : LI → LI → LI → Option α)  (x0 : LI) (x1 : LI) (x2 : LI) : Option α :=
  if (decide ((((List.length x0) : Nat) : Int) ≥ 136)) = true then
   if 136 ≤ (((List.length x0) : Nat) : Int) then
    bindO (Fg.m n ((Go.Abs.cut x0 0 (Option.some 136)), x1)) fun r8 =>
     if 136 ≤ (((List.length x0) : Nat) : Int) then
      rc (Go.Abs.cut x0 136 (Option.none)) r8 x2
     else
      none
   else
    none
  else
   some (mk0 x0 x1 x2)
def Fam.l2_0.g {α : Type} (mk0 : LI → LI → LI → α) (n : Nat) : Nat → LI → LI → LI → Option α
 | 0, _, _, _ => none
 | m + 1, x0, x1, x2 => Fam.l2_0.r mk0 n (fun y0 y1 y2 => Fam.l2_0.g mk0 n m y0 y1 y2)  x0 x1 x2
def Fam.l2_0.m (n m : Nat) (t : (LI × (LI × LI))) : Option (LI × (LI × LI)) := Fam.l2_0.g (fun a0 a1 a2 => (a0, a1, a2)) n m t.1 t.2.1 t.2.2
def Fam.l2_0.pat : St → Option (LI × (LI × LI))
 | (St.mk [(.rints .u8 x0), (.ptr 0 []), (.ptr 1 [])] [(some (.var (.ints .u64 25 x1))), (some (.var (.ints .u64 4 x2)))]) => some (x0, x1, x2)
 | _ => none
def Fam.l2_0.shape (t : (LI × (LI × LI))) : St := (St.mk [(.rints .u8 t.1), (.ptr 0 []), (.ptr 1 [])] [(some (.var (.ints .u64 25 t.2.1))), (some (.var (.ints .u64 4 t.2.2)))])
def Fam.l2_0.res : (LI × (LI × LI)) → Ex × St
 | u => ((.exit 0), (St.mk [(.rints .u8 u.1), (.ptr 0 []), (.ptr 1 [])] [(some (.var (.ints .u64 25 u.2.1))), (some (.var (.ints .u64 4 u.2.2)))]))
def Fam.l2_0.resK {R : Type} (u : (LI × (LI × LI))) (K : Ex → St → Option R) : Option R := K (Fam.l2_0.res u).1 (Fam.l2_0.res u).2
def Fam.l12_0.r {α : Type} (mk0 : LI → LI → α) (n : Nat) (rc : Int → LI → LI → LI → Option α)  (x0 : Int) (x1 : LI) (x2 : LI) (x3 : LI) : Option α :=
  if (decide (x0 < 32)) = true then
   if 0 ≤ (IntKind.wrap .i64 (Int.tdiv x0 8)) then
    if (IntKind.wrap .i64 (Int.tdiv x0 8)) < 25 then
     if 0 ≤ (IntKind.wrap .i64 ((Int.tmod x0 8) * 8)) then
      if 0 ≤ x0 then
       if x0 < 32 then
        rc (IntKind.wrap .i64 (x0 + 1)) x1 (List.set x2 (Int.toNat x0) (IntKind.wrap .u8 (ishr .u64 (List.getD x1 (Int.toNat (IntKind.wrap .i64 (Int.tdiv x0 8))) 0) (IntKind.wrap .i64 ((Int.tmod x0 8) * 8))))) x3
       else
        none
      else
       none
     else
      none
    else
     none
   else
    none
  else
   some (mk0 x2 x3)
def Fam.l12_0.g {α : Type} (mk0 : LI → LI → α) (n : Nat) : Nat → Int → LI → LI → LI → Option α
 | 0, _, _, _, _ => none
 | m + 1, x0, x1, x2, x3 => Fam.l12_0.r mk0 n (fun y0 y1 y2 y3 => Fam.l12_0.g mk0 n m y0 y1 y2 y3)  x0 x1 x2 x3
def Fam.l12_0.m (n m : Nat) (t : (Int × (LI × (LI × LI)))) : Option (LI × LI) := Fam.l12_0.g (fun a0 a1 => (a0, a1)) n m t.1 t.2.1 t.2.2.1 t.2.2.2
def Fam.l12_0.pat : St → Option (Int × (LI × (LI × LI)))
 | (St.mk [(.int .i64 x0), (.ptr 0 []), (.ptr 1 []), (.ptr 2 [])] [(some (.var (.ints .u64 25 x1))), (some (.var (.ints .u8 32 x2))), (some (.var (.ints .u64 4 x3)))]) => some (x0, x1, x2, x3)
 | _ => none
def Fam.l12_0.shape (t : (Int × (LI × (LI × LI)))) : St := (St.mk [(.int .i64 t.1), (.ptr 0 []), (.ptr 1 []), (.ptr 2 [])] [(some (.var (.ints .u64 25 t.2.1))), (some (.var (.ints .u8 32 t.2.2.1))), (some (.var (.ints .u64 4 t.2.2.2)))])
def Fam.l12_0.res : (LI × LI) → Ex × St
 | u => ((.exit 2), (St.mk [(.ptr 0 []), (.ptr 1 [])] [(some (.var (.ints .u8 32 u.1))), (some (.var (.ints .u64 4 u.2)))]))
def Fam.l12_0.resK {R : Type} (u : (LI × LI)) (K : Ex → St → Option R) : Option R := K (Fam.l12_0.res u).1 (Fam.l12_0.res u).2
noncomputable def Fam.A (n : Nat) : Ann := ⟨Tryd.f57.ntmps, 0, Fam.live, [(0, (.ints .u8))], [none], fun k => match k with
 | 2 => some (.mk' Fam.l2_0.pat (Fam.l2_0.m n n) Fam.l2_0.resK)
 | 12 => some (.mk' Fam.l12_0.pat (Fam.l12_0.m n n) Fam.l12_0.resK)
 | _ => none, noNL, lookJ []⟩
noncomputable def Fam.b0 : Code := (loopsIn (Tryd.f57.body.getD .skip)).getD 0 .skip
noncomputable def Fam.b1 : Code := (loopsIn (Tryd.f57.body.getD .skip)).getD 1 .skip
def Fam.g {α : Type} (mk0 : LI → α) (n : Nat) (a0 : LI) : Option α :=
 bindO (Fam.l2_0.m n n (a0, ([0, 0, 0, 0, 0, 0, 0, 0, 0, 0, 0, 0, 0, 0, 0, 0, 0, 0, 0, 0, 0, 0, 0, 0, 0] : List Int), [0, 0, 0, 0])) fun r2 =>
  if (((List.length r2.1) : Nat) : Int) < 136 then
   if (((List.length r2.1) : Nat) : Int) < 136 then
    bindO (Fg.m n ((List.take 136 (List.drop 0 (List.set (List.set ([] ++ ((List.take 136 r2.1) ++ (List.drop (0 + (Min.min (List.length r2.1) 136)) ([0, 0, 0, 0, 0, 0, 0, 0, 0, 0, 0, 0, 0, 0, 0, 0, 0, 0, 0, 0, 0, 0, 0, 0, 0, 0, 0, 0, 0, 0, 0, 0, 0, 0, 0, 0, 0, 0, 0, 0, 0, 0, 0, 0, 0, 0, 0, 0, 0, 0, 0, 0, 0, 0, 0, 0, 0, 0, 0, 0, 0, 0, 0, 0, 0, 0, 0, 0, 0, 0, 0, 0, 0, 0, 0, 0, 0, 0, 0, 0, 0, 0, 0, 0, 0, 0, 0, 0, 0, 0, 0, 0, 0, 0, 0, 0, 0, 0, 0, 0, 0, 0, 0, 0, 0, 0, 0, 0, 0, 0, 0, 0, 0, 0, 0, 0, 0, 0, 0, 0, 0, 0, 0, 0, 0, 0, 0, 0, 0, 0, 0, 0, 0, 0, 0, 0] : List Int)))) (Int.toNat (((List.length r2.1) : Nat) : Int)) (ibits BinOp.xor .u8 (List.getD ([] ++ ((List.take 136 r2.1) ++ (List.drop (0 + (Min.min (List.length r2.1) 136)) ([0, 0, 0, 0, 0, 0, 0, 0, 0, 0, 0, 0, 0, 0, 0, 0, 0, 0, 0, 0, 0, 0, 0, 0, 0, 0, 0, 0, 0, 0, 0, 0, 0, 0, 0, 0, 0, 0, 0, 0, 0, 0, 0, 0, 0, 0, 0, 0, 0, 0, 0, 0, 0, 0, 0, 0, 0, 0, 0, 0, 0, 0, 0, 0, 0, 0, 0, 0, 0, 0, 0, 0, 0, 0, 0, 0, 0, 0, 0, 0, 0, 0, 0, 0, 0, 0, 0, 0, 0, 0, 0, 0, 0, 0, 0, 0, 0, 0, 0, 0, 0, 0, 0, 0, 0, 0, 0, 0, 0, 0, 0, 0, 0, 0, 0, 0, 0, 0, 0, 0, 0, 0, 0, 0, 0, 0, 0, 0, 0, 0, 0, 0, 0, 0, 0, 0] : List Int)))) (Int.toNat (((List.length r2.1) : Nat) : Int)) 0) 1)) 135 (ibits BinOp.xor .u8 (List.getD (List.set ([] ++ ((List.take 136 r2.1) ++ (List.drop (0 + (Min.min (List.length r2.1) 136)) ([0, 0, 0, 0, 0, 0, 0, 0, 0, 0, 0, 0, 0, 0, 0, 0, 0, 0, 0, 0, 0, 0, 0, 0, 0, 0, 0, 0, 0, 0, 0, 0, 0, 0, 0, 0, 0, 0, 0, 0, 0, 0, 0, 0, 0, 0, 0, 0, 0, 0, 0, 0, 0, 0, 0, 0, 0, 0, 0, 0, 0, 0, 0, 0, 0, 0, 0, 0, 0, 0, 0, 0, 0, 0, 0, 0, 0, 0, 0, 0, 0, 0, 0, 0, 0, 0, 0, 0, 0, 0, 0, 0, 0, 0, 0, 0, 0, 0, 0, 0, 0, 0, 0, 0, 0, 0, 0, 0, 0, 0, 0, 0, 0, 0, 0, 0, 0, 0, 0, 0, 0, 0, 0, 0, 0, 0, 0, 0, 0, 0, 0, 0, 0, 0, 0, 0] : List Int)))) (Int.toNat (((List.length r2.1) : Nat) : Int)) (ibits BinOp.xor .u8 (List.getD ([] ++ ((List.take 136 r2.1) ++ (List.drop (0 + (Min.min (List.length r2.1) 136)) ([0, 0, 0, 0, 0, 0, 0, 0, 0, 0, 0, 0, 0, 0, 0, 0, 0, 0, 0, 0, 0, 0, 0, 0, 0, 0, 0, 0, 0, 0, 0, 0, 0, 0, 0, 0, 0, 0, 0, 0, 0, 0, 0, 0, 0, 0, 0, 0, 0, 0, 0, 0, 0, 0, 0, 0, 0, 0, 0, 0, 0, 0, 0, 0, 0, 0, 0, 0, 0, 0, 0, 0, 0, 0, 0, 0, 0, 0, 0, 0, 0, 0, 0, 0, 0, 0, 0, 0, 0, 0, 0, 0, 0, 0, 0, 0, 0, 0, 0, 0, 0, 0, 0, 0, 0, 0, 0, 0, 0, 0, 0, 0, 0, 0, 0, 0, 0, 0, 0, 0, 0, 0, 0, 0, 0, 0, 0, 0, 0, 0, 0, 0, 0, 0, 0, 0] : List Int)))) (Int.toNat (((List.length r2.1) : Nat) : Int)) 0) 1)) 135 0) 128)))), r2.2.1)) fun r8 =>
     bindO (Fam.l12_0.m n n (0, r8, ([0, 0, 0, 0, 0, 0, 0, 0, 0, 0, 0, 0, 0, 0, 0, 0, 0, 0, 0, 0, 0, 0, 0, 0, 0, 0, 0, 0, 0, 0, 0, 0] : List Int), r2.2.2)) fun r10 =>
      bindO (Fbd.m n (List.take 32 (List.drop 0 r10.1))) fun r12 =>
       some (mk0 r12)
   else
    none
  else
   none
def Fam.m (n : Nat) (t : LI) : Option LI := Fam.g (fun a0 => a0) n t
def Fam.pat : List AV → Blks → Option LI
 | [(.rints .u8 a0)], [] => some a0
 | _, _ => none
def Fam.shape (t : LI) : List AV × Blks := ([(.rints .u8 t)], [])
def Fam.res : LI → AV × Blks
 | u => ((.ints .u64 4 u), [])
def Fam.resK {R : Type} (u : LI) (K : AV → Blks → Option R) : Option R := K (Fam.res u).1 (Fam.res u).2
def Fam.c (n : Nat) : Abs.Callee := .mk' [] [(some (.ints .u8))] Fam.pat (Fam.m n) Fam.resK
end
end
section
noncomputable abbrev Fg.R0 (n : Nat) := roundOf (Fg.C n) (Fg.A n) n Fg.b0
theorem Fg.l1_0.rmap {α β : Type} (h : β → α) (mk0 : LI → β) (n : Nat) (f : Int → Int → LI → LI → Option β)  (x0 : Int) (x1 : Int) (x2 : LI) (x3 : LI) : Fg.l1_0.r (fun a0 => (h (mk0 a0))) n (fun y0 y1 y2 y3 => (f y0 y1 y2 y3).map h) x0 x1 x2 x3 = (Fg.l1_0.r mk0 n f x0 x1 x2 x3).map h := by
  unfold Fg.l1_0.r
  exact (ite_map (ite_map (ite_map (ite_map (ite_map (ite_map (ite_map (ite_map rfl rfl) rfl) rfl) rfl) rfl) rfl) rfl) rfl)
theorem Fg.l1_0.gmap {α β : Type} (h : β → α) (mk0 : LI → β) (n : Nat) : ∀ (m : Nat) (x0 : Int) (x1 : Int) (x2 : LI) (x3 : LI), Fg.l1_0.g (fun a0 => (h (mk0 a0))) n m x0 x1 x2 x3 = (Fg.l1_0.g mk0 n m x0 x1 x2 x3).map h
  | 0, _, _, _, _ => rfl
  | m + 1, x0, x1, x2, x3 => by
    unfold Fg.l1_0.g
    rw [← Fg.l1_0.rmap]
    congr
    · funext y0 y1 y2 y3; exact Fg.l1_0.gmap h mk0 n m y0 y1 y2 y3
theorem Fg.l1_0.pat_shape : ∀ st t, Fg.l1_0.pat st = some t → st = Fg.l1_0.shape t := fun _ _ h => by unfold Fg.l1_0.pat at h; split at h <;> cases h; rfl
def Fg.l1_0.k0 : LI → Ex × St := (fun a0 => (((.exit 0), (St.mk [(.ptr 0 [])] [(some (.var (.ints .u64 25 a0)))])) : Ex × St))
theorem Fg.l1_0.round (n : Nat) (rc : St → Option (Ex × St)) (x0 : Int) (x1 : Int) (x2 : LI) (x3 : LI) : Fg.R0 n rc ((St.mk [(.int .i64 x0), (.int .i64 x1), (.rints .u8 x2), (.ptr 0 [])] [(some (.var (.ints .u64 25 x3)))])) = Fg.l1_0.r Fg.l1_0.k0 n (fun y0 y1 y2 y3 => rc ((St.mk [(.int .i64 y0), (.int .i64 y1), (.rints .u8 y2), (.ptr 0 [])] [(some (.var (.ints .u64 25 y3)))]))) x0 x1 x2 x3 := by kernel_rfl
theorem Fg.l1_0.loop' (n : Nat) : ∀ (m : Nat) (t : (Int × (Int × (LI × LI)))), loopOf (Fg.R0 n) m (Fg.l1_0.shape t) = Fg.l1_0.g Fg.l1_0.k0 n m t.1 t.2.1 t.2.2.1 t.2.2.2 :=
  loop_of_round (shape := Fg.l1_0.shape) (body := Fg.R0 n) (g := fun m t => Fg.l1_0.g Fg.l1_0.k0 n m t.1 t.2.1 t.2.2.1 t.2.2.2) (fun t => rfl)
    fun m t ih => (Fg.l1_0.round n (loopOf (Fg.R0 n) m) t.1 t.2.1 t.2.2.1 t.2.2.2).trans (congrFun (congrFun (congrFun (congrFun (congrArg (Fg.l1_0.r Fg.l1_0.k0 n) (funext fun y0 => funext fun y1 => funext fun y2 => funext fun y3 => ih (y0, y1, y2, y3))) t.1) t.2.1) t.2.2.1) t.2.2.2)
theorem Fg.l1_0.loop (n m : Nat) (t : (Int × (Int × (LI × LI)))) : loopOf (Fg.R0 n) m (Fg.l1_0.shape t) = (Fg.l1_0.m n m t).map Fg.l1_0.res :=
  (Fg.l1_0.loop' n m t).trans (Fg.l1_0.gmap Fg.l1_0.res (fun a0 => a0) n m t.1 t.2.1 t.2.2.1 t.2.2.2)
theorem Fg.gmap {α β : Type} (h : β → α) (mk0 : LI → β) (n : Nat) (b : LI) (s : LI) : Fg.g (fun a0 => (h (mk0 a0))) n b s = (Fg.g mk0 n b s).map h := by
  unfold Fg.g
  exact (bindO_map fun r2 => (bindO_map fun r4 => rfl))
theorem Fg.run (n : Nat) (b : LI) (s : LI) : runF (Fg.C n) (Fg.A n) n Tryd.f93 [(.ptr 0 []), (.rints .u8 b)] [(some (.var (.ints .u64 25 s)))] (fun v o => some (v, o)) = Fg.g (fun a0 => (((.tup []), [(some (.var (.ints .u64 25 a0)))]) : AV × Blks)) n b s := by kernel_rfl
theorem Fg.call (hmix : Tryd.prog.follows .mixedOrders = true) (n : Nat) (t : (LI × LI)) (u) (h : Fg.m n t = some u) : FnC Tryd.prog abiG 93 (Fg.shape t).1 (Fg.shape t).2 (Fg.res u).1 (Fg.res u).2 :=
  fnC1 (C := Fg.C n) (A := Fg.A n) (fn := Tryd.f93) rfl (.cons (Fi.s hmix n) .nil) hmix Tryd.func93 (by kernel_rfl) (lp := [Fg.b0]) (by kernel_rfl) (.cons (show (Fg.A n).loop (key Fg.b0) = some (.mk' Fg.l1_0.pat (Fg.l1_0.m n n) Fg.l1_0.resK) by kernel_rfl) (LoopS.of (res := Fg.l1_0.res) (fun R u K => rfl) Fg.l1_0.pat_shape fun t => Fg.l1_0.loop n n t)
  .nil)
  (nj rfl) (by decide) rfl rfl (by show 2 ≤ Tryd.f93.ntmps; decide) (Fg.run n t.1 t.2) (Fg.gmap Fg.res (fun a0 => a0) n t.1 t.2) h
theorem Fg.s (hmix : Tryd.prog.follows .mixedOrders = true) (n : Nat) : CalleeS Tryd.prog abiG 93 (Fg.c n) :=
  .mk1 (res := Fg.res) (shape := Fg.shape) (fun R u K => rfl) (fun _ _ _ h => by unfold Fg.pat at h; split at h <;> cases h; rfl) (fun t u h => Fg.call hmix n t u h) Tryd.func93 (by decide) (by kernel_rfl)
end
section
noncomputable abbrev Fbd.R0 (n : Nat) := roundOf (Fbd.C n) (Fbd.A n) n Fbd.b0
theorem Fbd.l4_0.rmap {α β : Type} (h : β → α) (mk0 : LI → LI → β) (n : Nat) (f : Int → Int → LI → LI → LI → Option β)  (x0 : Int) (x1 : Int) (x2 : LI) (x3 : LI) (x4 : LI) : Fbd.l4_0.r (fun a0 a1 => (h (mk0 a0 a1))) n (fun y0 y1 y2 y3 y4 => (f y0 y1 y2 y3 y4).map h) x0 x1 x2 x3 x4 = (Fbd.l4_0.r mk0 n f x0 x1 x2 x3 x4).map h := by
  unfold Fbd.l4_0.r
  exact (ite_map (ite_map (ite_map (ite_map (ite_map (ite_map (ite_map (ite_map rfl rfl) rfl) rfl) rfl) rfl) rfl) rfl) rfl)
theorem Fbd.l4_0.gmap {α β : Type} (h : β → α) (mk0 : LI → LI → β) (n : Nat) : ∀ (m : Nat) (x0 : Int) (x1 : Int) (x2 : LI) (x3 : LI) (x4 : LI), Fbd.l4_0.g (fun a0 a1 => (h (mk0 a0 a1))) n m x0 x1 x2 x3 x4 = (Fbd.l4_0.g mk0 n m x0 x1 x2 x3 x4).map h
  | 0, _, _, _, _, _ => rfl
  | m + 1, x0, x1, x2, x3, x4 => by
    unfold Fbd.l4_0.g
    rw [← Fbd.l4_0.rmap]
    congr
    · funext y0 y1 y2 y3 y4; exact Fbd.l4_0.gmap h mk0 n m y0 y1 y2 y3 y4
theorem Fbd.l4_0.pat_shape : ∀ st t, Fbd.l4_0.pat st = some t → st = Fbd.l4_0.shape t := fun _ _ h => by unfold Fbd.l4_0.pat at h; split at h <;> cases h; rfl
def Fbd.l4_0.k0 : LI → LI → Ex × St := (fun a0 a1 => (((.exit 0), (St.mk [(.ptr 0 []), (.ptr 1 [])] [(some (.var (.ints .u64 4 a0))), (some (.var (.ints .u64 4 a1)))])) : Ex × St))
theorem Fbd.l4_0.round (n : Nat) (rc : St → Option (Ex × St)) (x0 : Int) (x1 : Int) (x2 : LI) (x3 : LI) (x4 : LI) : Fbd.R0 n rc ((St.mk [(.int .i64 x0), (.int .i64 x1), (.ptr 0 []), (.rints .u8 x2), (.ptr 1 [])] [(some (.var (.ints .u64 4 x3))), (some (.var (.ints .u64 4 x4)))])) = Fbd.l4_0.r Fbd.l4_0.k0 n (fun y0 y1 y2 y3 y4 => rc ((St.mk [(.int .i64 y0), (.int .i64 y1), (.ptr 0 []), (.rints .u8 y2), (.ptr 1 [])] [(some (.var (.ints .u64 4 y3))), (some (.var (.ints .u64 4 y4)))]))) x0 x1 x2 x3 x4 := by kernel_rfl
theorem Fbd.l4_0.loop' (n : Nat) : ∀ (m : Nat) (t : (Int × (Int × (LI × (LI × LI))))), loopOf (Fbd.R0 n) m (Fbd.l4_0.shape t) = Fbd.l4_0.g Fbd.l4_0.k0 n m t.1 t.2.1 t.2.2.1 t.2.2.2.1 t.2.2.2.2 :=
  loop_of_round (shape := Fbd.l4_0.shape) (body := Fbd.R0 n) (g := fun m t => Fbd.l4_0.g Fbd.l4_0.k0 n m t.1 t.2.1 t.2.2.1 t.2.2.2.1 t.2.2.2.2) (fun t => rfl)
    fun m t ih => (Fbd.l4_0.round n (loopOf (Fbd.R0 n) m) t.1 t.2.1 t.2.2.1 t.2.2.2.1 t.2.2.2.2).trans (congrFun (congrFun (congrFun (congrFun (congrFun (congrArg (Fbd.l4_0.r Fbd.l4_0.k0 n) (funext fun y0 => funext fun y1 => funext fun y2 => funext fun y3 => funext fun y4 => ih (y0, y1, y2, y3, y4))) t.1) t.2.1) t.2.2.1) t.2.2.2.1) t.2.2.2.2)
theorem Fbd.l4_0.loop (n m : Nat) (t : (Int × (Int × (LI × (LI × LI))))) : loopOf (Fbd.R0 n) m (Fbd.l4_0.shape t) = (Fbd.l4_0.m n m t).map Fbd.l4_0.res :=
  (Fbd.l4_0.loop' n m t).trans (Fbd.l4_0.gmap Fbd.l4_0.res (fun a0 a1 => (a0, a1)) n m t.1 t.2.1 t.2.2.1 t.2.2.2.1 t.2.2.2.2)
theorem Fbd.gmap {α β : Type} (h : β → α) (mk0 : LI → β) (n : Nat) (a0 : LI) : Fbd.g (fun a0 => (h (mk0 a0))) n a0 = (Fbd.g mk0 n a0).map h := by
  unfold Fbd.g
  exact (ite_map (ite_map (bindO_map fun r6 => rfl) rfl) rfl)
theorem Fbd.run (n : Nat) (a0 : LI) : runF (Fbd.C n) (Fbd.A n) n Tryd.f89 [(.rints .u8 a0)] [] (fun v o => some (v, o)) = Fbd.g (fun a0 => (((.ints .u64 4 a0), []) : AV × Blks)) n a0 := by kernel_rfl
theorem Fbd.call (hmix : Tryd.prog.follows .mixedOrders = true) (n : Nat) (t : LI) (u) (h : Fbd.m n t = some u) : FnC Tryd.prog abiG 89 (Fbd.shape t).1 (Fbd.shape t).2 (Fbd.res u).1 (Fbd.res u).2 :=
  fnC1 (C := Fbd.C n) (A := Fbd.A n) (fn := Tryd.f89) rfl .nil hmix Tryd.func89 (by kernel_rfl) (lp := [Fbd.b0]) (by kernel_rfl) (.cons (show (Fbd.A n).loop (key Fbd.b0) = some (.mk' Fbd.l4_0.pat (Fbd.l4_0.m n n) Fbd.l4_0.resK) by kernel_rfl) (LoopS.of (res := Fbd.l4_0.res) (fun R u K => rfl) Fbd.l4_0.pat_shape fun t => Fbd.l4_0.loop n n t)
  .nil)
  (nj rfl) (by decide) rfl rfl (by show 1 ≤ Tryd.f89.ntmps; decide) (Fbd.run n t) (Fbd.gmap Fbd.res (fun a0 => a0) n t) h
theorem Fbd.s (hmix : Tryd.prog.follows .mixedOrders = true) (n : Nat) : CalleeS Tryd.prog abiG 89 (Fbd.c n) :=
  .mk1 (res := Fbd.res) (shape := Fbd.shape) (fun R u K => rfl) (fun _ _ _ h => by unfold Fbd.pat at h; split at h <;> cases h; rfl) (fun t u h => Fbd.call hmix n t u h) Tryd.func89 (by decide) (by kernel_rfl)
end
section
noncomputable abbrev Fam.R0 (n : Nat) := roundOf (Fam.C n) (Fam.A n) n Fam.b0
noncomputable abbrev Fam.R1 (n : Nat) := roundOf (Fam.C n) (Fam.A n) n Fam.b1
theorem Fam.l2_0.rmap {α β : Type} (h : β → α) (mk0 : LI → LI → LI → β) (n : Nat) (f : LI → LI → LI → Option β)  (x0 : LI) (x1 : LI) (x2 : LI) : Fam.l2_0.r (fun a0 a1 a2 => (h (mk0 a0 a1 a2))) n (fun y0 y1 y2 => (f y0 y1 y2).map h) x0 x1 x2 = (Fam.l2_0.r mk0 n f x0 x1 x2).map h := by
  unfold Fam.l2_0.r
  exact (ite_map (ite_map (bindO_map fun r8 => (ite_map rfl rfl)) rfl) rfl)
theorem Fam.l2_0.gmap {α β : Type} (h : β → α) (mk0 : LI → LI → LI → β) (n : Nat) : ∀ (m : Nat) (x0 : LI) (x1 : LI) (x2 : LI), Fam.l2_0.g (fun a0 a1 a2 => (h (mk0 a0 a1 a2))) n m x0 x1 x2 = (Fam.l2_0.g mk0 n m x0 x1 x2).map h
  | 0, _, _, _ => rfl
  | m + 1, x0, x1, x2 => by
    unfold Fam.l2_0.g
    rw [← Fam.l2_0.rmap]
    congr
    · funext y0 y1 y2; exact Fam.l2_0.gmap h mk0 n m y0 y1 y2
theorem Fam.l2_0.pat_shape : ∀ st t, Fam.l2_0.pat st = some t → st = Fam.l2_0.shape t := fun _ _ h => by unfold Fam.l2_0.pat at h; split at h <;> cases h; rfl
def Fam.l2_0.k0 : LI → LI → LI → Ex × St := (fun a0 a1 a2 => (((.exit 0), (St.mk [(.rints .u8 a0), (.ptr 0 []), (.ptr 1 [])] [(some (.var (.ints .u64 25 a1))), (some (.var (.ints .u64 4 a2)))])) : Ex × St))
theorem Fam.l2_0.round (n : Nat) (rc : St → Option (Ex × St)) (x0 : LI) (x1 : LI) (x2 : LI) : Fam.R0 n rc ((St.mk [(.rints .u8 x0), (.ptr 0 []), (.ptr 1 [])] [(some (.var (.ints .u64 25 x1))), (some (.var (.ints .u64 4 x2)))])) = Fam.l2_0.r Fam.l2_0.k0 n (fun y0 y1 y2 => rc ((St.mk [(.rints .u8 y0), (.ptr 0 []), (.ptr 1 [])] [(some (.var (.ints .u64 25 y1))), (some (.var (.ints .u64 4 y2)))]))) x0 x1 x2 := by kernel_rfl
theorem Fam.l2_0.loop' (n : Nat) : ∀ (m : Nat) (t : (LI × (LI × LI))), loopOf (Fam.R0 n) m (Fam.l2_0.shape t) = Fam.l2_0.g Fam.l2_0.k0 n m t.1 t.2.1 t.2.2 :=
  loop_of_round (shape := Fam.l2_0.shape) (body := Fam.R0 n) (g := fun m t => Fam.l2_0.g Fam.l2_0.k0 n m t.1 t.2.1 t.2.2) (fun t => rfl)
    fun m t ih => (Fam.l2_0.round n (loopOf (Fam.R0 n) m) t.1 t.2.1 t.2.2).trans (congrFun (congrFun (congrFun (congrArg (Fam.l2_0.r Fam.l2_0.k0 n) (funext fun y0 => funext fun y1 => funext fun y2 => ih (y0, y1, y2))) t.1) t.2.1) t.2.2)
theorem Fam.l2_0.loop (n m : Nat) (t : (LI × (LI × LI))) : loopOf (Fam.R0 n) m (Fam.l2_0.shape t) = (Fam.l2_0.m n m t).map Fam.l2_0.res :=
  (Fam.l2_0.loop' n m t).trans (Fam.l2_0.gmap Fam.l2_0.res (fun a0 a1 a2 => (a0, a1, a2)) n m t.1 t.2.1 t.2.2)
theorem Fam.l12_0.rmap {α β : Type} (h : β → α) (mk0 : LI → LI → β) (n : Nat) (f : Int → LI → LI → LI → Option β)  (x0 : Int) (x1 : LI) (x2 : LI) (x3 : LI) : Fam.l12_0.r (fun a0 a1 => (h (mk0 a0 a1))) n (fun y0 y1 y2 y3 => (f y0 y1 y2 y3).map h) x0 x1 x2 x3 = (Fam.l12_0.r mk0 n f x0 x1 x2 x3).map h := by
  unfold Fam.l12_0.r
  exact (ite_map (ite_map (ite_map (ite_map (ite_map (ite_map rfl rfl) rfl) rfl) rfl) rfl) rfl)
theorem Fam.l12_0.gmap {α β : Type} (h : β → α) (mk0 : LI → LI → β) (n : Nat) : ∀ (m : Nat) (x0 : Int) (x1 : LI) (x2 : LI) (x3 : LI), Fam.l12_0.g (fun a0 a1 => (h (mk0 a0 a1))) n m x0 x1 x2 x3 = (Fam.l12_0.g mk0 n m x0 x1 x2 x3).map h
  | 0, _, _, _, _ => rfl
  | m + 1, x0, x1, x2, x3 => by
    unfold Fam.l12_0.g
    rw [← Fam.l12_0.rmap]
    congr
    · funext y0 y1 y2 y3; exact Fam.l12_0.gmap h mk0 n m y0 y1 y2 y3
theorem Fam.l12_0.pat_shape : ∀ st t, Fam.l12_0.pat st = some t → st = Fam.l12_0.shape t := fun _ _ h => by unfold Fam.l12_0.pat at h; split at h <;> cases h; rfl
def Fam.l12_0.k0 : LI → LI → Ex × St := (fun a0 a1 => (((.exit 2), (St.mk [(.ptr 0 []), (.ptr 1 [])] [(some (.var (.ints .u8 32 a0))), (some (.var (.ints .u64 4 a1)))])) : Ex × St))
theorem Fam.l12_0.round (n : Nat) (rc : St → Option (Ex × St)) (x0 : Int) (x1 : LI) (x2 : LI) (x3 : LI) : Fam.R1 n rc ((St.mk [(.int .i64 x0), (.ptr 0 []), (.ptr 1 []), (.ptr 2 [])] [(some (.var (.ints .u64 25 x1))), (some (.var (.ints .u8 32 x2))), (some (.var (.ints .u64 4 x3)))])) = Fam.l12_0.r Fam.l12_0.k0 n (fun y0 y1 y2 y3 => rc ((St.mk [(.int .i64 y0), (.ptr 0 []), (.ptr 1 []), (.ptr 2 [])] [(some (.var (.ints .u64 25 y1))), (some (.var (.ints .u8 32 y2))), (some (.var (.ints .u64 4 y3)))]))) x0 x1 x2 x3 := by kernel_rfl
theorem Fam.l12_0.loop' (n : Nat) : ∀ (m : Nat) (t : (Int × (LI × (LI × LI)))), loopOf (Fam.R1 n) m (Fam.l12_0.shape t) = Fam.l12_0.g Fam.l12_0.k0 n m t.1 t.2.1 t.2.2.1 t.2.2.2 :=
  loop_of_round (shape := Fam.l12_0.shape) (body := Fam.R1 n) (g := fun m t => Fam.l12_0.g Fam.l12_0.k0 n m t.1 t.2.1 t.2.2.1 t.2.2.2) (fun t => rfl)
    fun m t ih => (Fam.l12_0.round n (loopOf (Fam.R1 n) m) t.1 t.2.1 t.2.2.1 t.2.2.2).trans (congrFun (congrFun (congrFun (congrFun (congrArg (Fam.l12_0.r Fam.l12_0.k0 n) (funext fun y0 => funext fun y1 => funext fun y2 => funext fun y3 => ih (y0, y1, y2, y3))) t.1) t.2.1) t.2.2.1) t.2.2.2)
theorem Fam.l12_0.loop (n m : Nat) (t : (Int × (LI × (LI × LI)))) : loopOf (Fam.R1 n) m (Fam.l12_0.shape t) = (Fam.l12_0.m n m t).map Fam.l12_0.res :=
  (Fam.l12_0.loop' n m t).trans (Fam.l12_0.gmap Fam.l12_0.res (fun a0 a1 => (a0, a1)) n m t.1 t.2.1 t.2.2.1 t.2.2.2)
theorem Fam.gmap {α β : Type} (h : β → α) (mk0 : LI → β) (n : Nat) (a0 : LI) : Fam.g (fun a0 => (h (mk0 a0))) n a0 = (Fam.g mk0 n a0).map h := by
  unfold Fam.g
  exact (bindO_map fun r2 => (ite_map (ite_map (bindO_map fun r8 => (bindO_map fun r10 => (bindO_map fun r12 => rfl))) rfl) rfl))
theorem Fam.run (n : Nat) (a0 : LI) : runF (Fam.C n) (Fam.A n) n Tryd.f57 [(.rints .u8 a0)] [] (fun v o => some (v, o)) = Fam.g (fun a0 => (((.ints .u64 4 a0), []) : AV × Blks)) n a0 := by kernel_rfl
theorem Fam.call (hmix : Tryd.prog.follows .mixedOrders = true) (n : Nat) (t : LI) (u) (h : Fam.m n t = some u) : FnC Tryd.prog abiG 57 (Fam.shape t).1 (Fam.shape t).2 (Fam.res u).1 (Fam.res u).2 :=
  fnC1 (C := Fam.C n) (A := Fam.A n) (fn := Tryd.f57) rfl (.cons (Fg.s hmix n) (.cons (Fbd.s hmix n) .nil)) hmix Tryd.func57 (by kernel_rfl) (lp := [Fam.b0, Fam.b1]) (by kernel_rfl) (.cons (show (Fam.A n).loop (key Fam.b0) = some (.mk' Fam.l2_0.pat (Fam.l2_0.m n n) Fam.l2_0.resK) by kernel_rfl) (LoopS.of (res := Fam.l2_0.res) (fun R u K => rfl) Fam.l2_0.pat_shape fun t => Fam.l2_0.loop n n t)
  (.cons (show (Fam.A n).loop (key Fam.b1) = some (.mk' Fam.l12_0.pat (Fam.l12_0.m n n) Fam.l12_0.resK) by kernel_rfl) (LoopS.of (res := Fam.l12_0.res) (fun R u K => rfl) Fam.l12_0.pat_shape fun t => Fam.l12_0.loop n n t)
  .nil))
  (nj rfl) (by decide) rfl rfl (by show 1 ≤ Tryd.f57.ntmps; decide) (Fam.run n t) (Fam.gmap Fam.res (fun a0 => a0) n t) h
theorem Fam.s (hmix : Tryd.prog.follows .mixedOrders = true) (n : Nat) : CalleeS Tryd.prog abiG 57 (Fam.c n) :=
  .mk1 (res := Fam.res) (shape := Fam.shape) (fun R u K => rfl) (fun _ _ _ h => by unfold Fam.pat at h; split at h <;> cases h; rfl) (fun t u h => Fam.call hmix n t u h) Tryd.func57 (by decide) (by kernel_rfl)
end
section
noncomputable section
def Fbp.l4_0.r {α : Type} (mk0 : LI → LI → α) (n : Nat) (rc : Int → Int → LI → LI → LI → Option α)  (x0 : Int) (x1 : Int) (x2 : LI) (x3 : LI) (x4 : LI) : Option α :=
  if (decide (x0 < 32)) = true then
   if (decide (x0 < x1)) = true then
    if 0 ≤ (IntKind.wrap .i64 (Int.tdiv x0 8)) then
     if (IntKind.wrap .i64 (Int.tdiv x0 8)) < 4 then
      if 0 ≤ (IntKind.wrap .i64 ((IntKind.wrap .i64 (x1 - 1)) - x0)) then
       if (IntKind.wrap .i64 ((IntKind.wrap .i64 (x1 - 1)) - x0)) < (((List.length x2) : Nat) : Int) then
        if 0 ≤ (IntKind.wrap .u64 (IntKind.wrap .i64 ((Int.tmod x0 8) * 8))) then
         if 0 ≤ (IntKind.wrap .i64 (Int.tdiv x0 8)) then
          if (IntKind.wrap .i64 (Int.tdiv x0 8)) < 4 then
           rc (IntKind.wrap .i64 (x0 + 1)) x1 x2 (List.set x3 (Int.toNat (IntKind.wrap .i64 (Int.tdiv x0 8))) (ibits BinOp.or .u64 (List.getD x3 (Int.toNat (IntKind.wrap .i64 (Int.tdiv x0 8))) 0) (ishl .u64 (IntKind.wrap .u64 (List.getD x2 (Int.toNat (IntKind.wrap .i64 ((IntKind.wrap .i64 (x1 - 1)) - x0))) 0)) (IntKind.wrap .u64 (IntKind.wrap .i64 ((Int.tmod x0 8) * 8)))))) x4
          else
           none
         else
          none
        else
         none
       else
        none
      else
       none
     else
      none
    else
     none
   else
    some (mk0 x3 x4)
  else
   some (mk0 x3 x4)
def Fbp.l4_0.g {α : Type} (mk0 : LI → LI → α) (n : Nat) : Nat → Int → Int → LI → LI → LI → Option α
 | 0, _, _, _, _, _ => none
 | m + 1, x0, x1, x2, x3, x4 => Fbp.l4_0.r mk0 n (fun y0 y1 y2 y3 y4 => Fbp.l4_0.g mk0 n m y0 y1 y2 y3 y4)  x0 x1 x2 x3 x4
def Fbp.l4_0.m (n m : Nat) (t : (Int × (Int × (LI × (LI × LI))))) : Option (LI × LI) := Fbp.l4_0.g (fun a0 a1 => (a0, a1)) n m t.1 t.2.1 t.2.2.1 t.2.2.2.1 t.2.2.2.2
def Fbp.g {α : Type} (mk0 : LI → α) (n : Nat) (a0 : LI) : Option α :=
 bindO (Fbp.l4_0.m n n (0, (((List.length a0) : Nat) : Int), a0, [0, 0, 0, 0], [0, 0, 0, 0])) fun r2 =>
  some (mk0 r2.1)
def Fbp.m (n : Nat) (t : LI) : Option LI := Fbp.g (fun a0 => a0) n t
end
end
section
noncomputable section
def Fci.l4_0.r {α : Type} (mk0 : LI → LI → α) (n : Nat) (rc : LI → LI → Option α)  (x0 : LI) (x1 : LI) : Option α :=
  if ((Int.tmod (((List.length x0) : Nat) : Int) 136) != 0) = true then
   if ((((List.length x0) + 1) * 1) ≤ 70368744177664 ∧ ((List.length x0) + 1) ≤ 9223372036854775807) then
    rc (x0 ++ [0]) x1
   else
    none
  else
   some (mk0 x0 x1)
def Fci.l4_0.g {α : Type} (mk0 : LI → LI → α) (n : Nat) : Nat → LI → LI → Option α
 | 0, _, _ => none
 | m + 1, x0, x1 => Fci.l4_0.r mk0 n (fun y0 y1 => Fci.l4_0.g mk0 n m y0 y1)  x0 x1
def Fci.l4_0.m (n m : Nat) (t : (LI × LI)) : Option (LI × LI) := Fci.l4_0.g (fun a0 a1 => (a0, a1)) n m t.1 t.2
def Fci.l17_0.r {α : Type} (mk0 : Int → Int → LI → LI → LI → LI → LI → α) (n : Nat) (rc : Int → Int → Int → LI → LI → LI → LI → LI → Option α)  (x0 : Int) (x1 : Int) (x2 : Int) (x3 : LI) (x4 : LI) (x5 : LI) (x6 : LI) (x7 : LI) : Option α :=
  if (decide (x0 < 8)) = true then
   if 0 ≤ x1 then
    if x1 < (((List.length x3) : Nat) : Int) then
     if 0 ≤ (IntKind.wrap .i64 ((IntKind.wrap .i64 (x2 + (IntKind.wrap .i64 (8 * x1)))) + x0)) then
      if (IntKind.wrap .i64 ((IntKind.wrap .i64 (x2 + (IntKind.wrap .i64 (8 * x1)))) + x0)) < (((List.length x4) : Nat) : Int) then
       if 0 ≤ (IntKind.wrap .u64 (IntKind.wrap .i64 (8 * x0))) then
        if 0 ≤ x1 then
         if x1 < (((List.length x3) : Nat) : Int) then
          rc (IntKind.wrap .i64 (x0 + 1)) x1 x2 (List.set x3 (Int.toNat x1) (ibits BinOp.xor .u64 (List.getD x3 (Int.toNat x1) 0) (ishl .u64 (IntKind.wrap .u64 (List.getD x4 (Int.toNat (IntKind.wrap .i64 ((IntKind.wrap .i64 (x2 + (IntKind.wrap .i64 (8 * x1)))) + x0))) 0)) (IntKind.wrap .u64 (IntKind.wrap .i64 (8 * x0)))))) x4 x5 x6 x7
         else
          none
        else
         none
       else
        none
      else
       none
     else
      none
    else
     none
   else
    none
  else
   some (mk0 x1 x2 x3 x4 x5 x6 x7)
def Fci.l17_0.g {α : Type} (mk0 : Int → Int → LI → LI → LI → LI → LI → α) (n : Nat) : Nat → Int → Int → Int → LI → LI → LI → LI → LI → Option α
 | 0, _, _, _, _, _, _, _, _ => none
 | m + 1, x0, x1, x2, x3, x4, x5, x6, x7 => Fci.l17_0.r mk0 n (fun y0 y1 y2 y3 y4 y5 y6 y7 => Fci.l17_0.g mk0 n m y0 y1 y2 y3 y4 y5 y6 y7)  x0 x1 x2 x3 x4 x5 x6 x7
def Fci.l17_0.m (n m : Nat) (t : (Int × (Int × (Int × (LI × (LI × (LI × (LI × LI)))))))) : Option (Int × (Int × (LI × (LI × (LI × (LI × LI)))))) := Fci.l17_0.g (fun a0 a1 a2 a3 a4 a5 a6 => (a0, a1, a2, a3, a4, a5, a6)) n m t.1 t.2.1 t.2.2.1 t.2.2.2.1 t.2.2.2.2.1 t.2.2.2.2.2.1 t.2.2.2.2.2.2.1 t.2.2.2.2.2.2.2
def Fci.l14_0.r {α : Type} (mk0 : Int → LI → LI → LI → LI → LI → α) (n : Nat) (rc : Int → Int → LI → LI → LI → LI → LI → Option α)  (x0 : Int) (x1 : Int) (x2 : LI) (x3 : LI) (x4 : LI) (x5 : LI) (x6 : LI) : Option α :=
  if (decide (x0 < 17)) = true then
   bindO (Fci.l17_0.m n n (0, x0, x1, x2, x3, x4, x5, x6)) fun r6 =>
    rc (IntKind.wrap .i64 (r6.1 + 1)) r6.2.1 r6.2.2.1 r6.2.2.2.1 r6.2.2.2.2.1 r6.2.2.2.2.2.1 r6.2.2.2.2.2.2
  else
   some (mk0 x1 x2 x4 x5 x3 x6)
def Fci.l14_0.g {α : Type} (mk0 : Int → LI → LI → LI → LI → LI → α) (n : Nat) : Nat → Int → Int → LI → LI → LI → LI → LI → Option α
 | 0, _, _, _, _, _, _, _ => none
 | m + 1, x0, x1, x2, x3, x4, x5, x6 => Fci.l14_0.r mk0 n (fun y0 y1 y2 y3 y4 y5 y6 => Fci.l14_0.g mk0 n m y0 y1 y2 y3 y4 y5 y6)  x0 x1 x2 x3 x4 x5 x6
def Fci.l14_0.m (n m : Nat) (t : (Int × (Int × (LI × (LI × (LI × (LI × LI))))))) : Option (Int × (LI × (LI × (LI × (LI × LI))))) := Fci.l14_0.g (fun a0 a1 a2 a3 a4 a5 => (a0, a1, a2, a3, a4, a5)) n m t.1 t.2.1 t.2.2.1 t.2.2.2.1 t.2.2.2.2.1 t.2.2.2.2.2.1 t.2.2.2.2.2.2
def Fci.l11_0.r {α : Type} (mk0 : LI → LI → α) (n : Nat) (rc : Int → LI → LI → LI → LI → LI → Option α)  (x0 : Int) (x1 : LI) (x2 : LI) (x3 : LI) (x4 : LI) (x5 : LI) : Option α :=
  if (decide (x0 < (((List.length x1) : Nat) : Int))) = true then
   bindO (Fci.l14_0.m n n (0, x0, x2, x1, x3, x4, x5)) fun r6 =>
    bindO (Fch.m n (r6.2.1, r6.2.2.1, r6.2.2.2.1)) fun r8 => match r8 with
     | (.inl r8) =>
      rc (IntKind.wrap .i64 (r6.1 + 136)) r6.2.2.2.2.1 r8 r6.2.2.1 r6.2.2.2.1 r6.2.2.2.2.2
     | (.inr r8) =>
      none
  else
   some (mk0 x2 x5)
def Fci.l11_0.g {α : Type} (mk0 : LI → LI → α) (n : Nat) : Nat → Int → LI → LI → LI → LI → LI → Option α
 | 0, _, _, _, _, _, _ => none
 | m + 1, x0, x1, x2, x3, x4, x5 => Fci.l11_0.r mk0 n (fun y0 y1 y2 y3 y4 y5 => Fci.l11_0.g mk0 n m y0 y1 y2 y3 y4 y5)  x0 x1 x2 x3 x4 x5
def Fci.l11_0.m (n m : Nat) (t : (Int × (LI × (LI × (LI × (LI × LI)))))) : Option (LI × LI) := Fci.l11_0.g (fun a0 a1 => (a0, a1)) n m t.1 t.2.1 t.2.2.1 t.2.2.2.1 t.2.2.2.2.1 t.2.2.2.2.2
def Fci.l26_0.r {α : Type} (mk0 : Int → LI → LI → LI → α) (n : Nat) (rc : Int → Int → LI → LI → LI → Option α)  (x0 : Int) (x1 : Int) (x2 : LI) (x3 : LI) (x4 : LI) : Option α :=
  if (decide (x0 < 8)) = true then
   if 0 ≤ x1 then
    if x1 < (((List.length x3) : Nat) : Int) then
     if 0 ≤ (IntKind.wrap .u64 (IntKind.wrap .i64 (8 * x0))) then
      if ((((List.length x2) + 1) * 1) ≤ 70368744177664 ∧ ((List.length x2) + 1) ≤ 9223372036854775807) then
       rc (IntKind.wrap .i64 (x0 + 1)) x1 (x2 ++ [(IntKind.wrap .u8 (ishr .u64 (List.getD x3 (Int.toNat x1) 0) (IntKind.wrap .u64 (IntKind.wrap .i64 (8 * x0)))))]) x3 x4
      else
       none
     else
      none
    else
     none
   else
    none
  else
   some (mk0 x1 x2 x3 x4)
def Fci.l26_0.g {α : Type} (mk0 : Int → LI → LI → LI → α) (n : Nat) : Nat → Int → Int → LI → LI → LI → Option α
 | 0, _, _, _, _, _ => none
 | m + 1, x0, x1, x2, x3, x4 => Fci.l26_0.r mk0 n (fun y0 y1 y2 y3 y4 => Fci.l26_0.g mk0 n m y0 y1 y2 y3 y4)  x0 x1 x2 x3 x4
def Fci.l26_0.m (n m : Nat) (t : (Int × (Int × (LI × (LI × LI))))) : Option (Int × (LI × (LI × LI))) := Fci.l26_0.g (fun a0 a1 a2 a3 => (a0, a1, a2, a3)) n m t.1 t.2.1 t.2.2.1 t.2.2.2.1 t.2.2.2.2
def Fci.l23_0.r {α : Type} (mk0 : LI → LI → α) (n : Nat) (rc : Int → LI → LI → LI → Option α)  (x0 : Int) (x1 : LI) (x2 : LI) (x3 : LI) : Option α :=
  if (decide (x0 < 4)) = true then
   bindO (Fci.l26_0.m n n (0, x0, x1, x2, x3)) fun r6 =>
    rc (IntKind.wrap .i64 (r6.1 + 1)) r6.2.1 r6.2.2.1 r6.2.2.2
  else
   some (mk0 x1 x3)
def Fci.l23_0.g {α : Type} (mk0 : LI → LI → α) (n : Nat) : Nat → Int → LI → LI → LI → Option α
 | 0, _, _, _, _ => none
 | m + 1, x0, x1, x2, x3 => Fci.l23_0.r mk0 n (fun y0 y1 y2 y3 => Fci.l23_0.g mk0 n m y0 y1 y2 y3)  x0 x1 x2 x3
def Fci.l23_0.m (n m : Nat) (t : (Int × (LI × (LI × LI)))) : Option (LI × LI) := Fci.l23_0.g (fun a0 a1 => (a0, a1)) n m t.1 t.2.1 t.2.2.1 t.2.2.2
def Fci.g {α : Type} (mk0 : LI → α) (n : Nat) (a0 : LI) : Option α :=
 if (((List.length a0) * 1) ≤ 70368744177664 ∧ (List.length a0) ≤ 9223372036854775807) then
  if ((((List.length a0) + 1) * 1) ≤ 70368744177664 ∧ ((List.length a0) + 1) ≤ 9223372036854775807) then
   bindO (Fci.l4_0.m n n ((a0 ++ [1]), [0, 0, 0, 0])) fun r6 =>
    if 0 ≤ (IntKind.wrap .i64 ((((List.length r6.1) : Nat) : Int) - 1)) then
     if (IntKind.wrap .i64 ((((List.length r6.1) : Nat) : Int) - 1)) < (((List.length r6.1) : Nat) : Int) then
      if 0 ≤ (IntKind.wrap .i64 ((((List.length r6.1) : Nat) : Int) - 1)) then
       if (IntKind.wrap .i64 ((((List.length r6.1) : Nat) : Int) - 1)) < (((List.length r6.1) : Nat) : Int) then
        bindO (Fbc.m n Unit.unit) fun r16 =>
         bindO (Fbo.m n Unit.unit) fun r18 =>
          bindO (Fci.l11_0.m n n (0, (List.set r6.1 (Int.toNat (IntKind.wrap .i64 ((((List.length r6.1) : Nat) : Int) - 1))) (ibits BinOp.xor .u8 (List.getD r6.1 (Int.toNat (IntKind.wrap .i64 ((((List.length r6.1) : Nat) : Int) - 1))) 0) 128)), ([0, 0, 0, 0, 0, 0, 0, 0, 0, 0, 0, 0, 0, 0, 0, 0, 0, 0, 0, 0, 0, 0, 0, 0, 0] : List Int), r16, r18, r6.2)) fun r20 =>
           bindO (Fci.l23_0.m n n (0, [], r20.1, r20.2)) fun r22 =>
            bindO (Fbp.m n r22.1) fun r24 =>
             some (mk0 r24)
       else
        none
      else
       none
     else
      none
    else
     none
  else
   none
 else
  none
def Fci.m (n : Nat) (t : LI) : Option LI := Fci.g (fun a0 => a0) n t
end
end
section
noncomputable section
noncomputable def Fan.C (n : Nat) : Ctx := ⟨Tryd.prog, abiG, lookC [], fun _ => false⟩
def Fan.live : NL := fun k => match k with
 | 3 => ([6, 3, 1], [3])
 | _ => ([], [])
def Fan.l3_0.r {α : Type} (mk0 : LI → α) (n : Nat) (rc : Int → LI → LI → Option α)  (x0 : Int) (x1 : LI) (x2 : LI) : Option α :=
  if (decide (x0 < 32)) = true then
   if 0 ≤ (IntKind.wrap .i64 (Int.tdiv x0 8)) then
    if (IntKind.wrap .i64 (Int.tdiv x0 8)) < 4 then
     if 0 ≤ (IntKind.wrap .i64 ((Int.tmod x0 8) * 8)) then
      if 0 ≤ (IntKind.wrap .i64 (31 - x0)) then
       if (IntKind.wrap .i64 (31 - x0)) < (((List.length x1) : Nat) : Int) then
        rc (IntKind.wrap .i64 (x0 + 1)) (List.set x1 (Int.toNat (IntKind.wrap .i64 (31 - x0))) (IntKind.wrap .u8 (ishr .u64 (List.getD x2 (Int.toNat (IntKind.wrap .i64 (Int.tdiv x0 8))) 0) (IntKind.wrap .i64 ((Int.tmod x0 8) * 8))))) x2
       else
        none
      else
       none
     else
      none
    else
     none
   else
    none
  else
   some (mk0 x1)
def Fan.l3_0.g {α : Type} (mk0 : LI → α) (n : Nat) : Nat → Int → LI → LI → Option α
 | 0, _, _, _ => none
 | m + 1, x0, x1, x2 => Fan.l3_0.r mk0 n (fun y0 y1 y2 => Fan.l3_0.g mk0 n m y0 y1 y2)  x0 x1 x2
def Fan.l3_0.m (n m : Nat) (t : (Int × (LI × LI))) : Option LI := Fan.l3_0.g (fun a0 => a0) n m t.1 t.2.1 t.2.2
def Fan.l3_0.pat : St → Option (Int × (LI × LI))
 | (St.mk [(.int .i64 x0), (.own 0 1), (.ptr 1 [])] [(some (.ints .u8 x1)), (some (.var (.ints .u64 4 x2)))]) => some (x0, x1, x2)
 | _ => none
def Fan.l3_0.shape (t : (Int × (LI × LI))) : St := (St.mk [(.int .i64 t.1), (.own 0 1), (.ptr 1 [])] [(some (.ints .u8 t.2.1)), (some (.var (.ints .u64 4 t.2.2)))])
def Fan.l3_0.res : LI → Ex × St
 | u => ((.exit 0), (St.mk [(.own 0 1)] [(some (.ints .u8 u))]))
def Fan.l3_0.resK {R : Type} (u : LI) (K : Ex → St → Option R) : Option R := K (Fan.l3_0.res u).1 (Fan.l3_0.res u).2
noncomputable def Fan.A (n : Nat) : Ann := ⟨Tryd.f56.ntmps, 0, Fan.live, [(3, (.ints .u8))], [(some (.ints .u8))], fun k => match k with
 | 3 => some (.mk' Fan.l3_0.pat (Fan.l3_0.m n n) Fan.l3_0.resK)
 | _ => none, noNL, lookJ []⟩
noncomputable def Fan.b0 : Code := (loopsIn (Tryd.f56.body.getD .skip)).getD 0 .skip
def Fan.g {α : Type} (mk0 : LI → α) (n : Nat) (a0 : LI) : Option α :=
 bindO (Fan.l3_0.m n n (0, ([0, 0, 0, 0, 0, 0, 0, 0, 0, 0, 0, 0, 0, 0, 0, 0, 0, 0, 0, 0, 0, 0, 0, 0, 0, 0, 0, 0, 0, 0, 0, 0] : List Int), a0)) fun r2 =>
  some (mk0 r2)
def Fan.m (n : Nat) (t : LI) : Option LI := Fan.g (fun a0 => a0) n t
def Fan.pat : List AV → Blks → Option LI
 | [(.ints .u64 4 a0)], [] => some a0
 | _, _ => none
def Fan.shape (t : LI) : List AV × Blks := ([(.ints .u64 4 t)], [])
def Fan.res : LI → AV × Blks
 | u => ((.own 0 1), [(some (.ints .u8 u))])
def Fan.resK {R : Type} (u : LI) (K : AV → Blks → Option R) : Option R := K (Fan.res u).1 (Fan.res u).2
def Fan.c (n : Nat) : Abs.Callee := .mk' [] [none] Fan.pat (Fan.m n) Fan.resK
end
end
section
noncomputable abbrev Fan.R0 (n : Nat) := roundOf (Fan.C n) (Fan.A n) n Fan.b0
theorem Fan.l3_0.rmap {α β : Type} (h : β → α) (mk0 : LI → β) (n : Nat) (f : Int → LI → LI → Option β)  (x0 : Int) (x1 : LI) (x2 : LI) : Fan.l3_0.r (fun a0 => (h (mk0 a0))) n (fun y0 y1 y2 => (f y0 y1 y2).map h) x0 x1 x2 = (Fan.l3_0.r mk0 n f x0 x1 x2).map h := by
  unfold Fan.l3_0.r
  exact (ite_map (ite_map (ite_map (ite_map (ite_map (ite_map rfl rfl) rfl) rfl) rfl) rfl) rfl)
theorem Fan.l3_0.gmap {α β : Type} (h : β → α) (mk0 : LI → β) (n : Nat) : ∀ (m : Nat) (x0 : Int) (x1 : LI) (x2 : LI), Fan.l3_0.g (fun a0 => (h (mk0 a0))) n m x0 x1 x2 = (Fan.l3_0.g mk0 n m x0 x1 x2).map h
  | 0, _, _, _ => rfl
  | m + 1, x0, x1, x2 => by
    unfold Fan.l3_0.g
    rw [← Fan.l3_0.rmap]
    congr
    · funext y0 y1 y2; exact Fan.l3_0.gmap h mk0 n m y0 y1 y2
theorem Fan.l3_0.pat_shape : ∀ st t, Fan.l3_0.pat st = some t → st = Fan.l3_0.shape t := fun _ _ h => by unfold Fan.l3_0.pat at h; split at h <;> cases h; rfl
def Fan.l3_0.k0 : LI → Ex × St := (fun a0 => (((.exit 0), (St.mk [(.own 0 1)] [(some (.ints .u8 a0))])) : Ex × St))
theorem Fan.l3_0.round (n : Nat) (rc : St → Option (Ex × St)) (x0 : Int) (x1 : LI) (x2 : LI) : Fan.R0 n rc ((St.mk [(.int .i64 x0), (.own 0 1), (.ptr 1 [])] [(some (.ints .u8 x1)), (some (.var (.ints .u64 4 x2)))])) = Fan.l3_0.r Fan.l3_0.k0 n (fun y0 y1 y2 => rc ((St.mk [(.int .i64 y0), (.own 0 1), (.ptr 1 [])] [(some (.ints .u8 y1)), (some (.var (.ints .u64 4 y2)))]))) x0 x1 x2 := by kernel_rfl
theorem Fan.l3_0.loop' (n : Nat) : ∀ (m : Nat) (t : (Int × (LI × LI))), loopOf (Fan.R0 n) m (Fan.l3_0.shape t) = Fan.l3_0.g Fan.l3_0.k0 n m t.1 t.2.1 t.2.2 :=
  loop_of_round (shape := Fan.l3_0.shape) (body := Fan.R0 n) (g := fun m t => Fan.l3_0.g Fan.l3_0.k0 n m t.1 t.2.1 t.2.2) (fun t => rfl)
    fun m t ih => (Fan.l3_0.round n (loopOf (Fan.R0 n) m) t.1 t.2.1 t.2.2).trans (congrFun (congrFun (congrFun (congrArg (Fan.l3_0.r Fan.l3_0.k0 n) (funext fun y0 => funext fun y1 => funext fun y2 => ih (y0, y1, y2))) t.1) t.2.1) t.2.2)
theorem Fan.l3_0.loop (n m : Nat) (t : (Int × (LI × LI))) : loopOf (Fan.R0 n) m (Fan.l3_0.shape t) = (Fan.l3_0.m n m t).map Fan.l3_0.res :=
  (Fan.l3_0.loop' n m t).trans (Fan.l3_0.gmap Fan.l3_0.res (fun a0 => a0) n m t.1 t.2.1 t.2.2)
theorem Fan.gmap {α β : Type} (h : β → α) (mk0 : LI → β) (n : Nat) (a0 : LI) : Fan.g (fun a0 => (h (mk0 a0))) n a0 = (Fan.g mk0 n a0).map h := by
  unfold Fan.g
  exact (bindO_map fun r2 => rfl)
theorem Fan.run (n : Nat) (a0 : LI) : runF (Fan.C n) (Fan.A n) n Tryd.f56 [(.ints .u64 4 a0)] [] (fun v o => some (v, o)) = Fan.g (fun a0 => (((.own 0 1), [(some (.ints .u8 a0))]) : AV × Blks)) n a0 := by kernel_rfl
theorem Fan.call (hmix : Tryd.prog.follows .mixedOrders = true) (n : Nat) (t : LI) (u) (h : Fan.m n t = some u) : FnC Tryd.prog abiG 56 (Fan.shape t).1 (Fan.shape t).2 (Fan.res u).1 (Fan.res u).2 :=
  fnC1 (C := Fan.C n) (A := Fan.A n) (fn := Tryd.f56) rfl .nil hmix Tryd.func56 (by kernel_rfl) (lp := [Fan.b0]) (by kernel_rfl) (.cons (show (Fan.A n).loop (key Fan.b0) = some (.mk' Fan.l3_0.pat (Fan.l3_0.m n n) Fan.l3_0.resK) by kernel_rfl) (LoopS.of (res := Fan.l3_0.res) (fun R u K => rfl) Fan.l3_0.pat_shape fun t => Fan.l3_0.loop n n t)
  .nil)
  (nj rfl) (by decide) rfl rfl (by show 1 ≤ Tryd.f56.ntmps; decide) (Fan.run n t) (Fan.gmap Fan.res (fun a0 => a0) n t) h
theorem Fan.s (hmix : Tryd.prog.follows .mixedOrders = true) (n : Nat) : CalleeS Tryd.prog abiG 56 (Fan.c n) :=
  .mk1 (res := Fan.res) (shape := Fan.shape) (fun R u K => rfl) (fun _ _ _ h => by unfold Fan.pat at h; split at h <;> cases h; rfl) (fun t u h => Fan.call hmix n t u h) Tryd.func56 (by decide) (by kernel_rfl)
end
section
noncomputable section
def Fbe.l3_0.r {α : Type} (mk0 : LI → α) (n : Nat) (rc : Int → LI → LI → Option α)  (x0 : Int) (x1 : LI) (x2 : LI) : Option α :=
  if (decide (x0 < 32)) = true then
   if 0 ≤ (IntKind.wrap .i64 (Int.tdiv (IntKind.wrap .i64 (31 - x0)) 8)) then
    if (IntKind.wrap .i64 (Int.tdiv (IntKind.wrap .i64 (31 - x0)) 8)) < 4 then
     if 0 ≤ (IntKind.wrap .u64 (IntKind.wrap .i64 ((Int.tmod (IntKind.wrap .i64 (31 - x0)) 8) * 8))) then
      if ((((List.length x1) + 1) * 1) ≤ 70368744177664 ∧ ((List.length x1) + 1) ≤ 9223372036854775807) then
       rc (IntKind.wrap .i64 (x0 + 1)) (x1 ++ [(IntKind.wrap .u8 (ishr .u64 (List.getD x2 (Int.toNat (IntKind.wrap .i64 (Int.tdiv (IntKind.wrap .i64 (31 - x0)) 8))) 0) (IntKind.wrap .u64 (IntKind.wrap .i64 ((Int.tmod (IntKind.wrap .i64 (31 - x0)) 8) * 8)))))]) x2
      else
       none
     else
      none
    else
     none
   else
    none
  else
   some (mk0 x1)
def Fbe.l3_0.g {α : Type} (mk0 : LI → α) (n : Nat) : Nat → Int → LI → LI → Option α
 | 0, _, _, _ => none
 | m + 1, x0, x1, x2 => Fbe.l3_0.r mk0 n (fun y0 y1 y2 => Fbe.l3_0.g mk0 n m y0 y1 y2)  x0 x1 x2
def Fbe.l3_0.m (n m : Nat) (t : (Int × (LI × LI))) : Option LI := Fbe.l3_0.g (fun a0 => a0) n m t.1 t.2.1 t.2.2
def Fbe.g {α : Type} (mk0 : LI → α) (n : Nat) (a0 : LI) : Option α :=
 bindO (Fbe.l3_0.m n n (0, [], a0)) fun r2 =>
  some (mk0 r2)
def Fbe.m (n : Nat) (t : LI) : Option LI := Fbe.g (fun a0 => a0) n t
end
end
section
noncomputable section
noncomputable def Fbf.C (n : Nat) : Ctx := ⟨Tryd.prog, abiG, lookC [], fun _ => false⟩
noncomputable def Fbf.A (n : Nat) : Ann := ⟨Tryd.f69.ntmps, 0, noNL, [], [none], fun k => match k with
 | _ => none, noNL, lookJ []⟩
def Fbf.g {α : Type} (mk0 : LI → α) (n : Nat) (a0 : Int) : Option α :=
 some (mk0 [a0, 0, 0, 0])
def Fbf.m (n : Nat) (t : Int) : Option LI := Fbf.g (fun a0 => a0) n t
def Fbf.pat : List AV → Blks → Option Int
 | [(.int .u64 a0)], [] => some a0
 | _, _ => none
def Fbf.shape (t : Int) : List AV × Blks := ([(.int .u64 t)], [])
def Fbf.res : LI → AV × Blks
 | u => ((.ints .u64 4 u), [])
def Fbf.resK {R : Type} (u : LI) (K : AV → Blks → Option R) : Option R := K (Fbf.res u).1 (Fbf.res u).2
def Fbf.c (n : Nat) : Abs.Callee := .mk' [] [none] Fbf.pat (Fbf.m n) Fbf.resK
end
end
section
noncomputable section
noncomputable def Fao.C (n : Nat) : Ctx := ⟨Tryd.prog, abiG, lookC [(69, Fbf.c n), (56, Fan.c n)], fun _ => false⟩
noncomputable def Fao.A (n : Nat) : Ann := ⟨Tryd.f61.ntmps, 0, noNL, [], [(some (.ints .u8))], fun k => match k with
 | _ => none, noNL, lookJ []⟩
def Fao.g {α : Type} (mk0 : LI → α) (n : Nat) (a0 : Int) : Option α :=
 bindO (Fbf.m n (IntKind.wrap .u64 a0)) fun r2 =>
  bindO (Fan.m n r2) fun r4 =>
   some (mk0 r4)
def Fao.m (n : Nat) (t : Int) : Option LI := Fao.g (fun a0 => a0) n t
def Fao.pat : List AV → Blks → Option Int
 | [(.int .i64 a0)], [] => some a0
 | _, _ => none
def Fao.shape (t : Int) : List AV × Blks := ([(.int .i64 t)], [])
def Fao.res : LI → AV × Blks
 | u => ((.own 0 1), [(some (.ints .u8 u))])
def Fao.resK {R : Type} (u : LI) (K : AV → Blks → Option R) : Option R := K (Fao.res u).1 (Fao.res u).2
def Fao.c (n : Nat) : Abs.Callee := .mk' [] [none] Fao.pat (Fao.m n) Fao.resK
end
end
section
noncomputable section
noncomputable def Fap.C (n : Nat) : Ctx := ⟨Tryd.prog, abiG, lookC [(56, Fan.c n), (61, Fao.c n)], fun _ => false⟩
def Fap.live : NL := fun k => match k with
 | 3 => ([9, 8, 7, 3, 0, 4], [3, 4])
 | _ => ([], [])
def Fap.l3_0.r {α : Type} (mk0 : LI → LI → α) (n : Nat) (rc : Int → Int → LA → LA → LI → LI → Option α)  (x0 : Int) (x1 : Int) (x2 : LA) (x3 : LA) (x4 : LI) (x5 : LI) : Option α :=
  if (decide (x0 < x1)) = true then
   if 0 ≤ x0 then
    if x0 < (((List.length x2) : Nat) : Int) then
     bindO (tkAgg 3 (List.getD x2 (Int.toNat x0) AV.any)) fun r10 =>
      bindO (tkBool (List.getD r10 0 AV.any)) fun r12 =>
       bindO (tkInts .u64 4 (List.getD r10 1 AV.any)) fun r14 =>
        bindO (tkRints .u8 (List.getD r10 2 AV.any)) fun r16 =>
         if (!r12) = true then
          bindO (Fan.m n r14) fun r20 =>
           if ((((List.length x4) + (List.length r20)) * 1) ≤ 70368744177664 ∧ ((List.length x4) + (List.length r20)) ≤ 9223372036854775807) then
            rc (IntKind.wrap .i64 (x0 + 1)) x1 x2 x3 (x4 ++ r20) x5
           else
            none
         else
          bindO (Fao.m n (IntKind.wrap .i64 ((IntKind.wrap .i64 (32 * (((List.length x3) : Nat) : Int))) + (((List.length x5) : Nat) : Int)))) fun r20 =>
           if ((((List.length x4) + (List.length r20)) * 1) ≤ 70368744177664 ∧ ((List.length x4) + (List.length r20)) ≤ 9223372036854775807) then
            bindO (Fao.m n (((List.length r16) : Nat) : Int)) fun r24 =>
             if ((((List.length x5) + (List.length r24)) * 1) ≤ 70368744177664 ∧ ((List.length x5) + (List.length r24)) ≤ 9223372036854775807) then
              if ((((List.length (x5 ++ r24)) + (List.length r16)) * 1) ≤ 70368744177664 ∧ ((List.length (x5 ++ r24)) + (List.length r16)) ≤ 9223372036854775807) then
               if 0 ≤ (Int.tmod (IntKind.wrap .i64 (32 - (Int.tmod (((List.length r16) : Nat) : Int) 32))) 32) then
                if ((((List.length ((x5 ++ r24) ++ r16)) + (List.length (List.replicate (Int.toNat (Int.tmod (IntKind.wrap .i64 (32 - (Int.tmod (((List.length r16) : Nat) : Int) 32))) 32)) (0 : Int)))) * 1) ≤ 70368744177664 ∧ ((List.length ((x5 ++ r24) ++ r16)) + (List.length (List.replicate (Int.toNat (Int.tmod (IntKind.wrap .i64 (32 - (Int.tmod (((List.length r16) : Nat) : Int) 32))) 32)) (0 : Int)))) ≤ 9223372036854775807) then
                 rc (IntKind.wrap .i64 (x0 + 1)) x1 x2 x3 (x4 ++ r20) (((x5 ++ r24) ++ r16) ++ (List.replicate (Int.toNat (Int.tmod (IntKind.wrap .i64 (32 - (Int.tmod (((List.length r16) : Nat) : Int) 32))) 32)) (0 : Int)))
                else
                 none
               else
                none
              else
               none
             else
              none
           else
            none
    else
     none
   else
    none
  else
   some (mk0 x4 x5)
def Fap.l3_0.g {α : Type} (mk0 : LI → LI → α) (n : Nat) : Nat → Int → Int → LA → LA → LI → LI → Option α
 | 0, _, _, _, _, _, _ => none
 | m + 1, x0, x1, x2, x3, x4, x5 => Fap.l3_0.r mk0 n (fun y0 y1 y2 y3 y4 y5 => Fap.l3_0.g mk0 n m y0 y1 y2 y3 y4 y5)  x0 x1 x2 x3 x4 x5
def Fap.l3_0.m (n m : Nat) (t : (Int × (Int × (LA × (LA × (LI × LI)))))) : Option (LI × LI) := Fap.l3_0.g (fun a0 a1 => (a0, a1)) n m t.1 t.2.1 t.2.2.1 t.2.2.2.1 t.2.2.2.2.1 t.2.2.2.2.2
def Fap.l3_0.pat : St → Option (Int × (Int × (LA × (LA × (LI × LI)))))
 | (St.mk [(.int .i64 x0), (.int .i64 x1), (.robjs 69 6 x2), (.own 0 1), (.robjs 69 6 x3), (.own 1 1)] [(some (.ints .u8 x4)), (some (.ints .u8 x5))]) => some (x0, x1, x2, x3, x4, x5)
 | _ => none
def Fap.l3_0.shape (t : (Int × (Int × (LA × (LA × (LI × LI)))))) : St := (St.mk [(.int .i64 t.1), (.int .i64 t.2.1), (.robjs 69 6 t.2.2.1), (.own 0 1), (.robjs 69 6 t.2.2.2.1), (.own 1 1)] [(some (.ints .u8 t.2.2.2.2.1)), (some (.ints .u8 t.2.2.2.2.2))])
def Fap.l3_0.res : (LI × LI) → Ex × St
 | u => ((.exit 0), (St.mk [(.own 0 1), (.own 1 1)] [(some (.ints .u8 u.1)), (some (.ints .u8 u.2))]))
def Fap.l3_0.resK {R : Type} (u : (LI × LI)) (K : Ex → St → Option R) : Option R := K (Fap.l3_0.res u).1 (Fap.l3_0.res u).2
noncomputable def Fap.A (n : Nat) : Ann := ⟨Tryd.f20.ntmps, 0, Fap.live, [(0, (.objs 69 6)), (7, (.objs 69 6)), (3, (.ints .u8)), (4, (.ints .u8))], [(some (.ints .u8))], fun k => match k with
 | 3 => some (.mk' Fap.l3_0.pat (Fap.l3_0.m n n) Fap.l3_0.resK)
 | _ => none, noNL, lookJ []⟩
noncomputable def Fap.b0 : Code := (loopsIn (Tryd.f20.body.getD .skip)).getD 0 .skip
def Fap.g {α : Type} (mk0 : LI → α) (n : Nat) (a0 : LA) : Option α :=
 bindO (Fap.l3_0.m n n (0, (((List.length a0) : Nat) : Int), a0, a0, [], [])) fun r2 =>
  if ((((List.length r2.1) + (List.length r2.2)) * 1) ≤ 70368744177664 ∧ ((List.length r2.1) + (List.length r2.2)) ≤ 9223372036854775807) then
   some (mk0 (r2.1 ++ r2.2))
  else
   none
def Fap.m (n : Nat) (t : LA) : Option LI := Fap.g (fun a0 => a0) n t
def Fap.pat : List AV → Blks → Option LA
 | [(.robjs 69 6 a0)], [] => some a0
 | _, _ => none
def Fap.shape (t : LA) : List AV × Blks := ([(.robjs 69 6 t)], [])
def Fap.res : LI → AV × Blks
 | u => ((.own 0 1), [(some (.ints .u8 u))])
def Fap.resK {R : Type} (u : LI) (K : AV → Blks → Option R) : Option R := K (Fap.res u).1 (Fap.res u).2
def Fap.c (n : Nat) : Abs.Callee := .mk' [] [(some (.objs 69 6))] Fap.pat (Fap.m n) Fap.resK
end
end
section
theorem Fbf.gmap {α β : Type} (h : β → α) (mk0 : LI → β) (n : Nat) (a0 : Int) : Fbf.g (fun a0 => (h (mk0 a0))) n a0 = (Fbf.g mk0 n a0).map h := by
  unfold Fbf.g
  exact rfl
theorem Fbf.run (n : Nat) (a0 : Int) : runF (Fbf.C n) (Fbf.A n) n Tryd.f69 [(.int .u64 a0)] [] (fun v o => some (v, o)) = Fbf.g (fun a0 => (((.ints .u64 4 a0), []) : AV × Blks)) n a0 := by kernel_rfl
theorem Fbf.call (hmix : Tryd.prog.follows .mixedOrders = true) (n : Nat) (t : Int) (u) (h : Fbf.m n t = some u) : FnC Tryd.prog abiG 69 (Fbf.shape t).1 (Fbf.shape t).2 (Fbf.res u).1 (Fbf.res u).2 :=
  fnC1 (C := Fbf.C n) (A := Fbf.A n) (fn := Tryd.f69) rfl .nil hmix Tryd.func69 (by kernel_rfl) (lp := []) (by kernel_rfl) .nil
  (nj rfl) (by decide) rfl rfl (by show 1 ≤ Tryd.f69.ntmps; decide) (Fbf.run n t) (Fbf.gmap Fbf.res (fun a0 => a0) n t) h
theorem Fbf.s (hmix : Tryd.prog.follows .mixedOrders = true) (n : Nat) : CalleeS Tryd.prog abiG 69 (Fbf.c n) :=
  .mk1 (res := Fbf.res) (shape := Fbf.shape) (fun R u K => rfl) (fun _ _ _ h => by unfold Fbf.pat at h; split at h <;> cases h; rfl) (fun t u h => Fbf.call hmix n t u h) Tryd.func69 (by decide) (by kernel_rfl)
end
section
theorem Fao.gmap {α β : Type} (h : β → α) (mk0 : LI → β) (n : Nat) (a0 : Int) : Fao.g (fun a0 => (h (mk0 a0))) n a0 = (Fao.g mk0 n a0).map h := by
  unfold Fao.g
  exact (bindO_map fun r2 => (bindO_map fun r4 => rfl))
theorem Fao.run (n : Nat) (a0 : Int) : runF (Fao.C n) (Fao.A n) n Tryd.f61 [(.int .i64 a0)] [] (fun v o => some (v, o)) = Fao.g (fun a0 => (((.own 0 1), [(some (.ints .u8 a0))]) : AV × Blks)) n a0 := by kernel_rfl
theorem Fao.call (hmix : Tryd.prog.follows .mixedOrders = true) (n : Nat) (t : Int) (u) (h : Fao.m n t = some u) : FnC Tryd.prog abiG 61 (Fao.shape t).1 (Fao.shape t).2 (Fao.res u).1 (Fao.res u).2 :=
  fnC1 (C := Fao.C n) (A := Fao.A n) (fn := Tryd.f61) rfl (.cons (Fbf.s hmix n) (.cons (Fan.s hmix n) .nil)) hmix Tryd.func61 (by kernel_rfl) (lp := []) (by kernel_rfl) .nil
  (nj rfl) (by decide) rfl rfl (by show 1 ≤ Tryd.f61.ntmps; decide) (Fao.run n t) (Fao.gmap Fao.res (fun a0 => a0) n t) h
theorem Fao.s (hmix : Tryd.prog.follows .mixedOrders = true) (n : Nat) : CalleeS Tryd.prog abiG 61 (Fao.c n) :=
  .mk1 (res := Fao.res) (shape := Fao.shape) (fun R u K => rfl) (fun _ _ _ h => by unfold Fao.pat at h; split at h <;> cases h; rfl) (fun t u h => Fao.call hmix n t u h) Tryd.func61 (by decide) (by kernel_rfl)
end
section
noncomputable abbrev Fap.R0 (n : Nat) := roundOf (Fap.C n) (Fap.A n) n Fap.b0
theorem Fap.l3_0.rmap {α β : Type} (h : β → α) (mk0 : LI → LI → β) (n : Nat) (f : Int → Int → LA → LA → LI → LI → Option β)  (x0 : Int) (x1 : Int) (x2 : LA) (x3 : LA) (x4 : LI) (x5 : LI) : Fap.l3_0.r (fun a0 a1 => (h (mk0 a0 a1))) n (fun y0 y1 y2 y3 y4 y5 => (f y0 y1 y2 y3 y4 y5).map h) x0 x1 x2 x3 x4 x5 = (Fap.l3_0.r mk0 n f x0 x1 x2 x3 x4 x5).map h := by
  unfold Fap.l3_0.r
  exact (ite_map (ite_map (ite_map (bindO_map fun r10 => (bindO_map fun r12 => (bindO_map fun r14 => (bindO_map fun r16 => (ite_map (bindO_map fun r20 => (ite_map rfl rfl)) (bindO_map fun r20 => (ite_map (bindO_map fun r24 => (ite_map (ite_map (ite_map (ite_map rfl rfl) rfl) rfl) rfl)) rfl))))))) rfl) rfl) rfl)
theorem Fap.l3_0.gmap {α β : Type} (h : β → α) (mk0 : LI → LI → β) (n : Nat) : ∀ (m : Nat) (x0 : Int) (x1 : Int) (x2 : LA) (x3 : LA) (x4 : LI) (x5 : LI), Fap.l3_0.g (fun a0 a1 => (h (mk0 a0 a1))) n m x0 x1 x2 x3 x4 x5 = (Fap.l3_0.g mk0 n m x0 x1 x2 x3 x4 x5).map h
  | 0, _, _, _, _, _, _ => rfl
  | m + 1, x0, x1, x2, x3, x4, x5 => by
    unfold Fap.l3_0.g
    rw [← Fap.l3_0.rmap]
    congr
    · funext y0 y1 y2 y3 y4 y5; exact Fap.l3_0.gmap h mk0 n m y0 y1 y2 y3 y4 y5
theorem Fap.l3_0.pat_shape : ∀ st t, Fap.l3_0.pat st = some t → st = Fap.l3_0.shape t := fun _ _ h => by unfold Fap.l3_0.pat at h; split at h <;> cases h; rfl
def Fap.l3_0.k0 : LI → LI → Ex × St := (fun a0 a1 => (((.exit 0), (St.mk [(.own 0 1), (.own 1 1)] [(some (.ints .u8 a0)), (some (.ints .u8 a1))])) : Ex × St))
theorem Fap.l3_0.round (n : Nat) (rc : St → Option (Ex × St)) (x0 : Int) (x1 : Int) (x2 : LA) (x3 : LA) (x4 : LI) (x5 : LI) : Fap.R0 n rc ((St.mk [(.int .i64 x0), (.int .i64 x1), (.robjs 69 6 x2), (.own 0 1), (.robjs 69 6 x3), (.own 1 1)] [(some (.ints .u8 x4)), (some (.ints .u8 x5))])) = Fap.l3_0.r Fap.l3_0.k0 n (fun y0 y1 y2 y3 y4 y5 => rc ((St.mk [(.int .i64 y0), (.int .i64 y1), (.robjs 69 6 y2), (.own 0 1), (.robjs 69 6 y3), (.own 1 1)] [(some (.ints .u8 y4)), (some (.ints .u8 y5))]))) x0 x1 x2 x3 x4 x5 := by kernel_rfl
theorem Fap.l3_0.loop' (n : Nat) : ∀ (m : Nat) (t : (Int × (Int × (LA × (LA × (LI × LI)))))), loopOf (Fap.R0 n) m (Fap.l3_0.shape t) = Fap.l3_0.g Fap.l3_0.k0 n m t.1 t.2.1 t.2.2.1 t.2.2.2.1 t.2.2.2.2.1 t.2.2.2.2.2 :=
  loop_of_round (shape := Fap.l3_0.shape) (body := Fap.R0 n) (g := fun m t => Fap.l3_0.g Fap.l3_0.k0 n m t.1 t.2.1 t.2.2.1 t.2.2.2.1 t.2.2.2.2.1 t.2.2.2.2.2) (fun t => rfl)
    fun m t ih => (Fap.l3_0.round n (loopOf (Fap.R0 n) m) t.1 t.2.1 t.2.2.1 t.2.2.2.1 t.2.2.2.2.1 t.2.2.2.2.2).trans (congrFun (congrFun (congrFun (congrFun (congrFun (congrFun (congrArg (Fap.l3_0.r Fap.l3_0.k0 n) (funext fun y0 => funext fun y1 => funext fun y2 => funext fun y3 => funext fun y4 => funext fun y5 => ih (y0, y1, y2, y3, y4, y5))) t.1) t.2.1) t.2.2.1) t.2.2.2.1) t.2.2.2.2.1) t.2.2.2.2.2)
theorem Fap.l3_0.loop (n m : Nat) (t : (Int × (Int × (LA × (LA × (LI × LI)))))) : loopOf (Fap.R0 n) m (Fap.l3_0.shape t) = (Fap.l3_0.m n m t).map Fap.l3_0.res :=
  (Fap.l3_0.loop' n m t).trans (Fap.l3_0.gmap Fap.l3_0.res (fun a0 a1 => (a0, a1)) n m t.1 t.2.1 t.2.2.1 t.2.2.2.1 t.2.2.2.2.1 t.2.2.2.2.2)
theorem Fap.gmap {α β : Type} (h : β → α) (mk0 : LI → β) (n : Nat) (a0 : LA) : Fap.g (fun a0 => (h (mk0 a0))) n a0 = (Fap.g mk0 n a0).map h := by
  unfold Fap.g
  exact (bindO_map fun r2 => (ite_map rfl rfl))
theorem Fap.run (n : Nat) (a0 : LA) : runF (Fap.C n) (Fap.A n) n Tryd.f20 [(.robjs 69 6 a0)] [] (fun v o => some (v, o)) = Fap.g (fun a0 => (((.own 0 1), [(some (.ints .u8 a0))]) : AV × Blks)) n a0 := by kernel_rfl
theorem Fap.call (hmix : Tryd.prog.follows .mixedOrders = true) (n : Nat) (t : LA) (u) (h : Fap.m n t = some u) : FnC Tryd.prog abiG 20 (Fap.shape t).1 (Fap.shape t).2 (Fap.res u).1 (Fap.res u).2 :=
  fnC1 (C := Fap.C n) (A := Fap.A n) (fn := Tryd.f20) rfl (.cons (Fan.s hmix n) (.cons (Fao.s hmix n) .nil)) hmix Tryd.func20 (by kernel_rfl) (lp := [Fap.b0]) (by kernel_rfl) (.cons (show (Fap.A n).loop (key Fap.b0) = some (.mk' Fap.l3_0.pat (Fap.l3_0.m n n) Fap.l3_0.resK) by kernel_rfl) (LoopS.of (res := Fap.l3_0.res) (fun R u K => rfl) Fap.l3_0.pat_shape fun t => Fap.l3_0.loop n n t)
  .nil)
  (nj rfl) (by decide) rfl rfl (by show 1 ≤ Tryd.f20.ntmps; decide) (Fap.run n t) (Fap.gmap Fap.res (fun a0 => a0) n t) h
theorem Fap.s (hmix : Tryd.prog.follows .mixedOrders = true) (n : Nat) : CalleeS Tryd.prog abiG 20 (Fap.c n) :=
  .mk1 (res := Fap.res) (shape := Fap.shape) (fun R u K => rfl) (fun _ _ _ h => by unfold Fap.pat at h; split at h <;> cases h; rfl) (fun t u h => Fap.call hmix n t u h) Tryd.func20 (by decide) (by kernel_rfl)
end
section
noncomputable section
noncomputable def Fbq.C (n : Nat) : Ctx := ⟨Tryd.prog, abiG, lookC [], fun _ => false⟩
noncomputable def Fbq.A (n : Nat) : Ann := ⟨Tryd.f51.ntmps, 0, noNL, [], [none], fun k => match k with
 | _ => none, noNL, lookJ []⟩
def Fbq.g {α : Type} (mk0 : LI → α) (n : Nat) (a0 : Int) : Option α :=
 some (mk0 [a0, 0, 0, 0])
def Fbq.m (n : Nat) (t : Int) : Option LI := Fbq.g (fun a0 => a0) n t
def Fbq.pat : List AV → Blks → Option Int
 | [(.int .u64 a0)], [] => some a0
 | _, _ => none
def Fbq.shape (t : Int) : List AV × Blks := ([(.int .u64 t)], [])
def Fbq.res : LI → AV × Blks
 | u => ((.ints .u64 4 u), [])
def Fbq.resK {R : Type} (u : LI) (K : AV → Blks → Option R) : Option R := K (Fbq.res u).1 (Fbq.res u).2
def Fbq.c (n : Nat) : Abs.Callee := .mk' [] [none] Fbq.pat (Fbq.m n) Fbq.resK
end
end
section
theorem Fbq.gmap {α β : Type} (h : β → α) (mk0 : LI → β) (n : Nat) (a0 : Int) : Fbq.g (fun a0 => (h (mk0 a0))) n a0 = (Fbq.g mk0 n a0).map h := by
  unfold Fbq.g
  exact rfl
theorem Fbq.run (n : Nat) (a0 : Int) : runF (Fbq.C n) (Fbq.A n) n Tryd.f51 [(.int .u64 a0)] [] (fun v o => some (v, o)) = Fbq.g (fun a0 => (((.ints .u64 4 a0), []) : AV × Blks)) n a0 := by kernel_rfl
theorem Fbq.call (hmix : Tryd.prog.follows .mixedOrders = true) (n : Nat) (t : Int) (u) (h : Fbq.m n t = some u) : FnC Tryd.prog abiG 51 (Fbq.shape t).1 (Fbq.shape t).2 (Fbq.res u).1 (Fbq.res u).2 :=
  fnC1 (C := Fbq.C n) (A := Fbq.A n) (fn := Tryd.f51) rfl .nil hmix Tryd.func51 (by kernel_rfl) (lp := []) (by kernel_rfl) .nil
  (nj rfl) (by decide) rfl rfl (by show 1 ≤ Tryd.f51.ntmps; decide) (Fbq.run n t) (Fbq.gmap Fbq.res (fun a0 => a0) n t) h
theorem Fbq.s (hmix : Tryd.prog.follows .mixedOrders = true) (n : Nat) : CalleeS Tryd.prog abiG 51 (Fbq.c n) :=
  .mk1 (res := Fbq.res) (shape := Fbq.shape) (fun R u K => rfl) (fun _ _ _ h => by unfold Fbq.pat at h; split at h <;> cases h; rfl) (fun t u h => Fbq.call hmix n t u h) Tryd.func51 (by decide) (by kernel_rfl)
end
section
noncomputable section
noncomputable def Fcj.C (n : Nat) : Ctx := ⟨Tryd.prog, abiG, lookC [], fun _ => false⟩
noncomputable def Fcj.A (n : Nat) : Ann := ⟨Tryd.f128.ntmps, 0, noNL, [], [none], fun k => match k with
 | _ => none, noNL, lookJ []⟩
def Fcj.g {α : Type} (mk0 : Bool → α) (n : Nat) (a0 : LI) (a1 : Int) : Option α :=
 if 0 ≤ (IntKind.wrap .i64 (Int.tdiv a1 64)) then
  if (IntKind.wrap .i64 (Int.tdiv a1 64)) < 4 then
   if 0 ≤ (IntKind.wrap .u64 (Int.tmod a1 64)) then
    some (mk0 ((ibits BinOp.and .u64 (ishr .u64 (List.getD a0 (Int.toNat (IntKind.wrap .i64 (Int.tdiv a1 64))) 0) (IntKind.wrap .u64 (Int.tmod a1 64))) 1) == 1))
   else
    none
  else
   none
 else
  none
def Fcj.m (n : Nat) (t : (LI × Int)) : Option Bool := Fcj.g (fun a0 => a0) n t.1 t.2
def Fcj.pat : List AV → Blks → Option (LI × Int)
 | [(.ints .u64 4 a0), (.int .i64 a1)], [] => some (a0, a1)
 | _, _ => none
def Fcj.shape (t : (LI × Int)) : List AV × Blks := ([(.ints .u64 4 t.1), (.int .i64 t.2)], [])
def Fcj.res : Bool → AV × Blks
 | u => ((.bool u), [])
def Fcj.resK {R : Type} (u : Bool) (K : AV → Blks → Option R) : Option R := K (Fcj.res u).1 (Fcj.res u).2
def Fcj.c (n : Nat) : Abs.Callee := .mk' [] [none, none] Fcj.pat (Fcj.m n) Fcj.resK
end
end
section
theorem Fcj.gmap {α β : Type} (h : β → α) (mk0 : Bool → β) (n : Nat) (a0 : LI) (a1 : Int) : Fcj.g (fun a0 => (h (mk0 a0))) n a0 a1 = (Fcj.g mk0 n a0 a1).map h := by
  unfold Fcj.g
  exact (ite_map (ite_map (ite_map rfl rfl) rfl) rfl)
theorem Fcj.run (n : Nat) (a0 : LI) (a1 : Int) : runF (Fcj.C n) (Fcj.A n) n Tryd.f128 [(.ints .u64 4 a0), (.int .i64 a1)] [] (fun v o => some (v, o)) = Fcj.g (fun a0 => (((.bool a0), []) : AV × Blks)) n a0 a1 := by kernel_rfl
theorem Fcj.call (hmix : Tryd.prog.follows .mixedOrders = true) (n : Nat) (t : (LI × Int)) (u) (h : Fcj.m n t = some u) : FnC Tryd.prog abiG 128 (Fcj.shape t).1 (Fcj.shape t).2 (Fcj.res u).1 (Fcj.res u).2 :=
  fnC1 (C := Fcj.C n) (A := Fcj.A n) (fn := Tryd.f128) rfl .nil hmix Tryd.func128 (by kernel_rfl) (lp := []) (by kernel_rfl) .nil
  (nj rfl) (by decide) rfl rfl (by show 2 ≤ Tryd.f128.ntmps; decide) (Fcj.run n t.1 t.2) (Fcj.gmap Fcj.res (fun a0 => a0) n t.1 t.2) h
theorem Fcj.s (hmix : Tryd.prog.follows .mixedOrders = true) (n : Nat) : CalleeS Tryd.prog abiG 128 (Fcj.c n) :=
  .mk1 (res := Fcj.res) (shape := Fcj.shape) (fun R u K => rfl) (fun _ _ _ h => by unfold Fcj.pat at h; split at h <;> cases h; rfl) (fun t u h => Fcj.call hmix n t u h) Tryd.func128 (by decide) (by kernel_rfl)
end
section
noncomputable section
def Fas.m (n : Nat) (t : (Int × (Int × Int))) : Option (Int × Int) := xAdd64 t
def Fas.pat : List AV → Blks → Option (Int × (Int × Int))
 | [(.int .u64 a0), (.int .u64 a1), (.int .u64 a2)], [] => some (a0, a1, a2)
 | _, _ => none
def Fas.shape (t : (Int × (Int × Int))) : List AV × Blks := ([(.int .u64 t.1), (.int .u64 t.2.1), (.int .u64 t.2.2)], [])
def Fas.res : (Int × Int) → AV × Blks
 | u => ((.tup [(.int .u64 u.1), (.int .u64 u.2)]), [])
def Fas.resK {R : Type} (u : (Int × Int)) (K : AV → Blks → Option R) : Option R := K (Fas.res u).1 (Fas.res u).2
def Fas.c (n : Nat) : Abs.Callee := .mk' [] [none, none, none] Fas.pat (Fas.m n) Fas.resK
end
end
section
noncomputable section
noncomputable def Fbu.C (n : Nat) : Ctx := ⟨Tryd.prog, abiG, lookC [(103, Fas.c n)], fun _ => false⟩
def Fbu.live : NL := fun k => match k with
 | 4 => ([9, 2, 3, 7, 6, 4], [6, 7, 4])
 | _ => ([], [])
def Fbu.l4_0.r {α : Type} (mk0 : Int → LI → LI → α) (n : Nat) (rc : Int → Int → LI → LI → LI → LI → Option α)  (x0 : Int) (x1 : Int) (x2 : LI) (x3 : LI) (x4 : LI) (x5 : LI) : Option α :=
  if (decide (x0 < 4)) = true then
   if 0 ≤ x0 then
    if x0 < 4 then
     if 0 ≤ x0 then
      if x0 < 4 then
       bindO (Fas.m n ((List.getD x2 (Int.toNat x0) 0), (List.getD x3 (Int.toNat x0) 0), x1)) fun r14 =>
        if 0 ≤ x0 then
         if x0 < 4 then
          rc (IntKind.wrap .i64 (x0 + 1)) r14.2 x2 x3 (List.set x4 (Int.toNat x0) r14.1) x5
         else
          none
        else
         none
      else
       none
     else
      none
    else
     none
   else
    none
  else
   some (mk0 x1 x4 x5)
def Fbu.l4_0.g {α : Type} (mk0 : Int → LI → LI → α) (n : Nat) : Nat → Int → Int → LI → LI → LI → LI → Option α
 | 0, _, _, _, _, _, _ => none
 | m + 1, x0, x1, x2, x3, x4, x5 => Fbu.l4_0.r mk0 n (fun y0 y1 y2 y3 y4 y5 => Fbu.l4_0.g mk0 n m y0 y1 y2 y3 y4 y5)  x0 x1 x2 x3 x4 x5
def Fbu.l4_0.m (n m : Nat) (t : (Int × (Int × (LI × (LI × (LI × LI)))))) : Option (Int × (LI × LI)) := Fbu.l4_0.g (fun a0 a1 a2 => (a0, a1, a2)) n m t.1 t.2.1 t.2.2.1 t.2.2.2.1 t.2.2.2.2.1 t.2.2.2.2.2
def Fbu.l4_0.pat : St → Option (Int × (Int × (LI × (LI × (LI × LI)))))
 | (St.mk [(.int .i64 x0), (.ptr 0 []), (.ptr 1 []), (.int .u64 x1), (.ptr 2 []), (.ptr 3 [])] [(some (.var (.ints .u64 4 x2))), (some (.var (.ints .u64 4 x3))), (some (.var (.ints .u64 4 x4))), (some (.var (.ints .u64 4 x5)))]) => some (x0, x1, x2, x3, x4, x5)
 | _ => none
def Fbu.l4_0.shape (t : (Int × (Int × (LI × (LI × (LI × LI)))))) : St := (St.mk [(.int .i64 t.1), (.ptr 0 []), (.ptr 1 []), (.int .u64 t.2.1), (.ptr 2 []), (.ptr 3 [])] [(some (.var (.ints .u64 4 t.2.2.1))), (some (.var (.ints .u64 4 t.2.2.2.1))), (some (.var (.ints .u64 4 t.2.2.2.2.1))), (some (.var (.ints .u64 4 t.2.2.2.2.2)))])
def Fbu.l4_0.res : (Int × (LI × LI)) → Ex × St
 | u => ((.exit 0), (St.mk [(.ptr 0 []), (.int .u64 u.1), (.ptr 1 [])] [(some (.var (.ints .u64 4 u.2.1))), (some (.var (.ints .u64 4 u.2.2)))]))
def Fbu.l4_0.resK {R : Type} (u : (Int × (LI × LI))) (K : Ex → St → Option R) : Option R := K (Fbu.l4_0.res u).1 (Fbu.l4_0.res u).2
noncomputable def Fbu.A (n : Nat) : Ann := ⟨Tryd.f85.ntmps, 0, Fbu.live, [], [none, none], fun k => match k with
 | 4 => some (.mk' Fbu.l4_0.pat (Fbu.l4_0.m n n) Fbu.l4_0.resK)
 | _ => none, noNL, lookJ []⟩
noncomputable def Fbu.b0 : Code := (loopsIn (Tryd.f85.body.getD .skip)).getD 0 .skip
def Fbu.g {α : Type} (mk0 : LI → Bool → α) (n : Nat) (a0 : LI) (a1 : LI) : Option α :=
 bindO (Fbu.l4_0.m n n (0, 0, a0, a1, [0, 0, 0, 0], [0, 0, 0, 0])) fun r2 =>
  some (mk0 r2.2.1 (r2.1 != 0))
def Fbu.m (n : Nat) (t : (LI × LI)) : Option (LI × Bool) := Fbu.g (fun a0 a1 => (a0, a1)) n t.1 t.2
def Fbu.pat : List AV → Blks → Option (LI × LI)
 | [(.ints .u64 4 a0), (.ints .u64 4 a1)], [] => some (a0, a1)
 | _, _ => none
def Fbu.shape (t : (LI × LI)) : List AV × Blks := ([(.ints .u64 4 t.1), (.ints .u64 4 t.2)], [])
def Fbu.res : (LI × Bool) → AV × Blks
 | u => ((.tup [(.ints .u64 4 u.1), (.bool u.2)]), [])
def Fbu.resK {R : Type} (u : (LI × Bool)) (K : AV → Blks → Option R) : Option R := K (Fbu.res u).1 (Fbu.res u).2
def Fbu.c (n : Nat) : Abs.Callee := .mk' [] [none, none] Fbu.pat (Fbu.m n) Fbu.resK
end
end
section
theorem Fas.ok (hmix : Tryd.prog.follows .mixedOrders = true) (n : Nat) (t) (u) (h : Fas.m n t = some u) : FnOK Tryd.prog abiG 103 (Fas.shape t).1 (Fas.shape t).2 (Fas.res u).1 (Fas.res u).2 :=
  xAdd64_ok Tryd.func103 (by kernel_rfl) (by kernel_rfl) (by kernel_rfl) (show Go.Extern.find Tryd.f103 = some add64Entry by kernel_rfl) t u h
theorem Fas.s (hmix : Tryd.prog.follows .mixedOrders = true) (n : Nat) : CalleeS Tryd.prog abiG 103 (Fas.c n) :=
  CalleeS.of (res := Fas.res) (shape := Fas.shape) (fun R u K => rfl) (fun args lent t h => by
    unfold Fas.pat at h
    split at h
    · cases h; rfl
    · cases h) fun t u h => Fas.ok hmix n t u h
end
section
noncomputable abbrev Fbu.R0 (n : Nat) := roundOf (Fbu.C n) (Fbu.A n) n Fbu.b0
theorem Fbu.l4_0.rmap {α β : Type} (h : β → α) (mk0 : Int → LI → LI → β) (n : Nat) (f : Int → Int → LI → LI → LI → LI → Option β)  (x0 : Int) (x1 : Int) (x2 : LI) (x3 : LI) (x4 : LI) (x5 : LI) : Fbu.l4_0.r (fun a0 a1 a2 => (h (mk0 a0 a1 a2))) n (fun y0 y1 y2 y3 y4 y5 => (f y0 y1 y2 y3 y4 y5).map h) x0 x1 x2 x3 x4 x5 = (Fbu.l4_0.r mk0 n f x0 x1 x2 x3 x4 x5).map h := by
  unfold Fbu.l4_0.r
  exact (ite_map (ite_map (ite_map (ite_map (ite_map (bindO_map fun r14 => (ite_map (ite_map rfl rfl) rfl)) rfl) rfl) rfl) rfl) rfl)
theorem Fbu.l4_0.gmap {α β : Type} (h : β → α) (mk0 : Int → LI → LI → β) (n : Nat) : ∀ (m : Nat) (x0 : Int) (x1 : Int) (x2 : LI) (x3 : LI) (x4 : LI) (x5 : LI), Fbu.l4_0.g (fun a0 a1 a2 => (h (mk0 a0 a1 a2))) n m x0 x1 x2 x3 x4 x5 = (Fbu.l4_0.g mk0 n m x0 x1 x2 x3 x4 x5).map h
  | 0, _, _, _, _, _, _ => rfl
  | m + 1, x0, x1, x2, x3, x4, x5 => by
    unfold Fbu.l4_0.g
    rw [← Fbu.l4_0.rmap]
    congr
    · funext y0 y1 y2 y3 y4 y5; exact Fbu.l4_0.gmap h mk0 n m y0 y1 y2 y3 y4 y5
theorem Fbu.l4_0.pat_shape : ∀ st t, Fbu.l4_0.pat st = some t → st = Fbu.l4_0.shape t := fun _ _ h => by unfold Fbu.l4_0.pat at h; split at h <;> cases h; rfl
def Fbu.l4_0.k0 : Int → LI → LI → Ex × St := (fun a0 a1 a2 => (((.exit 0), (St.mk [(.ptr 0 []), (.int .u64 a0), (.ptr 1 [])] [(some (.var (.ints .u64 4 a1))), (some (.var (.ints .u64 4 a2)))])) : Ex × St))
theorem Fbu.l4_0.round (n : Nat) (rc : St → Option (Ex × St)) (x0 : Int) (x1 : Int) (x2 : LI) (x3 : LI) (x4 : LI) (x5 : LI) : Fbu.R0 n rc ((St.mk [(.int .i64 x0), (.ptr 0 []), (.ptr 1 []), (.int .u64 x1), (.ptr 2 []), (.ptr 3 [])] [(some (.var (.ints .u64 4 x2))), (some (.var (.ints .u64 4 x3))), (some (.var (.ints .u64 4 x4))), (some (.var (.ints .u64 4 x5)))])) = Fbu.l4_0.r Fbu.l4_0.k0 n (fun y0 y1 y2 y3 y4 y5 => rc ((St.mk [(.int .i64 y0), (.ptr 0 []), (.ptr 1 []), (.int .u64 y1), (.ptr 2 []), (.ptr 3 [])] [(some (.var (.ints .u64 4 y2))), (some (.var (.ints .u64 4 y3))), (some (.var (.ints .u64 4 y4))), (some (.var (.ints .u64 4 y5)))]))) x0 x1 x2 x3 x4 x5 := by kernel_rfl
theorem Fbu.l4_0.loop' (n : Nat) : ∀ (m : Nat) (t : (Int × (Int × (LI × (LI × (LI × LI)))))), loopOf (Fbu.R0 n) m (Fbu.l4_0.shape t) = Fbu.l4_0.g Fbu.l4_0.k0 n m t.1 t.2.1 t.2.2.1 t.2.2.2.1 t.2.2.2.2.1 t.2.2.2.2.2 :=
  loop_of_round (shape := Fbu.l4_0.shape) (body := Fbu.R0 n) (g := fun m t => Fbu.l4_0.g Fbu.l4_0.k0 n m t.1 t.2.1 t.2.2.1 t.2.2.2.1 t.2.2.2.2.1 t.2.2.2.2.2) (fun t => rfl)
    fun m t ih => (Fbu.l4_0.round n (loopOf (Fbu.R0 n) m) t.1 t.2.1 t.2.2.1 t.2.2.2.1 t.2.2.2.2.1 t.2.2.2.2.2).trans (congrFun (congrFun (congrFun (congrFun (congrFun (congrFun (congrArg (Fbu.l4_0.r Fbu.l4_0.k0 n) (funext fun y0 => funext fun y1 => funext fun y2 => funext fun y3 => funext fun y4 => funext fun y5 => ih (y0, y1, y2, y3, y4, y5))) t.1) t.2.1) t.2.2.1) t.2.2.2.1) t.2.2.2.2.1) t.2.2.2.2.2)
theorem Fbu.l4_0.loop (n m : Nat) (t : (Int × (Int × (LI × (LI × (LI × LI)))))) : loopOf (Fbu.R0 n) m (Fbu.l4_0.shape t) = (Fbu.l4_0.m n m t).map Fbu.l4_0.res :=
  (Fbu.l4_0.loop' n m t).trans (Fbu.l4_0.gmap Fbu.l4_0.res (fun a0 a1 a2 => (a0, a1, a2)) n m t.1 t.2.1 t.2.2.1 t.2.2.2.1 t.2.2.2.2.1 t.2.2.2.2.2)
theorem Fbu.gmap {α β : Type} (h : β → α) (mk0 : LI → Bool → β) (n : Nat) (a0 : LI) (a1 : LI) : Fbu.g (fun a0 a1 => (h (mk0 a0 a1))) n a0 a1 = (Fbu.g mk0 n a0 a1).map h := by
  unfold Fbu.g
  exact (bindO_map fun r2 => rfl)
theorem Fbu.run (n : Nat) (a0 : LI) (a1 : LI) : runF (Fbu.C n) (Fbu.A n) n Tryd.f85 [(.ints .u64 4 a0), (.ints .u64 4 a1)] [] (fun v o => some (v, o)) = Fbu.g (fun a0 a1 => (((.tup [(.ints .u64 4 a0), (.bool a1)]), []) : AV × Blks)) n a0 a1 := by kernel_rfl
theorem Fbu.call (hmix : Tryd.prog.follows .mixedOrders = true) (n : Nat) (t : (LI × LI)) (u) (h : Fbu.m n t = some u) : FnC Tryd.prog abiG 85 (Fbu.shape t).1 (Fbu.shape t).2 (Fbu.res u).1 (Fbu.res u).2 :=
  fnC1 (C := Fbu.C n) (A := Fbu.A n) (fn := Tryd.f85) rfl (.cons (Fas.s hmix n) .nil) hmix Tryd.func85 (by kernel_rfl) (lp := [Fbu.b0]) (by kernel_rfl) (.cons (show (Fbu.A n).loop (key Fbu.b0) = some (.mk' Fbu.l4_0.pat (Fbu.l4_0.m n n) Fbu.l4_0.resK) by kernel_rfl) (LoopS.of (res := Fbu.l4_0.res) (fun R u K => rfl) Fbu.l4_0.pat_shape fun t => Fbu.l4_0.loop n n t)
  .nil)
  (nj rfl) (by decide) rfl rfl (by show 2 ≤ Tryd.f85.ntmps; decide) (Fbu.run n t.1 t.2) (Fbu.gmap Fbu.res (fun a0 a1 => (a0, a1)) n t.1 t.2) h
theorem Fbu.s (hmix : Tryd.prog.follows .mixedOrders = true) (n : Nat) : CalleeS Tryd.prog abiG 85 (Fbu.c n) :=
  .mk1 (res := Fbu.res) (shape := Fbu.shape) (fun R u K => rfl) (fun _ _ _ h => by unfold Fbu.pat at h; split at h <;> cases h; rfl) (fun t u h => Fbu.call hmix n t u h) Tryd.func85 (by decide) (by kernel_rfl)
end
section
noncomputable section
noncomputable def Fcl.C (n : Nat) : Ctx := ⟨Tryd.prog, abiG, lookC [], fun _ => false⟩
def Fcl.live : NL := fun k => match k with
 | 2 => ([5, 2, 3], [4])
 | _ => ([], [])
def Fcl.l2_0.r {α : Type} (mk0 : Int → α) (mk1 : α) (n : Nat) (rc : Int → LI → LI → Option α)  (x0 : Int) (x1 : LI) (x2 : LI) : Option α :=
  if (decide (x0 ≥ 0)) = true then
   if 0 ≤ x0 then
    if x0 < 4 then
     if 0 ≤ x0 then
      if x0 < 4 then
       if (decide ((List.getD x1 (Int.toNat x0) 0) < (List.getD x2 (Int.toNat x0) 0))) = true then
        some (mk0 (-1))
       else
        if 0 ≤ x0 then
         if x0 < 4 then
          if 0 ≤ x0 then
           if x0 < 4 then
            if (decide ((List.getD x1 (Int.toNat x0) 0) > (List.getD x2 (Int.toNat x0) 0))) = true then
             some (mk0 1)
            else
             rc (IntKind.wrap .i64 (x0 - 1)) x1 x2
           else
            none
          else
           none
         else
          none
        else
         none
      else
       none
     else
      none
    else
     none
   else
    none
  else
   some (mk1)
def Fcl.l2_0.g {α : Type} (mk0 : Int → α) (mk1 : α) (n : Nat) : Nat → Int → LI → LI → Option α
 | 0, _, _, _ => none
 | m + 1, x0, x1, x2 => Fcl.l2_0.r mk0 mk1 n (fun y0 y1 y2 => Fcl.l2_0.g mk0 mk1 n m y0 y1 y2)  x0 x1 x2
def Fcl.l2_0.m (n m : Nat) (t : (Int × (LI × LI))) : Option (Int ⊕ Unit) := Fcl.l2_0.g (fun a0 => (.inl a0)) (.inr ()) n m t.1 t.2.1 t.2.2
def Fcl.l2_0.pat : St → Option (Int × (LI × LI))
 | (St.mk [(.int .i64 x0), (.ptr 0 []), (.ptr 1 [])] [(some (.var (.ints .u64 4 x1))), (some (.var (.ints .u64 4 x2)))]) => some (x0, x1, x2)
 | _ => none
def Fcl.l2_0.shape (t : (Int × (LI × LI))) : St := (St.mk [(.int .i64 t.1), (.ptr 0 []), (.ptr 1 [])] [(some (.var (.ints .u64 4 t.2.1))), (some (.var (.ints .u64 4 t.2.2)))])
def Fcl.l2_0.res : (Int ⊕ Unit) → Ex × St
 | (.inl u) => (.ret, (St.mk [(.int .i64 u)] []))
 | (.inr u) => ((.exit 0), (St.mk [.any] []))
def Fcl.l2_0.resK {R : Type} (u : (Int ⊕ Unit)) (K : Ex → St → Option R) : Option R := match u with
 | (.inl u) => (fun p : Ex × St => K p.1 p.2) (.ret, (St.mk [(.int .i64 u)] []))
 | (.inr u) => (fun p : Ex × St => K p.1 p.2) ((.exit 0), (St.mk [.any] []))
noncomputable def Fcl.A (n : Nat) : Ann := ⟨Tryd.f49.ntmps, 0, Fcl.live, [], [none], fun k => match k with
 | 2 => some (.mk' Fcl.l2_0.pat (Fcl.l2_0.m n n) Fcl.l2_0.resK)
 | _ => none, noNL, lookJ []⟩
noncomputable def Fcl.b0 : Code := (loopsIn (Tryd.f49.body.getD .skip)).getD 0 .skip
def Fcl.g {α : Type} (mk0 : Int → α) (n : Nat) (a0 : LI) (a1 : LI) : Option α :=
 bindO (Fcl.l2_0.m n n (3, a0, a1)) fun r2 => match r2 with
  | (.inl r2) =>
   some (mk0 r2)
  | (.inr r2) =>
   some (mk0 0)
def Fcl.m (n : Nat) (t : (LI × LI)) : Option Int := Fcl.g (fun a0 => a0) n t.1 t.2
def Fcl.pat : List AV → Blks → Option (LI × LI)
 | [(.ints .u64 4 a0), (.ints .u64 4 a1)], [] => some (a0, a1)
 | _, _ => none
def Fcl.shape (t : (LI × LI)) : List AV × Blks := ([(.ints .u64 4 t.1), (.ints .u64 4 t.2)], [])
def Fcl.res : Int → AV × Blks
 | u => ((.int .i64 u), [])
def Fcl.resK {R : Type} (u : Int) (K : AV → Blks → Option R) : Option R := K (Fcl.res u).1 (Fcl.res u).2
def Fcl.c (n : Nat) : Abs.Callee := .mk' [] [none, none] Fcl.pat (Fcl.m n) Fcl.resK
end
end
section
noncomputable abbrev Fcl.R0 (n : Nat) := roundOf (Fcl.C n) (Fcl.A n) n Fcl.b0
theorem Fcl.l2_0.rmap {α β : Type} (h : β → α) (mk0 : Int → β) (mk1 : β) (n : Nat) (f : Int → LI → LI → Option β)  (x0 : Int) (x1 : LI) (x2 : LI) : Fcl.l2_0.r (fun a0 => (h (mk0 a0))) (h mk1) n (fun y0 y1 y2 => (f y0 y1 y2).map h) x0 x1 x2 = (Fcl.l2_0.r mk0 mk1 n f x0 x1 x2).map h := by
  unfold Fcl.l2_0.r
  exact (ite_map (ite_map (ite_map (ite_map (ite_map (ite_map rfl (ite_map (ite_map (ite_map (ite_map (ite_map rfl rfl) rfl) rfl) rfl) rfl)) rfl) rfl) rfl) rfl) rfl)
theorem Fcl.l2_0.gmap {α β : Type} (h : β → α) (mk0 : Int → β) (mk1 : β) (n : Nat) : ∀ (m : Nat) (x0 : Int) (x1 : LI) (x2 : LI), Fcl.l2_0.g (fun a0 => (h (mk0 a0))) (h mk1) n m x0 x1 x2 = (Fcl.l2_0.g mk0 mk1 n m x0 x1 x2).map h
  | 0, _, _, _ => rfl
  | m + 1, x0, x1, x2 => by
    unfold Fcl.l2_0.g
    rw [← Fcl.l2_0.rmap]
    congr
    · funext y0 y1 y2; exact Fcl.l2_0.gmap h mk0 mk1 n m y0 y1 y2
theorem Fcl.l2_0.pat_shape : ∀ st t, Fcl.l2_0.pat st = some t → st = Fcl.l2_0.shape t := fun _ _ h => by unfold Fcl.l2_0.pat at h; split at h <;> cases h; rfl
def Fcl.l2_0.k0 : Int → Ex × St := (fun a0 => ((.ret, (St.mk [(.int .i64 a0)] [])) : Ex × St))
def Fcl.l2_0.k1 : Ex × St := (((.exit 0), (St.mk [.any] [])) : Ex × St)
theorem Fcl.l2_0.round (n : Nat) (rc : St → Option (Ex × St)) (x0 : Int) (x1 : LI) (x2 : LI) : Fcl.R0 n rc ((St.mk [(.int .i64 x0), (.ptr 0 []), (.ptr 1 [])] [(some (.var (.ints .u64 4 x1))), (some (.var (.ints .u64 4 x2)))])) = Fcl.l2_0.r Fcl.l2_0.k0 Fcl.l2_0.k1 n (fun y0 y1 y2 => rc ((St.mk [(.int .i64 y0), (.ptr 0 []), (.ptr 1 [])] [(some (.var (.ints .u64 4 y1))), (some (.var (.ints .u64 4 y2)))]))) x0 x1 x2 := by kernel_rfl
theorem Fcl.l2_0.loop' (n : Nat) : ∀ (m : Nat) (t : (Int × (LI × LI))), loopOf (Fcl.R0 n) m (Fcl.l2_0.shape t) = Fcl.l2_0.g Fcl.l2_0.k0 Fcl.l2_0.k1 n m t.1 t.2.1 t.2.2 :=
  loop_of_round (shape := Fcl.l2_0.shape) (body := Fcl.R0 n) (g := fun m t => Fcl.l2_0.g Fcl.l2_0.k0 Fcl.l2_0.k1 n m t.1 t.2.1 t.2.2) (fun t => rfl)
    fun m t ih => (Fcl.l2_0.round n (loopOf (Fcl.R0 n) m) t.1 t.2.1 t.2.2).trans (congrFun (congrFun (congrFun (congrArg (Fcl.l2_0.r Fcl.l2_0.k0 Fcl.l2_0.k1 n) (funext fun y0 => funext fun y1 => funext fun y2 => ih (y0, y1, y2))) t.1) t.2.1) t.2.2)
theorem Fcl.l2_0.loop (n m : Nat) (t : (Int × (LI × LI))) : loopOf (Fcl.R0 n) m (Fcl.l2_0.shape t) = (Fcl.l2_0.m n m t).map Fcl.l2_0.res :=
  (Fcl.l2_0.loop' n m t).trans (Fcl.l2_0.gmap Fcl.l2_0.res (fun a0 => (.inl a0)) (.inr ()) n m t.1 t.2.1 t.2.2)
theorem Fcl.gmap {α β : Type} (h : β → α) (mk0 : Int → β) (n : Nat) (a0 : LI) (a1 : LI) : Fcl.g (fun a0 => (h (mk0 a0))) n a0 a1 = (Fcl.g mk0 n a0 a1).map h := by
  unfold Fcl.g
  exact (bindO_map fun r2 => match r2 with | (.inl r2) => rfl | (.inr r2) => rfl)
theorem Fcl.run (n : Nat) (a0 : LI) (a1 : LI) : runF (Fcl.C n) (Fcl.A n) n Tryd.f49 [(.ints .u64 4 a0), (.ints .u64 4 a1)] [] (fun v o => some (v, o)) = Fcl.g (fun a0 => (((.int .i64 a0), []) : AV × Blks)) n a0 a1 := by kernel_rfl
theorem Fcl.call (hmix : Tryd.prog.follows .mixedOrders = true) (n : Nat) (t : (LI × LI)) (u) (h : Fcl.m n t = some u) : FnC Tryd.prog abiG 49 (Fcl.shape t).1 (Fcl.shape t).2 (Fcl.res u).1 (Fcl.res u).2 :=
  fnC1 (C := Fcl.C n) (A := Fcl.A n) (fn := Tryd.f49) rfl .nil hmix Tryd.func49 (by kernel_rfl) (lp := [Fcl.b0]) (by kernel_rfl) (.cons (show (Fcl.A n).loop (key Fcl.b0) = some (.mk' Fcl.l2_0.pat (Fcl.l2_0.m n n) Fcl.l2_0.resK) by kernel_rfl) (LoopS.of (res := Fcl.l2_0.res) (fun R u K => by rcases u with u | u <;> rfl) Fcl.l2_0.pat_shape fun t => Fcl.l2_0.loop n n t)
  .nil)
  (nj rfl) (by decide) rfl rfl (by show 2 ≤ Tryd.f49.ntmps; decide) (Fcl.run n t.1 t.2) (Fcl.gmap Fcl.res (fun a0 => a0) n t.1 t.2) h
theorem Fcl.s (hmix : Tryd.prog.follows .mixedOrders = true) (n : Nat) : CalleeS Tryd.prog abiG 49 (Fcl.c n) :=
  .mk1 (res := Fcl.res) (shape := Fcl.shape) (fun R u K => rfl) (fun _ _ _ h => by unfold Fcl.pat at h; split at h <;> cases h; rfl) (fun t u h => Fcl.call hmix n t u h) Tryd.func49 (by decide) (by kernel_rfl)
end
section
noncomputable section
noncomputable def Fat.C (n : Nat) : Ctx := ⟨Tryd.prog, abiG, lookC [], fun _ => false⟩
noncomputable def Fat.A (n : Nat) : Ann := ⟨Tryd.f118.ntmps, 0, noNL, [], [none, none], fun k => match k with
 | _ => none, noNL, lookJ []⟩
def Fat.g {α : Type} (mk0 : Int → Int → α) (n : Nat) (a0 : Int) (a1 : Int) : Option α :=
 some (mk0 (IntKind.wrap .u64 ((IntKind.wrap .u64 ((IntKind.wrap .u64 ((ishr .u64 a0 32) * (ishr .u64 a1 32))) + (ishr .u64 (IntKind.wrap .u64 ((IntKind.wrap .u64 ((ishr .u64 a0 32) * (ibits BinOp.and .u64 a1 4294967295))) + (ishr .u64 (IntKind.wrap .u64 ((ibits BinOp.and .u64 a0 4294967295) * (ibits BinOp.and .u64 a1 4294967295))) 32))) 32))) + (ishr .u64 (IntKind.wrap .u64 ((ibits BinOp.and .u64 (IntKind.wrap .u64 ((IntKind.wrap .u64 ((ishr .u64 a0 32) * (ibits BinOp.and .u64 a1 4294967295))) + (ishr .u64 (IntKind.wrap .u64 ((ibits BinOp.and .u64 a0 4294967295) * (ibits BinOp.and .u64 a1 4294967295))) 32))) 4294967295) + (IntKind.wrap .u64 ((ibits BinOp.and .u64 a0 4294967295) * (ishr .u64 a1 32))))) 32))) (IntKind.wrap .u64 (a0 * a1)))
def Fat.m (n : Nat) (t : (Int × Int)) : Option (Int × Int) := Fat.g (fun a0 a1 => (a0, a1)) n t.1 t.2
def Fat.pat : List AV → Blks → Option (Int × Int)
 | [(.int .u64 a0), (.int .u64 a1)], [] => some (a0, a1)
 | _, _ => none
def Fat.shape (t : (Int × Int)) : List AV × Blks := ([(.int .u64 t.1), (.int .u64 t.2)], [])
def Fat.res : (Int × Int) → AV × Blks
 | u => ((.tup [(.int .u64 u.1), (.int .u64 u.2)]), [])
def Fat.resK {R : Type} (u : (Int × Int)) (K : AV → Blks → Option R) : Option R := K (Fat.res u).1 (Fat.res u).2
def Fat.c (n : Nat) : Abs.Callee := .mk' [] [none, none] Fat.pat (Fat.m n) Fat.resK
end
end
section
theorem Fat.gmap {α β : Type} (h : β → α) (mk0 : Int → Int → β) (n : Nat) (a0 : Int) (a1 : Int) : Fat.g (fun a0 a1 => (h (mk0 a0 a1))) n a0 a1 = (Fat.g mk0 n a0 a1).map h := by
  unfold Fat.g
  exact rfl
theorem Fat.run (n : Nat) (a0 : Int) (a1 : Int) : runF (Fat.C n) (Fat.A n) n Tryd.f118 [(.int .u64 a0), (.int .u64 a1)] [] (fun v o => some (v, o)) = Fat.g (fun a0 a1 => (((.tup [(.int .u64 a0), (.int .u64 a1)]), []) : AV × Blks)) n a0 a1 := by kernel_rfl
theorem Fat.call (hmix : Tryd.prog.follows .mixedOrders = true) (n : Nat) (t : (Int × Int)) (u) (h : Fat.m n t = some u) : FnC Tryd.prog abiG 118 (Fat.shape t).1 (Fat.shape t).2 (Fat.res u).1 (Fat.res u).2 :=
  fnC1 (C := Fat.C n) (A := Fat.A n) (fn := Tryd.f118) rfl .nil hmix Tryd.func118 (by kernel_rfl) (lp := []) (by kernel_rfl) .nil
  (nj rfl) (by decide) rfl rfl (by show 2 ≤ Tryd.f118.ntmps; decide) (Fat.run n t.1 t.2) (Fat.gmap Fat.res (fun a0 a1 => (a0, a1)) n t.1 t.2) h
theorem Fat.s (hmix : Tryd.prog.follows .mixedOrders = true) (n : Nat) : CalleeS Tryd.prog abiG 118 (Fat.c n) :=
  .mk1 (res := Fat.res) (shape := Fat.shape) (fun R u K => rfl) (fun _ _ _ h => by unfold Fat.pat at h; split at h <;> cases h; rfl) (fun t u h => Fat.call hmix n t u h) Tryd.func118 (by decide) (by kernel_rfl)
end
section
noncomputable section
noncomputable def Fr.C (n : Nat) : Ctx := ⟨Tryd.prog, abiG, lookC [(118, Fat.c n), (103, Fas.c n)], fun _ => false⟩
def Fr.live : NL := fun k => match k with
 | 3 => ([12, 2, 3, 5, 4], [5, 4])
 | 7 => ([15, 6, 2, 3, 7, 5, 12, 4], [6, 7, 5, 12, 2, 3, 4])
 | _ => ([], [])
def Fr.l7_0.r {α : Type} (mk0 : Int → Int → Int → LI → LI → LI → LI → α) (n : Nat) (rc : Int → Int → Int → Int → LI → LI → LI → LI → Option α)  (x0 : Int) (x1 : Int) (x2 : Int) (x3 : Int) (x4 : LI) (x5 : LI) (x6 : LI) (x7 : LI) : Option α :=
  if (decide (x0 < 4)) = true then
   if 0 ≤ x1 then
    if x1 < 4 then
     if 0 ≤ x0 then
      if x0 < 4 then
       bindO (Fat.m n ((List.getD x4 (Int.toNat x1) 0), (List.getD x5 (Int.toNat x0) 0))) fun r14 =>
        bindO (Fas.m n (r14.2, x2, 0)) fun r16 =>
         if 0 ≤ (IntKind.wrap .i64 (x1 + x0)) then
          if (IntKind.wrap .i64 (x1 + x0)) < 8 then
           bindO (Fas.m n ((List.getD x6 (Int.toNat (IntKind.wrap .i64 (x1 + x0))) 0), r16.1, 0)) fun r22 =>
            if 0 ≤ (IntKind.wrap .i64 (x1 + x0)) then
             if (IntKind.wrap .i64 (x1 + x0)) < 8 then
              rc (IntKind.wrap .i64 (x0 + 1)) x1 (IntKind.wrap .u64 ((IntKind.wrap .u64 (r14.1 + r16.2)) + r22.2)) x3 x4 x5 (List.set x6 (Int.toNat (IntKind.wrap .i64 (x1 + x0))) r22.1) x7
             else
              none
            else
             none
          else
           none
         else
          none
      else
       none
     else
      none
    else
     none
   else
    none
  else
   some (mk0 x1 x2 x3 x6 x4 x5 x7)
def Fr.l7_0.g {α : Type} (mk0 : Int → Int → Int → LI → LI → LI → LI → α) (n : Nat) : Nat → Int → Int → Int → Int → LI → LI → LI → LI → Option α
 | 0, _, _, _, _, _, _, _, _ => none
 | m + 1, x0, x1, x2, x3, x4, x5, x6, x7 => Fr.l7_0.r mk0 n (fun y0 y1 y2 y3 y4 y5 y6 y7 => Fr.l7_0.g mk0 n m y0 y1 y2 y3 y4 y5 y6 y7)  x0 x1 x2 x3 x4 x5 x6 x7
def Fr.l7_0.m (n m : Nat) (t : (Int × (Int × (Int × (Int × (LI × (LI × (LI × LI)))))))) : Option (Int × (Int × (Int × (LI × (LI × (LI × LI)))))) := Fr.l7_0.g (fun a0 a1 a2 a3 a4 a5 a6 => (a0, a1, a2, a3, a4, a5, a6)) n m t.1 t.2.1 t.2.2.1 t.2.2.2.1 t.2.2.2.2.1 t.2.2.2.2.2.1 t.2.2.2.2.2.2.1 t.2.2.2.2.2.2.2
def Fr.l7_0.pat : St → Option (Int × (Int × (Int × (Int × (LI × (LI × (LI × LI)))))))
 | (St.mk [(.int .i64 x0), (.int .i64 x1), (.ptr 0 []), (.ptr 1 []), (.int .u64 x2), (.ptr 2 []), (.int .i64 x3), (.ptr 3 [])] [(some (.var (.ints .u64 4 x4))), (some (.var (.ints .u64 4 x5))), (some (.var (.ints .u64 8 x6))), (some (.var (.ints .u64 8 x7)))]) => some (x0, x1, x2, x3, x4, x5, x6, x7)
 | _ => none
def Fr.l7_0.shape (t : (Int × (Int × (Int × (Int × (LI × (LI × (LI × LI)))))))) : St := (St.mk [(.int .i64 t.1), (.int .i64 t.2.1), (.ptr 0 []), (.ptr 1 []), (.int .u64 t.2.2.1), (.ptr 2 []), (.int .i64 t.2.2.2.1), (.ptr 3 [])] [(some (.var (.ints .u64 4 t.2.2.2.2.1))), (some (.var (.ints .u64 4 t.2.2.2.2.2.1))), (some (.var (.ints .u64 8 t.2.2.2.2.2.2.1))), (some (.var (.ints .u64 8 t.2.2.2.2.2.2.2)))])
def Fr.l7_0.res : (Int × (Int × (Int × (LI × (LI × (LI × LI)))))) → Ex × St
 | u => ((.exit 2), (St.mk [(.int .i64 u.1), (.int .u64 u.2.1), (.ptr 0 []), (.int .i64 u.2.2.1), (.ptr 1 []), (.ptr 2 []), (.ptr 3 [])] [(some (.var (.ints .u64 8 u.2.2.2.1))), (some (.var (.ints .u64 4 u.2.2.2.2.1))), (some (.var (.ints .u64 4 u.2.2.2.2.2.1))), (some (.var (.ints .u64 8 u.2.2.2.2.2.2)))]))
def Fr.l7_0.resK {R : Type} (u : (Int × (Int × (Int × (LI × (LI × (LI × LI))))))) (K : Ex → St → Option R) : Option R := K (Fr.l7_0.res u).1 (Fr.l7_0.res u).2
def Fr.l3_0.r {α : Type} (mk0 : LI → LI → α) (n : Nat) (rc : Int → LI → LI → LI → LI → Option α)  (x0 : Int) (x1 : LI) (x2 : LI) (x3 : LI) (x4 : LI) : Option α :=
  if (decide (x0 < 4)) = true then
   bindO (Fr.l7_0.m n n (0, x0, 0, x0, x1, x2, x3, x4)) fun r6 =>
    if 0 ≤ (IntKind.wrap .i64 (r6.1 + 4)) then
     if (IntKind.wrap .i64 (r6.1 + 4)) < 8 then
      rc (IntKind.wrap .i64 (r6.2.2.1 + 1)) r6.2.2.2.2.1 r6.2.2.2.2.2.1 (List.set r6.2.2.2.1 (Int.toNat (IntKind.wrap .i64 (r6.1 + 4))) r6.2.1) r6.2.2.2.2.2.2
     else
      none
    else
     none
  else
   some (mk0 x3 x4)
def Fr.l3_0.g {α : Type} (mk0 : LI → LI → α) (n : Nat) : Nat → Int → LI → LI → LI → LI → Option α
 | 0, _, _, _, _, _ => none
 | m + 1, x0, x1, x2, x3, x4 => Fr.l3_0.r mk0 n (fun y0 y1 y2 y3 y4 => Fr.l3_0.g mk0 n m y0 y1 y2 y3 y4)  x0 x1 x2 x3 x4
def Fr.l3_0.m (n m : Nat) (t : (Int × (LI × (LI × (LI × LI))))) : Option (LI × LI) := Fr.l3_0.g (fun a0 a1 => (a0, a1)) n m t.1 t.2.1 t.2.2.1 t.2.2.2.1 t.2.2.2.2
def Fr.l3_0.pat : St → Option (Int × (LI × (LI × (LI × LI))))
 | (St.mk [(.int .i64 x0), (.ptr 0 []), (.ptr 1 []), (.ptr 2 []), (.ptr 3 [])] [(some (.var (.ints .u64 4 x1))), (some (.var (.ints .u64 4 x2))), (some (.var (.ints .u64 8 x3))), (some (.var (.ints .u64 8 x4)))]) => some (x0, x1, x2, x3, x4)
 | _ => none
def Fr.l3_0.shape (t : (Int × (LI × (LI × (LI × LI))))) : St := (St.mk [(.int .i64 t.1), (.ptr 0 []), (.ptr 1 []), (.ptr 2 []), (.ptr 3 [])] [(some (.var (.ints .u64 4 t.2.1))), (some (.var (.ints .u64 4 t.2.2.1))), (some (.var (.ints .u64 8 t.2.2.2.1))), (some (.var (.ints .u64 8 t.2.2.2.2)))])
def Fr.l3_0.res : (LI × LI) → Ex × St
 | u => ((.exit 0), (St.mk [(.ptr 0 []), (.ptr 1 [])] [(some (.var (.ints .u64 8 u.1))), (some (.var (.ints .u64 8 u.2)))]))
def Fr.l3_0.resK {R : Type} (u : (LI × LI)) (K : Ex → St → Option R) : Option R := K (Fr.l3_0.res u).1 (Fr.l3_0.res u).2
noncomputable def Fr.A (n : Nat) : Ann := ⟨Tryd.f102.ntmps, 0, Fr.live, [], [none], fun k => match k with
 | 7 => some (.mk' Fr.l7_0.pat (Fr.l7_0.m n n) Fr.l7_0.resK)
 | 3 => some (.mk' Fr.l3_0.pat (Fr.l3_0.m n n) Fr.l3_0.resK)
 | _ => none, noNL, lookJ []⟩
noncomputable def Fr.b0 : Code := (loopsIn (Tryd.f102.body.getD .skip)).getD 0 .skip
noncomputable def Fr.b1 : Code := (loopsIn (Tryd.f102.body.getD .skip)).getD 1 .skip
def Fr.g {α : Type} (mk0 : LI → α) (n : Nat) (a0 : LI) (a1 : LI) : Option α :=
 bindO (Fr.l3_0.m n n (0, a0, a1, ([0, 0, 0, 0, 0, 0, 0, 0] : List Int), ([0, 0, 0, 0, 0, 0, 0, 0] : List Int))) fun r2 =>
  some (mk0 r2.1)
def Fr.m (n : Nat) (t : (LI × LI)) : Option LI := Fr.g (fun a0 => a0) n t.1 t.2
def Fr.pat : List AV → Blks → Option (LI × LI)
 | [(.ints .u64 4 a0), (.ints .u64 4 a1)], [] => some (a0, a1)
 | _, _ => none
def Fr.shape (t : (LI × LI)) : List AV × Blks := ([(.ints .u64 4 t.1), (.ints .u64 4 t.2)], [])
def Fr.res : LI → AV × Blks
 | u => ((.ints .u64 8 u), [])
def Fr.resK {R : Type} (u : LI) (K : AV → Blks → Option R) : Option R := K (Fr.res u).1 (Fr.res u).2
def Fr.c (n : Nat) : Abs.Callee := .mk' [] [none, none] Fr.pat (Fr.m n) Fr.resK
end
end
section
noncomputable abbrev Fr.R0 (n : Nat) := roundOf (Fr.C n) (Fr.A n) n Fr.b0
noncomputable abbrev Fr.R1 (n : Nat) := roundOf (Fr.C n) (Fr.A n) n Fr.b1
theorem Fr.l7_0.rmap {α β : Type} (h : β → α) (mk0 : Int → Int → Int → LI → LI → LI → LI → β) (n : Nat) (f : Int → Int → Int → Int → LI → LI → LI → LI → Option β)  (x0 : Int) (x1 : Int) (x2 : Int) (x3 : Int) (x4 : LI) (x5 : LI) (x6 : LI) (x7 : LI) : Fr.l7_0.r (fun a0 a1 a2 a3 a4 a5 a6 => (h (mk0 a0 a1 a2 a3 a4 a5 a6))) n (fun y0 y1 y2 y3 y4 y5 y6 y7 => (f y0 y1 y2 y3 y4 y5 y6 y7).map h) x0 x1 x2 x3 x4 x5 x6 x7 = (Fr.l7_0.r mk0 n f x0 x1 x2 x3 x4 x5 x6 x7).map h := by
  unfold Fr.l7_0.r
  exact (ite_map (ite_map (ite_map (ite_map (ite_map (bindO_map fun r14 => (bindO_map fun r16 => (ite_map (ite_map (bindO_map fun r22 => (ite_map (ite_map rfl rfl) rfl)) rfl) rfl))) rfl) rfl) rfl) rfl) rfl)
theorem Fr.l7_0.gmap {α β : Type} (h : β → α) (mk0 : Int → Int → Int → LI → LI → LI → LI → β) (n : Nat) : ∀ (m : Nat) (x0 : Int) (x1 : Int) (x2 : Int) (x3 : Int) (x4 : LI) (x5 : LI) (x6 : LI) (x7 : LI), Fr.l7_0.g (fun a0 a1 a2 a3 a4 a5 a6 => (h (mk0 a0 a1 a2 a3 a4 a5 a6))) n m x0 x1 x2 x3 x4 x5 x6 x7 = (Fr.l7_0.g mk0 n m x0 x1 x2 x3 x4 x5 x6 x7).map h
  | 0, _, _, _, _, _, _, _, _ => rfl
  | m + 1, x0, x1, x2, x3, x4, x5, x6, x7 => by
    unfold Fr.l7_0.g
    rw [← Fr.l7_0.rmap]
    congr
    · funext y0 y1 y2 y3 y4 y5 y6 y7; exact Fr.l7_0.gmap h mk0 n m y0 y1 y2 y3 y4 y5 y6 y7
theorem Fr.l7_0.pat_shape : ∀ st t, Fr.l7_0.pat st = some t → st = Fr.l7_0.shape t := fun _ _ h => by unfold Fr.l7_0.pat at h; split at h <;> cases h; rfl
def Fr.l7_0.k0 : Int → Int → Int → LI → LI → LI → LI → Ex × St := (fun a0 a1 a2 a3 a4 a5 a6 => (((.exit 2), (St.mk [(.int .i64 a0), (.int .u64 a1), (.ptr 0 []), (.int .i64 a2), (.ptr 1 []), (.ptr 2 []), (.ptr 3 [])] [(some (.var (.ints .u64 8 a3))), (some (.var (.ints .u64 4 a4))), (some (.var (.ints .u64 4 a5))), (some (.var (.ints .u64 8 a6)))])) : Ex × St))
theorem Fr.l7_0.round (n : Nat) (rc : St → Option (Ex × St)) (x0 : Int) (x1 : Int) (x2 : Int) (x3 : Int) (x4 : LI) (x5 : LI) (x6 : LI) (x7 : LI) : Fr.R1 n rc ((St.mk [(.int .i64 x0), (.int .i64 x1), (.ptr 0 []), (.ptr 1 []), (.int .u64 x2), (.ptr 2 []), (.int .i64 x3), (.ptr 3 [])] [(some (.var (.ints .u64 4 x4))), (some (.var (.ints .u64 4 x5))), (some (.var (.ints .u64 8 x6))), (some (.var (.ints .u64 8 x7)))])) = Fr.l7_0.r Fr.l7_0.k0 n (fun y0 y1 y2 y3 y4 y5 y6 y7 => rc ((St.mk [(.int .i64 y0), (.int .i64 y1), (.ptr 0 []), (.ptr 1 []), (.int .u64 y2), (.ptr 2 []), (.int .i64 y3), (.ptr 3 [])] [(some (.var (.ints .u64 4 y4))), (some (.var (.ints .u64 4 y5))), (some (.var (.ints .u64 8 y6))), (some (.var (.ints .u64 8 y7)))]))) x0 x1 x2 x3 x4 x5 x6 x7 := by kernel_rfl
theorem Fr.l7_0.loop' (n : Nat) : ∀ (m : Nat) (t : (Int × (Int × (Int × (Int × (LI × (LI × (LI × LI)))))))), loopOf (Fr.R1 n) m (Fr.l7_0.shape t) = Fr.l7_0.g Fr.l7_0.k0 n m t.1 t.2.1 t.2.2.1 t.2.2.2.1 t.2.2.2.2.1 t.2.2.2.2.2.1 t.2.2.2.2.2.2.1 t.2.2.2.2.2.2.2 :=
  loop_of_round (shape := Fr.l7_0.shape) (body := Fr.R1 n) (g := fun m t => Fr.l7_0.g Fr.l7_0.k0 n m t.1 t.2.1 t.2.2.1 t.2.2.2.1 t.2.2.2.2.1 t.2.2.2.2.2.1 t.2.2.2.2.2.2.1 t.2.2.2.2.2.2.2) (fun t => rfl)
    fun m t ih => (Fr.l7_0.round n (loopOf (Fr.R1 n) m) t.1 t.2.1 t.2.2.1 t.2.2.2.1 t.2.2.2.2.1 t.2.2.2.2.2.1 t.2.2.2.2.2.2.1 t.2.2.2.2.2.2.2).trans (congrFun (congrFun (congrFun (congrFun (congrFun (congrFun (congrFun (congrFun (congrArg (Fr.l7_0.r Fr.l7_0.k0 n) (funext fun y0 => funext fun y1 => funext fun y2 => funext fun y3 => funext fun y4 => funext fun y5 => funext fun y6 => funext fun y7 => ih (y0, y1, y2, y3, y4, y5, y6, y7))) t.1) t.2.1) t.2.2.1) t.2.2.2.1) t.2.2.2.2.1) t.2.2.2.2.2.1) t.2.2.2.2.2.2.1) t.2.2.2.2.2.2.2)
theorem Fr.l7_0.loop (n m : Nat) (t : (Int × (Int × (Int × (Int × (LI × (LI × (LI × LI)))))))) : loopOf (Fr.R1 n) m (Fr.l7_0.shape t) = (Fr.l7_0.m n m t).map Fr.l7_0.res :=
  (Fr.l7_0.loop' n m t).trans (Fr.l7_0.gmap Fr.l7_0.res (fun a0 a1 a2 a3 a4 a5 a6 => (a0, a1, a2, a3, a4, a5, a6)) n m t.1 t.2.1 t.2.2.1 t.2.2.2.1 t.2.2.2.2.1 t.2.2.2.2.2.1 t.2.2.2.2.2.2.1 t.2.2.2.2.2.2.2)
theorem Fr.l3_0.rmap {α β : Type} (h : β → α) (mk0 : LI → LI → β) (n : Nat) (f : Int → LI → LI → LI → LI → Option β)  (x0 : Int) (x1 : LI) (x2 : LI) (x3 : LI) (x4 : LI) : Fr.l3_0.r (fun a0 a1 => (h (mk0 a0 a1))) n (fun y0 y1 y2 y3 y4 => (f y0 y1 y2 y3 y4).map h) x0 x1 x2 x3 x4 = (Fr.l3_0.r mk0 n f x0 x1 x2 x3 x4).map h := by
  unfold Fr.l3_0.r
  exact (ite_map (bindO_map fun r6 => (ite_map (ite_map rfl rfl) rfl)) rfl)
theorem Fr.l3_0.gmap {α β : Type} (h : β → α) (mk0 : LI → LI → β) (n : Nat) : ∀ (m : Nat) (x0 : Int) (x1 : LI) (x2 : LI) (x3 : LI) (x4 : LI), Fr.l3_0.g (fun a0 a1 => (h (mk0 a0 a1))) n m x0 x1 x2 x3 x4 = (Fr.l3_0.g mk0 n m x0 x1 x2 x3 x4).map h
  | 0, _, _, _, _, _ => rfl
  | m + 1, x0, x1, x2, x3, x4 => by
    unfold Fr.l3_0.g
    rw [← Fr.l3_0.rmap]
    congr
    · funext y0 y1 y2 y3 y4; exact Fr.l3_0.gmap h mk0 n m y0 y1 y2 y3 y4
theorem Fr.l3_0.pat_shape : ∀ st t, Fr.l3_0.pat st = some t → st = Fr.l3_0.shape t := fun _ _ h => by unfold Fr.l3_0.pat at h; split at h <;> cases h; rfl
def Fr.l3_0.k0 : LI → LI → Ex × St := (fun a0 a1 => (((.exit 0), (St.mk [(.ptr 0 []), (.ptr 1 [])] [(some (.var (.ints .u64 8 a0))), (some (.var (.ints .u64 8 a1)))])) : Ex × St))
theorem Fr.l3_0.round (n : Nat) (rc : St → Option (Ex × St)) (x0 : Int) (x1 : LI) (x2 : LI) (x3 : LI) (x4 : LI) : Fr.R0 n rc ((St.mk [(.int .i64 x0), (.ptr 0 []), (.ptr 1 []), (.ptr 2 []), (.ptr 3 [])] [(some (.var (.ints .u64 4 x1))), (some (.var (.ints .u64 4 x2))), (some (.var (.ints .u64 8 x3))), (some (.var (.ints .u64 8 x4)))])) = Fr.l3_0.r Fr.l3_0.k0 n (fun y0 y1 y2 y3 y4 => rc ((St.mk [(.int .i64 y0), (.ptr 0 []), (.ptr 1 []), (.ptr 2 []), (.ptr 3 [])] [(some (.var (.ints .u64 4 y1))), (some (.var (.ints .u64 4 y2))), (some (.var (.ints .u64 8 y3))), (some (.var (.ints .u64 8 y4)))]))) x0 x1 x2 x3 x4 := by kernel_rfl
theorem Fr.l3_0.loop' (n : Nat) : ∀ (m : Nat) (t : (Int × (LI × (LI × (LI × LI))))), loopOf (Fr.R0 n) m (Fr.l3_0.shape t) = Fr.l3_0.g Fr.l3_0.k0 n m t.1 t.2.1 t.2.2.1 t.2.2.2.1 t.2.2.2.2 :=
  loop_of_round (shape := Fr.l3_0.shape) (body := Fr.R0 n) (g := fun m t => Fr.l3_0.g Fr.l3_0.k0 n m t.1 t.2.1 t.2.2.1 t.2.2.2.1 t.2.2.2.2) (fun t => rfl)
    fun m t ih => (Fr.l3_0.round n (loopOf (Fr.R0 n) m) t.1 t.2.1 t.2.2.1 t.2.2.2.1 t.2.2.2.2).trans (congrFun (congrFun (congrFun (congrFun (congrFun (congrArg (Fr.l3_0.r Fr.l3_0.k0 n) (funext fun y0 => funext fun y1 => funext fun y2 => funext fun y3 => funext fun y4 => ih (y0, y1, y2, y3, y4))) t.1) t.2.1) t.2.2.1) t.2.2.2.1) t.2.2.2.2)
theorem Fr.l3_0.loop (n m : Nat) (t : (Int × (LI × (LI × (LI × LI))))) : loopOf (Fr.R0 n) m (Fr.l3_0.shape t) = (Fr.l3_0.m n m t).map Fr.l3_0.res :=
  (Fr.l3_0.loop' n m t).trans (Fr.l3_0.gmap Fr.l3_0.res (fun a0 a1 => (a0, a1)) n m t.1 t.2.1 t.2.2.1 t.2.2.2.1 t.2.2.2.2)
theorem Fr.gmap {α β : Type} (h : β → α) (mk0 : LI → β) (n : Nat) (a0 : LI) (a1 : LI) : Fr.g (fun a0 => (h (mk0 a0))) n a0 a1 = (Fr.g mk0 n a0 a1).map h := by
  unfold Fr.g
  exact (bindO_map fun r2 => rfl)
theorem Fr.run (n : Nat) (a0 : LI) (a1 : LI) : runF (Fr.C n) (Fr.A n) n Tryd.f102 [(.ints .u64 4 a0), (.ints .u64 4 a1)] [] (fun v o => some (v, o)) = Fr.g (fun a0 => (((.ints .u64 8 a0), []) : AV × Blks)) n a0 a1 := by kernel_rfl
theorem Fr.call (hmix : Tryd.prog.follows .mixedOrders = true) (n : Nat) (t : (LI × LI)) (u) (h : Fr.m n t = some u) : FnC Tryd.prog abiG 102 (Fr.shape t).1 (Fr.shape t).2 (Fr.res u).1 (Fr.res u).2 :=
  fnC1 (C := Fr.C n) (A := Fr.A n) (fn := Tryd.f102) rfl (.cons (Fat.s hmix n) (.cons (Fas.s hmix n) .nil)) hmix Tryd.func102 (by kernel_rfl) (lp := [Fr.b0, Fr.b1]) (by kernel_rfl) (.cons (show (Fr.A n).loop (key Fr.b0) = some (.mk' Fr.l3_0.pat (Fr.l3_0.m n n) Fr.l3_0.resK) by kernel_rfl) (LoopS.of (res := Fr.l3_0.res) (fun R u K => rfl) Fr.l3_0.pat_shape fun t => Fr.l3_0.loop n n t)
  (.cons (show (Fr.A n).loop (key Fr.b1) = some (.mk' Fr.l7_0.pat (Fr.l7_0.m n n) Fr.l7_0.resK) by kernel_rfl) (LoopS.of (res := Fr.l7_0.res) (fun R u K => rfl) Fr.l7_0.pat_shape fun t => Fr.l7_0.loop n n t)
  .nil))
  (nj rfl) (by decide) rfl rfl (by show 2 ≤ Tryd.f102.ntmps; decide) (Fr.run n t.1 t.2) (Fr.gmap Fr.res (fun a0 => a0) n t.1 t.2) h
theorem Fr.s (hmix : Tryd.prog.follows .mixedOrders = true) (n : Nat) : CalleeS Tryd.prog abiG 102 (Fr.c n) :=
  .mk1 (res := Fr.res) (shape := Fr.shape) (fun R u K => rfl) (fun _ _ _ h => by unfold Fr.pat at h; split at h <;> cases h; rfl) (fun t u h => Fr.call hmix n t u h) Tryd.func102 (by decide) (by kernel_rfl)
end
section
noncomputable section
noncomputable def Fbv.C (n : Nat) : Ctx := ⟨Tryd.prog, abiG, lookC [(102, Fr.c n)], fun _ => false⟩
noncomputable def Fbv.A (n : Nat) : Ann := ⟨Tryd.f84.ntmps, 0, noNL, [], [none, none], fun k => match k with
 | _ => none, noNL, lookJ []⟩
def Fbv.g {α : Type} (mk0 : LI → Bool → α) (n : Nat) (a0 : LI) (a1 : LI) : Option α :=
 bindO (Fr.m n (a0, a1)) fun r2 =>
  some (mk0 (List.take 4 (List.drop 0 r2)) ((ibits BinOp.or .u64 (ibits BinOp.or .u64 (ibits BinOp.or .u64 (List.getD r2 4 0) (List.getD r2 5 0)) (List.getD r2 6 0)) (List.getD r2 7 0)) != 0))
def Fbv.m (n : Nat) (t : (LI × LI)) : Option (LI × Bool) := Fbv.g (fun a0 a1 => (a0, a1)) n t.1 t.2
def Fbv.pat : List AV → Blks → Option (LI × LI)
 | [(.ints .u64 4 a0), (.ints .u64 4 a1)], [] => some (a0, a1)
 | _, _ => none
def Fbv.shape (t : (LI × LI)) : List AV × Blks := ([(.ints .u64 4 t.1), (.ints .u64 4 t.2)], [])
def Fbv.res : (LI × Bool) → AV × Blks
 | u => ((.tup [(.ints .u64 4 u.1), (.bool u.2)]), [])
def Fbv.resK {R : Type} (u : (LI × Bool)) (K : AV → Blks → Option R) : Option R := K (Fbv.res u).1 (Fbv.res u).2
def Fbv.c (n : Nat) : Abs.Callee := .mk' [] [none, none] Fbv.pat (Fbv.m n) Fbv.resK
end
end
section
theorem Fbv.gmap {α β : Type} (h : β → α) (mk0 : LI → Bool → β) (n : Nat) (a0 : LI) (a1 : LI) : Fbv.g (fun a0 a1 => (h (mk0 a0 a1))) n a0 a1 = (Fbv.g mk0 n a0 a1).map h := by
  unfold Fbv.g
  exact (bindO_map fun r2 => rfl)
theorem Fbv.run (n : Nat) (a0 : LI) (a1 : LI) : runF (Fbv.C n) (Fbv.A n) n Tryd.f84 [(.ints .u64 4 a0), (.ints .u64 4 a1)] [] (fun v o => some (v, o)) = Fbv.g (fun a0 a1 => (((.tup [(.ints .u64 4 a0), (.bool a1)]), []) : AV × Blks)) n a0 a1 := by kernel_rfl
theorem Fbv.call (hmix : Tryd.prog.follows .mixedOrders = true) (n : Nat) (t : (LI × LI)) (u) (h : Fbv.m n t = some u) : FnC Tryd.prog abiG 84 (Fbv.shape t).1 (Fbv.shape t).2 (Fbv.res u).1 (Fbv.res u).2 :=
  fnC1 (C := Fbv.C n) (A := Fbv.A n) (fn := Tryd.f84) rfl (.cons (Fr.s hmix n) .nil) hmix Tryd.func84 (by kernel_rfl) (lp := []) (by kernel_rfl) .nil
  (nj rfl) (by decide) rfl rfl (by show 2 ≤ Tryd.f84.ntmps; decide) (Fbv.run n t.1 t.2) (Fbv.gmap Fbv.res (fun a0 a1 => (a0, a1)) n t.1 t.2) h
theorem Fbv.s (hmix : Tryd.prog.follows .mixedOrders = true) (n : Nat) : CalleeS Tryd.prog abiG 84 (Fbv.c n) :=
  .mk1 (res := Fbv.res) (shape := Fbv.shape) (fun R u K => rfl) (fun _ _ _ h => by unfold Fbv.pat at h; split at h <;> cases h; rfl) (fun t u h => Fbv.call hmix n t u h) Tryd.func84 (by decide) (by kernel_rfl)
end
section
noncomputable section
noncomputable def Fbg.C (n : Nat) : Ctx := ⟨Tryd.prog, abiG, lookC [], fun _ => false⟩
noncomputable def Fbg.A (n : Nat) : Ann := ⟨Tryd.f64.ntmps, 0, noNL, [], [none, none], fun k => match k with
 | _ => none, noNL, lookJ []⟩
def Fbg.g {α : Type} (mk0 : Int → Bool → α) (n : Nat) (a0 : LI) : Option α :=
 if ((List.getD a0 1 0) != 0) = true then
  some (mk0 0 false)
 else
  if ((List.getD a0 2 0) != 0) = true then
   some (mk0 0 false)
  else
   if ((List.getD a0 3 0) != 0) = true then
    some (mk0 0 false)
   else
    some (mk0 (List.getD a0 0 0) true)
def Fbg.m (n : Nat) (t : LI) : Option (Int × Bool) := Fbg.g (fun a0 a1 => (a0, a1)) n t
def Fbg.pat : List AV → Blks → Option LI
 | [(.ints .u64 4 a0)], [] => some a0
 | _, _ => none
def Fbg.shape (t : LI) : List AV × Blks := ([(.ints .u64 4 t)], [])
def Fbg.res : (Int × Bool) → AV × Blks
 | u => ((.tup [(.int .u64 u.1), (.bool u.2)]), [])
def Fbg.resK {R : Type} (u : (Int × Bool)) (K : AV → Blks → Option R) : Option R := K (Fbg.res u).1 (Fbg.res u).2
def Fbg.c (n : Nat) : Abs.Callee := .mk' [] [none] Fbg.pat (Fbg.m n) Fbg.resK
end
end
section
noncomputable section
noncomputable def Fcn.C (n : Nat) : Ctx := ⟨Tryd.prog, abiG, lookC [(64, Fbg.c n)], fun _ => false⟩
noncomputable def Fcn.A (n : Nat) : Ann := ⟨Tryd.f115.ntmps, 0, noNL, [], [none], fun k => match k with
 | _ => none, noNL, lookJ []⟩
def Fcn.g {α : Type} (mk0 : Int → α) (n : Nat) (a0 : LI) : Option α :=
 bindO (Fbg.m n a0) fun r2 =>
  if (!r2.2) = true then
   some (mk0 256)
  else
   if (decide (r2.1 > 256)) = true then
    some (mk0 256)
   else
    some (mk0 (IntKind.wrap .i64 r2.1))
def Fcn.m (n : Nat) (t : LI) : Option Int := Fcn.g (fun a0 => a0) n t
def Fcn.pat : List AV → Blks → Option LI
 | [(.ints .u64 4 a0)], [] => some a0
 | _, _ => none
def Fcn.shape (t : LI) : List AV × Blks := ([(.ints .u64 4 t)], [])
def Fcn.res : Int → AV × Blks
 | u => ((.int .i64 u), [])
def Fcn.resK {R : Type} (u : Int) (K : AV → Blks → Option R) : Option R := K (Fcn.res u).1 (Fcn.res u).2
def Fcn.c (n : Nat) : Abs.Callee := .mk' [] [none] Fcn.pat (Fcn.m n) Fcn.resK
end
end
section
noncomputable section
noncomputable def Fbw.C (n : Nat) : Ctx := ⟨Tryd.prog, abiG, lookC [], fun _ => false⟩
noncomputable def Fbw.A (n : Nat) : Ann := ⟨Tryd.f129.ntmps, 0, noNL, [], [none], fun k => match k with
 | _ => none, noNL, lookJ []⟩
def Fbw.g {α : Type} (mk0 : LI → α) (n : Nat) (a0 : LI) (a1 : Int) (a2 : Bool) : Option α :=
 if 0 ≤ (IntKind.wrap .u64 (Int.tmod a1 64)) then
  if a2 = true then
   if 0 ≤ (IntKind.wrap .i64 (Int.tdiv a1 64)) then
    if (IntKind.wrap .i64 (Int.tdiv a1 64)) < 4 then
     if 0 ≤ (IntKind.wrap .i64 (Int.tdiv a1 64)) then
      if (IntKind.wrap .i64 (Int.tdiv a1 64)) < 4 then
       some (mk0 (List.set a0 (Int.toNat (IntKind.wrap .i64 (Int.tdiv a1 64))) (ibits BinOp.or .u64 (List.getD a0 (Int.toNat (IntKind.wrap .i64 (Int.tdiv a1 64))) 0) (ishl .u64 1 (IntKind.wrap .u64 (Int.tmod a1 64))))))
      else
       none
     else
      none
    else
     none
   else
    none
  else
   if 0 ≤ (IntKind.wrap .i64 (Int.tdiv a1 64)) then
    if (IntKind.wrap .i64 (Int.tdiv a1 64)) < 4 then
     if 0 ≤ (IntKind.wrap .i64 (Int.tdiv a1 64)) then
      if (IntKind.wrap .i64 (Int.tdiv a1 64)) < 4 then
       some (mk0 (List.set a0 (Int.toNat (IntKind.wrap .i64 (Int.tdiv a1 64))) (ibits BinOp.andNot .u64 (List.getD a0 (Int.toNat (IntKind.wrap .i64 (Int.tdiv a1 64))) 0) (ishl .u64 1 (IntKind.wrap .u64 (Int.tmod a1 64))))))
      else
       none
     else
      none
    else
     none
   else
    none
 else
  none
def Fbw.m (n : Nat) (t : (LI × (Int × Bool))) : Option LI := Fbw.g (fun a0 => a0) n t.1 t.2.1 t.2.2
def Fbw.pat : List AV → Blks → Option (LI × (Int × Bool))
 | [(.ints .u64 4 a0), (.int .i64 a1), (.bool a2)], [] => some (a0, a1, a2)
 | _, _ => none
def Fbw.shape (t : (LI × (Int × Bool))) : List AV × Blks := ([(.ints .u64 4 t.1), (.int .i64 t.2.1), (.bool t.2.2)], [])
def Fbw.res : LI → AV × Blks
 | u => ((.ints .u64 4 u), [])
def Fbw.resK {R : Type} (u : LI) (K : AV → Blks → Option R) : Option R := K (Fbw.res u).1 (Fbw.res u).2
def Fbw.c (n : Nat) : Abs.Callee := .mk' [] [none, none, none] Fbw.pat (Fbw.m n) Fbw.resK
end
end
