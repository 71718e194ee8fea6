/- What the program's functions compute, as plain functions, each with its proof: the function does just that. Condition: the plain function has an answer. -/
import Derived.Test.YtehhocoldpdijaaDoorAbsH1
import Derived.Test.YtehhocoldpdijaaDoorAbsH6
import Derived.Test.YtehhocoldpdijaaDoorProg
import Derived.Shelf.RegionOpenPlain
import Derived.WalkKit
import Derived.Lib.Walk
import Derived.Lib.SliceRun
import Derived.OwnWalkIn
import Derived.TacticsInMore
import Derived.RegionIn
import Derived.LoopIn
import Derived.Shelf.RegionOpen
import Derived.Shelf.AbstractIn
import Derived.Calls
import Derived.RangeFuncLeaves
import Derived.Deep.LoopGhost
set_option linter.unusedVariables false
set_option linter.unusedSimpArgs false
set_option maxRecDepth 100000
open Go Go.Abs Go.Proofs
section
namespace Go.Abs
open Go
def kecKeys : List Int := [1, 32898, 9223372036854808714, 9223372039002292224, 32907, 2147483649, 9223372039002292353, 9223372036854808585, 138, 136, 2147516425, 2147483658, 2147516555, 9223372036854775947, 9223372036854808713, 9223372036854808579, 9223372036854808578, 9223372036854775936, 32778, 9223372039002259466, 9223372039002292353, 9223372036854808704, 2147483649, 9223372039002292232]
def kecTo : List Int := [10, 7, 11, 17, 18, 3, 5, 16, 8, 21, 24, 4, 15, 23, 19, 13, 12, 2, 20, 14, 22, 9, 6, 1]
def kecTurns : List Int := [1, 3, 6, 10, 15, 21, 28, 36, 45, 55, 2, 14, 27, 41, 56, 8, 25, 43, 62, 18, 39, 61, 20, 44]
def abiG : Nat → AV := fun g => match g with
  | 0 => .raw (.iface 148 (.agg #[.pointer (some ⟨5, 100, none⟩)]))
  | 1 => .iface 166 .any
  | 2 => .ints .u64 24 kecKeys
  | 3 => .ints .i64 24 kecTo
  | 4 => .ints .i64 24 kecTurns
  | _ => .any
end Go.Abs
end
section
noncomputable section
noncomputable def Fc.C (n : Nat) : Ctx := ⟨Tryd.prog, abiG, lookC [], fun _ => false⟩
noncomputable def Fc.A (n : Nat) : Ann := ⟨Tryd.f130.ntmps, 0, noNL, [], [none], fun k => match k with
 | _ => none, noNL, lookJ []⟩
def Fc.g {α : Type} (mk0 : Int → α) (n : Nat) (a0 : Int) (a1 : Int) : Option α :=
 if 0 ≤ (IntKind.wrap .u64 (64 - (ibits BinOp.and .u64 (IntKind.wrap .u64 a1) 63))) then
  some (mk0 (ibits BinOp.or .u64 (ishl .u64 a0 (ibits BinOp.and .u64 (IntKind.wrap .u64 a1) 63)) (ishr .u64 a0 (IntKind.wrap .u64 (64 - (ibits BinOp.and .u64 (IntKind.wrap .u64 a1) 63))))))
 else
  none
def Fc.m (n : Nat) (t : (Int × Int)) : Option Int := Fc.g (fun a0 => a0) n t.1 t.2
def Fc.pat : List AV → Blks → Option (Int × Int)
 | [(.int .u64 a0), (.int .i64 a1)], [] => some (a0, a1)
 | _, _ => none
def Fc.shape (t : (Int × Int)) : List AV × Blks := ([(.int .u64 t.1), (.int .i64 t.2)], [])
def Fc.res : Int → AV × Blks
 | u => ((.int .u64 u), [])
def Fc.resK {R : Type} (u : Int) (K : AV → Blks → Option R) : Option R := K (Fc.res u).1 (Fc.res u).2
def Fc.c (n : Nat) : Abs.Callee := .mk' [] [none, none] Fc.pat (Fc.m n) Fc.resK
end
end
section
noncomputable section
noncomputable def Fb.C (n : Nat) : Ctx := ⟨Tryd.prog, abiG, lookC [(130, Fc.c n)], fun _ => false⟩
def Fb.live : NL := fun k => match k with
 | 2 => ([7, 6, 2, 0], [0, 2])
 | 7 => ([21, 0, 2], [])
 | _ => ([], [])
def Fb.l2_0.r {α : Type} (mk0 : LI → LI → α) (n : Nat) (rc : Int → LI → LI → Option α)  (x0 : Int) (x1 : LI) (x2 : LI) : Option α :=
  if (decide (x0 < 25)) = true then
   if 0 ≤ x0 then
    if x0 < 25 then
     if 0 ≤ (Int.tmod x0 5) then
      if (Int.tmod x0 5) < 5 then
       if 0 ≤ (Int.tmod x0 5) then
        if (Int.tmod x0 5) < 5 then
         rc (IntKind.wrap .i64 (x0 + 1)) x1 (List.set x2 (Int.toNat (Int.tmod x0 5)) (ibits BinOp.xor .u64 (List.getD x2 (Int.toNat (Int.tmod x0 5)) 0) (List.getD x1 (Int.toNat x0) 0)))
        else
         none
       else
        none
      else
       none
     else
      none
    else
     none
   else
    none
  else
   some (mk0 x1 x2)
def Fb.l2_0.g {α : Type} (mk0 : LI → LI → α) (n : Nat) : Nat → Int → LI → LI → Option α
 | 0, _, _, _ => none
 | m + 1, x0, x1, x2 => Fb.l2_0.r mk0 n (fun y0 y1 y2 => Fb.l2_0.g mk0 n m y0 y1 y2)  x0 x1 x2
def Fb.l2_0.m (n m : Nat) (t : (Int × (LI × LI))) : Option (LI × LI) := Fb.l2_0.g (fun a0 a1 => (a0, a1)) n m t.1 t.2.1 t.2.2
def Fb.l2_0.pat : St → Option (Int × (LI × LI))
 | (St.mk [(.int .i64 x0), (.ptr 0 []), (.ptr 1 []), (.ptr 0 [])] [(some (.var (.ints .u64 25 x1))), (some (.var (.ints .u64 5 x2)))]) => some (x0, x1, x2)
 | _ => none
def Fb.l2_0.shape (t : (Int × (LI × LI))) : St := (St.mk [(.int .i64 t.1), (.ptr 0 []), (.ptr 1 []), (.ptr 0 [])] [(some (.var (.ints .u64 25 t.2.1))), (some (.var (.ints .u64 5 t.2.2)))])
def Fb.l2_0.res : (LI × LI) → Ex × St
 | u => ((.exit 0), (St.mk [(.ptr 0 []), (.ptr 1 [])] [(some (.var (.ints .u64 25 u.1))), (some (.var (.ints .u64 5 u.2)))]))
def Fb.l2_0.resK {R : Type} (u : (LI × LI)) (K : Ex → St → Option R) : Option R := K (Fb.l2_0.res u).1 (Fb.l2_0.res u).2
def Fb.l7_0.r {α : Type} (mk0 : LI → α) (n : Nat) (rc : Int → LI → LI → Option α)  (x0 : Int) (x1 : LI) (x2 : LI) : Option α :=
  if (decide (x0 < 25)) = true then
   if 0 ≤ x0 then
    if x0 < 25 then
     if 0 ≤ (Int.tmod (IntKind.wrap .i64 (x0 + 4)) 5) then
      if (Int.tmod (IntKind.wrap .i64 (x0 + 4)) 5) < 5 then
       if 0 ≤ (Int.tmod (IntKind.wrap .i64 (x0 + 1)) 5) then
        if (Int.tmod (IntKind.wrap .i64 (x0 + 1)) 5) < 5 then
         bindO (Fc.m n ((List.getD x2 (Int.toNat (Int.tmod (IntKind.wrap .i64 (x0 + 1)) 5)) 0), 1)) fun r18 =>
          if 0 ≤ x0 then
           if x0 < 25 then
            rc (IntKind.wrap .i64 (x0 + 1)) (List.set x1 (Int.toNat x0) (ibits BinOp.xor .u64 (List.getD x1 (Int.toNat x0) 0) (ibits BinOp.xor .u64 (List.getD x2 (Int.toNat (Int.tmod (IntKind.wrap .i64 (x0 + 4)) 5)) 0) r18))) x2
           else
            none
          else
           none
        else
         none
       else
        none
      else
       none
     else
      none
    else
     none
   else
    none
  else
   some (mk0 x1)
def Fb.l7_0.g {α : Type} (mk0 : LI → α) (n : Nat) : Nat → Int → LI → LI → Option α
 | 0, _, _, _ => none
 | m + 1, x0, x1, x2 => Fb.l7_0.r mk0 n (fun y0 y1 y2 => Fb.l7_0.g mk0 n m y0 y1 y2)  x0 x1 x2
def Fb.l7_0.m (n m : Nat) (t : (Int × (LI × LI))) : Option LI := Fb.l7_0.g (fun a0 => a0) n m t.1 t.2.1 t.2.2
def Fb.l7_0.pat : St → Option (Int × (LI × LI))
 | (St.mk [(.int .i64 x0), (.ptr 0 []), (.ptr 1 [])] [(some (.var (.ints .u64 25 x1))), (some (.var (.ints .u64 5 x2)))]) => some (x0, x1, x2)
 | _ => none
def Fb.l7_0.shape (t : (Int × (LI × LI))) : St := (St.mk [(.int .i64 t.1), (.ptr 0 []), (.ptr 1 [])] [(some (.var (.ints .u64 25 t.2.1))), (some (.var (.ints .u64 5 t.2.2)))])
def Fb.l7_0.res : LI → Ex × St
 | u => ((.exit 2), (St.mk [] [(some (.var (.ints .u64 25 u)))]))
def Fb.l7_0.resK {R : Type} (u : LI) (K : Ex → St → Option R) : Option R := K (Fb.l7_0.res u).1 (Fb.l7_0.res u).2
noncomputable def Fb.A (n : Nat) : Ann := ⟨Tryd.f124.ntmps, 1, Fb.live, [], [], fun k => match k with
 | 2 => some (.mk' Fb.l2_0.pat (Fb.l2_0.m n n) Fb.l2_0.resK)
 | 7 => some (.mk' Fb.l7_0.pat (Fb.l7_0.m n n) Fb.l7_0.resK)
 | _ => none, noNL, lookJ []⟩
noncomputable def Fb.b0 : Code := (loopsIn (Tryd.f124.body.getD .skip)).getD 0 .skip
noncomputable def Fb.b1 : Code := (loopsIn (Tryd.f124.body.getD .skip)).getD 1 .skip
def Fb.g {α : Type} (mk0 : LI → α) (n : Nat) (s : LI) : Option α :=
 bindO (Fb.l2_0.m n n (0, s, [0, 0, 0, 0, 0])) fun r2 =>
  bindO (Fb.l7_0.m n n (0, r2.1, r2.2)) fun r4 =>
   some (mk0 r4)
def Fb.m (n : Nat) (t : LI) : Option LI := Fb.g (fun a0 => a0) n t
def Fb.pat : List AV → Blks → Option LI
 | [(.ptr 0 [])], [(some (.var (.ints .u64 25 s)))] => some s
 | _, _ => none
def Fb.shape (t : LI) : List AV × Blks := ([(.ptr 0 [])], [(some (.var (.ints .u64 25 t)))])
def Fb.res : LI → AV × Blks
 | u => ((.tup []), [(some (.var (.ints .u64 25 u)))])
def Fb.resK {R : Type} (u : LI) (K : AV → Blks → Option R) : Option R := K (Fb.res u).1 (Fb.res u).2
def Fb.c (n : Nat) : Abs.Callee := .mk' [true] [none] Fb.pat (Fb.m n) Fb.resK
end
end
section
theorem Fc.gmap {α β : Type} (h : β → α) (mk0 : Int → β) (n : Nat) (a0 : Int) (a1 : Int) : Fc.g (fun a0 => (h (mk0 a0))) n a0 a1 = (Fc.g mk0 n a0 a1).map h := by
  unfold Fc.g
  exact (ite_map rfl rfl)
theorem Fc.run (n : Nat) (a0 : Int) (a1 : Int) : runF (Fc.C n) (Fc.A n) n Tryd.f130 [(.int .u64 a0), (.int .i64 a1)] [] (fun v o => some (v, o)) = Fc.g (fun a0 => (((.int .u64 a0), []) : AV × Blks)) n a0 a1 := by kernel_rfl
theorem Fc.call (hmix : Tryd.prog.follows .mixedOrders = true) (n : Nat) (t : (Int × Int)) (u) (h : Fc.m n t = some u) : FnC Tryd.prog abiG 130 (Fc.shape t).1 (Fc.shape t).2 (Fc.res u).1 (Fc.res u).2 :=
  fnC1 (C := Fc.C n) (A := Fc.A n) (fn := Tryd.f130) rfl .nil hmix Tryd.func130 (by kernel_rfl) (lp := []) (by kernel_rfl) .nil
  (nj rfl) (by decide) rfl rfl (by show 2 ≤ Tryd.f130.ntmps; decide) (Fc.run n t.1 t.2) (Fc.gmap Fc.res (fun a0 => a0) n t.1 t.2) h
theorem Fc.s (hmix : Tryd.prog.follows .mixedOrders = true) (n : Nat) : CalleeS Tryd.prog abiG 130 (Fc.c n) :=
  .mk1 (res := Fc.res) (shape := Fc.shape) (fun R u K => rfl) (fun _ _ _ h => by unfold Fc.pat at h; split at h <;> cases h; rfl) (fun t u h => Fc.call hmix n t u h) Tryd.func130 (by decide) (by kernel_rfl)
end
section
noncomputable abbrev Fb.R0 (n : Nat) := roundOf (Fb.C n) (Fb.A n) n Fb.b0
noncomputable abbrev Fb.R1 (n : Nat) := roundOf (Fb.C n) (Fb.A n) n Fb.b1
theorem Fb.l2_0.rmap {α β : Type} (h : β → α) (mk0 : LI → LI → β) (n : Nat) (f : Int → LI → LI → Option β)  (x0 : Int) (x1 : LI) (x2 : LI) : Fb.l2_0.r (fun a0 a1 => (h (mk0 a0 a1))) n (fun y0 y1 y2 => (f y0 y1 y2).map h) x0 x1 x2 = (Fb.l2_0.r mk0 n f x0 x1 x2).map h := by
  unfold Fb.l2_0.r
  exact (ite_map (ite_map (ite_map (ite_map (ite_map (ite_map (ite_map rfl rfl) rfl) rfl) rfl) rfl) rfl) rfl)
theorem Fb.l2_0.gmap {α β : Type} (h : β → α) (mk0 : LI → LI → β) (n : Nat) : ∀ (m : Nat) (x0 : Int) (x1 : LI) (x2 : LI), Fb.l2_0.g (fun a0 a1 => (h (mk0 a0 a1))) n m x0 x1 x2 = (Fb.l2_0.g mk0 n m x0 x1 x2).map h
  | 0, _, _, _ => rfl
  | m + 1, x0, x1, x2 => by
    unfold Fb.l2_0.g
    rw [← Fb.l2_0.rmap]
    congr
    · funext y0 y1 y2; exact Fb.l2_0.gmap h mk0 n m y0 y1 y2
theorem Fb.l2_0.pat_shape : ∀ st t, Fb.l2_0.pat st = some t → st = Fb.l2_0.shape t := fun _ _ h => by unfold Fb.l2_0.pat at h; split at h <;> cases h; rfl
def Fb.l2_0.k0 : LI → LI → Ex × St := (fun a0 a1 => (((.exit 0), (St.mk [(.ptr 0 []), (.ptr 1 [])] [(some (.var (.ints .u64 25 a0))), (some (.var (.ints .u64 5 a1)))])) : Ex × St))
theorem Fb.l2_0.round (n : Nat) (rc : St → Option (Ex × St)) (x0 : Int) (x1 : LI) (x2 : LI) : Fb.R0 n rc ((St.mk [(.int .i64 x0), (.ptr 0 []), (.ptr 1 []), (.ptr 0 [])] [(some (.var (.ints .u64 25 x1))), (some (.var (.ints .u64 5 x2)))])) = Fb.l2_0.r Fb.l2_0.k0 n (fun y0 y1 y2 => rc ((St.mk [(.int .i64 y0), (.ptr 0 []), (.ptr 1 []), (.ptr 0 [])] [(some (.var (.ints .u64 25 y1))), (some (.var (.ints .u64 5 y2)))]))) x0 x1 x2 := by kernel_rfl
theorem Fb.l2_0.loop' (n : Nat) : ∀ (m : Nat) (t : (Int × (LI × LI))), loopOf (Fb.R0 n) m (Fb.l2_0.shape t) = Fb.l2_0.g Fb.l2_0.k0 n m t.1 t.2.1 t.2.2 :=
  loop_of_round (shape := Fb.l2_0.shape) (body := Fb.R0 n) (g := fun m t => Fb.l2_0.g Fb.l2_0.k0 n m t.1 t.2.1 t.2.2) (fun t => rfl)
    fun m t ih => (Fb.l2_0.round n (loopOf (Fb.R0 n) m) t.1 t.2.1 t.2.2).trans (congrFun (congrFun (congrFun (congrArg (Fb.l2_0.r Fb.l2_0.k0 n) (funext fun y0 => funext fun y1 => funext fun y2 => ih (y0, y1, y2))) t.1) t.2.1) t.2.2)
theorem Fb.l2_0.loop (n m : Nat) (t : (Int × (LI × LI))) : loopOf (Fb.R0 n) m (Fb.l2_0.shape t) = (Fb.l2_0.m n m t).map Fb.l2_0.res :=
  (Fb.l2_0.loop' n m t).trans (Fb.l2_0.gmap Fb.l2_0.res (fun a0 a1 => (a0, a1)) n m t.1 t.2.1 t.2.2)
theorem Fb.l7_0.rmap {α β : Type} (h : β → α) (mk0 : LI → β) (n : Nat) (f : Int → LI → LI → Option β)  (x0 : Int) (x1 : LI) (x2 : LI) : Fb.l7_0.r (fun a0 => (h (mk0 a0))) n (fun y0 y1 y2 => (f y0 y1 y2).map h) x0 x1 x2 = (Fb.l7_0.r mk0 n f x0 x1 x2).map h := by
  unfold Fb.l7_0.r
  exact (ite_map (ite_map (ite_map (ite_map (ite_map (ite_map (ite_map (bindO_map fun r18 => (ite_map (ite_map rfl rfl) rfl)) rfl) rfl) rfl) rfl) rfl) rfl) rfl)
theorem Fb.l7_0.gmap {α β : Type} (h : β → α) (mk0 : LI → β) (n : Nat) : ∀ (m : Nat) (x0 : Int) (x1 : LI) (x2 : LI), Fb.l7_0.g (fun a0 => (h (mk0 a0))) n m x0 x1 x2 = (Fb.l7_0.g mk0 n m x0 x1 x2).map h
  | 0, _, _, _ => rfl
  | m + 1, x0, x1, x2 => by
    unfold Fb.l7_0.g
    rw [← Fb.l7_0.rmap]
    congr
    · funext y0 y1 y2; exact Fb.l7_0.gmap h mk0 n m y0 y1 y2
theorem Fb.l7_0.pat_shape : ∀ st t, Fb.l7_0.pat st = some t → st = Fb.l7_0.shape t := fun _ _ h => by unfold Fb.l7_0.pat at h; split at h <;> cases h; rfl
def Fb.l7_0.k0 : LI → Ex × St := (fun a0 => (((.exit 2), (St.mk [] [(some (.var (.ints .u64 25 a0)))])) : Ex × St))
theorem Fb.l7_0.round (n : Nat) (rc : St → Option (Ex × St)) (x0 : Int) (x1 : LI) (x2 : LI) : Fb.R1 n rc ((St.mk [(.int .i64 x0), (.ptr 0 []), (.ptr 1 [])] [(some (.var (.ints .u64 25 x1))), (some (.var (.ints .u64 5 x2)))])) = Fb.l7_0.r Fb.l7_0.k0 n (fun y0 y1 y2 => rc ((St.mk [(.int .i64 y0), (.ptr 0 []), (.ptr 1 [])] [(some (.var (.ints .u64 25 y1))), (some (.var (.ints .u64 5 y2)))]))) x0 x1 x2 := by kernel_rfl
theorem Fb.l7_0.loop' (n : Nat) : ∀ (m : Nat) (t : (Int × (LI × LI))), loopOf (Fb.R1 n) m (Fb.l7_0.shape t) = Fb.l7_0.g Fb.l7_0.k0 n m t.1 t.2.1 t.2.2 :=
  loop_of_round (shape := Fb.l7_0.shape) (body := Fb.R1 n) (g := fun m t => Fb.l7_0.g Fb.l7_0.k0 n m t.1 t.2.1 t.2.2) (fun t => rfl)
    fun m t ih => (Fb.l7_0.round n (loopOf (Fb.R1 n) m) t.1 t.2.1 t.2.2).trans (congrFun (congrFun (congrFun (congrArg (Fb.l7_0.r Fb.l7_0.k0 n) (funext fun y0 => funext fun y1 => funext fun y2 => ih (y0, y1, y2))) t.1) t.2.1) t.2.2)
theorem Fb.l7_0.loop (n m : Nat) (t : (Int × (LI × LI))) : loopOf (Fb.R1 n) m (Fb.l7_0.shape t) = (Fb.l7_0.m n m t).map Fb.l7_0.res :=
  (Fb.l7_0.loop' n m t).trans (Fb.l7_0.gmap Fb.l7_0.res (fun a0 => a0) n m t.1 t.2.1 t.2.2)
theorem Fb.gmap {α β : Type} (h : β → α) (mk0 : LI → β) (n : Nat) (s : LI) : Fb.g (fun a0 => (h (mk0 a0))) n s = (Fb.g mk0 n s).map h := by
  unfold Fb.g
  exact (bindO_map fun r2 => (bindO_map fun r4 => rfl))
theorem Fb.run (n : Nat) (s : LI) : runF (Fb.C n) (Fb.A n) n Tryd.f124 [(.ptr 0 [])] [(some (.var (.ints .u64 25 s)))] (fun v o => some (v, o)) = Fb.g (fun a0 => (((.tup []), [(some (.var (.ints .u64 25 a0)))]) : AV × Blks)) n s := by kernel_rfl
theorem Fb.call (hmix : Tryd.prog.follows .mixedOrders = true) (n : Nat) (t : LI) (u) (h : Fb.m n t = some u) : FnC Tryd.prog abiG 124 (Fb.shape t).1 (Fb.shape t).2 (Fb.res u).1 (Fb.res u).2 :=
  fnC1 (C := Fb.C n) (A := Fb.A n) (fn := Tryd.f124) rfl (.cons (Fc.s hmix n) .nil) hmix Tryd.func124 (by kernel_rfl) (lp := [Fb.b0, Fb.b1]) (by kernel_rfl) (.cons (show (Fb.A n).loop (key Fb.b0) = some (.mk' Fb.l2_0.pat (Fb.l2_0.m n n) Fb.l2_0.resK) by kernel_rfl) (LoopS.of (res := Fb.l2_0.res) (fun R u K => rfl) Fb.l2_0.pat_shape fun t => Fb.l2_0.loop n n t)
  (.cons (show (Fb.A n).loop (key Fb.b1) = some (.mk' Fb.l7_0.pat (Fb.l7_0.m n n) Fb.l7_0.resK) by kernel_rfl) (LoopS.of (res := Fb.l7_0.res) (fun R u K => rfl) Fb.l7_0.pat_shape fun t => Fb.l7_0.loop n n t)
  .nil))
  (nj rfl) (by decide) rfl rfl (by show 1 ≤ Tryd.f124.ntmps; decide) (Fb.run n t) (Fb.gmap Fb.res (fun a0 => a0) n t) h
theorem Fb.s (hmix : Tryd.prog.follows .mixedOrders = true) (n : Nat) : CalleeS Tryd.prog abiG 124 (Fb.c n) :=
  .mk1 (res := Fb.res) (shape := Fb.shape) (fun R u K => rfl) (fun _ _ _ h => by unfold Fb.pat at h; split at h <;> cases h; rfl) (fun t u h => Fb.call hmix n t u h) Tryd.func124 (by decide) (by kernel_rfl)
end
section
noncomputable section
noncomputable def Fd.C (n : Nat) : Ctx := ⟨Tryd.prog, abiG, lookC [(130, Fc.c n)], fun _ => false⟩
def Fd.live : NL := fun k => match k with
 | 2 => ([9, 0, 2], [])
 | _ => ([], [])
def Fd.l2_0.r {α : Type} (mk0 : LI → α) (n : Nat) (rc : Int → Int → LI → Option α)  (x0 : Int) (x1 : Int) (x2 : LI) : Option α :=
  if (decide (x0 < 24)) = true then
   if 0 ≤ x0 then
    if x0 < 24 then
     if 0 ≤ (List.getD ([10, 7, 11, 17, 18, 3, 5, 16, 8, 21, 24, 4, 15, 23, 19, 13, 12, 2, 20, 14, 22, 9, 6, 1] : List Int) (Int.toNat x0) 0) then
      if (List.getD ([10, 7, 11, 17, 18, 3, 5, 16, 8, 21, 24, 4, 15, 23, 19, 13, 12, 2, 20, 14, 22, 9, 6, 1] : List Int) (Int.toNat x0) 0) < 25 then
       if 0 ≤ x0 then
        if x0 < 24 then
         if 0 ≤ x0 then
          if x0 < 24 then
           bindO (Fc.m n (x1, (List.getD ([1, 3, 6, 10, 15, 21, 28, 36, 45, 55, 2, 14, 27, 41, 56, 8, 25, 43, 62, 18, 39, 61, 20, 44] : List Int) (Int.toNat x0) 0))) fun r22 =>
            if 0 ≤ (List.getD ([10, 7, 11, 17, 18, 3, 5, 16, 8, 21, 24, 4, 15, 23, 19, 13, 12, 2, 20, 14, 22, 9, 6, 1] : List Int) (Int.toNat x0) 0) then
             if (List.getD ([10, 7, 11, 17, 18, 3, 5, 16, 8, 21, 24, 4, 15, 23, 19, 13, 12, 2, 20, 14, 22, 9, 6, 1] : List Int) (Int.toNat x0) 0) < 25 then
              rc (IntKind.wrap .i64 (x0 + 1)) (List.getD x2 (Int.toNat (List.getD ([10, 7, 11, 17, 18, 3, 5, 16, 8, 21, 24, 4, 15, 23, 19, 13, 12, 2, 20, 14, 22, 9, 6, 1] : List Int) (Int.toNat x0) 0)) 0) (List.set x2 (Int.toNat (List.getD ([10, 7, 11, 17, 18, 3, 5, 16, 8, 21, 24, 4, 15, 23, 19, 13, 12, 2, 20, 14, 22, 9, 6, 1] : List Int) (Int.toNat x0) 0)) r22)
             else
              none
            else
             none
          else
           none
         else
          none
        else
         none
       else
        none
      else
       none
     else
      none
    else
     none
   else
    none
  else
   some (mk0 x2)
def Fd.l2_0.g {α : Type} (mk0 : LI → α) (n : Nat) : Nat → Int → Int → LI → Option α
 | 0, _, _, _ => none
 | m + 1, x0, x1, x2 => Fd.l2_0.r mk0 n (fun y0 y1 y2 => Fd.l2_0.g mk0 n m y0 y1 y2)  x0 x1 x2
def Fd.l2_0.m (n m : Nat) (t : (Int × (Int × LI))) : Option LI := Fd.l2_0.g (fun a0 => a0) n m t.1 t.2.1 t.2.2
def Fd.l2_0.pat : St → Option (Int × (Int × LI))
 | (St.mk [(.int .i64 x0), (.ptr 0 []), (.int .u64 x1)] [(some (.var (.ints .u64 25 x2)))]) => some (x0, x1, x2)
 | _ => none
def Fd.l2_0.shape (t : (Int × (Int × LI))) : St := (St.mk [(.int .i64 t.1), (.ptr 0 []), (.int .u64 t.2.1)] [(some (.var (.ints .u64 25 t.2.2)))])
def Fd.l2_0.res : LI → Ex × St
 | u => ((.exit 0), (St.mk [] [(some (.var (.ints .u64 25 u)))]))
def Fd.l2_0.resK {R : Type} (u : LI) (K : Ex → St → Option R) : Option R := K (Fd.l2_0.res u).1 (Fd.l2_0.res u).2
noncomputable def Fd.A (n : Nat) : Ann := ⟨Tryd.f125.ntmps, 1, Fd.live, [], [], fun k => match k with
 | 2 => some (.mk' Fd.l2_0.pat (Fd.l2_0.m n n) Fd.l2_0.resK)
 | _ => none, noNL, lookJ []⟩
noncomputable def Fd.b0 : Code := (loopsIn (Tryd.f125.body.getD .skip)).getD 0 .skip
def Fd.g {α : Type} (mk0 : LI → α) (n : Nat) (s : LI) : Option α :=
 bindO (Fd.l2_0.m n n (0, (List.getD s 1 0), s)) fun r2 =>
  some (mk0 r2)
def Fd.m (n : Nat) (t : LI) : Option LI := Fd.g (fun a0 => a0) n t
def Fd.pat : List AV → Blks → Option LI
 | [(.ptr 0 [])], [(some (.var (.ints .u64 25 s)))] => some s
 | _, _ => none
def Fd.shape (t : LI) : List AV × Blks := ([(.ptr 0 [])], [(some (.var (.ints .u64 25 t)))])
def Fd.res : LI → AV × Blks
 | u => ((.tup []), [(some (.var (.ints .u64 25 u)))])
def Fd.resK {R : Type} (u : LI) (K : AV → Blks → Option R) : Option R := K (Fd.res u).1 (Fd.res u).2
def Fd.c (n : Nat) : Abs.Callee := .mk' [true] [none] Fd.pat (Fd.m n) Fd.resK
end
end
section
noncomputable abbrev Fd.R0 (n : Nat) := roundOf (Fd.C n) (Fd.A n) n Fd.b0
theorem Fd.l2_0.rmap {α β : Type} (h : β → α) (mk0 : LI → β) (n : Nat) (f : Int → Int → LI → Option β)  (x0 : Int) (x1 : Int) (x2 : LI) : Fd.l2_0.r (fun a0 => (h (mk0 a0))) n (fun y0 y1 y2 => (f y0 y1 y2).map h) x0 x1 x2 = (Fd.l2_0.r mk0 n f x0 x1 x2).map h := by
  unfold Fd.l2_0.r
  exact (ite_map (ite_map (ite_map (ite_map (ite_map (ite_map (ite_map (ite_map (ite_map (bindO_map fun r22 => (ite_map (ite_map rfl rfl) rfl)) rfl) rfl) rfl) rfl) rfl) rfl) rfl) rfl) rfl)
theorem Fd.l2_0.gmap {α β : Type} (h : β → α) (mk0 : LI → β) (n : Nat) : ∀ (m : Nat) (x0 : Int) (x1 : Int) (x2 : LI), Fd.l2_0.g (fun a0 => (h (mk0 a0))) n m x0 x1 x2 = (Fd.l2_0.g mk0 n m x0 x1 x2).map h
  | 0, _, _, _ => rfl
  | m + 1, x0, x1, x2 => by
    unfold Fd.l2_0.g
    rw [← Fd.l2_0.rmap]
    congr
    · funext y0 y1 y2; exact Fd.l2_0.gmap h mk0 n m y0 y1 y2
theorem Fd.l2_0.pat_shape : ∀ st t, Fd.l2_0.pat st = some t → st = Fd.l2_0.shape t := fun _ _ h => by unfold Fd.l2_0.pat at h; split at h <;> cases h; rfl
def Fd.l2_0.k0 : LI → Ex × St := (fun a0 => (((.exit 0), (St.mk [] [(some (.var (.ints .u64 25 a0)))])) : Ex × St))
theorem Fd.l2_0.round (n : Nat) (rc : St → Option (Ex × St)) (x0 : Int) (x1 : Int) (x2 : LI) : Fd.R0 n rc ((St.mk [(.int .i64 x0), (.ptr 0 []), (.int .u64 x1)] [(some (.var (.ints .u64 25 x2)))])) = Fd.l2_0.r Fd.l2_0.k0 n (fun y0 y1 y2 => rc ((St.mk [(.int .i64 y0), (.ptr 0 []), (.int .u64 y1)] [(some (.var (.ints .u64 25 y2)))]))) x0 x1 x2 := by kernel_rfl
theorem Fd.l2_0.loop' (n : Nat) : ∀ (m : Nat) (t : (Int × (Int × LI))), loopOf (Fd.R0 n) m (Fd.l2_0.shape t) = Fd.l2_0.g Fd.l2_0.k0 n m t.1 t.2.1 t.2.2 :=
  loop_of_round (shape := Fd.l2_0.shape) (body := Fd.R0 n) (g := fun m t => Fd.l2_0.g Fd.l2_0.k0 n m t.1 t.2.1 t.2.2) (fun t => rfl)
    fun m t ih => (Fd.l2_0.round n (loopOf (Fd.R0 n) m) t.1 t.2.1 t.2.2).trans (congrFun (congrFun (congrFun (congrArg (Fd.l2_0.r Fd.l2_0.k0 n) (funext fun y0 => funext fun y1 => funext fun y2 => ih (y0, y1, y2))) t.1) t.2.1) t.2.2)
theorem Fd.l2_0.loop (n m : Nat) (t : (Int × (Int × LI))) : loopOf (Fd.R0 n) m (Fd.l2_0.shape t) = (Fd.l2_0.m n m t).map Fd.l2_0.res :=
  (Fd.l2_0.loop' n m t).trans (Fd.l2_0.gmap Fd.l2_0.res (fun a0 => a0) n m t.1 t.2.1 t.2.2)
theorem Fd.gmap {α β : Type} (h : β → α) (mk0 : LI → β) (n : Nat) (s : LI) : Fd.g (fun a0 => (h (mk0 a0))) n s = (Fd.g mk0 n s).map h := by
  unfold Fd.g
  exact (bindO_map fun r2 => rfl)
theorem Fd.run (n : Nat) (s : LI) : runF (Fd.C n) (Fd.A n) n Tryd.f125 [(.ptr 0 [])] [(some (.var (.ints .u64 25 s)))] (fun v o => some (v, o)) = Fd.g (fun a0 => (((.tup []), [(some (.var (.ints .u64 25 a0)))]) : AV × Blks)) n s := by kernel_rfl
theorem Fd.call (hmix : Tryd.prog.follows .mixedOrders = true) (n : Nat) (t : LI) (u) (h : Fd.m n t = some u) : FnC Tryd.prog abiG 125 (Fd.shape t).1 (Fd.shape t).2 (Fd.res u).1 (Fd.res u).2 :=
  fnC1 (C := Fd.C n) (A := Fd.A n) (fn := Tryd.f125) rfl (.cons (Fc.s hmix n) .nil) hmix Tryd.func125 (by kernel_rfl) (lp := [Fd.b0]) (by kernel_rfl) (.cons (show (Fd.A n).loop (key Fd.b0) = some (.mk' Fd.l2_0.pat (Fd.l2_0.m n n) Fd.l2_0.resK) by kernel_rfl) (LoopS.of (res := Fd.l2_0.res) (fun R u K => rfl) Fd.l2_0.pat_shape fun t => Fd.l2_0.loop n n t)
  .nil)
  (nj rfl) (by decide) rfl rfl (by show 1 ≤ Tryd.f125.ntmps; decide) (Fd.run n t) (Fd.gmap Fd.res (fun a0 => a0) n t) h
theorem Fd.s (hmix : Tryd.prog.follows .mixedOrders = true) (n : Nat) : CalleeS Tryd.prog abiG 125 (Fd.c n) :=
  .mk1 (res := Fd.res) (shape := Fd.shape) (fun R u K => rfl) (fun _ _ _ h => by unfold Fd.pat at h; split at h <;> cases h; rfl) (fun t u h => Fd.call hmix n t u h) Tryd.func125 (by decide) (by kernel_rfl)
end
section
noncomputable section
noncomputable def Ff.C (n : Nat) : Ctx := ⟨Tryd.prog, abiG, lookC [], fun _ => false⟩
def Ff.live : NL := fun k => match k with
 | 1 => ([2, 0], [])
 | 5 => ([17, 0, 2, 3], [2, 0])
 | _ => ([], [])
def Ff.l5_0.r {α : Type} (mk0 : Int → LI → α) (n : Nat) (rc : Int → Int → LI → LI → Option α)  (x0 : Int) (x1 : Int) (x2 : LI) (x3 : LI) : Option α :=
  if (decide (x0 < 5)) = true then
   if 0 ≤ x0 then
    if x0 < 5 then
     if 0 ≤ (Int.tmod (IntKind.wrap .i64 (x0 + 1)) 5) then
      if (Int.tmod (IntKind.wrap .i64 (x0 + 1)) 5) < 5 then
       if 0 ≤ (Int.tmod (IntKind.wrap .i64 (x0 + 2)) 5) then
        if (Int.tmod (IntKind.wrap .i64 (x0 + 2)) 5) < 5 then
         if 0 ≤ (IntKind.wrap .i64 (x1 + x0)) then
          if (IntKind.wrap .i64 (x1 + x0)) < 25 then
           rc (IntKind.wrap .i64 (x0 + 1)) x1 (List.set x2 (Int.toNat (IntKind.wrap .i64 (x1 + x0))) (ibits BinOp.xor .u64 (List.getD x3 (Int.toNat x0) 0) (ibits BinOp.and .u64 (ibits BinOp.xor .u64 (if false = true then (-1) else 18446744073709551615) (List.getD x3 (Int.toNat (Int.tmod (IntKind.wrap .i64 (x0 + 1)) 5)) 0)) (List.getD x3 (Int.toNat (Int.tmod (IntKind.wrap .i64 (x0 + 2)) 5)) 0)))) x3
          else
           none
         else
          none
        else
         none
       else
        none
      else
       none
     else
      none
    else
     none
   else
    none
  else
   some (mk0 x1 x2)
def Ff.l5_0.g {α : Type} (mk0 : Int → LI → α) (n : Nat) : Nat → Int → Int → LI → LI → Option α
 | 0, _, _, _, _ => none
 | m + 1, x0, x1, x2, x3 => Ff.l5_0.r mk0 n (fun y0 y1 y2 y3 => Ff.l5_0.g mk0 n m y0 y1 y2 y3)  x0 x1 x2 x3
def Ff.l5_0.m (n m : Nat) (t : (Int × (Int × (LI × LI)))) : Option (Int × LI) := Ff.l5_0.g (fun a0 a1 => (a0, a1)) n m t.1 t.2.1 t.2.2.1 t.2.2.2
def Ff.l5_0.pat : St → Option (Int × (Int × (LI × LI)))
 | (St.mk [(.int .i64 x0), (.ptr 0 []), (.int .i64 x1), (.ptr 1 [])] [(some (.var (.ints .u64 25 x2))), (some (.var (.ints .u64 5 x3)))]) => some (x0, x1, x2, x3)
 | _ => none
def Ff.l5_0.shape (t : (Int × (Int × (LI × LI)))) : St := (St.mk [(.int .i64 t.1), (.ptr 0 []), (.int .i64 t.2.1), (.ptr 1 [])] [(some (.var (.ints .u64 25 t.2.2.1))), (some (.var (.ints .u64 5 t.2.2.2)))])
def Ff.l5_0.res : (Int × LI) → Ex × St
 | u => ((.exit 2), (St.mk [(.int .i64 u.1), (.ptr 0 [])] [(some (.var (.ints .u64 25 u.2)))]))
def Ff.l5_0.resK {R : Type} (u : (Int × LI)) (K : Ex → St → Option R) : Option R := K (Ff.l5_0.res u).1 (Ff.l5_0.res u).2
def Ff.l1_0.r {α : Type} (mk0 : LI → α) (n : Nat) (rc : Int → LI → Option α)  (x0 : Int) (x1 : LI) : Option α :=
  if (decide (x0 < 25)) = true then
   if 0 ≤ (IntKind.wrap .i64 (x0 + 5)) then
    if (IntKind.wrap .i64 (x0 + 5)) ≤ 25 then
     if 0 ≤ x0 then
      if x0 ≤ (IntKind.wrap .i64 (x0 + 5)) then
       if 5 ≤ (Go.Abs.span 25 (Int.toNat x0) (Option.some (Int.toNat (IntKind.wrap .i64 (x0 + 5))))) then
        bindO (Ff.l5_0.m n n (0, x0, x1, (List.take 5 (List.drop (Int.toNat x0) x1)))) fun r16 =>
         rc (IntKind.wrap .i64 (r16.1 + 5)) r16.2
       else
        none
      else
       none
     else
      none
    else
     none
   else
    none
  else
   some (mk0 x1)
def Ff.l1_0.g {α : Type} (mk0 : LI → α) (n : Nat) : Nat → Int → LI → Option α
 | 0, _, _ => none
 | m + 1, x0, x1 => Ff.l1_0.r mk0 n (fun y0 y1 => Ff.l1_0.g mk0 n m y0 y1)  x0 x1
def Ff.l1_0.m (n m : Nat) (t : (Int × LI)) : Option LI := Ff.l1_0.g (fun a0 => a0) n m t.1 t.2
def Ff.l1_0.pat : St → Option (Int × LI)
 | (St.mk [(.int .i64 x0), (.ptr 0 [])] [(some (.var (.ints .u64 25 x1)))]) => some (x0, x1)
 | _ => none
def Ff.l1_0.shape (t : (Int × LI)) : St := (St.mk [(.int .i64 t.1), (.ptr 0 [])] [(some (.var (.ints .u64 25 t.2)))])
def Ff.l1_0.res : LI → Ex × St
 | u => ((.exit 0), (St.mk [] [(some (.var (.ints .u64 25 u)))]))
def Ff.l1_0.resK {R : Type} (u : LI) (K : Ex → St → Option R) : Option R := K (Ff.l1_0.res u).1 (Ff.l1_0.res u).2
noncomputable def Ff.A (n : Nat) : Ann := ⟨Tryd.f126.ntmps, 1, Ff.live, [], [], fun k => match k with
 | 5 => some (.mk' Ff.l5_0.pat (Ff.l5_0.m n n) Ff.l5_0.resK)
 | 1 => some (.mk' Ff.l1_0.pat (Ff.l1_0.m n n) Ff.l1_0.resK)
 | _ => none, noNL, lookJ []⟩
noncomputable def Ff.b0 : Code := (loopsIn (Tryd.f126.body.getD .skip)).getD 0 .skip
noncomputable def Ff.b1 : Code := (loopsIn (Tryd.f126.body.getD .skip)).getD 1 .skip
def Ff.g {α : Type} (mk0 : LI → α) (n : Nat) (s : LI) : Option α :=
 bindO (Ff.l1_0.m n n (0, s)) fun r2 =>
  some (mk0 r2)
def Ff.m (n : Nat) (t : LI) : Option LI := Ff.g (fun a0 => a0) n t
def Ff.pat : List AV → Blks → Option LI
 | [(.ptr 0 [])], [(some (.var (.ints .u64 25 s)))] => some s
 | _, _ => none
def Ff.shape (t : LI) : List AV × Blks := ([(.ptr 0 [])], [(some (.var (.ints .u64 25 t)))])
def Ff.res : LI → AV × Blks
 | u => ((.tup []), [(some (.var (.ints .u64 25 u)))])
def Ff.resK {R : Type} (u : LI) (K : AV → Blks → Option R) : Option R := K (Ff.res u).1 (Ff.res u).2
def Ff.c (n : Nat) : Abs.Callee := .mk' [true] [none] Ff.pat (Ff.m n) Ff.resK
end
end
section
noncomputable abbrev Ff.R0 (n : Nat) := roundOf (Ff.C n) (Ff.A n) n Ff.b0
noncomputable abbrev Ff.R1 (n : Nat) := roundOf (Ff.C n) (Ff.A n) n Ff.b1
theorem Ff.l5_0.rmap {α β : Type} (h : β → α) (mk0 : Int → LI → β) (n : Nat) (f : Int → Int → LI → LI → Option β)  (x0 : Int) (x1 : Int) (x2 : LI) (x3 : LI) : Ff.l5_0.r (fun a0 a1 => (h (mk0 a0 a1))) n (fun y0 y1 y2 y3 => (f y0 y1 y2 y3).map h) x0 x1 x2 x3 = (Ff.l5_0.r mk0 n f x0 x1 x2 x3).map h := by
  unfold Ff.l5_0.r
  exact (ite_map (ite_map (ite_map (ite_map (ite_map (ite_map (ite_map (ite_map (ite_map rfl rfl) rfl) rfl) rfl) rfl) rfl) rfl) rfl) rfl)
theorem Ff.l5_0.gmap {α β : Type} (h : β → α) (mk0 : Int → LI → β) (n : Nat) : ∀ (m : Nat) (x0 : Int) (x1 : Int) (x2 : LI) (x3 : LI), Ff.l5_0.g (fun a0 a1 => (h (mk0 a0 a1))) n m x0 x1 x2 x3 = (Ff.l5_0.g mk0 n m x0 x1 x2 x3).map h
  | 0, _, _, _, _ => rfl
  | m + 1, x0, x1, x2, x3 => by
    unfold Ff.l5_0.g
    rw [← Ff.l5_0.rmap]
    congr
    · funext y0 y1 y2 y3; exact Ff.l5_0.gmap h mk0 n m y0 y1 y2 y3
theorem Ff.l5_0.pat_shape : ∀ st t, Ff.l5_0.pat st = some t → st = Ff.l5_0.shape t := fun _ _ h => by unfold Ff.l5_0.pat at h; split at h <;> cases h; rfl
def Ff.l5_0.k0 : Int → LI → Ex × St := (fun a0 a1 => (((.exit 2), (St.mk [(.int .i64 a0), (.ptr 0 [])] [(some (.var (.ints .u64 25 a1)))])) : Ex × St))
theorem Ff.l5_0.round (n : Nat) (rc : St → Option (Ex × St)) (x0 : Int) (x1 : Int) (x2 : LI) (x3 : LI) : Ff.R1 n rc ((St.mk [(.int .i64 x0), (.ptr 0 []), (.int .i64 x1), (.ptr 1 [])] [(some (.var (.ints .u64 25 x2))), (some (.var (.ints .u64 5 x3)))])) = Ff.l5_0.r Ff.l5_0.k0 n (fun y0 y1 y2 y3 => rc ((St.mk [(.int .i64 y0), (.ptr 0 []), (.int .i64 y1), (.ptr 1 [])] [(some (.var (.ints .u64 25 y2))), (some (.var (.ints .u64 5 y3)))]))) x0 x1 x2 x3 := by kernel_rfl
theorem Ff.l5_0.loop' (n : Nat) : ∀ (m : Nat) (t : (Int × (Int × (LI × LI)))), loopOf (Ff.R1 n) m (Ff.l5_0.shape t) = Ff.l5_0.g Ff.l5_0.k0 n m t.1 t.2.1 t.2.2.1 t.2.2.2 :=
  loop_of_round (shape := Ff.l5_0.shape) (body := Ff.R1 n) (g := fun m t => Ff.l5_0.g Ff.l5_0.k0 n m t.1 t.2.1 t.2.2.1 t.2.2.2) (fun t => rfl)
    fun m t ih => (Ff.l5_0.round n (loopOf (Ff.R1 n) m) t.1 t.2.1 t.2.2.1 t.2.2.2).trans (congrFun (congrFun (congrFun (congrFun (congrArg (Ff.l5_0.r Ff.l5_0.k0 n) (funext fun y0 => funext fun y1 => funext fun y2 => funext fun y3 => ih (y0, y1, y2, y3))) t.1) t.2.1) t.2.2.1) t.2.2.2)
theorem Ff.l5_0.loop (n m : Nat) (t : (Int × (Int × (LI × LI)))) : loopOf (Ff.R1 n) m (Ff.l5_0.shape t) = (Ff.l5_0.m n m t).map Ff.l5_0.res :=
  (Ff.l5_0.loop' n m t).trans (Ff.l5_0.gmap Ff.l5_0.res (fun a0 a1 => (a0, a1)) n m t.1 t.2.1 t.2.2.1 t.2.2.2)
theorem Ff.l1_0.rmap {α β : Type} (h : β → α) (mk0 : LI → β) (n : Nat) (f : Int → LI → Option β)  (x0 : Int) (x1 : LI) : Ff.l1_0.r (fun a0 => (h (mk0 a0))) n (fun y0 y1 => (f y0 y1).map h) x0 x1 = (Ff.l1_0.r mk0 n f x0 x1).map h := by
  unfold Ff.l1_0.r
  exact (ite_map (ite_map (ite_map (ite_map (ite_map (ite_map (bindO_map fun r16 => rfl) rfl) rfl) rfl) rfl) rfl) rfl)
theorem Ff.l1_0.gmap {α β : Type} (h : β → α) (mk0 : LI → β) (n : Nat) : ∀ (m : Nat) (x0 : Int) (x1 : LI), Ff.l1_0.g (fun a0 => (h (mk0 a0))) n m x0 x1 = (Ff.l1_0.g mk0 n m x0 x1).map h
  | 0, _, _ => rfl
  | m + 1, x0, x1 => by
    unfold Ff.l1_0.g
    rw [← Ff.l1_0.rmap]
    congr
    · funext y0 y1; exact Ff.l1_0.gmap h mk0 n m y0 y1
theorem Ff.l1_0.pat_shape : ∀ st t, Ff.l1_0.pat st = some t → st = Ff.l1_0.shape t := fun _ _ h => by unfold Ff.l1_0.pat at h; split at h <;> cases h; rfl
def Ff.l1_0.k0 : LI → Ex × St := (fun a0 => (((.exit 0), (St.mk [] [(some (.var (.ints .u64 25 a0)))])) : Ex × St))
theorem Ff.l1_0.round (n : Nat) (rc : St → Option (Ex × St)) (x0 : Int) (x1 : LI) : Ff.R0 n rc ((St.mk [(.int .i64 x0), (.ptr 0 [])] [(some (.var (.ints .u64 25 x1)))])) = Ff.l1_0.r Ff.l1_0.k0 n (fun y0 y1 => rc ((St.mk [(.int .i64 y0), (.ptr 0 [])] [(some (.var (.ints .u64 25 y1)))]))) x0 x1 := by kernel_rfl
theorem Ff.l1_0.loop' (n : Nat) : ∀ (m : Nat) (t : (Int × LI)), loopOf (Ff.R0 n) m (Ff.l1_0.shape t) = Ff.l1_0.g Ff.l1_0.k0 n m t.1 t.2 :=
  loop_of_round (shape := Ff.l1_0.shape) (body := Ff.R0 n) (g := fun m t => Ff.l1_0.g Ff.l1_0.k0 n m t.1 t.2) (fun t => rfl)
    fun m t ih => (Ff.l1_0.round n (loopOf (Ff.R0 n) m) t.1 t.2).trans (congrFun (congrFun (congrArg (Ff.l1_0.r Ff.l1_0.k0 n) (funext fun y0 => funext fun y1 => ih (y0, y1))) t.1) t.2)
theorem Ff.l1_0.loop (n m : Nat) (t : (Int × LI)) : loopOf (Ff.R0 n) m (Ff.l1_0.shape t) = (Ff.l1_0.m n m t).map Ff.l1_0.res :=
  (Ff.l1_0.loop' n m t).trans (Ff.l1_0.gmap Ff.l1_0.res (fun a0 => a0) n m t.1 t.2)
theorem Ff.gmap {α β : Type} (h : β → α) (mk0 : LI → β) (n : Nat) (s : LI) : Ff.g (fun a0 => (h (mk0 a0))) n s = (Ff.g mk0 n s).map h := by
  unfold Ff.g
  exact (bindO_map fun r2 => rfl)
theorem Ff.run (n : Nat) (s : LI) : runF (Ff.C n) (Ff.A n) n Tryd.f126 [(.ptr 0 [])] [(some (.var (.ints .u64 25 s)))] (fun v o => some (v, o)) = Ff.g (fun a0 => (((.tup []), [(some (.var (.ints .u64 25 a0)))]) : AV × Blks)) n s := by kernel_rfl
theorem Ff.call (hmix : Tryd.prog.follows .mixedOrders = true) (n : Nat) (t : LI) (u) (h : Ff.m n t = some u) : FnC Tryd.prog abiG 126 (Ff.shape t).1 (Ff.shape t).2 (Ff.res u).1 (Ff.res u).2 :=
  fnC1 (C := Ff.C n) (A := Ff.A n) (fn := Tryd.f126) rfl .nil hmix Tryd.func126 (by kernel_rfl) (lp := [Ff.b0, Ff.b1]) (by kernel_rfl) (.cons (show (Ff.A n).loop (key Ff.b0) = some (.mk' Ff.l1_0.pat (Ff.l1_0.m n n) Ff.l1_0.resK) by kernel_rfl) (LoopS.of (res := Ff.l1_0.res) (fun R u K => rfl) Ff.l1_0.pat_shape fun t => Ff.l1_0.loop n n t)
  (.cons (show (Ff.A n).loop (key Ff.b1) = some (.mk' Ff.l5_0.pat (Ff.l5_0.m n n) Ff.l5_0.resK) by kernel_rfl) (LoopS.of (res := Ff.l5_0.res) (fun R u K => rfl) Ff.l5_0.pat_shape fun t => Ff.l5_0.loop n n t)
  .nil))
  (nj rfl) (by decide) rfl rfl (by show 1 ≤ Tryd.f126.ntmps; decide) (Ff.run n t) (Ff.gmap Ff.res (fun a0 => a0) n t) h
theorem Ff.s (hmix : Tryd.prog.follows .mixedOrders = true) (n : Nat) : CalleeS Tryd.prog abiG 126 (Ff.c n) :=
  .mk1 (res := Ff.res) (shape := Ff.shape) (fun R u K => rfl) (fun _ _ _ h => by unfold Ff.pat at h; split at h <;> cases h; rfl) (fun t u h => Ff.call hmix n t u h) Tryd.func126 (by decide) (by kernel_rfl)
end
section
noncomputable section
noncomputable def Fg.C (n : Nat) : Ctx := ⟨Tryd.prog, abiG, lookC [(124, Fb.c n), (125, Fd.c n), (126, Ff.c n)], fun _ => false⟩
def Fg.live : NL := fun k => match k with
 | 1 => ([3, 0], [])
 | _ => ([], [])
def Fg.l1_0.r {α : Type} (mk0 : LI → α) (n : Nat) (rc : Int → LI → Option α)  (x0 : Int) (x1 : LI) : Option α :=
  if (decide (x0 < 24)) = true then
   bindO (Fb.m n x1) fun r6 =>
    bindO (Fd.m n r6) fun r8 =>
     bindO (Ff.m n r8) fun r10 =>
      if 0 ≤ x0 then
       if x0 < 24 then
        rc (IntKind.wrap .i64 (x0 + 1)) (List.set r10 0 (ibits BinOp.xor .u64 (List.getD r10 0 0) (List.getD ([1, 32898, 9223372036854808714, 9223372039002292224, 32907, 2147483649, 9223372039002292353, 9223372036854808585, 138, 136, 2147516425, 2147483658, 2147516555, 9223372036854775947, 9223372036854808713, 9223372036854808579, 9223372036854808578, 9223372036854775936, 32778, 9223372039002259466, 9223372039002292353, 9223372036854808704, 2147483649, 9223372039002292232] : List Int) (Int.toNat x0) 0)))
       else
        none
      else
       none
  else
   some (mk0 x1)
def Fg.l1_0.g {α : Type} (mk0 : LI → α) (n : Nat) : Nat → Int → LI → Option α
 | 0, _, _ => none
 | m + 1, x0, x1 => Fg.l1_0.r mk0 n (fun y0 y1 => Fg.l1_0.g mk0 n m y0 y1)  x0 x1
def Fg.l1_0.m (n m : Nat) (t : (Int × LI)) : Option LI := Fg.l1_0.g (fun a0 => a0) n m t.1 t.2
def Fg.l1_0.pat : St → Option (Int × LI)
 | (St.mk [(.int .i64 x0), (.ptr 0 [])] [(some (.var (.ints .u64 25 x1)))]) => some (x0, x1)
 | _ => none
def Fg.l1_0.shape (t : (Int × LI)) : St := (St.mk [(.int .i64 t.1), (.ptr 0 [])] [(some (.var (.ints .u64 25 t.2)))])
def Fg.l1_0.res : LI → Ex × St
 | u => ((.exit 0), (St.mk [] [(some (.var (.ints .u64 25 u)))]))
def Fg.l1_0.resK {R : Type} (u : LI) (K : Ex → St → Option R) : Option R := K (Fg.l1_0.res u).1 (Fg.l1_0.res u).2
noncomputable def Fg.A (n : Nat) : Ann := ⟨Tryd.f111.ntmps, 1, Fg.live, [], [], fun k => match k with
 | 1 => some (.mk' Fg.l1_0.pat (Fg.l1_0.m n n) Fg.l1_0.resK)
 | _ => none, noNL, lookJ []⟩
noncomputable def Fg.b0 : Code := (loopsIn (Tryd.f111.body.getD .skip)).getD 0 .skip
def Fg.g {α : Type} (mk0 : LI → α) (n : Nat) (s : LI) : Option α :=
 bindO (Fg.l1_0.m n n (0, s)) fun r2 =>
  some (mk0 r2)
def Fg.m (n : Nat) (t : LI) : Option LI := Fg.g (fun a0 => a0) n t
def Fg.pat : List AV → Blks → Option LI
 | [(.ptr 0 [])], [(some (.var (.ints .u64 25 s)))] => some s
 | _, _ => none
def Fg.shape (t : LI) : List AV × Blks := ([(.ptr 0 [])], [(some (.var (.ints .u64 25 t)))])
def Fg.res : LI → AV × Blks
 | u => ((.tup []), [(some (.var (.ints .u64 25 u)))])
def Fg.resK {R : Type} (u : LI) (K : AV → Blks → Option R) : Option R := K (Fg.res u).1 (Fg.res u).2
def Fg.c (n : Nat) : Abs.Callee := .mk' [true] [none] Fg.pat (Fg.m n) Fg.resK
end
end
section
noncomputable abbrev Fg.R0 (n : Nat) := roundOf (Fg.C n) (Fg.A n) n Fg.b0
theorem Fg.l1_0.rmap {α β : Type} (h : β → α) (mk0 : LI → β) (n : Nat) (f : Int → LI → Option β)  (x0 : Int) (x1 : LI) : Fg.l1_0.r (fun a0 => (h (mk0 a0))) n (fun y0 y1 => (f y0 y1).map h) x0 x1 = (Fg.l1_0.r mk0 n f x0 x1).map h := by
  unfold Fg.l1_0.r
  exact (ite_map (bindO_map fun r6 => (bindO_map fun r8 => (bindO_map fun r10 => (ite_map (ite_map rfl rfl) rfl)))) rfl)
theorem Fg.l1_0.gmap {α β : Type} (h : β → α) (mk0 : LI → β) (n : Nat) : ∀ (m : Nat) (x0 : Int) (x1 : LI), Fg.l1_0.g (fun a0 => (h (mk0 a0))) n m x0 x1 = (Fg.l1_0.g mk0 n m x0 x1).map h
  | 0, _, _ => rfl
  | m + 1, x0, x1 => by
    unfold Fg.l1_0.g
    rw [← Fg.l1_0.rmap]
    congr
    · funext y0 y1; exact Fg.l1_0.gmap h mk0 n m y0 y1
theorem Fg.l1_0.pat_shape : ∀ st t, Fg.l1_0.pat st = some t → st = Fg.l1_0.shape t := fun _ _ h => by unfold Fg.l1_0.pat at h; split at h <;> cases h; rfl
def Fg.l1_0.k0 : LI → Ex × St := (fun a0 => (((.exit 0), (St.mk [] [(some (.var (.ints .u64 25 a0)))])) : Ex × St))
theorem Fg.l1_0.round (n : Nat) (rc : St → Option (Ex × St)) (x0 : Int) (x1 : LI) : Fg.R0 n rc ((St.mk [(.int .i64 x0), (.ptr 0 [])] [(some (.var (.ints .u64 25 x1)))])) = Fg.l1_0.r Fg.l1_0.k0 n (fun y0 y1 => rc ((St.mk [(.int .i64 y0), (.ptr 0 [])] [(some (.var (.ints .u64 25 y1)))]))) x0 x1 := by kernel_rfl
theorem Fg.l1_0.loop' (n : Nat) : ∀ (m : Nat) (t : (Int × LI)), loopOf (Fg.R0 n) m (Fg.l1_0.shape t) = Fg.l1_0.g Fg.l1_0.k0 n m t.1 t.2 :=
  loop_of_round (shape := Fg.l1_0.shape) (body := Fg.R0 n) (g := fun m t => Fg.l1_0.g Fg.l1_0.k0 n m t.1 t.2) (fun t => rfl)
    fun m t ih => (Fg.l1_0.round n (loopOf (Fg.R0 n) m) t.1 t.2).trans (congrFun (congrFun (congrArg (Fg.l1_0.r Fg.l1_0.k0 n) (funext fun y0 => funext fun y1 => ih (y0, y1))) t.1) t.2)
theorem Fg.l1_0.loop (n m : Nat) (t : (Int × LI)) : loopOf (Fg.R0 n) m (Fg.l1_0.shape t) = (Fg.l1_0.m n m t).map Fg.l1_0.res :=
  (Fg.l1_0.loop' n m t).trans (Fg.l1_0.gmap Fg.l1_0.res (fun a0 => a0) n m t.1 t.2)
theorem Fg.gmap {α β : Type} (h : β → α) (mk0 : LI → β) (n : Nat) (s : LI) : Fg.g (fun a0 => (h (mk0 a0))) n s = (Fg.g mk0 n s).map h := by
  unfold Fg.g
  exact (bindO_map fun r2 => rfl)
theorem Fg.run (n : Nat) (s : LI) : runF (Fg.C n) (Fg.A n) n Tryd.f111 [(.ptr 0 [])] [(some (.var (.ints .u64 25 s)))] (fun v o => some (v, o)) = Fg.g (fun a0 => (((.tup []), [(some (.var (.ints .u64 25 a0)))]) : AV × Blks)) n s := by kernel_rfl
theorem Fg.call (hmix : Tryd.prog.follows .mixedOrders = true) (n : Nat) (t : LI) (u) (h : Fg.m n t = some u) : FnC Tryd.prog abiG 111 (Fg.shape t).1 (Fg.shape t).2 (Fg.res u).1 (Fg.res u).2 :=
  fnC1 (C := Fg.C n) (A := Fg.A n) (fn := Tryd.f111) rfl (.cons (Fb.s hmix n) (.cons (Fd.s hmix n) (.cons (Ff.s hmix n) .nil))) hmix Tryd.func111 (by kernel_rfl) (lp := [Fg.b0]) (by kernel_rfl) (.cons (show (Fg.A n).loop (key Fg.b0) = some (.mk' Fg.l1_0.pat (Fg.l1_0.m n n) Fg.l1_0.resK) by kernel_rfl) (LoopS.of (res := Fg.l1_0.res) (fun R u K => rfl) Fg.l1_0.pat_shape fun t => Fg.l1_0.loop n n t)
  .nil)
  (nj rfl) (by decide) rfl rfl (by show 1 ≤ Tryd.f111.ntmps; decide) (Fg.run n t) (Fg.gmap Fg.res (fun a0 => a0) n t) h
theorem Fg.s (hmix : Tryd.prog.follows .mixedOrders = true) (n : Nat) : CalleeS Tryd.prog abiG 111 (Fg.c n) :=
  .mk1 (res := Fg.res) (shape := Fg.shape) (fun R u K => rfl) (fun _ _ _ h => by unfold Fg.pat at h; split at h <;> cases h; rfl) (fun t u h => Fg.call hmix n t u h) Tryd.func111 (by decide) (by kernel_rfl)
end
section
noncomputable section
def Fbg.g {α : Type} (mk0 : Int → α) (n : Nat) (a0 : Int) (a1 : Int) : Option α :=
 if (a1 == 0) = true then
  some (mk0 a0)
 else
  if 0 ≤ (IntKind.wrap .u64 a1) then
   if 0 ≤ (IntKind.wrap .u64 (IntKind.wrap .i64 (64 - a1))) then
    some (mk0 (ibits BinOp.or .u64 (ishl .u64 a0 (IntKind.wrap .u64 a1)) (ishr .u64 a0 (IntKind.wrap .u64 (IntKind.wrap .i64 (64 - a1))))))
   else
    none
  else
   none
def Fbg.m (n : Nat) (t : (Int × Int)) : Option Int := Fbg.g (fun a0 => a0) n t.1 t.2
end
end
section
noncomputable section
def Fbh.l6_0.r {α : Type} (mk0 : LI → LI → LI → Int → LI → α) (n : Nat) (rc : Int → LI → LI → LI → Int → LI → Option α)  (x0 : Int) (x1 : LI) (x2 : LI) (x3 : LI) (x4 : Int) (x5 : LI) : Option α :=
  if (decide (x0 < 5)) = true then
   if 0 ≤ x0 then
    if x0 < (((List.length x1) : Nat) : Int) then
     if 0 ≤ (IntKind.wrap .i64 (5 + x0)) then
      if (IntKind.wrap .i64 (5 + x0)) < (((List.length x1) : Nat) : Int) then
       if 0 ≤ (IntKind.wrap .i64 (10 + x0)) then
        if (IntKind.wrap .i64 (10 + x0)) < (((List.length x1) : Nat) : Int) then
         if 0 ≤ (IntKind.wrap .i64 (15 + x0)) then
          if (IntKind.wrap .i64 (15 + x0)) < (((List.length x1) : Nat) : Int) then
           if 0 ≤ (IntKind.wrap .i64 (20 + x0)) then
            if (IntKind.wrap .i64 (20 + x0)) < (((List.length x1) : Nat) : Int) then
             if ((((List.length x5) + 1) * 8) ≤ 70368744177664 ∧ ((List.length x5) + 1) ≤ 9223372036854775807) then
              rc (IntKind.wrap .i64 (x0 + 1)) x1 x2 x3 x4 (x5 ++ [(ibits BinOp.xor .u64 (ibits BinOp.xor .u64 (ibits BinOp.xor .u64 (ibits BinOp.xor .u64 (List.getD x1 (Int.toNat x0) 0) (List.getD x1 (Int.toNat (IntKind.wrap .i64 (5 + x0))) 0)) (List.getD x1 (Int.toNat (IntKind.wrap .i64 (10 + x0))) 0)) (List.getD x1 (Int.toNat (IntKind.wrap .i64 (15 + x0))) 0)) (List.getD x1 (Int.toNat (IntKind.wrap .i64 (20 + x0))) 0))])
             else
              none
            else
             none
           else
            none
          else
           none
         else
          none
        else
         none
       else
        none
      else
       none
     else
      none
    else
     none
   else
    none
  else
   some (mk0 x1 x2 x3 x4 x5)
def Fbh.l6_0.g {α : Type} (mk0 : LI → LI → LI → Int → LI → α) (n : Nat) : Nat → Int → LI → LI → LI → Int → LI → Option α
 | 0, _, _, _, _, _, _ => none
 | m + 1, x0, x1, x2, x3, x4, x5 => Fbh.l6_0.r mk0 n (fun y0 y1 y2 y3 y4 y5 => Fbh.l6_0.g mk0 n m y0 y1 y2 y3 y4 y5)  x0 x1 x2 x3 x4 x5
def Fbh.l6_0.m (n m : Nat) (t : (Int × (LI × (LI × (LI × (Int × LI)))))) : Option (LI × (LI × (LI × (Int × LI)))) := Fbh.l6_0.g (fun a0 a1 a2 a3 a4 => (a0, a1, a2, a3, a4)) n m t.1 t.2.1 t.2.2.1 t.2.2.2.1 t.2.2.2.2.1 t.2.2.2.2.2
def Fbh.l15_0.r {α : Type} (mk0 : Int → LI → LI → LI → Int → LI → LI → α) (n : Nat) (rc : Int → Int → LI → Int → LI → LI → Int → LI → LI → Option α)  (x0 : Int) (x1 : Int) (x2 : LI) (x3 : Int) (x4 : LI) (x5 : LI) (x6 : Int) (x7 : LI) (x8 : LI) : Option α :=
  if (decide (x0 < 5)) = true then
   if 0 ≤ (IntKind.wrap .i64 ((IntKind.wrap .i64 (5 * x0)) + x1)) then
    if (IntKind.wrap .i64 ((IntKind.wrap .i64 (5 * x0)) + x1)) < (((List.length x2) : Nat) : Int) then
     if 0 ≤ (IntKind.wrap .i64 ((IntKind.wrap .i64 (5 * x0)) + x1)) then
      if (IntKind.wrap .i64 ((IntKind.wrap .i64 (5 * x0)) + x1)) < (((List.length x4) : Nat) : Int) then
       bindO (Fbg.m n ((ibits BinOp.xor .u64 (List.getD x2 (Int.toNat (IntKind.wrap .i64 ((IntKind.wrap .i64 (5 * x0)) + x1))) 0) x3), (List.getD x4 (Int.toNat (IntKind.wrap .i64 ((IntKind.wrap .i64 (5 * x0)) + x1))) 0))) fun r14 =>
        if 0 ≤ (IntKind.wrap .i64 ((IntKind.wrap .i64 (5 * (Int.tmod (IntKind.wrap .i64 ((IntKind.wrap .i64 (2 * x1)) + (IntKind.wrap .i64 (3 * x0)))) 5))) + x0)) then
         if (IntKind.wrap .i64 ((IntKind.wrap .i64 (5 * (Int.tmod (IntKind.wrap .i64 ((IntKind.wrap .i64 (2 * x1)) + (IntKind.wrap .i64 (3 * x0)))) 5))) + x0)) < (((List.length x7) : Nat) : Int) then
          rc (IntKind.wrap .i64 (x0 + 1)) x1 x2 x3 x4 x5 x6 (List.set x7 (Int.toNat (IntKind.wrap .i64 ((IntKind.wrap .i64 (5 * (Int.tmod (IntKind.wrap .i64 ((IntKind.wrap .i64 (2 * x1)) + (IntKind.wrap .i64 (3 * x0)))) 5))) + x0))) r14) x8
         else
          none
        else
         none
      else
       none
     else
      none
    else
     none
   else
    none
  else
   some (mk0 x1 x2 x4 x5 x6 x8 x7)
def Fbh.l15_0.g {α : Type} (mk0 : Int → LI → LI → LI → Int → LI → LI → α) (n : Nat) : Nat → Int → Int → LI → Int → LI → LI → Int → LI → LI → Option α
 | 0, _, _, _, _, _, _, _, _, _ => none
 | m + 1, x0, x1, x2, x3, x4, x5, x6, x7, x8 => Fbh.l15_0.r mk0 n (fun y0 y1 y2 y3 y4 y5 y6 y7 y8 => Fbh.l15_0.g mk0 n m y0 y1 y2 y3 y4 y5 y6 y7 y8)  x0 x1 x2 x3 x4 x5 x6 x7 x8
def Fbh.l15_0.m (n m : Nat) (t : (Int × (Int × (LI × (Int × (LI × (LI × (Int × (LI × LI))))))))) : Option (Int × (LI × (LI × (LI × (Int × (LI × LI)))))) := Fbh.l15_0.g (fun a0 a1 a2 a3 a4 a5 a6 => (a0, a1, a2, a3, a4, a5, a6)) n m t.1 t.2.1 t.2.2.1 t.2.2.2.1 t.2.2.2.2.1 t.2.2.2.2.2.1 t.2.2.2.2.2.2.1 t.2.2.2.2.2.2.2.1 t.2.2.2.2.2.2.2.2
def Fbh.l11_0.r {α : Type} (mk0 : LI → Int → LI → LI → α) (n : Nat) (rc : Int → LI → LI → LI → Int → LI → LI → Option α)  (x0 : Int) (x1 : LI) (x2 : LI) (x3 : LI) (x4 : Int) (x5 : LI) (x6 : LI) : Option α :=
  if (decide (x0 < 5)) = true then
   if 0 ≤ (Int.tmod (IntKind.wrap .i64 (x0 + 4)) 5) then
    if (Int.tmod (IntKind.wrap .i64 (x0 + 4)) 5) < (((List.length x5) : Nat) : Int) then
     if 0 ≤ (Int.tmod (IntKind.wrap .i64 (x0 + 1)) 5) then
      if (Int.tmod (IntKind.wrap .i64 (x0 + 1)) 5) < (((List.length x5) : Nat) : Int) then
       bindO (Fbg.m n ((List.getD x5 (Int.toNat (Int.tmod (IntKind.wrap .i64 (x0 + 1)) 5)) 0), 1)) fun r14 =>
        bindO (Fbh.l15_0.m n n (0, x0, x1, (ibits BinOp.xor .u64 (List.getD x5 (Int.toNat (Int.tmod (IntKind.wrap .i64 (x0 + 4)) 5)) 0) r14), x2, x3, x4, x6, x5)) fun r16 =>
         rc (IntKind.wrap .i64 (r16.1 + 1)) r16.2.1 r16.2.2.1 r16.2.2.2.1 r16.2.2.2.2.1 r16.2.2.2.2.2.1 r16.2.2.2.2.2.2
      else
       none
     else
      none
    else
     none
   else
    none
  else
   some (mk0 x3 x4 x2 x6)
def Fbh.l11_0.g {α : Type} (mk0 : LI → Int → LI → LI → α) (n : Nat) : Nat → Int → LI → LI → LI → Int → LI → LI → Option α
 | 0, _, _, _, _, _, _, _ => none
 | m + 1, x0, x1, x2, x3, x4, x5, x6 => Fbh.l11_0.r mk0 n (fun y0 y1 y2 y3 y4 y5 y6 => Fbh.l11_0.g mk0 n m y0 y1 y2 y3 y4 y5 y6)  x0 x1 x2 x3 x4 x5 x6
def Fbh.l11_0.m (n m : Nat) (t : (Int × (LI × (LI × (LI × (Int × (LI × LI))))))) : Option (LI × (Int × (LI × LI))) := Fbh.l11_0.g (fun a0 a1 a2 a3 => (a0, a1, a2, a3)) n m t.1 t.2.1 t.2.2.1 t.2.2.2.1 t.2.2.2.2.1 t.2.2.2.2.2.1 t.2.2.2.2.2.2
def Fbh.l23_0.r {α : Type} (mk0 : Int → LI → Int → LI → LI → LI → α) (n : Nat) (rc : Int → Int → LI → Int → LI → LI → LI → Option α)  (x0 : Int) (x1 : Int) (x2 : LI) (x3 : Int) (x4 : LI) (x5 : LI) (x6 : LI) : Option α :=
  if (decide (x0 < 5)) = true then
   if 0 ≤ (IntKind.wrap .i64 ((IntKind.wrap .i64 (5 * x1)) + x0)) then
    if (IntKind.wrap .i64 ((IntKind.wrap .i64 (5 * x1)) + x0)) < (((List.length x6) : Nat) : Int) then
     if 0 ≤ (IntKind.wrap .i64 ((IntKind.wrap .i64 (5 * x1)) + (Int.tmod (IntKind.wrap .i64 (x0 + 1)) 5))) then
      if (IntKind.wrap .i64 ((IntKind.wrap .i64 (5 * x1)) + (Int.tmod (IntKind.wrap .i64 (x0 + 1)) 5))) < (((List.length x6) : Nat) : Int) then
       if 0 ≤ (IntKind.wrap .i64 ((IntKind.wrap .i64 (5 * x1)) + (Int.tmod (IntKind.wrap .i64 (x0 + 2)) 5))) then
        if (IntKind.wrap .i64 ((IntKind.wrap .i64 (5 * x1)) + (Int.tmod (IntKind.wrap .i64 (x0 + 2)) 5))) < (((List.length x6) : Nat) : Int) then
         if ((((List.length x5) + 1) * 8) ≤ 70368744177664 ∧ ((List.length x5) + 1) ≤ 9223372036854775807) then
          rc (IntKind.wrap .i64 (x0 + 1)) x1 x2 x3 x4 (x5 ++ [(ibits BinOp.xor .u64 (List.getD x6 (Int.toNat (IntKind.wrap .i64 ((IntKind.wrap .i64 (5 * x1)) + x0))) 0) (ibits BinOp.and .u64 (ibits BinOp.xor .u64 (if false = true then (-1) else 18446744073709551615) (List.getD x6 (Int.toNat (IntKind.wrap .i64 ((IntKind.wrap .i64 (5 * x1)) + (Int.tmod (IntKind.wrap .i64 (x0 + 1)) 5)))) 0)) (List.getD x6 (Int.toNat (IntKind.wrap .i64 ((IntKind.wrap .i64 (5 * x1)) + (Int.tmod (IntKind.wrap .i64 (x0 + 2)) 5)))) 0)))]) x6
         else
          none
        else
         none
       else
        none
      else
       none
     else
      none
    else
     none
   else
    none
  else
   some (mk0 x1 x2 x3 x4 x5 x6)
def Fbh.l23_0.g {α : Type} (mk0 : Int → LI → Int → LI → LI → LI → α) (n : Nat) : Nat → Int → Int → LI → Int → LI → LI → LI → Option α
 | 0, _, _, _, _, _, _, _ => none
 | m + 1, x0, x1, x2, x3, x4, x5, x6 => Fbh.l23_0.r mk0 n (fun y0 y1 y2 y3 y4 y5 y6 => Fbh.l23_0.g mk0 n m y0 y1 y2 y3 y4 y5 y6)  x0 x1 x2 x3 x4 x5 x6
def Fbh.l23_0.m (n m : Nat) (t : (Int × (Int × (LI × (Int × (LI × (LI × LI))))))) : Option (Int × (LI × (Int × (LI × (LI × LI))))) := Fbh.l23_0.g (fun a0 a1 a2 a3 a4 a5 => (a0, a1, a2, a3, a4, a5)) n m t.1 t.2.1 t.2.2.1 t.2.2.2.1 t.2.2.2.2.1 t.2.2.2.2.2.1 t.2.2.2.2.2.2
def Fbh.l20_0.r {α : Type} (mk0 : LI → Int → LI → LI → α) (n : Nat) (rc : Int → LI → Int → LI → LI → LI → Option α)  (x0 : Int) (x1 : LI) (x2 : Int) (x3 : LI) (x4 : LI) (x5 : LI) : Option α :=
  if (decide (x0 < 5)) = true then
   bindO (Fbh.l23_0.m n n (0, x0, x1, x2, x3, x4, x5)) fun r6 =>
    rc (IntKind.wrap .i64 (r6.1 + 1)) r6.2.1 r6.2.2.1 r6.2.2.2.1 r6.2.2.2.2.1 r6.2.2.2.2.2
  else
   some (mk0 x1 x2 x3 x4)
def Fbh.l20_0.g {α : Type} (mk0 : LI → Int → LI → LI → α) (n : Nat) : Nat → Int → LI → Int → LI → LI → LI → Option α
 | 0, _, _, _, _, _, _ => none
 | m + 1, x0, x1, x2, x3, x4, x5 => Fbh.l20_0.r mk0 n (fun y0 y1 y2 y3 y4 y5 => Fbh.l20_0.g mk0 n m y0 y1 y2 y3 y4 y5)  x0 x1 x2 x3 x4 x5
def Fbh.l20_0.m (n m : Nat) (t : (Int × (LI × (Int × (LI × (LI × LI)))))) : Option (LI × (Int × (LI × LI))) := Fbh.l20_0.g (fun a0 a1 a2 a3 => (a0, a1, a2, a3)) n m t.1 t.2.1 t.2.2.1 t.2.2.2.1 t.2.2.2.2.1 t.2.2.2.2.2
def Fbh.l6v1_0.r {α : Type} (mk0 : LI → LI → Int → LI → LI → α) (n : Nat) (rc : Int → LI → LI → Int → LI → LI → Option α)  (x0 : Int) (x1 : LI) (x2 : LI) (x3 : Int) (x4 : LI) (x5 : LI) : Option α :=
  if (decide (x0 < 5)) = true then
   if 0 ≤ x0 then
    if x0 < (((List.length x5) : Nat) : Int) then
     if 0 ≤ (IntKind.wrap .i64 (5 + x0)) then
      if (IntKind.wrap .i64 (5 + x0)) < (((List.length x5) : Nat) : Int) then
       if 0 ≤ (IntKind.wrap .i64 (10 + x0)) then
        if (IntKind.wrap .i64 (10 + x0)) < (((List.length x5) : Nat) : Int) then
         if 0 ≤ (IntKind.wrap .i64 (15 + x0)) then
          if (IntKind.wrap .i64 (15 + x0)) < (((List.length x5) : Nat) : Int) then
           if 0 ≤ (IntKind.wrap .i64 (20 + x0)) then
            if (IntKind.wrap .i64 (20 + x0)) < (((List.length x5) : Nat) : Int) then
             if ((((List.length x4) + 1) * 8) ≤ 70368744177664 ∧ ((List.length x4) + 1) ≤ 9223372036854775807) then
              rc (IntKind.wrap .i64 (x0 + 1)) x1 x2 x3 (x4 ++ [(ibits BinOp.xor .u64 (ibits BinOp.xor .u64 (ibits BinOp.xor .u64 (ibits BinOp.xor .u64 (List.getD x5 (Int.toNat x0) 0) (List.getD x5 (Int.toNat (IntKind.wrap .i64 (5 + x0))) 0)) (List.getD x5 (Int.toNat (IntKind.wrap .i64 (10 + x0))) 0)) (List.getD x5 (Int.toNat (IntKind.wrap .i64 (15 + x0))) 0)) (List.getD x5 (Int.toNat (IntKind.wrap .i64 (20 + x0))) 0))]) x5
             else
              none
            else
             none
           else
            none
          else
           none
         else
          none
        else
         none
       else
        none
      else
       none
     else
      none
    else
     none
   else
    none
  else
   some (mk0 x1 x2 x3 x4 x5)
def Fbh.l6v1_0.g {α : Type} (mk0 : LI → LI → Int → LI → LI → α) (n : Nat) : Nat → Int → LI → LI → Int → LI → LI → Option α
 | 0, _, _, _, _, _, _ => none
 | m + 1, x0, x1, x2, x3, x4, x5 => Fbh.l6v1_0.r mk0 n (fun y0 y1 y2 y3 y4 y5 => Fbh.l6v1_0.g mk0 n m y0 y1 y2 y3 y4 y5)  x0 x1 x2 x3 x4 x5
def Fbh.l6v1_0.m (n m : Nat) (t : (Int × (LI × (LI × (Int × (LI × LI)))))) : Option (LI × (LI × (Int × (LI × LI)))) := Fbh.l6v1_0.g (fun a0 a1 a2 a3 a4 => (a0, a1, a2, a3, a4)) n m t.1 t.2.1 t.2.2.1 t.2.2.2.1 t.2.2.2.2.1 t.2.2.2.2.2
def Fbh.l15v1_0.r {α : Type} (mk0 : Int → LI → LI → Int → LI → LI → LI → α) (n : Nat) (rc : Int → Int → Int → LI → LI → Int → LI → LI → LI → Option α)  (x0 : Int) (x1 : Int) (x2 : Int) (x3 : LI) (x4 : LI) (x5 : Int) (x6 : LI) (x7 : LI) (x8 : LI) : Option α :=
  if (decide (x0 < 5)) = true then
   if 0 ≤ (IntKind.wrap .i64 ((IntKind.wrap .i64 (5 * x0)) + x1)) then
    if (IntKind.wrap .i64 ((IntKind.wrap .i64 (5 * x0)) + x1)) < (((List.length x7) : Nat) : Int) then
     if 0 ≤ (IntKind.wrap .i64 ((IntKind.wrap .i64 (5 * x0)) + x1)) then
      if (IntKind.wrap .i64 ((IntKind.wrap .i64 (5 * x0)) + x1)) < (((List.length x3) : Nat) : Int) then
       bindO (Fbg.m n ((ibits BinOp.xor .u64 (List.getD x7 (Int.toNat (IntKind.wrap .i64 ((IntKind.wrap .i64 (5 * x0)) + x1))) 0) x2), (List.getD x3 (Int.toNat (IntKind.wrap .i64 ((IntKind.wrap .i64 (5 * x0)) + x1))) 0))) fun r14 =>
        if 0 ≤ (IntKind.wrap .i64 ((IntKind.wrap .i64 (5 * (Int.tmod (IntKind.wrap .i64 ((IntKind.wrap .i64 (2 * x1)) + (IntKind.wrap .i64 (3 * x0)))) 5))) + x0)) then
         if (IntKind.wrap .i64 ((IntKind.wrap .i64 (5 * (Int.tmod (IntKind.wrap .i64 ((IntKind.wrap .i64 (2 * x1)) + (IntKind.wrap .i64 (3 * x0)))) 5))) + x0)) < (((List.length x6) : Nat) : Int) then
          rc (IntKind.wrap .i64 (x0 + 1)) x1 x2 x3 x4 x5 (List.set x6 (Int.toNat (IntKind.wrap .i64 ((IntKind.wrap .i64 (5 * (Int.tmod (IntKind.wrap .i64 ((IntKind.wrap .i64 (2 * x1)) + (IntKind.wrap .i64 (3 * x0)))) 5))) + x0))) r14) x7 x8
         else
          none
        else
         none
      else
       none
     else
      none
    else
     none
   else
    none
  else
   some (mk0 x1 x3 x4 x5 x8 x6 x7)
def Fbh.l15v1_0.g {α : Type} (mk0 : Int → LI → LI → Int → LI → LI → LI → α) (n : Nat) : Nat → Int → Int → Int → LI → LI → Int → LI → LI → LI → Option α
 | 0, _, _, _, _, _, _, _, _, _ => none
 | m + 1, x0, x1, x2, x3, x4, x5, x6, x7, x8 => Fbh.l15v1_0.r mk0 n (fun y0 y1 y2 y3 y4 y5 y6 y7 y8 => Fbh.l15v1_0.g mk0 n m y0 y1 y2 y3 y4 y5 y6 y7 y8)  x0 x1 x2 x3 x4 x5 x6 x7 x8
def Fbh.l15v1_0.m (n m : Nat) (t : (Int × (Int × (Int × (LI × (LI × (Int × (LI × (LI × LI))))))))) : Option (Int × (LI × (LI × (Int × (LI × (LI × LI)))))) := Fbh.l15v1_0.g (fun a0 a1 a2 a3 a4 a5 a6 => (a0, a1, a2, a3, a4, a5, a6)) n m t.1 t.2.1 t.2.2.1 t.2.2.2.1 t.2.2.2.2.1 t.2.2.2.2.2.1 t.2.2.2.2.2.2.1 t.2.2.2.2.2.2.2.1 t.2.2.2.2.2.2.2.2
def Fbh.l11v1_0.r {α : Type} (mk0 : LI → Int → LI → LI → α) (n : Nat) (rc : Int → LI → LI → Int → LI → LI → LI → Option α)  (x0 : Int) (x1 : LI) (x2 : LI) (x3 : Int) (x4 : LI) (x5 : LI) (x6 : LI) : Option α :=
  if (decide (x0 < 5)) = true then
   if 0 ≤ (Int.tmod (IntKind.wrap .i64 (x0 + 4)) 5) then
    if (Int.tmod (IntKind.wrap .i64 (x0 + 4)) 5) < (((List.length x4) : Nat) : Int) then
     if 0 ≤ (Int.tmod (IntKind.wrap .i64 (x0 + 1)) 5) then
      if (Int.tmod (IntKind.wrap .i64 (x0 + 1)) 5) < (((List.length x4) : Nat) : Int) then
       bindO (Fbg.m n ((List.getD x4 (Int.toNat (Int.tmod (IntKind.wrap .i64 (x0 + 1)) 5)) 0), 1)) fun r14 =>
        bindO (Fbh.l15v1_0.m n n (0, x0, (ibits BinOp.xor .u64 (List.getD x4 (Int.toNat (Int.tmod (IntKind.wrap .i64 (x0 + 4)) 5)) 0) r14), x1, x2, x3, x5, x6, x4)) fun r16 =>
         rc (IntKind.wrap .i64 (r16.1 + 1)) r16.2.1 r16.2.2.1 r16.2.2.2.1 r16.2.2.2.2.1 r16.2.2.2.2.2.1 r16.2.2.2.2.2.2
      else
       none
     else
      none
    else
     none
   else
    none
  else
   some (mk0 x2 x3 x1 x5)
def Fbh.l11v1_0.g {α : Type} (mk0 : LI → Int → LI → LI → α) (n : Nat) : Nat → Int → LI → LI → Int → LI → LI → LI → Option α
 | 0, _, _, _, _, _, _, _ => none
 | m + 1, x0, x1, x2, x3, x4, x5, x6 => Fbh.l11v1_0.r mk0 n (fun y0 y1 y2 y3 y4 y5 y6 => Fbh.l11v1_0.g mk0 n m y0 y1 y2 y3 y4 y5 y6)  x0 x1 x2 x3 x4 x5 x6
def Fbh.l11v1_0.m (n m : Nat) (t : (Int × (LI × (LI × (Int × (LI × (LI × LI))))))) : Option (LI × (Int × (LI × LI))) := Fbh.l11v1_0.g (fun a0 a1 a2 a3 => (a0, a1, a2, a3)) n m t.1 t.2.1 t.2.2.1 t.2.2.2.1 t.2.2.2.2.1 t.2.2.2.2.2.1 t.2.2.2.2.2.2
def Fbh.l2_1.r {α : Type} (mk0 : LI → α) (mk1 : LI → α) (n : Nat) (rc : Int → LI → LI → LI → Option α)  (x0 : Int) (x1 : LI) (x2 : LI) (x3 : LI) : Option α :=
  if (decide (x0 < 24)) = true then
   bindO (Fbh.l6v1_0.m n n (0, x1, x2, x0, [], x3)) fun r6 =>
    bindO (Fbh.l11v1_0.m n n (0, r6.1, r6.2.1, r6.2.2.1, r6.2.2.2.1, ([0, 0, 0, 0, 0, 0, 0, 0, 0, 0, 0, 0, 0, 0, 0, 0, 0, 0, 0, 0, 0, 0, 0, 0, 0] : List Int), r6.2.2.2.2)) fun r8 =>
     bindO (Fbh.l20_0.m n n (0, r8.1, r8.2.1, r8.2.2.1, [], r8.2.2.2)) fun r10 =>
      if 0 < (((List.length r10.2.2.2) : Nat) : Int) then
       if 0 ≤ r10.2.1 then
        if r10.2.1 < (((List.length r10.1) : Nat) : Int) then
         if 0 < (((List.length r10.2.2.2) : Nat) : Int) then
          rc (IntKind.wrap .i64 (r10.2.1 + 1)) r10.2.2.1 r10.1 (List.set r10.2.2.2 0 (ibits BinOp.xor .u64 (List.getD r10.2.2.2 0 0) (List.getD r10.1 (Int.toNat r10.2.1) 0)))
         else
          none
        else
         none
       else
        none
      else
       none
  else
   some (mk0 x3)
def Fbh.l2_1.g {α : Type} (mk0 : LI → α) (mk1 : LI → α) (n : Nat) : Nat → Int → LI → LI → LI → Option α
 | 0, _, _, _, _ => none
 | m + 1, x0, x1, x2, x3 => Fbh.l2_1.r mk0 mk1 n (fun y0 y1 y2 y3 => Fbh.l2_1.g mk0 mk1 n m y0 y1 y2 y3)  x0 x1 x2 x3
def Fbh.l2_0.r {α : Type} (mk0 : LI → α) (mk1 : LI → α) (n : Nat) (rc : Int → LI → LI → LI → Option α) (rc0 : Int → LI → LI → LI → Option α) (x0 : Int) (x1 : LI) (x2 : LI) (x3 : LI) : Option α :=
  if (decide (x0 < 24)) = true then
   bindO (Fbh.l6_0.m n n (0, x1, x2, x3, x0, [])) fun r6 =>
    bindO (Fbh.l11_0.m n n (0, r6.1, r6.2.1, r6.2.2.1, r6.2.2.2.1, r6.2.2.2.2, ([0, 0, 0, 0, 0, 0, 0, 0, 0, 0, 0, 0, 0, 0, 0, 0, 0, 0, 0, 0, 0, 0, 0, 0, 0] : List Int))) fun r8 =>
     bindO (Fbh.l20_0.m n n (0, r8.1, r8.2.1, r8.2.2.1, [], r8.2.2.2)) fun r10 =>
      if 0 < (((List.length r10.2.2.2) : Nat) : Int) then
       if 0 ≤ r10.2.1 then
        if r10.2.1 < (((List.length r10.1) : Nat) : Int) then
         if 0 < (((List.length r10.2.2.2) : Nat) : Int) then
          rc0 (IntKind.wrap .i64 (r10.2.1 + 1)) r10.2.2.1 r10.1 (List.set r10.2.2.2 0 (ibits BinOp.xor .u64 (List.getD r10.2.2.2 0 0) (List.getD r10.1 (Int.toNat r10.2.1) 0)))
         else
          none
        else
         none
       else
        none
      else
       none
  else
   some (mk1 x1)
def Fbh.l2_0.g {α : Type} (mk0 : LI → α) (mk1 : LI → α) (n : Nat) : Nat → Int → LI → LI → LI → Option α
 | 0, _, _, _, _ => none
 | m + 1, x0, x1, x2, x3 => Fbh.l2_0.r mk0 mk1 n (fun y0 y1 y2 y3 => Fbh.l2_0.g mk0 mk1 n m y0 y1 y2 y3) (fun y0 y1 y2 y3 => Fbh.l2_1.g mk0 mk1 n m y0 y1 y2 y3) x0 x1 x2 x3
def Fbh.l2_0.m (n m : Nat) (t : (Int × (LI × (LI × LI)))) : Option (LI ⊕ LI) := Fbh.l2_0.g (fun a0 => (.inl a0)) (fun a0 => (.inr a0)) n m t.1 t.2.1 t.2.2.1 t.2.2.2
def Fbh.g {α : Type} (mk0 : LI → α) (mk1 : LI → α) (n : Nat) (a0 : LI) (a1 : LI) (a2 : LI) : Option α :=
 bindO (Fbh.l2_0.m n n (0, a0, a1, a2)) fun r2 => match r2 with
  | (.inl r2) =>
   some (mk0 r2)
  | (.inr r2) =>
   some (mk1 r2)
def Fbh.m (n : Nat) (t : (LI × (LI × LI))) : Option (LI ⊕ LI) := Fbh.g (fun a0 => (.inl a0)) (fun a0 => (.inr a0)) n t.1 t.2.1 t.2.2
end
end
section
noncomputable section
def Faj.l2_0.r {α : Type} (mk0 : LI → α) (n : Nat) (rc : LI → Option α)  (x0 : LI) : Option α :=
  if (decide ((((List.length x0) : Nat) : Int) < 25)) = true then
   if ((((List.length x0) + 1) * 8) ≤ 70368744177664 ∧ ((List.length x0) + 1) ≤ 9223372036854775807) then
    rc (x0 ++ [0])
   else
    none
  else
   some (mk0 x0)
def Faj.l2_0.g {α : Type} (mk0 : LI → α) (n : Nat) : Nat → LI → Option α
 | 0, _ => none
 | m + 1, x0 => Faj.l2_0.r mk0 n (fun y0 => Faj.l2_0.g mk0 n m y0)  x0
def Faj.l2_0.m (n m : Nat) (t : LI) : Option LI := Faj.l2_0.g (fun a0 => a0) n m t
def Faj.l7_0.r {α : Type} (mk0 : LI → α) (n : Nat) (rc : Int → Int → Int → LI → Option α)  (x0 : Int) (x1 : Int) (x2 : Int) (x3 : LI) : Option α :=
  if (decide (x0 < 24)) = true then
   if 0 ≤ (IntKind.wrap .i64 ((IntKind.wrap .i64 (5 * x1)) + x2)) then
    if (IntKind.wrap .i64 ((IntKind.wrap .i64 (5 * x1)) + x2)) < (((List.length x3) : Nat) : Int) then
     rc (IntKind.wrap .i64 (x0 + 1)) (Int.tmod (IntKind.wrap .i64 ((IntKind.wrap .i64 (2 * x2)) + (IntKind.wrap .i64 (3 * x1)))) 5) x1 (List.set x3 (Int.toNat (IntKind.wrap .i64 ((IntKind.wrap .i64 (5 * x1)) + x2))) (Int.tmod (IntKind.wrap .i64 (Int.tdiv (IntKind.wrap .i64 ((IntKind.wrap .i64 (x0 + 1)) * (IntKind.wrap .i64 (x0 + 2)))) 2)) 64))
    else
     none
   else
    none
  else
   some (mk0 x3)
def Faj.l7_0.g {α : Type} (mk0 : LI → α) (n : Nat) : Nat → Int → Int → Int → LI → Option α
 | 0, _, _, _, _ => none
 | m + 1, x0, x1, x2, x3 => Faj.l7_0.r mk0 n (fun y0 y1 y2 y3 => Faj.l7_0.g mk0 n m y0 y1 y2 y3)  x0 x1 x2 x3
def Faj.l7_0.m (n m : Nat) (t : (Int × (Int × (Int × LI)))) : Option LI := Faj.l7_0.g (fun a0 => a0) n m t.1 t.2.1 t.2.2.1 t.2.2.2
def Faj.g {α : Type} (mk0 : LI → α) (n : Nat)  : Option α :=
 bindO (Faj.l2_0.m n n [0]) fun r2 =>
  bindO (Faj.l7_0.m n n (0, 0, 1, r2)) fun r4 =>
   some (mk0 r4)
def Faj.m (n : Nat) (t : Unit) : Option LI := Faj.g (fun a0 => a0) n 
end
end
section
noncomputable section
def Fat.l9_0.r {α : Type} (mk0 : Int → Int → Int → LI → α) (n : Nat) (rc : Int → Int → Int → Int → Int → LI → Option α)  (x0 : Int) (x1 : Int) (x2 : Int) (x3 : Int) (x4 : Int) (x5 : LI) : Option α :=
  if (decide (x0 < 7)) = true then
   if ((Int.tmod x1 2) == 1) = true then
    if 0 ≤ (IntKind.wrap .u64 (IntKind.wrap .i64 (x3 - 1))) then
     if (decide ((IntKind.wrap .i64 (2 * x1)) ≥ 256)) = true then
      rc (IntKind.wrap .i64 (x0 + 1)) (ibits BinOp.xor .i64 (IntKind.wrap .i64 (2 * x1)) 369) (ibits BinOp.or .u64 x2 (ishl .u64 1 (IntKind.wrap .u64 (IntKind.wrap .i64 (x3 - 1))))) (IntKind.wrap .i64 (2 * x3)) x4 x5
     else
      rc (IntKind.wrap .i64 (x0 + 1)) (IntKind.wrap .i64 (2 * x1)) (ibits BinOp.or .u64 x2 (ishl .u64 1 (IntKind.wrap .u64 (IntKind.wrap .i64 (x3 - 1))))) (IntKind.wrap .i64 (2 * x3)) x4 x5
    else
     none
   else
    if (decide ((IntKind.wrap .i64 (2 * x1)) ≥ 256)) = true then
     rc (IntKind.wrap .i64 (x0 + 1)) (ibits BinOp.xor .i64 (IntKind.wrap .i64 (2 * x1)) 369) x2 (IntKind.wrap .i64 (2 * x3)) x4 x5
    else
     rc (IntKind.wrap .i64 (x0 + 1)) (IntKind.wrap .i64 (2 * x1)) x2 (IntKind.wrap .i64 (2 * x3)) x4 x5
  else
   some (mk0 x2 x4 x1 x5)
def Fat.l9_0.g {α : Type} (mk0 : Int → Int → Int → LI → α) (n : Nat) : Nat → Int → Int → Int → Int → Int → LI → Option α
 | 0, _, _, _, _, _, _ => none
 | m + 1, x0, x1, x2, x3, x4, x5 => Fat.l9_0.r mk0 n (fun y0 y1 y2 y3 y4 y5 => Fat.l9_0.g mk0 n m y0 y1 y2 y3 y4 y5)  x0 x1 x2 x3 x4 x5
def Fat.l9_0.m (n m : Nat) (t : (Int × (Int × (Int × (Int × (Int × LI)))))) : Option (Int × (Int × (Int × LI))) := Fat.l9_0.g (fun a0 a1 a2 a3 => (a0, a1, a2, a3)) n m t.1 t.2.1 t.2.2.1 t.2.2.2.1 t.2.2.2.2.1 t.2.2.2.2.2
def Fat.l4_0.r {α : Type} (mk0 : LI → α) (n : Nat) (rc : Int → Int → LI → Option α)  (x0 : Int) (x1 : Int) (x2 : LI) : Option α :=
  if (decide (x0 < 24)) = true then
   bindO (Fat.l9_0.m n n (0, x1, 0, 1, x0, x2)) fun r6 =>
    if ((((List.length r6.2.2.2) + 1) * 8) ≤ 70368744177664 ∧ ((List.length r6.2.2.2) + 1) ≤ 9223372036854775807) then
     rc (IntKind.wrap .i64 (r6.2.1 + 1)) r6.2.2.1 (r6.2.2.2 ++ [r6.1])
    else
     none
  else
   some (mk0 x2)
def Fat.l4_0.g {α : Type} (mk0 : LI → α) (n : Nat) : Nat → Int → Int → LI → Option α
 | 0, _, _, _ => none
 | m + 1, x0, x1, x2 => Fat.l4_0.r mk0 n (fun y0 y1 y2 => Fat.l4_0.g mk0 n m y0 y1 y2)  x0 x1 x2
def Fat.l4_0.m (n m : Nat) (t : (Int × (Int × LI))) : Option LI := Fat.l4_0.g (fun a0 => a0) n m t.1 t.2.1 t.2.2
def Fat.g {α : Type} (mk0 : LI → α) (n : Nat)  : Option α :=
 bindO (Fat.l4_0.m n n (0, 1, [])) fun r2 =>
  some (mk0 r2)
def Fat.m (n : Nat) (t : Unit) : Option LI := Fat.g (fun a0 => a0) n 
end
end
section
noncomputable section
noncomputable def Fe.C (n : Nat) : Ctx := ⟨Tryd.prog, abiG, lookC [(111, Fg.c n)], fun _ => false⟩
def Fe.live : NL := fun k => match k with
 | 1 => ([8, 7, 6, 0], [0])
 | _ => ([], [])
def Fe.l1_0.r {α : Type} (mk0 : LI → α) (n : Nat) (rc : Int → Int → LI → LI → Option α)  (x0 : Int) (x1 : Int) (x2 : LI) (x3 : LI) : Option α :=
  if (decide (x0 < x1)) = true then
   if 0 ≤ x0 then
    if x0 < (((List.length x2) : Nat) : Int) then
     if 0 ≤ (IntKind.wrap .i64 (Int.tdiv x0 8)) then
      if (IntKind.wrap .i64 (Int.tdiv x0 8)) < 25 then
       if 0 ≤ (IntKind.wrap .i64 ((Int.tmod x0 8) * 8)) then
        if 0 ≤ (IntKind.wrap .i64 (Int.tdiv x0 8)) then
         if (IntKind.wrap .i64 (Int.tdiv x0 8)) < 25 then
          rc (IntKind.wrap .i64 (x0 + 1)) x1 x2 (List.set x3 (Int.toNat (IntKind.wrap .i64 (Int.tdiv x0 8))) (ibits BinOp.xor .u64 (List.getD x3 (Int.toNat (IntKind.wrap .i64 (Int.tdiv x0 8))) 0) (ishl .u64 (IntKind.wrap .u64 (List.getD x2 (Int.toNat x0) 0)) (IntKind.wrap .i64 ((Int.tmod x0 8) * 8)))))
         else
          none
        else
         none
       else
        none
      else
       none
     else
      none
    else
     none
   else
    none
  else
   some (mk0 x3)
def Fe.l1_0.g {α : Type} (mk0 : LI → α) (n : Nat) : Nat → Int → Int → LI → LI → Option α
 | 0, _, _, _, _ => none
 | m + 1, x0, x1, x2, x3 => Fe.l1_0.r mk0 n (fun y0 y1 y2 y3 => Fe.l1_0.g mk0 n m y0 y1 y2 y3)  x0 x1 x2 x3
def Fe.l1_0.m (n m : Nat) (t : (Int × (Int × (LI × LI)))) : Option LI := Fe.l1_0.g (fun a0 => a0) n m t.1 t.2.1 t.2.2.1 t.2.2.2
def Fe.l1_0.pat : St → Option (Int × (Int × (LI × LI)))
 | (St.mk [(.int .i64 x0), (.int .i64 x1), (.rints .u8 x2), (.ptr 0 [])] [(some (.var (.ints .u64 25 x3)))]) => some (x0, x1, x2, x3)
 | _ => none
def Fe.l1_0.shape (t : (Int × (Int × (LI × LI)))) : St := (St.mk [(.int .i64 t.1), (.int .i64 t.2.1), (.rints .u8 t.2.2.1), (.ptr 0 [])] [(some (.var (.ints .u64 25 t.2.2.2)))])
def Fe.l1_0.res : LI → Ex × St
 | u => ((.exit 0), (St.mk [(.ptr 0 [])] [(some (.var (.ints .u64 25 u)))]))
def Fe.l1_0.resK {R : Type} (u : LI) (K : Ex → St → Option R) : Option R := K (Fe.l1_0.res u).1 (Fe.l1_0.res u).2
noncomputable def Fe.A (n : Nat) : Ann := ⟨Tryd.f93.ntmps, 1, Fe.live, [(6, (.ints .u8))], [], fun k => match k with
 | 1 => some (.mk' Fe.l1_0.pat (Fe.l1_0.m n n) Fe.l1_0.resK)
 | _ => none, noNL, lookJ []⟩
noncomputable def Fe.b0 : Code := (loopsIn (Tryd.f93.body.getD .skip)).getD 0 .skip
def Fe.g {α : Type} (mk0 : LI → α) (n : Nat) (b : LI) (s : LI) : Option α :=
 bindO (Fe.l1_0.m n n (0, (((List.length b) : Nat) : Int), b, s)) fun r2 =>
  bindO (Fg.m n r2) fun r4 =>
   some (mk0 r4)
def Fe.m (n : Nat) (t : (LI × LI)) : Option LI := Fe.g (fun a0 => a0) n t.1 t.2
def Fe.pat : List AV → Blks → Option (LI × LI)
 | [(.ptr 0 []), (.rints .u8 b)], [(some (.var (.ints .u64 25 s)))] => some (b, s)
 | _, _ => none
def Fe.shape (t : (LI × LI)) : List AV × Blks := ([(.ptr 0 []), (.rints .u8 t.1)], [(some (.var (.ints .u64 25 t.2)))])
def Fe.res : LI → AV × Blks
 | u => ((.tup []), [(some (.var (.ints .u64 25 u)))])
def Fe.resK {R : Type} (u : LI) (K : AV → Blks → Option R) : Option R := K (Fe.res u).1 (Fe.res u).2
def Fe.c (n : Nat) : Abs.Callee := .mk' [true, false] [none, (some (.ints .u8))] Fe.pat (Fe.m n) Fe.resK
end
end
section
noncomputable section
noncomputable def Fak.C (n : Nat) : Ctx := ⟨Tryd.prog, abiG, lookC [], fun _ => false⟩
def Fak.live : NL := fun k => match k with
 | 4 => ([13, 12, 3, 0, 2], [3, 2])
 | _ => ([], [])
def Fak.l4_0.r {α : Type} (mk0 : LI → LI → α) (n : Nat) (rc : Int → Int → LI → LI → LI → Option α)  (x0 : Int) (x1 : Int) (x2 : LI) (x3 : LI) (x4 : LI) : Option α :=
  if (decide (x0 < x1)) = true then
   if 0 ≤ (IntKind.wrap .i64 (Int.tdiv x0 8)) then
    if (IntKind.wrap .i64 (Int.tdiv x0 8)) < 4 then
     if 0 ≤ (IntKind.wrap .i64 ((IntKind.wrap .i64 ((((List.length x2) : Nat) : Int) - 1)) - x0)) then
      if (IntKind.wrap .i64 ((IntKind.wrap .i64 ((((List.length x2) : Nat) : Int) - 1)) - x0)) < (((List.length x2) : Nat) : Int) then
       if 0 ≤ (IntKind.wrap .i64 ((Int.tmod x0 8) * 8)) then
        if 0 ≤ (IntKind.wrap .i64 (Int.tdiv x0 8)) then
         if (IntKind.wrap .i64 (Int.tdiv x0 8)) < 4 then
          rc (IntKind.wrap .i64 (x0 + 1)) x1 x2 (List.set x3 (Int.toNat (IntKind.wrap .i64 (Int.tdiv x0 8))) (ibits BinOp.or .u64 (List.getD x3 (Int.toNat (IntKind.wrap .i64 (Int.tdiv x0 8))) 0) (ishl .u64 (IntKind.wrap .u64 (List.getD x2 (Int.toNat (IntKind.wrap .i64 ((IntKind.wrap .i64 ((((List.length x2) : Nat) : Int) - 1)) - x0))) 0)) (IntKind.wrap .i64 ((Int.tmod x0 8) * 8))))) x4
         else
          none
        else
         none
       else
        none
      else
       none
     else
      none
    else
     none
   else
    none
  else
   some (mk0 x3 x4)
def Fak.l4_0.g {α : Type} (mk0 : LI → LI → α) (n : Nat) : Nat → Int → Int → LI → LI → LI → Option α
 | 0, _, _, _, _, _ => none
 | m + 1, x0, x1, x2, x3, x4 => Fak.l4_0.r mk0 n (fun y0 y1 y2 y3 y4 => Fak.l4_0.g mk0 n m y0 y1 y2 y3 y4)  x0 x1 x2 x3 x4
def Fak.l4_0.m (n m : Nat) (t : (Int × (Int × (LI × (LI × LI))))) : Option (LI × LI) := Fak.l4_0.g (fun a0 a1 => (a0, a1)) n m t.1 t.2.1 t.2.2.1 t.2.2.2.1 t.2.2.2.2
def Fak.l4_0.pat : St → Option (Int × (Int × (LI × (LI × LI))))
 | (St.mk [(.int .i64 x0), (.int .i64 x1), (.ptr 0 []), (.rints .u8 x2), (.ptr 1 [])] [(some (.var (.ints .u64 4 x3))), (some (.var (.ints .u64 4 x4)))]) => some (x0, x1, x2, x3, x4)
 | _ => none
def Fak.l4_0.shape (t : (Int × (Int × (LI × (LI × LI))))) : St := (St.mk [(.int .i64 t.1), (.int .i64 t.2.1), (.ptr 0 []), (.rints .u8 t.2.2.1), (.ptr 1 [])] [(some (.var (.ints .u64 4 t.2.2.2.1))), (some (.var (.ints .u64 4 t.2.2.2.2)))])
def Fak.l4_0.res : (LI × LI) → Ex × St
 | u => ((.exit 0), (St.mk [(.ptr 0 []), (.ptr 1 [])] [(some (.var (.ints .u64 4 u.1))), (some (.var (.ints .u64 4 u.2)))]))
def Fak.l4_0.resK {R : Type} (u : (LI × LI)) (K : Ex → St → Option R) : Option R := K (Fak.l4_0.res u).1 (Fak.l4_0.res u).2
noncomputable def Fak.A (n : Nat) : Ann := ⟨Tryd.f89.ntmps, 0, Fak.live, [(0, (.ints .u8))], [none], fun k => match k with
 | 4 => some (.mk' Fak.l4_0.pat (Fak.l4_0.m n n) Fak.l4_0.resK)
 | _ => none, noNL, lookJ []⟩
noncomputable def Fak.b0 : Code := (loopsIn (Tryd.f89.body.getD .skip)).getD 0 .skip
def Fak.g {α : Type} (mk0 : LI → α) (n : Nat) (a0 : LI) : Option α :=
 if 0 ≤ (if 0 > (IntKind.wrap .i64 ((((List.length a0) : Nat) : Int) - 32)) then 0 else (IntKind.wrap .i64 ((((List.length a0) : Nat) : Int) - 32))) then
  if (if 0 > (IntKind.wrap .i64 ((((List.length a0) : Nat) : Int) - 32)) then 0 else (IntKind.wrap .i64 ((((List.length a0) : Nat) : Int) - 32))) ≤ (((List.length a0) : Nat) : Int) then
   bindO (Fak.l4_0.m n n (0, (((List.length (Go.Abs.cut a0 (Int.toNat (if 0 > (IntKind.wrap .i64 ((((List.length a0) : Nat) : Int) - 32)) then 0 else (IntKind.wrap .i64 ((((List.length a0) : Nat) : Int) - 32)))) (Option.none))) : Nat) : Int), (Go.Abs.cut a0 (Int.toNat (if 0 > (IntKind.wrap .i64 ((((List.length a0) : Nat) : Int) - 32)) then 0 else (IntKind.wrap .i64 ((((List.length a0) : Nat) : Int) - 32)))) (Option.none)), [0, 0, 0, 0], [0, 0, 0, 0])) fun r6 =>
    some (mk0 r6.1)
  else
   none
 else
  none
def Fak.m (n : Nat) (t : LI) : Option LI := Fak.g (fun a0 => a0) n t
def Fak.pat : List AV → Blks → Option LI
 | [(.rints .u8 a0)], [] => some a0
 | _, _ => none
def Fak.shape (t : LI) : List AV × Blks := ([(.rints .u8 t)], [])
def Fak.res : LI → AV × Blks
 | u => ((.ints .u64 4 u), [])
def Fak.resK {R : Type} (u : LI) (K : AV → Blks → Option R) : Option R := K (Fak.res u).1 (Fak.res u).2
def Fak.c (n : Nat) : Abs.Callee := .mk' [] [(some (.ints .u8))] Fak.pat (Fak.m n) Fak.resK
end
end
section
noncomputable section
noncomputable def Fw.C (n : Nat) : Ctx := ⟨Tryd.prog, abiG, lookC [(93, Fe.c n), (89, Fak.c n)], fun _ => false⟩
def Fw.live : NL := fun k => match k with
 | 2 => ([0, 3, 2], [0, 3, 2])
 | 12 => ([30, 3, 5, 2], [5, 2])
 | _ => ([], [])
def Fw.l2_0.r {α : Type} (mk0 : LI → LI → LI → α) (n : Nat) (rc : LI → LI → LI → Option α)  (x0 : LI) (x1 : LI) (x2 : LI) : Option α :=
  if (decide ((((List.length x0) : Nat) : Int) ≥ 136)) = true then
   if 136 ≤ (((List.length x0) : Nat) : Int) then
    bindO (Fe.m n ((Go.Abs.cut x0 0 (Option.some 136)), x1)) fun r8 =>
     if 136 ≤ (((List.length x0) : Nat) : Int) then
      rc (Go.Abs.cut x0 136 (Option.none)) r8 x2
     else
      none
   else
    none
  else
   some (mk0 x0 x1 x2)
def Fw.l2_0.g {α : Type} (mk0 : LI → LI → LI → α) (n : Nat) : Nat → LI → LI → LI → Option α
 | 0, _, _, _ => none
 | m + 1, x0, x1, x2 => Fw.l2_0.r mk0 n (fun y0 y1 y2 => Fw.l2_0.g mk0 n m y0 y1 y2)  x0 x1 x2
def Fw.l2_0.m (n m : Nat) (t : (LI × (LI × LI))) : Option (LI × (LI × LI)) := Fw.l2_0.g (fun a0 a1 a2 => (a0, a1, a2)) n m t.1 t.2.1 t.2.2
def Fw.l2_0.pat : St → Option (LI × (LI × LI))
 | (St.mk [(.rints .u8 x0), (.ptr 0 []), (.ptr 1 [])] [(some (.var (.ints .u64 25 x1))), (some (.var (.ints .u64 4 x2)))]) => some (x0, x1, x2)
 | _ => none
def Fw.l2_0.shape (t : (LI × (LI × LI))) : St := (St.mk [(.rints .u8 t.1), (.ptr 0 []), (.ptr 1 [])] [(some (.var (.ints .u64 25 t.2.1))), (some (.var (.ints .u64 4 t.2.2)))])
def Fw.l2_0.res : (LI × (LI × LI)) → Ex × St
 | u => ((.exit 0), (St.mk [(.rints .u8 u.1), (.ptr 0 []), (.ptr 1 [])] [(some (.var (.ints .u64 25 u.2.1))), (some (.var (.ints .u64 4 u.2.2)))]))
def Fw.l2_0.resK {R : Type} (u : (LI × (LI × LI))) (K : Ex → St → Option R) : Option R := K (Fw.l2_0.res u).1 (Fw.l2_0.res u).2
def Fw.l12_0.r {α : Type} (mk0 : LI → LI → α) (n : Nat) (rc : Int → LI → LI → LI → Option α)  (x0 : Int) (x1 : LI) (x2 : LI) (x3 : LI) : Option α :=
  if (decide (x0 < 32)) = true then
   if 0 ≤ (IntKind.wrap .i64 (Int.tdiv x0 8)) then
    if (IntKind.wrap .i64 (Int.tdiv x0 8)) < 25 then
     if 0 ≤ (IntKind.wrap .i64 ((Int.tmod x0 8) * 8)) then
      if 0 ≤ x0 then
       if x0 < 32 then
        rc (IntKind.wrap .i64 (x0 + 1)) x1 (List.set x2 (Int.toNat x0) (IntKind.wrap .u8 (ishr .u64 (List.getD x1 (Int.toNat (IntKind.wrap .i64 (Int.tdiv x0 8))) 0) (IntKind.wrap .i64 ((Int.tmod x0 8) * 8))))) x3
       else
        none
      else
       none
     else
      none
    else
     none
   else
    none
  else
   some (mk0 x2 x3)
def Fw.l12_0.g {α : Type} (mk0 : LI → LI → α) (n : Nat) : Nat → Int → LI → LI → LI → Option α
 | 0, _, _, _, _ => none
 | m + 1, x0, x1, x2, x3 => Fw.l12_0.r mk0 n (fun y0 y1 y2 y3 => Fw.l12_0.g mk0 n m y0 y1 y2 y3)  x0 x1 x2 x3
def Fw.l12_0.m (n m : Nat) (t : (Int × (LI × (LI × LI)))) : Option (LI × LI) := Fw.l12_0.g (fun a0 a1 => (a0, a1)) n m t.1 t.2.1 t.2.2.1 t.2.2.2
def Fw.l12_0.pat : St → Option (Int × (LI × (LI × LI)))
 | (St.mk [(.int .i64 x0), (.ptr 0 []), (.ptr 1 []), (.ptr 2 [])] [(some (.var (.ints .u64 25 x1))), (some (.var (.ints .u8 32 x2))), (some (.var (.ints .u64 4 x3)))]) => some (x0, x1, x2, x3)
 | _ => none
def Fw.l12_0.shape (t : (Int × (LI × (LI × LI)))) : St := (St.mk [(.int .i64 t.1), (.ptr 0 []), (.ptr 1 []), (.ptr 2 [])] [(some (.var (.ints .u64 25 t.2.1))), (some (.var (.ints .u8 32 t.2.2.1))), (some (.var (.ints .u64 4 t.2.2.2)))])
def Fw.l12_0.res : (LI × LI) → Ex × St
 | u => ((.exit 2), (St.mk [(.ptr 0 []), (.ptr 1 [])] [(some (.var (.ints .u8 32 u.1))), (some (.var (.ints .u64 4 u.2)))]))
def Fw.l12_0.resK {R : Type} (u : (LI × LI)) (K : Ex → St → Option R) : Option R := K (Fw.l12_0.res u).1 (Fw.l12_0.res u).2
noncomputable def Fw.A (n : Nat) : Ann := ⟨Tryd.f57.ntmps, 0, Fw.live, [(0, (.ints .u8))], [none], fun k => match k with
 | 2 => some (.mk' Fw.l2_0.pat (Fw.l2_0.m n n) Fw.l2_0.resK)
 | 12 => some (.mk' Fw.l12_0.pat (Fw.l12_0.m n n) Fw.l12_0.resK)
 | _ => none, noNL, lookJ []⟩
noncomputable def Fw.b0 : Code := (loopsIn (Tryd.f57.body.getD .skip)).getD 0 .skip
noncomputable def Fw.b1 : Code := (loopsIn (Tryd.f57.body.getD .skip)).getD 1 .skip
def Fw.g {α : Type} (mk0 : LI → α) (n : Nat) (a0 : LI) : Option α :=
 bindO (Fw.l2_0.m n n (a0, ([0, 0, 0, 0, 0, 0, 0, 0, 0, 0, 0, 0, 0, 0, 0, 0, 0, 0, 0, 0, 0, 0, 0, 0, 0] : List Int), [0, 0, 0, 0])) fun r2 =>
  if (((List.length r2.1) : Nat) : Int) < 136 then
   if (((List.length r2.1) : Nat) : Int) < 136 then
    bindO (Fe.m n ((List.take 136 (List.drop 0 (List.set (List.set ([] ++ ((List.take 136 r2.1) ++ (List.drop (0 + (Min.min (List.length r2.1) 136)) ([0, 0, 0, 0, 0, 0, 0, 0, 0, 0, 0, 0, 0, 0, 0, 0, 0, 0, 0, 0, 0, 0, 0, 0, 0, 0, 0, 0, 0, 0, 0, 0, 0, 0, 0, 0, 0, 0, 0, 0, 0, 0, 0, 0, 0, 0, 0, 0, 0, 0, 0, 0, 0, 0, 0, 0, 0, 0, 0, 0, 0, 0, 0, 0, 0, 0, 0, 0, 0, 0, 0, 0, 0, 0, 0, 0, 0, 0, 0, 0, 0, 0, 0, 0, 0, 0, 0, 0, 0, 0, 0, 0, 0, 0, 0, 0, 0, 0, 0, 0, 0, 0, 0, 0, 0, 0, 0, 0, 0, 0, 0, 0, 0, 0, 0, 0, 0, 0, 0, 0, 0, 0, 0, 0, 0, 0, 0, 0, 0, 0, 0, 0, 0, 0, 0, 0] : List Int)))) (Int.toNat (((List.length r2.1) : Nat) : Int)) (ibits BinOp.xor .u8 (List.getD ([] ++ ((List.take 136 r2.1) ++ (List.drop (0 + (Min.min (List.length r2.1) 136)) ([0, 0, 0, 0, 0, 0, 0, 0, 0, 0, 0, 0, 0, 0, 0, 0, 0, 0, 0, 0, 0, 0, 0, 0, 0, 0, 0, 0, 0, 0, 0, 0, 0, 0, 0, 0, 0, 0, 0, 0, 0, 0, 0, 0, 0, 0, 0, 0, 0, 0, 0, 0, 0, 0, 0, 0, 0, 0, 0, 0, 0, 0, 0, 0, 0, 0, 0, 0, 0, 0, 0, 0, 0, 0, 0, 0, 0, 0, 0, 0, 0, 0, 0, 0, 0, 0, 0, 0, 0, 0, 0, 0, 0, 0, 0, 0, 0, 0, 0, 0, 0, 0, 0, 0, 0, 0, 0, 0, 0, 0, 0, 0, 0, 0, 0, 0, 0, 0, 0, 0, 0, 0, 0, 0, 0, 0, 0, 0, 0, 0, 0, 0, 0, 0, 0, 0] : List Int)))) (Int.toNat (((List.length r2.1) : Nat) : Int)) 0) 1)) 135 (ibits BinOp.xor .u8 (List.getD (List.set ([] ++ ((List.take 136 r2.1) ++ (List.drop (0 + (Min.min (List.length r2.1) 136)) ([0, 0, 0, 0, 0, 0, 0, 0, 0, 0, 0, 0, 0, 0, 0, 0, 0, 0, 0, 0, 0, 0, 0, 0, 0, 0, 0, 0, 0, 0, 0, 0, 0, 0, 0, 0, 0, 0, 0, 0, 0, 0, 0, 0, 0, 0, 0, 0, 0, 0, 0, 0, 0, 0, 0, 0, 0, 0, 0, 0, 0, 0, 0, 0, 0, 0, 0, 0, 0, 0, 0, 0, 0, 0, 0, 0, 0, 0, 0, 0, 0, 0, 0, 0, 0, 0, 0, 0, 0, 0, 0, 0, 0, 0, 0, 0, 0, 0, 0, 0, 0, 0, 0, 0, 0, 0, 0, 0, 0, 0, 0, 0, 0, 0, 0, 0, 0, 0, 0, 0, 0, 0, 0, 0, 0, 0, 0, 0, 0, 0, 0, 0, 0, 0, 0, 0] : List Int)))) (Int.toNat (((List.length r2.1) : Nat) : Int)) (ibits BinOp.xor .u8 (List.getD ([] ++ ((List.take 136 r2.1) ++ (List.drop (0 + (Min.min (List.length r2.1) 136)) ([0, 0, 0, 0, 0, 0, 0, 0, 0, 0, 0, 0, 0, 0, 0, 0, 0, 0, 0, 0, 0, 0, 0, 0, 0, 0, 0, 0, 0, 0, 0, 0, 0, 0, 0, 0, 0, 0, 0, 0, 0, 0, 0, 0, 0, 0, 0, 0, 0, 0, 0, 0, 0, 0, 0, 0, 0, 0, 0, 0, 0, 0, 0, 0, 0, 0, 0, 0, 0, 0, 0, 0, 0, 0, 0, 0, 0, 0, 0, 0, 0, 0, 0, 0, 0, 0, 0, 0, 0, 0, 0, 0, 0, 0, 0, 0, 0, 0, 0, 0, 0, 0, 0, 0, 0, 0, 0, 0, 0, 0, 0, 0, 0, 0, 0, 0, 0, 0, 0, 0, 0, 0, 0, 0, 0, 0, 0, 0, 0, 0, 0, 0, 0, 0, 0, 0] : List Int)))) (Int.toNat (((List.length r2.1) : Nat) : Int)) 0) 1)) 135 0) 128)))), r2.2.1)) fun r8 =>
     bindO (Fw.l12_0.m n n (0, r8, ([0, 0, 0, 0, 0, 0, 0, 0, 0, 0, 0, 0, 0, 0, 0, 0, 0, 0, 0, 0, 0, 0, 0, 0, 0, 0, 0, 0, 0, 0, 0, 0] : List Int), r2.2.2)) fun r10 =>
      bindO (Fak.m n (List.take 32 (List.drop 0 r10.1))) fun r12 =>
       some (mk0 r12)
   else
    none
  else
   none
def Fw.m (n : Nat) (t : LI) : Option LI := Fw.g (fun a0 => a0) n t
def Fw.pat : List AV → Blks → Option LI
 | [(.rints .u8 a0)], [] => some a0
 | _, _ => none
def Fw.shape (t : LI) : List AV × Blks := ([(.rints .u8 t)], [])
def Fw.res : LI → AV × Blks
 | u => ((.ints .u64 4 u), [])
def Fw.resK {R : Type} (u : LI) (K : AV → Blks → Option R) : Option R := K (Fw.res u).1 (Fw.res u).2
def Fw.c (n : Nat) : Abs.Callee := .mk' [] [(some (.ints .u8))] Fw.pat (Fw.m n) Fw.resK
end
end
section
noncomputable abbrev Fe.R0 (n : Nat) := roundOf (Fe.C n) (Fe.A n) n Fe.b0
theorem Fe.l1_0.rmap {α β : Type} (h : β → α) (mk0 : LI → β) (n : Nat) (f : Int → Int → LI → LI → Option β)  (x0 : Int) (x1 : Int) (x2 : LI) (x3 : LI) : Fe.l1_0.r (fun a0 => (h (mk0 a0))) n (fun y0 y1 y2 y3 => (f y0 y1 y2 y3).map h) x0 x1 x2 x3 = (Fe.l1_0.r mk0 n f x0 x1 x2 x3).map h := by
  unfold Fe.l1_0.r
  exact (ite_map (ite_map (ite_map (ite_map (ite_map (ite_map (ite_map (ite_map rfl rfl) rfl) rfl) rfl) rfl) rfl) rfl) rfl)
theorem Fe.l1_0.gmap {α β : Type} (h : β → α) (mk0 : LI → β) (n : Nat) : ∀ (m : Nat) (x0 : Int) (x1 : Int) (x2 : LI) (x3 : LI), Fe.l1_0.g (fun a0 => (h (mk0 a0))) n m x0 x1 x2 x3 = (Fe.l1_0.g mk0 n m x0 x1 x2 x3).map h
  | 0, _, _, _, _ => rfl
  | m + 1, x0, x1, x2, x3 => by
    unfold Fe.l1_0.g
    rw [← Fe.l1_0.rmap]
    congr
    · funext y0 y1 y2 y3; exact Fe.l1_0.gmap h mk0 n m y0 y1 y2 y3
theorem Fe.l1_0.pat_shape : ∀ st t, Fe.l1_0.pat st = some t → st = Fe.l1_0.shape t := fun _ _ h => by unfold Fe.l1_0.pat at h; split at h <;> cases h; rfl
def Fe.l1_0.k0 : LI → Ex × St := (fun a0 => (((.exit 0), (St.mk [(.ptr 0 [])] [(some (.var (.ints .u64 25 a0)))])) : Ex × St))
theorem Fe.l1_0.round (n : Nat) (rc : St → Option (Ex × St)) (x0 : Int) (x1 : Int) (x2 : LI) (x3 : LI) : Fe.R0 n rc ((St.mk [(.int .i64 x0), (.int .i64 x1), (.rints .u8 x2), (.ptr 0 [])] [(some (.var (.ints .u64 25 x3)))])) = Fe.l1_0.r Fe.l1_0.k0 n (fun y0 y1 y2 y3 => rc ((St.mk [(.int .i64 y0), (.int .i64 y1), (.rints .u8 y2), (.ptr 0 [])] [(some (.var (.ints .u64 25 y3)))]))) x0 x1 x2 x3 := by kernel_rfl
theorem Fe.l1_0.loop' (n : Nat) : ∀ (m : Nat) (t : (Int × (Int × (LI × LI)))), loopOf (Fe.R0 n) m (Fe.l1_0.shape t) = Fe.l1_0.g Fe.l1_0.k0 n m t.1 t.2.1 t.2.2.1 t.2.2.2 :=
  loop_of_round (shape := Fe.l1_0.shape) (body := Fe.R0 n) (g := fun m t => Fe.l1_0.g Fe.l1_0.k0 n m t.1 t.2.1 t.2.2.1 t.2.2.2) (fun t => rfl)
    fun m t ih => (Fe.l1_0.round n (loopOf (Fe.R0 n) m) t.1 t.2.1 t.2.2.1 t.2.2.2).trans (congrFun (congrFun (congrFun (congrFun (congrArg (Fe.l1_0.r Fe.l1_0.k0 n) (funext fun y0 => funext fun y1 => funext fun y2 => funext fun y3 => ih (y0, y1, y2, y3))) t.1) t.2.1) t.2.2.1) t.2.2.2)
theorem Fe.l1_0.loop (n m : Nat) (t : (Int × (Int × (LI × LI)))) : loopOf (Fe.R0 n) m (Fe.l1_0.shape t) = (Fe.l1_0.m n m t).map Fe.l1_0.res :=
  (Fe.l1_0.loop' n m t).trans (Fe.l1_0.gmap Fe.l1_0.res (fun a0 => a0) n m t.1 t.2.1 t.2.2.1 t.2.2.2)
theorem Fe.gmap {α β : Type} (h : β → α) (mk0 : LI → β) (n : Nat) (b : LI) (s : LI) : Fe.g (fun a0 => (h (mk0 a0))) n b s = (Fe.g mk0 n b s).map h := by
  unfold Fe.g
  exact (bindO_map fun r2 => (bindO_map fun r4 => rfl))
theorem Fe.run (n : Nat) (b : LI) (s : LI) : runF (Fe.C n) (Fe.A n) n Tryd.f93 [(.ptr 0 []), (.rints .u8 b)] [(some (.var (.ints .u64 25 s)))] (fun v o => some (v, o)) = Fe.g (fun a0 => (((.tup []), [(some (.var (.ints .u64 25 a0)))]) : AV × Blks)) n b s := by kernel_rfl
theorem Fe.call (hmix : Tryd.prog.follows .mixedOrders = true) (n : Nat) (t : (LI × LI)) (u) (h : Fe.m n t = some u) : FnC Tryd.prog abiG 93 (Fe.shape t).1 (Fe.shape t).2 (Fe.res u).1 (Fe.res u).2 :=
  fnC1 (C := Fe.C n) (A := Fe.A n) (fn := Tryd.f93) rfl (.cons (Fg.s hmix n) .nil) hmix Tryd.func93 (by kernel_rfl) (lp := [Fe.b0]) (by kernel_rfl) (.cons (show (Fe.A n).loop (key Fe.b0) = some (.mk' Fe.l1_0.pat (Fe.l1_0.m n n) Fe.l1_0.resK) by kernel_rfl) (LoopS.of (res := Fe.l1_0.res) (fun R u K => rfl) Fe.l1_0.pat_shape fun t => Fe.l1_0.loop n n t)
  .nil)
  (nj rfl) (by decide) rfl rfl (by show 2 ≤ Tryd.f93.ntmps; decide) (Fe.run n t.1 t.2) (Fe.gmap Fe.res (fun a0 => a0) n t.1 t.2) h
theorem Fe.s (hmix : Tryd.prog.follows .mixedOrders = true) (n : Nat) : CalleeS Tryd.prog abiG 93 (Fe.c n) :=
  .mk1 (res := Fe.res) (shape := Fe.shape) (fun R u K => rfl) (fun _ _ _ h => by unfold Fe.pat at h; split at h <;> cases h; rfl) (fun t u h => Fe.call hmix n t u h) Tryd.func93 (by decide) (by kernel_rfl)
end
section
noncomputable abbrev Fak.R0 (n : Nat) := roundOf (Fak.C n) (Fak.A n) n Fak.b0
theorem Fak.l4_0.rmap {α β : Type} (h : β → α) (mk0 : LI → LI → β) (n : Nat) (f : Int → Int → LI → LI → LI → Option β)  (x0 : Int) (x1 : Int) (x2 : LI) (x3 : LI) (x4 : LI) : Fak.l4_0.r (fun a0 a1 => (h (mk0 a0 a1))) n (fun y0 y1 y2 y3 y4 => (f y0 y1 y2 y3 y4).map h) x0 x1 x2 x3 x4 = (Fak.l4_0.r mk0 n f x0 x1 x2 x3 x4).map h := by
  unfold Fak.l4_0.r
  exact (ite_map (ite_map (ite_map (ite_map (ite_map (ite_map (ite_map (ite_map rfl rfl) rfl) rfl) rfl) rfl) rfl) rfl) rfl)
theorem Fak.l4_0.gmap {α β : Type} (h : β → α) (mk0 : LI → LI → β) (n : Nat) : ∀ (m : Nat) (x0 : Int) (x1 : Int) (x2 : LI) (x3 : LI) (x4 : LI), Fak.l4_0.g (fun a0 a1 => (h (mk0 a0 a1))) n m x0 x1 x2 x3 x4 = (Fak.l4_0.g mk0 n m x0 x1 x2 x3 x4).map h
  | 0, _, _, _, _, _ => rfl
  | m + 1, x0, x1, x2, x3, x4 => by
    unfold Fak.l4_0.g
    rw [← Fak.l4_0.rmap]
    congr
    · funext y0 y1 y2 y3 y4; exact Fak.l4_0.gmap h mk0 n m y0 y1 y2 y3 y4
theorem Fak.l4_0.pat_shape : ∀ st t, Fak.l4_0.pat st = some t → st = Fak.l4_0.shape t := fun _ _ h => by unfold Fak.l4_0.pat at h; split at h <;> cases h; rfl
def Fak.l4_0.k0 : LI → LI → Ex × St := (fun a0 a1 => (((.exit 0), (St.mk [(.ptr 0 []), (.ptr 1 [])] [(some (.var (.ints .u64 4 a0))), (some (.var (.ints .u64 4 a1)))])) : Ex × St))
theorem Fak.l4_0.round (n : Nat) (rc : St → Option (Ex × St)) (x0 : Int) (x1 : Int) (x2 : LI) (x3 : LI) (x4 : LI) : Fak.R0 n rc ((St.mk [(.int .i64 x0), (.int .i64 x1), (.ptr 0 []), (.rints .u8 x2), (.ptr 1 [])] [(some (.var (.ints .u64 4 x3))), (some (.var (.ints .u64 4 x4)))])) = Fak.l4_0.r Fak.l4_0.k0 n (fun y0 y1 y2 y3 y4 => rc ((St.mk [(.int .i64 y0), (.int .i64 y1), (.ptr 0 []), (.rints .u8 y2), (.ptr 1 [])] [(some (.var (.ints .u64 4 y3))), (some (.var (.ints .u64 4 y4)))]))) x0 x1 x2 x3 x4 := by kernel_rfl
theorem Fak.l4_0.loop' (n : Nat) : ∀ (m : Nat) (t : (Int × (Int × (LI × (LI × LI))))), loopOf (Fak.R0 n) m (Fak.l4_0.shape t) = Fak.l4_0.g Fak.l4_0.k0 n m t.1 t.2.1 t.2.2.1 t.2.2.2.1 t.2.2.2.2 :=
  loop_of_round (shape := Fak.l4_0.shape) (body := Fak.R0 n) (g := fun m t => Fak.l4_0.g Fak.l4_0.k0 n m t.1 t.2.1 t.2.2.1 t.2.2.2.1 t.2.2.2.2) (fun t => rfl)
    fun m t ih => (Fak.l4_0.round n (loopOf (Fak.R0 n) m) t.1 t.2.1 t.2.2.1 t.2.2.2.1 t.2.2.2.2).trans (congrFun (congrFun (congrFun (congrFun (congrFun (congrArg (Fak.l4_0.r Fak.l4_0.k0 n) (funext fun y0 => funext fun y1 => funext fun y2 => funext fun y3 => funext fun y4 => ih (y0, y1, y2, y3, y4))) t.1) t.2.1) t.2.2.1) t.2.2.2.1) t.2.2.2.2)
theorem Fak.l4_0.loop (n m : Nat) (t : (Int × (Int × (LI × (LI × LI))))) : loopOf (Fak.R0 n) m (Fak.l4_0.shape t) = (Fak.l4_0.m n m t).map Fak.l4_0.res :=
  (Fak.l4_0.loop' n m t).trans (Fak.l4_0.gmap Fak.l4_0.res (fun a0 a1 => (a0, a1)) n m t.1 t.2.1 t.2.2.1 t.2.2.2.1 t.2.2.2.2)
theorem Fak.gmap {α β : Type} (h : β → α) (mk0 : LI → β) (n : Nat) (a0 : LI) : Fak.g (fun a0 => (h (mk0 a0))) n a0 = (Fak.g mk0 n a0).map h := by
  unfold Fak.g
  exact (ite_map (ite_map (bindO_map fun r6 => rfl) rfl) rfl)
theorem Fak.run (n : Nat) (a0 : LI) : runF (Fak.C n) (Fak.A n) n Tryd.f89 [(.rints .u8 a0)] [] (fun v o => some (v, o)) = Fak.g (fun a0 => (((.ints .u64 4 a0), []) : AV × Blks)) n a0 := by kernel_rfl
theorem Fak.call (hmix : Tryd.prog.follows .mixedOrders = true) (n : Nat) (t : LI) (u) (h : Fak.m n t = some u) : FnC Tryd.prog abiG 89 (Fak.shape t).1 (Fak.shape t).2 (Fak.res u).1 (Fak.res u).2 :=
  fnC1 (C := Fak.C n) (A := Fak.A n) (fn := Tryd.f89) rfl .nil hmix Tryd.func89 (by kernel_rfl) (lp := [Fak.b0]) (by kernel_rfl) (.cons (show (Fak.A n).loop (key Fak.b0) = some (.mk' Fak.l4_0.pat (Fak.l4_0.m n n) Fak.l4_0.resK) by kernel_rfl) (LoopS.of (res := Fak.l4_0.res) (fun R u K => rfl) Fak.l4_0.pat_shape fun t => Fak.l4_0.loop n n t)
  .nil)
  (nj rfl) (by decide) rfl rfl (by show 1 ≤ Tryd.f89.ntmps; decide) (Fak.run n t) (Fak.gmap Fak.res (fun a0 => a0) n t) h
theorem Fak.s (hmix : Tryd.prog.follows .mixedOrders = true) (n : Nat) : CalleeS Tryd.prog abiG 89 (Fak.c n) :=
  .mk1 (res := Fak.res) (shape := Fak.shape) (fun R u K => rfl) (fun _ _ _ h => by unfold Fak.pat at h; split at h <;> cases h; rfl) (fun t u h => Fak.call hmix n t u h) Tryd.func89 (by decide) (by kernel_rfl)
end
section
noncomputable abbrev Fw.R0 (n : Nat) := roundOf (Fw.C n) (Fw.A n) n Fw.b0
noncomputable abbrev Fw.R1 (n : Nat) := roundOf (Fw.C n) (Fw.A n) n Fw.b1
theorem Fw.l2_0.rmap {α β : Type} (h : β → α) (mk0 : LI → LI → LI → β) (n : Nat) (f : LI → LI → LI → Option β)  (x0 : LI) (x1 : LI) (x2 : LI) : Fw.l2_0.r (fun a0 a1 a2 => (h (mk0 a0 a1 a2))) n (fun y0 y1 y2 => (f y0 y1 y2).map h) x0 x1 x2 = (Fw.l2_0.r mk0 n f x0 x1 x2).map h := by
  unfold Fw.l2_0.r
  exact (ite_map (ite_map (bindO_map fun r8 => (ite_map rfl rfl)) rfl) rfl)
theorem Fw.l2_0.gmap {α β : Type} (h : β → α) (mk0 : LI → LI → LI → β) (n : Nat) : ∀ (m : Nat) (x0 : LI) (x1 : LI) (x2 : LI), Fw.l2_0.g (fun a0 a1 a2 => (h (mk0 a0 a1 a2))) n m x0 x1 x2 = (Fw.l2_0.g mk0 n m x0 x1 x2).map h
  | 0, _, _, _ => rfl
  | m + 1, x0, x1, x2 => by
    unfold Fw.l2_0.g
    rw [← Fw.l2_0.rmap]
    congr
    · funext y0 y1 y2; exact Fw.l2_0.gmap h mk0 n m y0 y1 y2
theorem Fw.l2_0.pat_shape : ∀ st t, Fw.l2_0.pat st = some t → st = Fw.l2_0.shape t := fun _ _ h => by unfold Fw.l2_0.pat at h; split at h <;> cases h; rfl
def Fw.l2_0.k0 : LI → LI → LI → Ex × St := (fun a0 a1 a2 => (((.exit 0), (St.mk [(.rints .u8 a0), (.ptr 0 []), (.ptr 1 [])] [(some (.var (.ints .u64 25 a1))), (some (.var (.ints .u64 4 a2)))])) : Ex × St))
theorem Fw.l2_0.round (n : Nat) (rc : St → Option (Ex × St)) (x0 : LI) (x1 : LI) (x2 : LI) : Fw.R0 n rc ((St.mk [(.rints .u8 x0), (.ptr 0 []), (.ptr 1 [])] [(some (.var (.ints .u64 25 x1))), (some (.var (.ints .u64 4 x2)))])) = Fw.l2_0.r Fw.l2_0.k0 n (fun y0 y1 y2 => rc ((St.mk [(.rints .u8 y0), (.ptr 0 []), (.ptr 1 [])] [(some (.var (.ints .u64 25 y1))), (some (.var (.ints .u64 4 y2)))]))) x0 x1 x2 := by kernel_rfl
theorem Fw.l2_0.loop' (n : Nat) : ∀ (m : Nat) (t : (LI × (LI × LI))), loopOf (Fw.R0 n) m (Fw.l2_0.shape t) = Fw.l2_0.g Fw.l2_0.k0 n m t.1 t.2.1 t.2.2 :=
  loop_of_round (shape := Fw.l2_0.shape) (body := Fw.R0 n) (g := fun m t => Fw.l2_0.g Fw.l2_0.k0 n m t.1 t.2.1 t.2.2) (fun t => rfl)
    fun m t ih => (Fw.l2_0.round n (loopOf (Fw.R0 n) m) t.1 t.2.1 t.2.2).trans (congrFun (congrFun (congrFun (congrArg (Fw.l2_0.r Fw.l2_0.k0 n) (funext fun y0 => funext fun y1 => funext fun y2 => ih (y0, y1, y2))) t.1) t.2.1) t.2.2)
theorem Fw.l2_0.loop (n m : Nat) (t : (LI × (LI × LI))) : loopOf (Fw.R0 n) m (Fw.l2_0.shape t) = (Fw.l2_0.m n m t).map Fw.l2_0.res :=
  (Fw.l2_0.loop' n m t).trans (Fw.l2_0.gmap Fw.l2_0.res (fun a0 a1 a2 => (a0, a1, a2)) n m t.1 t.2.1 t.2.2)
theorem Fw.l12_0.rmap {α β : Type} (h : β → α) (mk0 : LI → LI → β) (n : Nat) (f : Int → LI → LI → LI → Option β)  (x0 : Int) (x1 : LI) (x2 : LI) (x3 : LI) : Fw.l12_0.r (fun a0 a1 => (h (mk0 a0 a1))) n (fun y0 y1 y2 y3 => (f y0 y1 y2 y3).map h) x0 x1 x2 x3 = (Fw.l12_0.r mk0 n f x0 x1 x2 x3).map h := by
  unfold Fw.l12_0.r
  exact (ite_map (ite_map (ite_map (ite_map (ite_map (ite_map rfl rfl) rfl) rfl) rfl) rfl) rfl)
theorem Fw.l12_0.gmap {α β : Type} (h : β → α) (mk0 : LI → LI → β) (n : Nat) : ∀ (m : Nat) (x0 : Int) (x1 : LI) (x2 : LI) (x3 : LI), Fw.l12_0.g (fun a0 a1 => (h (mk0 a0 a1))) n m x0 x1 x2 x3 = (Fw.l12_0.g mk0 n m x0 x1 x2 x3).map h
  | 0, _, _, _, _ => rfl
  | m + 1, x0, x1, x2, x3 => by
    unfold Fw.l12_0.g
    rw [← Fw.l12_0.rmap]
    congr
    · funext y0 y1 y2 y3; exact Fw.l12_0.gmap h mk0 n m y0 y1 y2 y3
theorem Fw.l12_0.pat_shape : ∀ st t, Fw.l12_0.pat st = some t → st = Fw.l12_0.shape t := fun _ _ h => by unfold Fw.l12_0.pat at h; split at h <;> cases h; rfl
def Fw.l12_0.k0 : LI → LI → Ex × St := (fun a0 a1 => (((.exit 2), (St.mk [(.ptr 0 []), (.ptr 1 [])] [(some (.var (.ints .u8 32 a0))), (some (.var (.ints .u64 4 a1)))])) : Ex × St))
theorem Fw.l12_0.round (n : Nat) (rc : St → Option (Ex × St)) (x0 : Int) (x1 : LI) (x2 : LI) (x3 : LI) : Fw.R1 n rc ((St.mk [(.int .i64 x0), (.ptr 0 []), (.ptr 1 []), (.ptr 2 [])] [(some (.var (.ints .u64 25 x1))), (some (.var (.ints .u8 32 x2))), (some (.var (.ints .u64 4 x3)))])) = Fw.l12_0.r Fw.l12_0.k0 n (fun y0 y1 y2 y3 => rc ((St.mk [(.int .i64 y0), (.ptr 0 []), (.ptr 1 []), (.ptr 2 [])] [(some (.var (.ints .u64 25 y1))), (some (.var (.ints .u8 32 y2))), (some (.var (.ints .u64 4 y3)))]))) x0 x1 x2 x3 := by kernel_rfl
theorem Fw.l12_0.loop' (n : Nat) : ∀ (m : Nat) (t : (Int × (LI × (LI × LI)))), loopOf (Fw.R1 n) m (Fw.l12_0.shape t) = Fw.l12_0.g Fw.l12_0.k0 n m t.1 t.2.1 t.2.2.1 t.2.2.2 :=
  loop_of_round (shape := Fw.l12_0.shape) (body := Fw.R1 n) (g := fun m t => Fw.l12_0.g Fw.l12_0.k0 n m t.1 t.2.1 t.2.2.1 t.2.2.2) (fun t => rfl)
    fun m t ih => (Fw.l12_0.round n (loopOf (Fw.R1 n) m) t.1 t.2.1 t.2.2.1 t.2.2.2).trans (congrFun (congrFun (congrFun (congrFun (congrArg (Fw.l12_0.r Fw.l12_0.k0 n) (funext fun y0 => funext fun y1 => funext fun y2 => funext fun y3 => ih (y0, y1, y2, y3))) t.1) t.2.1) t.2.2.1) t.2.2.2)
theorem Fw.l12_0.loop (n m : Nat) (t : (Int × (LI × (LI × LI)))) : loopOf (Fw.R1 n) m (Fw.l12_0.shape t) = (Fw.l12_0.m n m t).map Fw.l12_0.res :=
  (Fw.l12_0.loop' n m t).trans (Fw.l12_0.gmap Fw.l12_0.res (fun a0 a1 => (a0, a1)) n m t.1 t.2.1 t.2.2.1 t.2.2.2)
theorem Fw.gmap {α β : Type} (h : β → α) (mk0 : LI → β) (n : Nat) (a0 : LI) : Fw.g (fun a0 => (h (mk0 a0))) n a0 = (Fw.g mk0 n a0).map h := by
  unfold Fw.g
  exact (bindO_map fun r2 => (ite_map (ite_map (bindO_map fun r8 => (bindO_map fun r10 => (bindO_map fun r12 => rfl))) rfl) rfl))
theorem Fw.run (n : Nat) (a0 : LI) : runF (Fw.C n) (Fw.A n) n Tryd.f57 [(.rints .u8 a0)] [] (fun v o => some (v, o)) = Fw.g (fun a0 => (((.ints .u64 4 a0), []) : AV × Blks)) n a0 := by kernel_rfl
theorem Fw.call (hmix : Tryd.prog.follows .mixedOrders = true) (n : Nat) (t : LI) (u) (h : Fw.m n t = some u) : FnC Tryd.prog abiG 57 (Fw.shape t).1 (Fw.shape t).2 (Fw.res u).1 (Fw.res u).2 :=
  fnC1 (C := Fw.C n) (A := Fw.A n) (fn := Tryd.f57) rfl (.cons (Fe.s hmix n) (.cons (Fak.s hmix n) .nil)) hmix Tryd.func57 (by kernel_rfl) (lp := [Fw.b0, Fw.b1]) (by kernel_rfl) (.cons (show (Fw.A n).loop (key Fw.b0) = some (.mk' Fw.l2_0.pat (Fw.l2_0.m n n) Fw.l2_0.resK) by kernel_rfl) (LoopS.of (res := Fw.l2_0.res) (fun R u K => rfl) Fw.l2_0.pat_shape fun t => Fw.l2_0.loop n n t)
  (.cons (show (Fw.A n).loop (key Fw.b1) = some (.mk' Fw.l12_0.pat (Fw.l12_0.m n n) Fw.l12_0.resK) by kernel_rfl) (LoopS.of (res := Fw.l12_0.res) (fun R u K => rfl) Fw.l12_0.pat_shape fun t => Fw.l12_0.loop n n t)
  .nil))
  (nj rfl) (by decide) rfl rfl (by show 1 ≤ Tryd.f57.ntmps; decide) (Fw.run n t) (Fw.gmap Fw.res (fun a0 => a0) n t) h
theorem Fw.s (hmix : Tryd.prog.follows .mixedOrders = true) (n : Nat) : CalleeS Tryd.prog abiG 57 (Fw.c n) :=
  .mk1 (res := Fw.res) (shape := Fw.shape) (fun R u K => rfl) (fun _ _ _ h => by unfold Fw.pat at h; split at h <;> cases h; rfl) (fun t u h => Fw.call hmix n t u h) Tryd.func57 (by decide) (by kernel_rfl)
end
section
noncomputable section
def Fau.l4_0.r {α : Type} (mk0 : LI → LI → α) (n : Nat) (rc : Int → Int → LI → LI → LI → Option α)  (x0 : Int) (x1 : Int) (x2 : LI) (x3 : LI) (x4 : LI) : Option α :=
  if (decide (x0 < 32)) = true then
   if (decide (x0 < x1)) = true then
    if 0 ≤ (IntKind.wrap .i64 (Int.tdiv x0 8)) then
     if (IntKind.wrap .i64 (Int.tdiv x0 8)) < 4 then
      if 0 ≤ (IntKind.wrap .i64 ((IntKind.wrap .i64 (x1 - 1)) - x0)) then
       if (IntKind.wrap .i64 ((IntKind.wrap .i64 (x1 - 1)) - x0)) < (((List.length x2) : Nat) : Int) then
        if 0 ≤ (IntKind.wrap .u64 (IntKind.wrap .i64 ((Int.tmod x0 8) * 8))) then
         if 0 ≤ (IntKind.wrap .i64 (Int.tdiv x0 8)) then
          if (IntKind.wrap .i64 (Int.tdiv x0 8)) < 4 then
           rc (IntKind.wrap .i64 (x0 + 1)) x1 x2 (List.set x3 (Int.toNat (IntKind.wrap .i64 (Int.tdiv x0 8))) (ibits BinOp.or .u64 (List.getD x3 (Int.toNat (IntKind.wrap .i64 (Int.tdiv x0 8))) 0) (ishl .u64 (IntKind.wrap .u64 (List.getD x2 (Int.toNat (IntKind.wrap .i64 ((IntKind.wrap .i64 (x1 - 1)) - x0))) 0)) (IntKind.wrap .u64 (IntKind.wrap .i64 ((Int.tmod x0 8) * 8)))))) x4
          else
           none
         else
          none
        else
         none
       else
        none
      else
       none
     else
      none
    else
     none
   else
    some (mk0 x3 x4)
  else
   some (mk0 x3 x4)
def Fau.l4_0.g {α : Type} (mk0 : LI → LI → α) (n : Nat) : Nat → Int → Int → LI → LI → LI → Option α
 | 0, _, _, _, _, _ => none
 | m + 1, x0, x1, x2, x3, x4 => Fau.l4_0.r mk0 n (fun y0 y1 y2 y3 y4 => Fau.l4_0.g mk0 n m y0 y1 y2 y3 y4)  x0 x1 x2 x3 x4
def Fau.l4_0.m (n m : Nat) (t : (Int × (Int × (LI × (LI × LI))))) : Option (LI × LI) := Fau.l4_0.g (fun a0 a1 => (a0, a1)) n m t.1 t.2.1 t.2.2.1 t.2.2.2.1 t.2.2.2.2
def Fau.g {α : Type} (mk0 : LI → α) (n : Nat) (a0 : LI) : Option α :=
 bindO (Fau.l4_0.m n n (0, (((List.length a0) : Nat) : Int), a0, [0, 0, 0, 0], [0, 0, 0, 0])) fun r2 =>
  some (mk0 r2.1)
def Fau.m (n : Nat) (t : LI) : Option LI := Fau.g (fun a0 => a0) n t
end
end
section
noncomputable section
def Fbi.l4_0.r {α : Type} (mk0 : LI → LI → α) (n : Nat) (rc : LI → LI → Option α)  (x0 : LI) (x1 : LI) : Option α :=
  if ((Int.tmod (((List.length x0) : Nat) : Int) 136) != 0) = true then
   if ((((List.length x0) + 1) * 1) ≤ 70368744177664 ∧ ((List.length x0) + 1) ≤ 9223372036854775807) then
    rc (x0 ++ [0]) x1
   else
    none
  else
   some (mk0 x0 x1)
def Fbi.l4_0.g {α : Type} (mk0 : LI → LI → α) (n : Nat) : Nat → LI → LI → Option α
 | 0, _, _ => none
 | m + 1, x0, x1 => Fbi.l4_0.r mk0 n (fun y0 y1 => Fbi.l4_0.g mk0 n m y0 y1)  x0 x1
def Fbi.l4_0.m (n m : Nat) (t : (LI × LI)) : Option (LI × LI) := Fbi.l4_0.g (fun a0 a1 => (a0, a1)) n m t.1 t.2
def Fbi.l17_0.r {α : Type} (mk0 : Int → Int → LI → LI → LI → LI → LI → α) (n : Nat) (rc : Int → Int → Int → LI → LI → LI → LI → LI → Option α)  (x0 : Int) (x1 : Int) (x2 : Int) (x3 : LI) (x4 : LI) (x5 : LI) (x6 : LI) (x7 : LI) : Option α :=
  if (decide (x0 < 8)) = true then
   if 0 ≤ x1 then
    if x1 < (((List.length x3) : Nat) : Int) then
     if 0 ≤ (IntKind.wrap .i64 ((IntKind.wrap .i64 (x2 + (IntKind.wrap .i64 (8 * x1)))) + x0)) then
      if (IntKind.wrap .i64 ((IntKind.wrap .i64 (x2 + (IntKind.wrap .i64 (8 * x1)))) + x0)) < (((List.length x4) : Nat) : Int) then
       if 0 ≤ (IntKind.wrap .u64 (IntKind.wrap .i64 (8 * x0))) then
        if 0 ≤ x1 then
         if x1 < (((List.length x3) : Nat) : Int) then
          rc (IntKind.wrap .i64 (x0 + 1)) x1 x2 (List.set x3 (Int.toNat x1) (ibits BinOp.xor .u64 (List.getD x3 (Int.toNat x1) 0) (ishl .u64 (IntKind.wrap .u64 (List.getD x4 (Int.toNat (IntKind.wrap .i64 ((IntKind.wrap .i64 (x2 + (IntKind.wrap .i64 (8 * x1)))) + x0))) 0)) (IntKind.wrap .u64 (IntKind.wrap .i64 (8 * x0)))))) x4 x5 x6 x7
         else
          none
        else
         none
       else
        none
      else
       none
     else
      none
    else
     none
   else
    none
  else
   some (mk0 x1 x2 x3 x4 x5 x6 x7)
def Fbi.l17_0.g {α : Type} (mk0 : Int → Int → LI → LI → LI → LI → LI → α) (n : Nat) : Nat → Int → Int → Int → LI → LI → LI → LI → LI → Option α
 | 0, _, _, _, _, _, _, _, _ => none
 | m + 1, x0, x1, x2, x3, x4, x5, x6, x7 => Fbi.l17_0.r mk0 n (fun y0 y1 y2 y3 y4 y5 y6 y7 => Fbi.l17_0.g mk0 n m y0 y1 y2 y3 y4 y5 y6 y7)  x0 x1 x2 x3 x4 x5 x6 x7
def Fbi.l17_0.m (n m : Nat) (t : (Int × (Int × (Int × (LI × (LI × (LI × (LI × LI)))))))) : Option (Int × (Int × (LI × (LI × (LI × (LI × LI)))))) := Fbi.l17_0.g (fun a0 a1 a2 a3 a4 a5 a6 => (a0, a1, a2, a3, a4, a5, a6)) n m t.1 t.2.1 t.2.2.1 t.2.2.2.1 t.2.2.2.2.1 t.2.2.2.2.2.1 t.2.2.2.2.2.2.1 t.2.2.2.2.2.2.2
def Fbi.l14_0.r {α : Type} (mk0 : Int → LI → LI → LI → LI → LI → α) (n : Nat) (rc : Int → Int → LI → LI → LI → LI → LI → Option α)  (x0 : Int) (x1 : Int) (x2 : LI) (x3 : LI) (x4 : LI) (x5 : LI) (x6 : LI) : Option α :=
  if (decide (x0 < 17)) = true then
   bindO (Fbi.l17_0.m n n (0, x0, x1, x2, x3, x4, x5, x6)) fun r6 =>
    rc (IntKind.wrap .i64 (r6.1 + 1)) r6.2.1 r6.2.2.1 r6.2.2.2.1 r6.2.2.2.2.1 r6.2.2.2.2.2.1 r6.2.2.2.2.2.2
  else
   some (mk0 x1 x2 x4 x5 x3 x6)
def Fbi.l14_0.g {α : Type} (mk0 : Int → LI → LI → LI → LI → LI → α) (n : Nat) : Nat → Int → Int → LI → LI → LI → LI → LI → Option α
 | 0, _, _, _, _, _, _, _ => none
 | m + 1, x0, x1, x2, x3, x4, x5, x6 => Fbi.l14_0.r mk0 n (fun y0 y1 y2 y3 y4 y5 y6 => Fbi.l14_0.g mk0 n m y0 y1 y2 y3 y4 y5 y6)  x0 x1 x2 x3 x4 x5 x6
def Fbi.l14_0.m (n m : Nat) (t : (Int × (Int × (LI × (LI × (LI × (LI × LI))))))) : Option (Int × (LI × (LI × (LI × (LI × LI))))) := Fbi.l14_0.g (fun a0 a1 a2 a3 a4 a5 => (a0, a1, a2, a3, a4, a5)) n m t.1 t.2.1 t.2.2.1 t.2.2.2.1 t.2.2.2.2.1 t.2.2.2.2.2.1 t.2.2.2.2.2.2
def Fbi.l11_0.r {α : Type} (mk0 : LI → LI → α) (n : Nat) (rc : Int → LI → LI → LI → LI → LI → Option α)  (x0 : Int) (x1 : LI) (x2 : LI) (x3 : LI) (x4 : LI) (x5 : LI) : Option α :=
  if (decide (x0 < (((List.length x1) : Nat) : Int))) = true then
   bindO (Fbi.l14_0.m n n (0, x0, x2, x1, x3, x4, x5)) fun r6 =>
    bindO (Fbh.m n (r6.2.1, r6.2.2.1, r6.2.2.2.1)) fun r8 => match r8 with
     | (.inl r8) =>
      rc (IntKind.wrap .i64 (r6.1 + 136)) r6.2.2.2.2.1 r8 r6.2.2.1 r6.2.2.2.1 r6.2.2.2.2.2
     | (.inr r8) =>
      none
  else
   some (mk0 x2 x5)
def Fbi.l11_0.g {α : Type} (mk0 : LI → LI → α) (n : Nat) : Nat → Int → LI → LI → LI → LI → LI → Option α
 | 0, _, _, _, _, _, _ => none
 | m + 1, x0, x1, x2, x3, x4, x5 => Fbi.l11_0.r mk0 n (fun y0 y1 y2 y3 y4 y5 => Fbi.l11_0.g mk0 n m y0 y1 y2 y3 y4 y5)  x0 x1 x2 x3 x4 x5
def Fbi.l11_0.m (n m : Nat) (t : (Int × (LI × (LI × (LI × (LI × LI)))))) : Option (LI × LI) := Fbi.l11_0.g (fun a0 a1 => (a0, a1)) n m t.1 t.2.1 t.2.2.1 t.2.2.2.1 t.2.2.2.2.1 t.2.2.2.2.2
def Fbi.l26_0.r {α : Type} (mk0 : Int → LI → LI → LI → α) (n : Nat) (rc : Int → Int → LI → LI → LI → Option α)  (x0 : Int) (x1 : Int) (x2 : LI) (x3 : LI) (x4 : LI) : Option α :=
  if (decide (x0 < 8)) = true then
   if 0 ≤ x1 then
    if x1 < (((List.length x3) : Nat) : Int) then
     if 0 ≤ (IntKind.wrap .u64 (IntKind.wrap .i64 (8 * x0))) then
      if ((((List.length x2) + 1) * 1) ≤ 70368744177664 ∧ ((List.length x2) + 1) ≤ 9223372036854775807) then
       rc (IntKind.wrap .i64 (x0 + 1)) x1 (x2 ++ [(IntKind.wrap .u8 (ishr .u64 (List.getD x3 (Int.toNat x1) 0) (IntKind.wrap .u64 (IntKind.wrap .i64 (8 * x0)))))]) x3 x4
      else
       none
     else
      none
    else
     none
   else
    none
  else
   some (mk0 x1 x2 x3 x4)
def Fbi.l26_0.g {α : Type} (mk0 : Int → LI → LI → LI → α) (n : Nat) : Nat → Int → Int → LI → LI → LI → Option α
 | 0, _, _, _, _, _ => none
 | m + 1, x0, x1, x2, x3, x4 => Fbi.l26_0.r mk0 n (fun y0 y1 y2 y3 y4 => Fbi.l26_0.g mk0 n m y0 y1 y2 y3 y4)  x0 x1 x2 x3 x4
def Fbi.l26_0.m (n m : Nat) (t : (Int × (Int × (LI × (LI × LI))))) : Option (Int × (LI × (LI × LI))) := Fbi.l26_0.g (fun a0 a1 a2 a3 => (a0, a1, a2, a3)) n m t.1 t.2.1 t.2.2.1 t.2.2.2.1 t.2.2.2.2
def Fbi.l23_0.r {α : Type} (mk0 : LI → LI → α) (n : Nat) (rc : Int → LI → LI → LI → Option α)  (x0 : Int) (x1 : LI) (x2 : LI) (x3 : LI) : Option α :=
  if (decide (x0 < 4)) = true then
   bindO (Fbi.l26_0.m n n (0, x0, x1, x2, x3)) fun r6 =>
    rc (IntKind.wrap .i64 (r6.1 + 1)) r6.2.1 r6.2.2.1 r6.2.2.2
  else
   some (mk0 x1 x3)
def Fbi.l23_0.g {α : Type} (mk0 : LI → LI → α) (n : Nat) : Nat → Int → LI → LI → LI → Option α
 | 0, _, _, _, _ => none
 | m + 1, x0, x1, x2, x3 => Fbi.l23_0.r mk0 n (fun y0 y1 y2 y3 => Fbi.l23_0.g mk0 n m y0 y1 y2 y3)  x0 x1 x2 x3
def Fbi.l23_0.m (n m : Nat) (t : (Int × (LI × (LI × LI)))) : Option (LI × LI) := Fbi.l23_0.g (fun a0 a1 => (a0, a1)) n m t.1 t.2.1 t.2.2.1 t.2.2.2
def Fbi.g {α : Type} (mk0 : LI → α) (n : Nat) (a0 : LI) : Option α :=
 if (((List.length a0) * 1) ≤ 70368744177664 ∧ (List.length a0) ≤ 9223372036854775807) then
  if ((((List.length a0) + 1) * 1) ≤ 70368744177664 ∧ ((List.length a0) + 1) ≤ 9223372036854775807) then
   bindO (Fbi.l4_0.m n n ((a0 ++ [1]), [0, 0, 0, 0])) fun r6 =>
    if 0 ≤ (IntKind.wrap .i64 ((((List.length r6.1) : Nat) : Int) - 1)) then
     if (IntKind.wrap .i64 ((((List.length r6.1) : Nat) : Int) - 1)) < (((List.length r6.1) : Nat) : Int) then
      if 0 ≤ (IntKind.wrap .i64 ((((List.length r6.1) : Nat) : Int) - 1)) then
       if (IntKind.wrap .i64 ((((List.length r6.1) : Nat) : Int) - 1)) < (((List.length r6.1) : Nat) : Int) then
        bindO (Faj.m n Unit.unit) fun r16 =>
         bindO (Fat.m n Unit.unit) fun r18 =>
          bindO (Fbi.l11_0.m n n (0, (List.set r6.1 (Int.toNat (IntKind.wrap .i64 ((((List.length r6.1) : Nat) : Int) - 1))) (ibits BinOp.xor .u8 (List.getD r6.1 (Int.toNat (IntKind.wrap .i64 ((((List.length r6.1) : Nat) : Int) - 1))) 0) 128)), ([0, 0, 0, 0, 0, 0, 0, 0, 0, 0, 0, 0, 0, 0, 0, 0, 0, 0, 0, 0, 0, 0, 0, 0, 0] : List Int), r16, r18, r6.2)) fun r20 =>
           bindO (Fbi.l23_0.m n n (0, [], r20.1, r20.2)) fun r22 =>
            bindO (Fau.m n r22.1) fun r24 =>
             some (mk0 r24)
       else
        none
      else
       none
     else
      none
    else
     none
  else
   none
 else
  none
def Fbi.m (n : Nat) (t : LI) : Option LI := Fbi.g (fun a0 => a0) n t
end
end
section
noncomputable section
noncomputable def Fx.C (n : Nat) : Ctx := ⟨Tryd.prog, abiG, lookC [], fun _ => false⟩
def Fx.live : NL := fun k => match k with
 | 3 => ([6, 3, 1], [3])
 | _ => ([], [])
def Fx.l3_0.r {α : Type} (mk0 : LI → α) (n : Nat) (rc : Int → LI → LI → Option α)  (x0 : Int) (x1 : LI) (x2 : LI) : Option α :=
  if (decide (x0 < 32)) = true then
   if 0 ≤ (IntKind.wrap .i64 (Int.tdiv x0 8)) then
    if (IntKind.wrap .i64 (Int.tdiv x0 8)) < 4 then
     if 0 ≤ (IntKind.wrap .i64 ((Int.tmod x0 8) * 8)) then
      if 0 ≤ (IntKind.wrap .i64 (31 - x0)) then
       if (IntKind.wrap .i64 (31 - x0)) < (((List.length x1) : Nat) : Int) then
        rc (IntKind.wrap .i64 (x0 + 1)) (List.set x1 (Int.toNat (IntKind.wrap .i64 (31 - x0))) (IntKind.wrap .u8 (ishr .u64 (List.getD x2 (Int.toNat (IntKind.wrap .i64 (Int.tdiv x0 8))) 0) (IntKind.wrap .i64 ((Int.tmod x0 8) * 8))))) x2
       else
        none
      else
       none
     else
      none
    else
     none
   else
    none
  else
   some (mk0 x1)
def Fx.l3_0.g {α : Type} (mk0 : LI → α) (n : Nat) : Nat → Int → LI → LI → Option α
 | 0, _, _, _ => none
 | m + 1, x0, x1, x2 => Fx.l3_0.r mk0 n (fun y0 y1 y2 => Fx.l3_0.g mk0 n m y0 y1 y2)  x0 x1 x2
def Fx.l3_0.m (n m : Nat) (t : (Int × (LI × LI))) : Option LI := Fx.l3_0.g (fun a0 => a0) n m t.1 t.2.1 t.2.2
def Fx.l3_0.pat : St → Option (Int × (LI × LI))
 | (St.mk [(.int .i64 x0), (.own 0 1), (.ptr 1 [])] [(some (.ints .u8 x1)), (some (.var (.ints .u64 4 x2)))]) => some (x0, x1, x2)
 | _ => none
def Fx.l3_0.shape (t : (Int × (LI × LI))) : St := (St.mk [(.int .i64 t.1), (.own 0 1), (.ptr 1 [])] [(some (.ints .u8 t.2.1)), (some (.var (.ints .u64 4 t.2.2)))])
def Fx.l3_0.res : LI → Ex × St
 | u => ((.exit 0), (St.mk [(.own 0 1)] [(some (.ints .u8 u))]))
def Fx.l3_0.resK {R : Type} (u : LI) (K : Ex → St → Option R) : Option R := K (Fx.l3_0.res u).1 (Fx.l3_0.res u).2
noncomputable def Fx.A (n : Nat) : Ann := ⟨Tryd.f56.ntmps, 0, Fx.live, [(3, (.ints .u8))], [(some (.ints .u8))], fun k => match k with
 | 3 => some (.mk' Fx.l3_0.pat (Fx.l3_0.m n n) Fx.l3_0.resK)
 | _ => none, noNL, lookJ []⟩
noncomputable def Fx.b0 : Code := (loopsIn (Tryd.f56.body.getD .skip)).getD 0 .skip
def Fx.g {α : Type} (mk0 : LI → α) (n : Nat) (a0 : LI) : Option α :=
 bindO (Fx.l3_0.m n n (0, ([0, 0, 0, 0, 0, 0, 0, 0, 0, 0, 0, 0, 0, 0, 0, 0, 0, 0, 0, 0, 0, 0, 0, 0, 0, 0, 0, 0, 0, 0, 0, 0] : List Int), a0)) fun r2 =>
  some (mk0 r2)
def Fx.m (n : Nat) (t : LI) : Option LI := Fx.g (fun a0 => a0) n t
def Fx.pat : List AV → Blks → Option LI
 | [(.ints .u64 4 a0)], [] => some a0
 | _, _ => none
def Fx.shape (t : LI) : List AV × Blks := ([(.ints .u64 4 t)], [])
def Fx.res : LI → AV × Blks
 | u => ((.own 0 1), [(some (.ints .u8 u))])
def Fx.resK {R : Type} (u : LI) (K : AV → Blks → Option R) : Option R := K (Fx.res u).1 (Fx.res u).2
def Fx.c (n : Nat) : Abs.Callee := .mk' [] [none] Fx.pat (Fx.m n) Fx.resK
end
end
section
noncomputable abbrev Fx.R0 (n : Nat) := roundOf (Fx.C n) (Fx.A n) n Fx.b0
theorem Fx.l3_0.rmap {α β : Type} (h : β → α) (mk0 : LI → β) (n : Nat) (f : Int → LI → LI → Option β)  (x0 : Int) (x1 : LI) (x2 : LI) : Fx.l3_0.r (fun a0 => (h (mk0 a0))) n (fun y0 y1 y2 => (f y0 y1 y2).map h) x0 x1 x2 = (Fx.l3_0.r mk0 n f x0 x1 x2).map h := by
  unfold Fx.l3_0.r
  exact (ite_map (ite_map (ite_map (ite_map (ite_map (ite_map rfl rfl) rfl) rfl) rfl) rfl) rfl)
theorem Fx.l3_0.gmap {α β : Type} (h : β → α) (mk0 : LI → β) (n : Nat) : ∀ (m : Nat) (x0 : Int) (x1 : LI) (x2 : LI), Fx.l3_0.g (fun a0 => (h (mk0 a0))) n m x0 x1 x2 = (Fx.l3_0.g mk0 n m x0 x1 x2).map h
  | 0, _, _, _ => rfl
  | m + 1, x0, x1, x2 => by
    unfold Fx.l3_0.g
    rw [← Fx.l3_0.rmap]
    congr
    · funext y0 y1 y2; exact Fx.l3_0.gmap h mk0 n m y0 y1 y2
theorem Fx.l3_0.pat_shape : ∀ st t, Fx.l3_0.pat st = some t → st = Fx.l3_0.shape t := fun _ _ h => by unfold Fx.l3_0.pat at h; split at h <;> cases h; rfl
def Fx.l3_0.k0 : LI → Ex × St := (fun a0 => (((.exit 0), (St.mk [(.own 0 1)] [(some (.ints .u8 a0))])) : Ex × St))
theorem Fx.l3_0.round (n : Nat) (rc : St → Option (Ex × St)) (x0 : Int) (x1 : LI) (x2 : LI) : Fx.R0 n rc ((St.mk [(.int .i64 x0), (.own 0 1), (.ptr 1 [])] [(some (.ints .u8 x1)), (some (.var (.ints .u64 4 x2)))])) = Fx.l3_0.r Fx.l3_0.k0 n (fun y0 y1 y2 => rc ((St.mk [(.int .i64 y0), (.own 0 1), (.ptr 1 [])] [(some (.ints .u8 y1)), (some (.var (.ints .u64 4 y2)))]))) x0 x1 x2 := by kernel_rfl
theorem Fx.l3_0.loop' (n : Nat) : ∀ (m : Nat) (t : (Int × (LI × LI))), loopOf (Fx.R0 n) m (Fx.l3_0.shape t) = Fx.l3_0.g Fx.l3_0.k0 n m t.1 t.2.1 t.2.2 :=
  loop_of_round (shape := Fx.l3_0.shape) (body := Fx.R0 n) (g := fun m t => Fx.l3_0.g Fx.l3_0.k0 n m t.1 t.2.1 t.2.2) (fun t => rfl)
    fun m t ih => (Fx.l3_0.round n (loopOf (Fx.R0 n) m) t.1 t.2.1 t.2.2).trans (congrFun (congrFun (congrFun (congrArg (Fx.l3_0.r Fx.l3_0.k0 n) (funext fun y0 => funext fun y1 => funext fun y2 => ih (y0, y1, y2))) t.1) t.2.1) t.2.2)
theorem Fx.l3_0.loop (n m : Nat) (t : (Int × (LI × LI))) : loopOf (Fx.R0 n) m (Fx.l3_0.shape t) = (Fx.l3_0.m n m t).map Fx.l3_0.res :=
  (Fx.l3_0.loop' n m t).trans (Fx.l3_0.gmap Fx.l3_0.res (fun a0 => a0) n m t.1 t.2.1 t.2.2)
theorem Fx.gmap {α β : Type} (h : β → α) (mk0 : LI → β) (n : Nat) (a0 : LI) : Fx.g (fun a0 => (h (mk0 a0))) n a0 = (Fx.g mk0 n a0).map h := by
  unfold Fx.g
  exact (bindO_map fun r2 => rfl)
theorem Fx.run (n : Nat) (a0 : LI) : runF (Fx.C n) (Fx.A n) n Tryd.f56 [(.ints .u64 4 a0)] [] (fun v o => some (v, o)) = Fx.g (fun a0 => (((.own 0 1), [(some (.ints .u8 a0))]) : AV × Blks)) n a0 := by kernel_rfl
theorem Fx.call (hmix : Tryd.prog.follows .mixedOrders = true) (n : Nat) (t : LI) (u) (h : Fx.m n t = some u) : FnC Tryd.prog abiG 56 (Fx.shape t).1 (Fx.shape t).2 (Fx.res u).1 (Fx.res u).2 :=
  fnC1 (C := Fx.C n) (A := Fx.A n) (fn := Tryd.f56) rfl .nil hmix Tryd.func56 (by kernel_rfl) (lp := [Fx.b0]) (by kernel_rfl) (.cons (show (Fx.A n).loop (key Fx.b0) = some (.mk' Fx.l3_0.pat (Fx.l3_0.m n n) Fx.l3_0.resK) by kernel_rfl) (LoopS.of (res := Fx.l3_0.res) (fun R u K => rfl) Fx.l3_0.pat_shape fun t => Fx.l3_0.loop n n t)
  .nil)
  (nj rfl) (by decide) rfl rfl (by show 1 ≤ Tryd.f56.ntmps; decide) (Fx.run n t) (Fx.gmap Fx.res (fun a0 => a0) n t) h
theorem Fx.s (hmix : Tryd.prog.follows .mixedOrders = true) (n : Nat) : CalleeS Tryd.prog abiG 56 (Fx.c n) :=
  .mk1 (res := Fx.res) (shape := Fx.shape) (fun R u K => rfl) (fun _ _ _ h => by unfold Fx.pat at h; split at h <;> cases h; rfl) (fun t u h => Fx.call hmix n t u h) Tryd.func56 (by decide) (by kernel_rfl)
end
section
noncomputable section
def Fal.l3_0.r {α : Type} (mk0 : LI → α) (n : Nat) (rc : Int → LI → LI → Option α)  (x0 : Int) (x1 : LI) (x2 : LI) : Option α :=
  if (decide (x0 < 32)) = true then
   if 0 ≤ (IntKind.wrap .i64 (Int.tdiv (IntKind.wrap .i64 (31 - x0)) 8)) then
    if (IntKind.wrap .i64 (Int.tdiv (IntKind.wrap .i64 (31 - x0)) 8)) < 4 then
     if 0 ≤ (IntKind.wrap .u64 (IntKind.wrap .i64 ((Int.tmod (IntKind.wrap .i64 (31 - x0)) 8) * 8))) then
      if ((((List.length x1) + 1) * 1) ≤ 70368744177664 ∧ ((List.length x1) + 1) ≤ 9223372036854775807) then
       rc (IntKind.wrap .i64 (x0 + 1)) (x1 ++ [(IntKind.wrap .u8 (ishr .u64 (List.getD x2 (Int.toNat (IntKind.wrap .i64 (Int.tdiv (IntKind.wrap .i64 (31 - x0)) 8))) 0) (IntKind.wrap .u64 (IntKind.wrap .i64 ((Int.tmod (IntKind.wrap .i64 (31 - x0)) 8) * 8)))))]) x2
      else
       none
     else
      none
    else
     none
   else
    none
  else
   some (mk0 x1)
def Fal.l3_0.g {α : Type} (mk0 : LI → α) (n : Nat) : Nat → Int → LI → LI → Option α
 | 0, _, _, _ => none
 | m + 1, x0, x1, x2 => Fal.l3_0.r mk0 n (fun y0 y1 y2 => Fal.l3_0.g mk0 n m y0 y1 y2)  x0 x1 x2
def Fal.l3_0.m (n m : Nat) (t : (Int × (LI × LI))) : Option LI := Fal.l3_0.g (fun a0 => a0) n m t.1 t.2.1 t.2.2
def Fal.g {α : Type} (mk0 : LI → α) (n : Nat) (a0 : LI) : Option α :=
 bindO (Fal.l3_0.m n n (0, [], a0)) fun r2 =>
  some (mk0 r2)
def Fal.m (n : Nat) (t : LI) : Option LI := Fal.g (fun a0 => a0) n t
end
end
section
noncomputable section
noncomputable def Fam.C (n : Nat) : Ctx := ⟨Tryd.prog, abiG, lookC [], fun _ => false⟩
noncomputable def Fam.A (n : Nat) : Ann := ⟨Tryd.f69.ntmps, 0, noNL, [], [none], fun k => match k with
 | _ => none, noNL, lookJ []⟩
def Fam.g {α : Type} (mk0 : LI → α) (n : Nat) (a0 : Int) : Option α :=
 some (mk0 [a0, 0, 0, 0])
def Fam.m (n : Nat) (t : Int) : Option LI := Fam.g (fun a0 => a0) n t
def Fam.pat : List AV → Blks → Option Int
 | [(.int .u64 a0)], [] => some a0
 | _, _ => none
def Fam.shape (t : Int) : List AV × Blks := ([(.int .u64 t)], [])
def Fam.res : LI → AV × Blks
 | u => ((.ints .u64 4 u), [])
def Fam.resK {R : Type} (u : LI) (K : AV → Blks → Option R) : Option R := K (Fam.res u).1 (Fam.res u).2
def Fam.c (n : Nat) : Abs.Callee := .mk' [] [none] Fam.pat (Fam.m n) Fam.resK
end
end
section
noncomputable section
noncomputable def Fy.C (n : Nat) : Ctx := ⟨Tryd.prog, abiG, lookC [(69, Fam.c n), (56, Fx.c n)], fun _ => false⟩
noncomputable def Fy.A (n : Nat) : Ann := ⟨Tryd.f61.ntmps, 0, noNL, [], [(some (.ints .u8))], fun k => match k with
 | _ => none, noNL, lookJ []⟩
def Fy.g {α : Type} (mk0 : LI → α) (n : Nat) (a0 : Int) : Option α :=
 bindO (Fam.m n (IntKind.wrap .u64 a0)) fun r2 =>
  bindO (Fx.m n r2) fun r4 =>
   some (mk0 r4)
def Fy.m (n : Nat) (t : Int) : Option LI := Fy.g (fun a0 => a0) n t
def Fy.pat : List AV → Blks → Option Int
 | [(.int .i64 a0)], [] => some a0
 | _, _ => none
def Fy.shape (t : Int) : List AV × Blks := ([(.int .i64 t)], [])
def Fy.res : LI → AV × Blks
 | u => ((.own 0 1), [(some (.ints .u8 u))])
def Fy.resK {R : Type} (u : LI) (K : AV → Blks → Option R) : Option R := K (Fy.res u).1 (Fy.res u).2
def Fy.c (n : Nat) : Abs.Callee := .mk' [] [none] Fy.pat (Fy.m n) Fy.resK
end
end
section
noncomputable section
noncomputable def Fz.C (n : Nat) : Ctx := ⟨Tryd.prog, abiG, lookC [(56, Fx.c n), (61, Fy.c n)], fun _ => false⟩
def Fz.live : NL := fun k => match k with
 | 3 => ([9, 8, 7, 3, 0, 4], [3, 4])
 | _ => ([], [])
def Fz.l3_0.r {α : Type} (mk0 : LI → LI → α) (n : Nat) (rc : Int → Int → LA → LA → LI → LI → Option α)  (x0 : Int) (x1 : Int) (x2 : LA) (x3 : LA) (x4 : LI) (x5 : LI) : Option α :=
  if (decide (x0 < x1)) = true then
   if 0 ≤ x0 then
    if x0 < (((List.length x2) : Nat) : Int) then
     bindO (tkAgg 3 (List.getD x2 (Int.toNat x0) AV.any)) fun r10 =>
      bindO (tkBool (List.getD r10 0 AV.any)) fun r12 =>
       bindO (tkInts .u64 4 (List.getD r10 1 AV.any)) fun r14 =>
        bindO (tkRints .u8 (List.getD r10 2 AV.any)) fun r16 =>
         if (!r12) = true then
          bindO (Fx.m n r14) fun r20 =>
           if ((((List.length x4) + (List.length r20)) * 1) ≤ 70368744177664 ∧ ((List.length x4) + (List.length r20)) ≤ 9223372036854775807) then
            rc (IntKind.wrap .i64 (x0 + 1)) x1 x2 x3 (x4 ++ r20) x5
           else
            none
         else
          bindO (Fy.m n (IntKind.wrap .i64 ((IntKind.wrap .i64 (32 * (((List.length x3) : Nat) : Int))) + (((List.length x5) : Nat) : Int)))) fun r20 =>
           if ((((List.length x4) + (List.length r20)) * 1) ≤ 70368744177664 ∧ ((List.length x4) + (List.length r20)) ≤ 9223372036854775807) then
            bindO (Fy.m n (((List.length r16) : Nat) : Int)) fun r24 =>
             if ((((List.length x5) + (List.length r24)) * 1) ≤ 70368744177664 ∧ ((List.length x5) + (List.length r24)) ≤ 9223372036854775807) then
              if ((((List.length (x5 ++ r24)) + (List.length r16)) * 1) ≤ 70368744177664 ∧ ((List.length (x5 ++ r24)) + (List.length r16)) ≤ 9223372036854775807) then
               if 0 ≤ (Int.tmod (IntKind.wrap .i64 (32 - (Int.tmod (((List.length r16) : Nat) : Int) 32))) 32) then
                if ((((List.length ((x5 ++ r24) ++ r16)) + (List.length (List.replicate (Int.toNat (Int.tmod (IntKind.wrap .i64 (32 - (Int.tmod (((List.length r16) : Nat) : Int) 32))) 32)) (0 : Int)))) * 1) ≤ 70368744177664 ∧ ((List.length ((x5 ++ r24) ++ r16)) + (List.length (List.replicate (Int.toNat (Int.tmod (IntKind.wrap .i64 (32 - (Int.tmod (((List.length r16) : Nat) : Int) 32))) 32)) (0 : Int)))) ≤ 9223372036854775807) then
                 rc (IntKind.wrap .i64 (x0 + 1)) x1 x2 x3 (x4 ++ r20) (((x5 ++ r24) ++ r16) ++ (List.replicate (Int.toNat (Int.tmod (IntKind.wrap .i64 (32 - (Int.tmod (((List.length r16) : Nat) : Int) 32))) 32)) (0 : Int)))
                else
                 none
               else
                none
              else
               none
             else
              none
           else
            none
    else
     none
   else
    none
  else
   some (mk0 x4 x5)
def Fz.l3_0.g {α : Type} (mk0 : LI → LI → α) (n : Nat) : Nat → Int → Int → LA → LA → LI → LI → Option α
 | 0, _, _, _, _, _, _ => none
 | m + 1, x0, x1, x2, x3, x4, x5 => Fz.l3_0.r mk0 n (fun y0 y1 y2 y3 y4 y5 => Fz.l3_0.g mk0 n m y0 y1 y2 y3 y4 y5)  x0 x1 x2 x3 x4 x5
def Fz.l3_0.m (n m : Nat) (t : (Int × (Int × (LA × (LA × (LI × LI)))))) : Option (LI × LI) := Fz.l3_0.g (fun a0 a1 => (a0, a1)) n m t.1 t.2.1 t.2.2.1 t.2.2.2.1 t.2.2.2.2.1 t.2.2.2.2.2
def Fz.l3_0.pat : St → Option (Int × (Int × (LA × (LA × (LI × LI)))))
 | (St.mk [(.int .i64 x0), (.int .i64 x1), (.robjs 69 6 x2), (.own 0 1), (.robjs 69 6 x3), (.own 1 1)] [(some (.ints .u8 x4)), (some (.ints .u8 x5))]) => some (x0, x1, x2, x3, x4, x5)
 | _ => none
def Fz.l3_0.shape (t : (Int × (Int × (LA × (LA × (LI × LI)))))) : St := (St.mk [(.int .i64 t.1), (.int .i64 t.2.1), (.robjs 69 6 t.2.2.1), (.own 0 1), (.robjs 69 6 t.2.2.2.1), (.own 1 1)] [(some (.ints .u8 t.2.2.2.2.1)), (some (.ints .u8 t.2.2.2.2.2))])
def Fz.l3_0.res : (LI × LI) → Ex × St
 | u => ((.exit 0), (St.mk [(.own 0 1), (.own 1 1)] [(some (.ints .u8 u.1)), (some (.ints .u8 u.2))]))
def Fz.l3_0.resK {R : Type} (u : (LI × LI)) (K : Ex → St → Option R) : Option R := K (Fz.l3_0.res u).1 (Fz.l3_0.res u).2
noncomputable def Fz.A (n : Nat) : Ann := ⟨Tryd.f20.ntmps, 0, Fz.live, [(0, (.objs 69 6)), (7, (.objs 69 6)), (3, (.ints .u8)), (4, (.ints .u8))], [(some (.ints .u8))], fun k => match k with
 | 3 => some (.mk' Fz.l3_0.pat (Fz.l3_0.m n n) Fz.l3_0.resK)
 | _ => none, noNL, lookJ []⟩
noncomputable def Fz.b0 : Code := (loopsIn (Tryd.f20.body.getD .skip)).getD 0 .skip
def Fz.g {α : Type} (mk0 : LI → α) (n : Nat) (a0 : LA) : Option α :=
 bindO (Fz.l3_0.m n n (0, (((List.length a0) : Nat) : Int), a0, a0, [], [])) fun r2 =>
  if ((((List.length r2.1) + (List.length r2.2)) * 1) ≤ 70368744177664 ∧ ((List.length r2.1) + (List.length r2.2)) ≤ 9223372036854775807) then
   some (mk0 (r2.1 ++ r2.2))
  else
   none
def Fz.m (n : Nat) (t : LA) : Option LI := Fz.g (fun a0 => a0) n t
def Fz.pat : List AV → Blks → Option LA
 | [(.robjs 69 6 a0)], [] => some a0
 | _, _ => none
def Fz.shape (t : LA) : List AV × Blks := ([(.robjs 69 6 t)], [])
def Fz.res : LI → AV × Blks
 | u => ((.own 0 1), [(some (.ints .u8 u))])
def Fz.resK {R : Type} (u : LI) (K : AV → Blks → Option R) : Option R := K (Fz.res u).1 (Fz.res u).2
def Fz.c (n : Nat) : Abs.Callee := .mk' [] [(some (.objs 69 6))] Fz.pat (Fz.m n) Fz.resK
end
end
section
theorem Fam.gmap {α β : Type} (h : β → α) (mk0 : LI → β) (n : Nat) (a0 : Int) : Fam.g (fun a0 => (h (mk0 a0))) n a0 = (Fam.g mk0 n a0).map h := by
  unfold Fam.g
  exact rfl
theorem Fam.run (n : Nat) (a0 : Int) : runF (Fam.C n) (Fam.A n) n Tryd.f69 [(.int .u64 a0)] [] (fun v o => some (v, o)) = Fam.g (fun a0 => (((.ints .u64 4 a0), []) : AV × Blks)) n a0 := by kernel_rfl
theorem Fam.call (hmix : Tryd.prog.follows .mixedOrders = true) (n : Nat) (t : Int) (u) (h : Fam.m n t = some u) : FnC Tryd.prog abiG 69 (Fam.shape t).1 (Fam.shape t).2 (Fam.res u).1 (Fam.res u).2 :=
  fnC1 (C := Fam.C n) (A := Fam.A n) (fn := Tryd.f69) rfl .nil hmix Tryd.func69 (by kernel_rfl) (lp := []) (by kernel_rfl) .nil
  (nj rfl) (by decide) rfl rfl (by show 1 ≤ Tryd.f69.ntmps; decide) (Fam.run n t) (Fam.gmap Fam.res (fun a0 => a0) n t) h
theorem Fam.s (hmix : Tryd.prog.follows .mixedOrders = true) (n : Nat) : CalleeS Tryd.prog abiG 69 (Fam.c n) :=
  .mk1 (res := Fam.res) (shape := Fam.shape) (fun R u K => rfl) (fun _ _ _ h => by unfold Fam.pat at h; split at h <;> cases h; rfl) (fun t u h => Fam.call hmix n t u h) Tryd.func69 (by decide) (by kernel_rfl)
end
section
theorem Fy.gmap {α β : Type} (h : β → α) (mk0 : LI → β) (n : Nat) (a0 : Int) : Fy.g (fun a0 => (h (mk0 a0))) n a0 = (Fy.g mk0 n a0).map h := by
  unfold Fy.g
  exact (bindO_map fun r2 => (bindO_map fun r4 => rfl))
theorem Fy.run (n : Nat) (a0 : Int) : runF (Fy.C n) (Fy.A n) n Tryd.f61 [(.int .i64 a0)] [] (fun v o => some (v, o)) = Fy.g (fun a0 => (((.own 0 1), [(some (.ints .u8 a0))]) : AV × Blks)) n a0 := by kernel_rfl
theorem Fy.call (hmix : Tryd.prog.follows .mixedOrders = true) (n : Nat) (t : Int) (u) (h : Fy.m n t = some u) : FnC Tryd.prog abiG 61 (Fy.shape t).1 (Fy.shape t).2 (Fy.res u).1 (Fy.res u).2 :=
  fnC1 (C := Fy.C n) (A := Fy.A n) (fn := Tryd.f61) rfl (.cons (Fam.s hmix n) (.cons (Fx.s hmix n) .nil)) hmix Tryd.func61 (by kernel_rfl) (lp := []) (by kernel_rfl) .nil
  (nj rfl) (by decide) rfl rfl (by show 1 ≤ Tryd.f61.ntmps; decide) (Fy.run n t) (Fy.gmap Fy.res (fun a0 => a0) n t) h
theorem Fy.s (hmix : Tryd.prog.follows .mixedOrders = true) (n : Nat) : CalleeS Tryd.prog abiG 61 (Fy.c n) :=
  .mk1 (res := Fy.res) (shape := Fy.shape) (fun R u K => rfl) (fun _ _ _ h => by unfold Fy.pat at h; split at h <;> cases h; rfl) (fun t u h => Fy.call hmix n t u h) Tryd.func61 (by decide) (by kernel_rfl)
end
section
noncomputable abbrev Fz.R0 (n : Nat) := roundOf (Fz.C n) (Fz.A n) n Fz.b0
theorem Fz.l3_0.rmap {α β : Type} (h : β → α) (mk0 : LI → LI → β) (n : Nat) (f : Int → Int → LA → LA → LI → LI → Option β)  (x0 : Int) (x1 : Int) (x2 : LA) (x3 : LA) (x4 : LI) (x5 : LI) : Fz.l3_0.r (fun a0 a1 => (h (mk0 a0 a1))) n (fun y0 y1 y2 y3 y4 y5 => (f y0 y1 y2 y3 y4 y5).map h) x0 x1 x2 x3 x4 x5 = (Fz.l3_0.r mk0 n f x0 x1 x2 x3 x4 x5).map h := by
  unfold Fz.l3_0.r
  exact (ite_map (ite_map (ite_map (bindO_map fun r10 => (bindO_map fun r12 => (bindO_map fun r14 => (bindO_map fun r16 => (ite_map (bindO_map fun r20 => (ite_map rfl rfl)) (bindO_map fun r20 => (ite_map (bindO_map fun r24 => (ite_map (ite_map (ite_map (ite_map rfl rfl) rfl) rfl) rfl)) rfl))))))) rfl) rfl) rfl)
theorem Fz.l3_0.gmap {α β : Type} (h : β → α) (mk0 : LI → LI → β) (n : Nat) : ∀ (m : Nat) (x0 : Int) (x1 : Int) (x2 : LA) (x3 : LA) (x4 : LI) (x5 : LI), Fz.l3_0.g (fun a0 a1 => (h (mk0 a0 a1))) n m x0 x1 x2 x3 x4 x5 = (Fz.l3_0.g mk0 n m x0 x1 x2 x3 x4 x5).map h
  | 0, _, _, _, _, _, _ => rfl
  | m + 1, x0, x1, x2, x3, x4, x5 => by
    unfold Fz.l3_0.g
    rw [← Fz.l3_0.rmap]
    congr
    · funext y0 y1 y2 y3 y4 y5; exact Fz.l3_0.gmap h mk0 n m y0 y1 y2 y3 y4 y5
theorem Fz.l3_0.pat_shape : ∀ st t, Fz.l3_0.pat st = some t → st = Fz.l3_0.shape t := fun _ _ h => by unfold Fz.l3_0.pat at h; split at h <;> cases h; rfl
def Fz.l3_0.k0 : LI → LI → Ex × St := (fun a0 a1 => (((.exit 0), (St.mk [(.own 0 1), (.own 1 1)] [(some (.ints .u8 a0)), (some (.ints .u8 a1))])) : Ex × St))
theorem Fz.l3_0.round (n : Nat) (rc : St → Option (Ex × St)) (x0 : Int) (x1 : Int) (x2 : LA) (x3 : LA) (x4 : LI) (x5 : LI) : Fz.R0 n rc ((St.mk [(.int .i64 x0), (.int .i64 x1), (.robjs 69 6 x2), (.own 0 1), (.robjs 69 6 x3), (.own 1 1)] [(some (.ints .u8 x4)), (some (.ints .u8 x5))])) = Fz.l3_0.r Fz.l3_0.k0 n (fun y0 y1 y2 y3 y4 y5 => rc ((St.mk [(.int .i64 y0), (.int .i64 y1), (.robjs 69 6 y2), (.own 0 1), (.robjs 69 6 y3), (.own 1 1)] [(some (.ints .u8 y4)), (some (.ints .u8 y5))]))) x0 x1 x2 x3 x4 x5 := by kernel_rfl
theorem Fz.l3_0.loop' (n : Nat) : ∀ (m : Nat) (t : (Int × (Int × (LA × (LA × (LI × LI)))))), loopOf (Fz.R0 n) m (Fz.l3_0.shape t) = Fz.l3_0.g Fz.l3_0.k0 n m t.1 t.2.1 t.2.2.1 t.2.2.2.1 t.2.2.2.2.1 t.2.2.2.2.2 :=
  loop_of_round (shape := Fz.l3_0.shape) (body := Fz.R0 n) (g := fun m t => Fz.l3_0.g Fz.l3_0.k0 n m t.1 t.2.1 t.2.2.1 t.2.2.2.1 t.2.2.2.2.1 t.2.2.2.2.2) (fun t => rfl)
    fun m t ih => (Fz.l3_0.round n (loopOf (Fz.R0 n) m) t.1 t.2.1 t.2.2.1 t.2.2.2.1 t.2.2.2.2.1 t.2.2.2.2.2).trans (congrFun (congrFun (congrFun (congrFun (congrFun (congrFun (congrArg (Fz.l3_0.r Fz.l3_0.k0 n) (funext fun y0 => funext fun y1 => funext fun y2 => funext fun y3 => funext fun y4 => funext fun y5 => ih (y0, y1, y2, y3, y4, y5))) t.1) t.2.1) t.2.2.1) t.2.2.2.1) t.2.2.2.2.1) t.2.2.2.2.2)
theorem Fz.l3_0.loop (n m : Nat) (t : (Int × (Int × (LA × (LA × (LI × LI)))))) : loopOf (Fz.R0 n) m (Fz.l3_0.shape t) = (Fz.l3_0.m n m t).map Fz.l3_0.res :=
  (Fz.l3_0.loop' n m t).trans (Fz.l3_0.gmap Fz.l3_0.res (fun a0 a1 => (a0, a1)) n m t.1 t.2.1 t.2.2.1 t.2.2.2.1 t.2.2.2.2.1 t.2.2.2.2.2)
theorem Fz.gmap {α β : Type} (h : β → α) (mk0 : LI → β) (n : Nat) (a0 : LA) : Fz.g (fun a0 => (h (mk0 a0))) n a0 = (Fz.g mk0 n a0).map h := by
  unfold Fz.g
  exact (bindO_map fun r2 => (ite_map rfl rfl))
theorem Fz.run (n : Nat) (a0 : LA) : runF (Fz.C n) (Fz.A n) n Tryd.f20 [(.robjs 69 6 a0)] [] (fun v o => some (v, o)) = Fz.g (fun a0 => (((.own 0 1), [(some (.ints .u8 a0))]) : AV × Blks)) n a0 := by kernel_rfl
theorem Fz.call (hmix : Tryd.prog.follows .mixedOrders = true) (n : Nat) (t : LA) (u) (h : Fz.m n t = some u) : FnC Tryd.prog abiG 20 (Fz.shape t).1 (Fz.shape t).2 (Fz.res u).1 (Fz.res u).2 :=
  fnC1 (C := Fz.C n) (A := Fz.A n) (fn := Tryd.f20) rfl (.cons (Fx.s hmix n) (.cons (Fy.s hmix n) .nil)) hmix Tryd.func20 (by kernel_rfl) (lp := [Fz.b0]) (by kernel_rfl) (.cons (show (Fz.A n).loop (key Fz.b0) = some (.mk' Fz.l3_0.pat (Fz.l3_0.m n n) Fz.l3_0.resK) by kernel_rfl) (LoopS.of (res := Fz.l3_0.res) (fun R u K => rfl) Fz.l3_0.pat_shape fun t => Fz.l3_0.loop n n t)
  .nil)
  (nj rfl) (by decide) rfl rfl (by show 1 ≤ Tryd.f20.ntmps; decide) (Fz.run n t) (Fz.gmap Fz.res (fun a0 => a0) n t) h
theorem Fz.s (hmix : Tryd.prog.follows .mixedOrders = true) (n : Nat) : CalleeS Tryd.prog abiG 20 (Fz.c n) :=
  .mk1 (res := Fz.res) (shape := Fz.shape) (fun R u K => rfl) (fun _ _ _ h => by unfold Fz.pat at h; split at h <;> cases h; rfl) (fun t u h => Fz.call hmix n t u h) Tryd.func20 (by decide) (by kernel_rfl)
end
section
noncomputable section
def Fav.g {α : Type} (mk0 : LI → α) (n : Nat) (a0 : Int) : Option α :=
 some (mk0 [a0, 0, 0, 0])
def Fav.m (n : Nat) (t : Int) : Option LI := Fav.g (fun a0 => a0) n t
end
end
section
noncomputable section
def Faa.l11_0.r {α : Type} (mk0 : Int → LA → LI → LI → α) (n : Nat) (rc : Int → LA → LI → LI → Option α)  (x0 : Int) (x1 : LA) (x2 : LI) (x3 : LI) : Option α :=
  if ((Int.tmod (((List.length x2) : Nat) : Int) 32) != 0) = true then
   if ((((List.length x2) + 1) * 1) ≤ 70368744177664 ∧ ((List.length x2) + 1) ≤ 9223372036854775807) then
    rc x0 x1 (x2 ++ [0]) x3
   else
    none
  else
   some (mk0 x0 x1 x3 x2)
def Faa.l11_0.g {α : Type} (mk0 : Int → LA → LI → LI → α) (n : Nat) : Nat → Int → LA → LI → LI → Option α
 | 0, _, _, _, _ => none
 | m + 1, x0, x1, x2, x3 => Faa.l11_0.r mk0 n (fun y0 y1 y2 y3 => Faa.l11_0.g mk0 n m y0 y1 y2 y3)  x0 x1 x2 x3
def Faa.l11_0.m (n m : Nat) (t : (Int × (LA × (LI × LI)))) : Option (Int × (LA × (LI × LI))) := Faa.l11_0.g (fun a0 a1 a2 a3 => (a0, a1, a2, a3)) n m t.1 t.2.1 t.2.2.1 t.2.2.2
def Faa.l3_0.r {α : Type} (mk0 : LI → LI → α) (n : Nat) (rc : Int → LA → LI → LI → Option α)  (x0 : Int) (x1 : LA) (x2 : LI) (x3 : LI) : Option α :=
  if (decide (x0 < (((List.length x1) : Nat) : Int))) = true then
   if 0 ≤ x0 then
    if x0 < (((List.length x1) : Nat) : Int) then
     bindO (tkAgg 3 (List.getD x1 (Int.toNat x0) AV.any)) fun r10 =>
      bindO (tkBool (List.getD r10 0 AV.any)) fun r12 =>
       bindO (tkInts .u64 4 (List.getD r10 1 AV.any)) fun r14 =>
        bindO (tkRints .u8 (List.getD r10 2 AV.any)) fun r16 =>
         if (!r12) = true then
          if 0 ≤ x0 then
           if x0 < (((List.length x1) : Nat) : Int) then
            bindO (tkAgg 3 (List.getD x1 (Int.toNat x0) AV.any)) fun r24 =>
             bindO (tkBool (List.getD r24 0 AV.any)) fun r26 =>
              bindO (tkInts .u64 4 (List.getD r24 1 AV.any)) fun r28 =>
               bindO (tkRints .u8 (List.getD r24 2 AV.any)) fun r30 =>
                bindO (Fal.m n r28) fun r32 =>
                 if ((((List.length x2) + (List.length r32)) * 1) ≤ 70368744177664 ∧ ((List.length x2) + (List.length r32)) ≤ 9223372036854775807) then
                  rc (IntKind.wrap .i64 (x0 + 1)) x1 (x2 ++ r32) x3
                 else
                  none
           else
            none
          else
           none
         else
          bindO (Fav.m n (IntKind.wrap .u64 (IntKind.wrap .i64 ((IntKind.wrap .i64 (32 * (((List.length x1) : Nat) : Int))) + (((List.length x3) : Nat) : Int))))) fun r20 =>
           bindO (Fal.m n r20) fun r22 =>
            if ((((List.length x2) + (List.length r22)) * 1) ≤ 70368744177664 ∧ ((List.length x2) + (List.length r22)) ≤ 9223372036854775807) then
             if 0 ≤ x0 then
              if x0 < (((List.length x1) : Nat) : Int) then
               bindO (tkAgg 3 (List.getD x1 (Int.toNat x0) AV.any)) fun r30 =>
                bindO (tkBool (List.getD r30 0 AV.any)) fun r32 =>
                 bindO (tkInts .u64 4 (List.getD r30 1 AV.any)) fun r34 =>
                  bindO (tkRints .u8 (List.getD r30 2 AV.any)) fun r36 =>
                   bindO (Fav.m n (IntKind.wrap .u64 (((List.length r36) : Nat) : Int))) fun r38 =>
                    bindO (Fal.m n r38) fun r40 =>
                     if ((((List.length x3) + (List.length r40)) * 1) ≤ 70368744177664 ∧ ((List.length x3) + (List.length r40)) ≤ 9223372036854775807) then
                      if 0 ≤ x0 then
                       if x0 < (((List.length x1) : Nat) : Int) then
                        bindO (tkAgg 3 (List.getD x1 (Int.toNat x0) AV.any)) fun r48 =>
                         bindO (tkBool (List.getD r48 0 AV.any)) fun r50 =>
                          bindO (tkInts .u64 4 (List.getD r48 1 AV.any)) fun r52 =>
                           bindO (tkRints .u8 (List.getD r48 2 AV.any)) fun r54 =>
                            if ((((List.length (x3 ++ r40)) + (List.length r54)) * 1) ≤ 70368744177664 ∧ ((List.length (x3 ++ r40)) + (List.length r54)) ≤ 9223372036854775807) then
                             bindO (Faa.l11_0.m n n (x0, x1, ((x3 ++ r40) ++ r54), (x2 ++ r22))) fun r58 =>
                              rc (IntKind.wrap .i64 (r58.1 + 1)) r58.2.1 r58.2.2.1 r58.2.2.2
                            else
                             none
                       else
                        none
                      else
                       none
                     else
                      none
              else
               none
             else
              none
            else
             none
    else
     none
   else
    none
  else
   some (mk0 x2 x3)
def Faa.l3_0.g {α : Type} (mk0 : LI → LI → α) (n : Nat) : Nat → Int → LA → LI → LI → Option α
 | 0, _, _, _, _ => none
 | m + 1, x0, x1, x2, x3 => Faa.l3_0.r mk0 n (fun y0 y1 y2 y3 => Faa.l3_0.g mk0 n m y0 y1 y2 y3)  x0 x1 x2 x3
def Faa.l3_0.m (n m : Nat) (t : (Int × (LA × (LI × LI)))) : Option (LI × LI) := Faa.l3_0.g (fun a0 a1 => (a0, a1)) n m t.1 t.2.1 t.2.2.1 t.2.2.2
def Faa.g {α : Type} (mk0 : LI → α) (n : Nat) (a0 : LA) : Option α :=
 bindO (Faa.l3_0.m n n (0, a0, [], [])) fun r2 =>
  if ((((List.length r2.1) + (List.length r2.2)) * 1) ≤ 70368744177664 ∧ ((List.length r2.1) + (List.length r2.2)) ≤ 9223372036854775807) then
   some (mk0 (r2.1 ++ r2.2))
  else
   none
def Faa.m (n : Nat) (t : LA) : Option LI := Faa.g (fun a0 => a0) n t
end
end
section
noncomputable section
noncomputable def Faw.C (n : Nat) : Ctx := ⟨Tryd.prog, abiG, lookC [], fun _ => false⟩
def Faw.live : NL := fun k => match k with
 | 3 => ([4, 0, 3], [3])
 | _ => ([], [])
def Faw.l3_0.r {α : Type} (mk0 : Int → α) (n : Nat) (rc : Int → LA → Int → Option α)  (x0 : Int) (x1 : LA) (x2 : Int) : Option α :=
  if (decide (x0 < (((List.length x1) : Nat) : Int))) = true then
   if (decide (x2 ≤ 2000)) = true then
    if 0 ≤ x0 then
     if x0 < (((List.length x1) : Nat) : Int) then
      bindO (tkAgg 3 (List.getD x1 (Int.toNat x0) AV.any)) fun r12 =>
       bindO (tkBool (List.getD r12 0 AV.any)) fun r14 =>
        bindO (tkInts .u64 4 (List.getD r12 1 AV.any)) fun r16 =>
         bindO (tkRints .u8 (List.getD r12 2 AV.any)) fun r18 =>
          rc (IntKind.wrap .i64 (x0 + 1)) x1 (IntKind.wrap .i64 (x2 + (IntKind.wrap .i64 ((if 2000 < (((List.length r18) : Nat) : Int) then 2000 else (((List.length r18) : Nat) : Int)) + 1))))
     else
      none
    else
     none
   else
    some (mk0 x2)
  else
   some (mk0 x2)
def Faw.l3_0.g {α : Type} (mk0 : Int → α) (n : Nat) : Nat → Int → LA → Int → Option α
 | 0, _, _, _ => none
 | m + 1, x0, x1, x2 => Faw.l3_0.r mk0 n (fun y0 y1 y2 => Faw.l3_0.g mk0 n m y0 y1 y2)  x0 x1 x2
def Faw.l3_0.m (n m : Nat) (t : (Int × (LA × Int))) : Option Int := Faw.l3_0.g (fun a0 => a0) n m t.1 t.2.1 t.2.2
def Faw.l3_0.pat : St → Option (Int × (LA × Int))
 | (St.mk [(.int .i64 x0), (.robjs 69 6 x1), (.int .i64 x2)] []) => some (x0, x1, x2)
 | _ => none
def Faw.l3_0.shape (t : (Int × (LA × Int))) : St := (St.mk [(.int .i64 t.1), (.robjs 69 6 t.2.1), (.int .i64 t.2.2)] [])
def Faw.l3_0.res : Int → Ex × St
 | u => ((.exit 0), (St.mk [(.int .i64 u)] []))
def Faw.l3_0.resK {R : Type} (u : Int) (K : Ex → St → Option R) : Option R := K (Faw.l3_0.res u).1 (Faw.l3_0.res u).2
noncomputable def Faw.A (n : Nat) : Ann := ⟨Tryd.f17.ntmps, 0, Faw.live, [(0, (.objs 69 6))], [none], fun k => match k with
 | 3 => some (.mk' Faw.l3_0.pat (Faw.l3_0.m n n) Faw.l3_0.resK)
 | _ => none, noNL, lookJ []⟩
noncomputable def Faw.b0 : Code := (loopsIn (Tryd.f17.body.getD .skip)).getD 0 .skip
def Faw.g {α : Type} (mk0 : Bool → α) (n : Nat) (a0 : LA) : Option α :=
 bindO (Faw.l3_0.m n n (0, a0, (((List.length a0) : Nat) : Int))) fun r2 =>
  some (mk0 (decide (r2 > 2000)))
def Faw.m (n : Nat) (t : LA) : Option Bool := Faw.g (fun a0 => a0) n t
def Faw.pat : List AV → Blks → Option LA
 | [(.robjs 69 6 a0)], [] => some a0
 | _, _ => none
def Faw.shape (t : LA) : List AV × Blks := ([(.robjs 69 6 t)], [])
def Faw.res : Bool → AV × Blks
 | u => ((.bool u), [])
def Faw.resK {R : Type} (u : Bool) (K : AV → Blks → Option R) : Option R := K (Faw.res u).1 (Faw.res u).2
def Faw.c (n : Nat) : Abs.Callee := .mk' [] [(some (.objs 69 6))] Faw.pat (Faw.m n) Faw.resK
end
end
section
noncomputable abbrev Faw.R0 (n : Nat) := roundOf (Faw.C n) (Faw.A n) n Faw.b0
theorem Faw.l3_0.rmap {α β : Type} (h : β → α) (mk0 : Int → β) (n : Nat) (f : Int → LA → Int → Option β)  (x0 : Int) (x1 : LA) (x2 : Int) : Faw.l3_0.r (fun a0 => (h (mk0 a0))) n (fun y0 y1 y2 => (f y0 y1 y2).map h) x0 x1 x2 = (Faw.l3_0.r mk0 n f x0 x1 x2).map h := by
  unfold Faw.l3_0.r
  exact (ite_map (ite_map (ite_map (ite_map (bindO_map fun r12 => (bindO_map fun r14 => (bindO_map fun r16 => (bindO_map fun r18 => rfl)))) rfl) rfl) rfl) rfl)
theorem Faw.l3_0.gmap {α β : Type} (h : β → α) (mk0 : Int → β) (n : Nat) : ∀ (m : Nat) (x0 : Int) (x1 : LA) (x2 : Int), Faw.l3_0.g (fun a0 => (h (mk0 a0))) n m x0 x1 x2 = (Faw.l3_0.g mk0 n m x0 x1 x2).map h
  | 0, _, _, _ => rfl
  | m + 1, x0, x1, x2 => by
    unfold Faw.l3_0.g
    rw [← Faw.l3_0.rmap]
    congr
    · funext y0 y1 y2; exact Faw.l3_0.gmap h mk0 n m y0 y1 y2
theorem Faw.l3_0.pat_shape : ∀ st t, Faw.l3_0.pat st = some t → st = Faw.l3_0.shape t := fun _ _ h => by unfold Faw.l3_0.pat at h; split at h <;> cases h; rfl
def Faw.l3_0.k0 : Int → Ex × St := (fun a0 => (((.exit 0), (St.mk [(.int .i64 a0)] [])) : Ex × St))
theorem Faw.l3_0.round (n : Nat) (rc : St → Option (Ex × St)) (x0 : Int) (x1 : LA) (x2 : Int) : Faw.R0 n rc ((St.mk [(.int .i64 x0), (.robjs 69 6 x1), (.int .i64 x2)] [])) = Faw.l3_0.r Faw.l3_0.k0 n (fun y0 y1 y2 => rc ((St.mk [(.int .i64 y0), (.robjs 69 6 y1), (.int .i64 y2)] []))) x0 x1 x2 := by kernel_rfl
theorem Faw.l3_0.loop' (n : Nat) : ∀ (m : Nat) (t : (Int × (LA × Int))), loopOf (Faw.R0 n) m (Faw.l3_0.shape t) = Faw.l3_0.g Faw.l3_0.k0 n m t.1 t.2.1 t.2.2 :=
  loop_of_round (shape := Faw.l3_0.shape) (body := Faw.R0 n) (g := fun m t => Faw.l3_0.g Faw.l3_0.k0 n m t.1 t.2.1 t.2.2) (fun t => rfl)
    fun m t ih => (Faw.l3_0.round n (loopOf (Faw.R0 n) m) t.1 t.2.1 t.2.2).trans (congrFun (congrFun (congrFun (congrArg (Faw.l3_0.r Faw.l3_0.k0 n) (funext fun y0 => funext fun y1 => funext fun y2 => ih (y0, y1, y2))) t.1) t.2.1) t.2.2)
theorem Faw.l3_0.loop (n m : Nat) (t : (Int × (LA × Int))) : loopOf (Faw.R0 n) m (Faw.l3_0.shape t) = (Faw.l3_0.m n m t).map Faw.l3_0.res :=
  (Faw.l3_0.loop' n m t).trans (Faw.l3_0.gmap Faw.l3_0.res (fun a0 => a0) n m t.1 t.2.1 t.2.2)
theorem Faw.gmap {α β : Type} (h : β → α) (mk0 : Bool → β) (n : Nat) (a0 : LA) : Faw.g (fun a0 => (h (mk0 a0))) n a0 = (Faw.g mk0 n a0).map h := by
  unfold Faw.g
  exact (bindO_map fun r2 => rfl)
theorem Faw.run (n : Nat) (a0 : LA) : runF (Faw.C n) (Faw.A n) n Tryd.f17 [(.robjs 69 6 a0)] [] (fun v o => some (v, o)) = Faw.g (fun a0 => (((.bool a0), []) : AV × Blks)) n a0 := by kernel_rfl
theorem Faw.call (hmix : Tryd.prog.follows .mixedOrders = true) (n : Nat) (t : LA) (u) (h : Faw.m n t = some u) : FnC Tryd.prog abiG 17 (Faw.shape t).1 (Faw.shape t).2 (Faw.res u).1 (Faw.res u).2 :=
  fnC1 (C := Faw.C n) (A := Faw.A n) (fn := Tryd.f17) rfl .nil hmix Tryd.func17 (by kernel_rfl) (lp := [Faw.b0]) (by kernel_rfl) (.cons (show (Faw.A n).loop (key Faw.b0) = some (.mk' Faw.l3_0.pat (Faw.l3_0.m n n) Faw.l3_0.resK) by kernel_rfl) (LoopS.of (res := Faw.l3_0.res) (fun R u K => rfl) Faw.l3_0.pat_shape fun t => Faw.l3_0.loop n n t)
  .nil)
  (nj rfl) (by decide) rfl rfl (by show 1 ≤ Tryd.f17.ntmps; decide) (Faw.run n t) (Faw.gmap Faw.res (fun a0 => a0) n t) h
theorem Faw.s (hmix : Tryd.prog.follows .mixedOrders = true) (n : Nat) : CalleeS Tryd.prog abiG 17 (Faw.c n) :=
  .mk1 (res := Faw.res) (shape := Faw.shape) (fun R u K => rfl) (fun _ _ _ h => by unfold Faw.pat at h; split at h <;> cases h; rfl) (fun t u h => Faw.call hmix n t u h) Tryd.func17 (by decide) (by kernel_rfl)
end
section
noncomputable section
def Fan.g {α : Type} (mk0 : Int → Bool → α) (n : Nat) (a0 : LI) : Option α :=
 if ((List.getD a0 1 0) != 0) = true then
  some (mk0 0 false)
 else
  if ((List.getD a0 2 0) != 0) = true then
   some (mk0 0 false)
  else
   if ((List.getD a0 3 0) != 0) = true then
    some (mk0 0 false)
   else
    some (mk0 (List.getD a0 0 0) true)
def Fan.m (n : Nat) (t : LI) : Option (Int × Bool) := Fan.g (fun a0 a1 => (a0, a1)) n t
end
end
section
noncomputable section
noncomputable def Faf.C (n : Nat) : Ctx := ⟨Tryd.prog, abiG, lookC [], fun _ => false⟩
noncomputable def Faf.A (n : Nat) : Ann := ⟨Tryd.f120.ntmps, 0, noNL, [], [none, none], fun k => match k with
 | _ => none, noNL, lookJ []⟩
def Faf.g {α : Type} (mk0 : Int → Bool → α) (n : Nat) (a0 : LI) : Option α :=
 if ((ibits BinOp.or .u64 (ibits BinOp.or .u64 (List.getD a0 1 0) (List.getD a0 2 0)) (List.getD a0 3 0)) != 0) = true then
  some (mk0 0 false)
 else
  some (mk0 (List.getD a0 0 0) true)
def Faf.m (n : Nat) (t : LI) : Option (Int × Bool) := Faf.g (fun a0 a1 => (a0, a1)) n t
def Faf.pat : List AV → Blks → Option LI
 | [(.ints .u64 4 a0)], [] => some a0
 | _, _ => none
def Faf.shape (t : LI) : List AV × Blks := ([(.ints .u64 4 t)], [])
def Faf.res : (Int × Bool) → AV × Blks
 | u => ((.tup [(.int .u64 u.1), (.bool u.2)]), [])
def Faf.resK {R : Type} (u : (Int × Bool)) (K : AV → Blks → Option R) : Option R := K (Faf.res u).1 (Faf.res u).2
def Faf.c (n : Nat) : Abs.Callee := .mk' [] [none] Faf.pat (Faf.m n) Faf.resK
end
end
section
theorem Faf.gmap {α β : Type} (h : β → α) (mk0 : Int → Bool → β) (n : Nat) (a0 : LI) : Faf.g (fun a0 a1 => (h (mk0 a0 a1))) n a0 = (Faf.g mk0 n a0).map h := by
  unfold Faf.g
  exact (ite_map rfl rfl)
theorem Faf.run (n : Nat) (a0 : LI) : runF (Faf.C n) (Faf.A n) n Tryd.f120 [(.ints .u64 4 a0)] [] (fun v o => some (v, o)) = Faf.g (fun a0 a1 => (((.tup [(.int .u64 a0), (.bool a1)]), []) : AV × Blks)) n a0 := by kernel_rfl
theorem Faf.call (hmix : Tryd.prog.follows .mixedOrders = true) (n : Nat) (t : LI) (u) (h : Faf.m n t = some u) : FnC Tryd.prog abiG 120 (Faf.shape t).1 (Faf.shape t).2 (Faf.res u).1 (Faf.res u).2 :=
  fnC1 (C := Faf.C n) (A := Faf.A n) (fn := Tryd.f120) rfl .nil hmix Tryd.func120 (by kernel_rfl) (lp := []) (by kernel_rfl) .nil
  (nj rfl) (by decide) rfl rfl (by show 1 ≤ Tryd.f120.ntmps; decide) (Faf.run n t) (Faf.gmap Faf.res (fun a0 a1 => (a0, a1)) n t) h
theorem Faf.s (hmix : Tryd.prog.follows .mixedOrders = true) (n : Nat) : CalleeS Tryd.prog abiG 120 (Faf.c n) :=
  .mk1 (res := Faf.res) (shape := Faf.shape) (fun R u K => rfl) (fun _ _ _ h => by unfold Faf.pat at h; split at h <;> cases h; rfl) (fun t u h => Faf.call hmix n t u h) Tryd.func120 (by decide) (by kernel_rfl)
end
section
noncomputable section
noncomputable def Fk.C (n : Nat) : Ctx := ⟨Tryd.prog, abiG, lookC [], fun _ => false⟩
noncomputable def Fk.A (n : Nat) : Ann := ⟨Tryd.f19.ntmps, 0, noNL, [], [none], fun k => match k with
 | _ => none, noNL, lookJ []⟩
def Fk.g {α : Type} (mk0 : Bool → α) (n : Nat) (a0 : LI) (a1 : LI) : Option α :=
 some (mk0 ((ByteArray.toList (Go.Abs.strOf a0)) == (ByteArray.toList (Go.Abs.strOf a1))))
def Fk.m (n : Nat) (t : (LI × LI)) : Option Bool := Fk.g (fun a0 => a0) n t.1 t.2
def Fk.pat : List AV → Blks → Option (LI × LI)
 | [(.rints .u8 a0), (.rints .u8 a1)], [] => some (a0, a1)
 | _, _ => none
def Fk.shape (t : (LI × LI)) : List AV × Blks := ([(.rints .u8 t.1), (.rints .u8 t.2)], [])
def Fk.res : Bool → AV × Blks
 | u => ((.bool u), [])
def Fk.resK {R : Type} (u : Bool) (K : AV → Blks → Option R) : Option R := K (Fk.res u).1 (Fk.res u).2
def Fk.c (n : Nat) : Abs.Callee := .mk' [] [(some (.ints .u8)), (some (.ints .u8))] Fk.pat (Fk.m n) Fk.resK
end
end
section
theorem Fk.gmap {α β : Type} (h : β → α) (mk0 : Bool → β) (n : Nat) (a0 : LI) (a1 : LI) : Fk.g (fun a0 => (h (mk0 a0))) n a0 a1 = (Fk.g mk0 n a0 a1).map h := by
  unfold Fk.g
  exact rfl
theorem Fk.run (n : Nat) (a0 : LI) (a1 : LI) : runF (Fk.C n) (Fk.A n) n Tryd.f19 [(.rints .u8 a0), (.rints .u8 a1)] [] (fun v o => some (v, o)) = Fk.g (fun a0 => (((.bool a0), []) : AV × Blks)) n a0 a1 := by kernel_rfl
theorem Fk.call (hmix : Tryd.prog.follows .mixedOrders = true) (n : Nat) (t : (LI × LI)) (u) (h : Fk.m n t = some u) : FnC Tryd.prog abiG 19 (Fk.shape t).1 (Fk.shape t).2 (Fk.res u).1 (Fk.res u).2 :=
  fnC1 (C := Fk.C n) (A := Fk.A n) (fn := Tryd.f19) rfl .nil hmix Tryd.func19 (by kernel_rfl) (lp := []) (by kernel_rfl) .nil
  (nj rfl) (by decide) rfl rfl (by show 2 ≤ Tryd.f19.ntmps; decide) (Fk.run n t.1 t.2) (Fk.gmap Fk.res (fun a0 => a0) n t.1 t.2) h
theorem Fk.s (hmix : Tryd.prog.follows .mixedOrders = true) (n : Nat) : CalleeS Tryd.prog abiG 19 (Fk.c n) :=
  .mk1 (res := Fk.res) (shape := Fk.shape) (fun R u K => rfl) (fun _ _ _ h => by unfold Fk.pat at h; split at h <;> cases h; rfl) (fun t u h => Fk.call hmix n t u h) Tryd.func19 (by decide) (by kernel_rfl)
end
section
noncomputable section
noncomputable def Fbq.C (n : Nat) : Ctx := ⟨Tryd.prog, abiG, lookC [(89, Fak.c n), (120, Faf.c n)], fun _ => false⟩
noncomputable def Fbq.A (n : Nat) : Ann := ⟨Tryd.f105.ntmps, 0, noNL, [], [none, none], fun k => match k with
 | _ => none, noNL, lookJ []⟩
def Fbq.g {α : Type} (mk0 : Int → α) (mk1 : Int → α) (n : Nat) (a0 : LI) (a1 : Int) : Option α :=
 if (decide ((((List.length a0) : Nat) : Int) < 32)) = true then
  some (mk0 0)
 else
  if 32 ≤ (((List.length a0) : Nat) : Int) then
   bindO (Fak.m n (Go.Abs.cut a0 0 (Option.some 32))) fun r6 =>
    bindO (Faf.m n r6) fun r8 =>
     if (!r8.2) = true then
      some (mk0 0)
     else
      if (decide (a1 < 0)) = true then
       some (mk0 0)
      else
       if (decide (r8.1 > (IntKind.wrap .u64 a1))) = true then
        some (mk0 0)
       else
        some (mk1 (IntKind.wrap .i64 r8.1))
  else
   none
def Fbq.m (n : Nat) (t : (LI × Int)) : Option (Int ⊕ Int) := Fbq.g (fun a0 => (.inl a0)) (fun a0 => (.inr a0)) n t.1 t.2
def Fbq.pat : List AV → Blks → Option (LI × Int)
 | [(.rints .u8 a0), (.int .i64 a1)], [] => some (a0, a1)
 | _, _ => none
def Fbq.shape (t : (LI × Int)) : List AV × Blks := ([(.rints .u8 t.1), (.int .i64 t.2)], [])
def Fbq.res : (Int ⊕ Int) → AV × Blks
 | (.inl u) => ((.tup [(.int .i64 u), (.iface 166 .any)]), [])
 | (.inr u) => ((.tup [(.int .i64 u), .nili]), [])
def Fbq.resK {R : Type} (u : (Int ⊕ Int)) (K : AV → Blks → Option R) : Option R := match u with
 | (.inl u) => (fun p : AV × Blks => K p.1 p.2) ((.tup [(.int .i64 u), (.iface 166 .any)]), [])
 | (.inr u) => (fun p : AV × Blks => K p.1 p.2) ((.tup [(.int .i64 u), .nili]), [])
def Fbq.c (n : Nat) : Abs.Callee := .mk' [] [(some (.ints .u8)), none] Fbq.pat (Fbq.m n) Fbq.resK
end
end
section
theorem Fbq.gmap {α β : Type} (h : β → α) (mk0 : Int → β) (mk1 : Int → β) (n : Nat) (a0 : LI) (a1 : Int) : Fbq.g (fun a0 => (h (mk0 a0))) (fun a0 => (h (mk1 a0))) n a0 a1 = (Fbq.g mk0 mk1 n a0 a1).map h := by
  unfold Fbq.g
  exact (ite_map rfl (ite_map (bindO_map fun r6 => (bindO_map fun r8 => (ite_map rfl (ite_map rfl (ite_map rfl rfl))))) rfl))
theorem Fbq.run (n : Nat) (a0 : LI) (a1 : Int) : runF (Fbq.C n) (Fbq.A n) n Tryd.f105 [(.rints .u8 a0), (.int .i64 a1)] [] (fun v o => some (v, o)) = Fbq.g (fun a0 => (((.tup [(.int .i64 a0), (.iface 166 .any)]), []) : AV × Blks)) (fun a0 => (((.tup [(.int .i64 a0), .nili]), []) : AV × Blks)) n a0 a1 := by kernel_rfl
theorem Fbq.call (hmix : Tryd.prog.follows .mixedOrders = true) (n : Nat) (t : (LI × Int)) (u) (h : Fbq.m n t = some u) : FnC Tryd.prog abiG 105 (Fbq.shape t).1 (Fbq.shape t).2 (Fbq.res u).1 (Fbq.res u).2 :=
  fnC1 (C := Fbq.C n) (A := Fbq.A n) (fn := Tryd.f105) rfl (.cons (Fak.s hmix n) (.cons (Faf.s hmix n) .nil)) hmix Tryd.func105 (by kernel_rfl) (lp := []) (by kernel_rfl) .nil
  (nj rfl) (by decide) rfl rfl (by show 2 ≤ Tryd.f105.ntmps; decide) (Fbq.run n t.1 t.2) (Fbq.gmap Fbq.res (fun a0 => (.inl a0)) (fun a0 => (.inr a0)) n t.1 t.2) h
theorem Fbq.s (hmix : Tryd.prog.follows .mixedOrders = true) (n : Nat) : CalleeS Tryd.prog abiG 105 (Fbq.c n) :=
  .mk1 (res := Fbq.res) (shape := Fbq.shape) (fun R u K => by rcases u with u | u <;> rfl) (fun _ _ _ h => by unfold Fbq.pat at h; split at h <;> cases h; rfl) (fun t u h => Fbq.call hmix n t u h) Tryd.func105 (by decide) (by kernel_rfl)
end
section
noncomputable section
def Fah.g {α : Type} (mk0 : Int → Bool → α) (n : Nat) (a0 : LI) (a1 : Int) : Option α :=
 if (decide (a1 > (IntKind.wrap .i64 ((((List.length a0) : Nat) : Int) - 32)))) = true then
  some (mk0 0 false)
 else
  if 0 ≤ (IntKind.wrap .i64 (a1 + 32)) then
   if (IntKind.wrap .i64 (a1 + 32)) ≤ (((List.length a0) : Nat) : Int) then
    if 0 ≤ a1 then
     if a1 ≤ (IntKind.wrap .i64 (a1 + 32)) then
      bindO (Fau.m n (Go.Abs.cut a0 (Int.toNat a1) (Option.some (Int.toNat (IntKind.wrap .i64 (a1 + 32)))))) fun r12 =>
       bindO (Fan.m n r12) fun r14 =>
        if (!r14.2) = true then
         some (mk0 0 false)
        else
         if (decide (r14.1 > (IntKind.wrap .u64 (((List.length a0) : Nat) : Int)))) = true then
          some (mk0 0 false)
         else
          some (mk0 (IntKind.wrap .i64 r14.1) true)
     else
      none
    else
     none
   else
    none
  else
   none
def Fah.m (n : Nat) (t : (LI × Int)) : Option (Int × Bool) := Fah.g (fun a0 a1 => (a0, a1)) n t.1 t.2
end
end
section
noncomputable section
def Fa.m (n : Nat) (t : List Int) : Option LI := if t.length ≤ 100000 then some t else none
def Fa.pat : List AV → Blks → Option LI
 | [(.rints .u8 a0)], [] => some a0
 | _, _ => none
def Fa.shape (t : List Int) : List AV × Blks := ([(.rints .u8 t)], [])
def Fa.res : LI → AV × Blks
 | u => ((.own 0 1), [(some (.ints .u8 u))])
def Fa.resK {R : Type} (u : LI) (K : AV → Blks → Option R) : Option R := K (Fa.res u).1 (Fa.res u).2
def Fa.c (n : Nat) : Abs.Callee := .mk' [] [some (.ints .u8)] Fa.pat (Fa.m n) Fa.resK
end
end
section
noncomputable section
noncomputable def Fr.C (n : Nat) : Ctx := ⟨Tryd.prog, abiG, lookC [(105, Fbq.c n), (106, Fa.c n)], fun _ => false⟩
noncomputable def Fr.A (n : Nat) : Ann := ⟨Tryd.f90.ntmps, 0, noNL, [], [(some (.ints .u8)), none], fun k => match k with
 | _ => none, noNL, lookJ []⟩
def Fr.g {α : Type} (mk0 : Int → LI → α) (mk1 : LI → α) (n : Nat) (a0 : LI) (a1 : Int) : Option α :=
 if 0 ≤ (IntKind.wrap .i64 (32 * a1)) then
  if (IntKind.wrap .i64 (32 * a1)) ≤ (((List.length a0) : Nat) : Int) then
   bindO (Fbq.m n ((Go.Abs.cut a0 (Int.toNat (IntKind.wrap .i64 (32 * a1))) (Option.none)), (((List.length a0) : Nat) : Int))) fun r6 => match r6 with
    | (.inl r6) =>
     some (mk0 a1 [])
    | (.inr r6) =>
     if 0 ≤ r6 then
      if r6 ≤ (((List.length a0) : Nat) : Int) then
       bindO (Fbq.m n ((Go.Abs.cut a0 (Int.toNat r6) (Option.none)), (IntKind.wrap .i64 ((IntKind.wrap .i64 ((((List.length a0) : Nat) : Int) - r6)) - 32)))) fun r14 => match r14 with
        | (.inl r14) =>
         some (mk0 a1 [])
        | (.inr r14) =>
         if 0 ≤ (IntKind.wrap .i64 ((IntKind.wrap .i64 (r6 + 32)) + r14)) then
          if (IntKind.wrap .i64 ((IntKind.wrap .i64 (r6 + 32)) + r14)) ≤ (((List.length a0) : Nat) : Int) then
           if 0 ≤ (IntKind.wrap .i64 (r6 + 32)) then
            if (IntKind.wrap .i64 (r6 + 32)) ≤ (IntKind.wrap .i64 ((IntKind.wrap .i64 (r6 + 32)) + r14)) then
             bindO (Fa.m n (Go.Abs.cut a0 (Int.toNat (IntKind.wrap .i64 (r6 + 32))) (Option.some (Int.toNat (IntKind.wrap .i64 ((IntKind.wrap .i64 (r6 + 32)) + r14)))))) fun r26 =>
              some (mk1 r26)
            else
             none
           else
            none
          else
           none
         else
          none
      else
       none
     else
      none
  else
   none
 else
  none
def Fr.m (n : Nat) (t : (LI × Int)) : Option ((Int × LI) ⊕ LI) := Fr.g (fun a0 a1 => (.inl (a0, a1))) (fun a0 => (.inr a0)) n t.1 t.2
def Fr.pat : List AV → Blks → Option (LI × Int)
 | [(.rints .u8 a0), (.int .i64 a1)], [] => some (a0, a1)
 | _, _ => none
def Fr.shape (t : (LI × Int)) : List AV × Blks := ([(.rints .u8 t.1), (.int .i64 t.2)], [])
def Fr.res : ((Int × LI) ⊕ LI) → AV × Blks
 | (.inl u) => ((.tup [(.own 0 1), (.iface 104 (.agg [(.int .i64 u.1), (.iface 166 .any)]))]), [(some (.ints .u8 u.2))])
 | (.inr u) => ((.tup [(.own 0 1), .nili]), [(some (.ints .u8 u))])
def Fr.resK {R : Type} (u : ((Int × LI) ⊕ LI)) (K : AV → Blks → Option R) : Option R := match u with
 | (.inl u) => (fun p : AV × Blks => K p.1 p.2) ((.tup [(.own 0 1), (.iface 104 (.agg [(.int .i64 u.1), (.iface 166 .any)]))]), [(some (.ints .u8 u.2))])
 | (.inr u) => (fun p : AV × Blks => K p.1 p.2) ((.tup [(.own 0 1), .nili]), [(some (.ints .u8 u))])
def Fr.c (n : Nat) : Abs.Callee := .mk' [] [(some (.ints .u8)), none] Fr.pat (Fr.m n) Fr.resK
end
end
section
namespace Go.Proofs
open Go Go.RowKit Go.Shelf Go.Lib
attribute [local go_sem] Oper.semAt_some
theorem Tryd.info5 : (Tryd.prog.info? 5).map (fun i => (i.zero, i.size, i.bytes)) = some (some (.int .u8 0), 1, 1) := by kernel_rfl
theorem Tryd.under26 : Tryd.prog.underlying 26 = some (.slice 5) := by kernel_rfl
set_option maxHeartbeats 2000000 in
theorem Tryd.clone_in (F : Fence) (n : Nat) (hF : F.fn 106) (hro : F.round = none) (ad : Addr) (cap : Nat) (zs : List Int) (w : World) (hbig : zs.length ≤ 100000) (hc : ∀ j, j < zs.length → w.cell? (ad.add j) = some (.int .u8 (zs.getD j 0))) :
    CallsIn F n Tryd.prog 106 #[.slice (some ad) zs.length cap] w fun e w' => ∃ v', e = .returned v' ∧ w'.ownsRow w.heap.size 5 1 v' zs.length (zs.map (Value.int .u8)) ∧ Below w.heap.size w w' := by
  obtain ⟨i0, hi, hz0, hz1, hz2⟩ := info_parts Tryd.info5
  have q22 : ∀ (w : World) (a : Option Addr) (n c n' c' : Nat), (binOp .eql 26 (.slice a n c) (.slice none n' c')).run Tryd.prog w = .ok (.bool a.isNone) w := fun w a n c n' c' => Lib.run_eql_slice_nil w _ _ a n c n' c' Tryd.under26
  have u22 : ∀ w, Sem.run Tryd.prog (underlying 26) w = .ok (TypeDesc.slice 5) w := run_underlying Tryd.under26
  have A : Aside (∀ j, j < zs.length → w.cell? (ad.add j) = some (.int .u8 (zs.getD j 0))) := hc
  clear hc
  refine callsIn_of_wp Tryd.func106 rfl hF ?_ hro
  simp only [Tryd.ntmps106, List.size_toArray, List.length_cons, List.length_nil, Nat.reduceAdd, Nat.reduceSub, Array.replicate_succ, Array.replicate_zero, List.push_toArray, List.append_toArray, List.nil_append, List.cons_append]
  gi_wp2_with (gi_at_builtin; refine wpListIn_append_own _ rfl _ _ 26 rfl w.heap.size 5 i0 (.int .u8 0) 1 1 Tryd.under26 hi hz0 hz1 hz2 rfl (by decide) _ _ _ rfl (World.ownsRow_made w #[] 0 (Nat.le_refl _) (Nat.zero_le _) rfl) ad zs.length cap (zs.map (Value.int .u8)) rfl ?qc1 ?qc2 ?qc3 ?qc4 ?qc5 ?qc6 ?_)
  case qc1 => simp
  case qc2 =>
    intro j u hj
    have hjn : j < zs.length := by
      have := (List.getElem?_eq_some_iff.1 hj).1
      simpa using this
    refine Lib.cell?_alloc_some _ ?_
    rw [A.out j hjn]
    have e : (zs.map (Value.int .u8))[j]? = some (Value.int .u8 (zs.getD j 0)) := by simp [List.getD, List.getElem?_eq_getElem hjn]
    rw [e] at hj
    exact hj
  case qc3 => intro u hu; obtain ⟨x, _, rfl⟩ := List.mem_map.1 hu; rfl
  case qc4 => unfold maxLen; omega
  case qc5 => omega
  case qc6 => simp
  intro v' w1 hown hgrow hnil
  gi_wp2
  go_ret
  refine ⟨v', rfl, by simpa using hown, ?_⟩
  exact ((Below.refl _ w).alloc (Nat.le_refl _) _).grown hgrow (by simp) (by intro k hk; simp [Value.ownBlock] at hk; omega)
set_option maxHeartbeats 1000000 in
theorem Tryd.clone_nil (F : Fence) (n : Nat) (hF : F.fn 106) (hro : F.round = none) (m c : Nat) (w : World) :
    CallsIn F n Tryd.prog 106 #[.slice none m c] w fun e w' => e = .returned (.slice none 0 0) ∧ w' = w := by
  have q22 : ∀ (w : World) (a : Option Addr) (n c n' c' : Nat), (binOp .eql 26 (.slice a n c) (.slice none n' c')).run Tryd.prog w = .ok (.bool a.isNone) w := fun w a n c n' c' => Lib.run_eql_slice_nil w _ _ a n c n' c' Tryd.under26
  refine callsIn_of_wp Tryd.func106 rfl hF ?_ hro
  simp only [Tryd.ntmps106, List.size_toArray, List.length_cons, List.length_nil, Nat.reduceAdd, Nat.reduceSub, Array.replicate_succ, Array.replicate_zero, List.push_toArray, List.append_toArray, List.nil_append, List.cons_append]
  gi_wp2
  go_ret
  exact ⟨rfl, rfl⟩
end Go.Proofs
namespace Go.Abs
open Go Go.Proofs Go.RowKit
theorem clone_ok (t : List Int) (h : t.length ≤ 100000) : FnOK Tryd.prog abiG 106 [.rints .u8 t] [] (.own 0 1) [some (.ints .u8 t)] := by
  intro E vs hbl m g ha
  obtain ⟨v, rfl, hv⟩ := args1 ha
  refine .inl ⟨Tryd.f106, Tryd.func106, by decide, by kernel_rfl, (callsIn_wide (n := 3)).1 ?_⟩
  have fin : ∀ v' W', W'.ownsRow E.w.heap.size 5 1 v' t.length (t.map (Value.int .u8)) → Below E.w.heap.size E.w W' → ∃ E', E'.w = W' ∧ E'.bl = [some (.ints .u8 t)] ∧ Go E E' ∧ VR E' true (.own 0 1) v' := fun v' W' hrow hB => by
    obtain ⟨E', h1, h2, h3, h4⟩ := took_own m hB .u8 t hrow
    rw [hbl] at h2 h4
    exact ⟨E', h1, h2, h3, h4⟩
  cases hv with
  | rints _ _ _ a cap hc hx =>
    cases a with
    | none =>
      have ht : t = [] := by
        cases t with
        | nil => rfl
        | cons x r =>
          obtain ⟨ad, e, -⟩ := hx 0 (by simp)
          cases e
      subst ht
      refine (Tryd.clone_nil Fence.wide 3 trivial rfl _ cap E.w).mono ?_
      rintro e W' ⟨rfl, rfl⟩
      exact ⟨_, rfl, fin _ _ (World.ownsRow_nil _ _ _ _) (Below.refl _ _)⟩
    | some ad =>
      refine (Tryd.clone_in Fence.wide 3 trivial rfl ad cap t E.w h fun j hj => ?_).mono ?_
      · obtain ⟨ad', e, e2, -, e4⟩ := hx j hj
        cases e
        have : ad.add j = ⟨ad.block, ad.off + j, none⟩ := by unfold Addr.add; cases ad; simp at e2; subst e2; split <;> simp_all
        rw [this]
        exact e4
      · rintro e W' ⟨v', rfl, h1, h2⟩
        exact ⟨v', rfl, fin _ _ h1 h2⟩
end Go.Abs
end
section
theorem Fa.ok (n : Nat) (t) (u) (h : Fa.m n t = some u) : FnOK Tryd.prog abiG 106 (Fa.shape t).1 (Fa.shape t).2 (Fa.res u).1 (Fa.res u).2 := by
  unfold Fa.m at h
  split at h
  · rename_i hl
    cases h
    exact clone_ok t hl
  · cases h
theorem Fa.s (hmix : Tryd.prog.follows .mixedOrders = true) (n : Nat) : CalleeS Tryd.prog abiG 106 (Fa.c n) :=
  CalleeS.of (res := Fa.res) (shape := Fa.shape) (fun R u K => rfl) (fun args lent t h => by
    unfold Fa.pat at h
    split at h
    · cases h; rfl
    · cases h) fun t u h => Fa.ok n t u h
end
section
theorem Fr.gmap {α β : Type} (h : β → α) (mk0 : Int → LI → β) (mk1 : LI → β) (n : Nat) (a0 : LI) (a1 : Int) : Fr.g (fun a0 a1 => (h (mk0 a0 a1))) (fun a0 => (h (mk1 a0))) n a0 a1 = (Fr.g mk0 mk1 n a0 a1).map h := by
  unfold Fr.g
  exact (ite_map (ite_map (bindO_map fun r6 => match r6 with | (.inl r6) => rfl | (.inr r6) => (ite_map (ite_map (bindO_map fun r14 => match r14 with | (.inl r14) => rfl | (.inr r14) => (ite_map (ite_map (ite_map (ite_map (bindO_map fun r26 => rfl) rfl) rfl) rfl) rfl)) rfl) rfl)) rfl) rfl)
theorem Fr.run (n : Nat) (a0 : LI) (a1 : Int) : runF (Fr.C n) (Fr.A n) n Tryd.f90 [(.rints .u8 a0), (.int .i64 a1)] [] (fun v o => some (v, o)) = Fr.g (fun a0 a1 => (((.tup [(.own 0 1), (.iface 104 (.agg [(.int .i64 a0), (.iface 166 .any)]))]), [(some (.ints .u8 a1))]) : AV × Blks)) (fun a0 => (((.tup [(.own 0 1), .nili]), [(some (.ints .u8 a0))]) : AV × Blks)) n a0 a1 := by kernel_rfl
theorem Fr.call (hmix : Tryd.prog.follows .mixedOrders = true) (n : Nat) (t : (LI × Int)) (u) (h : Fr.m n t = some u) : FnC Tryd.prog abiG 90 (Fr.shape t).1 (Fr.shape t).2 (Fr.res u).1 (Fr.res u).2 :=
  fnC1 (C := Fr.C n) (A := Fr.A n) (fn := Tryd.f90) rfl (.cons (Fbq.s hmix n) (.cons (Fa.s hmix n) .nil)) hmix Tryd.func90 (by kernel_rfl) (lp := []) (by kernel_rfl) .nil
  (nj rfl) (by decide) rfl rfl (by show 2 ≤ Tryd.f90.ntmps; decide) (Fr.run n t.1 t.2) (Fr.gmap Fr.res (fun a0 a1 => (.inl (a0, a1))) (fun a0 => (.inr a0)) n t.1 t.2) h
theorem Fr.s (hmix : Tryd.prog.follows .mixedOrders = true) (n : Nat) : CalleeS Tryd.prog abiG 90 (Fr.c n) :=
  .mk1 (res := Fr.res) (shape := Fr.shape) (fun R u K => by rcases u with u | u <;> rfl) (fun _ _ _ h => by unfold Fr.pat at h; split at h <;> cases h; rfl) (fun t u h => Fr.call hmix n t u h) Tryd.func90 (by decide) (by kernel_rfl)
end
section
noncomputable section
def errors_As0.m (n : Nat) (t : Int) : Option Int := some t
def errors_As0.pat : List AV → Blks → Option Int
 | [.nili, .iface 106 (.ptr 0 [])], [some (.var (.agg [.int .i64 a, .nili]))] => some a
 | _, _ => none
def errors_As0.shape (t : Int) : List AV × Blks := ([.nili, .iface 106 (.ptr 0 [])], [some (.var (.agg [.int .i64 t, .nili]))])
def errors_As0.res : Int → AV × Blks
 | u => ((.bool false), [some (.var (.agg [.int .i64 u, .nili]))])
def errors_As0.resK {R : Type} (u : Int) (K : AV → Blks → Option R) : Option R := K (errors_As0.res u).1 (errors_As0.res u).2
def errors_As0.c (n : Nat) : Abs.Callee := .mk' [false, true] [none, none] errors_As0.pat (errors_As0.m n) errors_As0.resK
def errors_As1.m (n : Nat) (t : Int × Int) : Option Int := some t.1
def errors_As1.pat : List AV → Blks → Option (Int × Int)
 | [.iface 104 (.agg [.int .i64 i, .iface 166 .any]), .iface 106 (.ptr 0 [])], [some (.var (.agg [.int .i64 a, .nili]))] => some (i, a)
 | _, _ => none
def errors_As1.shape (t : Int × Int) : List AV × Blks := ([.iface 104 (.agg [.int .i64 t.1, .iface 166 .any]), .iface 106 (.ptr 0 [])], [some (.var (.agg [.int .i64 t.2, .nili]))])
def errors_As1.res : Int → AV × Blks
 | u => ((.bool true), [some (.var (.agg [.int .i64 u, .iface 166 .any]))])
def errors_As1.resK {R : Type} (u : Int) (K : AV → Blks → Option R) : Option R := K (errors_As1.res u).1 (errors_As1.res u).2
def errors_As1.c (n : Nat) : Abs.Callee := .mk' [false, true] [none, none] errors_As1.pat (errors_As1.m n) errors_As1.resK
def Far.isNil : List AV → Bool
 | .nili :: _ => true
 | _ => false
def Far.c (n : Nat) : Abs.Callee := .pick Far.isNil (errors_As0.c n) (errors_As1.c n)
end
end
section
noncomputable section
noncomputable def Fs.C (n : Nat) : Ctx := ⟨Tryd.prog, abiG, lookC [(89, Fak.c n), (90, Fr.c n), (91, Far.c n)], fun _ => false⟩
def Fs.live : NL := fun k => match k with
 | 5 => ([21, 20, 19, 1, 6], [4, 5, 6])
 | _ => ([], [])
def Fs.l5_0.r {α : Type} (mk0 : Int → LI → LA → LA → α) (mk1 : LI → LA → α) (n : Nat) (rc : Int → Int → LA → LI → LA → Option α)  (x0 : Int) (x1 : Int) (x2 : LA) (x3 : LI) (x4 : LA) : Option α :=
  if (decide (x0 < x1)) = true then
   if 0 ≤ x0 then
    if x0 < (((List.length x2) : Nat) : Int) then
     bindO (tkBool (List.getD x2 (Int.toNat x0) AV.any)) fun r10 =>
      if (!r10) = true then
       if 0 ≤ (IntKind.wrap .i64 (32 * (IntKind.wrap .i64 (x0 + 1)))) then
        if (IntKind.wrap .i64 (32 * (IntKind.wrap .i64 (x0 + 1)))) ≤ (((List.length x3) : Nat) : Int) then
         if 0 ≤ (IntKind.wrap .i64 (32 * x0)) then
          if (IntKind.wrap .i64 (32 * x0)) ≤ (IntKind.wrap .i64 (32 * (IntKind.wrap .i64 (x0 + 1)))) then
           bindO (Fak.m n (List.take (Go.Abs.span (List.length x3) (Int.toNat (IntKind.wrap .i64 (32 * x0))) (Option.some (Int.toNat (IntKind.wrap .i64 (32 * (IntKind.wrap .i64 (x0 + 1))))))) (List.drop (Int.toNat (IntKind.wrap .i64 (32 * x0))) x3))) fun r22 =>
            if ((((List.length x4) + 1) * 64) ≤ 70368744177664 ∧ ((List.length x4) + 1) ≤ 9223372036854775807) then
             rc (IntKind.wrap .i64 (x0 + 1)) x1 x2 x3 (x4 ++ [(AV.agg [(AV.bool r10), (AV.ints .u64 4 r22), AV.snil])])
            else
             none
          else
           none
         else
          none
        else
         none
       else
        none
      else
       bindO (Fr.m n (x3, x0)) fun r14 => match r14 with
        | (.inl r14) =>
         bindO (errors_As1.m n (r14.1, 0)) fun r18 =>
          some (mk0 50 x3 [] x4)
        | (.inr r14) =>
         bindO (errors_As0.m n 0) fun r18 =>
          if ((((List.length x4) + 1) * 64) ≤ 70368744177664 ∧ ((List.length x4) + 1) ≤ 9223372036854775807) then
           rc (IntKind.wrap .i64 (x0 + 1)) x1 x2 x3 (x4 ++ [(AV.agg [(AV.bool r10), (AV.ints .u64 4 [0, 0, 0, 0]), (AV.rints .u8 r14)])])
          else
           none
    else
     none
   else
    none
  else
   some (mk1 x3 x4)
def Fs.l5_0.g {α : Type} (mk0 : Int → LI → LA → LA → α) (mk1 : LI → LA → α) (n : Nat) : Nat → Int → Int → LA → LI → LA → Option α
 | 0, _, _, _, _, _ => none
 | m + 1, x0, x1, x2, x3, x4 => Fs.l5_0.r mk0 mk1 n (fun y0 y1 y2 y3 y4 => Fs.l5_0.g mk0 mk1 n m y0 y1 y2 y3 y4)  x0 x1 x2 x3 x4
def Fs.l5_0.m (n m : Nat) (t : (Int × (Int × (LA × (LI × LA))))) : Option ((Int × (LI × (LA × LA))) ⊕ (LI × LA)) := Fs.l5_0.g (fun a0 a1 a2 a3 => (.inl (a0, a1, a2, a3))) (fun a0 a1 => (.inr (a0, a1))) n m t.1 t.2.1 t.2.2.1 t.2.2.2.1 t.2.2.2.2
def Fs.l5_0.pat : St → Option (Int × (Int × (LA × (LI × LA))))
 | (St.mk [(.int .i64 x0), (.int .i64 x1), (.robjs 4 1 x2), (.own 0 1), (.own 1 6)] [(some (.ints .u8 x3)), (some (.objs 69 6 x4))]) => some (x0, x1, x2, x3, x4)
 | _ => none
def Fs.l5_0.shape (t : (Int × (Int × (LA × (LI × LA))))) : St := (St.mk [(.int .i64 t.1), (.int .i64 t.2.1), (.robjs 4 1 t.2.2.1), (.own 0 1), (.own 1 6)] [(some (.ints .u8 t.2.2.2.1)), (some (.objs 69 6 t.2.2.2.2))])
def Fs.l5_0.res : ((Int × (LI × (LA × LA))) ⊕ (LI × LA)) → Ex × St
 | (.inl u) => (.ret, (St.mk [(.own 1 6), (.int .u16 u.1), (.own 2 6)] [(some (.ints .u8 u.2.1)), (some (.objs 69 6 u.2.2.1)), (some (.objs 69 6 u.2.2.2))]))
 | (.inr u) => ((.exit 0), (St.mk [.any, .any, (.own 1 6)] [(some (.ints .u8 u.1)), (some (.objs 69 6 u.2))]))
def Fs.l5_0.resK {R : Type} (u : ((Int × (LI × (LA × LA))) ⊕ (LI × LA))) (K : Ex → St → Option R) : Option R := match u with
 | (.inl u) => (fun p : Ex × St => K p.1 p.2) (.ret, (St.mk [(.own 1 6), (.int .u16 u.1), (.own 2 6)] [(some (.ints .u8 u.2.1)), (some (.objs 69 6 u.2.2.1)), (some (.objs 69 6 u.2.2.2))]))
 | (.inr u) => (fun p : Ex × St => K p.1 p.2) ((.exit 0), (St.mk [.any, .any, (.own 1 6)] [(some (.ints .u8 u.1)), (some (.objs 69 6 u.2))]))
noncomputable def Fs.A (n : Nat) : Ann := ⟨Tryd.f53.ntmps, 1, Fs.live, [(1, (.ints .u8)), (19, (.objs 4 1)), (4, (.objs 69 6)), (6, (.objs 69 6))], [(some (.objs 69 6)), none], fun k => match k with
 | 5 => some (.mk' Fs.l5_0.pat (Fs.l5_0.m n n) Fs.l5_0.resK)
 | _ => none, noNL, lookJ []⟩
noncomputable def Fs.b0 : Code := (loopsIn (Tryd.f53.body.getD .skip)).getD 0 .skip
def Fs.g {α : Type} (mk0 : Int → LI → LA → α) (n : Nat) (k : LA) (l : LI) : Option α :=
 if (decide ((IntKind.wrap .i64 (Int.tdiv (((List.length l) : Nat) : Int) 32)) < (((List.length k) : Nat) : Int))) = true then
  some (mk0 50 l [])
 else
  bindO (Fs.l5_0.m n n (0, (((List.length k) : Nat) : Int), k, l, [])) fun r4 => match r4 with
   | (.inl r4) =>
    some (mk0 r4.1 r4.2.1 r4.2.2.1)
   | (.inr r4) =>
    some (mk0 0 r4.1 r4.2)
def Fs.m (n : Nat) (t : (LA × LI)) : Option (Int × (LI × LA)) := Fs.g (fun a0 a1 a2 => (a0, a1, a2)) n t.1 t.2
def Fs.pat : List AV → Blks → Option (LA × LI)
 | [(.robjs 4 1 k), (.own 0 1)], [(some (.ints .u8 l))] => some (k, l)
 | _, _ => none
def Fs.shape (t : (LA × LI)) : List AV × Blks := ([(.robjs 4 1 t.1), (.own 0 1)], [(some (.ints .u8 t.2))])
def Fs.res : (Int × (LI × LA)) → AV × Blks
 | u => ((.tup [(.own 1 6), (.int .u16 u.1)]), [(some (.ints .u8 u.2.1)), (some (.objs 69 6 u.2.2))])
def Fs.resK {R : Type} (u : (Int × (LI × LA))) (K : AV → Blks → Option R) : Option R := K (Fs.res u).1 (Fs.res u).2
def Fs.c (n : Nat) : Abs.Callee := .mk' [true, true] [(some (.objs 4 1)), (some (.ints .u8))] Fs.pat (Fs.m n) Fs.resK
end
end
section
noncomputable section
noncomputable def Ft.C (n : Nat) : Ctx := ⟨Tryd.prog, abiG, lookC [(89, Fak.c n), (90, Fr.c n), (91, Far.c n)], fun _ => false⟩
def Ft.live : NL := fun k => match k with
 | 5 => ([21, 20, 19, 1, 6], [4, 5, 6])
 | _ => ([], [])
def Ft.l5_0.r {α : Type} (mk0 : Int → LA → LI → LA → LA → α) (mk1 : LA → LI → LA → α) (n : Nat) (rc : Int → Int → LA → LI → LA → Option α)  (x0 : Int) (x1 : Int) (x2 : LA) (x3 : LI) (x4 : LA) : Option α :=
  if (decide (x0 < x1)) = true then
   if 0 ≤ x0 then
    if x0 < (((List.length x2) : Nat) : Int) then
     bindO (tkBool (List.getD x2 (Int.toNat x0) AV.any)) fun r10 =>
      if (!r10) = true then
       if 0 ≤ (IntKind.wrap .i64 (32 * (IntKind.wrap .i64 (x0 + 1)))) then
        if (IntKind.wrap .i64 (32 * (IntKind.wrap .i64 (x0 + 1)))) ≤ (((List.length x3) : Nat) : Int) then
         if 0 ≤ (IntKind.wrap .i64 (32 * x0)) then
          if (IntKind.wrap .i64 (32 * x0)) ≤ (IntKind.wrap .i64 (32 * (IntKind.wrap .i64 (x0 + 1)))) then
           bindO (Fak.m n (List.take (Go.Abs.span (List.length x3) (Int.toNat (IntKind.wrap .i64 (32 * x0))) (Option.some (Int.toNat (IntKind.wrap .i64 (32 * (IntKind.wrap .i64 (x0 + 1))))))) (List.drop (Int.toNat (IntKind.wrap .i64 (32 * x0))) x3))) fun r22 =>
            if ((((List.length x4) + 1) * 64) ≤ 70368744177664 ∧ ((List.length x4) + 1) ≤ 9223372036854775807) then
             rc (IntKind.wrap .i64 (x0 + 1)) x1 x2 x3 (x4 ++ [(AV.agg [(AV.bool r10), (AV.ints .u64 4 r22), AV.snil])])
            else
             none
          else
           none
         else
          none
        else
         none
       else
        none
      else
       bindO (Fr.m n (x3, x0)) fun r14 => match r14 with
        | (.inl r14) =>
         bindO (errors_As1.m n (r14.1, 0)) fun r18 =>
          some (mk0 50 x2 x3 [] x4)
        | (.inr r14) =>
         bindO (errors_As0.m n 0) fun r18 =>
          if ((((List.length x4) + 1) * 64) ≤ 70368744177664 ∧ ((List.length x4) + 1) ≤ 9223372036854775807) then
           rc (IntKind.wrap .i64 (x0 + 1)) x1 x2 x3 (x4 ++ [(AV.agg [(AV.bool r10), (AV.ints .u64 4 [0, 0, 0, 0]), (AV.rints .u8 r14)])])
          else
           none
    else
     none
   else
    none
  else
   some (mk1 x2 x3 x4)
def Ft.l5_0.g {α : Type} (mk0 : Int → LA → LI → LA → LA → α) (mk1 : LA → LI → LA → α) (n : Nat) : Nat → Int → Int → LA → LI → LA → Option α
 | 0, _, _, _, _, _ => none
 | m + 1, x0, x1, x2, x3, x4 => Ft.l5_0.r mk0 mk1 n (fun y0 y1 y2 y3 y4 => Ft.l5_0.g mk0 mk1 n m y0 y1 y2 y3 y4)  x0 x1 x2 x3 x4
def Ft.l5_0.m (n m : Nat) (t : (Int × (Int × (LA × (LI × LA))))) : Option ((Int × (LA × (LI × (LA × LA)))) ⊕ (LA × (LI × LA))) := Ft.l5_0.g (fun a0 a1 a2 a3 a4 => (.inl (a0, a1, a2, a3, a4))) (fun a0 a1 a2 => (.inr (a0, a1, a2))) n m t.1 t.2.1 t.2.2.1 t.2.2.2.1 t.2.2.2.2
def Ft.l5_0.pat : St → Option (Int × (Int × (LA × (LI × LA))))
 | (St.mk [(.int .i64 x0), (.int .i64 x1), (.own 0 1), (.own 1 1), (.own 2 6)] [(some (.objs 4 1 x2)), (some (.ints .u8 x3)), (some (.objs 69 6 x4))]) => some (x0, x1, x2, x3, x4)
 | _ => none
def Ft.l5_0.shape (t : (Int × (Int × (LA × (LI × LA))))) : St := (St.mk [(.int .i64 t.1), (.int .i64 t.2.1), (.own 0 1), (.own 1 1), (.own 2 6)] [(some (.objs 4 1 t.2.2.1)), (some (.ints .u8 t.2.2.2.1)), (some (.objs 69 6 t.2.2.2.2))])
def Ft.l5_0.res : ((Int × (LA × (LI × (LA × LA)))) ⊕ (LA × (LI × LA))) → Ex × St
 | (.inl u) => (.ret, (St.mk [(.own 2 6), (.int .u16 u.1), (.own 3 6)] [(some (.objs 4 1 u.2.1)), (some (.ints .u8 u.2.2.1)), (some (.objs 69 6 u.2.2.2.1)), (some (.objs 69 6 u.2.2.2.2))]))
 | (.inr u) => ((.exit 0), (St.mk [.any, .any, (.own 2 6)] [(some (.objs 4 1 u.1)), (some (.ints .u8 u.2.1)), (some (.objs 69 6 u.2.2))]))
def Ft.l5_0.resK {R : Type} (u : ((Int × (LA × (LI × (LA × LA)))) ⊕ (LA × (LI × LA)))) (K : Ex → St → Option R) : Option R := match u with
 | (.inl u) => (fun p : Ex × St => K p.1 p.2) (.ret, (St.mk [(.own 2 6), (.int .u16 u.1), (.own 3 6)] [(some (.objs 4 1 u.2.1)), (some (.ints .u8 u.2.2.1)), (some (.objs 69 6 u.2.2.2.1)), (some (.objs 69 6 u.2.2.2.2))]))
 | (.inr u) => (fun p : Ex × St => K p.1 p.2) ((.exit 0), (St.mk [.any, .any, (.own 2 6)] [(some (.objs 4 1 u.1)), (some (.ints .u8 u.2.1)), (some (.objs 69 6 u.2.2))]))
noncomputable def Ft.A (n : Nat) : Ann := ⟨Tryd.f53.ntmps, 2, Ft.live, [(1, (.ints .u8)), (19, (.objs 4 1)), (4, (.objs 69 6)), (6, (.objs 69 6))], [(some (.objs 69 6)), none], fun k => match k with
 | 5 => some (.mk' Ft.l5_0.pat (Ft.l5_0.m n n) Ft.l5_0.resK)
 | _ => none, noNL, lookJ []⟩
noncomputable def Ft.b0 : Code := (loopsIn (Tryd.f53.body.getD .skip)).getD 0 .skip
def Ft.g {α : Type} (mk0 : Int → LA → LI → LA → α) (n : Nat) (k : LA) (l : LI) : Option α :=
 if (decide ((IntKind.wrap .i64 (Int.tdiv (((List.length l) : Nat) : Int) 32)) < (((List.length k) : Nat) : Int))) = true then
  some (mk0 50 k l [])
 else
  bindO (Ft.l5_0.m n n (0, (((List.length k) : Nat) : Int), k, l, [])) fun r4 => match r4 with
   | (.inl r4) =>
    some (mk0 r4.1 r4.2.1 r4.2.2.1 r4.2.2.2.1)
   | (.inr r4) =>
    some (mk0 0 r4.1 r4.2.1 r4.2.2)
def Ft.m (n : Nat) (t : (LA × LI)) : Option (Int × (LA × (LI × LA))) := Ft.g (fun a0 a1 a2 a3 => (a0, a1, a2, a3)) n t.1 t.2
def Ft.pat : List AV → Blks → Option (LA × LI)
 | [(.own 0 1), (.own 1 1)], [(some (.objs 4 1 k)), (some (.ints .u8 l))] => some (k, l)
 | _, _ => none
def Ft.shape (t : (LA × LI)) : List AV × Blks := ([(.own 0 1), (.own 1 1)], [(some (.objs 4 1 t.1)), (some (.ints .u8 t.2))])
def Ft.res : (Int × (LA × (LI × LA))) → AV × Blks
 | u => ((.tup [(.own 2 6), (.int .u16 u.1)]), [(some (.objs 4 1 u.2.1)), (some (.ints .u8 u.2.2.1)), (some (.objs 69 6 u.2.2.2))])
def Ft.resK {R : Type} (u : (Int × (LA × (LI × LA)))) (K : AV → Blks → Option R) : Option R := K (Ft.res u).1 (Ft.res u).2
def Ft.c (n : Nat) : Abs.Callee := .mk' [true, true] [(some (.objs 4 1)), (some (.ints .u8))] Ft.pat (Ft.m n) Ft.resK
end
end
