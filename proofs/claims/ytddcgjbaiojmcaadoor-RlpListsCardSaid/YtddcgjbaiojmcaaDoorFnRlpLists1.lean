/- What the program's functions compute, as plain functions, each with its proof: the function does just that. Condition: the plain function has an answer. -/
import Derived.Test.YtddcgjbaiojmcaaDoorAbsL1
import Derived.Test.YtddcgjbaiojmcaaDoorAbsL7
import Derived.Test.YtddcgjbaiojmcaaDoorProg
import Derived.Shelf.RegionOpenPlain
import Derived.WalkKit
import Derived.Lib.Walk
import Derived.Lib.SliceRun
import Derived.OwnWalkIn
import Derived.TacticsInMore
import Derived.RegionIn
import Derived.LoopIn
import Derived.Shelf.RegionOpen
import Derived.Shelf.AbstractIn
import Derived.Calls
import Derived.RangeFuncLeaves
import Derived.Deep.LoopGhost
import Derived.LaidEql
import Derived.Stop.Asserts
import Derived.RowKitTokens
import Derived.Elder7
set_option linter.unusedVariables false
set_option linter.unusedSimpArgs false
set_option maxRecDepth 100000
open Go Go.Abs Go.Proofs
section
namespace Go.Abs
def rlpG : Nat → AV := fun g => match g with
  | 0 => .errv 58 78 0
  | 1 => .errv 58 78 1
  | 2 => .errv 58 78 2
  | _ => .any
end Go.Abs
end
section
noncomputable section
noncomputable def Fa.C (n : Nat) : Ctx := ⟨Tryd.prog, rlpG, lookC [], fun _ => false⟩
def Fa.live : NL := fun k => match k with
 | 1 => ([2, 3, 0], [])
 | _ => ([], [])
def Fa.l1_0.r {α : Type} (mk0 : LI → α) (n : Nat) (rc : Int → Int → LI → Option α)  (x0 : Int) (x1 : Int) (x2 : LI) : Option α :=
  if (decide (x0 < x1)) = true then
   if 0 ≤ x1 then
    if x1 < (((List.length x2) : Nat) : Int) then
     if 0 ≤ x0 then
      if x0 < (((List.length x2) : Nat) : Int) then
       if 0 ≤ x0 then
        if x0 < (((List.length x2) : Nat) : Int) then
         if 0 ≤ x1 then
          if x1 < (((List.length (List.set x2 (Int.toNat x0) (List.getD x2 (Int.toNat x1) 0))) : Nat) : Int) then
           rc (IntKind.wrap .i64 (x0 + 1)) (IntKind.wrap .i64 (x1 - 1)) (List.set (List.set x2 (Int.toNat x0) (List.getD x2 (Int.toNat x1) 0)) (Int.toNat x1) (List.getD x2 (Int.toNat x0) 0))
          else
           none
         else
          none
        else
         none
       else
        none
      else
       none
     else
      none
    else
     none
   else
    none
  else
   some (mk0 x2)
def Fa.l1_0.g {α : Type} (mk0 : LI → α) (n : Nat) : Nat → Int → Int → LI → Option α
 | 0, _, _, _ => none
 | m + 1, x0, x1, x2 => Fa.l1_0.r mk0 n (fun y0 y1 y2 => Fa.l1_0.g mk0 n m y0 y1 y2)  x0 x1 x2
def Fa.l1_0.m (n m : Nat) (t : (Int × (Int × LI))) : Option LI := Fa.l1_0.g (fun a0 => a0) n m t.1 t.2.1 t.2.2
def Fa.l1_0.pat : St → Option (Int × (Int × LI))
 | (St.mk [(.int .i64 x0), (.int .i64 x1), (.own 0 1)] [(some (.ints .u8 x2))]) => some (x0, x1, x2)
 | _ => none
def Fa.l1_0.shape (t : (Int × (Int × LI))) : St := (St.mk [(.int .i64 t.1), (.int .i64 t.2.1), (.own 0 1)] [(some (.ints .u8 t.2.2))])
def Fa.l1_0.res : LI → Ex × St
 | u => ((.exit 0), (St.mk [] [(some (.ints .u8 u))]))
def Fa.l1_0.resK {R : Type} (u : LI) (K : Ex → St → Option R) : Option R := K (Fa.l1_0.res u).1 (Fa.l1_0.res u).2
noncomputable def Fa.A (n : Nat) : Ann := ⟨Tryd.f29.ntmps, 1, Fa.live, [(0, (.ints .u8))], [], fun k => match k with
 | 1 => some (.mk' Fa.l1_0.pat (Fa.l1_0.m n n) Fa.l1_0.resK)
 | _ => none, noNL, lookJ []⟩
noncomputable def Fa.b0 : Code := (loopsIn (Tryd.f29.body.getD .skip)).getD 0 .skip
def Fa.g {α : Type} (mk0 : LI → α) (n : Nat) (a : LI) : Option α :=
 bindO (Fa.l1_0.m n n (0, (IntKind.wrap .i64 ((((List.length a) : Nat) : Int) - 1)), a)) fun r2 =>
  some (mk0 r2)
def Fa.m (n : Nat) (t : LI) : Option LI := Fa.g (fun a0 => a0) n t
def Fa.pat : List AV → Blks → Option LI
 | [(.own 0 1)], [(some (.ints .u8 a))] => some a
 | _, _ => none
def Fa.shape (t : LI) : List AV × Blks := ([(.own 0 1)], [(some (.ints .u8 t))])
def Fa.res : LI → AV × Blks
 | u => ((.tup []), [(some (.ints .u8 u))])
def Fa.resK {R : Type} (u : LI) (K : AV → Blks → Option R) : Option R := K (Fa.res u).1 (Fa.res u).2
def Fa.c (n : Nat) : Abs.Callee := .mk' [true] [(some (.ints .u8))] Fa.pat (Fa.m n) Fa.resK
end
end
section
noncomputable section
noncomputable def Ft.C (n : Nat) : Ctx := ⟨Tryd.prog, rlpG, lookC [(29, Fa.c n)], fun _ => false⟩
def Ft.live : NL := fun k => match k with
 | 2 => ([0, 3], [3])
 | _ => ([], [])
def Ft.l2_0.r {α : Type} (mk0 : LI → α) (n : Nat) (rc : Int → LI → Option α)  (x0 : Int) (x1 : LI) : Option α :=
  if (decide (x0 > 0)) = true then
   if ((((List.length x1) + 1) * 1) ≤ 70368744177664 ∧ ((List.length x1) + 1) ≤ 9223372036854775807) then
    rc (ishr .u64 x0 8) (x1 ++ [(IntKind.wrap .u8 x0)])
   else
    none
  else
   some (mk0 x1)
def Ft.l2_0.g {α : Type} (mk0 : LI → α) (n : Nat) : Nat → Int → LI → Option α
 | 0, _, _ => none
 | m + 1, x0, x1 => Ft.l2_0.r mk0 n (fun y0 y1 => Ft.l2_0.g mk0 n m y0 y1)  x0 x1
def Ft.l2_0.m (n m : Nat) (t : (Int × LI)) : Option LI := Ft.l2_0.g (fun a0 => a0) n m t.1 t.2
def Ft.l2_0.pat : St → Option (Int × LI)
 | (St.mk [(.int .u64 x0), (.own 0 1)] [(some (.ints .u8 x1))]) => some (x0, x1)
 | _ => none
def Ft.l2_0.shape (t : (Int × LI)) : St := (St.mk [(.int .u64 t.1), (.own 0 1)] [(some (.ints .u8 t.2))])
def Ft.l2_0.res : LI → Ex × St
 | u => ((.exit 0), (St.mk [(.own 0 1)] [(some (.ints .u8 u))]))
def Ft.l2_0.resK {R : Type} (u : LI) (K : Ex → St → Option R) : Option R := K (Ft.l2_0.res u).1 (Ft.l2_0.res u).2
noncomputable def Ft.A (n : Nat) : Ann := ⟨Tryd.f24.ntmps, 0, Ft.live, [(3, (.ints .u8))], [(some (.ints .u8))], fun k => match k with
 | 2 => some (.mk' Ft.l2_0.pat (Ft.l2_0.m n n) Ft.l2_0.resK)
 | _ => none, noNL, lookJ []⟩
noncomputable def Ft.b0 : Code := (loopsIn (Tryd.f24.body.getD .skip)).getD 0 .skip
def Ft.g {α : Type} (mk0 : LI → α) (n : Nat) (a0 : Int) : Option α :=
 bindO (Ft.l2_0.m n n (a0, [])) fun r2 =>
  bindO (Fa.m n r2) fun r4 =>
   some (mk0 r4)
def Ft.m (n : Nat) (t : Int) : Option LI := Ft.g (fun a0 => a0) n t
def Ft.pat : List AV → Blks → Option Int
 | [(.int .u64 a0)], [] => some a0
 | _, _ => none
def Ft.shape (t : Int) : List AV × Blks := ([(.int .u64 t)], [])
def Ft.res : LI → AV × Blks
 | u => ((.own 0 1), [(some (.ints .u8 u))])
def Ft.resK {R : Type} (u : LI) (K : AV → Blks → Option R) : Option R := K (Ft.res u).1 (Ft.res u).2
def Ft.c (n : Nat) : Abs.Callee := .mk' [] [none] Ft.pat (Ft.m n) Ft.resK
end
end
section
noncomputable section
noncomputable def Fo.C (n : Nat) : Ctx := ⟨Tryd.prog, rlpG, lookC [(24, Ft.c n)], fun _ => false⟩
noncomputable def Fo.A (n : Nat) : Ann := ⟨Tryd.f21.ntmps, 0, noNL, [], [(some (.ints .u8))], fun k => match k with
 | _ => none, noNL, lookJ []⟩
def Fo.g {α : Type} (mk0 : LI → α) (n : Nat) (a0 : Int) (a1 : Int) : Option α :=
 if (decide (a0 ≤ 55)) = true then
  some (mk0 [(IntKind.wrap .u8 (a1 + (IntKind.wrap .u8 a0)))])
 else
  bindO (Ft.m n (IntKind.wrap .u64 a0)) fun r4 =>
   if (((1 + (List.length r4)) * 1) ≤ 70368744177664 ∧ (1 + (List.length r4)) ≤ 9223372036854775807) then
    some (mk0 ([(IntKind.wrap .u8 ((IntKind.wrap .u8 (a1 + 55)) + (IntKind.wrap .u8 (((List.length r4) : Nat) : Int))))] ++ r4))
   else
    none
def Fo.m (n : Nat) (t : (Int × Int)) : Option LI := Fo.g (fun a0 => a0) n t.1 t.2
def Fo.pat : List AV → Blks → Option (Int × Int)
 | [(.int .i64 a0), (.int .u8 a1)], [] => some (a0, a1)
 | _, _ => none
def Fo.shape (t : (Int × Int)) : List AV × Blks := ([(.int .i64 t.1), (.int .u8 t.2)], [])
def Fo.res : LI → AV × Blks
 | u => ((.own 0 1), [(some (.ints .u8 u))])
def Fo.resK {R : Type} (u : LI) (K : AV → Blks → Option R) : Option R := K (Fo.res u).1 (Fo.res u).2
def Fo.c (n : Nat) : Abs.Callee := .mk' [] [none, none] Fo.pat (Fo.m n) Fo.resK
end
end
section
noncomputable section
def Fb.m (n : Nat) (t : List Int) : Option LI := if t.length ≤ 100000 then some t else none
def Fb.pat : List AV → Blks → Option LI
 | [(.rints .u8 a0)], [] => some a0
 | _, _ => none
def Fb.shape (t : List Int) : List AV × Blks := ([(.rints .u8 t)], [])
def Fb.res : LI → AV × Blks
 | u => ((.own 0 1), [(some (.ints .u8 u))])
def Fb.resK {R : Type} (u : LI) (K : AV → Blks → Option R) : Option R := K (Fb.res u).1 (Fb.res u).2
def Fb.c (n : Nat) : Abs.Callee := .mk' [] [some (.ints .u8)] Fb.pat (Fb.m n) Fb.resK
end
end
section
noncomputable section
def Ff.pat : List AV → Blks → Option (Bool × ((List Int) × (List AV)))
 | [(.agg [(.bool a0_0), (.rints .u8 a0_1), (.robjs 25 3 a0_2)])], [] => some (a0_0, a0_1, a0_2)
 | _, _ => none
def Ff.shape (t : (Bool × ((List Int) × (List AV)))) : List AV × Blks := ([(.agg [(.bool t.1), (.rints .u8 t.2.1), (.robjs 25 3 t.2.2)])], [])
def Ff.res : (List Int) → AV × Blks
 | u => (Prod.mk (.own 0 1) [(some (.ints .u8 u))])
def Ff.resK {R : Type} (u : (List Int)) (K : AV → Blks → Option R) : Option R := (fun p : AV × Blks => K p.1 p.2) (Prod.mk (.own 0 1) [(some (.ints .u8 u))])
noncomputable def Ff.C (n : Nat) (self : ((Bool × ((List Int) × (List AV)))) → Option ((List Int))) : Ctx := ⟨Tryd.prog, rlpG, fun f => match f with
 | 21 => some (Fo.c n)
 | 22 => some (Fb.c n)
 | 12 => some (.mk' [] [(some (.agg [none, (some (.ints .u8)), (some (.objs 25 3))]))] Ff.pat self Ff.resK)
 | _ => none, fun _ => false⟩
def Ff.live : Nat → List Nat × List Nat := fun k => match k with
 | 4 => ([11, 10, 9, 3], [3])
 | _ => ([], [])
def Ff.jlive : Nat → List Nat × List Nat := fun k => match k with
 | _ => ([], [])
def Ff.l4_0.r {α : Type} (mk0 : (List Int) → α) (n : Nat) (self : ((Bool × ((List Int) × (List AV)))) → Option ((List Int))) (rc : Int → Int → (List AV) → (List Int) → Option α)  (x0 : Int) (x1 : Int) (x2 : (List AV)) (x3 : (List Int)) : Option α :=
  if (decide (x0 < x1)) = true then
   if 0 ≤ x0 then
    if x0 < (((List.length x2) : Nat) : Int) then
     bindO (tkAgg 3 (List.getD x2 (Int.toNat x0) AV.any)) fun r10 =>
      bindO (tkBool (List.getD r10 0 AV.any)) fun r12 =>
       bindO (tkRints .u8 (List.getD r10 1 AV.any)) fun r14 =>
        bindO (tkRobjs 25 3 (List.getD r10 2 AV.any)) fun r16 =>
         bindO (self (Prod.mk r12 (Prod.mk r14 r16))) fun r18 =>
          if ((((List.length x3) + (List.length r18)) * 1) ≤ 70368744177664 ∧ ((List.length x3) + (List.length r18)) ≤ 9223372036854775807) then
           rc (IntKind.wrap .i64 (x0 + 1)) x1 x2 (x3 ++ r18)
          else
           none
    else
     none
   else
    none
  else
   some (mk0 x3)
def Ff.l4_0.g {α : Type} (mk0 : (List Int) → α) (n : Nat) (self : ((Bool × ((List Int) × (List AV)))) → Option ((List Int))) : Nat → Int → Int → (List AV) → (List Int) → Option α
 | 0, _, _, _, _ => none
 | m + 1, x0, x1, x2, x3 => Ff.l4_0.r mk0 n self (fun y0 y1 y2 y3 => Ff.l4_0.g mk0 n self m y0 y1 y2 y3)  x0 x1 x2 x3
def Ff.l4_0.m (n : Nat) (self : ((Bool × ((List Int) × (List AV)))) → Option ((List Int))) (m : Nat) (t : (Int × (Int × ((List AV) × (List Int))))) : Option (List Int) := Ff.l4_0.g (fun a0 => a0) n self m t.1 t.2.1 t.2.2.1 t.2.2.2
def Ff.l4_0.pat : St → Option (Int × (Int × ((List AV) × (List Int))))
 | (St.mk [(.int .i64 x0), (.int .i64 x1), (.robjs 25 3 x2), (.own 0 1)] [(some (.ints .u8 x3))]) => some (x0, x1, x2, x3)
 | _ => none
def Ff.l4_0.shape (t : (Int × (Int × ((List AV) × (List Int))))) : St := (St.mk [(.int .i64 t.1), (.int .i64 t.2.1), (.robjs 25 3 t.2.2.1), (.own 0 1)] [(some (.ints .u8 t.2.2.2))])
def Ff.l4_0.res : (List Int) → Ex × St
 | u => (Prod.mk (.exit 0) (St.mk [(.own 0 1)] [(some (.ints .u8 u))]))
def Ff.l4_0.resK {R : Type} (u : (List Int)) (K : Ex → St → Option R) : Option R := (fun p : Ex × St => K p.1 p.2) (Prod.mk (.exit 0) (St.mk [(.own 0 1)] [(some (.ints .u8 u))]))
noncomputable def Ff.A (n : Nat) (self : ((Bool × ((List Int) × (List AV)))) → Option ((List Int))) : Ann := ⟨Tryd.f12.ntmps, 0, Ff.live, [(9, (.objs 25 3)), (3, (.ints .u8))], [(some (.ints .u8))], fun k => match k with
 | 4 => some (.mk' Ff.l4_0.pat (Ff.l4_0.m n self n) Ff.l4_0.resK)
 | _ => none, Ff.jlive, lookJ []⟩
noncomputable def Ff.b0 : Code := (loopsIn (Tryd.f12.body.getD .skip)).getD 0 .skip
def Ff.g {α : Type} (mk0 : (List Int) → α) (n : Nat) (self : ((Bool × ((List Int) × (List AV)))) → Option ((List Int))) (a0_0 : Bool) (a0_1 : (List Int)) (a0_2 : (List AV)) : Option α :=
 if a0_0 = true then
  bindO (Ff.l4_0.m n self n (0, (((List.length a0_2) : Nat) : Int), a0_2, [])) fun r4 =>
   bindO (Fo.m n (Prod.mk (((List.length r4) : Nat) : Int) 192)) fun r6 =>
    if ((((List.length r6) + (List.length r4)) * 1) ≤ 70368744177664 ∧ ((List.length r6) + (List.length r4)) ≤ 9223372036854775807) then
     some (mk0 (r6 ++ r4))
    else
     none
 else
  if ((((List.length a0_1) : Nat) : Int) == 1) = true then
   if 0 < (((List.length a0_1) : Nat) : Int) then
    if (decide ((List.getD a0_1 0 0) < 128)) = true then
     bindO (Fb.m n a0_1) fun r10 =>
      some (mk0 r10)
    else
     bindO (Fo.m n (Prod.mk (((List.length a0_1) : Nat) : Int) 128)) fun r10 =>
      if ((((List.length r10) + (List.length a0_1)) * 1) ≤ 70368744177664 ∧ ((List.length r10) + (List.length a0_1)) ≤ 9223372036854775807) then
       some (mk0 (r10 ++ a0_1))
      else
       none
   else
    none
  else
   bindO (Fo.m n (Prod.mk (((List.length a0_1) : Nat) : Int) 128)) fun r6 =>
    if ((((List.length r6) + (List.length a0_1)) * 1) ≤ 70368744177664 ∧ ((List.length r6) + (List.length a0_1)) ≤ 9223372036854775807) then
     some (mk0 (r6 ++ a0_1))
    else
     none
def Ff.h (n : Nat) (self : ((Bool × ((List Int) × (List AV)))) → Option ((List Int))) (t : (Bool × ((List Int) × (List AV)))) : Option (List Int) := Ff.g (fun a0 => a0) n self t.1 t.2.1 t.2.2
def Ff.mr (n : Nat) : Nat → ((Bool × ((List Int) × (List AV)))) → Option ((List Int))
 | 0, _ => none
 | d + 1, t => Ff.h n (Ff.mr n d) t
def Ff.m (n : Nat) (t : (Bool × ((List Int) × (List AV)))) : Option ((List Int)) := Ff.mr n n t
def Ff.c (n : Nat) : Abs.Callee := .mk' [] [(some (.agg [none, (some (.ints .u8)), (some (.objs 25 3))]))] Ff.pat (Ff.m n) Ff.resK
end
end
section
noncomputable abbrev Fa.R0 (n : Nat) := roundOf (Fa.C n) (Fa.A n) n Fa.b0
theorem Fa.l1_0.rmap {α β : Type} (h : β → α) (mk0 : LI → β) (n : Nat) (f : Int → Int → LI → Option β)  (x0 : Int) (x1 : Int) (x2 : LI) : Fa.l1_0.r (fun a0 => (h (mk0 a0))) n (fun y0 y1 y2 => (f y0 y1 y2).map h) x0 x1 x2 = (Fa.l1_0.r mk0 n f x0 x1 x2).map h := by
  unfold Fa.l1_0.r
  exact (ite_map (ite_map (ite_map (ite_map (ite_map (ite_map (ite_map (ite_map (ite_map rfl rfl) rfl) rfl) rfl) rfl) rfl) rfl) rfl) rfl)
theorem Fa.l1_0.gmap {α β : Type} (h : β → α) (mk0 : LI → β) (n : Nat) : ∀ (m : Nat) (x0 : Int) (x1 : Int) (x2 : LI), Fa.l1_0.g (fun a0 => (h (mk0 a0))) n m x0 x1 x2 = (Fa.l1_0.g mk0 n m x0 x1 x2).map h
  | 0, _, _, _ => rfl
  | m + 1, x0, x1, x2 => by
    unfold Fa.l1_0.g
    rw [← Fa.l1_0.rmap]
    congr
    · funext y0 y1 y2; exact Fa.l1_0.gmap h mk0 n m y0 y1 y2
theorem Fa.l1_0.pat_shape : ∀ st t, Fa.l1_0.pat st = some t → st = Fa.l1_0.shape t := fun _ _ h => by unfold Fa.l1_0.pat at h; split at h <;> cases h; rfl
def Fa.l1_0.k0 : LI → Ex × St := (fun a0 => (((.exit 0), (St.mk [] [(some (.ints .u8 a0))])) : Ex × St))
theorem Fa.l1_0.round (n : Nat) (rc : St → Option (Ex × St)) (x0 : Int) (x1 : Int) (x2 : LI) : Fa.R0 n rc ((St.mk [(.int .i64 x0), (.int .i64 x1), (.own 0 1)] [(some (.ints .u8 x2))])) = Fa.l1_0.r Fa.l1_0.k0 n (fun y0 y1 y2 => rc ((St.mk [(.int .i64 y0), (.int .i64 y1), (.own 0 1)] [(some (.ints .u8 y2))]))) x0 x1 x2 := by kernel_rfl
theorem Fa.l1_0.loop' (n : Nat) : ∀ (m : Nat) (t : (Int × (Int × LI))), loopOf (Fa.R0 n) m (Fa.l1_0.shape t) = Fa.l1_0.g Fa.l1_0.k0 n m t.1 t.2.1 t.2.2 :=
  loop_of_round (shape := Fa.l1_0.shape) (body := Fa.R0 n) (g := fun m t => Fa.l1_0.g Fa.l1_0.k0 n m t.1 t.2.1 t.2.2) (fun t => rfl)
    fun m t ih => (Fa.l1_0.round n (loopOf (Fa.R0 n) m) t.1 t.2.1 t.2.2).trans (congrFun (congrFun (congrFun (congrArg (Fa.l1_0.r Fa.l1_0.k0 n) (funext fun y0 => funext fun y1 => funext fun y2 => ih (y0, y1, y2))) t.1) t.2.1) t.2.2)
theorem Fa.l1_0.loop (n m : Nat) (t : (Int × (Int × LI))) : loopOf (Fa.R0 n) m (Fa.l1_0.shape t) = (Fa.l1_0.m n m t).map Fa.l1_0.res :=
  (Fa.l1_0.loop' n m t).trans (Fa.l1_0.gmap Fa.l1_0.res (fun a0 => a0) n m t.1 t.2.1 t.2.2)
theorem Fa.gmap {α β : Type} (h : β → α) (mk0 : LI → β) (n : Nat) (a : LI) : Fa.g (fun a0 => (h (mk0 a0))) n a = (Fa.g mk0 n a).map h := by
  unfold Fa.g
  exact (bindO_map fun r2 => rfl)
theorem Fa.run (n : Nat) (a : LI) : runF (Fa.C n) (Fa.A n) n Tryd.f29 [(.own 0 1)] [(some (.ints .u8 a))] (fun v o => some (v, o)) = Fa.g (fun a0 => (((.tup []), [(some (.ints .u8 a0))]) : AV × Blks)) n a := by kernel_rfl
theorem Fa.call (hmix : Tryd.prog.follows .mixedOrders = true) (n : Nat) (t : LI) (u) (h : Fa.m n t = some u) : FnC Tryd.prog rlpG 29 (Fa.shape t).1 (Fa.shape t).2 (Fa.res u).1 (Fa.res u).2 :=
  fnC1 (C := Fa.C n) (A := Fa.A n) (fn := Tryd.f29) rfl .nil hmix Tryd.func29 (by kernel_rfl) (lp := [Fa.b0]) (by kernel_rfl) (.cons (show (Fa.A n).loop (key Fa.b0) = some (.mk' Fa.l1_0.pat (Fa.l1_0.m n n) Fa.l1_0.resK) by kernel_rfl) (LoopS.of (res := Fa.l1_0.res) (fun R u K => rfl) Fa.l1_0.pat_shape fun t => Fa.l1_0.loop n n t)
  .nil)
  (nj rfl) (by decide) rfl rfl (by show 1 ≤ Tryd.f29.ntmps; decide) (Fa.run n t) (Fa.gmap Fa.res (fun a0 => a0) n t) h
theorem Fa.s (hmix : Tryd.prog.follows .mixedOrders = true) (n : Nat) : CalleeS Tryd.prog rlpG 29 (Fa.c n) :=
  .mk1 (res := Fa.res) (shape := Fa.shape) (fun R u K => rfl) (fun _ _ _ h => by unfold Fa.pat at h; split at h <;> cases h; rfl) (fun t u h => Fa.call hmix n t u h) Tryd.func29 (by decide) (by kernel_rfl)
end
section
noncomputable abbrev Ft.R0 (n : Nat) := roundOf (Ft.C n) (Ft.A n) n Ft.b0
theorem Ft.l2_0.rmap {α β : Type} (h : β → α) (mk0 : LI → β) (n : Nat) (f : Int → LI → Option β)  (x0 : Int) (x1 : LI) : Ft.l2_0.r (fun a0 => (h (mk0 a0))) n (fun y0 y1 => (f y0 y1).map h) x0 x1 = (Ft.l2_0.r mk0 n f x0 x1).map h := by
  unfold Ft.l2_0.r
  exact (ite_map (ite_map rfl rfl) rfl)
theorem Ft.l2_0.gmap {α β : Type} (h : β → α) (mk0 : LI → β) (n : Nat) : ∀ (m : Nat) (x0 : Int) (x1 : LI), Ft.l2_0.g (fun a0 => (h (mk0 a0))) n m x0 x1 = (Ft.l2_0.g mk0 n m x0 x1).map h
  | 0, _, _ => rfl
  | m + 1, x0, x1 => by
    unfold Ft.l2_0.g
    rw [← Ft.l2_0.rmap]
    congr
    · funext y0 y1; exact Ft.l2_0.gmap h mk0 n m y0 y1
theorem Ft.l2_0.pat_shape : ∀ st t, Ft.l2_0.pat st = some t → st = Ft.l2_0.shape t := fun _ _ h => by unfold Ft.l2_0.pat at h; split at h <;> cases h; rfl
def Ft.l2_0.k0 : LI → Ex × St := (fun a0 => (((.exit 0), (St.mk [(.own 0 1)] [(some (.ints .u8 a0))])) : Ex × St))
theorem Ft.l2_0.round (n : Nat) (rc : St → Option (Ex × St)) (x0 : Int) (x1 : LI) : Ft.R0 n rc ((St.mk [(.int .u64 x0), (.own 0 1)] [(some (.ints .u8 x1))])) = Ft.l2_0.r Ft.l2_0.k0 n (fun y0 y1 => rc ((St.mk [(.int .u64 y0), (.own 0 1)] [(some (.ints .u8 y1))]))) x0 x1 := by kernel_rfl
theorem Ft.l2_0.loop' (n : Nat) : ∀ (m : Nat) (t : (Int × LI)), loopOf (Ft.R0 n) m (Ft.l2_0.shape t) = Ft.l2_0.g Ft.l2_0.k0 n m t.1 t.2 :=
  loop_of_round (shape := Ft.l2_0.shape) (body := Ft.R0 n) (g := fun m t => Ft.l2_0.g Ft.l2_0.k0 n m t.1 t.2) (fun t => rfl)
    fun m t ih => (Ft.l2_0.round n (loopOf (Ft.R0 n) m) t.1 t.2).trans (congrFun (congrFun (congrArg (Ft.l2_0.r Ft.l2_0.k0 n) (funext fun y0 => funext fun y1 => ih (y0, y1))) t.1) t.2)
theorem Ft.l2_0.loop (n m : Nat) (t : (Int × LI)) : loopOf (Ft.R0 n) m (Ft.l2_0.shape t) = (Ft.l2_0.m n m t).map Ft.l2_0.res :=
  (Ft.l2_0.loop' n m t).trans (Ft.l2_0.gmap Ft.l2_0.res (fun a0 => a0) n m t.1 t.2)
theorem Ft.gmap {α β : Type} (h : β → α) (mk0 : LI → β) (n : Nat) (a0 : Int) : Ft.g (fun a0 => (h (mk0 a0))) n a0 = (Ft.g mk0 n a0).map h := by
  unfold Ft.g
  exact (bindO_map fun r2 => (bindO_map fun r4 => rfl))
theorem Ft.run (n : Nat) (a0 : Int) : runF (Ft.C n) (Ft.A n) n Tryd.f24 [(.int .u64 a0)] [] (fun v o => some (v, o)) = Ft.g (fun a0 => (((.own 0 1), [(some (.ints .u8 a0))]) : AV × Blks)) n a0 := by kernel_rfl
theorem Ft.call (hmix : Tryd.prog.follows .mixedOrders = true) (n : Nat) (t : Int) (u) (h : Ft.m n t = some u) : FnC Tryd.prog rlpG 24 (Ft.shape t).1 (Ft.shape t).2 (Ft.res u).1 (Ft.res u).2 :=
  fnC1 (C := Ft.C n) (A := Ft.A n) (fn := Tryd.f24) rfl (.cons (Fa.s hmix n) .nil) hmix Tryd.func24 (by kernel_rfl) (lp := [Ft.b0]) (by kernel_rfl) (.cons (show (Ft.A n).loop (key Ft.b0) = some (.mk' Ft.l2_0.pat (Ft.l2_0.m n n) Ft.l2_0.resK) by kernel_rfl) (LoopS.of (res := Ft.l2_0.res) (fun R u K => rfl) Ft.l2_0.pat_shape fun t => Ft.l2_0.loop n n t)
  .nil)
  (nj rfl) (by decide) rfl rfl (by show 1 ≤ Tryd.f24.ntmps; decide) (Ft.run n t) (Ft.gmap Ft.res (fun a0 => a0) n t) h
theorem Ft.s (hmix : Tryd.prog.follows .mixedOrders = true) (n : Nat) : CalleeS Tryd.prog rlpG 24 (Ft.c n) :=
  .mk1 (res := Ft.res) (shape := Ft.shape) (fun R u K => rfl) (fun _ _ _ h => by unfold Ft.pat at h; split at h <;> cases h; rfl) (fun t u h => Ft.call hmix n t u h) Tryd.func24 (by decide) (by kernel_rfl)
end
section
theorem Fo.gmap {α β : Type} (h : β → α) (mk0 : LI → β) (n : Nat) (a0 : Int) (a1 : Int) : Fo.g (fun a0 => (h (mk0 a0))) n a0 a1 = (Fo.g mk0 n a0 a1).map h := by
  unfold Fo.g
  exact (ite_map rfl (bindO_map fun r4 => (ite_map rfl rfl)))
theorem Fo.run (n : Nat) (a0 : Int) (a1 : Int) : runF (Fo.C n) (Fo.A n) n Tryd.f21 [(.int .i64 a0), (.int .u8 a1)] [] (fun v o => some (v, o)) = Fo.g (fun a0 => (((.own 0 1), [(some (.ints .u8 a0))]) : AV × Blks)) n a0 a1 := by kernel_rfl
theorem Fo.call (hmix : Tryd.prog.follows .mixedOrders = true) (n : Nat) (t : (Int × Int)) (u) (h : Fo.m n t = some u) : FnC Tryd.prog rlpG 21 (Fo.shape t).1 (Fo.shape t).2 (Fo.res u).1 (Fo.res u).2 :=
  fnC1 (C := Fo.C n) (A := Fo.A n) (fn := Tryd.f21) rfl (.cons (Ft.s hmix n) .nil) hmix Tryd.func21 (by kernel_rfl) (lp := []) (by kernel_rfl) .nil
  (nj rfl) (by decide) rfl rfl (by show 2 ≤ Tryd.f21.ntmps; decide) (Fo.run n t.1 t.2) (Fo.gmap Fo.res (fun a0 => a0) n t.1 t.2) h
theorem Fo.s (hmix : Tryd.prog.follows .mixedOrders = true) (n : Nat) : CalleeS Tryd.prog rlpG 21 (Fo.c n) :=
  .mk1 (res := Fo.res) (shape := Fo.shape) (fun R u K => rfl) (fun _ _ _ h => by unfold Fo.pat at h; split at h <;> cases h; rfl) (fun t u h => Fo.call hmix n t u h) Tryd.func21 (by decide) (by kernel_rfl)
end
section
namespace Go.Proofs
open Go Go.RowKit Go.Shelf Go.Lib
attribute [local go_sem] Oper.semAt_some
theorem Tryd.info5 : (Tryd.prog.info? 5).map (fun i => (i.zero, i.size, i.bytes)) = some (some (.int .u8 0), 1, 1) := by kernel_rfl
theorem Tryd.under22 : Tryd.prog.underlying 22 = some (.slice 5) := by kernel_rfl
set_option maxHeartbeats 2000000 in
theorem Tryd.clone_in (F : Fence) (n : Nat) (hF : F.fn 22) (hro : F.round = none) (ad : Addr) (cap : Nat) (zs : List Int) (w : World) (hbig : zs.length ≤ 100000) (hc : ∀ j, j < zs.length → w.cell? (ad.add j) = some (.int .u8 (zs.getD j 0))) :
    CallsIn F n Tryd.prog 22 #[.slice (some ad) zs.length cap] w fun e w' => ∃ v', e = .returned v' ∧ w'.ownsRow w.heap.size 5 1 v' zs.length (zs.map (Value.int .u8)) ∧ Below w.heap.size w w' := by
  obtain ⟨i0, hi, hz0, hz1, hz2⟩ := info_parts Tryd.info5
  have q22 : ∀ (w : World) (a : Option Addr) (n c n' c' : Nat), (binOp .eql 22 (.slice a n c) (.slice none n' c')).run Tryd.prog w = .ok (.bool a.isNone) w := fun w a n c n' c' => Lib.run_eql_slice_nil w _ _ a n c n' c' Tryd.under22
  have u22 : ∀ w, Sem.run Tryd.prog (underlying 22) w = .ok (TypeDesc.slice 5) w := run_underlying Tryd.under22
  have A : Aside (∀ j, j < zs.length → w.cell? (ad.add j) = some (.int .u8 (zs.getD j 0))) := hc
  clear hc
  refine callsIn_of_wp Tryd.func22 rfl hF ?_ hro
  simp only [Tryd.ntmps22, List.size_toArray, List.length_cons, List.length_nil, Nat.reduceAdd, Nat.reduceSub, Array.replicate_succ, Array.replicate_zero, List.push_toArray, List.append_toArray, List.nil_append, List.cons_append]
  gi_wp2_with (gi_at_builtin; refine wpListIn_append_own _ rfl _ _ 22 rfl w.heap.size 5 i0 (.int .u8 0) 1 1 Tryd.under22 hi hz0 hz1 hz2 rfl (by decide) _ _ _ rfl (World.ownsRow_made w #[] 0 (Nat.le_refl _) (Nat.zero_le _) rfl) ad zs.length cap (zs.map (Value.int .u8)) rfl ?qc1 ?qc2 ?qc3 ?qc4 ?qc5 ?qc6 ?_)
  case qc1 => simp
  case qc2 =>
    intro j u hj
    have hjn : j < zs.length := by
      have := (List.getElem?_eq_some_iff.1 hj).1
      simpa using this
    refine Lib.cell?_alloc_some _ ?_
    rw [A.out j hjn]
    have e : (zs.map (Value.int .u8))[j]? = some (Value.int .u8 (zs.getD j 0)) := by simp [List.getD, List.getElem?_eq_getElem hjn]
    rw [e] at hj
    exact hj
  case qc3 => intro u hu; obtain ⟨x, _, rfl⟩ := List.mem_map.1 hu; rfl
  case qc4 => unfold maxLen; omega
  case qc5 => omega
  case qc6 => simp
  intro v' w1 hown hgrow hnil
  gi_wp2
  go_ret
  refine ⟨v', rfl, by simpa using hown, ?_⟩
  exact ((Below.refl _ w).alloc (Nat.le_refl _) _).grown hgrow (by simp) (by intro k hk; simp [Value.ownBlock] at hk; omega)
set_option maxHeartbeats 1000000 in
theorem Tryd.clone_nil (F : Fence) (n : Nat) (hF : F.fn 22) (hro : F.round = none) (m c : Nat) (w : World) :
    CallsIn F n Tryd.prog 22 #[.slice none m c] w fun e w' => e = .returned (.slice none 0 0) ∧ w' = w := by
  have q22 : ∀ (w : World) (a : Option Addr) (n c n' c' : Nat), (binOp .eql 22 (.slice a n c) (.slice none n' c')).run Tryd.prog w = .ok (.bool a.isNone) w := fun w a n c n' c' => Lib.run_eql_slice_nil w _ _ a n c n' c' Tryd.under22
  refine callsIn_of_wp Tryd.func22 rfl hF ?_ hro
  simp only [Tryd.ntmps22, List.size_toArray, List.length_cons, List.length_nil, Nat.reduceAdd, Nat.reduceSub, Array.replicate_succ, Array.replicate_zero, List.push_toArray, List.append_toArray, List.nil_append, List.cons_append]
  gi_wp2
  go_ret
  exact ⟨rfl, rfl⟩
end Go.Proofs
namespace Go.Abs
open Go Go.Proofs Go.RowKit
theorem clone_ok (t : List Int) (h : t.length ≤ 100000) : FnOK Tryd.prog rlpG 22 [.rints .u8 t] [] (.own 0 1) [some (.ints .u8 t)] := by
  intro E vs hbl m g ha
  obtain ⟨v, rfl, hv⟩ := args1 ha
  refine .inl ⟨Tryd.f22, Tryd.func22, by decide, by kernel_rfl, (callsIn_wide (n := 3)).1 ?_⟩
  have fin : ∀ v' W', W'.ownsRow E.w.heap.size 5 1 v' t.length (t.map (Value.int .u8)) → Below E.w.heap.size E.w W' → ∃ E', E'.w = W' ∧ E'.bl = [some (.ints .u8 t)] ∧ Go E E' ∧ VR E' true (.own 0 1) v' := fun v' W' hrow hB => by
    obtain ⟨E', h1, h2, h3, h4⟩ := took_own m hB .u8 t hrow
    rw [hbl] at h2 h4
    exact ⟨E', h1, h2, h3, h4⟩
  cases hv with
  | rints _ _ _ a cap hc hx =>
    cases a with
    | none =>
      have ht : t = [] := by
        cases t with
        | nil => rfl
        | cons x r =>
          obtain ⟨ad, e, -⟩ := hx 0 (by simp)
          cases e
      subst ht
      refine (Tryd.clone_nil Fence.wide 3 trivial rfl _ cap E.w).mono ?_
      rintro e W' ⟨rfl, rfl⟩
      exact ⟨_, rfl, fin _ _ (World.ownsRow_nil _ _ _ _) (Below.refl _ _)⟩
    | some ad =>
      refine (Tryd.clone_in Fence.wide 3 trivial rfl ad cap t E.w h fun j hj => ?_).mono ?_
      · obtain ⟨ad', e, e2, -, e4⟩ := hx j hj
        cases e
        have : ad.add j = ⟨ad.block, ad.off + j, none⟩ := by unfold Addr.add; cases ad; simp at e2; subst e2; split <;> simp_all
        rw [this]
        exact e4
      · rintro e W' ⟨v', rfl, h1, h2⟩
        exact ⟨v', rfl, fin _ _ h1 h2⟩
end Go.Abs
end
section
theorem Fb.ok (n : Nat) (t) (u) (h : Fb.m n t = some u) : FnOK Tryd.prog rlpG 22 (Fb.shape t).1 (Fb.shape t).2 (Fb.res u).1 (Fb.res u).2 := by
  unfold Fb.m at h
  split at h
  · rename_i hl
    cases h
    exact clone_ok t hl
  · cases h
theorem Fb.s (hmix : Tryd.prog.follows .mixedOrders = true) (n : Nat) : CalleeS Tryd.prog rlpG 22 (Fb.c n) :=
  CalleeS.of (res := Fb.res) (shape := Fb.shape) (fun R u K => rfl) (fun args lent t h => by
    unfold Fb.pat at h
    split at h
    · cases h; rfl
    · cases h) fun t u h => Fb.ok n t u h
end
section
theorem Ff.l4_0.rmap {α β : Type} (h : β → α) (mk0 : (List Int) → β) (n : Nat) (self : ((Bool × ((List Int) × (List AV)))) → Option ((List Int))) (f : Int → Int → (List AV) → (List Int) → Option β)  (x0 : Int) (x1 : Int) (x2 : (List AV)) (x3 : (List Int)) : Ff.l4_0.r (fun a0 => (h (mk0 a0))) n self (fun y0 y1 y2 y3 => (f y0 y1 y2 y3).map h) x0 x1 x2 x3 = (Ff.l4_0.r mk0 n self f x0 x1 x2 x3).map h := by
  unfold Ff.l4_0.r
  exact (ite_map (ite_map (ite_map (bindO_map fun r10 => (bindO_map fun r12 => (bindO_map fun r14 => (bindO_map fun r16 => (bindO_map fun r18 => (ite_map rfl rfl)))))) rfl) rfl) rfl)
theorem Ff.l4_0.gmap {α β : Type} (h : β → α) (mk0 : (List Int) → β) (n : Nat) (self : ((Bool × ((List Int) × (List AV)))) → Option ((List Int))) : ∀ (m : Nat) (x0 : Int) (x1 : Int) (x2 : (List AV)) (x3 : (List Int)), Ff.l4_0.g (fun a0 => (h (mk0 a0))) n self m x0 x1 x2 x3 = (Ff.l4_0.g mk0 n self m x0 x1 x2 x3).map h
  | 0, _, _, _, _ => rfl
  | m + 1, x0, x1, x2, x3 => by
    unfold Ff.l4_0.g
    rw [← Ff.l4_0.rmap]
    congr
    · funext y0 y1 y2 y3; exact Ff.l4_0.gmap h mk0 n self m y0 y1 y2 y3
theorem Ff.l4_0.pat_shape : ∀ st t, Ff.l4_0.pat st = some t → st = Ff.l4_0.shape t := by
  intro st t h
  unfold Ff.l4_0.pat at h
  split at h
  · cases h; rfl
  · cases h
theorem Ff.l4_0.round (n : Nat) (self : ((Bool × ((List Int) × (List AV)))) → Option ((List Int))) (rc : St → Option (Ex × St)) (x0 : Int) (x1 : Int) (x2 : (List AV)) (x3 : (List Int)) : roundOf (Ff.C n self) (Ff.A n self) n Ff.b0 rc ((St.mk [(.int .i64 x0), (.int .i64 x1), (.robjs 25 3 x2), (.own 0 1)] [(some (.ints .u8 x3))])) = Ff.l4_0.r (fun a0 => ((Prod.mk (.exit 0) (St.mk [(.own 0 1)] [(some (.ints .u8 a0))])) : Ex × St)) n self (fun y0 y1 y2 y3 => rc ((St.mk [(.int .i64 y0), (.int .i64 y1), (.robjs 25 3 y2), (.own 0 1)] [(some (.ints .u8 y3))]))) x0 x1 x2 x3 := by kernel_rfl
theorem Ff.l4_0.loop' (n : Nat) (self : ((Bool × ((List Int) × (List AV)))) → Option ((List Int))) : ∀ (m : Nat) (t : (Int × (Int × ((List AV) × (List Int))))), loopOf (roundOf (Ff.C n self) (Ff.A n self) n Ff.b0) m (Ff.l4_0.shape t) = Ff.l4_0.g (fun a0 => ((Prod.mk (.exit 0) (St.mk [(.own 0 1)] [(some (.ints .u8 a0))])) : Ex × St)) n self m t.1 t.2.1 t.2.2.1 t.2.2.2 :=
  loop_of_round (shape := Ff.l4_0.shape) (body := roundOf (Ff.C n self) (Ff.A n self) n Ff.b0) (g := fun m t => Ff.l4_0.g (fun a0 => ((Prod.mk (.exit 0) (St.mk [(.own 0 1)] [(some (.ints .u8 a0))])) : Ex × St)) n self m t.1 t.2.1 t.2.2.1 t.2.2.2) (fun t => rfl)
    fun m t ih => (Ff.l4_0.round n self (loopOf (roundOf (Ff.C n self) (Ff.A n self) n Ff.b0) m) t.1 t.2.1 t.2.2.1 t.2.2.2).trans (congrFun (congrFun (congrFun (congrFun (congrArg (Ff.l4_0.r (fun a0 => ((Prod.mk (.exit 0) (St.mk [(.own 0 1)] [(some (.ints .u8 a0))])) : Ex × St)) n self) (funext fun y0 => funext fun y1 => funext fun y2 => funext fun y3 => ih (y0, y1, y2, y3))) t.1) t.2.1) t.2.2.1) t.2.2.2)
theorem Ff.l4_0.loop (n : Nat) (self : ((Bool × ((List Int) × (List AV)))) → Option ((List Int))) (m : Nat) (t : (Int × (Int × ((List AV) × (List Int))))) : loopOf (roundOf (Ff.C n self) (Ff.A n self) n Ff.b0) m (Ff.l4_0.shape t) = (Ff.l4_0.m n self m t).map Ff.l4_0.res :=
  (Ff.l4_0.loop' n self m t).trans (Ff.l4_0.gmap Ff.l4_0.res (fun a0 => a0) n self m t.1 t.2.1 t.2.2.1 t.2.2.2)
theorem Ff.gmap {α β : Type} (h : β → α) (mk0 : (List Int) → β) (n : Nat) (self : ((Bool × ((List Int) × (List AV)))) → Option ((List Int))) (a0_0 : Bool) (a0_1 : (List Int)) (a0_2 : (List AV)) : Ff.g (fun a0 => (h (mk0 a0))) n self a0_0 a0_1 a0_2 = (Ff.g mk0 n self a0_0 a0_1 a0_2).map h := by
  unfold Ff.g
  exact (ite_map (bindO_map fun r4 => (bindO_map fun r6 => (ite_map rfl rfl))) (ite_map (ite_map (ite_map (bindO_map fun r10 => rfl) (bindO_map fun r10 => (ite_map rfl rfl))) rfl) (bindO_map fun r6 => (ite_map rfl rfl))))
theorem Ff.run (n : Nat) (self : ((Bool × ((List Int) × (List AV)))) → Option ((List Int))) (a0_0 : Bool) (a0_1 : (List Int)) (a0_2 : (List AV)) : runF (Ff.C n self) (Ff.A n self) n Tryd.f12 [(.agg [(.bool a0_0), (.rints .u8 a0_1), (.robjs 25 3 a0_2)])] [] (fun v o => some (v, o)) = Ff.g (fun a0 => ((Prod.mk (.own 0 1) [(some (.ints .u8 a0))]) : AV × Blks)) n self a0_0 a0_1 a0_2 := by kernel_rfl
theorem Ff.call (hmix : Tryd.prog.follows .mixedOrders = true) (n : Nat) (self : ((Bool × ((List Int) × (List AV)))) → Option ((List Int))) (hs : CalleeS Tryd.prog rlpG 12 (.mk' [] [(some (.agg [none, (some (.ints .u8)), (some (.objs 25 3))]))] Ff.pat self Ff.resK)) (t : (Bool × ((List Int) × (List AV)))) (u) (h : Ff.h n self t = some u) : FnC Tryd.prog rlpG 12 (Ff.shape t).1 (Ff.shape t).2 (Ff.res u).1 (Ff.res u).2 := by
  have hg : ∀ f m, (Ff.C n self).Γ f = some m → CalleeS Tryd.prog rlpG f m := by
    intro f m hm
    unfold Ff.C at hm
    simp only at hm
    first
    | (cases hm; done)
    | (split at hm <;> first
    | (cases hm; exact Fo.s hmix n)
    | (cases hm; exact Fb.s hmix n)
    | (cases hm; exact hs)
    | (cases hm; done))
  have hb : Tryd.f12.body = some (Tryd.f12.body.getD .skip) := by kernel_rfl
  refine runF_calls (C := Ff.C n self) (A := Ff.A n self) (n := n) (fn := Tryd.f12) hg hmix Tryd.func12 hb ?_ ?_ (by decide) rfl rfl (by show 1 ≤ Tryd.f12.ntmps; decide) ?_
  · rw [show loopsIn (Tryd.f12.body.getD .skip) = [Ff.b0] by kernel_rfl]
    intro b hb m hm
    simp only [List.mem_cons, List.not_mem_nil, or_false] at hb
    rcases hb with rfl
    · have e : (Ff.A n self).loop (key Ff.b0) = some (.mk' Ff.l4_0.pat (Ff.l4_0.m n self n) Ff.l4_0.resK) := by rw [show key Ff.b0 = 4 by kernel_rfl]; rfl
      rw [e] at hm
      cases hm
      exact (LoopS.of (res := Ff.l4_0.res) (fun R u K => rfl) Ff.l4_0.pat_shape fun t => Ff.l4_0.loop n self n t)
  · intro a ha m hm
    cases (show none = some m from hm)
  · rw [show runF (Ff.C n self) (Ff.A n self) n Tryd.f12 (Ff.shape t).1 (Ff.shape t).2 (fun v o => some (v, o)) = _ from Ff.run n self t.1 t.2.1 t.2.2]
    have e := Ff.gmap Ff.res (fun a0 => a0) n self t.1 t.2.1 t.2.2
    unfold Ff.h at h
    rw [h] at e
    exact e
theorem Ff.ok (hmix : Tryd.prog.follows .mixedOrders = true) (n : Nat) (self : ((Bool × ((List Int) × (List AV)))) → Option ((List Int))) (hs : CalleeS Tryd.prog rlpG 12 (.mk' [] [(some (.agg [none, (some (.ints .u8)), (some (.objs 25 3))]))] Ff.pat self Ff.resK)) (t : (Bool × ((List Int) × (List AV)))) (u) (h : Ff.h n self t = some u) : FnOK Tryd.prog rlpG 12 (Ff.shape t).1 (Ff.shape t).2 (Ff.res u).1 (Ff.res u).2 :=
  (Ff.call hmix n self hs t u h).ok Tryd.func12 (by decide) (by kernel_rfl)
theorem Ff.s' (hmix : Tryd.prog.follows .mixedOrders = true) (n : Nat) : ∀ d : Nat, CalleeS Tryd.prog rlpG 12 (.mk' [] [(some (.agg [none, (some (.ints .u8)), (some (.objs 25 3))]))] Ff.pat (Ff.mr n d) Ff.resK)
  | 0 => CalleeS.of (res := Ff.res) (shape := Ff.shape) (fun R u K => rfl) (fun args lent t h => by
    unfold Ff.pat at h
    split at h
    · cases h; rfl
    · cases h) fun t u h => by cases h
  | d + 1 => CalleeS.of (res := Ff.res) (shape := Ff.shape) (fun R u K => rfl) (fun args lent t h => by
    unfold Ff.pat at h
    split at h
    · cases h; rfl
    · cases h) fun t u h => Ff.ok hmix n (Ff.mr n d) (Ff.s' hmix n d) t u h
theorem Ff.s (hmix : Tryd.prog.follows .mixedOrders = true) (n : Nat) : CalleeS Tryd.prog rlpG 12 (Ff.c n) := Ff.s' hmix n n
end
section
noncomputable section
def Fr.pat : List AV → Blks → Option (Bool × ((List Int) × ((List AV) × Int)))
 | [(.agg [(.bool a0_0), (.rints .u8 a0_1), (.robjs 25 3 a0_2)]), (.int .i64 a1)], [] => some (a0_0, a0_1, a0_2, a1)
 | _, _ => none
def Fr.shape (t : (Bool × ((List Int) × ((List AV) × Int)))) : List AV × Blks := ([(.agg [(.bool t.1), (.rints .u8 t.2.1), (.robjs 25 3 t.2.2.1)]), (.int .i64 t.2.2.2)], [])
def Fr.res : Int → AV × Blks
 | u => (Prod.mk (.int .i64 u) [])
def Fr.resK {R : Type} (u : Int) (K : AV → Blks → Option R) : Option R := (fun p : AV × Blks => K p.1 p.2) (Prod.mk (.int .i64 u) [])
noncomputable def Fr.C (n : Nat) (self : ((Bool × ((List Int) × ((List AV) × Int)))) → Option (Int)) : Ctx := ⟨Tryd.prog, rlpG, fun f => match f with
 | 9 => some (.mk' [] [(some (.agg [none, (some (.ints .u8)), (some (.objs 25 3))])), none] Fr.pat self Fr.resK)
 | _ => none, fun _ => false⟩
def Fr.live : Nat → List Nat × List Nat := fun k => match k with
 | 3 => ([5, 2, 1], [1])
 | _ => ([], [])
def Fr.jlive : Nat → List Nat × List Nat := fun k => match k with
 | _ => ([], [])
def Fr.l3_0.r {α : Type} (mk0 : Int → α) (n : Nat) (self : ((Bool × ((List Int) × ((List AV) × Int)))) → Option (Int)) (rc : Int → Int → Bool → (List Int) → (List AV) → Option α)  (x0 : Int) (x1 : Int) (x2 : Bool) (x3 : (List Int)) (x4 : (List AV)) : Option α :=
  if (decide (x0 < (((List.length x4) : Nat) : Int))) = true then
   if (decide (x1 ≤ 1000)) = true then
    if 0 ≤ x0 then
     if x0 < (((List.length x4) : Nat) : Int) then
      bindO (tkAgg 3 (List.getD x4 (Int.toNat x0) AV.any)) fun r12 =>
       bindO (tkBool (List.getD r12 0 AV.any)) fun r14 =>
        bindO (tkRints .u8 (List.getD r12 1 AV.any)) fun r16 =>
         bindO (tkRobjs 25 3 (List.getD r12 2 AV.any)) fun r18 =>
          bindO (self (Prod.mk r14 (Prod.mk r16 (Prod.mk r18 x1)))) fun r20 =>
           rc (IntKind.wrap .i64 (x0 + 1)) r20 x2 x3 x4
     else
      none
    else
     none
   else
    some (mk0 x1)
  else
   some (mk0 x1)
def Fr.l3_0.g {α : Type} (mk0 : Int → α) (n : Nat) (self : ((Bool × ((List Int) × ((List AV) × Int)))) → Option (Int)) : Nat → Int → Int → Bool → (List Int) → (List AV) → Option α
 | 0, _, _, _, _, _ => none
 | m + 1, x0, x1, x2, x3, x4 => Fr.l3_0.r mk0 n self (fun y0 y1 y2 y3 y4 => Fr.l3_0.g mk0 n self m y0 y1 y2 y3 y4)  x0 x1 x2 x3 x4
def Fr.l3_0.m (n : Nat) (self : ((Bool × ((List Int) × ((List AV) × Int)))) → Option (Int)) (m : Nat) (t : (Int × (Int × (Bool × ((List Int) × (List AV)))))) : Option Int := Fr.l3_0.g (fun a0 => a0) n self m t.1 t.2.1 t.2.2.1 t.2.2.2.1 t.2.2.2.2
def Fr.l3_0.pat : St → Option (Int × (Int × (Bool × ((List Int) × (List AV)))))
 | (St.mk [(.int .i64 x0), (.ptr 0 []), (.int .i64 x1)] [(some (.var (.agg [(.bool x2), (.rints .u8 x3), (.robjs 25 3 x4)])))]) => some (x0, x1, x2, x3, x4)
 | _ => none
def Fr.l3_0.shape (t : (Int × (Int × (Bool × ((List Int) × (List AV)))))) : St := (St.mk [(.int .i64 t.1), (.ptr 0 []), (.int .i64 t.2.1)] [(some (.var (.agg [(.bool t.2.2.1), (.rints .u8 t.2.2.2.1), (.robjs 25 3 t.2.2.2.2)])))])
def Fr.l3_0.res : Int → Ex × St
 | u => (Prod.mk (.exit 0) (St.mk [(.int .i64 u)] []))
def Fr.l3_0.resK {R : Type} (u : Int) (K : Ex → St → Option R) : Option R := (fun p : Ex × St => K p.1 p.2) (Prod.mk (.exit 0) (St.mk [(.int .i64 u)] []))
noncomputable def Fr.A (n : Nat) (self : ((Bool × ((List Int) × ((List AV) × Int)))) → Option (Int)) : Ann := ⟨Tryd.f9.ntmps, 0, Fr.live, [], [none], fun k => match k with
 | 3 => some (.mk' Fr.l3_0.pat (Fr.l3_0.m n self n) Fr.l3_0.resK)
 | _ => none, Fr.jlive, lookJ []⟩
noncomputable def Fr.b0 : Code := (loopsIn (Tryd.f9.body.getD .skip)).getD 0 .skip
def Fr.g {α : Type} (mk0 : Int → α) (n : Nat) (self : ((Bool × ((List Int) × ((List AV) × Int)))) → Option (Int)) (a0_0 : Bool) (a0_1 : (List Int)) (a0_2 : (List AV)) (a1 : Int) : Option α :=
 bindO (Fr.l3_0.m n self n (0, (IntKind.wrap .i64 (a1 + (IntKind.wrap .i64 (1 + (IntKind.wrap .i64 (Int.tdiv (((List.length a0_1) : Nat) : Int) 16)))))), a0_0, a0_1, a0_2)) fun r2 =>
  some (mk0 r2)
def Fr.h (n : Nat) (self : ((Bool × ((List Int) × ((List AV) × Int)))) → Option (Int)) (t : (Bool × ((List Int) × ((List AV) × Int)))) : Option Int := Fr.g (fun a0 => a0) n self t.1 t.2.1 t.2.2.1 t.2.2.2
def Fr.mr (n : Nat) : Nat → ((Bool × ((List Int) × ((List AV) × Int)))) → Option (Int)
 | 0, _ => none
 | d + 1, t => Fr.h n (Fr.mr n d) t
def Fr.m (n : Nat) (t : (Bool × ((List Int) × ((List AV) × Int)))) : Option (Int) := Fr.mr n n t
def Fr.c (n : Nat) : Abs.Callee := .mk' [] [(some (.agg [none, (some (.ints .u8)), (some (.objs 25 3))])), none] Fr.pat (Fr.m n) Fr.resK
end
end
section
theorem Fr.l3_0.rmap {α β : Type} (h : β → α) (mk0 : Int → β) (n : Nat) (self : ((Bool × ((List Int) × ((List AV) × Int)))) → Option (Int)) (f : Int → Int → Bool → (List Int) → (List AV) → Option β)  (x0 : Int) (x1 : Int) (x2 : Bool) (x3 : (List Int)) (x4 : (List AV)) : Fr.l3_0.r (fun a0 => (h (mk0 a0))) n self (fun y0 y1 y2 y3 y4 => (f y0 y1 y2 y3 y4).map h) x0 x1 x2 x3 x4 = (Fr.l3_0.r mk0 n self f x0 x1 x2 x3 x4).map h := by
  unfold Fr.l3_0.r
  exact (ite_map (ite_map (ite_map (ite_map (bindO_map fun r12 => (bindO_map fun r14 => (bindO_map fun r16 => (bindO_map fun r18 => (bindO_map fun r20 => rfl))))) rfl) rfl) rfl) rfl)
theorem Fr.l3_0.gmap {α β : Type} (h : β → α) (mk0 : Int → β) (n : Nat) (self : ((Bool × ((List Int) × ((List AV) × Int)))) → Option (Int)) : ∀ (m : Nat) (x0 : Int) (x1 : Int) (x2 : Bool) (x3 : (List Int)) (x4 : (List AV)), Fr.l3_0.g (fun a0 => (h (mk0 a0))) n self m x0 x1 x2 x3 x4 = (Fr.l3_0.g mk0 n self m x0 x1 x2 x3 x4).map h
  | 0, _, _, _, _, _ => rfl
  | m + 1, x0, x1, x2, x3, x4 => by
    unfold Fr.l3_0.g
    rw [← Fr.l3_0.rmap]
    congr
    · funext y0 y1 y2 y3 y4; exact Fr.l3_0.gmap h mk0 n self m y0 y1 y2 y3 y4
theorem Fr.l3_0.pat_shape : ∀ st t, Fr.l3_0.pat st = some t → st = Fr.l3_0.shape t := by
  intro st t h
  unfold Fr.l3_0.pat at h
  split at h
  · cases h; rfl
  · cases h
theorem Fr.l3_0.round (n : Nat) (self : ((Bool × ((List Int) × ((List AV) × Int)))) → Option (Int)) (rc : St → Option (Ex × St)) (x0 : Int) (x1 : Int) (x2 : Bool) (x3 : (List Int)) (x4 : (List AV)) : roundOf (Fr.C n self) (Fr.A n self) n Fr.b0 rc ((St.mk [(.int .i64 x0), (.ptr 0 []), (.int .i64 x1)] [(some (.var (.agg [(.bool x2), (.rints .u8 x3), (.robjs 25 3 x4)])))])) = Fr.l3_0.r (fun a0 => ((Prod.mk (.exit 0) (St.mk [(.int .i64 a0)] [])) : Ex × St)) n self (fun y0 y1 y2 y3 y4 => rc ((St.mk [(.int .i64 y0), (.ptr 0 []), (.int .i64 y1)] [(some (.var (.agg [(.bool y2), (.rints .u8 y3), (.robjs 25 3 y4)])))]))) x0 x1 x2 x3 x4 := by kernel_rfl
theorem Fr.l3_0.loop' (n : Nat) (self : ((Bool × ((List Int) × ((List AV) × Int)))) → Option (Int)) : ∀ (m : Nat) (t : (Int × (Int × (Bool × ((List Int) × (List AV)))))), loopOf (roundOf (Fr.C n self) (Fr.A n self) n Fr.b0) m (Fr.l3_0.shape t) = Fr.l3_0.g (fun a0 => ((Prod.mk (.exit 0) (St.mk [(.int .i64 a0)] [])) : Ex × St)) n self m t.1 t.2.1 t.2.2.1 t.2.2.2.1 t.2.2.2.2 :=
  loop_of_round (shape := Fr.l3_0.shape) (body := roundOf (Fr.C n self) (Fr.A n self) n Fr.b0) (g := fun m t => Fr.l3_0.g (fun a0 => ((Prod.mk (.exit 0) (St.mk [(.int .i64 a0)] [])) : Ex × St)) n self m t.1 t.2.1 t.2.2.1 t.2.2.2.1 t.2.2.2.2) (fun t => rfl)
    fun m t ih => (Fr.l3_0.round n self (loopOf (roundOf (Fr.C n self) (Fr.A n self) n Fr.b0) m) t.1 t.2.1 t.2.2.1 t.2.2.2.1 t.2.2.2.2).trans (congrFun (congrFun (congrFun (congrFun (congrFun (congrArg (Fr.l3_0.r (fun a0 => ((Prod.mk (.exit 0) (St.mk [(.int .i64 a0)] [])) : Ex × St)) n self) (funext fun y0 => funext fun y1 => funext fun y2 => funext fun y3 => funext fun y4 => ih (y0, y1, y2, y3, y4))) t.1) t.2.1) t.2.2.1) t.2.2.2.1) t.2.2.2.2)
theorem Fr.l3_0.loop (n : Nat) (self : ((Bool × ((List Int) × ((List AV) × Int)))) → Option (Int)) (m : Nat) (t : (Int × (Int × (Bool × ((List Int) × (List AV)))))) : loopOf (roundOf (Fr.C n self) (Fr.A n self) n Fr.b0) m (Fr.l3_0.shape t) = (Fr.l3_0.m n self m t).map Fr.l3_0.res :=
  (Fr.l3_0.loop' n self m t).trans (Fr.l3_0.gmap Fr.l3_0.res (fun a0 => a0) n self m t.1 t.2.1 t.2.2.1 t.2.2.2.1 t.2.2.2.2)
theorem Fr.gmap {α β : Type} (h : β → α) (mk0 : Int → β) (n : Nat) (self : ((Bool × ((List Int) × ((List AV) × Int)))) → Option (Int)) (a0_0 : Bool) (a0_1 : (List Int)) (a0_2 : (List AV)) (a1 : Int) : Fr.g (fun a0 => (h (mk0 a0))) n self a0_0 a0_1 a0_2 a1 = (Fr.g mk0 n self a0_0 a0_1 a0_2 a1).map h := by
  unfold Fr.g
  exact (bindO_map fun r2 => rfl)
theorem Fr.run (n : Nat) (self : ((Bool × ((List Int) × ((List AV) × Int)))) → Option (Int)) (a0_0 : Bool) (a0_1 : (List Int)) (a0_2 : (List AV)) (a1 : Int) : runF (Fr.C n self) (Fr.A n self) n Tryd.f9 [(.agg [(.bool a0_0), (.rints .u8 a0_1), (.robjs 25 3 a0_2)]), (.int .i64 a1)] [] (fun v o => some (v, o)) = Fr.g (fun a0 => ((Prod.mk (.int .i64 a0) []) : AV × Blks)) n self a0_0 a0_1 a0_2 a1 := by kernel_rfl
theorem Fr.call (hmix : Tryd.prog.follows .mixedOrders = true) (n : Nat) (self : ((Bool × ((List Int) × ((List AV) × Int)))) → Option (Int)) (hs : CalleeS Tryd.prog rlpG 9 (.mk' [] [(some (.agg [none, (some (.ints .u8)), (some (.objs 25 3))])), none] Fr.pat self Fr.resK)) (t : (Bool × ((List Int) × ((List AV) × Int)))) (u) (h : Fr.h n self t = some u) : FnC Tryd.prog rlpG 9 (Fr.shape t).1 (Fr.shape t).2 (Fr.res u).1 (Fr.res u).2 := by
  have hg : ∀ f m, (Fr.C n self).Γ f = some m → CalleeS Tryd.prog rlpG f m := by
    intro f m hm
    unfold Fr.C at hm
    simp only at hm
    first
    | (cases hm; done)
    | (split at hm <;> first
    | (cases hm; exact hs)
    | (cases hm; done))
  have hb : Tryd.f9.body = some (Tryd.f9.body.getD .skip) := by kernel_rfl
  refine runF_calls (C := Fr.C n self) (A := Fr.A n self) (n := n) (fn := Tryd.f9) hg hmix Tryd.func9 hb ?_ ?_ (by decide) rfl rfl (by show 2 ≤ Tryd.f9.ntmps; decide) ?_
  · rw [show loopsIn (Tryd.f9.body.getD .skip) = [Fr.b0] by kernel_rfl]
    intro b hb m hm
    simp only [List.mem_cons, List.not_mem_nil, or_false] at hb
    rcases hb with rfl
    · have e : (Fr.A n self).loop (key Fr.b0) = some (.mk' Fr.l3_0.pat (Fr.l3_0.m n self n) Fr.l3_0.resK) := by rw [show key Fr.b0 = 3 by kernel_rfl]; rfl
      rw [e] at hm
      cases hm
      exact (LoopS.of (res := Fr.l3_0.res) (fun R u K => rfl) Fr.l3_0.pat_shape fun t => Fr.l3_0.loop n self n t)
  · intro a ha m hm
    cases (show none = some m from hm)
  · rw [show runF (Fr.C n self) (Fr.A n self) n Tryd.f9 (Fr.shape t).1 (Fr.shape t).2 (fun v o => some (v, o)) = _ from Fr.run n self t.1 t.2.1 t.2.2.1 t.2.2.2]
    have e := Fr.gmap Fr.res (fun a0 => a0) n self t.1 t.2.1 t.2.2.1 t.2.2.2
    unfold Fr.h at h
    rw [h] at e
    exact e
theorem Fr.ok (hmix : Tryd.prog.follows .mixedOrders = true) (n : Nat) (self : ((Bool × ((List Int) × ((List AV) × Int)))) → Option (Int)) (hs : CalleeS Tryd.prog rlpG 9 (.mk' [] [(some (.agg [none, (some (.ints .u8)), (some (.objs 25 3))])), none] Fr.pat self Fr.resK)) (t : (Bool × ((List Int) × ((List AV) × Int)))) (u) (h : Fr.h n self t = some u) : FnOK Tryd.prog rlpG 9 (Fr.shape t).1 (Fr.shape t).2 (Fr.res u).1 (Fr.res u).2 :=
  (Fr.call hmix n self hs t u h).ok Tryd.func9 (by decide) (by kernel_rfl)
theorem Fr.s' (hmix : Tryd.prog.follows .mixedOrders = true) (n : Nat) : ∀ d : Nat, CalleeS Tryd.prog rlpG 9 (.mk' [] [(some (.agg [none, (some (.ints .u8)), (some (.objs 25 3))])), none] Fr.pat (Fr.mr n d) Fr.resK)
  | 0 => CalleeS.of (res := Fr.res) (shape := Fr.shape) (fun R u K => rfl) (fun args lent t h => by
    unfold Fr.pat at h
    split at h
    · cases h; rfl
    · cases h) fun t u h => by cases h
  | d + 1 => CalleeS.of (res := Fr.res) (shape := Fr.shape) (fun R u K => rfl) (fun args lent t h => by
    unfold Fr.pat at h
    split at h
    · cases h; rfl
    · cases h) fun t u h => Fr.ok hmix n (Fr.mr n d) (Fr.s' hmix n d) t u h
theorem Fr.s (hmix : Tryd.prog.follows .mixedOrders = true) (n : Nat) : CalleeS Tryd.prog rlpG 9 (Fr.c n) := Fr.s' hmix n n
end
section
noncomputable section
noncomputable def Fs.C (n : Nat) : Ctx := ⟨Tryd.prog, rlpG, lookC [], fun _ => false⟩
def Fs.live : NL := fun k => match k with
 | 9 => ([33, 32, 31, 9, 0, 8], [9, 0, 8])
 | _ => ([], [])
def Fs.l9_0.r {α : Type} (mk0 : Int → LI → Int → α) (n : Nat) (rc : Int → Int → LI → Int → LI → Int → Option α)  (x0 : Int) (x1 : Int) (x2 : LI) (x3 : Int) (x4 : LI) (x5 : Int) : Option α :=
  if (decide (x0 < x1)) = true then
   if 0 ≤ x0 then
    if x0 < (((List.length x2) : Nat) : Int) then
     rc (IntKind.wrap .i64 (x0 + 1)) x1 x2 (ibits BinOp.or .u64 (ishl .u64 x3 8) (IntKind.wrap .u64 (List.getD x2 (Int.toNat x0) 0))) x4 x5
    else
     none
   else
    none
  else
   some (mk0 x3 x4 x5)
def Fs.l9_0.g {α : Type} (mk0 : Int → LI → Int → α) (n : Nat) : Nat → Int → Int → LI → Int → LI → Int → Option α
 | 0, _, _, _, _, _, _ => none
 | m + 1, x0, x1, x2, x3, x4, x5 => Fs.l9_0.r mk0 n (fun y0 y1 y2 y3 y4 y5 => Fs.l9_0.g mk0 n m y0 y1 y2 y3 y4 y5)  x0 x1 x2 x3 x4 x5
def Fs.l9_0.m (n m : Nat) (t : (Int × (Int × (LI × (Int × (LI × Int)))))) : Option (Int × (LI × Int)) := Fs.l9_0.g (fun a0 a1 a2 => (a0, a1, a2)) n m t.1 t.2.1 t.2.2.1 t.2.2.2.1 t.2.2.2.2.1 t.2.2.2.2.2
def Fs.l9_0.pat : St → Option (Int × (Int × (LI × (Int × (LI × Int)))))
 | (St.mk [(.int .i64 x0), (.int .i64 x1), (.rints .u8 x2), (.int .u64 x3), (.rints .u8 x4), (.int .i64 x5)] []) => some (x0, x1, x2, x3, x4, x5)
 | _ => none
def Fs.l9_0.shape (t : (Int × (Int × (LI × (Int × (LI × Int)))))) : St := (St.mk [(.int .i64 t.1), (.int .i64 t.2.1), (.rints .u8 t.2.2.1), (.int .u64 t.2.2.2.1), (.rints .u8 t.2.2.2.2.1), (.int .i64 t.2.2.2.2.2)] [])
def Fs.l9_0.res : (Int × (LI × Int)) → Ex × St
 | u => ((.exit 0), (St.mk [(.int .u64 u.1), (.rints .u8 u.2.1), (.int .i64 u.2.2)] []))
def Fs.l9_0.resK {R : Type} (u : (Int × (LI × Int))) (K : Ex → St → Option R) : Option R := K (Fs.l9_0.res u).1 (Fs.l9_0.res u).2
noncomputable def Fs.A (n : Nat) : Ann := ⟨Tryd.f30.ntmps, 0, Fs.live, [(0, (.ints .u8)), (31, (.ints .u8))], [(some (.ints .u8)), (some (.ints .u8)), none], fun k => match k with
 | 9 => some (.mk' Fs.l9_0.pat (Fs.l9_0.m n n) Fs.l9_0.resK)
 | _ => none, noNL, lookJ []⟩
noncomputable def Fs.b0 : Code := (loopsIn (Tryd.f30.body.getD .skip)).getD 0 .skip
def Fs.g {α : Type} (mk0 : Nat → LI → LI → α) (mk1 : LI → LI → α) (n : Nat) (a0 : LI) (a1 : Int) : Option α :=
 if 0 < (((List.length a0) : Nat) : Int) then
  if 1 ≤ (((List.length a0) : Nat) : Int) then
   if (decide ((IntKind.wrap .i64 (IntKind.wrap .u8 ((List.getD a0 0 0) - a1))) > 55)) = true then
    if (decide ((IntKind.wrap .i64 ((IntKind.wrap .i64 (IntKind.wrap .u8 ((List.getD a0 0 0) - a1))) - 55)) > (((List.length (Go.Abs.cut a0 1 (Option.none))) : Nat) : Int))) = true then
     some (mk0 0 [] [])
    else
     if 0 ≤ (IntKind.wrap .i64 ((IntKind.wrap .i64 (IntKind.wrap .u8 ((List.getD a0 0 0) - a1))) - 55)) then
      if (IntKind.wrap .i64 ((IntKind.wrap .i64 (IntKind.wrap .u8 ((List.getD a0 0 0) - a1))) - 55)) ≤ (((List.length (Go.Abs.cut a0 1 (Option.none))) : Nat) : Int) then
       bindO (Fs.l9_0.m n n (0, (((List.length (Go.Abs.cut (Go.Abs.cut a0 1 (Option.none)) 0 (Option.some (Int.toNat (IntKind.wrap .i64 ((IntKind.wrap .i64 (IntKind.wrap .u8 ((List.getD a0 0 0) - a1))) - 55)))))) : Nat) : Int), (Go.Abs.cut (Go.Abs.cut a0 1 (Option.none)) 0 (Option.some (Int.toNat (IntKind.wrap .i64 ((IntKind.wrap .i64 (IntKind.wrap .u8 ((List.getD a0 0 0) - a1))) - 55))))), 0, (Go.Abs.cut a0 1 (Option.none)), (IntKind.wrap .i64 ((IntKind.wrap .i64 (IntKind.wrap .u8 ((List.getD a0 0 0) - a1))) - 55)))) fun r14 =>
        if (decide (r14.1 ≤ 55)) = true then
         some (mk0 1 [] [])
        else
         if 0 < (((List.length r14.2.1) : Nat) : Int) then
          if ((List.getD r14.2.1 0 0) == 0) = true then
           some (mk0 1 [] [])
          else
           if 0 ≤ r14.2.2 then
            if r14.2.2 ≤ (((List.length r14.2.1) : Nat) : Int) then
             if (decide (r14.1 > (IntKind.wrap .u64 (((List.length (Go.Abs.cut r14.2.1 (Int.toNat r14.2.2) (Option.none))) : Nat) : Int)))) = true then
              some (mk0 0 [] [])
             else
              if (decide ((IntKind.wrap .i64 r14.1) > (((List.length (Go.Abs.cut r14.2.1 (Int.toNat r14.2.2) (Option.none))) : Nat) : Int))) = true then
               some (mk0 0 [] [])
              else
               if 0 ≤ (IntKind.wrap .i64 r14.1) then
                if (IntKind.wrap .i64 r14.1) ≤ (((List.length (Go.Abs.cut r14.2.1 (Int.toNat r14.2.2) (Option.none))) : Nat) : Int) then
                 if 0 ≤ (IntKind.wrap .i64 r14.1) then
                  if (IntKind.wrap .i64 r14.1) ≤ (((List.length (Go.Abs.cut r14.2.1 (Int.toNat r14.2.2) (Option.none))) : Nat) : Int) then
                   some (mk1 (Go.Abs.cut (Go.Abs.cut r14.2.1 (Int.toNat r14.2.2) (Option.none)) 0 (Option.some (Int.toNat (IntKind.wrap .i64 r14.1)))) (Go.Abs.cut (Go.Abs.cut r14.2.1 (Int.toNat r14.2.2) (Option.none)) (Int.toNat (IntKind.wrap .i64 r14.1)) (Option.none)))
                  else
                   none
                 else
                  none
                else
                 none
               else
                none
            else
             none
           else
            none
         else
          none
      else
       none
     else
      none
   else
    if (decide ((IntKind.wrap .i64 (IntKind.wrap .u8 ((List.getD a0 0 0) - a1))) > (((List.length (Go.Abs.cut a0 1 (Option.none))) : Nat) : Int))) = true then
     some (mk0 0 [] [])
    else
     if 0 ≤ (IntKind.wrap .i64 (IntKind.wrap .u8 ((List.getD a0 0 0) - a1))) then
      if (IntKind.wrap .i64 (IntKind.wrap .u8 ((List.getD a0 0 0) - a1))) ≤ (((List.length (Go.Abs.cut a0 1 (Option.none))) : Nat) : Int) then
       if 0 ≤ (IntKind.wrap .i64 (IntKind.wrap .u8 ((List.getD a0 0 0) - a1))) then
        if (IntKind.wrap .i64 (IntKind.wrap .u8 ((List.getD a0 0 0) - a1))) ≤ (((List.length (Go.Abs.cut a0 1 (Option.none))) : Nat) : Int) then
         some (mk1 (Go.Abs.cut (Go.Abs.cut a0 1 (Option.none)) 0 (Option.some (Int.toNat (IntKind.wrap .i64 (IntKind.wrap .u8 ((List.getD a0 0 0) - a1)))))) (Go.Abs.cut (Go.Abs.cut a0 1 (Option.none)) (Int.toNat (IntKind.wrap .i64 (IntKind.wrap .u8 ((List.getD a0 0 0) - a1)))) (Option.none)))
        else
         none
       else
        none
      else
       none
     else
      none
  else
   none
 else
  none
def Fs.m (n : Nat) (t : (LI × Int)) : Option ((Nat × (LI × LI)) ⊕ (LI × LI)) := Fs.g (fun a0 a1 a2 => (.inl (a0, a1, a2))) (fun a0 a1 => (.inr (a0, a1))) n t.1 t.2
def Fs.pat : List AV → Blks → Option (LI × Int)
 | [(.rints .u8 a0), (.int .u8 a1)], [] => some (a0, a1)
 | _, _ => none
def Fs.shape (t : (LI × Int)) : List AV × Blks := ([(.rints .u8 t.1), (.int .u8 t.2)], [])
def Fs.res : ((Nat × (LI × LI)) ⊕ (LI × LI)) → AV × Blks
 | (.inl u) => ((.tup [(.own 0 1), (.own 1 1), (.errv 58 78 u.1)]), [(some (.ints .u8 u.2.1)), (some (.ints .u8 u.2.2))])
 | (.inr u) => ((.tup [(.rints .u8 u.1), (.rints .u8 u.2), .nili]), [])
def Fs.resK {R : Type} (u : ((Nat × (LI × LI)) ⊕ (LI × LI))) (K : AV → Blks → Option R) : Option R := match u with
 | (.inl u) => (fun p : AV × Blks => K p.1 p.2) ((.tup [(.own 0 1), (.own 1 1), (.errv 58 78 u.1)]), [(some (.ints .u8 u.2.1)), (some (.ints .u8 u.2.2))])
 | (.inr u) => (fun p : AV × Blks => K p.1 p.2) ((.tup [(.rints .u8 u.1), (.rints .u8 u.2), .nili]), [])
def Fs.c (n : Nat) : Abs.Callee := .mk' [] [(some (.ints .u8)), none] Fs.pat (Fs.m n) Fs.resK
end
end
section
noncomputable abbrev Fs.R0 (n : Nat) := roundOf (Fs.C n) (Fs.A n) n Fs.b0
theorem Fs.l9_0.rmap {α β : Type} (h : β → α) (mk0 : Int → LI → Int → β) (n : Nat) (f : Int → Int → LI → Int → LI → Int → Option β)  (x0 : Int) (x1 : Int) (x2 : LI) (x3 : Int) (x4 : LI) (x5 : Int) : Fs.l9_0.r (fun a0 a1 a2 => (h (mk0 a0 a1 a2))) n (fun y0 y1 y2 y3 y4 y5 => (f y0 y1 y2 y3 y4 y5).map h) x0 x1 x2 x3 x4 x5 = (Fs.l9_0.r mk0 n f x0 x1 x2 x3 x4 x5).map h := by
  unfold Fs.l9_0.r
  exact (ite_map (ite_map (ite_map rfl rfl) rfl) rfl)
theorem Fs.l9_0.gmap {α β : Type} (h : β → α) (mk0 : Int → LI → Int → β) (n : Nat) : ∀ (m : Nat) (x0 : Int) (x1 : Int) (x2 : LI) (x3 : Int) (x4 : LI) (x5 : Int), Fs.l9_0.g (fun a0 a1 a2 => (h (mk0 a0 a1 a2))) n m x0 x1 x2 x3 x4 x5 = (Fs.l9_0.g mk0 n m x0 x1 x2 x3 x4 x5).map h
  | 0, _, _, _, _, _, _ => rfl
  | m + 1, x0, x1, x2, x3, x4, x5 => by
    unfold Fs.l9_0.g
    rw [← Fs.l9_0.rmap]
    congr
    · funext y0 y1 y2 y3 y4 y5; exact Fs.l9_0.gmap h mk0 n m y0 y1 y2 y3 y4 y5
theorem Fs.l9_0.pat_shape : ∀ st t, Fs.l9_0.pat st = some t → st = Fs.l9_0.shape t := fun _ _ h => by unfold Fs.l9_0.pat at h; split at h <;> cases h; rfl
def Fs.l9_0.k0 : Int → LI → Int → Ex × St := (fun a0 a1 a2 => (((.exit 0), (St.mk [(.int .u64 a0), (.rints .u8 a1), (.int .i64 a2)] [])) : Ex × St))
theorem Fs.l9_0.round (n : Nat) (rc : St → Option (Ex × St)) (x0 : Int) (x1 : Int) (x2 : LI) (x3 : Int) (x4 : LI) (x5 : Int) : Fs.R0 n rc ((St.mk [(.int .i64 x0), (.int .i64 x1), (.rints .u8 x2), (.int .u64 x3), (.rints .u8 x4), (.int .i64 x5)] [])) = Fs.l9_0.r Fs.l9_0.k0 n (fun y0 y1 y2 y3 y4 y5 => rc ((St.mk [(.int .i64 y0), (.int .i64 y1), (.rints .u8 y2), (.int .u64 y3), (.rints .u8 y4), (.int .i64 y5)] []))) x0 x1 x2 x3 x4 x5 := by kernel_rfl
theorem Fs.l9_0.loop' (n : Nat) : ∀ (m : Nat) (t : (Int × (Int × (LI × (Int × (LI × Int)))))), loopOf (Fs.R0 n) m (Fs.l9_0.shape t) = Fs.l9_0.g Fs.l9_0.k0 n m t.1 t.2.1 t.2.2.1 t.2.2.2.1 t.2.2.2.2.1 t.2.2.2.2.2 :=
  loop_of_round (shape := Fs.l9_0.shape) (body := Fs.R0 n) (g := fun m t => Fs.l9_0.g Fs.l9_0.k0 n m t.1 t.2.1 t.2.2.1 t.2.2.2.1 t.2.2.2.2.1 t.2.2.2.2.2) (fun t => rfl)
    fun m t ih => (Fs.l9_0.round n (loopOf (Fs.R0 n) m) t.1 t.2.1 t.2.2.1 t.2.2.2.1 t.2.2.2.2.1 t.2.2.2.2.2).trans (congrFun (congrFun (congrFun (congrFun (congrFun (congrFun (congrArg (Fs.l9_0.r Fs.l9_0.k0 n) (funext fun y0 => funext fun y1 => funext fun y2 => funext fun y3 => funext fun y4 => funext fun y5 => ih (y0, y1, y2, y3, y4, y5))) t.1) t.2.1) t.2.2.1) t.2.2.2.1) t.2.2.2.2.1) t.2.2.2.2.2)
theorem Fs.l9_0.loop (n m : Nat) (t : (Int × (Int × (LI × (Int × (LI × Int)))))) : loopOf (Fs.R0 n) m (Fs.l9_0.shape t) = (Fs.l9_0.m n m t).map Fs.l9_0.res :=
  (Fs.l9_0.loop' n m t).trans (Fs.l9_0.gmap Fs.l9_0.res (fun a0 a1 a2 => (a0, a1, a2)) n m t.1 t.2.1 t.2.2.1 t.2.2.2.1 t.2.2.2.2.1 t.2.2.2.2.2)
theorem Fs.gmap {α β : Type} (h : β → α) (mk0 : Nat → LI → LI → β) (mk1 : LI → LI → β) (n : Nat) (a0 : LI) (a1 : Int) : Fs.g (fun a0 a1 a2 => (h (mk0 a0 a1 a2))) (fun a0 a1 => (h (mk1 a0 a1))) n a0 a1 = (Fs.g mk0 mk1 n a0 a1).map h := by
  unfold Fs.g
  exact (ite_map (ite_map (ite_map (ite_map rfl (ite_map (ite_map (bindO_map fun r14 => (ite_map rfl (ite_map (ite_map rfl (ite_map (ite_map (ite_map rfl (ite_map rfl (ite_map (ite_map (ite_map (ite_map rfl rfl) rfl) rfl) rfl))) rfl) rfl)) rfl))) rfl) rfl)) (ite_map rfl (ite_map (ite_map (ite_map (ite_map rfl rfl) rfl) rfl) rfl))) rfl) rfl)
theorem Fs.run (n : Nat) (a0 : LI) (a1 : Int) : runF (Fs.C n) (Fs.A n) n Tryd.f30 [(.rints .u8 a0), (.int .u8 a1)] [] (fun v o => some (v, o)) = Fs.g (fun a0 a1 a2 => (((.tup [(.own 0 1), (.own 1 1), (.errv 58 78 a0)]), [(some (.ints .u8 a1)), (some (.ints .u8 a2))]) : AV × Blks)) (fun a0 a1 => (((.tup [(.rints .u8 a0), (.rints .u8 a1), .nili]), []) : AV × Blks)) n a0 a1 := by kernel_rfl
theorem Fs.call (hmix : Tryd.prog.follows .mixedOrders = true) (n : Nat) (t : (LI × Int)) (u) (h : Fs.m n t = some u) : FnC Tryd.prog rlpG 30 (Fs.shape t).1 (Fs.shape t).2 (Fs.res u).1 (Fs.res u).2 :=
  fnC1 (C := Fs.C n) (A := Fs.A n) (fn := Tryd.f30) rfl .nil hmix Tryd.func30 (by kernel_rfl) (lp := [Fs.b0]) (by kernel_rfl) (.cons (show (Fs.A n).loop (key Fs.b0) = some (.mk' Fs.l9_0.pat (Fs.l9_0.m n n) Fs.l9_0.resK) by kernel_rfl) (LoopS.of (res := Fs.l9_0.res) (fun R u K => rfl) Fs.l9_0.pat_shape fun t => Fs.l9_0.loop n n t)
  .nil)
  (nj rfl) (by decide) rfl rfl (by show 2 ≤ Tryd.f30.ntmps; decide) (Fs.run n t.1 t.2) (Fs.gmap Fs.res (fun a0 a1 a2 => (.inl (a0, a1, a2))) (fun a0 a1 => (.inr (a0, a1))) n t.1 t.2) h
theorem Fs.s (hmix : Tryd.prog.follows .mixedOrders = true) (n : Nat) : CalleeS Tryd.prog rlpG 30 (Fs.c n) :=
  .mk1 (res := Fs.res) (shape := Fs.shape) (fun R u K => by rcases u with u | u <;> rfl) (fun _ _ _ h => by unfold Fs.pat at h; split at h <;> cases h; rfl) (fun t u h => Fs.call hmix n t u h) Tryd.func30 (by decide) (by kernel_rfl)
end
section
noncomputable section
def Fv.pat : List AV → Blks → Option ((List Int) × Int)
 | [(.rints .u8 a0), (.int .i64 a1)], [] => some (a0, a1)
 | _, _ => none
def Fv.shape (t : ((List Int) × Int)) : List AV × Blks := ([(.rints .u8 t.1), (.int .i64 t.2)], [])
def Fv.res : ((Bool × (Nat × (List Int))) ⊕ ((Bool × ((List Int) × (List Int))) ⊕ ((Bool × (Nat × ((List Int) × (List Int)))) ⊕ ((Bool × ((List Int) × (Nat × (List Int)))) ⊕ ((Bool × ((List Int) × (Nat × (List AV)))) ⊕ ((Bool × ((List Int) × (List AV))) ⊕ (Bool × (List Int)))))))) → AV × Blks
 | (.inl u) => (Prod.mk (.tup [(.agg [(.bool u.1), .snil, .snil]), (.own 0 1), (.errv 58 78 u.2.1)]) [(some (.ints .u8 u.2.2))])
 | (.inr (.inl u)) => (Prod.mk (.tup [(.agg [(.bool u.1), (.own 0 1), .snil]), (.rints .u8 u.2.1), .nili]) [(some (.ints .u8 u.2.2))])
 | (.inr (.inr (.inl u))) => (Prod.mk (.tup [(.agg [(.bool u.1), (.own 0 1), .snil]), (.own 1 1), (.errv 58 78 u.2.1)]) [(some (.ints .u8 u.2.2.1)), (some (.ints .u8 u.2.2.2))])
 | (.inr (.inr (.inr (.inl u)))) => (Prod.mk (.tup [(.agg [(.bool u.1), (.own 0 1), .snil]), (.rints .u8 u.2.1), (.errv 58 78 u.2.2.1)]) [(some (.ints .u8 u.2.2.2))])
 | (.inr (.inr (.inr (.inr (.inl u))))) => (Prod.mk (.tup [(.agg [(.bool u.1), .snil, (.own 0 3)]), (.rints .u8 u.2.1), (.errv 58 78 u.2.2.1)]) [(some (.objs 25 3 u.2.2.2))])
 | (.inr (.inr (.inr (.inr (.inr (.inl u)))))) => (Prod.mk (.tup [(.agg [(.bool u.1), .snil, (.own 0 3)]), (.rints .u8 u.2.1), .nili]) [(some (.objs 25 3 u.2.2))])
 | (.inr (.inr (.inr (.inr (.inr (.inr u)))))) => (Prod.mk (.tup [(.agg [(.bool u.1), .snil, .snil]), (.rints .u8 u.2), .nili]) [])
def Fv.resK {R : Type} (u : ((Bool × (Nat × (List Int))) ⊕ ((Bool × ((List Int) × (List Int))) ⊕ ((Bool × (Nat × ((List Int) × (List Int)))) ⊕ ((Bool × ((List Int) × (Nat × (List Int)))) ⊕ ((Bool × ((List Int) × (Nat × (List AV)))) ⊕ ((Bool × ((List Int) × (List AV))) ⊕ (Bool × (List Int))))))))) (K : AV → Blks → Option R) : Option R := match u with
 | (.inl u) => (fun p : AV × Blks => K p.1 p.2) (Prod.mk (.tup [(.agg [(.bool u.1), .snil, .snil]), (.own 0 1), (.errv 58 78 u.2.1)]) [(some (.ints .u8 u.2.2))])
 | (.inr (.inl u)) => (fun p : AV × Blks => K p.1 p.2) (Prod.mk (.tup [(.agg [(.bool u.1), (.own 0 1), .snil]), (.rints .u8 u.2.1), .nili]) [(some (.ints .u8 u.2.2))])
 | (.inr (.inr (.inl u))) => (fun p : AV × Blks => K p.1 p.2) (Prod.mk (.tup [(.agg [(.bool u.1), (.own 0 1), .snil]), (.own 1 1), (.errv 58 78 u.2.1)]) [(some (.ints .u8 u.2.2.1)), (some (.ints .u8 u.2.2.2))])
 | (.inr (.inr (.inr (.inl u)))) => (fun p : AV × Blks => K p.1 p.2) (Prod.mk (.tup [(.agg [(.bool u.1), (.own 0 1), .snil]), (.rints .u8 u.2.1), (.errv 58 78 u.2.2.1)]) [(some (.ints .u8 u.2.2.2))])
 | (.inr (.inr (.inr (.inr (.inl u))))) => (fun p : AV × Blks => K p.1 p.2) (Prod.mk (.tup [(.agg [(.bool u.1), .snil, (.own 0 3)]), (.rints .u8 u.2.1), (.errv 58 78 u.2.2.1)]) [(some (.objs 25 3 u.2.2.2))])
 | (.inr (.inr (.inr (.inr (.inr (.inl u)))))) => (fun p : AV × Blks => K p.1 p.2) (Prod.mk (.tup [(.agg [(.bool u.1), .snil, (.own 0 3)]), (.rints .u8 u.2.1), .nili]) [(some (.objs 25 3 u.2.2))])
 | (.inr (.inr (.inr (.inr (.inr (.inr u)))))) => (fun p : AV × Blks => K p.1 p.2) (Prod.mk (.tup [(.agg [(.bool u.1), .snil, .snil]), (.rints .u8 u.2), .nili]) [])
noncomputable def Fv.C (n : Nat) (self : (((List Int) × Int)) → Option (((Bool × (Nat × (List Int))) ⊕ ((Bool × ((List Int) × (List Int))) ⊕ ((Bool × (Nat × ((List Int) × (List Int)))) ⊕ ((Bool × ((List Int) × (Nat × (List Int)))) ⊕ ((Bool × ((List Int) × (Nat × (List AV)))) ⊕ ((Bool × ((List Int) × (List AV))) ⊕ (Bool × (List Int)))))))))) : Ctx := ⟨Tryd.prog, rlpG, fun f => match f with
 | 30 => some (Fs.c n)
 | 22 => some (Fb.c n)
 | 26 => some (.mk' [] [(some (.ints .u8)), none] Fv.pat self Fv.resK)
 | _ => none, fun t => t == 2000026 || t == 4000058⟩
def Fv.live : Nat → List Nat × List Nat := fun k => match k with
 | 14 => ([12, 10, 1, 13, 11, 4], [13, 11, 12, 4])
 | _ => ([], [])
def Fv.jlive : Nat → List Nat × List Nat := fun k => match k with
 | _ => ([], [])
def Fv.l14_0.r {α : Type} (mk0 : Nat → Bool → (List Int) → Bool → α) (n : Nat) (self : (((List Int) × Int)) → Option (((Bool × (Nat × (List Int))) ⊕ ((Bool × ((List Int) × (List Int))) ⊕ ((Bool × (Nat × ((List Int) × (List Int)))) ⊕ ((Bool × ((List Int) × (Nat × (List Int)))) ⊕ ((Bool × ((List Int) × (Nat × (List AV)))) ⊕ ((Bool × ((List Int) × (List AV))) ⊕ (Bool × (List Int)))))))))) (rc : Nat → Int → (List Int) → Bool → (List Int) → Bool → Option α)  (x0 : Nat) (x1 : Int) (x2 : (List Int)) (x3 : Bool) (x4 : (List Int)) (x5 : Bool) : Option α :=
  some (mk0 x0 x3 x4 x5)
def Fv.l14_0.g {α : Type} (mk0 : Nat → Bool → (List Int) → Bool → α) (n : Nat) (self : (((List Int) × Int)) → Option (((Bool × (Nat × (List Int))) ⊕ ((Bool × ((List Int) × (List Int))) ⊕ ((Bool × (Nat × ((List Int) × (List Int)))) ⊕ ((Bool × ((List Int) × (Nat × (List Int)))) ⊕ ((Bool × ((List Int) × (Nat × (List AV)))) ⊕ ((Bool × ((List Int) × (List AV))) ⊕ (Bool × (List Int)))))))))) : Nat → Nat → Int → (List Int) → Bool → (List Int) → Bool → Option α
 | 0, _, _, _, _, _, _ => none
 | m + 1, x0, x1, x2, x3, x4, x5 => Fv.l14_0.r mk0 n self (fun y0 y1 y2 y3 y4 y5 => Fv.l14_0.g mk0 n self m y0 y1 y2 y3 y4 y5)  x0 x1 x2 x3 x4 x5
def Fv.l14_0.m (n : Nat) (self : (((List Int) × Int)) → Option (((Bool × (Nat × (List Int))) ⊕ ((Bool × ((List Int) × (List Int))) ⊕ ((Bool × (Nat × ((List Int) × (List Int)))) ⊕ ((Bool × ((List Int) × (Nat × (List Int)))) ⊕ ((Bool × ((List Int) × (Nat × (List AV)))) ⊕ ((Bool × ((List Int) × (List AV))) ⊕ (Bool × (List Int)))))))))) (m : Nat) (t : (Nat × (Int × ((List Int) × (Bool × ((List Int) × Bool)))))) : Option (Nat × (Bool × ((List Int) × Bool))) := Fv.l14_0.g (fun a0 a1 a2 a3 => (a0, a1, a2, a3)) n self m t.1 t.2.1 t.2.2.1 t.2.2.2.1 t.2.2.2.2.1 t.2.2.2.2.2
def Fv.l14_0.pat : St → Option (Nat × (Int × ((List Int) × (Bool × ((List Int) × Bool)))))
 | (St.mk [(.errv 58 78 x0), (.own 0 1), (.int .i64 x1), (.ptr 1 []), (.own 2 1), (.ptr 3 [])] [(some (.ints .u8 x2)), (some (.var (.agg [(.bool x3), .snil, .snil]))), (some (.ints .u8 x4)), (some (.var (.agg [(.bool x5), .snil, .snil])))]) => some (x0, x1, x2, x3, x4, x5)
 | _ => none
def Fv.l14_0.shape (t : (Nat × (Int × ((List Int) × (Bool × ((List Int) × Bool)))))) : St := (St.mk [(.errv 58 78 t.1), (.own 0 1), (.int .i64 t.2.1), (.ptr 1 []), (.own 2 1), (.ptr 3 [])] [(some (.ints .u8 t.2.2.1)), (some (.var (.agg [(.bool t.2.2.2.1), .snil, .snil]))), (some (.ints .u8 t.2.2.2.2.1)), (some (.var (.agg [(.bool t.2.2.2.2.2), .snil, .snil])))])
def Fv.l14_0.res : (Nat × (Bool × ((List Int) × Bool))) → Ex × St
 | u => (Prod.mk (.exit 1) (St.mk [(.ptr 0 []), (.own 1 1), (.errv 58 78 u.1), (.ptr 2 [])] [(some (.var (.agg [(.bool u.2.1), .snil, .snil]))), (some (.ints .u8 u.2.2.1)), (some (.var (.agg [(.bool u.2.2.2), .snil, .snil])))]))
def Fv.l14_0.resK {R : Type} (u : (Nat × (Bool × ((List Int) × Bool)))) (K : Ex → St → Option R) : Option R := (fun p : Ex × St => K p.1 p.2) (Prod.mk (.exit 1) (St.mk [(.ptr 0 []), (.own 1 1), (.errv 58 78 u.1), (.ptr 2 [])] [(some (.var (.agg [(.bool u.2.1), .snil, .snil]))), (some (.ints .u8 u.2.2.1)), (some (.var (.agg [(.bool u.2.2.2), .snil, .snil])))]))
def Fv.l14v1_1.r {α : Type} (mk0 : (List Int) → Nat → Bool → Bool → (List AV) → α) (mk1 : (List Int) → Bool → Bool → (List AV) → α) (mk2 : (List Int) → Bool → Bool → α) (n : Nat) (self : (((List Int) × Int)) → Option (((Bool × (Nat × (List Int))) ⊕ ((Bool × ((List Int) × (List Int))) ⊕ ((Bool × (Nat × ((List Int) × (List Int)))) ⊕ ((Bool × ((List Int) × (Nat × (List Int)))) ⊕ ((Bool × ((List Int) × (Nat × (List AV)))) ⊕ ((Bool × ((List Int) × (List AV))) ⊕ (Bool × (List Int)))))))))) (rc : Nat → (List Int) → Int → (List Int) → Bool → Bool → (List AV) → Option α)  (x0 : Nat) (x1 : (List Int)) (x2 : Int) (x3 : (List Int)) (x4 : Bool) (x5 : Bool) (x6 : (List AV)) : Option α :=
  some (mk0 x3 x0 x4 x5 x6)
def Fv.l14v1_1.g {α : Type} (mk0 : (List Int) → Nat → Bool → Bool → (List AV) → α) (mk1 : (List Int) → Bool → Bool → (List AV) → α) (mk2 : (List Int) → Bool → Bool → α) (n : Nat) (self : (((List Int) × Int)) → Option (((Bool × (Nat × (List Int))) ⊕ ((Bool × ((List Int) × (List Int))) ⊕ ((Bool × (Nat × ((List Int) × (List Int)))) ⊕ ((Bool × ((List Int) × (Nat × (List Int)))) ⊕ ((Bool × ((List Int) × (Nat × (List AV)))) ⊕ ((Bool × ((List Int) × (List AV))) ⊕ (Bool × (List Int)))))))))) : Nat → Nat → (List Int) → Int → (List Int) → Bool → Bool → (List AV) → Option α
 | 0, _, _, _, _, _, _, _ => none
 | m + 1, x0, x1, x2, x3, x4, x5, x6 => Fv.l14v1_1.r mk0 mk1 mk2 n self (fun y0 y1 y2 y3 y4 y5 y6 => Fv.l14v1_1.g mk0 mk1 mk2 n self m y0 y1 y2 y3 y4 y5 y6)  x0 x1 x2 x3 x4 x5 x6
def Fv.l14v1_1.shape (t : (Nat × ((List Int) × (Int × ((List Int) × (Bool × (Bool × (List AV)))))))) : St := (St.mk [(.errv 58 78 t.1), (.rints .u8 t.2.1), (.int .i64 t.2.2.1), (.ptr 0 []), (.rints .u8 t.2.2.2.1), (.ptr 1 [])] [(some (.var (.agg [(.bool t.2.2.2.2.1), .snil, (.own 2 3)]))), (some (.var (.agg [(.bool t.2.2.2.2.2.1), .snil, .snil]))), (some (.objs 25 3 t.2.2.2.2.2.2))])
def Fv.l14v1_2.r {α : Type} (mk0 : (List Int) → Nat → Bool → Bool → (List AV) → α) (mk1 : (List Int) → Bool → Bool → (List AV) → α) (mk2 : (List Int) → Bool → Bool → α) (n : Nat) (self : (((List Int) × Int)) → Option (((Bool × (Nat × (List Int))) ⊕ ((Bool × ((List Int) × (List Int))) ⊕ ((Bool × (Nat × ((List Int) × (List Int)))) ⊕ ((Bool × ((List Int) × (Nat × (List Int)))) ⊕ ((Bool × ((List Int) × (Nat × (List AV)))) ⊕ ((Bool × ((List Int) × (List AV))) ⊕ (Bool × (List Int)))))))))) (rc : (List Int) → Int → (List Int) → Bool → Bool → (List AV) → Option α) (rc0 : Nat → (List Int) → Int → (List Int) → Bool → Bool → (List AV) → Option α) (x0 : (List Int)) (x1 : Int) (x2 : (List Int)) (x3 : Bool) (x4 : Bool) (x5 : (List AV)) : Option α :=
  if (decide ((((List.length x0) : Nat) : Int) > 0)) = true then
   bindO (self (Prod.mk x0 (IntKind.wrap .i64 (x1 + 1)))) fun r6 => match r6 with
    | (.inl r6) =>
     if ((((List.length x5) + 1) * 56) ≤ 70368744177664 ∧ ((List.length x5) + 1) ≤ 9223372036854775807) then
      rc0 (((Prod.fst r6.2) % 100) + 100) (Prod.snd r6.2) x1 x2 x3 x4 (x5 ++ [(AV.agg [(AV.bool (Prod.fst r6)), AV.snil, AV.snil])])
     else
      none
    | (.inr (.inl r6)) =>
     if ((((List.length x5) + 1) * 56) ≤ 70368744177664 ∧ ((List.length x5) + 1) ≤ 9223372036854775807) then
      rc (Prod.fst r6.2) x1 x2 x3 x4 (x5 ++ [(AV.agg [(AV.bool (Prod.fst r6)), (AV.rints .u8 (Prod.snd r6.2)), AV.snil])])
     else
      none
    | (.inr (.inr (.inl r6))) =>
     if ((((List.length x5) + 1) * 56) ≤ 70368744177664 ∧ ((List.length x5) + 1) ≤ 9223372036854775807) then
      rc0 (((Prod.fst r6.2) % 100) + 100) (Prod.snd (Prod.snd r6).2) x1 x2 x3 x4 (x5 ++ [(AV.agg [(AV.bool (Prod.fst r6)), (AV.rints .u8 (Prod.fst (Prod.snd r6).2)), AV.snil])])
     else
      none
    | (.inr (.inr (.inr (.inl r6)))) =>
     if ((((List.length x5) + 1) * 56) ≤ 70368744177664 ∧ ((List.length x5) + 1) ≤ 9223372036854775807) then
      rc0 (((Prod.fst (Prod.snd r6).2) % 100) + 100) (Prod.fst r6.2) x1 x2 x3 x4 (x5 ++ [(AV.agg [(AV.bool (Prod.fst r6)), (AV.rints .u8 (Prod.snd (Prod.snd r6).2)), AV.snil])])
     else
      none
    | (.inr (.inr (.inr (.inr (.inl r6))))) =>
     if ((((List.length x5) + 1) * 56) ≤ 70368744177664 ∧ ((List.length x5) + 1) ≤ 9223372036854775807) then
      rc0 (((Prod.fst (Prod.snd r6).2) % 100) + 100) (Prod.fst r6.2) x1 x2 x3 x4 (x5 ++ [(AV.agg [(AV.bool (Prod.fst r6)), AV.snil, (AV.robjs 25 3 (Prod.snd (Prod.snd r6).2))])])
     else
      none
    | (.inr (.inr (.inr (.inr (.inr (.inl r6)))))) =>
     if ((((List.length x5) + 1) * 56) ≤ 70368744177664 ∧ ((List.length x5) + 1) ≤ 9223372036854775807) then
      rc (Prod.fst r6.2) x1 x2 x3 x4 (x5 ++ [(AV.agg [(AV.bool (Prod.fst r6)), AV.snil, (AV.robjs 25 3 (Prod.snd r6.2))])])
     else
      none
    | (.inr (.inr (.inr (.inr (.inr (.inr r6)))))) =>
     if ((((List.length x5) + 1) * 56) ≤ 70368744177664 ∧ ((List.length x5) + 1) ≤ 9223372036854775807) then
      rc (Prod.snd r6) x1 x2 x3 x4 (x5 ++ [(AV.agg [(AV.bool (Prod.fst r6)), AV.snil, AV.snil])])
     else
      none
  else
   some (mk1 x2 x3 x4 x5)
def Fv.l14v1_2.g {α : Type} (mk0 : (List Int) → Nat → Bool → Bool → (List AV) → α) (mk1 : (List Int) → Bool → Bool → (List AV) → α) (mk2 : (List Int) → Bool → Bool → α) (n : Nat) (self : (((List Int) × Int)) → Option (((Bool × (Nat × (List Int))) ⊕ ((Bool × ((List Int) × (List Int))) ⊕ ((Bool × (Nat × ((List Int) × (List Int)))) ⊕ ((Bool × ((List Int) × (Nat × (List Int)))) ⊕ ((Bool × ((List Int) × (Nat × (List AV)))) ⊕ ((Bool × ((List Int) × (List AV))) ⊕ (Bool × (List Int)))))))))) : Nat → (List Int) → Int → (List Int) → Bool → Bool → (List AV) → Option α
 | 0, _, _, _, _, _, _ => none
 | m + 1, x0, x1, x2, x3, x4, x5 => Fv.l14v1_2.r mk0 mk1 mk2 n self (fun y0 y1 y2 y3 y4 y5 => Fv.l14v1_2.g mk0 mk1 mk2 n self m y0 y1 y2 y3 y4 y5) (fun y0 y1 y2 y3 y4 y5 y6 => Fv.l14v1_1.g mk0 mk1 mk2 n self m y0 y1 y2 y3 y4 y5 y6) x0 x1 x2 x3 x4 x5
def Fv.l14v1_2.shape (t : ((List Int) × (Int × ((List Int) × (Bool × (Bool × (List AV))))))) : St := (St.mk [.nili, (.rints .u8 t.1), (.int .i64 t.2.1), (.ptr 0 []), (.rints .u8 t.2.2.1), (.ptr 1 [])] [(some (.var (.agg [(.bool t.2.2.2.1), .snil, (.own 2 3)]))), (some (.var (.agg [(.bool t.2.2.2.2.1), .snil, .snil]))), (some (.objs 25 3 t.2.2.2.2.2))])
def Fv.l14v1_0.r {α : Type} (mk0 : (List Int) → Nat → Bool → Bool → (List AV) → α) (mk1 : (List Int) → Bool → Bool → (List AV) → α) (mk2 : (List Int) → Bool → Bool → α) (n : Nat) (self : (((List Int) × Int)) → Option (((Bool × (Nat × (List Int))) ⊕ ((Bool × ((List Int) × (List Int))) ⊕ ((Bool × (Nat × ((List Int) × (List Int)))) ⊕ ((Bool × ((List Int) × (Nat × (List Int)))) ⊕ ((Bool × ((List Int) × (Nat × (List AV)))) ⊕ ((Bool × ((List Int) × (List AV))) ⊕ (Bool × (List Int)))))))))) (rc : (List Int) → Int → (List Int) → Bool → Bool → Option α) (rc0 : Nat → (List Int) → Int → (List Int) → Bool → Bool → (List AV) → Option α) (rc1 : (List Int) → Int → (List Int) → Bool → Bool → (List AV) → Option α) (x0 : (List Int)) (x1 : Int) (x2 : (List Int)) (x3 : Bool) (x4 : Bool) : Option α :=
  if (decide ((((List.length x0) : Nat) : Int) > 0)) = true then
   bindO (self (Prod.mk x0 (IntKind.wrap .i64 (x1 + 1)))) fun r6 => match r6 with
    | (.inl r6) =>
     rc0 (((Prod.fst r6.2) % 100) + 100) (Prod.snd r6.2) x1 x2 x3 x4 [(AV.agg [(AV.bool (Prod.fst r6)), AV.snil, AV.snil])]
    | (.inr (.inl r6)) =>
     rc1 (Prod.fst r6.2) x1 x2 x3 x4 [(AV.agg [(AV.bool (Prod.fst r6)), (AV.rints .u8 (Prod.snd r6.2)), AV.snil])]
    | (.inr (.inr (.inl r6))) =>
     rc0 (((Prod.fst r6.2) % 100) + 100) (Prod.snd (Prod.snd r6).2) x1 x2 x3 x4 [(AV.agg [(AV.bool (Prod.fst r6)), (AV.rints .u8 (Prod.fst (Prod.snd r6).2)), AV.snil])]
    | (.inr (.inr (.inr (.inl r6)))) =>
     rc0 (((Prod.fst (Prod.snd r6).2) % 100) + 100) (Prod.fst r6.2) x1 x2 x3 x4 [(AV.agg [(AV.bool (Prod.fst r6)), (AV.rints .u8 (Prod.snd (Prod.snd r6).2)), AV.snil])]
    | (.inr (.inr (.inr (.inr (.inl r6))))) =>
     rc0 (((Prod.fst (Prod.snd r6).2) % 100) + 100) (Prod.fst r6.2) x1 x2 x3 x4 [(AV.agg [(AV.bool (Prod.fst r6)), AV.snil, (AV.robjs 25 3 (Prod.snd (Prod.snd r6).2))])]
    | (.inr (.inr (.inr (.inr (.inr (.inl r6)))))) =>
     rc1 (Prod.fst r6.2) x1 x2 x3 x4 [(AV.agg [(AV.bool (Prod.fst r6)), AV.snil, (AV.robjs 25 3 (Prod.snd r6.2))])]
    | (.inr (.inr (.inr (.inr (.inr (.inr r6)))))) =>
     rc1 (Prod.snd r6) x1 x2 x3 x4 [(AV.agg [(AV.bool (Prod.fst r6)), AV.snil, AV.snil])]
  else
   some (mk2 x2 x3 x4)
def Fv.l14v1_0.g {α : Type} (mk0 : (List Int) → Nat → Bool → Bool → (List AV) → α) (mk1 : (List Int) → Bool → Bool → (List AV) → α) (mk2 : (List Int) → Bool → Bool → α) (n : Nat) (self : (((List Int) × Int)) → Option (((Bool × (Nat × (List Int))) ⊕ ((Bool × ((List Int) × (List Int))) ⊕ ((Bool × (Nat × ((List Int) × (List Int)))) ⊕ ((Bool × ((List Int) × (Nat × (List Int)))) ⊕ ((Bool × ((List Int) × (Nat × (List AV)))) ⊕ ((Bool × ((List Int) × (List AV))) ⊕ (Bool × (List Int)))))))))) : Nat → (List Int) → Int → (List Int) → Bool → Bool → Option α
 | 0, _, _, _, _, _ => none
 | m + 1, x0, x1, x2, x3, x4 => Fv.l14v1_0.r mk0 mk1 mk2 n self (fun y0 y1 y2 y3 y4 => Fv.l14v1_0.g mk0 mk1 mk2 n self m y0 y1 y2 y3 y4) (fun y0 y1 y2 y3 y4 y5 y6 => Fv.l14v1_1.g mk0 mk1 mk2 n self m y0 y1 y2 y3 y4 y5 y6) (fun y0 y1 y2 y3 y4 y5 => Fv.l14v1_2.g mk0 mk1 mk2 n self m y0 y1 y2 y3 y4 y5) x0 x1 x2 x3 x4
def Fv.l14v1_0.m (n : Nat) (self : (((List Int) × Int)) → Option (((Bool × (Nat × (List Int))) ⊕ ((Bool × ((List Int) × (List Int))) ⊕ ((Bool × (Nat × ((List Int) × (List Int)))) ⊕ ((Bool × ((List Int) × (Nat × (List Int)))) ⊕ ((Bool × ((List Int) × (Nat × (List AV)))) ⊕ ((Bool × ((List Int) × (List AV))) ⊕ (Bool × (List Int)))))))))) (m : Nat) (t : ((List Int) × (Int × ((List Int) × (Bool × Bool))))) : Option (((List Int) × (Nat × (Bool × (Bool × (List AV))))) ⊕ (((List Int) × (Bool × (Bool × (List AV)))) ⊕ ((List Int) × (Bool × Bool)))) := Fv.l14v1_0.g (fun a0 a1 a2 a3 a4 => (.inl (a0, a1, a2, a3, a4))) (fun a0 a1 a2 a3 => (.inr (.inl (a0, a1, a2, a3)))) (fun a0 a1 a2 => (.inr (.inr (a0, a1, a2)))) n self m t.1 t.2.1 t.2.2.1 t.2.2.2.1 t.2.2.2.2
def Fv.l14v1_0.pat : St → Option ((List Int) × (Int × ((List Int) × (Bool × Bool))))
 | (St.mk [.nili, (.rints .u8 x0), (.int .i64 x1), (.ptr 0 []), (.rints .u8 x2), (.ptr 1 [])] [(some (.var (.agg [(.bool x3), .snil, .snil]))), (some (.var (.agg [(.bool x4), .snil, .snil])))]) => some (x0, x1, x2, x3, x4)
 | _ => none
def Fv.l14v1_0.shape (t : ((List Int) × (Int × ((List Int) × (Bool × Bool))))) : St := (St.mk [.nili, (.rints .u8 t.1), (.int .i64 t.2.1), (.ptr 0 []), (.rints .u8 t.2.2.1), (.ptr 1 [])] [(some (.var (.agg [(.bool t.2.2.2.1), .snil, .snil]))), (some (.var (.agg [(.bool t.2.2.2.2), .snil, .snil])))])
def Fv.l14v1_0.res : (((List Int) × (Nat × (Bool × (Bool × (List AV))))) ⊕ (((List Int) × (Bool × (Bool × (List AV)))) ⊕ ((List Int) × (Bool × Bool)))) → Ex × St
 | (.inl u) => (Prod.mk (.exit 1) (St.mk [(.ptr 0 []), (.rints .u8 u.1), (.errv 58 78 u.2.1), (.ptr 1 [])] [(some (.var (.agg [(.bool u.2.2.1), .snil, (.own 2 3)]))), (some (.var (.agg [(.bool u.2.2.2.1), .snil, .snil]))), (some (.objs 25 3 u.2.2.2.2))]))
 | (.inr (.inl u)) => (Prod.mk (.exit 1) (St.mk [(.ptr 0 []), (.rints .u8 u.1), .nili, (.ptr 1 [])] [(some (.var (.agg [(.bool u.2.1), .snil, (.own 2 3)]))), (some (.var (.agg [(.bool u.2.2.1), .snil, .snil]))), (some (.objs 25 3 u.2.2.2))]))
 | (.inr (.inr u)) => (Prod.mk (.exit 1) (St.mk [(.ptr 0 []), (.rints .u8 u.1), .nili, (.ptr 1 [])] [(some (.var (.agg [(.bool u.2.1), .snil, .snil]))), (some (.var (.agg [(.bool u.2.2), .snil, .snil])))]))
def Fv.l14v1_0.resK {R : Type} (u : (((List Int) × (Nat × (Bool × (Bool × (List AV))))) ⊕ (((List Int) × (Bool × (Bool × (List AV)))) ⊕ ((List Int) × (Bool × Bool))))) (K : Ex → St → Option R) : Option R := match u with
 | (.inl u) => (fun p : Ex × St => K p.1 p.2) (Prod.mk (.exit 1) (St.mk [(.ptr 0 []), (.rints .u8 u.1), (.errv 58 78 u.2.1), (.ptr 1 [])] [(some (.var (.agg [(.bool u.2.2.1), .snil, (.own 2 3)]))), (some (.var (.agg [(.bool u.2.2.2.1), .snil, .snil]))), (some (.objs 25 3 u.2.2.2.2))]))
 | (.inr (.inl u)) => (fun p : Ex × St => K p.1 p.2) (Prod.mk (.exit 1) (St.mk [(.ptr 0 []), (.rints .u8 u.1), .nili, (.ptr 1 [])] [(some (.var (.agg [(.bool u.2.1), .snil, (.own 2 3)]))), (some (.var (.agg [(.bool u.2.2.1), .snil, .snil]))), (some (.objs 25 3 u.2.2.2))]))
 | (.inr (.inr u)) => (fun p : Ex × St => K p.1 p.2) (Prod.mk (.exit 1) (St.mk [(.ptr 0 []), (.rints .u8 u.1), .nili, (.ptr 1 [])] [(some (.var (.agg [(.bool u.2.1), .snil, .snil]))), (some (.var (.agg [(.bool u.2.2), .snil, .snil])))]))
noncomputable def Fv.A (n : Nat) (self : (((List Int) × Int)) → Option (((Bool × (Nat × (List Int))) ⊕ ((Bool × ((List Int) × (List Int))) ⊕ ((Bool × (Nat × ((List Int) × (List Int)))) ⊕ ((Bool × ((List Int) × (Nat × (List Int)))) ⊕ ((Bool × ((List Int) × (Nat × (List AV)))) ⊕ ((Bool × ((List Int) × (List AV))) ⊕ (Bool × (List Int)))))))))) : Ann := ⟨Tryd.f26.ntmps, 0, Fv.live, [(10, (.ints .u8)), (11, (.ints .u8))], [none, (some (.ints .u8)), none], fun k => match k with
 | 14 => some (.alt Fv.l14_0.pat (.mk' Fv.l14_0.pat (Fv.l14_0.m n self n) Fv.l14_0.resK) (.mk' Fv.l14v1_0.pat (Fv.l14v1_0.m n self n) Fv.l14v1_0.resK))
 | _ => none, Fv.jlive, lookJ []⟩
noncomputable def Fv.b0 : Code := (loopsIn (Tryd.f26.body.getD .skip)).getD 0 .skip
def Fv.g {α : Type} (mk0 : Bool → Nat → (List Int) → α) (mk1 : Bool → (List Int) → (List Int) → α) (mk2 : Bool → Nat → (List Int) → (List Int) → α) (mk3 : Bool → (List Int) → Nat → (List Int) → α) (mk4 : Bool → (List Int) → Nat → (List AV) → α) (mk5 : Bool → (List Int) → (List AV) → α) (mk6 : Bool → (List Int) → α) (n : Nat) (self : (((List Int) × Int)) → Option (((Bool × (Nat × (List Int))) ⊕ ((Bool × ((List Int) × (List Int))) ⊕ ((Bool × (Nat × ((List Int) × (List Int)))) ⊕ ((Bool × ((List Int) × (Nat × (List Int)))) ⊕ ((Bool × ((List Int) × (Nat × (List AV)))) ⊕ ((Bool × ((List Int) × (List AV))) ⊕ (Bool × (List Int)))))))))) (a0 : (List Int)) (a1 : Int) : Option α :=
 if (decide (a1 > 64)) = true then
  some (mk0 false 2 [])
 else
  if ((((List.length a0) : Nat) : Int) == 0) = true then
   some (mk0 false 0 [])
  else
   if 0 < (((List.length a0) : Nat) : Int) then
    if (decide ((List.getD a0 0 0) < 128)) = true then
     if 0 < (((List.length a0) : Nat) : Int) then
      if 1 ≤ (((List.length a0) : Nat) : Int) then
       some (mk1 false (Go.Abs.cut a0 1 (Option.none)) [(List.getD a0 0 0)])
      else
       none
     else
      none
    else
     if 0 < (((List.length a0) : Nat) : Int) then
      if (decide ((List.getD a0 0 0) < 192)) = true then
       bindO (Fs.m n (Prod.mk a0 128)) fun r14 => match r14 with
        | (.inl r14) =>
         bindO (Fb.m n (Prod.fst r14.2)) fun r18 =>
          some (mk2 false (Prod.fst r14) r18 (Prod.snd r14.2))
        | (.inr r14) =>
         if ((((List.length (Prod.fst r14)) : Nat) : Int) == 1) = true then
          if 0 < (((List.length (Prod.fst r14)) : Nat) : Int) then
           if (decide ((List.getD (Prod.fst r14) 0 0) < 128)) = true then
            bindO (Fb.m n (Prod.fst r14)) fun r24 =>
             some (mk3 false (Prod.snd r14) 1 r24)
           else
            bindO (Fb.m n (Prod.fst r14)) fun r24 =>
             some (mk1 false (Prod.snd r14) r24)
          else
           none
         else
          bindO (Fb.m n (Prod.fst r14)) fun r20 =>
           some (mk1 false (Prod.snd r14) r20)
      else
       bindO (Fs.m n (Prod.mk a0 192)) fun r14 => match r14 with
        | (.inl r14) =>
         bindO (Fv.l14_0.m n self n ((Prod.fst r14), a1, (Prod.fst r14.2), true, (Prod.snd r14.2), false)) fun r18 =>
          some (mk0 (Prod.fst r18.2) (Prod.fst r18) (Prod.fst (Prod.snd r18).2))
        | (.inr r14) =>
         bindO (Fv.l14v1_0.m n self n ((Prod.fst r14), a1, (Prod.snd r14), true, false)) fun r18 => match r18 with
          | (.inl r18) =>
           some (mk4 (Prod.fst (Prod.snd r18).2) (Prod.fst r18) (Prod.fst r18.2) (Prod.snd (Prod.snd r18.2).2))
          | (.inr (.inl r18)) =>
           some (mk5 (Prod.fst r18.2) (Prod.fst r18) (Prod.snd (Prod.snd r18).2))
          | (.inr (.inr r18)) =>
           some (mk6 (Prod.fst r18.2) (Prod.fst r18))
     else
      none
   else
    none
def Fv.h (n : Nat) (self : (((List Int) × Int)) → Option (((Bool × (Nat × (List Int))) ⊕ ((Bool × ((List Int) × (List Int))) ⊕ ((Bool × (Nat × ((List Int) × (List Int)))) ⊕ ((Bool × ((List Int) × (Nat × (List Int)))) ⊕ ((Bool × ((List Int) × (Nat × (List AV)))) ⊕ ((Bool × ((List Int) × (List AV))) ⊕ (Bool × (List Int)))))))))) (t : ((List Int) × Int)) : Option ((Bool × (Nat × (List Int))) ⊕ ((Bool × ((List Int) × (List Int))) ⊕ ((Bool × (Nat × ((List Int) × (List Int)))) ⊕ ((Bool × ((List Int) × (Nat × (List Int)))) ⊕ ((Bool × ((List Int) × (Nat × (List AV)))) ⊕ ((Bool × ((List Int) × (List AV))) ⊕ (Bool × (List Int)))))))) := Fv.g (fun a0 a1 a2 => (.inl (a0, a1, a2))) (fun a0 a1 a2 => (.inr (.inl (a0, a1, a2)))) (fun a0 a1 a2 a3 => (.inr (.inr (.inl (a0, a1, a2, a3))))) (fun a0 a1 a2 a3 => (.inr (.inr (.inr (.inl (a0, a1, a2, a3)))))) (fun a0 a1 a2 a3 => (.inr (.inr (.inr (.inr (.inl (a0, a1, a2, a3))))))) (fun a0 a1 a2 => (.inr (.inr (.inr (.inr (.inr (.inl (a0, a1, a2)))))))) (fun a0 a1 => (.inr (.inr (.inr (.inr (.inr (.inr (a0, a1)))))))) n self t.1 t.2
def Fv.mr (n : Nat) : Nat → (((List Int) × Int)) → Option (((Bool × (Nat × (List Int))) ⊕ ((Bool × ((List Int) × (List Int))) ⊕ ((Bool × (Nat × ((List Int) × (List Int)))) ⊕ ((Bool × ((List Int) × (Nat × (List Int)))) ⊕ ((Bool × ((List Int) × (Nat × (List AV)))) ⊕ ((Bool × ((List Int) × (List AV))) ⊕ (Bool × (List Int)))))))))
 | 0, _ => none
 | d + 1, t => Fv.h n (Fv.mr n d) t
def Fv.m (n : Nat) (t : ((List Int) × Int)) : Option (((Bool × (Nat × (List Int))) ⊕ ((Bool × ((List Int) × (List Int))) ⊕ ((Bool × (Nat × ((List Int) × (List Int)))) ⊕ ((Bool × ((List Int) × (Nat × (List Int)))) ⊕ ((Bool × ((List Int) × (Nat × (List AV)))) ⊕ ((Bool × ((List Int) × (List AV))) ⊕ (Bool × (List Int))))))))) := Fv.mr n n t
def Fv.c (n : Nat) : Abs.Callee := .mk' [] [(some (.ints .u8)), none] Fv.pat (Fv.m n) Fv.resK
end
end
section
theorem Fv.l14_0.rmap {α β : Type} (h : β → α) (mk0 : Nat → Bool → (List Int) → Bool → β) (n : Nat) (self : (((List Int) × Int)) → Option (((Bool × (Nat × (List Int))) ⊕ ((Bool × ((List Int) × (List Int))) ⊕ ((Bool × (Nat × ((List Int) × (List Int)))) ⊕ ((Bool × ((List Int) × (Nat × (List Int)))) ⊕ ((Bool × ((List Int) × (Nat × (List AV)))) ⊕ ((Bool × ((List Int) × (List AV))) ⊕ (Bool × (List Int)))))))))) (f : Nat → Int → (List Int) → Bool → (List Int) → Bool → Option β)  (x0 : Nat) (x1 : Int) (x2 : (List Int)) (x3 : Bool) (x4 : (List Int)) (x5 : Bool) : Fv.l14_0.r (fun a0 a1 a2 a3 => (h (mk0 a0 a1 a2 a3))) n self (fun y0 y1 y2 y3 y4 y5 => (f y0 y1 y2 y3 y4 y5).map h) x0 x1 x2 x3 x4 x5 = (Fv.l14_0.r mk0 n self f x0 x1 x2 x3 x4 x5).map h := by
  unfold Fv.l14_0.r
  exact rfl
theorem Fv.l14_0.gmap {α β : Type} (h : β → α) (mk0 : Nat → Bool → (List Int) → Bool → β) (n : Nat) (self : (((List Int) × Int)) → Option (((Bool × (Nat × (List Int))) ⊕ ((Bool × ((List Int) × (List Int))) ⊕ ((Bool × (Nat × ((List Int) × (List Int)))) ⊕ ((Bool × ((List Int) × (Nat × (List Int)))) ⊕ ((Bool × ((List Int) × (Nat × (List AV)))) ⊕ ((Bool × ((List Int) × (List AV))) ⊕ (Bool × (List Int)))))))))) : ∀ (m : Nat) (x0 : Nat) (x1 : Int) (x2 : (List Int)) (x3 : Bool) (x4 : (List Int)) (x5 : Bool), Fv.l14_0.g (fun a0 a1 a2 a3 => (h (mk0 a0 a1 a2 a3))) n self m x0 x1 x2 x3 x4 x5 = (Fv.l14_0.g mk0 n self m x0 x1 x2 x3 x4 x5).map h
  | 0, _, _, _, _, _, _ => rfl
  | m + 1, x0, x1, x2, x3, x4, x5 => by
    unfold Fv.l14_0.g
    rw [← Fv.l14_0.rmap]
    congr
    · funext y0 y1 y2 y3 y4 y5; exact Fv.l14_0.gmap h mk0 n self m y0 y1 y2 y3 y4 y5
theorem Fv.l14_0.pat_shape : ∀ st t, Fv.l14_0.pat st = some t → st = Fv.l14_0.shape t := by
  intro st t h
  unfold Fv.l14_0.pat at h
  split at h
  · cases h; rfl
  · cases h
theorem Fv.l14_0.round (n : Nat) (self : (((List Int) × Int)) → Option (((Bool × (Nat × (List Int))) ⊕ ((Bool × ((List Int) × (List Int))) ⊕ ((Bool × (Nat × ((List Int) × (List Int)))) ⊕ ((Bool × ((List Int) × (Nat × (List Int)))) ⊕ ((Bool × ((List Int) × (Nat × (List AV)))) ⊕ ((Bool × ((List Int) × (List AV))) ⊕ (Bool × (List Int)))))))))) (rc : St → Option (Ex × St)) (x0 : Nat) (x1 : Int) (x2 : (List Int)) (x3 : Bool) (x4 : (List Int)) (x5 : Bool) : roundOf (Fv.C n self) (Fv.A n self) n Fv.b0 rc ((St.mk [(.errv 58 78 x0), (.own 0 1), (.int .i64 x1), (.ptr 1 []), (.own 2 1), (.ptr 3 [])] [(some (.ints .u8 x2)), (some (.var (.agg [(.bool x3), .snil, .snil]))), (some (.ints .u8 x4)), (some (.var (.agg [(.bool x5), .snil, .snil])))])) = Fv.l14_0.r (fun a0 a1 a2 a3 => ((Prod.mk (.exit 1) (St.mk [(.ptr 0 []), (.own 1 1), (.errv 58 78 a0), (.ptr 2 [])] [(some (.var (.agg [(.bool a1), .snil, .snil]))), (some (.ints .u8 a2)), (some (.var (.agg [(.bool a3), .snil, .snil])))])) : Ex × St)) n self (fun y0 y1 y2 y3 y4 y5 => rc ((St.mk [(.errv 58 78 y0), (.own 0 1), (.int .i64 y1), (.ptr 1 []), (.own 2 1), (.ptr 3 [])] [(some (.ints .u8 y2)), (some (.var (.agg [(.bool y3), .snil, .snil]))), (some (.ints .u8 y4)), (some (.var (.agg [(.bool y5), .snil, .snil])))]))) x0 x1 x2 x3 x4 x5 := by kernel_rfl
theorem Fv.l14_0.loop' (n : Nat) (self : (((List Int) × Int)) → Option (((Bool × (Nat × (List Int))) ⊕ ((Bool × ((List Int) × (List Int))) ⊕ ((Bool × (Nat × ((List Int) × (List Int)))) ⊕ ((Bool × ((List Int) × (Nat × (List Int)))) ⊕ ((Bool × ((List Int) × (Nat × (List AV)))) ⊕ ((Bool × ((List Int) × (List AV))) ⊕ (Bool × (List Int)))))))))) : ∀ (m : Nat) (t : (Nat × (Int × ((List Int) × (Bool × ((List Int) × Bool)))))), loopOf (roundOf (Fv.C n self) (Fv.A n self) n Fv.b0) m (Fv.l14_0.shape t) = Fv.l14_0.g (fun a0 a1 a2 a3 => ((Prod.mk (.exit 1) (St.mk [(.ptr 0 []), (.own 1 1), (.errv 58 78 a0), (.ptr 2 [])] [(some (.var (.agg [(.bool a1), .snil, .snil]))), (some (.ints .u8 a2)), (some (.var (.agg [(.bool a3), .snil, .snil])))])) : Ex × St)) n self m t.1 t.2.1 t.2.2.1 t.2.2.2.1 t.2.2.2.2.1 t.2.2.2.2.2 :=
  loop_of_round (shape := Fv.l14_0.shape) (body := roundOf (Fv.C n self) (Fv.A n self) n Fv.b0) (g := fun m t => Fv.l14_0.g (fun a0 a1 a2 a3 => ((Prod.mk (.exit 1) (St.mk [(.ptr 0 []), (.own 1 1), (.errv 58 78 a0), (.ptr 2 [])] [(some (.var (.agg [(.bool a1), .snil, .snil]))), (some (.ints .u8 a2)), (some (.var (.agg [(.bool a3), .snil, .snil])))])) : Ex × St)) n self m t.1 t.2.1 t.2.2.1 t.2.2.2.1 t.2.2.2.2.1 t.2.2.2.2.2) (fun t => rfl)
    fun m t ih => (Fv.l14_0.round n self (loopOf (roundOf (Fv.C n self) (Fv.A n self) n Fv.b0) m) t.1 t.2.1 t.2.2.1 t.2.2.2.1 t.2.2.2.2.1 t.2.2.2.2.2).trans (congrFun (congrFun (congrFun (congrFun (congrFun (congrFun (congrArg (Fv.l14_0.r (fun a0 a1 a2 a3 => ((Prod.mk (.exit 1) (St.mk [(.ptr 0 []), (.own 1 1), (.errv 58 78 a0), (.ptr 2 [])] [(some (.var (.agg [(.bool a1), .snil, .snil]))), (some (.ints .u8 a2)), (some (.var (.agg [(.bool a3), .snil, .snil])))])) : Ex × St)) n self) (funext fun y0 => funext fun y1 => funext fun y2 => funext fun y3 => funext fun y4 => funext fun y5 => ih (y0, y1, y2, y3, y4, y5))) t.1) t.2.1) t.2.2.1) t.2.2.2.1) t.2.2.2.2.1) t.2.2.2.2.2)
theorem Fv.l14_0.loop (n : Nat) (self : (((List Int) × Int)) → Option (((Bool × (Nat × (List Int))) ⊕ ((Bool × ((List Int) × (List Int))) ⊕ ((Bool × (Nat × ((List Int) × (List Int)))) ⊕ ((Bool × ((List Int) × (Nat × (List Int)))) ⊕ ((Bool × ((List Int) × (Nat × (List AV)))) ⊕ ((Bool × ((List Int) × (List AV))) ⊕ (Bool × (List Int)))))))))) (m : Nat) (t : (Nat × (Int × ((List Int) × (Bool × ((List Int) × Bool)))))) : loopOf (roundOf (Fv.C n self) (Fv.A n self) n Fv.b0) m (Fv.l14_0.shape t) = (Fv.l14_0.m n self m t).map Fv.l14_0.res :=
  (Fv.l14_0.loop' n self m t).trans (Fv.l14_0.gmap Fv.l14_0.res (fun a0 a1 a2 a3 => (a0, a1, a2, a3)) n self m t.1 t.2.1 t.2.2.1 t.2.2.2.1 t.2.2.2.2.1 t.2.2.2.2.2)
theorem Fv.l14v1_1.rmap {α β : Type} (h : β → α) (mk0 : (List Int) → Nat → Bool → Bool → (List AV) → β) (mk1 : (List Int) → Bool → Bool → (List AV) → β) (mk2 : (List Int) → Bool → Bool → β) (n : Nat) (self : (((List Int) × Int)) → Option (((Bool × (Nat × (List Int))) ⊕ ((Bool × ((List Int) × (List Int))) ⊕ ((Bool × (Nat × ((List Int) × (List Int)))) ⊕ ((Bool × ((List Int) × (Nat × (List Int)))) ⊕ ((Bool × ((List Int) × (Nat × (List AV)))) ⊕ ((Bool × ((List Int) × (List AV))) ⊕ (Bool × (List Int)))))))))) (f : Nat → (List Int) → Int → (List Int) → Bool → Bool → (List AV) → Option β)  (x0 : Nat) (x1 : (List Int)) (x2 : Int) (x3 : (List Int)) (x4 : Bool) (x5 : Bool) (x6 : (List AV)) : Fv.l14v1_1.r (fun a0 a1 a2 a3 a4 => (h (mk0 a0 a1 a2 a3 a4))) (fun a0 a1 a2 a3 => (h (mk1 a0 a1 a2 a3))) (fun a0 a1 a2 => (h (mk2 a0 a1 a2))) n self (fun y0 y1 y2 y3 y4 y5 y6 => (f y0 y1 y2 y3 y4 y5 y6).map h) x0 x1 x2 x3 x4 x5 x6 = (Fv.l14v1_1.r mk0 mk1 mk2 n self f x0 x1 x2 x3 x4 x5 x6).map h := by
  unfold Fv.l14v1_1.r
  exact rfl
theorem Fv.l14v1_1.gmap {α β : Type} (h : β → α) (mk0 : (List Int) → Nat → Bool → Bool → (List AV) → β) (mk1 : (List Int) → Bool → Bool → (List AV) → β) (mk2 : (List Int) → Bool → Bool → β) (n : Nat) (self : (((List Int) × Int)) → Option (((Bool × (Nat × (List Int))) ⊕ ((Bool × ((List Int) × (List Int))) ⊕ ((Bool × (Nat × ((List Int) × (List Int)))) ⊕ ((Bool × ((List Int) × (Nat × (List Int)))) ⊕ ((Bool × ((List Int) × (Nat × (List AV)))) ⊕ ((Bool × ((List Int) × (List AV))) ⊕ (Bool × (List Int)))))))))) : ∀ (m : Nat) (x0 : Nat) (x1 : (List Int)) (x2 : Int) (x3 : (List Int)) (x4 : Bool) (x5 : Bool) (x6 : (List AV)), Fv.l14v1_1.g (fun a0 a1 a2 a3 a4 => (h (mk0 a0 a1 a2 a3 a4))) (fun a0 a1 a2 a3 => (h (mk1 a0 a1 a2 a3))) (fun a0 a1 a2 => (h (mk2 a0 a1 a2))) n self m x0 x1 x2 x3 x4 x5 x6 = (Fv.l14v1_1.g mk0 mk1 mk2 n self m x0 x1 x2 x3 x4 x5 x6).map h
  | 0, _, _, _, _, _, _, _ => rfl
  | m + 1, x0, x1, x2, x3, x4, x5, x6 => by
    unfold Fv.l14v1_1.g
    rw [← Fv.l14v1_1.rmap]
    congr
    · funext y0 y1 y2 y3 y4 y5 y6; exact Fv.l14v1_1.gmap h mk0 mk1 mk2 n self m y0 y1 y2 y3 y4 y5 y6
theorem Fv.l14v1_1.round (n : Nat) (self : (((List Int) × Int)) → Option (((Bool × (Nat × (List Int))) ⊕ ((Bool × ((List Int) × (List Int))) ⊕ ((Bool × (Nat × ((List Int) × (List Int)))) ⊕ ((Bool × ((List Int) × (Nat × (List Int)))) ⊕ ((Bool × ((List Int) × (Nat × (List AV)))) ⊕ ((Bool × ((List Int) × (List AV))) ⊕ (Bool × (List Int)))))))))) (rc : St → Option (Ex × St)) (x0 : Nat) (x1 : (List Int)) (x2 : Int) (x3 : (List Int)) (x4 : Bool) (x5 : Bool) (x6 : (List AV)) : roundOf (Fv.C n self) (Fv.A n self) n Fv.b0 rc ((St.mk [(.errv 58 78 x0), (.rints .u8 x1), (.int .i64 x2), (.ptr 0 []), (.rints .u8 x3), (.ptr 1 [])] [(some (.var (.agg [(.bool x4), .snil, (.own 2 3)]))), (some (.var (.agg [(.bool x5), .snil, .snil]))), (some (.objs 25 3 x6))])) = Fv.l14v1_1.r (fun a0 a1 a2 a3 a4 => ((Prod.mk (.exit 1) (St.mk [(.ptr 0 []), (.rints .u8 a0), (.errv 58 78 a1), (.ptr 1 [])] [(some (.var (.agg [(.bool a2), .snil, (.own 2 3)]))), (some (.var (.agg [(.bool a3), .snil, .snil]))), (some (.objs 25 3 a4))])) : Ex × St)) (fun a0 a1 a2 a3 => ((Prod.mk (.exit 1) (St.mk [(.ptr 0 []), (.rints .u8 a0), .nili, (.ptr 1 [])] [(some (.var (.agg [(.bool a1), .snil, (.own 2 3)]))), (some (.var (.agg [(.bool a2), .snil, .snil]))), (some (.objs 25 3 a3))])) : Ex × St)) (fun a0 a1 a2 => ((Prod.mk (.exit 1) (St.mk [(.ptr 0 []), (.rints .u8 a0), .nili, (.ptr 1 [])] [(some (.var (.agg [(.bool a1), .snil, .snil]))), (some (.var (.agg [(.bool a2), .snil, .snil])))])) : Ex × St)) n self (fun y0 y1 y2 y3 y4 y5 y6 => rc ((St.mk [(.errv 58 78 y0), (.rints .u8 y1), (.int .i64 y2), (.ptr 0 []), (.rints .u8 y3), (.ptr 1 [])] [(some (.var (.agg [(.bool y4), .snil, (.own 2 3)]))), (some (.var (.agg [(.bool y5), .snil, .snil]))), (some (.objs 25 3 y6))]))) x0 x1 x2 x3 x4 x5 x6 := by kernel_rfl
theorem Fv.l14v1_1.loop' (n : Nat) (self : (((List Int) × Int)) → Option (((Bool × (Nat × (List Int))) ⊕ ((Bool × ((List Int) × (List Int))) ⊕ ((Bool × (Nat × ((List Int) × (List Int)))) ⊕ ((Bool × ((List Int) × (Nat × (List Int)))) ⊕ ((Bool × ((List Int) × (Nat × (List AV)))) ⊕ ((Bool × ((List Int) × (List AV))) ⊕ (Bool × (List Int)))))))))) : ∀ (m : Nat) (t : (Nat × ((List Int) × (Int × ((List Int) × (Bool × (Bool × (List AV)))))))), loopOf (roundOf (Fv.C n self) (Fv.A n self) n Fv.b0) m (Fv.l14v1_1.shape t) = Fv.l14v1_1.g (fun a0 a1 a2 a3 a4 => ((Prod.mk (.exit 1) (St.mk [(.ptr 0 []), (.rints .u8 a0), (.errv 58 78 a1), (.ptr 1 [])] [(some (.var (.agg [(.bool a2), .snil, (.own 2 3)]))), (some (.var (.agg [(.bool a3), .snil, .snil]))), (some (.objs 25 3 a4))])) : Ex × St)) (fun a0 a1 a2 a3 => ((Prod.mk (.exit 1) (St.mk [(.ptr 0 []), (.rints .u8 a0), .nili, (.ptr 1 [])] [(some (.var (.agg [(.bool a1), .snil, (.own 2 3)]))), (some (.var (.agg [(.bool a2), .snil, .snil]))), (some (.objs 25 3 a3))])) : Ex × St)) (fun a0 a1 a2 => ((Prod.mk (.exit 1) (St.mk [(.ptr 0 []), (.rints .u8 a0), .nili, (.ptr 1 [])] [(some (.var (.agg [(.bool a1), .snil, .snil]))), (some (.var (.agg [(.bool a2), .snil, .snil])))])) : Ex × St)) n self m t.1 t.2.1 t.2.2.1 t.2.2.2.1 t.2.2.2.2.1 t.2.2.2.2.2.1 t.2.2.2.2.2.2 :=
  loop_of_round (shape := Fv.l14v1_1.shape) (body := roundOf (Fv.C n self) (Fv.A n self) n Fv.b0) (g := fun m t => Fv.l14v1_1.g (fun a0 a1 a2 a3 a4 => ((Prod.mk (.exit 1) (St.mk [(.ptr 0 []), (.rints .u8 a0), (.errv 58 78 a1), (.ptr 1 [])] [(some (.var (.agg [(.bool a2), .snil, (.own 2 3)]))), (some (.var (.agg [(.bool a3), .snil, .snil]))), (some (.objs 25 3 a4))])) : Ex × St)) (fun a0 a1 a2 a3 => ((Prod.mk (.exit 1) (St.mk [(.ptr 0 []), (.rints .u8 a0), .nili, (.ptr 1 [])] [(some (.var (.agg [(.bool a1), .snil, (.own 2 3)]))), (some (.var (.agg [(.bool a2), .snil, .snil]))), (some (.objs 25 3 a3))])) : Ex × St)) (fun a0 a1 a2 => ((Prod.mk (.exit 1) (St.mk [(.ptr 0 []), (.rints .u8 a0), .nili, (.ptr 1 [])] [(some (.var (.agg [(.bool a1), .snil, .snil]))), (some (.var (.agg [(.bool a2), .snil, .snil])))])) : Ex × St)) n self m t.1 t.2.1 t.2.2.1 t.2.2.2.1 t.2.2.2.2.1 t.2.2.2.2.2.1 t.2.2.2.2.2.2) (fun t => rfl)
    fun m t ih => (Fv.l14v1_1.round n self (loopOf (roundOf (Fv.C n self) (Fv.A n self) n Fv.b0) m) t.1 t.2.1 t.2.2.1 t.2.2.2.1 t.2.2.2.2.1 t.2.2.2.2.2.1 t.2.2.2.2.2.2).trans (congrFun (congrFun (congrFun (congrFun (congrFun (congrFun (congrFun (congrArg (Fv.l14v1_1.r (fun a0 a1 a2 a3 a4 => ((Prod.mk (.exit 1) (St.mk [(.ptr 0 []), (.rints .u8 a0), (.errv 58 78 a1), (.ptr 1 [])] [(some (.var (.agg [(.bool a2), .snil, (.own 2 3)]))), (some (.var (.agg [(.bool a3), .snil, .snil]))), (some (.objs 25 3 a4))])) : Ex × St)) (fun a0 a1 a2 a3 => ((Prod.mk (.exit 1) (St.mk [(.ptr 0 []), (.rints .u8 a0), .nili, (.ptr 1 [])] [(some (.var (.agg [(.bool a1), .snil, (.own 2 3)]))), (some (.var (.agg [(.bool a2), .snil, .snil]))), (some (.objs 25 3 a3))])) : Ex × St)) (fun a0 a1 a2 => ((Prod.mk (.exit 1) (St.mk [(.ptr 0 []), (.rints .u8 a0), .nili, (.ptr 1 [])] [(some (.var (.agg [(.bool a1), .snil, .snil]))), (some (.var (.agg [(.bool a2), .snil, .snil])))])) : Ex × St)) n self) (funext fun y0 => funext fun y1 => funext fun y2 => funext fun y3 => funext fun y4 => funext fun y5 => funext fun y6 => ih (y0, y1, y2, y3, y4, y5, y6))) t.1) t.2.1) t.2.2.1) t.2.2.2.1) t.2.2.2.2.1) t.2.2.2.2.2.1) t.2.2.2.2.2.2)
theorem Fv.l14v1_2.rmap {α β : Type} (h : β → α) (mk0 : (List Int) → Nat → Bool → Bool → (List AV) → β) (mk1 : (List Int) → Bool → Bool → (List AV) → β) (mk2 : (List Int) → Bool → Bool → β) (n : Nat) (self : (((List Int) × Int)) → Option (((Bool × (Nat × (List Int))) ⊕ ((Bool × ((List Int) × (List Int))) ⊕ ((Bool × (Nat × ((List Int) × (List Int)))) ⊕ ((Bool × ((List Int) × (Nat × (List Int)))) ⊕ ((Bool × ((List Int) × (Nat × (List AV)))) ⊕ ((Bool × ((List Int) × (List AV))) ⊕ (Bool × (List Int)))))))))) (f : (List Int) → Int → (List Int) → Bool → Bool → (List AV) → Option β) (f0 : Nat → (List Int) → Int → (List Int) → Bool → Bool → (List AV) → Option β) (x0 : (List Int)) (x1 : Int) (x2 : (List Int)) (x3 : Bool) (x4 : Bool) (x5 : (List AV)) : Fv.l14v1_2.r (fun a0 a1 a2 a3 a4 => (h (mk0 a0 a1 a2 a3 a4))) (fun a0 a1 a2 a3 => (h (mk1 a0 a1 a2 a3))) (fun a0 a1 a2 => (h (mk2 a0 a1 a2))) n self (fun y0 y1 y2 y3 y4 y5 => (f y0 y1 y2 y3 y4 y5).map h) (fun y0 y1 y2 y3 y4 y5 y6 => (f0 y0 y1 y2 y3 y4 y5 y6).map h) x0 x1 x2 x3 x4 x5 = (Fv.l14v1_2.r mk0 mk1 mk2 n self f f0 x0 x1 x2 x3 x4 x5).map h := by
  unfold Fv.l14v1_2.r
  exact (ite_map (bindO_map fun r6 => match r6 with | (.inl r6) => (ite_map rfl rfl) | (.inr (.inl r6)) => (ite_map rfl rfl) | (.inr (.inr (.inl r6))) => (ite_map rfl rfl) | (.inr (.inr (.inr (.inl r6)))) => (ite_map rfl rfl) | (.inr (.inr (.inr (.inr (.inl r6))))) => (ite_map rfl rfl) | (.inr (.inr (.inr (.inr (.inr (.inl r6)))))) => (ite_map rfl rfl) | (.inr (.inr (.inr (.inr (.inr (.inr r6)))))) => (ite_map rfl rfl)) rfl)
theorem Fv.l14v1_2.gmap {α β : Type} (h : β → α) (mk0 : (List Int) → Nat → Bool → Bool → (List AV) → β) (mk1 : (List Int) → Bool → Bool → (List AV) → β) (mk2 : (List Int) → Bool → Bool → β) (n : Nat) (self : (((List Int) × Int)) → Option (((Bool × (Nat × (List Int))) ⊕ ((Bool × ((List Int) × (List Int))) ⊕ ((Bool × (Nat × ((List Int) × (List Int)))) ⊕ ((Bool × ((List Int) × (Nat × (List Int)))) ⊕ ((Bool × ((List Int) × (Nat × (List AV)))) ⊕ ((Bool × ((List Int) × (List AV))) ⊕ (Bool × (List Int)))))))))) : ∀ (m : Nat) (x0 : (List Int)) (x1 : Int) (x2 : (List Int)) (x3 : Bool) (x4 : Bool) (x5 : (List AV)), Fv.l14v1_2.g (fun a0 a1 a2 a3 a4 => (h (mk0 a0 a1 a2 a3 a4))) (fun a0 a1 a2 a3 => (h (mk1 a0 a1 a2 a3))) (fun a0 a1 a2 => (h (mk2 a0 a1 a2))) n self m x0 x1 x2 x3 x4 x5 = (Fv.l14v1_2.g mk0 mk1 mk2 n self m x0 x1 x2 x3 x4 x5).map h
  | 0, _, _, _, _, _, _ => rfl
  | m + 1, x0, x1, x2, x3, x4, x5 => by
    unfold Fv.l14v1_2.g
    rw [← Fv.l14v1_2.rmap]
    congr
    · funext y0 y1 y2 y3 y4 y5; exact Fv.l14v1_2.gmap h mk0 mk1 mk2 n self m y0 y1 y2 y3 y4 y5
    · funext y0 y1 y2 y3 y4 y5 y6; exact Fv.l14v1_1.gmap h mk0 mk1 mk2 n self m y0 y1 y2 y3 y4 y5 y6
theorem Fv.l14v1_2.round (n : Nat) (self : (((List Int) × Int)) → Option (((Bool × (Nat × (List Int))) ⊕ ((Bool × ((List Int) × (List Int))) ⊕ ((Bool × (Nat × ((List Int) × (List Int)))) ⊕ ((Bool × ((List Int) × (Nat × (List Int)))) ⊕ ((Bool × ((List Int) × (Nat × (List AV)))) ⊕ ((Bool × ((List Int) × (List AV))) ⊕ (Bool × (List Int)))))))))) (rc : St → Option (Ex × St)) (x0 : (List Int)) (x1 : Int) (x2 : (List Int)) (x3 : Bool) (x4 : Bool) (x5 : (List AV)) : roundOf (Fv.C n self) (Fv.A n self) n Fv.b0 rc ((St.mk [.nili, (.rints .u8 x0), (.int .i64 x1), (.ptr 0 []), (.rints .u8 x2), (.ptr 1 [])] [(some (.var (.agg [(.bool x3), .snil, (.own 2 3)]))), (some (.var (.agg [(.bool x4), .snil, .snil]))), (some (.objs 25 3 x5))])) = Fv.l14v1_2.r (fun a0 a1 a2 a3 a4 => ((Prod.mk (.exit 1) (St.mk [(.ptr 0 []), (.rints .u8 a0), (.errv 58 78 a1), (.ptr 1 [])] [(some (.var (.agg [(.bool a2), .snil, (.own 2 3)]))), (some (.var (.agg [(.bool a3), .snil, .snil]))), (some (.objs 25 3 a4))])) : Ex × St)) (fun a0 a1 a2 a3 => ((Prod.mk (.exit 1) (St.mk [(.ptr 0 []), (.rints .u8 a0), .nili, (.ptr 1 [])] [(some (.var (.agg [(.bool a1), .snil, (.own 2 3)]))), (some (.var (.agg [(.bool a2), .snil, .snil]))), (some (.objs 25 3 a3))])) : Ex × St)) (fun a0 a1 a2 => ((Prod.mk (.exit 1) (St.mk [(.ptr 0 []), (.rints .u8 a0), .nili, (.ptr 1 [])] [(some (.var (.agg [(.bool a1), .snil, .snil]))), (some (.var (.agg [(.bool a2), .snil, .snil])))])) : Ex × St)) n self (fun y0 y1 y2 y3 y4 y5 => rc ((St.mk [.nili, (.rints .u8 y0), (.int .i64 y1), (.ptr 0 []), (.rints .u8 y2), (.ptr 1 [])] [(some (.var (.agg [(.bool y3), .snil, (.own 2 3)]))), (some (.var (.agg [(.bool y4), .snil, .snil]))), (some (.objs 25 3 y5))]))) (fun y0 y1 y2 y3 y4 y5 y6 => rc ((St.mk [(.errv 58 78 y0), (.rints .u8 y1), (.int .i64 y2), (.ptr 0 []), (.rints .u8 y3), (.ptr 1 [])] [(some (.var (.agg [(.bool y4), .snil, (.own 2 3)]))), (some (.var (.agg [(.bool y5), .snil, .snil]))), (some (.objs 25 3 y6))]))) x0 x1 x2 x3 x4 x5 := by kernel_rfl
theorem Fv.l14v1_2.loop' (n : Nat) (self : (((List Int) × Int)) → Option (((Bool × (Nat × (List Int))) ⊕ ((Bool × ((List Int) × (List Int))) ⊕ ((Bool × (Nat × ((List Int) × (List Int)))) ⊕ ((Bool × ((List Int) × (Nat × (List Int)))) ⊕ ((Bool × ((List Int) × (Nat × (List AV)))) ⊕ ((Bool × ((List Int) × (List AV))) ⊕ (Bool × (List Int)))))))))) : ∀ (m : Nat) (t : ((List Int) × (Int × ((List Int) × (Bool × (Bool × (List AV))))))), loopOf (roundOf (Fv.C n self) (Fv.A n self) n Fv.b0) m (Fv.l14v1_2.shape t) = Fv.l14v1_2.g (fun a0 a1 a2 a3 a4 => ((Prod.mk (.exit 1) (St.mk [(.ptr 0 []), (.rints .u8 a0), (.errv 58 78 a1), (.ptr 1 [])] [(some (.var (.agg [(.bool a2), .snil, (.own 2 3)]))), (some (.var (.agg [(.bool a3), .snil, .snil]))), (some (.objs 25 3 a4))])) : Ex × St)) (fun a0 a1 a2 a3 => ((Prod.mk (.exit 1) (St.mk [(.ptr 0 []), (.rints .u8 a0), .nili, (.ptr 1 [])] [(some (.var (.agg [(.bool a1), .snil, (.own 2 3)]))), (some (.var (.agg [(.bool a2), .snil, .snil]))), (some (.objs 25 3 a3))])) : Ex × St)) (fun a0 a1 a2 => ((Prod.mk (.exit 1) (St.mk [(.ptr 0 []), (.rints .u8 a0), .nili, (.ptr 1 [])] [(some (.var (.agg [(.bool a1), .snil, .snil]))), (some (.var (.agg [(.bool a2), .snil, .snil])))])) : Ex × St)) n self m t.1 t.2.1 t.2.2.1 t.2.2.2.1 t.2.2.2.2.1 t.2.2.2.2.2 :=
  loop_of_round (shape := Fv.l14v1_2.shape) (body := roundOf (Fv.C n self) (Fv.A n self) n Fv.b0) (g := fun m t => Fv.l14v1_2.g (fun a0 a1 a2 a3 a4 => ((Prod.mk (.exit 1) (St.mk [(.ptr 0 []), (.rints .u8 a0), (.errv 58 78 a1), (.ptr 1 [])] [(some (.var (.agg [(.bool a2), .snil, (.own 2 3)]))), (some (.var (.agg [(.bool a3), .snil, .snil]))), (some (.objs 25 3 a4))])) : Ex × St)) (fun a0 a1 a2 a3 => ((Prod.mk (.exit 1) (St.mk [(.ptr 0 []), (.rints .u8 a0), .nili, (.ptr 1 [])] [(some (.var (.agg [(.bool a1), .snil, (.own 2 3)]))), (some (.var (.agg [(.bool a2), .snil, .snil]))), (some (.objs 25 3 a3))])) : Ex × St)) (fun a0 a1 a2 => ((Prod.mk (.exit 1) (St.mk [(.ptr 0 []), (.rints .u8 a0), .nili, (.ptr 1 [])] [(some (.var (.agg [(.bool a1), .snil, .snil]))), (some (.var (.agg [(.bool a2), .snil, .snil])))])) : Ex × St)) n self m t.1 t.2.1 t.2.2.1 t.2.2.2.1 t.2.2.2.2.1 t.2.2.2.2.2) (fun t => rfl)
    fun m t ih => (Fv.l14v1_2.round n self (loopOf (roundOf (Fv.C n self) (Fv.A n self) n Fv.b0) m) t.1 t.2.1 t.2.2.1 t.2.2.2.1 t.2.2.2.2.1 t.2.2.2.2.2).trans (congrFun (congrFun (congrFun (congrFun (congrFun (congrFun (congr (congrArg (Fv.l14v1_2.r (fun a0 a1 a2 a3 a4 => ((Prod.mk (.exit 1) (St.mk [(.ptr 0 []), (.rints .u8 a0), (.errv 58 78 a1), (.ptr 1 [])] [(some (.var (.agg [(.bool a2), .snil, (.own 2 3)]))), (some (.var (.agg [(.bool a3), .snil, .snil]))), (some (.objs 25 3 a4))])) : Ex × St)) (fun a0 a1 a2 a3 => ((Prod.mk (.exit 1) (St.mk [(.ptr 0 []), (.rints .u8 a0), .nili, (.ptr 1 [])] [(some (.var (.agg [(.bool a1), .snil, (.own 2 3)]))), (some (.var (.agg [(.bool a2), .snil, .snil]))), (some (.objs 25 3 a3))])) : Ex × St)) (fun a0 a1 a2 => ((Prod.mk (.exit 1) (St.mk [(.ptr 0 []), (.rints .u8 a0), .nili, (.ptr 1 [])] [(some (.var (.agg [(.bool a1), .snil, .snil]))), (some (.var (.agg [(.bool a2), .snil, .snil])))])) : Ex × St)) n self) (funext fun y0 => funext fun y1 => funext fun y2 => funext fun y3 => funext fun y4 => funext fun y5 => ih (y0, y1, y2, y3, y4, y5))) (funext fun y0 => funext fun y1 => funext fun y2 => funext fun y3 => funext fun y4 => funext fun y5 => funext fun y6 => Fv.l14v1_1.loop' n self m (y0, y1, y2, y3, y4, y5, y6))) t.1) t.2.1) t.2.2.1) t.2.2.2.1) t.2.2.2.2.1) t.2.2.2.2.2)
theorem Fv.l14v1_0.rmap {α β : Type} (h : β → α) (mk0 : (List Int) → Nat → Bool → Bool → (List AV) → β) (mk1 : (List Int) → Bool → Bool → (List AV) → β) (mk2 : (List Int) → Bool → Bool → β) (n : Nat) (self : (((List Int) × Int)) → Option (((Bool × (Nat × (List Int))) ⊕ ((Bool × ((List Int) × (List Int))) ⊕ ((Bool × (Nat × ((List Int) × (List Int)))) ⊕ ((Bool × ((List Int) × (Nat × (List Int)))) ⊕ ((Bool × ((List Int) × (Nat × (List AV)))) ⊕ ((Bool × ((List Int) × (List AV))) ⊕ (Bool × (List Int)))))))))) (f : (List Int) → Int → (List Int) → Bool → Bool → Option β) (f0 : Nat → (List Int) → Int → (List Int) → Bool → Bool → (List AV) → Option β) (f1 : (List Int) → Int → (List Int) → Bool → Bool → (List AV) → Option β) (x0 : (List Int)) (x1 : Int) (x2 : (List Int)) (x3 : Bool) (x4 : Bool) : Fv.l14v1_0.r (fun a0 a1 a2 a3 a4 => (h (mk0 a0 a1 a2 a3 a4))) (fun a0 a1 a2 a3 => (h (mk1 a0 a1 a2 a3))) (fun a0 a1 a2 => (h (mk2 a0 a1 a2))) n self (fun y0 y1 y2 y3 y4 => (f y0 y1 y2 y3 y4).map h) (fun y0 y1 y2 y3 y4 y5 y6 => (f0 y0 y1 y2 y3 y4 y5 y6).map h) (fun y0 y1 y2 y3 y4 y5 => (f1 y0 y1 y2 y3 y4 y5).map h) x0 x1 x2 x3 x4 = (Fv.l14v1_0.r mk0 mk1 mk2 n self f f0 f1 x0 x1 x2 x3 x4).map h := by
  unfold Fv.l14v1_0.r
  exact (ite_map (bindO_map fun r6 => match r6 with | (.inl r6) => rfl | (.inr (.inl r6)) => rfl | (.inr (.inr (.inl r6))) => rfl | (.inr (.inr (.inr (.inl r6)))) => rfl | (.inr (.inr (.inr (.inr (.inl r6))))) => rfl | (.inr (.inr (.inr (.inr (.inr (.inl r6)))))) => rfl | (.inr (.inr (.inr (.inr (.inr (.inr r6)))))) => rfl) rfl)
theorem Fv.l14v1_0.gmap {α β : Type} (h : β → α) (mk0 : (List Int) → Nat → Bool → Bool → (List AV) → β) (mk1 : (List Int) → Bool → Bool → (List AV) → β) (mk2 : (List Int) → Bool → Bool → β) (n : Nat) (self : (((List Int) × Int)) → Option (((Bool × (Nat × (List Int))) ⊕ ((Bool × ((List Int) × (List Int))) ⊕ ((Bool × (Nat × ((List Int) × (List Int)))) ⊕ ((Bool × ((List Int) × (Nat × (List Int)))) ⊕ ((Bool × ((List Int) × (Nat × (List AV)))) ⊕ ((Bool × ((List Int) × (List AV))) ⊕ (Bool × (List Int)))))))))) : ∀ (m : Nat) (x0 : (List Int)) (x1 : Int) (x2 : (List Int)) (x3 : Bool) (x4 : Bool), Fv.l14v1_0.g (fun a0 a1 a2 a3 a4 => (h (mk0 a0 a1 a2 a3 a4))) (fun a0 a1 a2 a3 => (h (mk1 a0 a1 a2 a3))) (fun a0 a1 a2 => (h (mk2 a0 a1 a2))) n self m x0 x1 x2 x3 x4 = (Fv.l14v1_0.g mk0 mk1 mk2 n self m x0 x1 x2 x3 x4).map h
  | 0, _, _, _, _, _ => rfl
  | m + 1, x0, x1, x2, x3, x4 => by
    unfold Fv.l14v1_0.g
    rw [← Fv.l14v1_0.rmap]
    congr
    · funext y0 y1 y2 y3 y4; exact Fv.l14v1_0.gmap h mk0 mk1 mk2 n self m y0 y1 y2 y3 y4
    · funext y0 y1 y2 y3 y4 y5 y6; exact Fv.l14v1_1.gmap h mk0 mk1 mk2 n self m y0 y1 y2 y3 y4 y5 y6
    · funext y0 y1 y2 y3 y4 y5; exact Fv.l14v1_2.gmap h mk0 mk1 mk2 n self m y0 y1 y2 y3 y4 y5
theorem Fv.l14v1_0.pat_shape : ∀ st t, Fv.l14v1_0.pat st = some t → st = Fv.l14v1_0.shape t := by
  intro st t h
  unfold Fv.l14v1_0.pat at h
  split at h
  · cases h; rfl
  · cases h
theorem Fv.l14v1_0.round (n : Nat) (self : (((List Int) × Int)) → Option (((Bool × (Nat × (List Int))) ⊕ ((Bool × ((List Int) × (List Int))) ⊕ ((Bool × (Nat × ((List Int) × (List Int)))) ⊕ ((Bool × ((List Int) × (Nat × (List Int)))) ⊕ ((Bool × ((List Int) × (Nat × (List AV)))) ⊕ ((Bool × ((List Int) × (List AV))) ⊕ (Bool × (List Int)))))))))) (rc : St → Option (Ex × St)) (x0 : (List Int)) (x1 : Int) (x2 : (List Int)) (x3 : Bool) (x4 : Bool) : roundOf (Fv.C n self) (Fv.A n self) n Fv.b0 rc ((St.mk [.nili, (.rints .u8 x0), (.int .i64 x1), (.ptr 0 []), (.rints .u8 x2), (.ptr 1 [])] [(some (.var (.agg [(.bool x3), .snil, .snil]))), (some (.var (.agg [(.bool x4), .snil, .snil])))])) = Fv.l14v1_0.r (fun a0 a1 a2 a3 a4 => ((Prod.mk (.exit 1) (St.mk [(.ptr 0 []), (.rints .u8 a0), (.errv 58 78 a1), (.ptr 1 [])] [(some (.var (.agg [(.bool a2), .snil, (.own 2 3)]))), (some (.var (.agg [(.bool a3), .snil, .snil]))), (some (.objs 25 3 a4))])) : Ex × St)) (fun a0 a1 a2 a3 => ((Prod.mk (.exit 1) (St.mk [(.ptr 0 []), (.rints .u8 a0), .nili, (.ptr 1 [])] [(some (.var (.agg [(.bool a1), .snil, (.own 2 3)]))), (some (.var (.agg [(.bool a2), .snil, .snil]))), (some (.objs 25 3 a3))])) : Ex × St)) (fun a0 a1 a2 => ((Prod.mk (.exit 1) (St.mk [(.ptr 0 []), (.rints .u8 a0), .nili, (.ptr 1 [])] [(some (.var (.agg [(.bool a1), .snil, .snil]))), (some (.var (.agg [(.bool a2), .snil, .snil])))])) : Ex × St)) n self (fun y0 y1 y2 y3 y4 => rc ((St.mk [.nili, (.rints .u8 y0), (.int .i64 y1), (.ptr 0 []), (.rints .u8 y2), (.ptr 1 [])] [(some (.var (.agg [(.bool y3), .snil, .snil]))), (some (.var (.agg [(.bool y4), .snil, .snil])))]))) (fun y0 y1 y2 y3 y4 y5 y6 => rc ((St.mk [(.errv 58 78 y0), (.rints .u8 y1), (.int .i64 y2), (.ptr 0 []), (.rints .u8 y3), (.ptr 1 [])] [(some (.var (.agg [(.bool y4), .snil, (.own 2 3)]))), (some (.var (.agg [(.bool y5), .snil, .snil]))), (some (.objs 25 3 y6))]))) (fun y0 y1 y2 y3 y4 y5 => rc ((St.mk [.nili, (.rints .u8 y0), (.int .i64 y1), (.ptr 0 []), (.rints .u8 y2), (.ptr 1 [])] [(some (.var (.agg [(.bool y3), .snil, (.own 2 3)]))), (some (.var (.agg [(.bool y4), .snil, .snil]))), (some (.objs 25 3 y5))]))) x0 x1 x2 x3 x4 := by kernel_rfl
theorem Fv.l14v1_0.loop' (n : Nat) (self : (((List Int) × Int)) → Option (((Bool × (Nat × (List Int))) ⊕ ((Bool × ((List Int) × (List Int))) ⊕ ((Bool × (Nat × ((List Int) × (List Int)))) ⊕ ((Bool × ((List Int) × (Nat × (List Int)))) ⊕ ((Bool × ((List Int) × (Nat × (List AV)))) ⊕ ((Bool × ((List Int) × (List AV))) ⊕ (Bool × (List Int)))))))))) : ∀ (m : Nat) (t : ((List Int) × (Int × ((List Int) × (Bool × Bool))))), loopOf (roundOf (Fv.C n self) (Fv.A n self) n Fv.b0) m (Fv.l14v1_0.shape t) = Fv.l14v1_0.g (fun a0 a1 a2 a3 a4 => ((Prod.mk (.exit 1) (St.mk [(.ptr 0 []), (.rints .u8 a0), (.errv 58 78 a1), (.ptr 1 [])] [(some (.var (.agg [(.bool a2), .snil, (.own 2 3)]))), (some (.var (.agg [(.bool a3), .snil, .snil]))), (some (.objs 25 3 a4))])) : Ex × St)) (fun a0 a1 a2 a3 => ((Prod.mk (.exit 1) (St.mk [(.ptr 0 []), (.rints .u8 a0), .nili, (.ptr 1 [])] [(some (.var (.agg [(.bool a1), .snil, (.own 2 3)]))), (some (.var (.agg [(.bool a2), .snil, .snil]))), (some (.objs 25 3 a3))])) : Ex × St)) (fun a0 a1 a2 => ((Prod.mk (.exit 1) (St.mk [(.ptr 0 []), (.rints .u8 a0), .nili, (.ptr 1 [])] [(some (.var (.agg [(.bool a1), .snil, .snil]))), (some (.var (.agg [(.bool a2), .snil, .snil])))])) : Ex × St)) n self m t.1 t.2.1 t.2.2.1 t.2.2.2.1 t.2.2.2.2 :=
  loop_of_round (shape := Fv.l14v1_0.shape) (body := roundOf (Fv.C n self) (Fv.A n self) n Fv.b0) (g := fun m t => Fv.l14v1_0.g (fun a0 a1 a2 a3 a4 => ((Prod.mk (.exit 1) (St.mk [(.ptr 0 []), (.rints .u8 a0), (.errv 58 78 a1), (.ptr 1 [])] [(some (.var (.agg [(.bool a2), .snil, (.own 2 3)]))), (some (.var (.agg [(.bool a3), .snil, .snil]))), (some (.objs 25 3 a4))])) : Ex × St)) (fun a0 a1 a2 a3 => ((Prod.mk (.exit 1) (St.mk [(.ptr 0 []), (.rints .u8 a0), .nili, (.ptr 1 [])] [(some (.var (.agg [(.bool a1), .snil, (.own 2 3)]))), (some (.var (.agg [(.bool a2), .snil, .snil]))), (some (.objs 25 3 a3))])) : Ex × St)) (fun a0 a1 a2 => ((Prod.mk (.exit 1) (St.mk [(.ptr 0 []), (.rints .u8 a0), .nili, (.ptr 1 [])] [(some (.var (.agg [(.bool a1), .snil, .snil]))), (some (.var (.agg [(.bool a2), .snil, .snil])))])) : Ex × St)) n self m t.1 t.2.1 t.2.2.1 t.2.2.2.1 t.2.2.2.2) (fun t => rfl)
    fun m t ih => (Fv.l14v1_0.round n self (loopOf (roundOf (Fv.C n self) (Fv.A n self) n Fv.b0) m) t.1 t.2.1 t.2.2.1 t.2.2.2.1 t.2.2.2.2).trans (congrFun (congrFun (congrFun (congrFun (congrFun (congr (congr (congrArg (Fv.l14v1_0.r (fun a0 a1 a2 a3 a4 => ((Prod.mk (.exit 1) (St.mk [(.ptr 0 []), (.rints .u8 a0), (.errv 58 78 a1), (.ptr 1 [])] [(some (.var (.agg [(.bool a2), .snil, (.own 2 3)]))), (some (.var (.agg [(.bool a3), .snil, .snil]))), (some (.objs 25 3 a4))])) : Ex × St)) (fun a0 a1 a2 a3 => ((Prod.mk (.exit 1) (St.mk [(.ptr 0 []), (.rints .u8 a0), .nili, (.ptr 1 [])] [(some (.var (.agg [(.bool a1), .snil, (.own 2 3)]))), (some (.var (.agg [(.bool a2), .snil, .snil]))), (some (.objs 25 3 a3))])) : Ex × St)) (fun a0 a1 a2 => ((Prod.mk (.exit 1) (St.mk [(.ptr 0 []), (.rints .u8 a0), .nili, (.ptr 1 [])] [(some (.var (.agg [(.bool a1), .snil, .snil]))), (some (.var (.agg [(.bool a2), .snil, .snil])))])) : Ex × St)) n self) (funext fun y0 => funext fun y1 => funext fun y2 => funext fun y3 => funext fun y4 => ih (y0, y1, y2, y3, y4))) (funext fun y0 => funext fun y1 => funext fun y2 => funext fun y3 => funext fun y4 => funext fun y5 => funext fun y6 => Fv.l14v1_1.loop' n self m (y0, y1, y2, y3, y4, y5, y6))) (funext fun y0 => funext fun y1 => funext fun y2 => funext fun y3 => funext fun y4 => funext fun y5 => Fv.l14v1_2.loop' n self m (y0, y1, y2, y3, y4, y5))) t.1) t.2.1) t.2.2.1) t.2.2.2.1) t.2.2.2.2)
theorem Fv.l14v1_0.loop (n : Nat) (self : (((List Int) × Int)) → Option (((Bool × (Nat × (List Int))) ⊕ ((Bool × ((List Int) × (List Int))) ⊕ ((Bool × (Nat × ((List Int) × (List Int)))) ⊕ ((Bool × ((List Int) × (Nat × (List Int)))) ⊕ ((Bool × ((List Int) × (Nat × (List AV)))) ⊕ ((Bool × ((List Int) × (List AV))) ⊕ (Bool × (List Int)))))))))) (m : Nat) (t : ((List Int) × (Int × ((List Int) × (Bool × Bool))))) : loopOf (roundOf (Fv.C n self) (Fv.A n self) n Fv.b0) m (Fv.l14v1_0.shape t) = (Fv.l14v1_0.m n self m t).map Fv.l14v1_0.res :=
  (Fv.l14v1_0.loop' n self m t).trans (Fv.l14v1_0.gmap Fv.l14v1_0.res (fun a0 a1 a2 a3 a4 => (.inl (a0, a1, a2, a3, a4))) (fun a0 a1 a2 a3 => (.inr (.inl (a0, a1, a2, a3)))) (fun a0 a1 a2 => (.inr (.inr (a0, a1, a2)))) n self m t.1 t.2.1 t.2.2.1 t.2.2.2.1 t.2.2.2.2)
theorem Fv.gmap {α β : Type} (h : β → α) (mk0 : Bool → Nat → (List Int) → β) (mk1 : Bool → (List Int) → (List Int) → β) (mk2 : Bool → Nat → (List Int) → (List Int) → β) (mk3 : Bool → (List Int) → Nat → (List Int) → β) (mk4 : Bool → (List Int) → Nat → (List AV) → β) (mk5 : Bool → (List Int) → (List AV) → β) (mk6 : Bool → (List Int) → β) (n : Nat) (self : (((List Int) × Int)) → Option (((Bool × (Nat × (List Int))) ⊕ ((Bool × ((List Int) × (List Int))) ⊕ ((Bool × (Nat × ((List Int) × (List Int)))) ⊕ ((Bool × ((List Int) × (Nat × (List Int)))) ⊕ ((Bool × ((List Int) × (Nat × (List AV)))) ⊕ ((Bool × ((List Int) × (List AV))) ⊕ (Bool × (List Int)))))))))) (a0 : (List Int)) (a1 : Int) : Fv.g (fun a0 a1 a2 => (h (mk0 a0 a1 a2))) (fun a0 a1 a2 => (h (mk1 a0 a1 a2))) (fun a0 a1 a2 a3 => (h (mk2 a0 a1 a2 a3))) (fun a0 a1 a2 a3 => (h (mk3 a0 a1 a2 a3))) (fun a0 a1 a2 a3 => (h (mk4 a0 a1 a2 a3))) (fun a0 a1 a2 => (h (mk5 a0 a1 a2))) (fun a0 a1 => (h (mk6 a0 a1))) n self a0 a1 = (Fv.g mk0 mk1 mk2 mk3 mk4 mk5 mk6 n self a0 a1).map h := by
  unfold Fv.g
  exact (ite_map rfl (ite_map rfl (ite_map (ite_map (ite_map (ite_map rfl rfl) rfl) (ite_map (ite_map (bindO_map fun r14 => match r14 with | (.inl r14) => (bindO_map fun r18 => rfl) | (.inr r14) => (ite_map (ite_map (ite_map (bindO_map fun r24 => rfl) (bindO_map fun r24 => rfl)) rfl) (bindO_map fun r20 => rfl))) (bindO_map fun r14 => match r14 with | (.inl r14) => (bindO_map fun r18 => rfl) | (.inr r14) => (bindO_map fun r18 => match r18 with | (.inl r18) => rfl | (.inr (.inl r18)) => rfl | (.inr (.inr r18)) => rfl))) rfl)) rfl)))
theorem Fv.run (n : Nat) (self : (((List Int) × Int)) → Option (((Bool × (Nat × (List Int))) ⊕ ((Bool × ((List Int) × (List Int))) ⊕ ((Bool × (Nat × ((List Int) × (List Int)))) ⊕ ((Bool × ((List Int) × (Nat × (List Int)))) ⊕ ((Bool × ((List Int) × (Nat × (List AV)))) ⊕ ((Bool × ((List Int) × (List AV))) ⊕ (Bool × (List Int)))))))))) (a0 : (List Int)) (a1 : Int) : runF (Fv.C n self) (Fv.A n self) n Tryd.f26 [(.rints .u8 a0), (.int .i64 a1)] [] (fun v o => some (v, o)) = Fv.g (fun a0 a1 a2 => ((Prod.mk (.tup [(.agg [(.bool a0), .snil, .snil]), (.own 0 1), (.errv 58 78 a1)]) [(some (.ints .u8 a2))]) : AV × Blks)) (fun a0 a1 a2 => ((Prod.mk (.tup [(.agg [(.bool a0), (.own 0 1), .snil]), (.rints .u8 a1), .nili]) [(some (.ints .u8 a2))]) : AV × Blks)) (fun a0 a1 a2 a3 => ((Prod.mk (.tup [(.agg [(.bool a0), (.own 0 1), .snil]), (.own 1 1), (.errv 58 78 a1)]) [(some (.ints .u8 a2)), (some (.ints .u8 a3))]) : AV × Blks)) (fun a0 a1 a2 a3 => ((Prod.mk (.tup [(.agg [(.bool a0), (.own 0 1), .snil]), (.rints .u8 a1), (.errv 58 78 a2)]) [(some (.ints .u8 a3))]) : AV × Blks)) (fun a0 a1 a2 a3 => ((Prod.mk (.tup [(.agg [(.bool a0), .snil, (.own 0 3)]), (.rints .u8 a1), (.errv 58 78 a2)]) [(some (.objs 25 3 a3))]) : AV × Blks)) (fun a0 a1 a2 => ((Prod.mk (.tup [(.agg [(.bool a0), .snil, (.own 0 3)]), (.rints .u8 a1), .nili]) [(some (.objs 25 3 a2))]) : AV × Blks)) (fun a0 a1 => ((Prod.mk (.tup [(.agg [(.bool a0), .snil, .snil]), (.rints .u8 a1), .nili]) []) : AV × Blks)) n self a0 a1 := by kernel_rfl
theorem Fv.call (hmix : Tryd.prog.follows .mixedOrders = true) (n : Nat) (self : (((List Int) × Int)) → Option (((Bool × (Nat × (List Int))) ⊕ ((Bool × ((List Int) × (List Int))) ⊕ ((Bool × (Nat × ((List Int) × (List Int)))) ⊕ ((Bool × ((List Int) × (Nat × (List Int)))) ⊕ ((Bool × ((List Int) × (Nat × (List AV)))) ⊕ ((Bool × ((List Int) × (List AV))) ⊕ (Bool × (List Int)))))))))) (hs : CalleeS Tryd.prog rlpG 26 (.mk' [] [(some (.ints .u8)), none] Fv.pat self Fv.resK)) (t : ((List Int) × Int)) (u) (h : Fv.h n self t = some u) : FnC Tryd.prog rlpG 26 (Fv.shape t).1 (Fv.shape t).2 (Fv.res u).1 (Fv.res u).2 := by
  have hg : ∀ f m, (Fv.C n self).Γ f = some m → CalleeS Tryd.prog rlpG f m := by
    intro f m hm
    unfold Fv.C at hm
    simp only at hm
    first
    | (cases hm; done)
    | (split at hm <;> first
    | (cases hm; exact Fs.s hmix n)
    | (cases hm; exact Fb.s hmix n)
    | (cases hm; exact hs)
    | (cases hm; done))
  have hb : Tryd.f26.body = some (Tryd.f26.body.getD .skip) := by kernel_rfl
  refine runF_calls (C := Fv.C n self) (A := Fv.A n self) (n := n) (fn := Tryd.f26) hg hmix Tryd.func26 hb ?_ ?_ (by decide) rfl rfl (by show 2 ≤ Tryd.f26.ntmps; decide) ?_
  · rw [show loopsIn (Tryd.f26.body.getD .skip) = [Fv.b0] by kernel_rfl]
    intro b hb m hm
    simp only [List.mem_cons, List.not_mem_nil, or_false] at hb
    rcases hb with rfl
    · have e : (Fv.A n self).loop (key Fv.b0) = some (.alt Fv.l14_0.pat (.mk' Fv.l14_0.pat (Fv.l14_0.m n self n) Fv.l14_0.resK) (.mk' Fv.l14v1_0.pat (Fv.l14v1_0.m n self n) Fv.l14v1_0.resK)) := by rw [show key Fv.b0 = 14 by kernel_rfl]; rfl
      rw [e] at hm
      cases hm
      exact (LoopS.alt (LoopS.of (res := Fv.l14_0.res) (fun R u K => rfl) Fv.l14_0.pat_shape fun t => Fv.l14_0.loop n self n t) (LoopS.of (res := Fv.l14v1_0.res) (fun R u K => by rcases u with u | u | u <;> rfl) Fv.l14v1_0.pat_shape fun t => Fv.l14v1_0.loop n self n t))
  · intro a ha m hm
    cases (show none = some m from hm)
  · rw [show runF (Fv.C n self) (Fv.A n self) n Tryd.f26 (Fv.shape t).1 (Fv.shape t).2 (fun v o => some (v, o)) = _ from Fv.run n self t.1 t.2]
    have e := Fv.gmap Fv.res (fun a0 a1 a2 => (.inl (a0, a1, a2))) (fun a0 a1 a2 => (.inr (.inl (a0, a1, a2)))) (fun a0 a1 a2 a3 => (.inr (.inr (.inl (a0, a1, a2, a3))))) (fun a0 a1 a2 a3 => (.inr (.inr (.inr (.inl (a0, a1, a2, a3)))))) (fun a0 a1 a2 a3 => (.inr (.inr (.inr (.inr (.inl (a0, a1, a2, a3))))))) (fun a0 a1 a2 => (.inr (.inr (.inr (.inr (.inr (.inl (a0, a1, a2)))))))) (fun a0 a1 => (.inr (.inr (.inr (.inr (.inr (.inr (a0, a1)))))))) n self t.1 t.2
    unfold Fv.h at h
    rw [h] at e
    exact e
theorem Fv.ok (hmix : Tryd.prog.follows .mixedOrders = true) (n : Nat) (self : (((List Int) × Int)) → Option (((Bool × (Nat × (List Int))) ⊕ ((Bool × ((List Int) × (List Int))) ⊕ ((Bool × (Nat × ((List Int) × (List Int)))) ⊕ ((Bool × ((List Int) × (Nat × (List Int)))) ⊕ ((Bool × ((List Int) × (Nat × (List AV)))) ⊕ ((Bool × ((List Int) × (List AV))) ⊕ (Bool × (List Int)))))))))) (hs : CalleeS Tryd.prog rlpG 26 (.mk' [] [(some (.ints .u8)), none] Fv.pat self Fv.resK)) (t : ((List Int) × Int)) (u) (h : Fv.h n self t = some u) : FnOK Tryd.prog rlpG 26 (Fv.shape t).1 (Fv.shape t).2 (Fv.res u).1 (Fv.res u).2 :=
  (Fv.call hmix n self hs t u h).ok Tryd.func26 (by decide) (by kernel_rfl)
theorem Fv.s' (hmix : Tryd.prog.follows .mixedOrders = true) (n : Nat) : ∀ d : Nat, CalleeS Tryd.prog rlpG 26 (.mk' [] [(some (.ints .u8)), none] Fv.pat (Fv.mr n d) Fv.resK)
  | 0 => CalleeS.of (res := Fv.res) (shape := Fv.shape) (fun R u K => by rcases u with u | u | u | u | u | u | u <;> rfl) (fun args lent t h => by
    unfold Fv.pat at h
    split at h
    · cases h; rfl
    · cases h) fun t u h => by cases h
  | d + 1 => CalleeS.of (res := Fv.res) (shape := Fv.shape) (fun R u K => by rcases u with u | u | u | u | u | u | u <;> rfl) (fun args lent t h => by
    unfold Fv.pat at h
    split at h
    · cases h; rfl
    · cases h) fun t u h => Fv.ok hmix n (Fv.mr n d) (Fv.s' hmix n d) t u h
theorem Fv.s (hmix : Tryd.prog.follows .mixedOrders = true) (n : Nat) : CalleeS Tryd.prog rlpG 26 (Fv.c n) := Fv.s' hmix n n
end
section
noncomputable section
def errors_Is0.m (n : Nat) (t : Nat) : Option Bool := if t ≤ 2 then some false else none
def errors_Is0.pat : List AV → Blks → Option Nat
 | [.nili, .errv 58 78 k], [] => some k
 | _, _ => none
def errors_Is0.shape (t : Nat) : List AV × Blks := ([.nili, .errv 58 78 t], [])
def errors_Is0.res : Bool → AV × Blks
 | u => ((.bool u), [])
def errors_Is0.resK {R : Type} (u : Bool) (K : AV → Blks → Option R) : Option R := K (errors_Is0.res u).1 (errors_Is0.res u).2
def errors_Is0.c (n : Nat) : Abs.Callee := .mk' [] [none, none] errors_Is0.pat (errors_Is0.m n) errors_Is0.resK
def errors_Is1.m (n : Nat) (t : Nat × Nat) : Option Bool := if t.1 % 100 ≤ 2 then (if t.2 ≤ 2 then some (decide (t.1 % 100 = t.2)) else none) else none
def errors_Is1.pat : List AV → Blks → Option (Nat × Nat)
 | [.errv 58 78 j, .errv 58 78 k], [] => some (j, k)
 | _, _ => none
def errors_Is1.shape (t : Nat × Nat) : List AV × Blks := ([.errv 58 78 t.1, .errv 58 78 t.2], [])
def errors_Is1.res : Bool → AV × Blks
 | u => ((.bool u), [])
def errors_Is1.resK {R : Type} (u : Bool) (K : AV → Blks → Option R) : Option R := K (errors_Is1.res u).1 (errors_Is1.res u).2
def errors_Is1.c (n : Nat) : Abs.Callee := .mk' [] [none, none] errors_Is1.pat (errors_Is1.m n) errors_Is1.resK
def Fm.isNil : List AV → Bool
 | .nili :: _ => true
 | _ => false
def Fm.c (n : Nat) : Abs.Callee := .pick Fm.isNil (errors_Is0.c n) (errors_Is1.c n)
end
end
section
noncomputable section
noncomputable def Fi.C (n : Nat) : Ctx := ⟨Tryd.prog, rlpG, lookC [(26, Fv.c n), (27, Fm.c n)], fun _ => false⟩
noncomputable def Fi.A (n : Nat) : Ann := ⟨Tryd.f18.ntmps, 0, noNL, [], [none, none], fun k => match k with
 | _ => none, noNL, lookJ []⟩
def Fi.g {α : Type} (mk0 : Bool → Int → α) (mk1 : Bool → Int → LI → α) (mk2 : Bool → Int → LA → α) (n : Nat) (a0 : LI) : Option α :=
 bindO (Fv.m n (a0, 1)) fun r2 => match r2 with
  | (.inl r2) =>
   bindO (errors_Is1.m n (r2.2.1, 0)) fun r6 =>
    if r6 = true then
     some (mk0 false 40)
    else
     bindO (errors_Is1.m n (r2.2.1, 1)) fun r10 =>
      if r10 = true then
       some (mk0 false 40)
      else
       bindO (errors_Is1.m n (r2.2.1, 2)) fun r14 =>
        if r14 = true then
         some (mk0 false 40)
        else
         if (decide ((((List.length r2.2.2) : Nat) : Int) > 0)) = true then
          some (mk0 false 40)
         else
          some (mk0 r2.1 0)
  | (.inr (.inl r2)) =>
   bindO (errors_Is0.m n 0) fun r6 =>
    if r6 = true then
     some (mk0 false 40)
    else
     bindO (errors_Is0.m n 1) fun r10 =>
      if r10 = true then
       some (mk0 false 40)
      else
       bindO (errors_Is0.m n 2) fun r14 =>
        if r14 = true then
         some (mk0 false 40)
        else
         if (decide ((((List.length r2.2.1) : Nat) : Int) > 0)) = true then
          some (mk0 false 40)
         else
          some (mk1 r2.1 0 r2.2.2)
  | (.inr (.inr (.inl r2))) =>
   bindO (errors_Is1.m n (r2.2.1, 0)) fun r6 =>
    if r6 = true then
     some (mk0 false 40)
    else
     bindO (errors_Is1.m n (r2.2.1, 1)) fun r10 =>
      if r10 = true then
       some (mk0 false 40)
      else
       bindO (errors_Is1.m n (r2.2.1, 2)) fun r14 =>
        if r14 = true then
         some (mk0 false 40)
        else
         if (decide ((((List.length r2.2.2.2) : Nat) : Int) > 0)) = true then
          some (mk0 false 40)
         else
          some (mk1 r2.1 0 r2.2.2.1)
  | (.inr (.inr (.inr (.inl r2)))) =>
   bindO (errors_Is1.m n (r2.2.2.1, 0)) fun r6 =>
    if r6 = true then
     some (mk0 false 40)
    else
     bindO (errors_Is1.m n (r2.2.2.1, 1)) fun r10 =>
      if r10 = true then
       some (mk0 false 40)
      else
       bindO (errors_Is1.m n (r2.2.2.1, 2)) fun r14 =>
        if r14 = true then
         some (mk0 false 40)
        else
         if (decide ((((List.length r2.2.1) : Nat) : Int) > 0)) = true then
          some (mk0 false 40)
         else
          some (mk1 r2.1 0 r2.2.2.2)
  | (.inr (.inr (.inr (.inr (.inl r2))))) =>
   bindO (errors_Is1.m n (r2.2.2.1, 0)) fun r6 =>
    if r6 = true then
     some (mk0 false 40)
    else
     bindO (errors_Is1.m n (r2.2.2.1, 1)) fun r10 =>
      if r10 = true then
       some (mk0 false 40)
      else
       bindO (errors_Is1.m n (r2.2.2.1, 2)) fun r14 =>
        if r14 = true then
         some (mk0 false 40)
        else
         if (decide ((((List.length r2.2.1) : Nat) : Int) > 0)) = true then
          some (mk0 false 40)
         else
          some (mk2 r2.1 0 r2.2.2.2)
  | (.inr (.inr (.inr (.inr (.inr (.inl r2)))))) =>
   bindO (errors_Is0.m n 0) fun r6 =>
    if r6 = true then
     some (mk0 false 40)
    else
     bindO (errors_Is0.m n 1) fun r10 =>
      if r10 = true then
       some (mk0 false 40)
      else
       bindO (errors_Is0.m n 2) fun r14 =>
        if r14 = true then
         some (mk0 false 40)
        else
         if (decide ((((List.length r2.2.1) : Nat) : Int) > 0)) = true then
          some (mk0 false 40)
         else
          some (mk2 r2.1 0 r2.2.2)
  | (.inr (.inr (.inr (.inr (.inr (.inr r2)))))) =>
   bindO (errors_Is0.m n 0) fun r6 =>
    if r6 = true then
     some (mk0 false 40)
    else
     bindO (errors_Is0.m n 1) fun r10 =>
      if r10 = true then
       some (mk0 false 40)
      else
       bindO (errors_Is0.m n 2) fun r14 =>
        if r14 = true then
         some (mk0 false 40)
        else
         if (decide ((((List.length r2.2) : Nat) : Int) > 0)) = true then
          some (mk0 false 40)
         else
          some (mk0 r2.1 0)
def Fi.m (n : Nat) (t : LI) : Option ((Bool × Int) ⊕ ((Bool × (Int × LI)) ⊕ (Bool × (Int × LA)))) := Fi.g (fun a0 a1 => (.inl (a0, a1))) (fun a0 a1 a2 => (.inr (.inl (a0, a1, a2)))) (fun a0 a1 a2 => (.inr (.inr (a0, a1, a2)))) n t
def Fi.pat : List AV → Blks → Option LI
 | [(.rints .u8 a0)], [] => some a0
 | _, _ => none
def Fi.shape (t : LI) : List AV × Blks := ([(.rints .u8 t)], [])
def Fi.res : ((Bool × Int) ⊕ ((Bool × (Int × LI)) ⊕ (Bool × (Int × LA)))) → AV × Blks
 | (.inl u) => ((.tup [(.agg [(.bool u.1), .snil, .snil]), (.int .u16 u.2)]), [])
 | (.inr (.inl u)) => ((.tup [(.agg [(.bool u.1), (.own 0 1), .snil]), (.int .u16 u.2.1)]), [(some (.ints .u8 u.2.2))])
 | (.inr (.inr u)) => ((.tup [(.agg [(.bool u.1), .snil, (.own 0 3)]), (.int .u16 u.2.1)]), [(some (.objs 25 3 u.2.2))])
def Fi.resK {R : Type} (u : ((Bool × Int) ⊕ ((Bool × (Int × LI)) ⊕ (Bool × (Int × LA))))) (K : AV → Blks → Option R) : Option R := match u with
 | (.inl u) => (fun p : AV × Blks => K p.1 p.2) ((.tup [(.agg [(.bool u.1), .snil, .snil]), (.int .u16 u.2)]), [])
 | (.inr (.inl u)) => (fun p : AV × Blks => K p.1 p.2) ((.tup [(.agg [(.bool u.1), (.own 0 1), .snil]), (.int .u16 u.2.1)]), [(some (.ints .u8 u.2.2))])
 | (.inr (.inr u)) => (fun p : AV × Blks => K p.1 p.2) ((.tup [(.agg [(.bool u.1), .snil, (.own 0 3)]), (.int .u16 u.2.1)]), [(some (.objs 25 3 u.2.2))])
def Fi.c (n : Nat) : Abs.Callee := .mk' [] [(some (.ints .u8))] Fi.pat (Fi.m n) Fi.resK
end
end
section
namespace Go.Proofs
open Go Go.RowKit Go.Extern.Stop Go.Stop Go.Extern
theorem Tryd.isTypeOf (v : Value) (w : World) : (Extern.ReflectliteType.typeOf #[.iface 78 v]).run Tryd.prog w = .ok (.iface 68 (.agg #[.pointer (some ⟨3, 78, none⟩)])) w := by kernel_rfl
noncomputable def cmpEntry : Array Value → Sem Value := (Extern.find Tryd.f55).getD fun _ => pure (.tuple #[])
theorem Tryd.isComparable (w : World) : (cmpEntry #[.agg #[.pointer (some ⟨3, 78, none⟩)]]).run Tryd.prog w = .ok (.bool true) w := by kernel_rfl
theorem Tryd.isMethodComparable (v : Value) (w : World) : (Go.method 215 68 v "Comparable").run Tryd.prog w = .ok (55, v) w := by kernel_rfl
theorem Tryd.isComp : (Tryd.prog.info? 78).map (·.comparable) = some true := by kernel_rfl
theorem Tryd.isSize : (Tryd.prog.info? 104).map (·.size) = some 1 := by kernel_rfl
theorem Tryd.noIsE (v : Value) (xT : TypeId) (w : World) : (Instr.typeAssert (.iface 78 v) xT 70 true).run Tryd.prog w = .ok (.tuple #[.nilIface, .bool false]) w := run_typeAssert_lacksB Tryd.underlying70 (by kernel_rfl) (by kernel_rfl) v xT w
theorem Tryd.noUnwrapE (v : Value) (xT : TypeId) (w : World) : (Instr.typeAssert (.iface 78 v) xT 73 true).run Tryd.prog w = .ok (.tuple #[.nilIface, .bool false]) w := run_typeAssert_lacksB Tryd.underlying73 (by kernel_rfl) (by kernel_rfl) v xT w
theorem Tryd.noUnwrapsE (v : Value) (xT : TypeId) (w : World) : (Instr.typeAssert (.iface 78 v) xT 75 true).run Tryd.prog w = .ok (.tuple #[.nilIface, .bool false]) w := run_typeAssert_lacksB Tryd.underlying75 (by kernel_rfl) (by kernel_rfl) v xT w
theorem Tryd.noIsW (v : Value) (xT : TypeId) (w : World) : (Instr.typeAssert (.iface 58 v) xT 70 true).run Tryd.prog w = .ok (.tuple #[.nilIface, .bool false]) w := run_typeAssert_lacksB Tryd.underlying70 (by kernel_rfl) (by kernel_rfl) v xT w
theorem Tryd.hasUnwrapW (v : Value) (xT : TypeId) (w : World) : (Instr.typeAssert (.iface 58 v) xT 73 true).run Tryd.prog w = .ok (.tuple #[.iface 58 v, .bool true]) w := run_typeAssert_hasB Tryd.underlying73 (by kernel_rfl) v xT w
theorem Tryd.methodUnwrap (v : Value) (w : World) : (Go.method 215 58 v "Unwrap").run Tryd.prog w = .ok (51, v) w := by kernel_rfl
inductive Chain (W : World) (p : Addr) : Value → Nat → Prop
  | leaf : Chain W p (.iface 78 (.pointer (some p))) 0
  | wrap (pb po : Nat) (E : Value) (n : Nat) : W.cell? ⟨pb, po + 1, none⟩ = some E → Chain W p E n → Chain W p (.iface 58 (.pointer (some ⟨pb, po, none⟩))) (n + 1)
theorem Chain.unique {W : World} {p : Addr} {E : Value} {l l' : Nat} (h : Chain W p E l) (h' : Chain W p E l') : l = l' := by
  induction h generalizing l' with
  | leaf => cases h'; rfl
  | wrap pb po E1 l1 hc h1 ih =>
    cases h' with
    | wrap _ _ E2 l2 hc2 h2 => rw [hc] at hc2; cases hc2; rw [ih h2]
open Classical in
noncomputable def chainLen (W : World) (p : Addr) (E : Value) : Nat := if h : ∃ l, Chain W p E l then h.choose else 0
theorem chainLen_eq {W : World} {p : Addr} {E : Value} {l : Nat} (h : Chain W p E l) : chainLen W p E = l := by
  unfold chainLen
  rw [dif_pos ⟨l, h⟩]
  rw [Chain.unique (Exists.choose_spec ⟨l, h⟩) h]
set_option maxRecDepth 1000000 in
theorem is_chain {W : World} (a b : Addr) (ca cb : Array Value) (ta tb : TypeId) (ha : W.heap[a.block]? = some (.cells ca ta (0, 0))) (hb : W.heap[b.block]? = some (.cells cb tb (0, 0))) (E : Value) (l : Nat) (hch : Chain W a E l) :
    Calls Tryd.prog 32 #[E, .iface 78 (.pointer (some b)), .bool true] W fun e w' => e = .returned (.bool (decide (a = b))) ∧ w' = W := by
  obtain ⟨i, hi, hcmp⟩ := Option.map_eq_some_iff.1 Tryd.isComp
  obtain ⟨j, hj, hjs⟩ := Option.map_eq_some_iff.1 Tryd.isSize
  have nE := Tryd.noIsE
  have uE := Tryd.noUnwrapE
  have vE := Tryd.noUnwrapsE
  have nW := Tryd.noIsW
  have uW := Tryd.hasUnwrapW
  have mU := Tryd.methodUnwrap
  go_enter Tryd.func32, Tryd.ntmps32
  go_wp2
  go_loopw [0] (fun E' wl => wl = W ∧ ∃ l', Chain W a E' l') (fun E' _ => chainLen W a E')
  case atStart => exact ⟨rfl, l, hch⟩
  case round =>
    obtain ⟨rfl, l', hc'⟩ := hrel
    cases hc' with
    | leaf =>
      by_cases hab : a = b
      · subst hab
        have heq := run_eql_iface_ptr_same (P := Tryd.prog) wr a Tryd.underlying50 Tryd.underlying78 hi hcmp hj
        go_wp2
        go_ret
        exact ⟨by simp, rfl⟩
      · have heq := run_eql_iface_ptr_other (P := Tryd.prog) wr Tryd.underlying50 Tryd.underlying78 hi hcmp hj (by rw [hjs]; decide) hab ha hb
        go_wp2
        go_ret
        exact ⟨by simp [hab], rfl⟩
    | wrap pb po E1 l1 hcell h1 =>
      have hty := run_eql_iface_types (P := Tryd.prog) 58 78 (.pointer (some ⟨pb, po, none⟩)) (.pointer (some b)) Tryd.underlying50 (by decide) wr
      have hlen := chainLen_eq h1
      have hlen0 := chainLen_eq (Chain.wrap pb po E1 l1 hcell h1)
      have hne : ∃ u v, E1 = .iface u v := by cases h1 <;> exact ⟨_, _, rfl⟩
      obtain ⟨u1, v1, rfl⟩ := hne
      have HC : Hid (Chain wr a (.iface u1 v1) l1) := h1
      clear h1
      go_wp2
      
      
      go_wp2
      go_roundw
      case rel => exact ⟨trivial, l1, HC.out⟩
      case measure =>
        show chainLen wr a (.iface u1 v1) < _
        rw [hlen, hlen0]; simp
theorem is_nil (b : Addr) (w : World) :
    Calls Tryd.prog 27 #[.nilIface, .iface 78 (.pointer (some b))] w fun e w' => e = .returned (.bool false) ∧ w' = w := by
  have hn := run_eql_iface_nil_left (P := Tryd.prog) w 78 (.pointer (some b)) Tryd.underlying50
  go_enter Tryd.func27, Tryd.ntmps27
  go_wp2
  go_ret
  exact ⟨rfl, rfl⟩
set_option maxRecDepth 1000000 in
theorem is_err {W : World} (a b : Addr) (ca cb : Array Value) (ta tb : TypeId) (ha : W.heap[a.block]? = some (.cells ca ta (0, 0))) (hb : W.heap[b.block]? = some (.cells cb tb (0, 0))) (u : TypeId) (v : Value) (l : Nat) (hch : Chain W a (.iface u v) l) :
    Calls Tryd.prog 27 #[.iface u v, .iface 78 (.pointer (some b))] W fun e w' => e = .returned (.bool (decide (a = b))) ∧ w' = W := by
  have h10 := @run_callFunc_extern Tryd.prog 31 _ Extern.ReflectliteType.typeOf Tryd.func31 (by kernel_rfl) (by kernel_rfl) (by kernel_rfl) (by kernel_rfl)
  have h30 := @run_callFunc_extern Tryd.prog 55 _ cmpEntry Tryd.func55 (by kernel_rfl) (by kernel_rfl) (by kernel_rfl) (by kernel_rfl)
  have tT := Tryd.isTypeOf
  have cT := Tryd.isComparable
  have mR := Tryd.isMethodComparable
  have hcon := is_chain a b ca cb ta tb ha hb (.iface u v) l hch
  clear hch
  go_enter Tryd.func27, Tryd.ntmps27
  go_wp2_with (first | (go_at_call 32; refine hcon.mono ?_; rintro e w' ⟨rfl, rfl⟩) | go_in)
  go_ret
  exact ⟨rfl, rfl⟩
end Go.Proofs
namespace Go.Abs
open Go Go.Proofs Go.RowKit
theorem chain_of {E : Env} {k : Nat} {p : Addr} (hc : E.cell k 0 = some (.iface 78 (.pointer (some p)))) {v : Value} (h : ErrCh E 58 78 k v) : ∃ l, Chain E.w p v l := by
  induction h with
  | base q h h2 => rw [hc] at h2; cases h2; exact ⟨0, .leaf⟩
  | wrap a v hs h0 h1 h2 _ ih =>
    obtain ⟨l, hl⟩ := ih
    obtain ⟨ab, ao, sp⟩ := a
    simp only at hs
    subst hs
    exact ⟨l + 1, .wrap _ _ _ _ h2 hl⟩
theorem rlpG_errv {k : Nat} (h : k ≤ 2) : rlpG k = .errv 58 78 k := by
  match k, h with
  | 0, _ => rfl
  | 1, _ => rfl
  | 2, _ => rfl
theorem errAt {E : Env} (g : Glob rlpG E) {k : Nat} (h : k ≤ 2) : ErrAt E k 78 := (g.errs k 58 78 k (rlpG_errv h)).2
theorem errv_inv {E : Env} {o : Bool} {k : Nat} {v : Value} (h : VR E o (.errv 58 78 k) v) : ErrV E 58 78 k v := by cases h; assumption
theorem target {E : Env} {k : Nat} {b : Addr} (hk : k ≤ 2) (hc : E.cell k 0 = some (.iface 78 (.pointer (some b)))) {v : Value} (h : VR E true (.errv 58 78 k) v) : v = .iface 78 (.pointer (some b)) := by
  have := ((errv_inv h).base (by omega)).2
  rw [hc] at this
  cases this
  rfl
theorem isNil_ok (k : Nat) (hk : k ≤ 2) : FnOK Tryd.prog rlpG 27 [.nili, .errv 58 78 k] [] (.bool false) [] := by
  intro E vs hbl m g ha
  obtain ⟨v, w, rfl, hv, hw⟩ := args2 ha
  cases hv
  obtain ⟨b, cb, tb, h1, h2, h3, h4, h5, h6⟩ := errAt g hk
  rw [target hk h3 hw]
  refine .inl ⟨Tryd.f27, Tryd.func27, by decide, by kernel_rfl, (is_nil b E.w).mono ?_⟩
  rintro e W' ⟨rfl, rfl⟩
  exact ⟨_, rfl, E, rfl, hbl, Go.refl m, .bool _ _⟩
theorem isErr_ok (j k : Nat) (hj : j % 100 ≤ 2) (hk : k ≤ 2) : FnOK Tryd.prog rlpG 27 [.errv 58 78 j, .errv 58 78 k] [] (.bool (decide (j % 100 = k))) [] := by
  intro E vs hbl m g ha
  obtain ⟨v, w, rfl, hv, hw⟩ := args2 ha
  obtain ⟨b, cb, tb, h1, h2, h3, h4, h5, h6⟩ := errAt g hk
  obtain ⟨a, ca, ta, a1, a2, a3, a4, a5, a6⟩ := errAt g hj
  rw [target hk h3 hw]
  obtain ⟨l, hl⟩ := chain_of a3 (errv_inv hv).ch
  obtain ⟨u, x, rfl⟩ : ∃ u x, v = .iface u x := by cases hl <;> exact ⟨_, _, rfl⟩
  refine .inl ⟨Tryd.f27, Tryd.func27, by decide, by kernel_rfl, (is_err a b ca cb ta tb a5 h5 u x l hl).mono ?_⟩
  rintro e W' ⟨rfl, rfl⟩
  have e : decide (a = b) = decide (j % 100 = k) := by
    by_cases hjk : j % 100 = k
    · have : a = b := by
        rw [hjk, h3] at a3
        cases a3
        rfl
      simp [this, hjk]
    · have : a ≠ b := fun hab => by
        subst hab
        exact g.dif _ _ _ _ _ _ _ _ (rlpG_errv hj) (rlpG_errv hk) hjk _ _ _ a3 h3
      simp [this, hjk]
  rw [e]
  exact ⟨_, rfl, E, rfl, hbl, Go.refl m, .bool _ _⟩
end Go.Abs
end
section
theorem errors_Is0.s (hmix : Tryd.prog.follows .mixedOrders = true) (n : Nat) : CalleeS Tryd.prog rlpG 27 (errors_Is0.c n) :=
  CalleeS.of (res := errors_Is0.res) (shape := errors_Is0.shape) (fun R u K => rfl) (fun args lent t h => by
    unfold errors_Is0.pat at h
    split at h
    · cases h; rfl
    · cases h) fun t u h => by
      unfold errors_Is0.m at h
      split at h
      · cases h; exact isNil_ok t (by assumption)
      · cases h
theorem errors_Is1.s (hmix : Tryd.prog.follows .mixedOrders = true) (n : Nat) : CalleeS Tryd.prog rlpG 27 (errors_Is1.c n) :=
  CalleeS.of (res := errors_Is1.res) (shape := errors_Is1.shape) (fun R u K => rfl) (fun args lent t h => by
    unfold errors_Is1.pat at h
    split at h
    · cases h; rfl
    · cases h) fun t u h => by
      unfold errors_Is1.m at h
      split at h
      · rename_i hj
        split at h
        · rename_i hk
          cases h; exact isErr_ok t.1 t.2 hj hk
        · cases h
      · cases h
theorem Fm.s (hmix : Tryd.prog.follows .mixedOrders = true) (n : Nat) : CalleeS Tryd.prog rlpG 27 (Fm.c n) := .pick (errors_Is0.s hmix n) (errors_Is1.s hmix n)
end
section
theorem Fi.gmap {α β : Type} (h : β → α) (mk0 : Bool → Int → β) (mk1 : Bool → Int → LI → β) (mk2 : Bool → Int → LA → β) (n : Nat) (a0 : LI) : Fi.g (fun a0 a1 => (h (mk0 a0 a1))) (fun a0 a1 a2 => (h (mk1 a0 a1 a2))) (fun a0 a1 a2 => (h (mk2 a0 a1 a2))) n a0 = (Fi.g mk0 mk1 mk2 n a0).map h := by
  unfold Fi.g
  exact (bindO_map fun r2 => match r2 with | (.inl r2) => (bindO_map fun r6 => (ite_map rfl (bindO_map fun r10 => (ite_map rfl (bindO_map fun r14 => (ite_map rfl (ite_map rfl rfl))))))) | (.inr (.inl r2)) => (bindO_map fun r6 => (ite_map rfl (bindO_map fun r10 => (ite_map rfl (bindO_map fun r14 => (ite_map rfl (ite_map rfl rfl))))))) | (.inr (.inr (.inl r2))) => (bindO_map fun r6 => (ite_map rfl (bindO_map fun r10 => (ite_map rfl (bindO_map fun r14 => (ite_map rfl (ite_map rfl rfl))))))) | (.inr (.inr (.inr (.inl r2)))) => (bindO_map fun r6 => (ite_map rfl (bindO_map fun r10 => (ite_map rfl (bindO_map fun r14 => (ite_map rfl (ite_map rfl rfl))))))) | (.inr (.inr (.inr (.inr (.inl r2))))) => (bindO_map fun r6 => (ite_map rfl (bindO_map fun r10 => (ite_map rfl (bindO_map fun r14 => (ite_map rfl (ite_map rfl rfl))))))) | (.inr (.inr (.inr (.inr (.inr (.inl r2)))))) => (bindO_map fun r6 => (ite_map rfl (bindO_map fun r10 => (ite_map rfl (bindO_map fun r14 => (ite_map rfl (ite_map rfl rfl))))))) | (.inr (.inr (.inr (.inr (.inr (.inr r2)))))) => (bindO_map fun r6 => (ite_map rfl (bindO_map fun r10 => (ite_map rfl (bindO_map fun r14 => (ite_map rfl (ite_map rfl rfl))))))))
theorem Fi.run (n : Nat) (a0 : LI) : runF (Fi.C n) (Fi.A n) n Tryd.f18 [(.rints .u8 a0)] [] (fun v o => some (v, o)) = Fi.g (fun a0 a1 => (((.tup [(.agg [(.bool a0), .snil, .snil]), (.int .u16 a1)]), []) : AV × Blks)) (fun a0 a1 a2 => (((.tup [(.agg [(.bool a0), (.own 0 1), .snil]), (.int .u16 a1)]), [(some (.ints .u8 a2))]) : AV × Blks)) (fun a0 a1 a2 => (((.tup [(.agg [(.bool a0), .snil, (.own 0 3)]), (.int .u16 a1)]), [(some (.objs 25 3 a2))]) : AV × Blks)) n a0 := by kernel_rfl
theorem Fi.call (hmix : Tryd.prog.follows .mixedOrders = true) (n : Nat) (t : LI) (u) (h : Fi.m n t = some u) : FnC Tryd.prog rlpG 18 (Fi.shape t).1 (Fi.shape t).2 (Fi.res u).1 (Fi.res u).2 :=
  fnC1 (C := Fi.C n) (A := Fi.A n) (fn := Tryd.f18) rfl (.cons (Fv.s hmix n) (.cons (Fm.s hmix n) .nil)) hmix Tryd.func18 (by kernel_rfl) (lp := []) (by kernel_rfl) .nil
  (nj rfl) (by decide) rfl rfl (by show 1 ≤ Tryd.f18.ntmps; decide) (Fi.run n t) (Fi.gmap Fi.res (fun a0 a1 => (.inl (a0, a1))) (fun a0 a1 a2 => (.inr (.inl (a0, a1, a2)))) (fun a0 a1 a2 => (.inr (.inr (a0, a1, a2)))) n t) h
theorem Fi.s (hmix : Tryd.prog.follows .mixedOrders = true) (n : Nat) : CalleeS Tryd.prog rlpG 18 (Fi.c n) :=
  .mk1 (res := Fi.res) (shape := Fi.shape) (fun R u K => by rcases u with u | u | u <;> rfl) (fun _ _ _ h => by unfold Fi.pat at h; split at h <;> cases h; rfl) (fun t u h => Fi.call hmix n t u h) Tryd.func18 (by decide) (by kernel_rfl)
end
section
noncomputable section
noncomputable def Fc.C (n : Nat) : Ctx := ⟨Tryd.prog, rlpG, lookC [], fun _ => false⟩
noncomputable def Fc.A (n : Nat) : Ann := ⟨Tryd.f11.ntmps, 0, noNL, [], [none], fun k => match k with
 | _ => none, noNL, lookJ []⟩
def Fc.g {α : Type} (mk0 : Bool → α) (n : Nat) (a0 : LI) (a1 : LI) : Option α :=
 some (mk0 ((ByteArray.toList (Go.Abs.strOf a0)) == (ByteArray.toList (Go.Abs.strOf a1))))
def Fc.m (n : Nat) (t : (LI × LI)) : Option Bool := Fc.g (fun a0 => a0) n t.1 t.2
def Fc.pat : List AV → Blks → Option (LI × LI)
 | [(.rints .u8 a0), (.rints .u8 a1)], [] => some (a0, a1)
 | _, _ => none
def Fc.shape (t : (LI × LI)) : List AV × Blks := ([(.rints .u8 t.1), (.rints .u8 t.2)], [])
def Fc.res : Bool → AV × Blks
 | u => ((.bool u), [])
def Fc.resK {R : Type} (u : Bool) (K : AV → Blks → Option R) : Option R := K (Fc.res u).1 (Fc.res u).2
def Fc.c (n : Nat) : Abs.Callee := .mk' [] [(some (.ints .u8)), (some (.ints .u8))] Fc.pat (Fc.m n) Fc.resK
end
end
section
theorem Fc.gmap {α β : Type} (h : β → α) (mk0 : Bool → β) (n : Nat) (a0 : LI) (a1 : LI) : Fc.g (fun a0 => (h (mk0 a0))) n a0 a1 = (Fc.g mk0 n a0 a1).map h := by
  unfold Fc.g
  exact rfl
theorem Fc.run (n : Nat) (a0 : LI) (a1 : LI) : runF (Fc.C n) (Fc.A n) n Tryd.f11 [(.rints .u8 a0), (.rints .u8 a1)] [] (fun v o => some (v, o)) = Fc.g (fun a0 => (((.bool a0), []) : AV × Blks)) n a0 a1 := by kernel_rfl
theorem Fc.call (hmix : Tryd.prog.follows .mixedOrders = true) (n : Nat) (t : (LI × LI)) (u) (h : Fc.m n t = some u) : FnC Tryd.prog rlpG 11 (Fc.shape t).1 (Fc.shape t).2 (Fc.res u).1 (Fc.res u).2 :=
  fnC1 (C := Fc.C n) (A := Fc.A n) (fn := Tryd.f11) rfl .nil hmix Tryd.func11 (by kernel_rfl) (lp := []) (by kernel_rfl) .nil
  (nj rfl) (by decide) rfl rfl (by show 2 ≤ Tryd.f11.ntmps; decide) (Fc.run n t.1 t.2) (Fc.gmap Fc.res (fun a0 => a0) n t.1 t.2) h
theorem Fc.s (hmix : Tryd.prog.follows .mixedOrders = true) (n : Nat) : CalleeS Tryd.prog rlpG 11 (Fc.c n) :=
  .mk1 (res := Fc.res) (shape := Fc.shape) (fun R u K => rfl) (fun _ _ _ h => by unfold Fc.pat at h; split at h <;> cases h; rfl) (fun t u h => Fc.call hmix n t u h) Tryd.func11 (by decide) (by kernel_rfl)
end
section
noncomputable section
noncomputable def Fk.C (n : Nat) : Ctx := ⟨Tryd.prog, rlpG, lookC [(24, Ft.c n)], fun _ => false⟩
noncomputable def Fk.A (n : Nat) : Ann := ⟨Tryd.f15.ntmps, 0, noNL, [], [none], fun k => match k with
 | _ => none, noNL, lookJ []⟩
def Fk.g {α : Type} (mk0 : Bool → LI → α) (n : Nat) (a0 : Int) : Option α :=
 bindO (Ft.m n a0) fun r2 =>
  some (mk0 false r2)
def Fk.m (n : Nat) (t : Int) : Option (Bool × LI) := Fk.g (fun a0 a1 => (a0, a1)) n t
def Fk.pat : List AV → Blks → Option Int
 | [(.int .u64 a0)], [] => some a0
 | _, _ => none
def Fk.shape (t : Int) : List AV × Blks := ([(.int .u64 t)], [])
def Fk.res : (Bool × LI) → AV × Blks
 | u => ((.agg [(.bool u.1), (.own 0 1), .snil]), [(some (.ints .u8 u.2))])
def Fk.resK {R : Type} (u : (Bool × LI)) (K : AV → Blks → Option R) : Option R := K (Fk.res u).1 (Fk.res u).2
def Fk.c (n : Nat) : Abs.Callee := .mk' [] [none] Fk.pat (Fk.m n) Fk.resK
end
end
section
noncomputable section
def Fn.m (n : Nat) (t : Unit) : Option Bool := if n = 200000 then some true else none
def Fn.pat : List AV → Blks → Option Unit
 | [], [] => some ()
 | _, _ => none
def Fn.shape (t : Unit) : List AV × Blks := ([], [])
def Fn.res : Bool → AV × Blks
 | u => ((.bool u), [])
def Fn.resK {R : Type} (u : Bool) (K : AV → Blks → Option R) : Option R := K (Fn.res u).1 (Fn.res u).2
def Fn.c (n : Nat) : Abs.Callee := .mk' [] [] Fn.pat (Fn.m n) Fn.resK
end
end
section
namespace Go.Proofs
open Go
noncomputable def Tryd.rest10 : Code := match Tryd.f10.body with | some (.seq _ (.seq _ r)) => r | _ => .skip
end Go.Proofs
end
section
theorem Fk.gmap {α β : Type} (h : β → α) (mk0 : Bool → LI → β) (n : Nat) (a0 : Int) : Fk.g (fun a0 a1 => (h (mk0 a0 a1))) n a0 = (Fk.g mk0 n a0).map h := by
  unfold Fk.g
  exact (bindO_map fun r2 => rfl)
theorem Fk.run (n : Nat) (a0 : Int) : runF (Fk.C n) (Fk.A n) n Tryd.f15 [(.int .u64 a0)] [] (fun v o => some (v, o)) = Fk.g (fun a0 a1 => (((.agg [(.bool a0), (.own 0 1), .snil]), [(some (.ints .u8 a1))]) : AV × Blks)) n a0 := by kernel_rfl
theorem Fk.call (hmix : Tryd.prog.follows .mixedOrders = true) (n : Nat) (t : Int) (u) (h : Fk.m n t = some u) : FnC Tryd.prog rlpG 15 (Fk.shape t).1 (Fk.shape t).2 (Fk.res u).1 (Fk.res u).2 :=
  fnC1 (C := Fk.C n) (A := Fk.A n) (fn := Tryd.f15) rfl (.cons (Ft.s hmix n) .nil) hmix Tryd.func15 (by kernel_rfl) (lp := []) (by kernel_rfl) .nil
  (nj rfl) (by decide) rfl rfl (by show 1 ≤ Tryd.f15.ntmps; decide) (Fk.run n t) (Fk.gmap Fk.res (fun a0 a1 => (a0, a1)) n t) h
theorem Fk.s (hmix : Tryd.prog.follows .mixedOrders = true) (n : Nat) : CalleeS Tryd.prog rlpG 15 (Fk.c n) :=
  .mk1 (res := Fk.res) (shape := Fk.shape) (fun R u K => rfl) (fun _ _ _ h => by unfold Fk.pat at h; split at h <;> cases h; rfl) (fun t u h => Fk.call hmix n t u h) Tryd.func15 (by decide) (by kernel_rfl)
end
section
namespace Go.Proofs
open Go Go.RowKit Go.Extern.Stop Go.Stop Go.Extern Go.Abs
theorem Tryd.under22' : Tryd.prog.underlying 22 = some (.slice 5) := by kernel_rfl
theorem Tryd.under5' : Tryd.prog.underlying 5 = some (.int .u8) := by kernel_rfl
theorem mark_run {P : Program} (w : World) (b : Nat) (t : TypeId) (n : Nat) (h : w.shape? b = some (t, n)) : (markStringish ⟨b, 0, none⟩).run P w = .ok () (w.freeze ⟨b, n, none⟩ 1) := by
  unfold markStringish
  simp only [shape, Sem.run_bind]
  show Result.andThen (Result.ok (w.shape? b) w) _ = _
  rw [h]
  rfl
theorem mark_new {P : Program} (w : World) (cs : Array Value) (t : TypeId) : (markStringish ⟨w.heap.size, 0, none⟩).run P (w.alloc (.cells cs t (0, 0))) = .ok () (w.alloc (.cells cs t (cs.size, cs.size + 1))) := by
  have e : (w.heap.push (.cells cs t (0, 0)))[w.heap.size]? = some (.cells cs t (0, 0)) := by rw [Array.getElem?_push, if_pos rfl]
  rw [mark_run _ _ t cs.size (by show (match (w.heap.push (.cells cs t (0, 0)))[w.heap.size]? with | some (.cells c elem _) => some (elem, c.size) | _ => none) = _; rw [e])]
  congr 1
  unfold World.freeze
  rw [if_neg (by decide)]
  show ({ w with heap := (w.heap.push _).modify w.heap.size _ } : World) = { w with heap := w.heap.push _ }
  congr 1
  apply Array.ext
  · simp
  · intro i h1 h2
    simp only [Array.getElem_modify, Array.getElem_push]
    by_cases hi : w.heap.size = i
    · subst hi; simp
    · have h3 : i < w.heap.size := by simp at h2; omega
      simp [hi, h3]
theorem conv22 (w : World) : (convert 22 22 (.slice (some ⟨w.heap.size, 0, none⟩) 3 3)).run Tryd.prog (w.alloc (.cells #[.int .u8 100, .int .u8 111, .int .u8 103] 5)) = .ok (.slice (some ⟨w.heap.size, 0, none⟩) 3 3) (w.alloc (.cells #[.int .u8 100, .int .u8 111, .int .u8 103] 5 (3, 4))) := by
  have h : (convert 22 22 (.slice (some ⟨w.heap.size, 0, none⟩) 3 3)).run Tryd.prog (w.alloc (.cells #[.int .u8 100, .int .u8 111, .int .u8 103] 5)) = (do markStringish ⟨w.heap.size, 0, none⟩; pure (.slice (some ⟨w.heap.size, 0, none⟩) 3 3) : Sem Value).run Tryd.prog (w.alloc (.cells #[.int .u8 100, .int .u8 111, .int .u8 103] 5)) := by
    simp [convert, run_underlying Tryd.under22', run_underlying Tryd.under5']
  rw [h, Sem.run_bind, mark_new]
  rfl
theorem kn (E : Env) (Q : Ending → World → Prop) (Good : World → Value → Prop) (Good2 : World → Value → Prop)
    (hcall : ∀ W1 v, Good W1 v → Calls Tryd.prog 12 #[v] W1 fun e w' => ∃ v', e = .returned v' ∧ Good2 w' v')
    (h1 : Good (E.w.alloc (.cells #[.int .u8 100, .int .u8 111, .int .u8 103] 5 (3, 4))) (.agg #[.bool false, .slice (some ⟨E.w.heap.size, 0, none⟩) 3 3, .slice none 0 0]))
    (hrest : ∀ a w, (∃ v', Good2 w v' ∧ a.tmps.getD 1 undef = v' ∧ a.tmps.size = 54 ∧ a.defers = []) → Code.wp Tryd.prog Tryd.rest10 (bodyPost Tryd.prog Tryd.f10 Q) a w) : Calls Tryd.prog 10 #[] E.w Q := by
  have hconv := conv22 E.w
  go_enter Tryd.func10, Tryd.ntmps10
  change Code.wp Tryd.prog (Code.seq _ (Code.seq _ Tryd.rest10)) _ _ _
  generalize Tryd.rest10 = R at hrest ⊢
  go_wp2_with (first | (go_at_call 12; refine (hcall _ _ h1).mono ?_; rintro e w' ⟨v', rfl, hg⟩) | go_in)
  refine hrest _ _ ?_
  exact ⟨_, hg, rfl, rfl, rfl⟩
end Go.Proofs
namespace Go.Abs
open Go Go.Proofs Go.RowKit
noncomputable def knC : Ctx := ⟨Tryd.prog, rlpG, fun f => match f with
  | 12 => some (Ff.c 200000)
  | 18 => some (Fi.c 200000)
  | 15 => some (Fk.c 200000)
  | _ => none, fun t => t == 5000022⟩
noncomputable def knA : Ann := ⟨54, 0, fun _ => ([], []), [], [none], fun _ => none, fun _ => ([], []), fun _ => none⟩
def knSt : St := ⟨[.any, .own 0 1] ++ List.replicate 52 .any, [some (.ints .u8 [131, 100, 111, 103])]⟩
theorem knRun : X knC knA 200000 Tryd.rest10 knSt (restK knC knA Tryd.f10) = some (.bool true, []) := by kernel_rfl
theorem knEnc : Ff.mr 200000 2 (false, [100, 111, 103], []) = some [131, 100, 111, 103] := by kernel_rfl
theorem knItem (E : Env) : VR (E.newMk #[.int .u8 100, .int .u8 111, .int .u8 103] 5 (3, 4)) true (.agg [.bool false, .rints .u8 [100, 111, 103], .robjs 25 3 []]) (.agg #[.bool false, .slice (some ⟨E.w.heap.size, 0, none⟩) 3 3, .slice none 0 0]) := by
  have hc : ∀ o, (E.newMk #[.int .u8 100, .int .u8 111, .int .u8 103] 5 (3, 4)).cell E.w.heap.size o = (#[Value.int .u8 100, .int .u8 111, .int .u8 103] : Array Value)[o]? := fun o => World.cell?_alloc_mark E.w _ 5 (3, 4) o
  refine .agg _ _ _ (.agg _ fun x hx => ?_) rfl fun j x c hx hcj => ?_
  · simp at hx
    rcases hx with rfl | rfl | rfl <;> exact .leaf _ ⟨by simp, by simp⟩
  · match j with
    | 0 => cases hx; cases hcj; exact .bool _ _
    | 1 =>
      cases hx; cases hcj
      refine .rints _ _ [100, 111, 103] _ _ (by simp) fun i hi => ⟨_, rfl, rfl, .inr ⟨rfl, by simpa using hi⟩, ?_⟩
      show (E.newMk _ 5 (3, 4)).cell E.w.heap.size (0 + i) = _
      rw [hc]
      match i, hi with
      | 0, _ => rfl
      | 1, _ => rfl
      | 2, _ => rfl
      | i + 3, h => exact absurd h (by simp)
    | 2 =>
      cases hx; cases hcj
      exact .robjs _ _ _ [] _ _ (by simp) (by simp) (fun _ _ => .bool false) (by simp) (fun ad i x j y _ h => by simp at h) (fun i x j y h => by simp at h)
    | j + 3 => simp [flats, flat] at hx
theorem known_ok (hmix : Tryd.prog.follows .mixedOrders = true) : FnOK Tryd.prog rlpG 10 [] [] (.bool true) [] := by
  intro E vs hbl m g ha
  obtain rfl : vs = #[] := Array.size_eq_zero_iff.1 (by simpa using ha.size)
  refine .inl ⟨Tryd.f10, Tryd.func10, by decide, by kernel_rfl, ?_⟩
  have hΓ : ∀ f mm, knC.Γ f = some mm → CalleeS knC.P knC.G f mm := by
    intro f mm hm
    unfold knC at hm
    simp only at hm
    split at hm <;> first
      | (cases hm; exact Ff.s hmix 200000)
      | (cases hm; exact Fi.s hmix 200000)
      | (cases hm; exact Fk.s hmix 200000)
      | (cases hm; done)
  refine kn E _ (fun W1 v => ∃ E1, E1.w = W1 ∧ E1.bl = [] ∧ Go E E1 ∧ VR E1 true (.agg [.bool false, .rints .u8 [100, 111, 103], .robjs 25 3 []]) v)
    (fun w v' => ∃ E2, E2.w = w ∧ E2.bl = [some (.ints .u8 [131, 100, 111, 103])] ∧ Go E E2 ∧ VR E2 true (.own 0 1) v') ?_ ?_ ?_
  · rintro W1 v ⟨E1, rfl, hb1, g1, hv⟩
    have hc := Ff.call hmix 200000 (Ff.mr 200000 1) (Ff.s' hmix 200000 1) (false, [100, 111, 103], []) [131, 100, 111, 103] knEnc
    refine (hc E1 #[v] hb1 g1.mem (g.mono g1.step.ro g1.fr.keeps) ⟨rfl, fun j x c hx hcj => ?_⟩).mono fun e w' ⟨v', he, E', h1, h2, h3, h4⟩ => ⟨v', he, E', h1, h2, g1.trans h3, h4⟩
    match j with
    | 0 => cases hx; cases hcj; exact hv
    | j + 1 => simp [Ff.shape] at hx
  · exact ⟨E.newMk _ 5 (3, 4), rfl, hbl, Go.newMk m _ _ _, knItem E⟩
  · rintro a w ⟨v', ⟨E2, rfl, hb2, g2, hv⟩, ht, hsz, hdf⟩
    have s : SR knC E2 knSt.tm knSt.bl a := by
      refine ⟨hb2, g2.mem, g.mono g2.step.ro g2.fr.keeps, hsz, fun t => ?_, hdf⟩
      match t with
      | 0 => exact .any _ _
      | 1 => show VR E2 true (.own 0 1) _; rw [ht]; exact hv
      | t + 2 =>
        have : knSt.tm.getD (t + 2) .any = .any := by
          show (([AV.any, AV.own 0 1] ++ List.replicate 52 AV.any).getD (t + 2) AV.any) = AV.any
          rw [List.getD_eq_getElem?_getD, List.getElem?_append_right (by simp), List.getElem?_replicate]
          split <;> rfl
        rw [this]
        exact .any _ _
    refine rest_sound (n := 200000) hΓ hmix (A := knA) (st := knSt) (by intro b hb mm hm; cases hm) (by intro b hb mm hm; cases hm) rfl knRun E2 a s E (by rw [hbl]; rfl) (g2.toL (Nat.zero_le _)) _ fun v2 E3 g3 h3 h4 => ?_
    exact ⟨v2, rfl, E3, rfl, h3, g3, h4⟩
end Go.Abs
end
section
theorem Fn.s (hmix : Tryd.prog.follows .mixedOrders = true) (n : Nat) : CalleeS Tryd.prog rlpG 10 (Fn.c n) :=
  CalleeS.of (res := Fn.res) (shape := Fn.shape) (fun R u K => rfl) (fun args lent t h => by
    unfold Fn.pat at h
    split at h
    · cases h; rfl
    · cases h) fun t u h => by
      unfold Fn.m at h
      split at h
      · cases h; exact known_ok hmix
      · cases h
end
section
noncomputable section
noncomputable def Fe.C (n : Nat) : Ctx := ⟨Tryd.prog, rlpG, lookC [(9, Fr.c n), (10, Fn.c n), (12, Ff.c n), (11, Fc.c n)], fun t => t == 3014000 || t == 3014009⟩
def Fe.live : NL := fun k => match k with
 | 6 => ([7, 0, 5, 6, 3], [0, 6, 3, 5])
 | _ => ([], [])
def Fe.l6_0.r {α : Type} (mk0 : LA → LA → Bool → LI → LA → LI → α) (n : Nat) (rc : Int → LA → LI → LA → Bool → LI → LA → Option α)  (x0 : Int) (x1 : LA) (x2 : LI) (x3 : LA) (x4 : Bool) (x5 : LI) (x6 : LA) : Option α :=
  if (decide (x0 < (((List.length x1) : Nat) : Int))) = true then
   if 0 ≤ x0 then
    if x0 < (((List.length x1) : Nat) : Int) then
     bindO (tkAgg 3 (List.getD x1 (Int.toNat x0) AV.any)) fun r10 =>
      bindO (tkBool (List.getD r10 0 AV.any)) fun r12 =>
       bindO (tkRints .u8 (List.getD r10 1 AV.any)) fun r14 =>
        bindO (tkRobjs 25 3 (List.getD r10 2 AV.any)) fun r16 =>
         bindO (Ff.m n (r12, r14, r16)) fun r18 =>
          if ((((List.length x2) + (List.length r18)) * 1) ≤ 70368744177664 ∧ ((List.length x2) + (List.length r18)) ≤ 9223372036854775807) then
           if 0 ≤ x0 then
            if x0 < (((List.length x1) : Nat) : Int) then
             bindO (tkAgg 3 (List.getD x1 (Int.toNat x0) AV.any)) fun r26 =>
              bindO (tkBool (List.getD r26 0 AV.any)) fun r28 =>
               bindO (tkRints .u8 (List.getD r26 1 AV.any)) fun r30 =>
                bindO (tkRobjs 25 3 (List.getD r26 2 AV.any)) fun r32 =>
                 if ((((List.length x3) + 1) * 56) ≤ 70368744177664 ∧ ((List.length x3) + 1) ≤ 9223372036854775807) then
                  rc (IntKind.wrap .i64 (x0 + 1)) x1 (x2 ++ r18) (x3 ++ [(AV.agg [(AV.bool r28), (AV.rints .u8 r30), (AV.robjs 25 3 r32)])]) x4 x5 x6
                 else
                  none
            else
             none
           else
            none
          else
           none
    else
     none
   else
    none
  else
   some (mk0 x1 x3 x4 x5 x6 x2)
def Fe.l6_0.g {α : Type} (mk0 : LA → LA → Bool → LI → LA → LI → α) (n : Nat) : Nat → Int → LA → LI → LA → Bool → LI → LA → Option α
 | 0, _, _, _, _, _, _, _ => none
 | m + 1, x0, x1, x2, x3, x4, x5, x6 => Fe.l6_0.r mk0 n (fun y0 y1 y2 y3 y4 y5 y6 => Fe.l6_0.g mk0 n m y0 y1 y2 y3 y4 y5 y6)  x0 x1 x2 x3 x4 x5 x6
def Fe.l6_0.m (n m : Nat) (t : (Int × (LA × (LI × (LA × (Bool × (LI × LA))))))) : Option (LA × (LA × (Bool × (LI × (LA × LI))))) := Fe.l6_0.g (fun a0 a1 a2 a3 a4 a5 => (a0, a1, a2, a3, a4, a5)) n m t.1 t.2.1 t.2.2.1 t.2.2.2.1 t.2.2.2.2.1 t.2.2.2.2.2.1 t.2.2.2.2.2.2
def Fe.l6_0.pat : St → Option (Int × (LA × (LI × (LA × (Bool × (LI × LA))))))
 | (St.mk [(.int .i64 x0), (.robjs 25 3 x1), (.own 0 1), (.own 1 3), (.ptr 2 [])] [(some (.ints .u8 x2)), (some (.objs 25 3 x3)), (some (.var (.agg [(.bool x4), (.rints .u8 x5), (.robjs 25 3 x6)])))]) => some (x0, x1, x2, x3, x4, x5, x6)
 | _ => none
def Fe.l6_0.shape (t : (Int × (LA × (LI × (LA × (Bool × (LI × LA))))))) : St := (St.mk [(.int .i64 t.1), (.robjs 25 3 t.2.1), (.own 0 1), (.own 1 3), (.ptr 2 [])] [(some (.ints .u8 t.2.2.1)), (some (.objs 25 3 t.2.2.2.1)), (some (.var (.agg [(.bool t.2.2.2.2.1), (.rints .u8 t.2.2.2.2.2.1), (.robjs 25 3 t.2.2.2.2.2.2)])))])
def Fe.l6_0.res : (LA × (LA × (Bool × (LI × (LA × LI))))) → Ex × St
 | u => ((.exit 0), (St.mk [(.robjs 25 3 u.1), (.own 0 3), (.ptr 1 []), (.own 2 1)] [(some (.objs 25 3 u.2.1)), (some (.var (.agg [(.bool u.2.2.1), (.rints .u8 u.2.2.2.1), (.robjs 25 3 u.2.2.2.2.1)]))), (some (.ints .u8 u.2.2.2.2.2))]))
def Fe.l6_0.resK {R : Type} (u : (LA × (LA × (Bool × (LI × (LA × LI)))))) (K : Ex → St → Option R) : Option R := K (Fe.l6_0.res u).1 (Fe.l6_0.res u).2
noncomputable def Fe.A (n : Nat) : Ann := ⟨Tryd.f7.ntmps, 0, Fe.live, [(0, (.objs 25 3)), (5, (.ints .u8)), (6, (.objs 25 3))], [none], fun k => match k with
 | 6 => some (.mk' Fe.l6_0.pat (Fe.l6_0.m n n) Fe.l6_0.resK)
 | _ => none, noNL, lookJ []⟩
noncomputable def Fe.b0 : Code := (loopsIn (Tryd.f7.body.getD .skip)).getD 0 .skip
def Fe.g {α : Type} (mk0 : Bool → α) (n : Nat) (a0 : LA) (a1_0 : Bool) (a1_1 : LI) (a1_2 : LA) : Option α :=
 if (decide ((((List.length a0) : Nat) : Int) > 50)) = true then
  bindO (Fn.m n Unit.unit) fun r4 =>
   some (mk0 r4)
 else
  bindO (Fr.m n (a1_0, a1_1, a1_2, 0)) fun r4 =>
   if (decide (r4 > 500)) = true then
    bindO (Fn.m n Unit.unit) fun r8 =>
     some (mk0 r8)
   else
    bindO (Fr.m n (false, [], a0, 0)) fun r8 =>
     if (decide (r8 > 500)) = true then
      bindO (Fn.m n Unit.unit) fun r12 =>
       some (mk0 r12)
     else
      bindO (Fn.m n Unit.unit) fun r12 =>
       if (!r12) = true then
        bindO (Fn.m n Unit.unit) fun r16 =>
         some (mk0 r16)
       else
        bindO (Fe.l6_0.m n n (0, a0, [], [], a1_0, a1_1, a1_2)) fun r16 =>
         bindO (Ff.m n (true, [], r16.1)) fun r18 =>
          if ((((List.length r16.2.1) + 1) * 56) ≤ 70368744177664 ∧ ((List.length r16.2.1) + 1) ≤ 9223372036854775807) then
           bindO (Ff.m n (true, [], (r16.2.1 ++ [(AV.agg [(AV.bool r16.2.2.1), (AV.rints .u8 r16.2.2.2.1), (AV.robjs 25 3 r16.2.2.2.2.1)])]))) fun r22 =>
            if (decide ((IntKind.wrap .i64 ((((List.length r18) : Nat) : Int) - (((List.length r16.2.2.2.2.2) : Nat) : Int))) ≥ 1)) = true then
             if (decide ((IntKind.wrap .i64 ((((List.length r18) : Nat) : Int) - (((List.length r16.2.2.2.2.2) : Nat) : Int))) ≤ 9)) = true then
              if 0 ≤ (IntKind.wrap .i64 ((((List.length r18) : Nat) : Int) - (((List.length r16.2.2.2.2.2) : Nat) : Int))) then
               if (IntKind.wrap .i64 ((((List.length r18) : Nat) : Int) - (((List.length r16.2.2.2.2.2) : Nat) : Int))) ≤ (((List.length r18) : Nat) : Int) then
                bindO (Fc.m n ((Go.Abs.cut r18 (Int.toNat (IntKind.wrap .i64 ((((List.length r18) : Nat) : Int) - (((List.length r16.2.2.2.2.2) : Nat) : Int)))) (Option.none)), r16.2.2.2.2.2)) fun r32 =>
                 if r32 = true then
                  bindO (Ff.m n (r16.2.2.1, r16.2.2.2.1, r16.2.2.2.2.1)) fun r36 =>
                   some (mk0 (decide ((IntKind.wrap .i64 ((((List.length r22) : Nat) : Int) - (((List.length r18) : Nat) : Int))) ≥ (((List.length r36) : Nat) : Int))))
                 else
                  some (mk0 false)
               else
                none
              else
               none
             else
              some (mk0 false)
            else
             some (mk0 false)
          else
           none
def Fe.m (n : Nat) (t : (LA × (Bool × (LI × LA)))) : Option Bool := Fe.g (fun a0 => a0) n t.1 t.2.1 t.2.2.1 t.2.2.2
def Fe.shape (t : (LA × (Bool × (LI × LA)))) : List AV × Blks := ([(.robjs 25 3 t.1), (.agg [(.bool t.2.1), (.rints .u8 t.2.2.1), (.robjs 25 3 t.2.2.2)])], [])
def Fe.res : Bool → AV × Blks
 | u => ((.bool u), [])
end
end
section
noncomputable abbrev Fe.R0 (n : Nat) := roundOf (Fe.C n) (Fe.A n) n Fe.b0
theorem Fe.l6_0.rmap {α β : Type} (h : β → α) (mk0 : LA → LA → Bool → LI → LA → LI → β) (n : Nat) (f : Int → LA → LI → LA → Bool → LI → LA → Option β)  (x0 : Int) (x1 : LA) (x2 : LI) (x3 : LA) (x4 : Bool) (x5 : LI) (x6 : LA) : Fe.l6_0.r (fun a0 a1 a2 a3 a4 a5 => (h (mk0 a0 a1 a2 a3 a4 a5))) n (fun y0 y1 y2 y3 y4 y5 y6 => (f y0 y1 y2 y3 y4 y5 y6).map h) x0 x1 x2 x3 x4 x5 x6 = (Fe.l6_0.r mk0 n f x0 x1 x2 x3 x4 x5 x6).map h := by
  unfold Fe.l6_0.r
  exact (ite_map (ite_map (ite_map (bindO_map fun r10 => (bindO_map fun r12 => (bindO_map fun r14 => (bindO_map fun r16 => (bindO_map fun r18 => (ite_map (ite_map (ite_map (bindO_map fun r26 => (bindO_map fun r28 => (bindO_map fun r30 => (bindO_map fun r32 => (ite_map rfl rfl))))) rfl) rfl) rfl)))))) rfl) rfl) rfl)
theorem Fe.l6_0.gmap {α β : Type} (h : β → α) (mk0 : LA → LA → Bool → LI → LA → LI → β) (n : Nat) : ∀ (m : Nat) (x0 : Int) (x1 : LA) (x2 : LI) (x3 : LA) (x4 : Bool) (x5 : LI) (x6 : LA), Fe.l6_0.g (fun a0 a1 a2 a3 a4 a5 => (h (mk0 a0 a1 a2 a3 a4 a5))) n m x0 x1 x2 x3 x4 x5 x6 = (Fe.l6_0.g mk0 n m x0 x1 x2 x3 x4 x5 x6).map h
  | 0, _, _, _, _, _, _, _ => rfl
  | m + 1, x0, x1, x2, x3, x4, x5, x6 => by
    unfold Fe.l6_0.g
    rw [← Fe.l6_0.rmap]
    congr
    · funext y0 y1 y2 y3 y4 y5 y6; exact Fe.l6_0.gmap h mk0 n m y0 y1 y2 y3 y4 y5 y6
theorem Fe.l6_0.pat_shape : ∀ st t, Fe.l6_0.pat st = some t → st = Fe.l6_0.shape t := fun _ _ h => by unfold Fe.l6_0.pat at h; split at h <;> cases h; rfl
def Fe.l6_0.k0 : LA → LA → Bool → LI → LA → LI → Ex × St := (fun a0 a1 a2 a3 a4 a5 => (((.exit 0), (St.mk [(.robjs 25 3 a0), (.own 0 3), (.ptr 1 []), (.own 2 1)] [(some (.objs 25 3 a1)), (some (.var (.agg [(.bool a2), (.rints .u8 a3), (.robjs 25 3 a4)]))), (some (.ints .u8 a5))])) : Ex × St))
theorem Fe.l6_0.round (n : Nat) (rc : St → Option (Ex × St)) (x0 : Int) (x1 : LA) (x2 : LI) (x3 : LA) (x4 : Bool) (x5 : LI) (x6 : LA) : Fe.R0 n rc ((St.mk [(.int .i64 x0), (.robjs 25 3 x1), (.own 0 1), (.own 1 3), (.ptr 2 [])] [(some (.ints .u8 x2)), (some (.objs 25 3 x3)), (some (.var (.agg [(.bool x4), (.rints .u8 x5), (.robjs 25 3 x6)])))])) = Fe.l6_0.r Fe.l6_0.k0 n (fun y0 y1 y2 y3 y4 y5 y6 => rc ((St.mk [(.int .i64 y0), (.robjs 25 3 y1), (.own 0 1), (.own 1 3), (.ptr 2 [])] [(some (.ints .u8 y2)), (some (.objs 25 3 y3)), (some (.var (.agg [(.bool y4), (.rints .u8 y5), (.robjs 25 3 y6)])))]))) x0 x1 x2 x3 x4 x5 x6 := by kernel_rfl
theorem Fe.l6_0.loop' (n : Nat) : ∀ (m : Nat) (t : (Int × (LA × (LI × (LA × (Bool × (LI × LA))))))), loopOf (Fe.R0 n) m (Fe.l6_0.shape t) = Fe.l6_0.g Fe.l6_0.k0 n m t.1 t.2.1 t.2.2.1 t.2.2.2.1 t.2.2.2.2.1 t.2.2.2.2.2.1 t.2.2.2.2.2.2 :=
  loop_of_round (shape := Fe.l6_0.shape) (body := Fe.R0 n) (g := fun m t => Fe.l6_0.g Fe.l6_0.k0 n m t.1 t.2.1 t.2.2.1 t.2.2.2.1 t.2.2.2.2.1 t.2.2.2.2.2.1 t.2.2.2.2.2.2) (fun t => rfl)
    fun m t ih => (Fe.l6_0.round n (loopOf (Fe.R0 n) m) t.1 t.2.1 t.2.2.1 t.2.2.2.1 t.2.2.2.2.1 t.2.2.2.2.2.1 t.2.2.2.2.2.2).trans (congrFun (congrFun (congrFun (congrFun (congrFun (congrFun (congrFun (congrArg (Fe.l6_0.r Fe.l6_0.k0 n) (funext fun y0 => funext fun y1 => funext fun y2 => funext fun y3 => funext fun y4 => funext fun y5 => funext fun y6 => ih (y0, y1, y2, y3, y4, y5, y6))) t.1) t.2.1) t.2.2.1) t.2.2.2.1) t.2.2.2.2.1) t.2.2.2.2.2.1) t.2.2.2.2.2.2)
theorem Fe.l6_0.loop (n m : Nat) (t : (Int × (LA × (LI × (LA × (Bool × (LI × LA))))))) : loopOf (Fe.R0 n) m (Fe.l6_0.shape t) = (Fe.l6_0.m n m t).map Fe.l6_0.res :=
  (Fe.l6_0.loop' n m t).trans (Fe.l6_0.gmap Fe.l6_0.res (fun a0 a1 a2 a3 a4 a5 => (a0, a1, a2, a3, a4, a5)) n m t.1 t.2.1 t.2.2.1 t.2.2.2.1 t.2.2.2.2.1 t.2.2.2.2.2.1 t.2.2.2.2.2.2)
theorem Fe.gmap {α β : Type} (h : β → α) (mk0 : Bool → β) (n : Nat) (a0 : LA) (a1_0 : Bool) (a1_1 : LI) (a1_2 : LA) : Fe.g (fun a0 => (h (mk0 a0))) n a0 a1_0 a1_1 a1_2 = (Fe.g mk0 n a0 a1_0 a1_1 a1_2).map h := by
  unfold Fe.g
  exact (ite_map (bindO_map fun r4 => rfl) (bindO_map fun r4 => (ite_map (bindO_map fun r8 => rfl) (bindO_map fun r8 => (ite_map (bindO_map fun r12 => rfl) (bindO_map fun r12 => (ite_map (bindO_map fun r16 => rfl) (bindO_map fun r16 => (bindO_map fun r18 => (ite_map (bindO_map fun r22 => (ite_map (ite_map (ite_map (ite_map (bindO_map fun r32 => (ite_map (bindO_map fun r36 => rfl) rfl)) rfl) rfl) rfl) rfl)) rfl))))))))))
theorem Fe.run (n : Nat) (a0 : LA) (a1_0 : Bool) (a1_1 : LI) (a1_2 : LA) : runF (Fe.C n) (Fe.A n) n Tryd.f7 [(.robjs 25 3 a0), (.agg [(.bool a1_0), (.rints .u8 a1_1), (.robjs 25 3 a1_2)])] [] (fun v o => some (v, o)) = Fe.g (fun a0 => (((.bool a0), []) : AV × Blks)) n a0 a1_0 a1_1 a1_2 := by kernel_rfl
theorem Fe.call (hmix : Tryd.prog.follows .mixedOrders = true) (n : Nat) (t : (LA × (Bool × (LI × LA)))) (u) (h : Fe.m n t = some u) : FnC Tryd.prog rlpG 7 (Fe.shape t).1 (Fe.shape t).2 (Fe.res u).1 (Fe.res u).2 :=
  fnC1 (C := Fe.C n) (A := Fe.A n) (fn := Tryd.f7) rfl (.cons (Fr.s hmix n) (.cons (Fn.s hmix n) (.cons (Ff.s hmix n) (.cons (Fc.s hmix n) .nil)))) hmix Tryd.func7 (by kernel_rfl) (lp := [Fe.b0]) (by kernel_rfl) (.cons (show (Fe.A n).loop (key Fe.b0) = some (.mk' Fe.l6_0.pat (Fe.l6_0.m n n) Fe.l6_0.resK) by kernel_rfl) (LoopS.of (res := Fe.l6_0.res) (fun R u K => rfl) Fe.l6_0.pat_shape fun t => Fe.l6_0.loop n n t)
  .nil)
  (nj rfl) (by decide) rfl rfl (by show 2 ≤ Tryd.f7.ntmps; decide) (Fe.run n t.1 t.2.1 t.2.2.1 t.2.2.2) (Fe.gmap Fe.res (fun a0 => a0) n t.1 t.2.1 t.2.2.1 t.2.2.2) h
end
