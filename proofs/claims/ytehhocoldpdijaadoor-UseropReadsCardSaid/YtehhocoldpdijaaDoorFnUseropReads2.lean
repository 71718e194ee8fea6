/- What the program's functions compute, as plain functions, each with its proof: the function does just that. Condition: the plain function has an answer. -/
import Derived.Test.YtehhocoldpdijaaDoorAbsR6
import Derived.Test.YtehhocoldpdijaaDoorProg
import Derived.Test.YtehhocoldpdijaaDoorFnUseropReads1
import Derived.Shelf.RegionOpenPlain
import Derived.WalkKit
import Derived.Lib.Walk
import Derived.Lib.SliceRun
import Derived.OwnWalkIn
import Derived.TacticsInMore
import Derived.RegionIn
import Derived.LoopIn
import Derived.Shelf.RegionOpen
import Derived.Shelf.AbstractIn
import Derived.Calls
import Derived.RangeFuncLeaves
import Derived.Deep.LoopGhost
import Derived.LaidEql
import Derived.Stop.Asserts
import Derived.RowKitTokens
set_option linter.unusedVariables false
set_option linter.unusedSimpArgs false
set_option maxRecDepth 100000
open Go Go.Abs Go.Proofs
section
noncomputable section
noncomputable def Fbh.C (n : Nat) : Ctx := ⟨Tryd.prog, abiG, lookC [(128, Fcj.c n), (129, Fbw.c n)], fun _ => false⟩
def Fbh.live : NL := fun k => match k with
 | 3 => ([8, 2, 1, 3, 7, 6], [7, 6])
 | _ => ([], [])
def Fbh.l3_0.r {α : Type} (mk0 : LI → LI → α) (n : Nat) (rc : Int → Bool → Int → LI → LI → LI → Option α)  (x0 : Int) (x1 : Bool) (x2 : Int) (x3 : LI) (x4 : LI) (x5 : LI) : Option α :=
  if (decide (x0 < 256)) = true then
   if (decide ((IntKind.wrap .i64 (x0 - x2)) ≥ 0)) = true then
    if (decide ((IntKind.wrap .i64 (x0 - x2)) < 256)) = true then
     bindO (Fcj.m n (x3, (IntKind.wrap .i64 (x0 - x2)))) fun r10 =>
      bindO (Fbw.m n (x4, x0, r10)) fun r12 =>
       rc (IntKind.wrap .i64 (x0 + 1)) x1 x2 x3 r12 x5
    else
     bindO (Fbw.m n (x4, x0, x1)) fun r10 =>
      rc (IntKind.wrap .i64 (x0 + 1)) x1 x2 x3 r10 x5
   else
    bindO (Fbw.m n (x4, x0, x1)) fun r8 =>
     rc (IntKind.wrap .i64 (x0 + 1)) x1 x2 x3 r8 x5
  else
   some (mk0 x4 x5)
def Fbh.l3_0.g {α : Type} (mk0 : LI → LI → α) (n : Nat) : Nat → Int → Bool → Int → LI → LI → LI → Option α
 | 0, _, _, _, _, _, _ => none
 | m + 1, x0, x1, x2, x3, x4, x5 => Fbh.l3_0.r mk0 n (fun y0 y1 y2 y3 y4 y5 => Fbh.l3_0.g mk0 n m y0 y1 y2 y3 y4 y5)  x0 x1 x2 x3 x4 x5
def Fbh.l3_0.m (n m : Nat) (t : (Int × (Bool × (Int × (LI × (LI × LI)))))) : Option (LI × LI) := Fbh.l3_0.g (fun a0 a1 => (a0, a1)) n m t.1 t.2.1 t.2.2.1 t.2.2.2.1 t.2.2.2.2.1 t.2.2.2.2.2
def Fbh.l3_0.pat : St → Option (Int × (Bool × (Int × (LI × (LI × LI)))))
 | (St.mk [(.int .i64 x0), (.bool x1), (.int .i64 x2), (.ptr 0 []), (.ptr 1 []), (.ptr 2 [])] [(some (.var (.ints .u64 4 x3))), (some (.var (.ints .u64 4 x4))), (some (.var (.ints .u64 4 x5)))]) => some (x0, x1, x2, x3, x4, x5)
 | _ => none
def Fbh.l3_0.shape (t : (Int × (Bool × (Int × (LI × (LI × LI)))))) : St := (St.mk [(.int .i64 t.1), (.bool t.2.1), (.int .i64 t.2.2.1), (.ptr 0 []), (.ptr 1 []), (.ptr 2 [])] [(some (.var (.ints .u64 4 t.2.2.2.1))), (some (.var (.ints .u64 4 t.2.2.2.2.1))), (some (.var (.ints .u64 4 t.2.2.2.2.2)))])
def Fbh.l3_0.res : (LI × LI) → Ex × St
 | u => ((.exit 0), (St.mk [(.ptr 0 []), (.ptr 1 [])] [(some (.var (.ints .u64 4 u.1))), (some (.var (.ints .u64 4 u.2)))]))
def Fbh.l3_0.resK {R : Type} (u : (LI × LI)) (K : Ex → St → Option R) : Option R := K (Fbh.l3_0.res u).1 (Fbh.l3_0.res u).2
noncomputable def Fbh.A (n : Nat) : Ann := ⟨Tryd.f114.ntmps, 0, Fbh.live, [], [none], fun k => match k with
 | 3 => some (.mk' Fbh.l3_0.pat (Fbh.l3_0.m n n) Fbh.l3_0.resK)
 | _ => none, noNL, lookJ []⟩
noncomputable def Fbh.b0 : Code := (loopsIn (Tryd.f114.body.getD .skip)).getD 0 .skip
def Fbh.g {α : Type} (mk0 : LI → α) (n : Nat) (a0 : LI) (a1 : Int) (a2 : Bool) : Option α :=
 bindO (Fbh.l3_0.m n n (0, a2, a1, a0, [0, 0, 0, 0], [0, 0, 0, 0])) fun r2 =>
  some (mk0 r2.1)
def Fbh.m (n : Nat) (t : (LI × (Int × Bool))) : Option LI := Fbh.g (fun a0 => a0) n t.1 t.2.1 t.2.2
def Fbh.pat : List AV → Blks → Option (LI × (Int × Bool))
 | [(.ints .u64 4 a0), (.int .i64 a1), (.bool a2)], [] => some (a0, a1, a2)
 | _, _ => none
def Fbh.shape (t : (LI × (Int × Bool))) : List AV × Blks := ([(.ints .u64 4 t.1), (.int .i64 t.2.1), (.bool t.2.2)], [])
def Fbh.res : LI → AV × Blks
 | u => ((.ints .u64 4 u), [])
def Fbh.resK {R : Type} (u : LI) (K : AV → Blks → Option R) : Option R := K (Fbh.res u).1 (Fbh.res u).2
def Fbh.c (n : Nat) : Abs.Callee := .mk' [] [none, none, none] Fbh.pat (Fbh.m n) Fbh.resK
end
end
section
theorem Fbg.gmap {α β : Type} (h : β → α) (mk0 : Int → Bool → β) (n : Nat) (a0 : LI) : Fbg.g (fun a0 a1 => (h (mk0 a0 a1))) n a0 = (Fbg.g mk0 n a0).map h := by
  unfold Fbg.g
  exact (ite_map rfl (ite_map rfl (ite_map rfl rfl)))
theorem Fbg.run (n : Nat) (a0 : LI) : runF (Fbg.C n) (Fbg.A n) n Tryd.f64 [(.ints .u64 4 a0)] [] (fun v o => some (v, o)) = Fbg.g (fun a0 a1 => (((.tup [(.int .u64 a0), (.bool a1)]), []) : AV × Blks)) n a0 := by kernel_rfl
theorem Fbg.call (hmix : Tryd.prog.follows .mixedOrders = true) (n : Nat) (t : LI) (u) (h : Fbg.m n t = some u) : FnC Tryd.prog abiG 64 (Fbg.shape t).1 (Fbg.shape t).2 (Fbg.res u).1 (Fbg.res u).2 :=
  fnC1 (C := Fbg.C n) (A := Fbg.A n) (fn := Tryd.f64) rfl .nil hmix Tryd.func64 (by kernel_rfl) (lp := []) (by kernel_rfl) .nil
  (nj rfl) (by decide) rfl rfl (by show 1 ≤ Tryd.f64.ntmps; decide) (Fbg.run n t) (Fbg.gmap Fbg.res (fun a0 a1 => (a0, a1)) n t) h
theorem Fbg.s (hmix : Tryd.prog.follows .mixedOrders = true) (n : Nat) : CalleeS Tryd.prog abiG 64 (Fbg.c n) :=
  .mk1 (res := Fbg.res) (shape := Fbg.shape) (fun R u K => rfl) (fun _ _ _ h => by unfold Fbg.pat at h; split at h <;> cases h; rfl) (fun t u h => Fbg.call hmix n t u h) Tryd.func64 (by decide) (by kernel_rfl)
end
section
theorem Fcn.gmap {α β : Type} (h : β → α) (mk0 : Int → β) (n : Nat) (a0 : LI) : Fcn.g (fun a0 => (h (mk0 a0))) n a0 = (Fcn.g mk0 n a0).map h := by
  unfold Fcn.g
  exact (bindO_map fun r2 => (ite_map rfl (ite_map rfl rfl)))
theorem Fcn.run (n : Nat) (a0 : LI) : runF (Fcn.C n) (Fcn.A n) n Tryd.f115 [(.ints .u64 4 a0)] [] (fun v o => some (v, o)) = Fcn.g (fun a0 => (((.int .i64 a0), []) : AV × Blks)) n a0 := by kernel_rfl
theorem Fcn.call (hmix : Tryd.prog.follows .mixedOrders = true) (n : Nat) (t : LI) (u) (h : Fcn.m n t = some u) : FnC Tryd.prog abiG 115 (Fcn.shape t).1 (Fcn.shape t).2 (Fcn.res u).1 (Fcn.res u).2 :=
  fnC1 (C := Fcn.C n) (A := Fcn.A n) (fn := Tryd.f115) rfl (.cons (Fbg.s hmix n) .nil) hmix Tryd.func115 (by kernel_rfl) (lp := []) (by kernel_rfl) .nil
  (nj rfl) (by decide) rfl rfl (by show 1 ≤ Tryd.f115.ntmps; decide) (Fcn.run n t) (Fcn.gmap Fcn.res (fun a0 => a0) n t) h
theorem Fcn.s (hmix : Tryd.prog.follows .mixedOrders = true) (n : Nat) : CalleeS Tryd.prog abiG 115 (Fcn.c n) :=
  .mk1 (res := Fcn.res) (shape := Fcn.shape) (fun R u K => rfl) (fun _ _ _ h => by unfold Fcn.pat at h; split at h <;> cases h; rfl) (fun t u h => Fcn.call hmix n t u h) Tryd.func115 (by decide) (by kernel_rfl)
end
section
theorem Fbw.gmap {α β : Type} (h : β → α) (mk0 : LI → β) (n : Nat) (a0 : LI) (a1 : Int) (a2 : Bool) : Fbw.g (fun a0 => (h (mk0 a0))) n a0 a1 a2 = (Fbw.g mk0 n a0 a1 a2).map h := by
  unfold Fbw.g
  exact (ite_map (ite_map (ite_map (ite_map (ite_map (ite_map rfl rfl) rfl) rfl) rfl) (ite_map (ite_map (ite_map (ite_map rfl rfl) rfl) rfl) rfl)) rfl)
theorem Fbw.run (n : Nat) (a0 : LI) (a1 : Int) (a2 : Bool) : runF (Fbw.C n) (Fbw.A n) n Tryd.f129 [(.ints .u64 4 a0), (.int .i64 a1), (.bool a2)] [] (fun v o => some (v, o)) = Fbw.g (fun a0 => (((.ints .u64 4 a0), []) : AV × Blks)) n a0 a1 a2 := by kernel_rfl
theorem Fbw.call (hmix : Tryd.prog.follows .mixedOrders = true) (n : Nat) (t : (LI × (Int × Bool))) (u) (h : Fbw.m n t = some u) : FnC Tryd.prog abiG 129 (Fbw.shape t).1 (Fbw.shape t).2 (Fbw.res u).1 (Fbw.res u).2 :=
  fnC1 (C := Fbw.C n) (A := Fbw.A n) (fn := Tryd.f129) rfl .nil hmix Tryd.func129 (by kernel_rfl) (lp := []) (by kernel_rfl) .nil
  (nj rfl) (by decide) rfl rfl (by show 3 ≤ Tryd.f129.ntmps; decide) (Fbw.run n t.1 t.2.1 t.2.2) (Fbw.gmap Fbw.res (fun a0 => a0) n t.1 t.2.1 t.2.2) h
theorem Fbw.s (hmix : Tryd.prog.follows .mixedOrders = true) (n : Nat) : CalleeS Tryd.prog abiG 129 (Fbw.c n) :=
  .mk1 (res := Fbw.res) (shape := Fbw.shape) (fun R u K => rfl) (fun _ _ _ h => by unfold Fbw.pat at h; split at h <;> cases h; rfl) (fun t u h => Fbw.call hmix n t u h) Tryd.func129 (by decide) (by kernel_rfl)
end
section
noncomputable abbrev Fbh.R0 (n : Nat) := roundOf (Fbh.C n) (Fbh.A n) n Fbh.b0
theorem Fbh.l3_0.rmap {α β : Type} (h : β → α) (mk0 : LI → LI → β) (n : Nat) (f : Int → Bool → Int → LI → LI → LI → Option β)  (x0 : Int) (x1 : Bool) (x2 : Int) (x3 : LI) (x4 : LI) (x5 : LI) : Fbh.l3_0.r (fun a0 a1 => (h (mk0 a0 a1))) n (fun y0 y1 y2 y3 y4 y5 => (f y0 y1 y2 y3 y4 y5).map h) x0 x1 x2 x3 x4 x5 = (Fbh.l3_0.r mk0 n f x0 x1 x2 x3 x4 x5).map h := by
  unfold Fbh.l3_0.r
  exact (ite_map (ite_map (ite_map (bindO_map fun r10 => (bindO_map fun r12 => rfl)) (bindO_map fun r10 => rfl)) (bindO_map fun r8 => rfl)) rfl)
theorem Fbh.l3_0.gmap {α β : Type} (h : β → α) (mk0 : LI → LI → β) (n : Nat) : ∀ (m : Nat) (x0 : Int) (x1 : Bool) (x2 : Int) (x3 : LI) (x4 : LI) (x5 : LI), Fbh.l3_0.g (fun a0 a1 => (h (mk0 a0 a1))) n m x0 x1 x2 x3 x4 x5 = (Fbh.l3_0.g mk0 n m x0 x1 x2 x3 x4 x5).map h
  | 0, _, _, _, _, _, _ => rfl
  | m + 1, x0, x1, x2, x3, x4, x5 => by
    unfold Fbh.l3_0.g
    rw [← Fbh.l3_0.rmap]
    congr
    · funext y0 y1 y2 y3 y4 y5; exact Fbh.l3_0.gmap h mk0 n m y0 y1 y2 y3 y4 y5
theorem Fbh.l3_0.pat_shape : ∀ st t, Fbh.l3_0.pat st = some t → st = Fbh.l3_0.shape t := fun _ _ h => by unfold Fbh.l3_0.pat at h; split at h <;> cases h; rfl
def Fbh.l3_0.k0 : LI → LI → Ex × St := (fun a0 a1 => (((.exit 0), (St.mk [(.ptr 0 []), (.ptr 1 [])] [(some (.var (.ints .u64 4 a0))), (some (.var (.ints .u64 4 a1)))])) : Ex × St))
theorem Fbh.l3_0.round (n : Nat) (rc : St → Option (Ex × St)) (x0 : Int) (x1 : Bool) (x2 : Int) (x3 : LI) (x4 : LI) (x5 : LI) : Fbh.R0 n rc ((St.mk [(.int .i64 x0), (.bool x1), (.int .i64 x2), (.ptr 0 []), (.ptr 1 []), (.ptr 2 [])] [(some (.var (.ints .u64 4 x3))), (some (.var (.ints .u64 4 x4))), (some (.var (.ints .u64 4 x5)))])) = Fbh.l3_0.r Fbh.l3_0.k0 n (fun y0 y1 y2 y3 y4 y5 => rc ((St.mk [(.int .i64 y0), (.bool y1), (.int .i64 y2), (.ptr 0 []), (.ptr 1 []), (.ptr 2 [])] [(some (.var (.ints .u64 4 y3))), (some (.var (.ints .u64 4 y4))), (some (.var (.ints .u64 4 y5)))]))) x0 x1 x2 x3 x4 x5 := by kernel_rfl
theorem Fbh.l3_0.loop' (n : Nat) : ∀ (m : Nat) (t : (Int × (Bool × (Int × (LI × (LI × LI)))))), loopOf (Fbh.R0 n) m (Fbh.l3_0.shape t) = Fbh.l3_0.g Fbh.l3_0.k0 n m t.1 t.2.1 t.2.2.1 t.2.2.2.1 t.2.2.2.2.1 t.2.2.2.2.2 :=
  loop_of_round (shape := Fbh.l3_0.shape) (body := Fbh.R0 n) (g := fun m t => Fbh.l3_0.g Fbh.l3_0.k0 n m t.1 t.2.1 t.2.2.1 t.2.2.2.1 t.2.2.2.2.1 t.2.2.2.2.2) (fun t => rfl)
    fun m t ih => (Fbh.l3_0.round n (loopOf (Fbh.R0 n) m) t.1 t.2.1 t.2.2.1 t.2.2.2.1 t.2.2.2.2.1 t.2.2.2.2.2).trans (congrFun (congrFun (congrFun (congrFun (congrFun (congrFun (congrArg (Fbh.l3_0.r Fbh.l3_0.k0 n) (funext fun y0 => funext fun y1 => funext fun y2 => funext fun y3 => funext fun y4 => funext fun y5 => ih (y0, y1, y2, y3, y4, y5))) t.1) t.2.1) t.2.2.1) t.2.2.2.1) t.2.2.2.2.1) t.2.2.2.2.2)
theorem Fbh.l3_0.loop (n m : Nat) (t : (Int × (Bool × (Int × (LI × (LI × LI)))))) : loopOf (Fbh.R0 n) m (Fbh.l3_0.shape t) = (Fbh.l3_0.m n m t).map Fbh.l3_0.res :=
  (Fbh.l3_0.loop' n m t).trans (Fbh.l3_0.gmap Fbh.l3_0.res (fun a0 a1 => (a0, a1)) n m t.1 t.2.1 t.2.2.1 t.2.2.2.1 t.2.2.2.2.1 t.2.2.2.2.2)
theorem Fbh.gmap {α β : Type} (h : β → α) (mk0 : LI → β) (n : Nat) (a0 : LI) (a1 : Int) (a2 : Bool) : Fbh.g (fun a0 => (h (mk0 a0))) n a0 a1 a2 = (Fbh.g mk0 n a0 a1 a2).map h := by
  unfold Fbh.g
  exact (bindO_map fun r2 => rfl)
theorem Fbh.run (n : Nat) (a0 : LI) (a1 : Int) (a2 : Bool) : runF (Fbh.C n) (Fbh.A n) n Tryd.f114 [(.ints .u64 4 a0), (.int .i64 a1), (.bool a2)] [] (fun v o => some (v, o)) = Fbh.g (fun a0 => (((.ints .u64 4 a0), []) : AV × Blks)) n a0 a1 a2 := by kernel_rfl
theorem Fbh.call (hmix : Tryd.prog.follows .mixedOrders = true) (n : Nat) (t : (LI × (Int × Bool))) (u) (h : Fbh.m n t = some u) : FnC Tryd.prog abiG 114 (Fbh.shape t).1 (Fbh.shape t).2 (Fbh.res u).1 (Fbh.res u).2 :=
  fnC1 (C := Fbh.C n) (A := Fbh.A n) (fn := Tryd.f114) rfl (.cons (Fcj.s hmix n) (.cons (Fbw.s hmix n) .nil)) hmix Tryd.func114 (by kernel_rfl) (lp := [Fbh.b0]) (by kernel_rfl) (.cons (show (Fbh.A n).loop (key Fbh.b0) = some (.mk' Fbh.l3_0.pat (Fbh.l3_0.m n n) Fbh.l3_0.resK) by kernel_rfl) (LoopS.of (res := Fbh.l3_0.res) (fun R u K => rfl) Fbh.l3_0.pat_shape fun t => Fbh.l3_0.loop n n t)
  .nil)
  (nj rfl) (by decide) rfl rfl (by show 3 ≤ Tryd.f114.ntmps; decide) (Fbh.run n t.1 t.2.1 t.2.2) (Fbh.gmap Fbh.res (fun a0 => a0) n t.1 t.2.1 t.2.2) h
theorem Fbh.s (hmix : Tryd.prog.follows .mixedOrders = true) (n : Nat) : CalleeS Tryd.prog abiG 114 (Fbh.c n) :=
  .mk1 (res := Fbh.res) (shape := Fbh.shape) (fun R u K => rfl) (fun _ _ _ h => by unfold Fbh.pat at h; split at h <;> cases h; rfl) (fun t u h => Fbh.call hmix n t u h) Tryd.func114 (by decide) (by kernel_rfl)
end
section
noncomputable section
noncomputable def Fcp.C (n : Nat) : Ctx := ⟨Tryd.prog, abiG, lookC [(115, Fcn.c n), (114, Fbh.c n)], fun _ => false⟩
noncomputable def Fcp.A (n : Nat) : Ann := ⟨Tryd.f95.ntmps, 0, noNL, [], [none], fun k => match k with
 | _ => none, noNL, lookJ []⟩
def Fcp.g {α : Type} (mk0 : LI → α) (n : Nat) (a0 : LI) (a1 : LI) : Option α :=
 bindO (Fcn.m n a0) fun r2 =>
  bindO (Fbh.m n (a1, (IntKind.wrap .i64 (0 - r2)), false)) fun r4 =>
   some (mk0 r4)
def Fcp.m (n : Nat) (t : (LI × LI)) : Option LI := Fcp.g (fun a0 => a0) n t.1 t.2
def Fcp.pat : List AV → Blks → Option (LI × LI)
 | [(.ints .u64 4 a0), (.ints .u64 4 a1)], [] => some (a0, a1)
 | _, _ => none
def Fcp.shape (t : (LI × LI)) : List AV × Blks := ([(.ints .u64 4 t.1), (.ints .u64 4 t.2)], [])
def Fcp.res : LI → AV × Blks
 | u => ((.ints .u64 4 u), [])
def Fcp.resK {R : Type} (u : LI) (K : AV → Blks → Option R) : Option R := K (Fcp.res u).1 (Fcp.res u).2
def Fcp.c (n : Nat) : Abs.Callee := .mk' [] [none, none] Fcp.pat (Fcp.m n) Fcp.resK
end
end
section
theorem Fcp.gmap {α β : Type} (h : β → α) (mk0 : LI → β) (n : Nat) (a0 : LI) (a1 : LI) : Fcp.g (fun a0 => (h (mk0 a0))) n a0 a1 = (Fcp.g mk0 n a0 a1).map h := by
  unfold Fcp.g
  exact (bindO_map fun r2 => (bindO_map fun r4 => rfl))
theorem Fcp.run (n : Nat) (a0 : LI) (a1 : LI) : runF (Fcp.C n) (Fcp.A n) n Tryd.f95 [(.ints .u64 4 a0), (.ints .u64 4 a1)] [] (fun v o => some (v, o)) = Fcp.g (fun a0 => (((.ints .u64 4 a0), []) : AV × Blks)) n a0 a1 := by kernel_rfl
theorem Fcp.call (hmix : Tryd.prog.follows .mixedOrders = true) (n : Nat) (t : (LI × LI)) (u) (h : Fcp.m n t = some u) : FnC Tryd.prog abiG 95 (Fcp.shape t).1 (Fcp.shape t).2 (Fcp.res u).1 (Fcp.res u).2 :=
  fnC1 (C := Fcp.C n) (A := Fcp.A n) (fn := Tryd.f95) rfl (.cons (Fcn.s hmix n) (.cons (Fbh.s hmix n) .nil)) hmix Tryd.func95 (by kernel_rfl) (lp := []) (by kernel_rfl) .nil
  (nj rfl) (by decide) rfl rfl (by show 2 ≤ Tryd.f95.ntmps; decide) (Fcp.run n t.1 t.2) (Fcp.gmap Fcp.res (fun a0 => a0) n t.1 t.2) h
theorem Fcp.s (hmix : Tryd.prog.follows .mixedOrders = true) (n : Nat) : CalleeS Tryd.prog abiG 95 (Fcp.c n) :=
  .mk1 (res := Fcp.res) (shape := Fcp.shape) (fun R u K => rfl) (fun _ _ _ h => by unfold Fcp.pat at h; split at h <;> cases h; rfl) (fun t u h => Fcp.call hmix n t u h) Tryd.func95 (by decide) (by kernel_rfl)
end
section
noncomputable section
noncomputable def Fav.C (n : Nat) : Ctx := ⟨Tryd.prog, abiG, lookC [], fun _ => false⟩
noncomputable def Fav.A (n : Nat) : Ann := ⟨Tryd.f120.ntmps, 0, noNL, [], [none, none], fun k => match k with
 | _ => none, noNL, lookJ []⟩
def Fav.g {α : Type} (mk0 : Int → Bool → α) (n : Nat) (a0 : LI) : Option α :=
 if ((ibits BinOp.or .u64 (ibits BinOp.or .u64 (List.getD a0 1 0) (List.getD a0 2 0)) (List.getD a0 3 0)) != 0) = true then
  some (mk0 0 false)
 else
  some (mk0 (List.getD a0 0 0) true)
def Fav.m (n : Nat) (t : LI) : Option (Int × Bool) := Fav.g (fun a0 a1 => (a0, a1)) n t
def Fav.pat : List AV → Blks → Option LI
 | [(.ints .u64 4 a0)], [] => some a0
 | _, _ => none
def Fav.shape (t : LI) : List AV × Blks := ([(.ints .u64 4 t)], [])
def Fav.res : (Int × Bool) → AV × Blks
 | u => ((.tup [(.int .u64 u.1), (.bool u.2)]), [])
def Fav.resK {R : Type} (u : (Int × Bool)) (K : AV → Blks → Option R) : Option R := K (Fav.res u).1 (Fav.res u).2
def Fav.c (n : Nat) : Abs.Callee := .mk' [] [none] Fav.pat (Fav.m n) Fav.resK
end
end
section
noncomputable section
noncomputable def Fbx.C (n : Nat) : Ctx := ⟨Tryd.prog, abiG, lookC [(120, Fav.c n)], fun _ => false⟩
noncomputable def Fbx.A (n : Nat) : Ann := ⟨Tryd.f113.ntmps, 0, noNL, [], [none], fun k => match k with
 | _ => none, noNL, lookJ []⟩
def Fbx.g {α : Type} (mk0 : Int → α) (n : Nat) (a0 : LI) : Option α :=
 bindO (Fav.m n a0) fun r2 =>
  if (!r2.2) = true then
   some (mk0 256)
  else
   some (mk0 (if 256 < r2.1 then 256 else r2.1))
def Fbx.m (n : Nat) (t : LI) : Option Int := Fbx.g (fun a0 => a0) n t
def Fbx.pat : List AV → Blks → Option LI
 | [(.ints .u64 4 a0)], [] => some a0
 | _, _ => none
def Fbx.shape (t : LI) : List AV × Blks := ([(.ints .u64 4 t)], [])
def Fbx.res : Int → AV × Blks
 | u => ((.int .u64 u), [])
def Fbx.resK {R : Type} (u : Int) (K : AV → Blks → Option R) : Option R := K (Fbx.res u).1 (Fbx.res u).2
def Fbx.c (n : Nat) : Abs.Callee := .mk' [] [none] Fbx.pat (Fbx.m n) Fbx.resK
end
end
section
theorem Fav.gmap {α β : Type} (h : β → α) (mk0 : Int → Bool → β) (n : Nat) (a0 : LI) : Fav.g (fun a0 a1 => (h (mk0 a0 a1))) n a0 = (Fav.g mk0 n a0).map h := by
  unfold Fav.g
  exact (ite_map rfl rfl)
theorem Fav.run (n : Nat) (a0 : LI) : runF (Fav.C n) (Fav.A n) n Tryd.f120 [(.ints .u64 4 a0)] [] (fun v o => some (v, o)) = Fav.g (fun a0 a1 => (((.tup [(.int .u64 a0), (.bool a1)]), []) : AV × Blks)) n a0 := by kernel_rfl
theorem Fav.call (hmix : Tryd.prog.follows .mixedOrders = true) (n : Nat) (t : LI) (u) (h : Fav.m n t = some u) : FnC Tryd.prog abiG 120 (Fav.shape t).1 (Fav.shape t).2 (Fav.res u).1 (Fav.res u).2 :=
  fnC1 (C := Fav.C n) (A := Fav.A n) (fn := Tryd.f120) rfl .nil hmix Tryd.func120 (by kernel_rfl) (lp := []) (by kernel_rfl) .nil
  (nj rfl) (by decide) rfl rfl (by show 1 ≤ Tryd.f120.ntmps; decide) (Fav.run n t) (Fav.gmap Fav.res (fun a0 a1 => (a0, a1)) n t) h
theorem Fav.s (hmix : Tryd.prog.follows .mixedOrders = true) (n : Nat) : CalleeS Tryd.prog abiG 120 (Fav.c n) :=
  .mk1 (res := Fav.res) (shape := Fav.shape) (fun R u K => rfl) (fun _ _ _ h => by unfold Fav.pat at h; split at h <;> cases h; rfl) (fun t u h => Fav.call hmix n t u h) Tryd.func120 (by decide) (by kernel_rfl)
end
section
theorem Fbx.gmap {α β : Type} (h : β → α) (mk0 : Int → β) (n : Nat) (a0 : LI) : Fbx.g (fun a0 => (h (mk0 a0))) n a0 = (Fbx.g mk0 n a0).map h := by
  unfold Fbx.g
  exact (bindO_map fun r2 => (ite_map rfl rfl))
theorem Fbx.run (n : Nat) (a0 : LI) : runF (Fbx.C n) (Fbx.A n) n Tryd.f113 [(.ints .u64 4 a0)] [] (fun v o => some (v, o)) = Fbx.g (fun a0 => (((.int .u64 a0), []) : AV × Blks)) n a0 := by kernel_rfl
theorem Fbx.call (hmix : Tryd.prog.follows .mixedOrders = true) (n : Nat) (t : LI) (u) (h : Fbx.m n t = some u) : FnC Tryd.prog abiG 113 (Fbx.shape t).1 (Fbx.shape t).2 (Fbx.res u).1 (Fbx.res u).2 :=
  fnC1 (C := Fbx.C n) (A := Fbx.A n) (fn := Tryd.f113) rfl (.cons (Fav.s hmix n) .nil) hmix Tryd.func113 (by kernel_rfl) (lp := []) (by kernel_rfl) .nil
  (nj rfl) (by decide) rfl rfl (by show 1 ≤ Tryd.f113.ntmps; decide) (Fbx.run n t) (Fbx.gmap Fbx.res (fun a0 => a0) n t) h
theorem Fbx.s (hmix : Tryd.prog.follows .mixedOrders = true) (n : Nat) : CalleeS Tryd.prog abiG 113 (Fbx.c n) :=
  .mk1 (res := Fbx.res) (shape := Fbx.shape) (fun R u K => rfl) (fun _ _ _ h => by unfold Fbx.pat at h; split at h <;> cases h; rfl) (fun t u h => Fbx.call hmix n t u h) Tryd.func113 (by decide) (by kernel_rfl)
end
section
noncomputable section
noncomputable def Fby.C (n : Nat) : Ctx := ⟨Tryd.prog, abiG, lookC [(113, Fbx.c n)], fun _ => false⟩
def Fby.live : NL := fun k => match k with
 | 4 => ([11, 5, 3, 6, 4], [6, 4])
 | _ => ([], [])
def Fby.l4_0.r {α : Type} (mk0 : LI → LI → α) (n : Nat) (rc : Int → Int → LI → LI → LI → Option α)  (x0 : Int) (x1 : Int) (x2 : LI) (x3 : LI) (x4 : LI) : Option α :=
  if (decide (x0 < 4)) = true then
   if (decide ((IntKind.wrap .i64 (x0 - (IntKind.wrap .i64 (IntKind.wrap .u64 (Int.tdiv x1 64))))) ≥ 0)) = true then
    if 0 ≤ (IntKind.wrap .i64 (x0 - (IntKind.wrap .i64 (IntKind.wrap .u64 (Int.tdiv x1 64))))) then
     if (IntKind.wrap .i64 (x0 - (IntKind.wrap .i64 (IntKind.wrap .u64 (Int.tdiv x1 64))))) < 4 then
      if 0 ≤ (Int.tmod x1 64) then
       if 0 ≤ x0 then
        if x0 < 4 then
         if (decide ((IntKind.wrap .i64 (x0 - (IntKind.wrap .i64 (IntKind.wrap .u64 (Int.tdiv x1 64))))) > 0)) = true then
          if ((Int.tmod x1 64) != 0) = true then
           if 0 ≤ x0 then
            if x0 < 4 then
             if 0 ≤ (IntKind.wrap .i64 ((IntKind.wrap .i64 (x0 - (IntKind.wrap .i64 (IntKind.wrap .u64 (Int.tdiv x1 64))))) - 1)) then
              if (IntKind.wrap .i64 ((IntKind.wrap .i64 (x0 - (IntKind.wrap .i64 (IntKind.wrap .u64 (Int.tdiv x1 64))))) - 1)) < 4 then
               if 0 ≤ (IntKind.wrap .u64 (64 - (Int.tmod x1 64))) then
                if 0 ≤ x0 then
                 if x0 < 4 then
                  rc (IntKind.wrap .i64 (x0 + 1)) x1 x2 (List.set (List.set x3 (Int.toNat x0) (ishl .u64 (List.getD x2 (Int.toNat (IntKind.wrap .i64 (x0 - (IntKind.wrap .i64 (IntKind.wrap .u64 (Int.tdiv x1 64)))))) 0) (Int.tmod x1 64))) (Int.toNat x0) (ibits BinOp.or .u64 (List.getD (List.set x3 (Int.toNat x0) (ishl .u64 (List.getD x2 (Int.toNat (IntKind.wrap .i64 (x0 - (IntKind.wrap .i64 (IntKind.wrap .u64 (Int.tdiv x1 64)))))) 0) (Int.tmod x1 64))) (Int.toNat x0) 0) (ishr .u64 (List.getD x2 (Int.toNat (IntKind.wrap .i64 ((IntKind.wrap .i64 (x0 - (IntKind.wrap .i64 (IntKind.wrap .u64 (Int.tdiv x1 64))))) - 1))) 0) (IntKind.wrap .u64 (64 - (Int.tmod x1 64)))))) x4
                 else
                  none
                else
                 none
               else
                none
              else
               none
             else
              none
            else
             none
           else
            none
          else
           rc (IntKind.wrap .i64 (x0 + 1)) x1 x2 (List.set x3 (Int.toNat x0) (ishl .u64 (List.getD x2 (Int.toNat (IntKind.wrap .i64 (x0 - (IntKind.wrap .i64 (IntKind.wrap .u64 (Int.tdiv x1 64)))))) 0) (Int.tmod x1 64))) x4
         else
          rc (IntKind.wrap .i64 (x0 + 1)) x1 x2 (List.set x3 (Int.toNat x0) (ishl .u64 (List.getD x2 (Int.toNat (IntKind.wrap .i64 (x0 - (IntKind.wrap .i64 (IntKind.wrap .u64 (Int.tdiv x1 64)))))) 0) (Int.tmod x1 64))) x4
        else
         none
       else
        none
      else
       none
     else
      none
    else
     none
   else
    if (decide ((IntKind.wrap .i64 (x0 - (IntKind.wrap .i64 (IntKind.wrap .u64 (Int.tdiv x1 64))))) > 0)) = true then
     if ((Int.tmod x1 64) != 0) = true then
      if 0 ≤ x0 then
       if x0 < 4 then
        if 0 ≤ (IntKind.wrap .i64 ((IntKind.wrap .i64 (x0 - (IntKind.wrap .i64 (IntKind.wrap .u64 (Int.tdiv x1 64))))) - 1)) then
         if (IntKind.wrap .i64 ((IntKind.wrap .i64 (x0 - (IntKind.wrap .i64 (IntKind.wrap .u64 (Int.tdiv x1 64))))) - 1)) < 4 then
          if 0 ≤ (IntKind.wrap .u64 (64 - (Int.tmod x1 64))) then
           if 0 ≤ x0 then
            if x0 < 4 then
             rc (IntKind.wrap .i64 (x0 + 1)) x1 x2 (List.set x3 (Int.toNat x0) (ibits BinOp.or .u64 (List.getD x3 (Int.toNat x0) 0) (ishr .u64 (List.getD x2 (Int.toNat (IntKind.wrap .i64 ((IntKind.wrap .i64 (x0 - (IntKind.wrap .i64 (IntKind.wrap .u64 (Int.tdiv x1 64))))) - 1))) 0) (IntKind.wrap .u64 (64 - (Int.tmod x1 64)))))) x4
            else
             none
           else
            none
          else
           none
         else
          none
        else
         none
       else
        none
      else
       none
     else
      rc (IntKind.wrap .i64 (x0 + 1)) x1 x2 x3 x4
    else
     rc (IntKind.wrap .i64 (x0 + 1)) x1 x2 x3 x4
  else
   some (mk0 x3 x4)
def Fby.l4_0.g {α : Type} (mk0 : LI → LI → α) (n : Nat) : Nat → Int → Int → LI → LI → LI → Option α
 | 0, _, _, _, _, _ => none
 | m + 1, x0, x1, x2, x3, x4 => Fby.l4_0.r mk0 n (fun y0 y1 y2 y3 y4 => Fby.l4_0.g mk0 n m y0 y1 y2 y3 y4)  x0 x1 x2 x3 x4
def Fby.l4_0.m (n m : Nat) (t : (Int × (Int × (LI × (LI × LI))))) : Option (LI × LI) := Fby.l4_0.g (fun a0 a1 => (a0, a1)) n m t.1 t.2.1 t.2.2.1 t.2.2.2.1 t.2.2.2.2
def Fby.l4_0.pat : St → Option (Int × (Int × (LI × (LI × LI))))
 | (St.mk [(.int .i64 x0), (.int .u64 x1), (.ptr 0 []), (.ptr 1 []), (.ptr 2 [])] [(some (.var (.ints .u64 4 x2))), (some (.var (.ints .u64 4 x3))), (some (.var (.ints .u64 4 x4)))]) => some (x0, x1, x2, x3, x4)
 | _ => none
def Fby.l4_0.shape (t : (Int × (Int × (LI × (LI × LI))))) : St := (St.mk [(.int .i64 t.1), (.int .u64 t.2.1), (.ptr 0 []), (.ptr 1 []), (.ptr 2 [])] [(some (.var (.ints .u64 4 t.2.2.1))), (some (.var (.ints .u64 4 t.2.2.2.1))), (some (.var (.ints .u64 4 t.2.2.2.2)))])
def Fby.l4_0.res : (LI × LI) → Ex × St
 | u => ((.exit 0), (St.mk [(.ptr 0 []), (.ptr 1 [])] [(some (.var (.ints .u64 4 u.1))), (some (.var (.ints .u64 4 u.2)))]))
def Fby.l4_0.resK {R : Type} (u : (LI × LI)) (K : Ex → St → Option R) : Option R := K (Fby.l4_0.res u).1 (Fby.l4_0.res u).2
noncomputable def Fby.A (n : Nat) : Ann := ⟨Tryd.f100.ntmps, 0, Fby.live, [], [none], fun k => match k with
 | 4 => some (.mk' Fby.l4_0.pat (Fby.l4_0.m n n) Fby.l4_0.resK)
 | _ => none, noNL, lookJ []⟩
noncomputable def Fby.b0 : Code := (loopsIn (Tryd.f100.body.getD .skip)).getD 0 .skip
def Fby.g {α : Type} (mk0 : LI → α) (n : Nat) (a0 : LI) (a1 : LI) : Option α :=
 bindO (Fbx.m n a0) fun r2 =>
  bindO (Fby.l4_0.m n n (0, r2, a1, [0, 0, 0, 0], [0, 0, 0, 0])) fun r4 =>
   some (mk0 r4.1)
def Fby.m (n : Nat) (t : (LI × LI)) : Option LI := Fby.g (fun a0 => a0) n t.1 t.2
def Fby.pat : List AV → Blks → Option (LI × LI)
 | [(.ints .u64 4 a0), (.ints .u64 4 a1)], [] => some (a0, a1)
 | _, _ => none
def Fby.shape (t : (LI × LI)) : List AV × Blks := ([(.ints .u64 4 t.1), (.ints .u64 4 t.2)], [])
def Fby.res : LI → AV × Blks
 | u => ((.ints .u64 4 u), [])
def Fby.resK {R : Type} (u : LI) (K : AV → Blks → Option R) : Option R := K (Fby.res u).1 (Fby.res u).2
def Fby.c (n : Nat) : Abs.Callee := .mk' [] [none, none] Fby.pat (Fby.m n) Fby.resK
end
end
section
noncomputable abbrev Fby.R0 (n : Nat) := roundOf (Fby.C n) (Fby.A n) n Fby.b0
theorem Fby.l4_0.rmap {α β : Type} (h : β → α) (mk0 : LI → LI → β) (n : Nat) (f : Int → Int → LI → LI → LI → Option β)  (x0 : Int) (x1 : Int) (x2 : LI) (x3 : LI) (x4 : LI) : Fby.l4_0.r (fun a0 a1 => (h (mk0 a0 a1))) n (fun y0 y1 y2 y3 y4 => (f y0 y1 y2 y3 y4).map h) x0 x1 x2 x3 x4 = (Fby.l4_0.r mk0 n f x0 x1 x2 x3 x4).map h := by
  unfold Fby.l4_0.r
  exact (ite_map (ite_map (ite_map (ite_map (ite_map (ite_map (ite_map (ite_map (ite_map (ite_map (ite_map (ite_map (ite_map (ite_map (ite_map (ite_map rfl rfl) rfl) rfl) rfl) rfl) rfl) rfl) rfl) rfl) rfl) rfl) rfl) rfl) rfl) (ite_map (ite_map (ite_map (ite_map (ite_map (ite_map (ite_map (ite_map (ite_map rfl rfl) rfl) rfl) rfl) rfl) rfl) rfl) rfl) rfl)) rfl)
theorem Fby.l4_0.gmap {α β : Type} (h : β → α) (mk0 : LI → LI → β) (n : Nat) : ∀ (m : Nat) (x0 : Int) (x1 : Int) (x2 : LI) (x3 : LI) (x4 : LI), Fby.l4_0.g (fun a0 a1 => (h (mk0 a0 a1))) n m x0 x1 x2 x3 x4 = (Fby.l4_0.g mk0 n m x0 x1 x2 x3 x4).map h
  | 0, _, _, _, _, _ => rfl
  | m + 1, x0, x1, x2, x3, x4 => by
    unfold Fby.l4_0.g
    rw [← Fby.l4_0.rmap]
    congr
    · funext y0 y1 y2 y3 y4; exact Fby.l4_0.gmap h mk0 n m y0 y1 y2 y3 y4
theorem Fby.l4_0.pat_shape : ∀ st t, Fby.l4_0.pat st = some t → st = Fby.l4_0.shape t := fun _ _ h => by unfold Fby.l4_0.pat at h; split at h <;> cases h; rfl
def Fby.l4_0.k0 : LI → LI → Ex × St := (fun a0 a1 => (((.exit 0), (St.mk [(.ptr 0 []), (.ptr 1 [])] [(some (.var (.ints .u64 4 a0))), (some (.var (.ints .u64 4 a1)))])) : Ex × St))
theorem Fby.l4_0.round (n : Nat) (rc : St → Option (Ex × St)) (x0 : Int) (x1 : Int) (x2 : LI) (x3 : LI) (x4 : LI) : Fby.R0 n rc ((St.mk [(.int .i64 x0), (.int .u64 x1), (.ptr 0 []), (.ptr 1 []), (.ptr 2 [])] [(some (.var (.ints .u64 4 x2))), (some (.var (.ints .u64 4 x3))), (some (.var (.ints .u64 4 x4)))])) = Fby.l4_0.r Fby.l4_0.k0 n (fun y0 y1 y2 y3 y4 => rc ((St.mk [(.int .i64 y0), (.int .u64 y1), (.ptr 0 []), (.ptr 1 []), (.ptr 2 [])] [(some (.var (.ints .u64 4 y2))), (some (.var (.ints .u64 4 y3))), (some (.var (.ints .u64 4 y4)))]))) x0 x1 x2 x3 x4 := by kernel_rfl
theorem Fby.l4_0.loop' (n : Nat) : ∀ (m : Nat) (t : (Int × (Int × (LI × (LI × LI))))), loopOf (Fby.R0 n) m (Fby.l4_0.shape t) = Fby.l4_0.g Fby.l4_0.k0 n m t.1 t.2.1 t.2.2.1 t.2.2.2.1 t.2.2.2.2 :=
  loop_of_round (shape := Fby.l4_0.shape) (body := Fby.R0 n) (g := fun m t => Fby.l4_0.g Fby.l4_0.k0 n m t.1 t.2.1 t.2.2.1 t.2.2.2.1 t.2.2.2.2) (fun t => rfl)
    fun m t ih => (Fby.l4_0.round n (loopOf (Fby.R0 n) m) t.1 t.2.1 t.2.2.1 t.2.2.2.1 t.2.2.2.2).trans (congrFun (congrFun (congrFun (congrFun (congrFun (congrArg (Fby.l4_0.r Fby.l4_0.k0 n) (funext fun y0 => funext fun y1 => funext fun y2 => funext fun y3 => funext fun y4 => ih (y0, y1, y2, y3, y4))) t.1) t.2.1) t.2.2.1) t.2.2.2.1) t.2.2.2.2)
theorem Fby.l4_0.loop (n m : Nat) (t : (Int × (Int × (LI × (LI × LI))))) : loopOf (Fby.R0 n) m (Fby.l4_0.shape t) = (Fby.l4_0.m n m t).map Fby.l4_0.res :=
  (Fby.l4_0.loop' n m t).trans (Fby.l4_0.gmap Fby.l4_0.res (fun a0 a1 => (a0, a1)) n m t.1 t.2.1 t.2.2.1 t.2.2.2.1 t.2.2.2.2)
theorem Fby.gmap {α β : Type} (h : β → α) (mk0 : LI → β) (n : Nat) (a0 : LI) (a1 : LI) : Fby.g (fun a0 => (h (mk0 a0))) n a0 a1 = (Fby.g mk0 n a0 a1).map h := by
  unfold Fby.g
  exact (bindO_map fun r2 => (bindO_map fun r4 => rfl))
theorem Fby.run (n : Nat) (a0 : LI) (a1 : LI) : runF (Fby.C n) (Fby.A n) n Tryd.f100 [(.ints .u64 4 a0), (.ints .u64 4 a1)] [] (fun v o => some (v, o)) = Fby.g (fun a0 => (((.ints .u64 4 a0), []) : AV × Blks)) n a0 a1 := by kernel_rfl
theorem Fby.call (hmix : Tryd.prog.follows .mixedOrders = true) (n : Nat) (t : (LI × LI)) (u) (h : Fby.m n t = some u) : FnC Tryd.prog abiG 100 (Fby.shape t).1 (Fby.shape t).2 (Fby.res u).1 (Fby.res u).2 :=
  fnC1 (C := Fby.C n) (A := Fby.A n) (fn := Tryd.f100) rfl (.cons (Fbx.s hmix n) .nil) hmix Tryd.func100 (by kernel_rfl) (lp := [Fby.b0]) (by kernel_rfl) (.cons (show (Fby.A n).loop (key Fby.b0) = some (.mk' Fby.l4_0.pat (Fby.l4_0.m n n) Fby.l4_0.resK) by kernel_rfl) (LoopS.of (res := Fby.l4_0.res) (fun R u K => rfl) Fby.l4_0.pat_shape fun t => Fby.l4_0.loop n n t)
  .nil)
  (nj rfl) (by decide) rfl rfl (by show 2 ≤ Tryd.f100.ntmps; decide) (Fby.run n t.1 t.2) (Fby.gmap Fby.res (fun a0 => a0) n t.1 t.2) h
theorem Fby.s (hmix : Tryd.prog.follows .mixedOrders = true) (n : Nat) : CalleeS Tryd.prog abiG 100 (Fby.c n) :=
  .mk1 (res := Fby.res) (shape := Fby.shape) (fun R u K => rfl) (fun _ _ _ h => by unfold Fby.pat at h; split at h <;> cases h; rfl) (fun t u h => Fby.call hmix n t u h) Tryd.func100 (by decide) (by kernel_rfl)
end
section
noncomputable section
noncomputable def Fbi.C (n : Nat) : Ctx := ⟨Tryd.prog, abiG, lookC [(56, Fan.c n)], fun _ => false⟩
noncomputable def Fbi.A (n : Nat) : Ann := ⟨Tryd.f63.ntmps, 0, noNL, [], [none], fun k => match k with
 | _ => none, noNL, lookJ []⟩
def Fbi.g {α : Type} (mk0 : LI → α) (n : Nat) (a0 : LI) : Option α :=
 bindO (Fan.m n a0) fun r2 =>
  if 12 ≤ (((List.length r2) : Nat) : Int) then
   if 20 ≤ (Go.Abs.span (List.length r2) 12 (Option.none)) then
    some (mk0 (List.take 20 (List.drop 12 r2)))
   else
    none
  else
   none
def Fbi.m (n : Nat) (t : LI) : Option LI := Fbi.g (fun a0 => a0) n t
def Fbi.pat : List AV → Blks → Option LI
 | [(.ints .u64 4 a0)], [] => some a0
 | _, _ => none
def Fbi.shape (t : LI) : List AV × Blks := ([(.ints .u64 4 t)], [])
def Fbi.res : LI → AV × Blks
 | u => ((.ints .u8 20 u), [])
def Fbi.resK {R : Type} (u : LI) (K : AV → Blks → Option R) : Option R := K (Fbi.res u).1 (Fbi.res u).2
def Fbi.c (n : Nat) : Abs.Callee := .mk' [] [none] Fbi.pat (Fbi.m n) Fbi.resK
end
end
section
theorem Fbi.gmap {α β : Type} (h : β → α) (mk0 : LI → β) (n : Nat) (a0 : LI) : Fbi.g (fun a0 => (h (mk0 a0))) n a0 = (Fbi.g mk0 n a0).map h := by
  unfold Fbi.g
  exact (bindO_map fun r2 => (ite_map (ite_map rfl rfl) rfl))
theorem Fbi.run (n : Nat) (a0 : LI) : runF (Fbi.C n) (Fbi.A n) n Tryd.f63 [(.ints .u64 4 a0)] [] (fun v o => some (v, o)) = Fbi.g (fun a0 => (((.ints .u8 20 a0), []) : AV × Blks)) n a0 := by kernel_rfl
theorem Fbi.call (hmix : Tryd.prog.follows .mixedOrders = true) (n : Nat) (t : LI) (u) (h : Fbi.m n t = some u) : FnC Tryd.prog abiG 63 (Fbi.shape t).1 (Fbi.shape t).2 (Fbi.res u).1 (Fbi.res u).2 :=
  fnC1 (C := Fbi.C n) (A := Fbi.A n) (fn := Tryd.f63) rfl (.cons (Fan.s hmix n) .nil) hmix Tryd.func63 (by kernel_rfl) (lp := []) (by kernel_rfl) .nil
  (nj rfl) (by decide) rfl rfl (by show 1 ≤ Tryd.f63.ntmps; decide) (Fbi.run n t) (Fbi.gmap Fbi.res (fun a0 => a0) n t) h
theorem Fbi.s (hmix : Tryd.prog.follows .mixedOrders = true) (n : Nat) : CalleeS Tryd.prog abiG 63 (Fbi.c n) :=
  .mk1 (res := Fbi.res) (shape := Fbi.shape) (fun R u K => rfl) (fun _ _ _ h => by unfold Fbi.pat at h; split at h <;> cases h; rfl) (fun t u h => Fbi.call hmix n t u h) Tryd.func63 (by decide) (by kernel_rfl)
end
section
noncomputable section
noncomputable def Fbj.C (n : Nat) : Ctx := ⟨Tryd.prog, abiG, lookC [(89, Fbd.c n)], fun _ => false⟩
noncomputable def Fbj.A (n : Nat) : Ann := ⟨Tryd.f75.ntmps, 0, noNL, [], [none], fun k => match k with
 | _ => none, noNL, lookJ []⟩
def Fbj.g {α : Type} (mk0 : LI → α) (n : Nat) (a0 : LI) : Option α :=
 bindO (Fbd.m n (List.take 20 (List.drop 0 a0))) fun r2 =>
  some (mk0 r2)
def Fbj.m (n : Nat) (t : LI) : Option LI := Fbj.g (fun a0 => a0) n t
def Fbj.pat : List AV → Blks → Option LI
 | [(.ints .u8 20 a0)], [] => some a0
 | _, _ => none
def Fbj.shape (t : LI) : List AV × Blks := ([(.ints .u8 20 t)], [])
def Fbj.res : LI → AV × Blks
 | u => ((.ints .u64 4 u), [])
def Fbj.resK {R : Type} (u : LI) (K : AV → Blks → Option R) : Option R := K (Fbj.res u).1 (Fbj.res u).2
def Fbj.c (n : Nat) : Abs.Callee := .mk' [] [none] Fbj.pat (Fbj.m n) Fbj.resK
end
end
section
theorem Fbj.gmap {α β : Type} (h : β → α) (mk0 : LI → β) (n : Nat) (a0 : LI) : Fbj.g (fun a0 => (h (mk0 a0))) n a0 = (Fbj.g mk0 n a0).map h := by
  unfold Fbj.g
  exact (bindO_map fun r2 => rfl)
theorem Fbj.run (n : Nat) (a0 : LI) : runF (Fbj.C n) (Fbj.A n) n Tryd.f75 [(.ints .u8 20 a0)] [] (fun v o => some (v, o)) = Fbj.g (fun a0 => (((.ints .u64 4 a0), []) : AV × Blks)) n a0 := by kernel_rfl
theorem Fbj.call (hmix : Tryd.prog.follows .mixedOrders = true) (n : Nat) (t : LI) (u) (h : Fbj.m n t = some u) : FnC Tryd.prog abiG 75 (Fbj.shape t).1 (Fbj.shape t).2 (Fbj.res u).1 (Fbj.res u).2 :=
  fnC1 (C := Fbj.C n) (A := Fbj.A n) (fn := Tryd.f75) rfl (.cons (Fbd.s hmix n) .nil) hmix Tryd.func75 (by kernel_rfl) (lp := []) (by kernel_rfl) .nil
  (nj rfl) (by decide) rfl rfl (by show 1 ≤ Tryd.f75.ntmps; decide) (Fbj.run n t) (Fbj.gmap Fbj.res (fun a0 => a0) n t) h
theorem Fbj.s (hmix : Tryd.prog.follows .mixedOrders = true) (n : Nat) : CalleeS Tryd.prog abiG 75 (Fbj.c n) :=
  .mk1 (res := Fbj.res) (shape := Fbj.shape) (fun R u K => rfl) (fun _ _ _ h => by unfold Fbj.pat at h; split at h <;> cases h; rfl) (fun t u h => Fbj.call hmix n t u h) Tryd.func75 (by decide) (by kernel_rfl)
end
section
noncomputable section
noncomputable def Fn.C (n : Nat) : Ctx := ⟨Tryd.prog, abiG, lookC [], fun _ => false⟩
noncomputable def Fn.A (n : Nat) : Ann := ⟨Tryd.f19.ntmps, 0, noNL, [], [none], fun k => match k with
 | _ => none, noNL, lookJ []⟩
def Fn.g {α : Type} (mk0 : Bool → α) (n : Nat) (a0 : LI) (a1 : LI) : Option α :=
 some (mk0 ((ByteArray.toList (Go.Abs.strOf a0)) == (ByteArray.toList (Go.Abs.strOf a1))))
def Fn.m (n : Nat) (t : (LI × LI)) : Option Bool := Fn.g (fun a0 => a0) n t.1 t.2
def Fn.pat : List AV → Blks → Option (LI × LI)
 | [(.rints .u8 a0), (.rints .u8 a1)], [] => some (a0, a1)
 | _, _ => none
def Fn.shape (t : (LI × LI)) : List AV × Blks := ([(.rints .u8 t.1), (.rints .u8 t.2)], [])
def Fn.res : Bool → AV × Blks
 | u => ((.bool u), [])
def Fn.resK {R : Type} (u : Bool) (K : AV → Blks → Option R) : Option R := K (Fn.res u).1 (Fn.res u).2
def Fn.c (n : Nat) : Abs.Callee := .mk' [] [(some (.ints .u8)), (some (.ints .u8))] Fn.pat (Fn.m n) Fn.resK
end
end
section
theorem Fn.gmap {α β : Type} (h : β → α) (mk0 : Bool → β) (n : Nat) (a0 : LI) (a1 : LI) : Fn.g (fun a0 => (h (mk0 a0))) n a0 a1 = (Fn.g mk0 n a0 a1).map h := by
  unfold Fn.g
  exact rfl
theorem Fn.run (n : Nat) (a0 : LI) (a1 : LI) : runF (Fn.C n) (Fn.A n) n Tryd.f19 [(.rints .u8 a0), (.rints .u8 a1)] [] (fun v o => some (v, o)) = Fn.g (fun a0 => (((.bool a0), []) : AV × Blks)) n a0 a1 := by kernel_rfl
theorem Fn.call (hmix : Tryd.prog.follows .mixedOrders = true) (n : Nat) (t : (LI × LI)) (u) (h : Fn.m n t = some u) : FnC Tryd.prog abiG 19 (Fn.shape t).1 (Fn.shape t).2 (Fn.res u).1 (Fn.res u).2 :=
  fnC1 (C := Fn.C n) (A := Fn.A n) (fn := Tryd.f19) rfl .nil hmix Tryd.func19 (by kernel_rfl) (lp := []) (by kernel_rfl) .nil
  (nj rfl) (by decide) rfl rfl (by show 2 ≤ Tryd.f19.ntmps; decide) (Fn.run n t.1 t.2) (Fn.gmap Fn.res (fun a0 => a0) n t.1 t.2) h
theorem Fn.s (hmix : Tryd.prog.follows .mixedOrders = true) (n : Nat) : CalleeS Tryd.prog abiG 19 (Fn.c n) :=
  .mk1 (res := Fn.res) (shape := Fn.shape) (fun R u K => rfl) (fun _ _ _ h => by unfold Fn.pat at h; split at h <;> cases h; rfl) (fun t u h => Fn.call hmix n t u h) Tryd.func19 (by decide) (by kernel_rfl)
end
section
noncomputable section
noncomputable def Fcq.C (n : Nat) : Ctx := ⟨Tryd.prog, abiG, lookC [(89, Fbd.c n), (120, Fav.c n)], fun _ => false⟩
noncomputable def Fcq.A (n : Nat) : Ann := ⟨Tryd.f105.ntmps, 0, noNL, [], [none, none], fun k => match k with
 | _ => none, noNL, lookJ []⟩
def Fcq.g {α : Type} (mk0 : Int → α) (mk1 : Int → α) (n : Nat) (a0 : LI) (a1 : Int) : Option α :=
 if (decide ((((List.length a0) : Nat) : Int) < 32)) = true then
  some (mk0 0)
 else
  if 32 ≤ (((List.length a0) : Nat) : Int) then
   bindO (Fbd.m n (Go.Abs.cut a0 0 (Option.some 32))) fun r6 =>
    bindO (Fav.m n r6) fun r8 =>
     if (!r8.2) = true then
      some (mk0 0)
     else
      if (decide (a1 < 0)) = true then
       some (mk0 0)
      else
       if (decide (r8.1 > (IntKind.wrap .u64 a1))) = true then
        some (mk0 0)
       else
        some (mk1 (IntKind.wrap .i64 r8.1))
  else
   none
def Fcq.m (n : Nat) (t : (LI × Int)) : Option (Int ⊕ Int) := Fcq.g (fun a0 => (.inl a0)) (fun a0 => (.inr a0)) n t.1 t.2
def Fcq.pat : List AV → Blks → Option (LI × Int)
 | [(.rints .u8 a0), (.int .i64 a1)], [] => some (a0, a1)
 | _, _ => none
def Fcq.shape (t : (LI × Int)) : List AV × Blks := ([(.rints .u8 t.1), (.int .i64 t.2)], [])
def Fcq.res : (Int ⊕ Int) → AV × Blks
 | (.inl u) => ((.tup [(.int .i64 u), (.iface 166 .any)]), [])
 | (.inr u) => ((.tup [(.int .i64 u), .nili]), [])
def Fcq.resK {R : Type} (u : (Int ⊕ Int)) (K : AV → Blks → Option R) : Option R := match u with
 | (.inl u) => (fun p : AV × Blks => K p.1 p.2) ((.tup [(.int .i64 u), (.iface 166 .any)]), [])
 | (.inr u) => (fun p : AV × Blks => K p.1 p.2) ((.tup [(.int .i64 u), .nili]), [])
def Fcq.c (n : Nat) : Abs.Callee := .mk' [] [(some (.ints .u8)), none] Fcq.pat (Fcq.m n) Fcq.resK
end
end
section
theorem Fcq.gmap {α β : Type} (h : β → α) (mk0 : Int → β) (mk1 : Int → β) (n : Nat) (a0 : LI) (a1 : Int) : Fcq.g (fun a0 => (h (mk0 a0))) (fun a0 => (h (mk1 a0))) n a0 a1 = (Fcq.g mk0 mk1 n a0 a1).map h := by
  unfold Fcq.g
  exact (ite_map rfl (ite_map (bindO_map fun r6 => (bindO_map fun r8 => (ite_map rfl (ite_map rfl (ite_map rfl rfl))))) rfl))
theorem Fcq.run (n : Nat) (a0 : LI) (a1 : Int) : runF (Fcq.C n) (Fcq.A n) n Tryd.f105 [(.rints .u8 a0), (.int .i64 a1)] [] (fun v o => some (v, o)) = Fcq.g (fun a0 => (((.tup [(.int .i64 a0), (.iface 166 .any)]), []) : AV × Blks)) (fun a0 => (((.tup [(.int .i64 a0), .nili]), []) : AV × Blks)) n a0 a1 := by kernel_rfl
theorem Fcq.call (hmix : Tryd.prog.follows .mixedOrders = true) (n : Nat) (t : (LI × Int)) (u) (h : Fcq.m n t = some u) : FnC Tryd.prog abiG 105 (Fcq.shape t).1 (Fcq.shape t).2 (Fcq.res u).1 (Fcq.res u).2 :=
  fnC1 (C := Fcq.C n) (A := Fcq.A n) (fn := Tryd.f105) rfl (.cons (Fbd.s hmix n) (.cons (Fav.s hmix n) .nil)) hmix Tryd.func105 (by kernel_rfl) (lp := []) (by kernel_rfl) .nil
  (nj rfl) (by decide) rfl rfl (by show 2 ≤ Tryd.f105.ntmps; decide) (Fcq.run n t.1 t.2) (Fcq.gmap Fcq.res (fun a0 => (.inl a0)) (fun a0 => (.inr a0)) n t.1 t.2) h
theorem Fcq.s (hmix : Tryd.prog.follows .mixedOrders = true) (n : Nat) : CalleeS Tryd.prog abiG 105 (Fcq.c n) :=
  .mk1 (res := Fcq.res) (shape := Fcq.shape) (fun R u K => by rcases u with u | u <;> rfl) (fun _ _ _ h => by unfold Fcq.pat at h; split at h <;> cases h; rfl) (fun t u h => Fcq.call hmix n t u h) Tryd.func105 (by decide) (by kernel_rfl)
end
section
noncomputable section
def Fb.m (n : Nat) (t : List Int) : Option LI := if t.length ≤ 100000 then some t else none
def Fb.pat : List AV → Blks → Option LI
 | [(.rints .u8 a0)], [] => some a0
 | _, _ => none
def Fb.shape (t : List Int) : List AV × Blks := ([(.rints .u8 t)], [])
def Fb.res : LI → AV × Blks
 | u => ((.own 0 1), [(some (.ints .u8 u))])
def Fb.resK {R : Type} (u : LI) (K : AV → Blks → Option R) : Option R := K (Fb.res u).1 (Fb.res u).2
def Fb.c (n : Nat) : Abs.Callee := .mk' [] [some (.ints .u8)] Fb.pat (Fb.m n) Fb.resK
end
end
section
noncomputable section
noncomputable def Faa.C (n : Nat) : Ctx := ⟨Tryd.prog, abiG, lookC [(105, Fcq.c n), (106, Fb.c n)], fun _ => false⟩
noncomputable def Faa.A (n : Nat) : Ann := ⟨Tryd.f90.ntmps, 0, noNL, [], [(some (.ints .u8)), none], fun k => match k with
 | _ => none, noNL, lookJ []⟩
def Faa.g {α : Type} (mk0 : Int → LI → α) (mk1 : LI → α) (n : Nat) (a0 : LI) (a1 : Int) : Option α :=
 if 0 ≤ (IntKind.wrap .i64 (32 * a1)) then
  if (IntKind.wrap .i64 (32 * a1)) ≤ (((List.length a0) : Nat) : Int) then
   bindO (Fcq.m n ((Go.Abs.cut a0 (Int.toNat (IntKind.wrap .i64 (32 * a1))) (Option.none)), (((List.length a0) : Nat) : Int))) fun r6 => match r6 with
    | (.inl r6) =>
     some (mk0 a1 [])
    | (.inr r6) =>
     if 0 ≤ r6 then
      if r6 ≤ (((List.length a0) : Nat) : Int) then
       bindO (Fcq.m n ((Go.Abs.cut a0 (Int.toNat r6) (Option.none)), (IntKind.wrap .i64 ((IntKind.wrap .i64 ((((List.length a0) : Nat) : Int) - r6)) - 32)))) fun r14 => match r14 with
        | (.inl r14) =>
         some (mk0 a1 [])
        | (.inr r14) =>
         if 0 ≤ (IntKind.wrap .i64 ((IntKind.wrap .i64 (r6 + 32)) + r14)) then
          if (IntKind.wrap .i64 ((IntKind.wrap .i64 (r6 + 32)) + r14)) ≤ (((List.length a0) : Nat) : Int) then
           if 0 ≤ (IntKind.wrap .i64 (r6 + 32)) then
            if (IntKind.wrap .i64 (r6 + 32)) ≤ (IntKind.wrap .i64 ((IntKind.wrap .i64 (r6 + 32)) + r14)) then
             bindO (Fb.m n (Go.Abs.cut a0 (Int.toNat (IntKind.wrap .i64 (r6 + 32))) (Option.some (Int.toNat (IntKind.wrap .i64 ((IntKind.wrap .i64 (r6 + 32)) + r14)))))) fun r26 =>
              some (mk1 r26)
            else
             none
           else
            none
          else
           none
         else
          none
      else
       none
     else
      none
  else
   none
 else
  none
def Faa.m (n : Nat) (t : (LI × Int)) : Option ((Int × LI) ⊕ LI) := Faa.g (fun a0 a1 => (.inl (a0, a1))) (fun a0 => (.inr a0)) n t.1 t.2
def Faa.pat : List AV → Blks → Option (LI × Int)
 | [(.rints .u8 a0), (.int .i64 a1)], [] => some (a0, a1)
 | _, _ => none
def Faa.shape (t : (LI × Int)) : List AV × Blks := ([(.rints .u8 t.1), (.int .i64 t.2)], [])
def Faa.res : ((Int × LI) ⊕ LI) → AV × Blks
 | (.inl u) => ((.tup [(.own 0 1), (.iface 104 (.agg [(.int .i64 u.1), (.iface 166 .any)]))]), [(some (.ints .u8 u.2))])
 | (.inr u) => ((.tup [(.own 0 1), .nili]), [(some (.ints .u8 u))])
def Faa.resK {R : Type} (u : ((Int × LI) ⊕ LI)) (K : AV → Blks → Option R) : Option R := match u with
 | (.inl u) => (fun p : AV × Blks => K p.1 p.2) ((.tup [(.own 0 1), (.iface 104 (.agg [(.int .i64 u.1), (.iface 166 .any)]))]), [(some (.ints .u8 u.2))])
 | (.inr u) => (fun p : AV × Blks => K p.1 p.2) ((.tup [(.own 0 1), .nili]), [(some (.ints .u8 u))])
def Faa.c (n : Nat) : Abs.Callee := .mk' [] [(some (.ints .u8)), none] Faa.pat (Faa.m n) Faa.resK
end
end
section
namespace Go.Proofs
open Go Go.RowKit Go.Shelf Go.Lib
attribute [local go_sem] Oper.semAt_some
theorem Tryd.info5 : (Tryd.prog.info? 5).map (fun i => (i.zero, i.size, i.bytes)) = some (some (.int .u8 0), 1, 1) := by kernel_rfl
theorem Tryd.under26 : Tryd.prog.underlying 26 = some (.slice 5) := by kernel_rfl
set_option maxHeartbeats 2000000 in
theorem Tryd.clone_in (F : Fence) (n : Nat) (hF : F.fn 106) (hro : F.round = none) (ad : Addr) (cap : Nat) (zs : List Int) (w : World) (hbig : zs.length ≤ 100000) (hc : ∀ j, j < zs.length → w.cell? (ad.add j) = some (.int .u8 (zs.getD j 0))) :
    CallsIn F n Tryd.prog 106 #[.slice (some ad) zs.length cap] w fun e w' => ∃ v', e = .returned v' ∧ w'.ownsRow w.heap.size 5 1 v' zs.length (zs.map (Value.int .u8)) ∧ Below w.heap.size w w' := by
  obtain ⟨i0, hi, hz0, hz1, hz2⟩ := info_parts Tryd.info5
  have q22 : ∀ (w : World) (a : Option Addr) (n c n' c' : Nat), (binOp .eql 26 (.slice a n c) (.slice none n' c')).run Tryd.prog w = .ok (.bool a.isNone) w := fun w a n c n' c' => Lib.run_eql_slice_nil w _ _ a n c n' c' Tryd.under26
  have u22 : ∀ w, Sem.run Tryd.prog (underlying 26) w = .ok (TypeDesc.slice 5) w := run_underlying Tryd.under26
  have A : Aside (∀ j, j < zs.length → w.cell? (ad.add j) = some (.int .u8 (zs.getD j 0))) := hc
  clear hc
  refine callsIn_of_wp Tryd.func106 rfl hF ?_ hro
  simp only [Tryd.ntmps106, List.size_toArray, List.length_cons, List.length_nil, Nat.reduceAdd, Nat.reduceSub, Array.replicate_succ, Array.replicate_zero, List.push_toArray, List.append_toArray, List.nil_append, List.cons_append]
  gi_wp2_with (gi_at_builtin; refine wpListIn_append_own _ rfl _ _ 26 rfl w.heap.size 5 i0 (.int .u8 0) 1 1 Tryd.under26 hi hz0 hz1 hz2 rfl (by decide) _ _ _ rfl (World.ownsRow_made w #[] 0 (Nat.le_refl _) (Nat.zero_le _) rfl) ad zs.length cap (zs.map (Value.int .u8)) rfl ?qc1 ?qc2 ?qc3 ?qc4 ?qc5 ?qc6 ?_)
  case qc1 => simp
  case qc2 =>
    intro j u hj
    have hjn : j < zs.length := by
      have := (List.getElem?_eq_some_iff.1 hj).1
      simpa using this
    refine Lib.cell?_alloc_some _ ?_
    rw [A.out j hjn]
    have e : (zs.map (Value.int .u8))[j]? = some (Value.int .u8 (zs.getD j 0)) := by simp [List.getD, List.getElem?_eq_getElem hjn]
    rw [e] at hj
    exact hj
  case qc3 => intro u hu; obtain ⟨x, _, rfl⟩ := List.mem_map.1 hu; rfl
  case qc4 => unfold maxLen; omega
  case qc5 => omega
  case qc6 => simp
  intro v' w1 hown hgrow hnil
  gi_wp2
  go_ret
  refine ⟨v', rfl, by simpa using hown, ?_⟩
  exact ((Below.refl _ w).alloc (Nat.le_refl _) _).grown hgrow (by simp) (by intro k hk; simp [Value.ownBlock] at hk; omega)
set_option maxHeartbeats 1000000 in
theorem Tryd.clone_nil (F : Fence) (n : Nat) (hF : F.fn 106) (hro : F.round = none) (m c : Nat) (w : World) :
    CallsIn F n Tryd.prog 106 #[.slice none m c] w fun e w' => e = .returned (.slice none 0 0) ∧ w' = w := by
  have q22 : ∀ (w : World) (a : Option Addr) (n c n' c' : Nat), (binOp .eql 26 (.slice a n c) (.slice none n' c')).run Tryd.prog w = .ok (.bool a.isNone) w := fun w a n c n' c' => Lib.run_eql_slice_nil w _ _ a n c n' c' Tryd.under26
  refine callsIn_of_wp Tryd.func106 rfl hF ?_ hro
  simp only [Tryd.ntmps106, List.size_toArray, List.length_cons, List.length_nil, Nat.reduceAdd, Nat.reduceSub, Array.replicate_succ, Array.replicate_zero, List.push_toArray, List.append_toArray, List.nil_append, List.cons_append]
  gi_wp2
  go_ret
  exact ⟨rfl, rfl⟩
end Go.Proofs
namespace Go.Abs
open Go Go.Proofs Go.RowKit
theorem clone_ok (t : List Int) (h : t.length ≤ 100000) : FnOK Tryd.prog abiG 106 [.rints .u8 t] [] (.own 0 1) [some (.ints .u8 t)] := by
  intro E vs hbl m g ha
  obtain ⟨v, rfl, hv⟩ := args1 ha
  refine .inl ⟨Tryd.f106, Tryd.func106, by decide, by kernel_rfl, (callsIn_wide (n := 3)).1 ?_⟩
  have fin : ∀ v' W', W'.ownsRow E.w.heap.size 5 1 v' t.length (t.map (Value.int .u8)) → Below E.w.heap.size E.w W' → ∃ E', E'.w = W' ∧ E'.bl = [some (.ints .u8 t)] ∧ Go E E' ∧ VR E' true (.own 0 1) v' := fun v' W' hrow hB => by
    obtain ⟨E', h1, h2, h3, h4⟩ := took_own m hB .u8 t hrow
    rw [hbl] at h2 h4
    exact ⟨E', h1, h2, h3, h4⟩
  cases hv with
  | rints _ _ _ a cap hc hx =>
    cases a with
    | none =>
      have ht : t = [] := by
        cases t with
        | nil => rfl
        | cons x r =>
          obtain ⟨ad, e, -⟩ := hx 0 (by simp)
          cases e
      subst ht
      refine (Tryd.clone_nil Fence.wide 3 trivial rfl _ cap E.w).mono ?_
      rintro e W' ⟨rfl, rfl⟩
      exact ⟨_, rfl, fin _ _ (World.ownsRow_nil _ _ _ _) (Below.refl _ _)⟩
    | some ad =>
      refine (Tryd.clone_in Fence.wide 3 trivial rfl ad cap t E.w h fun j hj => ?_).mono ?_
      · obtain ⟨ad', e, e2, -, e4⟩ := hx j hj
        cases e
        have : ad.add j = ⟨ad.block, ad.off + j, none⟩ := by unfold Addr.add; cases ad; simp at e2; subst e2; split <;> simp_all
        rw [this]
        exact e4
      · rintro e W' ⟨v', rfl, h1, h2⟩
        exact ⟨v', rfl, fin _ _ h1 h2⟩
end Go.Abs
end
section
theorem Fb.ok (n : Nat) (t) (u) (h : Fb.m n t = some u) : FnOK Tryd.prog abiG 106 (Fb.shape t).1 (Fb.shape t).2 (Fb.res u).1 (Fb.res u).2 := by
  unfold Fb.m at h
  split at h
  · rename_i hl
    cases h
    exact clone_ok t hl
  · cases h
theorem Fb.s (hmix : Tryd.prog.follows .mixedOrders = true) (n : Nat) : CalleeS Tryd.prog abiG 106 (Fb.c n) :=
  CalleeS.of (res := Fb.res) (shape := Fb.shape) (fun R u K => rfl) (fun args lent t h => by
    unfold Fb.pat at h
    split at h
    · cases h; rfl
    · cases h) fun t u h => Fb.ok n t u h
end
section
theorem Faa.gmap {α β : Type} (h : β → α) (mk0 : Int → LI → β) (mk1 : LI → β) (n : Nat) (a0 : LI) (a1 : Int) : Faa.g (fun a0 a1 => (h (mk0 a0 a1))) (fun a0 => (h (mk1 a0))) n a0 a1 = (Faa.g mk0 mk1 n a0 a1).map h := by
  unfold Faa.g
  exact (ite_map (ite_map (bindO_map fun r6 => match r6 with | (.inl r6) => rfl | (.inr r6) => (ite_map (ite_map (bindO_map fun r14 => match r14 with | (.inl r14) => rfl | (.inr r14) => (ite_map (ite_map (ite_map (ite_map (bindO_map fun r26 => rfl) rfl) rfl) rfl) rfl)) rfl) rfl)) rfl) rfl)
theorem Faa.run (n : Nat) (a0 : LI) (a1 : Int) : runF (Faa.C n) (Faa.A n) n Tryd.f90 [(.rints .u8 a0), (.int .i64 a1)] [] (fun v o => some (v, o)) = Faa.g (fun a0 a1 => (((.tup [(.own 0 1), (.iface 104 (.agg [(.int .i64 a0), (.iface 166 .any)]))]), [(some (.ints .u8 a1))]) : AV × Blks)) (fun a0 => (((.tup [(.own 0 1), .nili]), [(some (.ints .u8 a0))]) : AV × Blks)) n a0 a1 := by kernel_rfl
theorem Faa.call (hmix : Tryd.prog.follows .mixedOrders = true) (n : Nat) (t : (LI × Int)) (u) (h : Faa.m n t = some u) : FnC Tryd.prog abiG 90 (Faa.shape t).1 (Faa.shape t).2 (Faa.res u).1 (Faa.res u).2 :=
  fnC1 (C := Faa.C n) (A := Faa.A n) (fn := Tryd.f90) rfl (.cons (Fcq.s hmix n) (.cons (Fb.s hmix n) .nil)) hmix Tryd.func90 (by kernel_rfl) (lp := []) (by kernel_rfl) .nil
  (nj rfl) (by decide) rfl rfl (by show 2 ≤ Tryd.f90.ntmps; decide) (Faa.run n t.1 t.2) (Faa.gmap Faa.res (fun a0 a1 => (.inl (a0, a1))) (fun a0 => (.inr a0)) n t.1 t.2) h
theorem Faa.s (hmix : Tryd.prog.follows .mixedOrders = true) (n : Nat) : CalleeS Tryd.prog abiG 90 (Faa.c n) :=
  .mk1 (res := Faa.res) (shape := Faa.shape) (fun R u K => by rcases u with u | u <;> rfl) (fun _ _ _ h => by unfold Faa.pat at h; split at h <;> cases h; rfl) (fun t u h => Faa.call hmix n t u h) Tryd.func90 (by decide) (by kernel_rfl)
end
section
noncomputable section
def errors_As0.m (n : Nat) (t : Int) : Option Int := some t
def errors_As0.pat : List AV → Blks → Option Int
 | [.nili, .iface 106 (.ptr 0 [])], [some (.var (.agg [.int .i64 a, .nili]))] => some a
 | _, _ => none
def errors_As0.shape (t : Int) : List AV × Blks := ([.nili, .iface 106 (.ptr 0 [])], [some (.var (.agg [.int .i64 t, .nili]))])
def errors_As0.res : Int → AV × Blks
 | u => ((.bool false), [some (.var (.agg [.int .i64 u, .nili]))])
def errors_As0.resK {R : Type} (u : Int) (K : AV → Blks → Option R) : Option R := K (errors_As0.res u).1 (errors_As0.res u).2
def errors_As0.c (n : Nat) : Abs.Callee := .mk' [false, true] [none, none] errors_As0.pat (errors_As0.m n) errors_As0.resK
def errors_As1.m (n : Nat) (t : Int × Int) : Option Int := some t.1
def errors_As1.pat : List AV → Blks → Option (Int × Int)
 | [.iface 104 (.agg [.int .i64 i, .iface 166 .any]), .iface 106 (.ptr 0 [])], [some (.var (.agg [.int .i64 a, .nili]))] => some (i, a)
 | _, _ => none
def errors_As1.shape (t : Int × Int) : List AV × Blks := ([.iface 104 (.agg [.int .i64 t.1, .iface 166 .any]), .iface 106 (.ptr 0 [])], [some (.var (.agg [.int .i64 t.2, .nili]))])
def errors_As1.res : Int → AV × Blks
 | u => ((.bool true), [some (.var (.agg [.int .i64 u, .iface 166 .any]))])
def errors_As1.resK {R : Type} (u : Int) (K : AV → Blks → Option R) : Option R := K (errors_As1.res u).1 (errors_As1.res u).2
def errors_As1.c (n : Nat) : Abs.Callee := .mk' [false, true] [none, none] errors_As1.pat (errors_As1.m n) errors_As1.resK
def Fbk.isNil : List AV → Bool
 | .nili :: _ => true
 | _ => false
def Fbk.c (n : Nat) : Abs.Callee := .pick Fbk.isNil (errors_As0.c n) (errors_As1.c n)
end
end
section
noncomputable section
noncomputable def Fab.C (n : Nat) : Ctx := ⟨Tryd.prog, abiG, lookC [(89, Fbd.c n), (90, Faa.c n), (91, Fbk.c n)], fun _ => false⟩
def Fab.live : NL := fun k => match k with
 | 5 => ([21, 20, 19, 1, 6], [4, 5, 6])
 | _ => ([], [])
def Fab.l5_0.r {α : Type} (mk0 : Int → LI → LA → LA → α) (mk1 : LI → LA → α) (n : Nat) (rc : Int → Int → LA → LI → LA → Option α)  (x0 : Int) (x1 : Int) (x2 : LA) (x3 : LI) (x4 : LA) : Option α :=
  if (decide (x0 < x1)) = true then
   if 0 ≤ x0 then
    if x0 < (((List.length x2) : Nat) : Int) then
     bindO (tkBool (List.getD x2 (Int.toNat x0) AV.any)) fun r10 =>
      if (!r10) = true then
       if 0 ≤ (IntKind.wrap .i64 (32 * (IntKind.wrap .i64 (x0 + 1)))) then
        if (IntKind.wrap .i64 (32 * (IntKind.wrap .i64 (x0 + 1)))) ≤ (((List.length x3) : Nat) : Int) then
         if 0 ≤ (IntKind.wrap .i64 (32 * x0)) then
          if (IntKind.wrap .i64 (32 * x0)) ≤ (IntKind.wrap .i64 (32 * (IntKind.wrap .i64 (x0 + 1)))) then
           bindO (Fbd.m n (List.take (Go.Abs.span (List.length x3) (Int.toNat (IntKind.wrap .i64 (32 * x0))) (Option.some (Int.toNat (IntKind.wrap .i64 (32 * (IntKind.wrap .i64 (x0 + 1))))))) (List.drop (Int.toNat (IntKind.wrap .i64 (32 * x0))) x3))) fun r22 =>
            if ((((List.length x4) + 1) * 64) ≤ 70368744177664 ∧ ((List.length x4) + 1) ≤ 9223372036854775807) then
             rc (IntKind.wrap .i64 (x0 + 1)) x1 x2 x3 (x4 ++ [(AV.agg [(AV.bool r10), (AV.ints .u64 4 r22), AV.snil])])
            else
             none
          else
           none
         else
          none
        else
         none
       else
        none
      else
       bindO (Faa.m n (x3, x0)) fun r14 => match r14 with
        | (.inl r14) =>
         bindO (errors_As1.m n (r14.1, 0)) fun r18 =>
          some (mk0 50 x3 [] x4)
        | (.inr r14) =>
         bindO (errors_As0.m n 0) fun r18 =>
          if ((((List.length x4) + 1) * 64) ≤ 70368744177664 ∧ ((List.length x4) + 1) ≤ 9223372036854775807) then
           rc (IntKind.wrap .i64 (x0 + 1)) x1 x2 x3 (x4 ++ [(AV.agg [(AV.bool r10), (AV.ints .u64 4 [0, 0, 0, 0]), (AV.rints .u8 r14)])])
          else
           none
    else
     none
   else
    none
  else
   some (mk1 x3 x4)
def Fab.l5_0.g {α : Type} (mk0 : Int → LI → LA → LA → α) (mk1 : LI → LA → α) (n : Nat) : Nat → Int → Int → LA → LI → LA → Option α
 | 0, _, _, _, _, _ => none
 | m + 1, x0, x1, x2, x3, x4 => Fab.l5_0.r mk0 mk1 n (fun y0 y1 y2 y3 y4 => Fab.l5_0.g mk0 mk1 n m y0 y1 y2 y3 y4)  x0 x1 x2 x3 x4
def Fab.l5_0.m (n m : Nat) (t : (Int × (Int × (LA × (LI × LA))))) : Option ((Int × (LI × (LA × LA))) ⊕ (LI × LA)) := Fab.l5_0.g (fun a0 a1 a2 a3 => (.inl (a0, a1, a2, a3))) (fun a0 a1 => (.inr (a0, a1))) n m t.1 t.2.1 t.2.2.1 t.2.2.2.1 t.2.2.2.2
def Fab.l5_0.pat : St → Option (Int × (Int × (LA × (LI × LA))))
 | (St.mk [(.int .i64 x0), (.int .i64 x1), (.robjs 4 1 x2), (.own 0 1), (.own 1 6)] [(some (.ints .u8 x3)), (some (.objs 69 6 x4))]) => some (x0, x1, x2, x3, x4)
 | _ => none
def Fab.l5_0.shape (t : (Int × (Int × (LA × (LI × LA))))) : St := (St.mk [(.int .i64 t.1), (.int .i64 t.2.1), (.robjs 4 1 t.2.2.1), (.own 0 1), (.own 1 6)] [(some (.ints .u8 t.2.2.2.1)), (some (.objs 69 6 t.2.2.2.2))])
def Fab.l5_0.res : ((Int × (LI × (LA × LA))) ⊕ (LI × LA)) → Ex × St
 | (.inl u) => (.ret, (St.mk [(.own 1 6), (.int .u16 u.1), (.own 2 6)] [(some (.ints .u8 u.2.1)), (some (.objs 69 6 u.2.2.1)), (some (.objs 69 6 u.2.2.2))]))
 | (.inr u) => ((.exit 0), (St.mk [.any, .any, (.own 1 6)] [(some (.ints .u8 u.1)), (some (.objs 69 6 u.2))]))
def Fab.l5_0.resK {R : Type} (u : ((Int × (LI × (LA × LA))) ⊕ (LI × LA))) (K : Ex → St → Option R) : Option R := match u with
 | (.inl u) => (fun p : Ex × St => K p.1 p.2) (.ret, (St.mk [(.own 1 6), (.int .u16 u.1), (.own 2 6)] [(some (.ints .u8 u.2.1)), (some (.objs 69 6 u.2.2.1)), (some (.objs 69 6 u.2.2.2))]))
 | (.inr u) => (fun p : Ex × St => K p.1 p.2) ((.exit 0), (St.mk [.any, .any, (.own 1 6)] [(some (.ints .u8 u.1)), (some (.objs 69 6 u.2))]))
noncomputable def Fab.A (n : Nat) : Ann := ⟨Tryd.f53.ntmps, 1, Fab.live, [(1, (.ints .u8)), (19, (.objs 4 1)), (4, (.objs 69 6)), (6, (.objs 69 6))], [(some (.objs 69 6)), none], fun k => match k with
 | 5 => some (.mk' Fab.l5_0.pat (Fab.l5_0.m n n) Fab.l5_0.resK)
 | _ => none, noNL, lookJ []⟩
noncomputable def Fab.b0 : Code := (loopsIn (Tryd.f53.body.getD .skip)).getD 0 .skip
def Fab.g {α : Type} (mk0 : Int → LI → LA → α) (n : Nat) (k : LA) (l : LI) : Option α :=
 if (decide ((IntKind.wrap .i64 (Int.tdiv (((List.length l) : Nat) : Int) 32)) < (((List.length k) : Nat) : Int))) = true then
  some (mk0 50 l [])
 else
  bindO (Fab.l5_0.m n n (0, (((List.length k) : Nat) : Int), k, l, [])) fun r4 => match r4 with
   | (.inl r4) =>
    some (mk0 r4.1 r4.2.1 r4.2.2.1)
   | (.inr r4) =>
    some (mk0 0 r4.1 r4.2)
def Fab.m (n : Nat) (t : (LA × LI)) : Option (Int × (LI × LA)) := Fab.g (fun a0 a1 a2 => (a0, a1, a2)) n t.1 t.2
def Fab.pat : List AV → Blks → Option (LA × LI)
 | [(.robjs 4 1 k), (.own 0 1)], [(some (.ints .u8 l))] => some (k, l)
 | _, _ => none
def Fab.shape (t : (LA × LI)) : List AV × Blks := ([(.robjs 4 1 t.1), (.own 0 1)], [(some (.ints .u8 t.2))])
def Fab.res : (Int × (LI × LA)) → AV × Blks
 | u => ((.tup [(.own 1 6), (.int .u16 u.1)]), [(some (.ints .u8 u.2.1)), (some (.objs 69 6 u.2.2))])
def Fab.resK {R : Type} (u : (Int × (LI × LA))) (K : AV → Blks → Option R) : Option R := K (Fab.res u).1 (Fab.res u).2
def Fab.c (n : Nat) : Abs.Callee := .mk' [true, true] [(some (.objs 4 1)), (some (.ints .u8))] Fab.pat (Fab.m n) Fab.resK
end
end
section
noncomputable section
noncomputable def Fac.C (n : Nat) : Ctx := ⟨Tryd.prog, abiG, lookC [(89, Fbd.c n), (90, Faa.c n), (91, Fbk.c n)], fun _ => false⟩
def Fac.live : NL := fun k => match k with
 | 5 => ([21, 20, 19, 1, 6], [4, 5, 6])
 | _ => ([], [])
def Fac.l5_0.r {α : Type} (mk0 : Int → LA → LI → LA → LA → α) (mk1 : LA → LI → LA → α) (n : Nat) (rc : Int → Int → LA → LI → LA → Option α)  (x0 : Int) (x1 : Int) (x2 : LA) (x3 : LI) (x4 : LA) : Option α :=
  if (decide (x0 < x1)) = true then
   if 0 ≤ x0 then
    if x0 < (((List.length x2) : Nat) : Int) then
     bindO (tkBool (List.getD x2 (Int.toNat x0) AV.any)) fun r10 =>
      if (!r10) = true then
       if 0 ≤ (IntKind.wrap .i64 (32 * (IntKind.wrap .i64 (x0 + 1)))) then
        if (IntKind.wrap .i64 (32 * (IntKind.wrap .i64 (x0 + 1)))) ≤ (((List.length x3) : Nat) : Int) then
         if 0 ≤ (IntKind.wrap .i64 (32 * x0)) then
          if (IntKind.wrap .i64 (32 * x0)) ≤ (IntKind.wrap .i64 (32 * (IntKind.wrap .i64 (x0 + 1)))) then
           bindO (Fbd.m n (List.take (Go.Abs.span (List.length x3) (Int.toNat (IntKind.wrap .i64 (32 * x0))) (Option.some (Int.toNat (IntKind.wrap .i64 (32 * (IntKind.wrap .i64 (x0 + 1))))))) (List.drop (Int.toNat (IntKind.wrap .i64 (32 * x0))) x3))) fun r22 =>
            if ((((List.length x4) + 1) * 64) ≤ 70368744177664 ∧ ((List.length x4) + 1) ≤ 9223372036854775807) then
             rc (IntKind.wrap .i64 (x0 + 1)) x1 x2 x3 (x4 ++ [(AV.agg [(AV.bool r10), (AV.ints .u64 4 r22), AV.snil])])
            else
             none
          else
           none
         else
          none
        else
         none
       else
        none
      else
       bindO (Faa.m n (x3, x0)) fun r14 => match r14 with
        | (.inl r14) =>
         bindO (errors_As1.m n (r14.1, 0)) fun r18 =>
          some (mk0 50 x2 x3 [] x4)
        | (.inr r14) =>
         bindO (errors_As0.m n 0) fun r18 =>
          if ((((List.length x4) + 1) * 64) ≤ 70368744177664 ∧ ((List.length x4) + 1) ≤ 9223372036854775807) then
           rc (IntKind.wrap .i64 (x0 + 1)) x1 x2 x3 (x4 ++ [(AV.agg [(AV.bool r10), (AV.ints .u64 4 [0, 0, 0, 0]), (AV.rints .u8 r14)])])
          else
           none
    else
     none
   else
    none
  else
   some (mk1 x2 x3 x4)
def Fac.l5_0.g {α : Type} (mk0 : Int → LA → LI → LA → LA → α) (mk1 : LA → LI → LA → α) (n : Nat) : Nat → Int → Int → LA → LI → LA → Option α
 | 0, _, _, _, _, _ => none
 | m + 1, x0, x1, x2, x3, x4 => Fac.l5_0.r mk0 mk1 n (fun y0 y1 y2 y3 y4 => Fac.l5_0.g mk0 mk1 n m y0 y1 y2 y3 y4)  x0 x1 x2 x3 x4
def Fac.l5_0.m (n m : Nat) (t : (Int × (Int × (LA × (LI × LA))))) : Option ((Int × (LA × (LI × (LA × LA)))) ⊕ (LA × (LI × LA))) := Fac.l5_0.g (fun a0 a1 a2 a3 a4 => (.inl (a0, a1, a2, a3, a4))) (fun a0 a1 a2 => (.inr (a0, a1, a2))) n m t.1 t.2.1 t.2.2.1 t.2.2.2.1 t.2.2.2.2
def Fac.l5_0.pat : St → Option (Int × (Int × (LA × (LI × LA))))
 | (St.mk [(.int .i64 x0), (.int .i64 x1), (.own 0 1), (.own 1 1), (.own 2 6)] [(some (.objs 4 1 x2)), (some (.ints .u8 x3)), (some (.objs 69 6 x4))]) => some (x0, x1, x2, x3, x4)
 | _ => none
def Fac.l5_0.shape (t : (Int × (Int × (LA × (LI × LA))))) : St := (St.mk [(.int .i64 t.1), (.int .i64 t.2.1), (.own 0 1), (.own 1 1), (.own 2 6)] [(some (.objs 4 1 t.2.2.1)), (some (.ints .u8 t.2.2.2.1)), (some (.objs 69 6 t.2.2.2.2))])
def Fac.l5_0.res : ((Int × (LA × (LI × (LA × LA)))) ⊕ (LA × (LI × LA))) → Ex × St
 | (.inl u) => (.ret, (St.mk [(.own 2 6), (.int .u16 u.1), (.own 3 6)] [(some (.objs 4 1 u.2.1)), (some (.ints .u8 u.2.2.1)), (some (.objs 69 6 u.2.2.2.1)), (some (.objs 69 6 u.2.2.2.2))]))
 | (.inr u) => ((.exit 0), (St.mk [.any, .any, (.own 2 6)] [(some (.objs 4 1 u.1)), (some (.ints .u8 u.2.1)), (some (.objs 69 6 u.2.2))]))
def Fac.l5_0.resK {R : Type} (u : ((Int × (LA × (LI × (LA × LA)))) ⊕ (LA × (LI × LA)))) (K : Ex → St → Option R) : Option R := match u with
 | (.inl u) => (fun p : Ex × St => K p.1 p.2) (.ret, (St.mk [(.own 2 6), (.int .u16 u.1), (.own 3 6)] [(some (.objs 4 1 u.2.1)), (some (.ints .u8 u.2.2.1)), (some (.objs 69 6 u.2.2.2.1)), (some (.objs 69 6 u.2.2.2.2))]))
 | (.inr u) => (fun p : Ex × St => K p.1 p.2) ((.exit 0), (St.mk [.any, .any, (.own 2 6)] [(some (.objs 4 1 u.1)), (some (.ints .u8 u.2.1)), (some (.objs 69 6 u.2.2))]))
noncomputable def Fac.A (n : Nat) : Ann := ⟨Tryd.f53.ntmps, 2, Fac.live, [(1, (.ints .u8)), (19, (.objs 4 1)), (4, (.objs 69 6)), (6, (.objs 69 6))], [(some (.objs 69 6)), none], fun k => match k with
 | 5 => some (.mk' Fac.l5_0.pat (Fac.l5_0.m n n) Fac.l5_0.resK)
 | _ => none, noNL, lookJ []⟩
noncomputable def Fac.b0 : Code := (loopsIn (Tryd.f53.body.getD .skip)).getD 0 .skip
def Fac.g {α : Type} (mk0 : Int → LA → LI → LA → α) (n : Nat) (k : LA) (l : LI) : Option α :=
 if (decide ((IntKind.wrap .i64 (Int.tdiv (((List.length l) : Nat) : Int) 32)) < (((List.length k) : Nat) : Int))) = true then
  some (mk0 50 k l [])
 else
  bindO (Fac.l5_0.m n n (0, (((List.length k) : Nat) : Int), k, l, [])) fun r4 => match r4 with
   | (.inl r4) =>
    some (mk0 r4.1 r4.2.1 r4.2.2.1 r4.2.2.2.1)
   | (.inr r4) =>
    some (mk0 0 r4.1 r4.2.1 r4.2.2)
def Fac.m (n : Nat) (t : (LA × LI)) : Option (Int × (LA × (LI × LA))) := Fac.g (fun a0 a1 a2 a3 => (a0, a1, a2, a3)) n t.1 t.2
def Fac.pat : List AV → Blks → Option (LA × LI)
 | [(.own 0 1), (.own 1 1)], [(some (.objs 4 1 k)), (some (.ints .u8 l))] => some (k, l)
 | _, _ => none
def Fac.shape (t : (LA × LI)) : List AV × Blks := ([(.own 0 1), (.own 1 1)], [(some (.objs 4 1 t.1)), (some (.ints .u8 t.2))])
def Fac.res : (Int × (LA × (LI × LA))) → AV × Blks
 | u => ((.tup [(.own 2 6), (.int .u16 u.1)]), [(some (.objs 4 1 u.2.1)), (some (.ints .u8 u.2.2.1)), (some (.objs 69 6 u.2.2.2))])
def Fac.resK {R : Type} (u : (Int × (LA × (LI × LA)))) (K : AV → Blks → Option R) : Option R := K (Fac.res u).1 (Fac.res u).2
def Fac.c (n : Nat) : Abs.Callee := .mk' [true, true] [(some (.objs 4 1)), (some (.ints .u8))] Fac.pat (Fac.m n) Fac.resK
end
end
section
noncomputable section
noncomputable def Fad.C (n : Nat) : Ctx := ⟨Tryd.prog, abiG, lookC [(89, Fbd.c n), (90, Faa.c n), (91, Fbk.c n)], fun _ => false⟩
def Fad.live : NL := fun k => match k with
 | 5 => ([21, 20, 19, 1, 6], [4, 5, 6])
 | _ => ([], [])
def Fad.l5_0.r {α : Type} (mk0 : Int → LA → LI → LA → LA → α) (mk1 : LA → LI → LA → α) (n : Nat) (rc : Int → Int → Nat → Nat → LA → LI → LA → Option α)  (x0 : Int) (x1 : Int) (x2 : Nat) (x3 : Nat) (x4 : LA) (x5 : LI) (x6 : LA) : Option α :=
  if (decide (x0 < x1)) = true then
   if 0 ≤ x0 then
    if x0 < (((List.length x4) : Nat) : Int) then
     bindO (tkBool (List.getD x4 (Int.toNat x0) AV.any)) fun r10 =>
      if (!r10) = true then
       if 0 ≤ (IntKind.wrap .i64 (32 * (IntKind.wrap .i64 (x0 + 1)))) then
        if (IntKind.wrap .i64 (32 * (IntKind.wrap .i64 (x0 + 1)))) ≤ ((x3 : Nat) : Int) then
         if 0 ≤ (IntKind.wrap .i64 (32 * x0)) then
          if (IntKind.wrap .i64 (32 * x0)) ≤ (IntKind.wrap .i64 (32 * (IntKind.wrap .i64 (x0 + 1)))) then
           bindO (Fbd.m n (List.take (Go.Abs.span x3 (Int.toNat (IntKind.wrap .i64 (32 * x0))) (Option.some (Int.toNat (IntKind.wrap .i64 (32 * (IntKind.wrap .i64 (x0 + 1))))))) (List.drop (x2 + (Int.toNat (IntKind.wrap .i64 (32 * x0)))) x5))) fun r22 =>
            if ((((List.length x6) + 1) * 64) ≤ 70368744177664 ∧ ((List.length x6) + 1) ≤ 9223372036854775807) then
             rc (IntKind.wrap .i64 (x0 + 1)) x1 x2 x3 x4 x5 (x6 ++ [(AV.agg [(AV.bool r10), (AV.ints .u64 4 r22), AV.snil])])
            else
             none
          else
           none
         else
          none
        else
         none
       else
        none
      else
       bindO (Faa.m n ((List.take x3 (List.drop x2 x5)), x0)) fun r14 => match r14 with
        | (.inl r14) =>
         bindO (errors_As1.m n (r14.1, 0)) fun r18 =>
          some (mk0 50 x4 x5 [] x6)
        | (.inr r14) =>
         bindO (errors_As0.m n 0) fun r18 =>
          if ((((List.length x6) + 1) * 64) ≤ 70368744177664 ∧ ((List.length x6) + 1) ≤ 9223372036854775807) then
           rc (IntKind.wrap .i64 (x0 + 1)) x1 x2 x3 x4 x5 (x6 ++ [(AV.agg [(AV.bool r10), (AV.ints .u64 4 [0, 0, 0, 0]), (AV.rints .u8 r14)])])
          else
           none
    else
     none
   else
    none
  else
   some (mk1 x4 x5 x6)
def Fad.l5_0.g {α : Type} (mk0 : Int → LA → LI → LA → LA → α) (mk1 : LA → LI → LA → α) (n : Nat) : Nat → Int → Int → Nat → Nat → LA → LI → LA → Option α
 | 0, _, _, _, _, _, _, _ => none
 | m + 1, x0, x1, x2, x3, x4, x5, x6 => Fad.l5_0.r mk0 mk1 n (fun y0 y1 y2 y3 y4 y5 y6 => Fad.l5_0.g mk0 mk1 n m y0 y1 y2 y3 y4 y5 y6)  x0 x1 x2 x3 x4 x5 x6
def Fad.l5_0.m (n m : Nat) (t : (Int × (Int × (Nat × (Nat × (LA × (LI × LA))))))) : Option ((Int × (LA × (LI × (LA × LA)))) ⊕ (LA × (LI × LA))) := Fad.l5_0.g (fun a0 a1 a2 a3 a4 => (.inl (a0, a1, a2, a3, a4))) (fun a0 a1 a2 => (.inr (a0, a1, a2))) n m t.1 t.2.1 t.2.2.1 t.2.2.2.1 t.2.2.2.2.1 t.2.2.2.2.2.1 t.2.2.2.2.2.2
def Fad.l5_0.pat : St → Option (Int × (Int × (Nat × (Nat × (LA × (LI × LA))))))
 | (St.mk [(.int .i64 x0), (.int .i64 x1), (.own 0 1), (.slice 1 [] x2 x3 1), (.own 2 6)] [(some (.objs 4 1 x4)), (some (.ints .u8 x5)), (some (.objs 69 6 x6))]) => some (x0, x1, x2, x3, x4, x5, x6)
 | _ => none
def Fad.l5_0.shape (t : (Int × (Int × (Nat × (Nat × (LA × (LI × LA))))))) : St := (St.mk [(.int .i64 t.1), (.int .i64 t.2.1), (.own 0 1), (.slice 1 [] t.2.2.1 t.2.2.2.1 1), (.own 2 6)] [(some (.objs 4 1 t.2.2.2.2.1)), (some (.ints .u8 t.2.2.2.2.2.1)), (some (.objs 69 6 t.2.2.2.2.2.2))])
def Fad.l5_0.res : ((Int × (LA × (LI × (LA × LA)))) ⊕ (LA × (LI × LA))) → Ex × St
 | (.inl u) => (.ret, (St.mk [(.own 2 6), (.int .u16 u.1), (.own 3 6)] [(some (.objs 4 1 u.2.1)), (some (.ints .u8 u.2.2.1)), (some (.objs 69 6 u.2.2.2.1)), (some (.objs 69 6 u.2.2.2.2))]))
 | (.inr u) => ((.exit 0), (St.mk [.any, .any, (.own 2 6)] [(some (.objs 4 1 u.1)), (some (.ints .u8 u.2.1)), (some (.objs 69 6 u.2.2))]))
def Fad.l5_0.resK {R : Type} (u : ((Int × (LA × (LI × (LA × LA)))) ⊕ (LA × (LI × LA)))) (K : Ex → St → Option R) : Option R := match u with
 | (.inl u) => (fun p : Ex × St => K p.1 p.2) (.ret, (St.mk [(.own 2 6), (.int .u16 u.1), (.own 3 6)] [(some (.objs 4 1 u.2.1)), (some (.ints .u8 u.2.2.1)), (some (.objs 69 6 u.2.2.2.1)), (some (.objs 69 6 u.2.2.2.2))]))
 | (.inr u) => (fun p : Ex × St => K p.1 p.2) ((.exit 0), (St.mk [.any, .any, (.own 2 6)] [(some (.objs 4 1 u.1)), (some (.ints .u8 u.2.1)), (some (.objs 69 6 u.2.2))]))
noncomputable def Fad.A (n : Nat) : Ann := ⟨Tryd.f53.ntmps, 2, Fad.live, [(1, (.ints .u8)), (19, (.objs 4 1)), (4, (.objs 69 6)), (6, (.objs 69 6))], [(some (.objs 69 6)), none], fun k => match k with
 | 5 => some (.mk' Fad.l5_0.pat (Fad.l5_0.m n n) Fad.l5_0.resK)
 | _ => none, noNL, lookJ []⟩
noncomputable def Fad.b0 : Code := (loopsIn (Tryd.f53.body.getD .skip)).getD 0 .skip
def Fad.g {α : Type} (mk0 : Int → LA → LI → LA → α) (n : Nat) (s : Nat) (m : Nat) (k : LA) (l : LI) : Option α :=
 if (decide ((IntKind.wrap .i64 (Int.tdiv ((m : Nat) : Int) 32)) < (((List.length k) : Nat) : Int))) = true then
  some (mk0 50 k l [])
 else
  bindO (Fad.l5_0.m n n (0, (((List.length k) : Nat) : Int), s, m, k, l, [])) fun r4 => match r4 with
   | (.inl r4) =>
    some (mk0 r4.1 r4.2.1 r4.2.2.1 r4.2.2.2.1)
   | (.inr r4) =>
    some (mk0 0 r4.1 r4.2.1 r4.2.2)
def Fad.m (n : Nat) (t : (Nat × (Nat × (LA × LI)))) : Option (Int × (LA × (LI × LA))) := Fad.g (fun a0 a1 a2 a3 => (a0, a1, a2, a3)) n t.1 t.2.1 t.2.2.1 t.2.2.2
def Fad.pat : List AV → Blks → Option (Nat × (Nat × (LA × LI)))
 | [(.own 0 1), (.slice 1 [] s m 1)], [(some (.objs 4 1 k)), (some (.ints .u8 l))] => some (s, m, k, l)
 | _, _ => none
def Fad.shape (t : (Nat × (Nat × (LA × LI)))) : List AV × Blks := ([(.own 0 1), (.slice 1 [] t.1 t.2.1 1)], [(some (.objs 4 1 t.2.2.1)), (some (.ints .u8 t.2.2.2))])
def Fad.res : (Int × (LA × (LI × LA))) → AV × Blks
 | u => ((.tup [(.own 2 6), (.int .u16 u.1)]), [(some (.objs 4 1 u.2.1)), (some (.ints .u8 u.2.2.1)), (some (.objs 69 6 u.2.2.2))])
def Fad.resK {R : Type} (u : (Int × (LA × (LI × LA)))) (K : AV → Blks → Option R) : Option R := K (Fad.res u).1 (Fad.res u).2
def Fad.c (n : Nat) : Abs.Callee := .mk' [true, true] [(some (.objs 4 1)), (some (.ints .u8))] Fad.pat (Fad.m n) Fad.resK
end
end
section
noncomputable section
noncomputable def Fae.C (n : Nat) : Ctx := ⟨Tryd.prog, abiG, lookC [(89, Fbd.c n), (90, Faa.c n), (91, Fbk.c n)], fun _ => false⟩
def Fae.live : NL := fun k => match k with
 | 5 => ([21, 20, 19, 1, 6], [4, 5, 6])
 | _ => ([], [])
def Fae.l5_0.r {α : Type} (mk0 : Int → LI → LA → LA → α) (mk1 : LI → LA → α) (n : Nat) (rc : Int → Int → LA → Nat → Nat → LI → LA → Option α)  (x0 : Int) (x1 : Int) (x2 : LA) (x3 : Nat) (x4 : Nat) (x5 : LI) (x6 : LA) : Option α :=
  if (decide (x0 < x1)) = true then
   if 0 ≤ x0 then
    if x0 < (((List.length x2) : Nat) : Int) then
     bindO (tkBool (List.getD x2 (Int.toNat x0) AV.any)) fun r10 =>
      if (!r10) = true then
       if 0 ≤ (IntKind.wrap .i64 (32 * (IntKind.wrap .i64 (x0 + 1)))) then
        if (IntKind.wrap .i64 (32 * (IntKind.wrap .i64 (x0 + 1)))) ≤ ((x4 : Nat) : Int) then
         if 0 ≤ (IntKind.wrap .i64 (32 * x0)) then
          if (IntKind.wrap .i64 (32 * x0)) ≤ (IntKind.wrap .i64 (32 * (IntKind.wrap .i64 (x0 + 1)))) then
           bindO (Fbd.m n (List.take (Go.Abs.span x4 (Int.toNat (IntKind.wrap .i64 (32 * x0))) (Option.some (Int.toNat (IntKind.wrap .i64 (32 * (IntKind.wrap .i64 (x0 + 1))))))) (List.drop (x3 + (Int.toNat (IntKind.wrap .i64 (32 * x0)))) x5))) fun r22 =>
            if ((((List.length x6) + 1) * 64) ≤ 70368744177664 ∧ ((List.length x6) + 1) ≤ 9223372036854775807) then
             rc (IntKind.wrap .i64 (x0 + 1)) x1 x2 x3 x4 x5 (x6 ++ [(AV.agg [(AV.bool r10), (AV.ints .u64 4 r22), AV.snil])])
            else
             none
          else
           none
         else
          none
        else
         none
       else
        none
      else
       bindO (Faa.m n ((List.take x4 (List.drop x3 x5)), x0)) fun r14 => match r14 with
        | (.inl r14) =>
         bindO (errors_As1.m n (r14.1, 0)) fun r18 =>
          some (mk0 50 x5 [] x6)
        | (.inr r14) =>
         bindO (errors_As0.m n 0) fun r18 =>
          if ((((List.length x6) + 1) * 64) ≤ 70368744177664 ∧ ((List.length x6) + 1) ≤ 9223372036854775807) then
           rc (IntKind.wrap .i64 (x0 + 1)) x1 x2 x3 x4 x5 (x6 ++ [(AV.agg [(AV.bool r10), (AV.ints .u64 4 [0, 0, 0, 0]), (AV.rints .u8 r14)])])
          else
           none
    else
     none
   else
    none
  else
   some (mk1 x5 x6)
def Fae.l5_0.g {α : Type} (mk0 : Int → LI → LA → LA → α) (mk1 : LI → LA → α) (n : Nat) : Nat → Int → Int → LA → Nat → Nat → LI → LA → Option α
 | 0, _, _, _, _, _, _, _ => none
 | m + 1, x0, x1, x2, x3, x4, x5, x6 => Fae.l5_0.r mk0 mk1 n (fun y0 y1 y2 y3 y4 y5 y6 => Fae.l5_0.g mk0 mk1 n m y0 y1 y2 y3 y4 y5 y6)  x0 x1 x2 x3 x4 x5 x6
def Fae.l5_0.m (n m : Nat) (t : (Int × (Int × (LA × (Nat × (Nat × (LI × LA))))))) : Option ((Int × (LI × (LA × LA))) ⊕ (LI × LA)) := Fae.l5_0.g (fun a0 a1 a2 a3 => (.inl (a0, a1, a2, a3))) (fun a0 a1 => (.inr (a0, a1))) n m t.1 t.2.1 t.2.2.1 t.2.2.2.1 t.2.2.2.2.1 t.2.2.2.2.2.1 t.2.2.2.2.2.2
def Fae.l5_0.pat : St → Option (Int × (Int × (LA × (Nat × (Nat × (LI × LA))))))
 | (St.mk [(.int .i64 x0), (.int .i64 x1), (.robjs 4 1 x2), (.slice 0 [] x3 x4 1), (.own 1 6)] [(some (.ints .u8 x5)), (some (.objs 69 6 x6))]) => some (x0, x1, x2, x3, x4, x5, x6)
 | _ => none
def Fae.l5_0.shape (t : (Int × (Int × (LA × (Nat × (Nat × (LI × LA))))))) : St := (St.mk [(.int .i64 t.1), (.int .i64 t.2.1), (.robjs 4 1 t.2.2.1), (.slice 0 [] t.2.2.2.1 t.2.2.2.2.1 1), (.own 1 6)] [(some (.ints .u8 t.2.2.2.2.2.1)), (some (.objs 69 6 t.2.2.2.2.2.2))])
def Fae.l5_0.res : ((Int × (LI × (LA × LA))) ⊕ (LI × LA)) → Ex × St
 | (.inl u) => (.ret, (St.mk [(.own 1 6), (.int .u16 u.1), (.own 2 6)] [(some (.ints .u8 u.2.1)), (some (.objs 69 6 u.2.2.1)), (some (.objs 69 6 u.2.2.2))]))
 | (.inr u) => ((.exit 0), (St.mk [.any, .any, (.own 1 6)] [(some (.ints .u8 u.1)), (some (.objs 69 6 u.2))]))
def Fae.l5_0.resK {R : Type} (u : ((Int × (LI × (LA × LA))) ⊕ (LI × LA))) (K : Ex → St → Option R) : Option R := match u with
 | (.inl u) => (fun p : Ex × St => K p.1 p.2) (.ret, (St.mk [(.own 1 6), (.int .u16 u.1), (.own 2 6)] [(some (.ints .u8 u.2.1)), (some (.objs 69 6 u.2.2.1)), (some (.objs 69 6 u.2.2.2))]))
 | (.inr u) => (fun p : Ex × St => K p.1 p.2) ((.exit 0), (St.mk [.any, .any, (.own 1 6)] [(some (.ints .u8 u.1)), (some (.objs 69 6 u.2))]))
noncomputable def Fae.A (n : Nat) : Ann := ⟨Tryd.f53.ntmps, 1, Fae.live, [(1, (.ints .u8)), (19, (.objs 4 1)), (4, (.objs 69 6)), (6, (.objs 69 6))], [(some (.objs 69 6)), none], fun k => match k with
 | 5 => some (.mk' Fae.l5_0.pat (Fae.l5_0.m n n) Fae.l5_0.resK)
 | _ => none, noNL, lookJ []⟩
noncomputable def Fae.b0 : Code := (loopsIn (Tryd.f53.body.getD .skip)).getD 0 .skip
def Fae.g {α : Type} (mk0 : Int → LI → LA → α) (n : Nat) (k : LA) (s : Nat) (m : Nat) (l : LI) : Option α :=
 if (decide ((IntKind.wrap .i64 (Int.tdiv ((m : Nat) : Int) 32)) < (((List.length k) : Nat) : Int))) = true then
  some (mk0 50 l [])
 else
  bindO (Fae.l5_0.m n n (0, (((List.length k) : Nat) : Int), k, s, m, l, [])) fun r4 => match r4 with
   | (.inl r4) =>
    some (mk0 r4.1 r4.2.1 r4.2.2.1)
   | (.inr r4) =>
    some (mk0 0 r4.1 r4.2)
def Fae.m (n : Nat) (t : (LA × (Nat × (Nat × LI)))) : Option (Int × (LI × LA)) := Fae.g (fun a0 a1 a2 => (a0, a1, a2)) n t.1 t.2.1 t.2.2.1 t.2.2.2
def Fae.pat : List AV → Blks → Option (LA × (Nat × (Nat × LI)))
 | [(.robjs 4 1 k), (.slice 0 [] s m 1)], [(some (.ints .u8 l))] => some (k, s, m, l)
 | _, _ => none
def Fae.shape (t : (LA × (Nat × (Nat × LI)))) : List AV × Blks := ([(.robjs 4 1 t.1), (.slice 0 [] t.2.1 t.2.2.1 1)], [(some (.ints .u8 t.2.2.2))])
def Fae.res : (Int × (LI × LA)) → AV × Blks
 | u => ((.tup [(.own 1 6), (.int .u16 u.1)]), [(some (.ints .u8 u.2.1)), (some (.objs 69 6 u.2.2))])
def Fae.resK {R : Type} (u : (Int × (LI × LA))) (K : AV → Blks → Option R) : Option R := K (Fae.res u).1 (Fae.res u).2
def Fae.c (n : Nat) : Abs.Callee := .mk' [true, true] [(some (.objs 4 1)), (some (.ints .u8))] Fae.pat (Fae.m n) Fae.resK
end
end
section
noncomputable section
noncomputable def Faf.C (n : Nat) : Ctx := ⟨Tryd.prog, abiG, lookC [(89, Fbd.c n), (90, Faa.c n), (91, Fbk.c n)], fun _ => false⟩
def Faf.live : NL := fun k => match k with
 | 5 => ([21, 20, 19, 1, 6], [4, 5, 6])
 | _ => ([], [])
def Faf.l5_0.r {α : Type} (mk0 : Int → LA → LA → α) (mk1 : LA → α) (n : Nat) (rc : Int → Int → LA → LI → LA → Option α)  (x0 : Int) (x1 : Int) (x2 : LA) (x3 : LI) (x4 : LA) : Option α :=
  if (decide (x0 < x1)) = true then
   if 0 ≤ x0 then
    if x0 < (((List.length x2) : Nat) : Int) then
     bindO (tkBool (List.getD x2 (Int.toNat x0) AV.any)) fun r10 =>
      if (!r10) = true then
       if 0 ≤ (IntKind.wrap .i64 (32 * (IntKind.wrap .i64 (x0 + 1)))) then
        if (IntKind.wrap .i64 (32 * (IntKind.wrap .i64 (x0 + 1)))) ≤ (((List.length x3) : Nat) : Int) then
         if 0 ≤ (IntKind.wrap .i64 (32 * x0)) then
          if (IntKind.wrap .i64 (32 * x0)) ≤ (IntKind.wrap .i64 (32 * (IntKind.wrap .i64 (x0 + 1)))) then
           bindO (Fbd.m n (Go.Abs.cut x3 (Int.toNat (IntKind.wrap .i64 (32 * x0))) (Option.some (Int.toNat (IntKind.wrap .i64 (32 * (IntKind.wrap .i64 (x0 + 1)))))))) fun r22 =>
            if ((((List.length x4) + 1) * 64) ≤ 70368744177664 ∧ ((List.length x4) + 1) ≤ 9223372036854775807) then
             rc (IntKind.wrap .i64 (x0 + 1)) x1 x2 x3 (x4 ++ [(AV.agg [(AV.bool r10), (AV.ints .u64 4 r22), AV.snil])])
            else
             none
          else
           none
         else
          none
        else
         none
       else
        none
      else
       bindO (Faa.m n (x3, x0)) fun r14 => match r14 with
        | (.inl r14) =>
         bindO (errors_As1.m n (r14.1, 0)) fun r18 =>
          some (mk0 50 [] x4)
        | (.inr r14) =>
         bindO (errors_As0.m n 0) fun r18 =>
          if ((((List.length x4) + 1) * 64) ≤ 70368744177664 ∧ ((List.length x4) + 1) ≤ 9223372036854775807) then
           rc (IntKind.wrap .i64 (x0 + 1)) x1 x2 x3 (x4 ++ [(AV.agg [(AV.bool r10), (AV.ints .u64 4 [0, 0, 0, 0]), (AV.rints .u8 r14)])])
          else
           none
    else
     none
   else
    none
  else
   some (mk1 x4)
def Faf.l5_0.g {α : Type} (mk0 : Int → LA → LA → α) (mk1 : LA → α) (n : Nat) : Nat → Int → Int → LA → LI → LA → Option α
 | 0, _, _, _, _, _ => none
 | m + 1, x0, x1, x2, x3, x4 => Faf.l5_0.r mk0 mk1 n (fun y0 y1 y2 y3 y4 => Faf.l5_0.g mk0 mk1 n m y0 y1 y2 y3 y4)  x0 x1 x2 x3 x4
def Faf.l5_0.m (n m : Nat) (t : (Int × (Int × (LA × (LI × LA))))) : Option ((Int × (LA × LA)) ⊕ LA) := Faf.l5_0.g (fun a0 a1 a2 => (.inl (a0, a1, a2))) (fun a0 => (.inr a0)) n m t.1 t.2.1 t.2.2.1 t.2.2.2.1 t.2.2.2.2
def Faf.l5_0.pat : St → Option (Int × (Int × (LA × (LI × LA))))
 | (St.mk [(.int .i64 x0), (.int .i64 x1), (.robjs 4 1 x2), (.rints .u8 x3), (.own 0 6)] [(some (.objs 69 6 x4))]) => some (x0, x1, x2, x3, x4)
 | _ => none
def Faf.l5_0.shape (t : (Int × (Int × (LA × (LI × LA))))) : St := (St.mk [(.int .i64 t.1), (.int .i64 t.2.1), (.robjs 4 1 t.2.2.1), (.rints .u8 t.2.2.2.1), (.own 0 6)] [(some (.objs 69 6 t.2.2.2.2))])
def Faf.l5_0.res : ((Int × (LA × LA)) ⊕ LA) → Ex × St
 | (.inl u) => (.ret, (St.mk [(.own 0 6), (.int .u16 u.1), (.own 1 6)] [(some (.objs 69 6 u.2.1)), (some (.objs 69 6 u.2.2))]))
 | (.inr u) => ((.exit 0), (St.mk [.any, .any, (.own 0 6)] [(some (.objs 69 6 u))]))
def Faf.l5_0.resK {R : Type} (u : ((Int × (LA × LA)) ⊕ LA)) (K : Ex → St → Option R) : Option R := match u with
 | (.inl u) => (fun p : Ex × St => K p.1 p.2) (.ret, (St.mk [(.own 0 6), (.int .u16 u.1), (.own 1 6)] [(some (.objs 69 6 u.2.1)), (some (.objs 69 6 u.2.2))]))
 | (.inr u) => (fun p : Ex × St => K p.1 p.2) ((.exit 0), (St.mk [.any, .any, (.own 0 6)] [(some (.objs 69 6 u))]))
noncomputable def Faf.A (n : Nat) : Ann := ⟨Tryd.f53.ntmps, 0, Faf.live, [(1, (.ints .u8)), (19, (.objs 4 1)), (4, (.objs 69 6)), (6, (.objs 69 6))], [(some (.objs 69 6)), none], fun k => match k with
 | 5 => some (.mk' Faf.l5_0.pat (Faf.l5_0.m n n) Faf.l5_0.resK)
 | _ => none, noNL, lookJ []⟩
noncomputable def Faf.b0 : Code := (loopsIn (Tryd.f53.body.getD .skip)).getD 0 .skip
def Faf.g {α : Type} (mk0 : Int → LA → α) (n : Nat) (a0 : LA) (a1 : LI) : Option α :=
 if (decide ((IntKind.wrap .i64 (Int.tdiv (((List.length a1) : Nat) : Int) 32)) < (((List.length a0) : Nat) : Int))) = true then
  some (mk0 50 [])
 else
  bindO (Faf.l5_0.m n n (0, (((List.length a0) : Nat) : Int), a0, a1, [])) fun r4 => match r4 with
   | (.inl r4) =>
    some (mk0 r4.1 r4.2.1)
   | (.inr r4) =>
    some (mk0 0 r4)
def Faf.m (n : Nat) (t : (LA × LI)) : Option (Int × LA) := Faf.g (fun a0 a1 => (a0, a1)) n t.1 t.2
def Faf.pat : List AV → Blks → Option (LA × LI)
 | [(.robjs 4 1 a0), (.rints .u8 a1)], [] => some (a0, a1)
 | _, _ => none
def Faf.shape (t : (LA × LI)) : List AV × Blks := ([(.robjs 4 1 t.1), (.rints .u8 t.2)], [])
def Faf.res : (Int × LA) → AV × Blks
 | u => ((.tup [(.own 0 6), (.int .u16 u.1)]), [(some (.objs 69 6 u.2))])
def Faf.resK {R : Type} (u : (Int × LA)) (K : AV → Blks → Option R) : Option R := K (Faf.res u).1 (Faf.res u).2
def Faf.c (n : Nat) : Abs.Callee := .mk' [true, true] [(some (.objs 4 1)), (some (.ints .u8))] Faf.pat (Faf.m n) Faf.resK
end
end
section
noncomputable section
def abi_Decode.c (n : Nat) : Abs.Callee := .pick (fun args => match args with | [.robjs _ _ _, .own _ _] => true | _ => false) (Fab.c n) (.pick (fun args => match args with | [.own _ _, .own _ _] => true | _ => false) (Fac.c n) (.pick (fun args => match args with | [.own _ _, .slice _ _ _ _ _] => true | _ => false) (Fad.c n) (.pick (fun args => match args with | [.robjs _ _ _, .slice _ _ _ _ _] => true | _ => false) (Fae.c n) (Faf.c n))))
end
end
section
namespace Go.Proofs
open Go Go.RowKit Go.Extern.Stop Go.Stop Go.Extern
theorem Tryd.valueOf106 (t : Addr) (w : World) : (ReflectliteValue.unpack (.iface 106 (.pointer (some t)))).run Tryd.prog w
    = .ok (.agg #[.pointer (some ⟨5, 106, none⟩), .pointer (some ⟨w.heap.size, 0, none⟩), .int .u64 150]) (w.alloc (.cells #[.pointer (some t)] 106)) := by kernel_rfl
theorem Tryd.asT106 (a : Addr) (w : World) : (ReflectliteValue.methodAny (ReflectliteValue.valueError "reflectlite.Value.Type" 0) (fun t _ _ _ => ReflectliteType.toType t) #[.agg #[.pointer (some ⟨5, 106, none⟩), .pointer (some a), .int .u64 150]]).run Tryd.prog w
    = .ok (.iface 148 (.agg #[.pointer (some ⟨5, 106, none⟩)])) w := by kernel_rfl
theorem Tryd.methodKind (h : Value) (w : World) : (Go.method 299 148 (.agg #[h]) "Kind").run Tryd.prog w = .ok (145, h) w := by kernel_rfl
theorem Tryd.kind106 (w : World) : ((ReflectliteType.abiMethod fun t => (fun a : Nat => Value.int IntKind.u8 (a : Int)) <$> Rtype.kind t) #[.pointer (some ⟨5, 106, none⟩)]).run Tryd.prog w = .ok (.int .u8 22) w := by kernel_rfl
theorem Tryd.kind104 (w : World) : ((ReflectliteType.abiMethod fun t => (fun a : Nat => Value.int IntKind.u8 (a : Int)) <$> Rtype.kind t) #[.pointer (some ⟨5, 104, none⟩)]).run Tryd.prog w = .ok (.int .u8 25) w := by kernel_rfl
theorem rlm (z : Sem Value) (f : TypeId → Addr → Nat → Nat → Sem Value) (v : Value) :
    ReflectliteValue.method z f #[v] = (do match ← ReflectliteValue.parts v with | none => z | some (t, a, fl) => f t a fl (fl % 32)) := rfl
theorem Tryd.parts106 (a : Addr) (w : World) : (ReflectliteValue.parts (.agg #[.pointer (some ⟨5, 106, none⟩), .pointer (some a), .int .u64 150])).run Tryd.prog w = .ok (some (106, a, 150)) w := by kernel_rfl
theorem Tryd.isNil106 (a p : Addr) (W : World) (ha : W.cell? a = some (.pointer (some p))) :
    (ReflectliteValue.method (ReflectliteValue.valueError "reflectlite.Value.IsNil" 0) ReflectliteValue.isNil #[.agg #[.pointer (some ⟨5, 106, none⟩), .pointer (some a), .int .u64 150]]).run Tryd.prog W = .ok (.bool false) W := by
  rw [rlm]
  simp only [Sem.run_bind, Tryd.parts106, Result.andThen]
  simp [ReflectliteValue.isNil, loadVar, isAgg, underlying, Tryd.underlying106, ha, Result.andThen]
theorem Tryd.methodElem (h : Value) (w : World) : (Go.method 299 148 (.agg #[h]) "Elem").run Tryd.prog w = .ok (158, .agg #[h]) w := by kernel_rfl
theorem Tryd.methodImplements (h : Value) (w : World) : (Go.method 299 148 (.agg #[h]) "Implements").run Tryd.prog w = .ok (159, .agg #[h]) w := by kernel_rfl
theorem Tryd.methodAssignableTo (h : Value) (w : World) : (Go.method 299 148 (.agg #[h]) "AssignableTo").run Tryd.prog w = .ok (156, .agg #[h]) w := by kernel_rfl
theorem Tryd.elem106 (w : World) : (ReflectliteType.method ReflectliteType.elem #[.agg #[.pointer (some ⟨5, 106, none⟩)]]).run Tryd.prog w = .ok (.iface 148 (.agg #[.pointer (some ⟨5, 104, none⟩)])) w := by kernel_rfl
theorem Tryd.implements104 (w : World) : (ReflectliteType.relation "Implements" ReflectliteType.implements_ #[.agg #[.pointer (some ⟨5, 104, none⟩)], .iface 148 (.agg #[.pointer (some ⟨5, 100, none⟩)])]).run Tryd.prog w = .ok (.bool true) w := by kernel_rfl
theorem Tryd.typeOf104 (v : Value) (w : World) : (ReflectliteType.typeOf #[.iface 104 v]).run Tryd.prog w = .ok (.iface 148 (.agg #[.pointer (some ⟨5, 104, none⟩)])) w := by kernel_rfl
theorem Tryd.assignable104 (w : World) : (ReflectliteType.relation "AssignableTo" ReflectliteType.assignableTo #[.agg #[.pointer (some ⟨5, 104, none⟩)], .iface 148 (.agg #[.pointer (some ⟨5, 104, none⟩)])]).run Tryd.prog w = .ok (.bool true) w := by kernel_rfl
theorem Tryd.valueOf104 (c0 c1 : Value) (w : World) : (ReflectliteValue.unpack (.iface 104 (.agg #[c0, c1]))).run Tryd.prog w
    = .ok (.agg #[.pointer (some ⟨5, 104, none⟩), .pointer (some ⟨w.heap.size, 0, none⟩), .int .u64 153]) (w.alloc (.cells #[c0, c1] 104)) := by kernel_rfl
theorem Tryd.elemOf106 (w : World) : (Rtype.elem? 106).run Tryd.prog w = .ok (some 104) w := by kernel_rfl
theorem Tryd.mk104 (p : Addr) (w : World) : (ReflectliteValue.mk 104 p ReflectliteValue.flagAddr).run Tryd.prog w = .ok (.agg #[.pointer (some ⟨5, 104, none⟩), .pointer (some p), .int .u64 409]) w := by kernel_rfl
theorem Tryd.elemV106 (a p : Addr) (W : World) (ha : W.cell? a = some (.pointer (some p))) :
    (ReflectliteValue.method (ReflectliteValue.valueError "reflectlite.Value.Elem" 0) ReflectliteValue.elem #[.agg #[.pointer (some ⟨5, 106, none⟩), .pointer (some a), .int .u64 150]]).run Tryd.prog W
      = .ok (.agg #[.pointer (some ⟨5, 104, none⟩), .pointer (some p), .int .u64 409]) W := by
  rw [rlm]
  simp only [Sem.run_bind, Tryd.parts106, Result.andThen]
  simp [ReflectliteValue.elem, loadVar, isAgg, underlying, Tryd.underlying106, ha, Result.andThen, Tryd.elemOf106, Tryd.mk104]
theorem rls (v x : Value) : ReflectliteValue.set #[v, x] = (do
    let (some (dst, a, fl), some (src, b, _)) := (← ReflectliteValue.parts v, ← ReflectliteValue.parts x)
      | unsupported (.noEntry "extern/(internal/reflectlite.Value).Set.zeroValue")
    if fl / ReflectliteValue.flagAddr % 2 == 0 then unsupported (.noEntry "extern/(internal/reflectlite.Value).Set.unaddressable")
    let val ← loadVar src b
    if ← Rtype.directlyAssignable dst src then storeVar dst a val
    else if ← Rtype.implements dst src then
      if (← Rtype.kind src) == 20 then
        match val with
        | .nilIface => unsupported (.noEntry "extern/reflectlite: a nil value of one interface type handed on as a value of another")
        | _ => storeVar dst a val
      else storeVar dst a (.iface src val)
    else panicString ("reflectlite.Set: value of type " ++ (← Rtype.spelt src) ++ " is not assignable to type " ++ (← Rtype.spelt dst))
    pure (.tuple #[])) := rfl
theorem Tryd.parts104a (a : Addr) (w : World) : (ReflectliteValue.parts (.agg #[.pointer (some ⟨5, 104, none⟩), .pointer (some a), .int .u64 409])).run Tryd.prog w = .ok (some (104, a, 409)) w := by kernel_rfl
theorem Tryd.parts104 (a : Addr) (w : World) : (ReflectliteValue.parts (.agg #[.pointer (some ⟨5, 104, none⟩), .pointer (some a), .int .u64 153])).run Tryd.prog w = .ok (some (104, a, 153)) w := by kernel_rfl
theorem Tryd.direct104 (w : World) : (Rtype.directlyAssignable 104 104).run Tryd.prog w = .ok true w := by kernel_rfl
theorem Tryd.size104 (w : World) : (sizeOf 104).run Tryd.prog w = .ok 2 w := by kernel_rfl
theorem Tryd.set104 (tb to bb bo : Nat) (c0 c1 o0 o1 : Value) (h0 : c0.oneCell' = true) (h1 : c1.oneCell' = true) (W : World) (hb0 : W.cell? ⟨bb, bo, none⟩ = some c0) (hb1 : W.cell? ⟨bb, bo + 1, none⟩ = some c1)
    (ht0 : W.cell? ⟨tb, to, none⟩ = some o0) (ht1 : W.cell? ⟨tb, to + 1, none⟩ = some o1) (hf0 : W.frozen? ⟨tb, to, none⟩ = false) (hf1 : W.frozen? ⟨tb, to + 1, none⟩ = false) :
    (ReflectliteValue.set #[.agg #[.pointer (some ⟨5, 104, none⟩), .pointer (some ⟨tb, to, none⟩), .int .u64 409], .agg #[.pointer (some ⟨5, 104, none⟩), .pointer (some ⟨bb, bo, none⟩), .int .u64 153]]).run Tryd.prog W
      = .ok (.tuple #[]) (W.setCells tb to [c0, c1]) := by
  rw [rls]
  simp only [Sem.run_bind, Tryd.parts104a, Tryd.parts104, Result.andThen]
  have hl : (loadCells ⟨bb, bo, none⟩ 2).run Tryd.prog W = .ok #[c0, c1] W := Go.Abs.run_loadCells_of W bb bo 2 [c0, c1] rfl (fun j v hv => by
    match j with
    | 0 => simp at hv; subst hv; exact hb0
    | 1 => simp at hv; subst hv; exact hb1
    | j + 2 => simp at hv)
  have hlv : (loadVar 104 ⟨bb, bo, none⟩).run Tryd.prog W = .ok (.agg #[c0, c1]) W := by
    simp [loadVar, isAgg, underlying, Tryd.underlying104, hl, Result.andThen]
  have hs2 : (storeCells ⟨tb, to, none⟩ [c0, c1]).run Tryd.prog W = .ok () (W.setCells tb to [c0, c1]) := by
    have := run_storeCells_cells (P := Tryd.prog) tb to [c0, c1] 0 W (fun j hj => by
      match j with
      | 0 => simp [ht0]
      | 1 => simp [ht1]
      | j + 2 => simp at hj; omega) (fun j hj => by
      match j with
      | 0 => exact hf0
      | 1 => exact hf1
      | j + 2 => simp at hj; omega) (fun v hv => by simp at hv; rcases hv with rfl | rfl <;> assumption)
    simpa using this
  have hsv : (storeVar 104 ⟨tb, to, none⟩ (.agg #[c0, c1])).run Tryd.prog W = .ok () (W.setCells tb to [c0, c1]) := by
    unfold storeVar
    simp [Tryd.size104, Value.cells, Result.andThen, hs2]
  simp [ReflectliteValue.flagAddr, hlv, hsv, Tryd.direct104, Result.andThen]
end Go.Proofs
end
section
namespace Go.Proofs
open Go Go.RowKit Go.Extern.Stop Go.Stop Go.Extern
theorem as_nil (t : Value) (w : World) :
    Calls Tryd.prog 91 #[.nilIface, t] w fun e w' => e = .returned (.bool false) ∧ w' = w := by
  go_enter Tryd.func91, Tryd.ntmps91
  go_wp2
  go_ret
  exact ⟨rfl, rfl⟩
set_option maxHeartbeats 4000000 in
theorem as_hit (tb to : Nat) (c0 c1 o0 o1 : Value) (w : World) (h0 : c0.oneCell' = true) (h1 : c1.oneCell' = true)
    (hg : w.cell? ⟨0, 0, none⟩ = some (.iface 148 (.agg #[.pointer (some ⟨5, 100, none⟩)])))
    (ht0 : w.cell? ⟨tb, to, none⟩ = some o0) (ht1 : w.cell? ⟨tb, to + 1, none⟩ = some o1) (hf0 : w.frozen? ⟨tb, to, none⟩ = false) (hf1 : w.frozen? ⟨tb, to + 1, none⟩ = false) :
    Calls Tryd.prog 91 #[.iface 104 (.agg #[c0, c1]), .iface 106 (.pointer (some ⟨tb, to, none⟩))] w fun ev w' => ev = .returned (.bool true) ∧ w' = ((((w.alloc (.cells #[.pointer (some ⟨tb, to, none⟩)] 106)).alloc (.cells #[.pointer (some ⟨5, 106, none⟩), .pointer (some ⟨w.heap.size, 0, none⟩), .int .u64 150] 130)).alloc (.cells #[.pointer (some ⟨5, 106, none⟩), .pointer (some ⟨w.heap.size, 0, none⟩), .int .u64 150] 130)).alloc (.cells #[c0, c1] 104)).setCells tb to [c0, c1] := by
  have h6 := @run_callFunc_extern Tryd.prog 107 _ (fun args => ReflectliteValue.unpack (args.getD 0 (.tuple #[]))) Tryd.func107 (by kernel_rfl) (by kernel_rfl) (by kernel_rfl) (by kernel_rfl)
  have h7 := @run_callFunc_extern Tryd.prog 108 _ (ReflectliteValue.methodAny (ReflectliteValue.valueError "reflectlite.Value.Type" 0) (fun t _ _ _ => ReflectliteType.toType t)) Tryd.func108 (by kernel_rfl) (by kernel_rfl) (by kernel_rfl) (by kernel_rfl)
  have h8 := @run_callFunc_extern Tryd.prog 109 _ (ReflectliteValue.method (ReflectliteValue.valueError "reflectlite.Value.IsNil" 0) ReflectliteValue.isNil) Tryd.func109 (by kernel_rfl) (by kernel_rfl) (by kernel_rfl) (by kernel_rfl)
  have h27 := @run_callFunc_extern Tryd.prog 145 _ (ReflectliteType.abiMethod fun t => do pure (.int .u8 (← Rtype.kind t))) Tryd.func145 (by kernel_rfl) (by kernel_rfl) (by kernel_rfl) (by kernel_rfl)
  have h37 := @run_callFunc_extern Tryd.prog 158 _ (ReflectliteType.method ReflectliteType.elem) Tryd.func158 (by kernel_rfl) (by kernel_rfl) (by kernel_rfl) (by kernel_rfl)
  have h38 := @run_callFunc_extern Tryd.prog 159 _ (ReflectliteType.relation "Implements" ReflectliteType.implements_) Tryd.func159 (by kernel_rfl) (by kernel_rfl) (by kernel_rfl) (by kernel_rfl)
  have h10 := @run_callFunc_extern Tryd.prog 121 _ ReflectliteType.typeOf Tryd.func121 (by kernel_rfl) (by kernel_rfl) (by kernel_rfl) (by kernel_rfl)
  have h35 := @run_callFunc_extern Tryd.prog 156 _ (ReflectliteType.relation "AssignableTo" ReflectliteType.assignableTo) Tryd.func156 (by kernel_rfl) (by kernel_rfl) (by kernel_rfl) (by kernel_rfl)
  have h11 := @run_callFunc_extern Tryd.prog 122 _ (ReflectliteValue.method (ReflectliteValue.valueError "reflectlite.Value.Elem" 0) ReflectliteValue.elem) Tryd.func122 (by kernel_rfl) (by kernel_rfl) (by kernel_rfl) (by kernel_rfl)
  have h12 := @run_callFunc_extern Tryd.prog 123 _ ReflectliteValue.set Tryd.func123 (by kernel_rfl) (by kernel_rfl) (by kernel_rfl) (by kernel_rfl)
  have tO := Tryd.typeOf104
  have mA := Tryd.methodAssignableTo
  have a25 := Tryd.assignable104
  have v25 := Tryd.valueOf104
  have f6 := Tryd.valueOf106
  have f7 := Tryd.asT106
  have mK := Tryd.methodKind
  have mE := Tryd.methodElem
  have mI := Tryd.methodImplements
  have k27 := Tryd.kind106
  have k25 := Tryd.kind104
  have e27 := Tryd.elem106
  have i25 := Tryd.implements104
  have n8 := Tryd.isNil106 ⟨w.heap.size, 0, none⟩ ⟨tb, to, none⟩ ((w.alloc (.cells #[.pointer (some ⟨tb, to, none⟩)] 106)).alloc (.cells #[.pointer (some ⟨5, 106, none⟩), .pointer (some ⟨w.heap.size, 0, none⟩), .int .u64 150] 130)) (by simp)
  have hlt : 0 < w.heap.size := by
    rcases Nat.eq_zero_or_pos w.heap.size with h0 | h
    · simp [World.cell?, h0] at hg
    · exact h
  have hg2 : ((w.alloc (.cells #[.pointer (some ⟨tb, to, none⟩)] 106)).alloc (.cells #[.pointer (some ⟨5, 106, none⟩), .pointer (some ⟨w.heap.size, 0, none⟩), .int .u64 150] 130)).cell? ⟨0, 0, none⟩ = some (.iface 148 (.agg #[.pointer (some ⟨5, 100, none⟩)])) := by
    rw [World.cell?_alloc_lt _ _ ⟨0, 0, none⟩ (by simp), World.cell?_alloc_lt _ _ ⟨0, 0, none⟩ hlt]; exact hg
  have htl : tb < w.heap.size := by
    rcases Nat.lt_or_ge tb w.heap.size with h | h
    · exact h
    · simp [World.cell?, Array.getElem?_eq_none h] at ht0
  have el := Tryd.elemV106 ⟨w.heap.size, 0, none⟩ ⟨tb, to, none⟩ (((w.alloc (.cells #[.pointer (some ⟨tb, to, none⟩)] 106)).alloc (.cells #[.pointer (some ⟨5, 106, none⟩), .pointer (some ⟨w.heap.size, 0, none⟩), .int .u64 150] 130)).alloc (.cells #[.pointer (some ⟨5, 106, none⟩), .pointer (some ⟨w.heap.size, 0, none⟩), .int .u64 150] 130)) (by rw [World.cell?_alloc_lt _ _ ⟨w.heap.size, 0, none⟩ (by simp; omega)]; simp)
  have st := Tryd.set104 tb to (w.heap.size + 1 + 1 + 1) 0 c0 c1 o0 o1 h0 h1 ((((w.alloc (.cells #[.pointer (some ⟨tb, to, none⟩)] 106)).alloc (.cells #[.pointer (some ⟨5, 106, none⟩), .pointer (some ⟨w.heap.size, 0, none⟩), .int .u64 150] 130)).alloc (.cells #[.pointer (some ⟨5, 106, none⟩), .pointer (some ⟨w.heap.size, 0, none⟩), .int .u64 150] 130)).alloc (.cells #[c0, c1] 104))
    (by rw [World.cell?_alloc_at _ _ _ _ (by simp)]; rfl)
    (by rw [World.cell?_alloc_at _ _ _ _ (by simp)]; rfl)
    (by rw [World.cell?_alloc_lt _ _ ⟨tb, to, none⟩ (by simp; omega), World.cell?_alloc_lt _ _ ⟨tb, to, none⟩ (by simp; omega), World.cell?_alloc_lt _ _ ⟨tb, to, none⟩ (by simp; omega), World.cell?_alloc_lt _ _ ⟨tb, to, none⟩ htl]; exact ht0)
    (by rw [World.cell?_alloc_lt _ _ ⟨tb, to + 1, none⟩ (by simp; omega), World.cell?_alloc_lt _ _ ⟨tb, to + 1, none⟩ (by simp; omega), World.cell?_alloc_lt _ _ ⟨tb, to + 1, none⟩ (by simp; omega), World.cell?_alloc_lt _ _ ⟨tb, to + 1, none⟩ htl]; exact ht1)
    (by rw [World.frozen?_alloc_old _ _ ⟨tb, to, none⟩ (by simp; omega), World.frozen?_alloc_old _ _ ⟨tb, to, none⟩ (by simp; omega), World.frozen?_alloc_old _ _ ⟨tb, to, none⟩ (by simp; omega), World.frozen?_alloc_old _ _ ⟨tb, to, none⟩ (Nat.ne_of_lt htl)]; exact hf0)
    (by rw [World.frozen?_alloc_old _ _ ⟨tb, to + 1, none⟩ (by simp; omega), World.frozen?_alloc_old _ _ ⟨tb, to + 1, none⟩ (by simp; omega), World.frozen?_alloc_old _ _ ⟨tb, to + 1, none⟩ (by simp; omega), World.frozen?_alloc_old _ _ ⟨tb, to + 1, none⟩ (Nat.ne_of_lt htl)]; exact hf1)
  go_enter Tryd.func91, Tryd.ntmps91
  go_wp2
  refine wp_loop_rounds 1 ?_
  rw [rounds_succ]
  go_wp2
  go_ret
  exact ⟨rfl, rfl⟩
end Go.Proofs
end
section
namespace Go.Abs
open Go Go.Proofs Go.RowKit
theorem glob_cell {G : Nat → AV} {E : Env} (g : Glob G E) (k : Nat) (x : AV) (h : G k = x) (hx : x ≠ .any) : VR E false (.rptr x) (.pointer (some ⟨k, 0, none⟩)) := by
  have := g k
  rw [h] at this
  split at this
  · exact absurd rfl hx
  · exact this
theorem asNil_ok (a : Int) : FnOK Tryd.prog abiG 91 [.nili, .iface 106 (.ptr 0 [])] [some (.var (.agg [.int .i64 a, .nili]))] (.bool false) [some (.var (.agg [.int .i64 a, .nili]))] := by
  intro E vs hbl m g ha
  obtain ⟨v, w, rfl, hv, hw⟩ := args2 ha
  cases hv
  refine .inl ⟨Tryd.f91, Tryd.func91, by decide, by kernel_rfl, (as_nil w E.w).mono ?_⟩
  rintro e W' ⟨rfl, rfl⟩
  exact ⟨_, rfl, E, rfl, hbl, Go.refl m, .bool _ _⟩
theorem asHit_ok (i a : Int) : FnOK Tryd.prog abiG 91 [.iface 104 (.agg [.int .i64 i, .iface 166 .any]), .iface 106 (.ptr 0 [])] [some (.var (.agg [.int .i64 a, .nili]))] (.bool true) [some (.var (.agg [.int .i64 i, .iface 166 .any]))] := by
  intro E vs hbl m g ha
  obtain ⟨v, w, rfl, hv, hw⟩ := args2 ha
  have hb : bget E.bl 0 = some (.var (.agg [.int .i64 a, .nili])) := by rw [hbl]; rfl
  have k := m.ok 0 _ hb
  obtain ⟨x, hx⟩ : ∃ x, v = .iface 104 (.agg #[.int .i64 i, .iface 166 x]) := by
    cases hv with
    | iface _ _ _ v h =>
      cases h with
      | agg _ _ cs hf hs h =>
        have hs2 : cs.size = 2 := by rw [hs]; rfl
        have a0 := h 0 (.int .i64 i) cs[0] rfl (Array.getElem?_eq_getElem (by omega))
        have a1 := h 1 (.iface 166 .any) cs[1] rfl (Array.getElem?_eq_getElem (by omega))
        generalize e0 : cs[0] = c0 at a0
        generalize e1 : cs[1] = c1 at a1
        cases a0
        cases a1 with
        | iface _ _ _ y _ =>
          refine ⟨y, ?_⟩
          congr 2
          apply Array.ext
          · exact hs2
          · intro j hj hj2
            simp at hj2
            match j with
            | 0 => exact e0
            | 1 => exact e1
            | j + 2 => omega
  subst hx
  obtain ⟨ad, rfl⟩ : ∃ ad, w = .iface 106 (.pointer (some ad)) := by
    cases hw with
    | iface _ _ _ v h =>
      cases h with
      | ptr => exact ⟨_, rfl⟩
  have hp : ad = ⟨(E.loc 0).1, (E.loc 0).2.1, none⟩ := by
    cases hw with
    | iface _ _ _ v h =>
      cases h with
      | ptr _ _ _ _ h =>
        obtain ⟨h1, q, h2, h3, h4⟩ := h _ hb
        cases h2
        cases ad
        simp_all
  subst hp
  have hg : E.w.cell? ⟨0, 0, none⟩ = some (.iface 148 (.agg #[.pointer (some ⟨5, 100, none⟩)])) := by
    have := glob_cell g 0 _ rfl (by intro h; cases h)
    cases this with
    | rptr _ _ _ hf hs vv h hv =>
      have h1 := h 0 _ rfl
      have h2 := hv 0 _ rfl
      generalize vv 0 = y at h1 h2
      cases h2
      exact h1.2
  obtain ⟨o0, p0, -⟩ := k.cells 0 (.int .i64 a) rfl
  obtain ⟨o1, p1, -⟩ := k.cells 1 .nili rfl
  have hlen := k.len
  have r0 := (k.room 0 (by simp [flatB, flat, flats] at hlen; omega)).2
  have r1 := (k.room 1 (by simp [flatB, flat, flats] at hlen; omega)).2
  have hhit := as_hit (E.loc 0).1 (E.loc 0).2.1 (.int .i64 i) (.iface 166 x) o0 o1 E.w rfl rfl hg p0 p1 r0 r1
  refine .inl ⟨Tryd.f91, Tryd.func91, by decide, by kernel_rfl, hhit.mono ?_⟩
  rintro e W' ⟨rfl, hW⟩
  generalize hW1 : (((E.w.alloc (.cells #[.pointer (some ⟨(E.loc 0).1, (E.loc 0).2.1, none⟩)] 106)).alloc (.cells #[.pointer (some ⟨5, 106, none⟩), .pointer (some ⟨E.w.heap.size, 0, none⟩), .int .u64 150] 130)).alloc (.cells #[.pointer (some ⟨5, 106, none⟩), .pointer (some ⟨E.w.heap.size, 0, none⟩), .int .u64 150] 130)).alloc (.cells #[.int .i64 i, .iface 166 x] 104) = W1 at hW
  have hB : Below E.w.heap.size E.w W1 := by
    rw [← hW1]
    exact ((((Below.refl _ _).alloc (Nat.le_refl _) _).alloc (by simp) _).alloc (by simp; omega) _).alloc (by simp; omega) _
  have g1 := Go.below m hB
  have g2 := Go.put g1.mem 0 0 [.int .i64 i, .iface 166 x] (.var (.agg [.int .i64 a, .nili])) (.var (.agg [.int .i64 i, .iface 166 .any])) hb
    (by simp [flatB, flat, flats] at hlen; simpa using hlen)
    (.agg _ (by
      intro y hy
      simp at hy
      rcases hy with rfl | rfl
      · exact .leaf _ ⟨by simp, by simp⟩
      · exact .leaf _ ⟨by simp, by simp⟩)) (by simpa [flatB, flat, flats] using hlen)
    (fun j y hy _ _ => by
      match j with
      | 0 => cases hy; exact ⟨_, rfl, .int _ _ _⟩
      | 1 => cases hy; exact ⟨_, rfl, .iface _ _ _ _ (.any _ _)⟩
      | j + 2 => simp [flatB, flat, flats] at hy)
    (fun j y hy h => by
      have : j < 2 := by
        have := (List.getElem?_eq_some_iff.1 hy).1
        simpa [flatB, flat, flats] using this
      simp at h
      omega)
    (fun p q hq => by
      unfold offB at hq ⊢
      match p with
      | [] => exact hq
      | [0] => exact hq
      | [1] => exact hq
      | (j + 2) :: p => simp [offPath] at hq
      | 0 :: _ :: _ => simp [offPath] at hq
      | 1 :: _ :: _ => simp [offPath] at hq)
    (fun p r hr => by
      unfold rowB at hr
      match p with
      | [] => simp [getPath] at hr
      | [0] => simp [getPath] at hr
      | [1] => simp [getPath] at hr
      | (j + 2) :: p => simp [getPath] at hr
      | 0 :: _ :: _ => simp [getPath] at hr
      | 1 :: _ :: _ => simp [getPath] at hr)
  refine ⟨_, rfl, _, ?_, ?_, g1.trans g2, .bool _ _⟩
  · rw [hW]; rfl
  · show E.bl.set 0 _ = _
    rw [hbl]
    rfl
end Go.Abs
end
section
theorem errors_As0.s (hmix : Tryd.prog.follows .mixedOrders = true) (n : Nat) : CalleeS Tryd.prog abiG 91 (errors_As0.c n) :=
  CalleeS.of (res := errors_As0.res) (shape := errors_As0.shape) (fun R u K => rfl) (fun args lent t h => by
    unfold errors_As0.pat at h
    split at h
    · cases h; rfl
    · cases h) fun t u h => by cases h; exact asNil_ok t
theorem errors_As1.s (hmix : Tryd.prog.follows .mixedOrders = true) (n : Nat) : CalleeS Tryd.prog abiG 91 (errors_As1.c n) :=
  CalleeS.of (res := errors_As1.res) (shape := errors_As1.shape) (fun R u K => rfl) (fun args lent t h => by
    unfold errors_As1.pat at h
    split at h
    · cases h; rfl
    · cases h) fun t u h => by cases h; exact asHit_ok t.1 t.2
theorem Fbk.s (hmix : Tryd.prog.follows .mixedOrders = true) (n : Nat) : CalleeS Tryd.prog abiG 91 (Fbk.c n) := .pick (errors_As0.s hmix n) (errors_As1.s hmix n)
end
section
noncomputable abbrev Fab.R0 (n : Nat) := roundOf (Fab.C n) (Fab.A n) n Fab.b0
theorem Fab.l5_0.rmap {α β : Type} (h : β → α) (mk0 : Int → LI → LA → LA → β) (mk1 : LI → LA → β) (n : Nat) (f : Int → Int → LA → LI → LA → Option β)  (x0 : Int) (x1 : Int) (x2 : LA) (x3 : LI) (x4 : LA) : Fab.l5_0.r (fun a0 a1 a2 a3 => (h (mk0 a0 a1 a2 a3))) (fun a0 a1 => (h (mk1 a0 a1))) n (fun y0 y1 y2 y3 y4 => (f y0 y1 y2 y3 y4).map h) x0 x1 x2 x3 x4 = (Fab.l5_0.r mk0 mk1 n f x0 x1 x2 x3 x4).map h := by
  unfold Fab.l5_0.r
  exact (ite_map (ite_map (ite_map (bindO_map fun r10 => (ite_map (ite_map (ite_map (ite_map (ite_map (bindO_map fun r22 => (ite_map rfl rfl)) rfl) rfl) rfl) rfl) (bindO_map fun r14 => match r14 with | (.inl r14) => (bindO_map fun r18 => rfl) | (.inr r14) => (bindO_map fun r18 => (ite_map rfl rfl))))) rfl) rfl) rfl)
theorem Fab.l5_0.gmap {α β : Type} (h : β → α) (mk0 : Int → LI → LA → LA → β) (mk1 : LI → LA → β) (n : Nat) : ∀ (m : Nat) (x0 : Int) (x1 : Int) (x2 : LA) (x3 : LI) (x4 : LA), Fab.l5_0.g (fun a0 a1 a2 a3 => (h (mk0 a0 a1 a2 a3))) (fun a0 a1 => (h (mk1 a0 a1))) n m x0 x1 x2 x3 x4 = (Fab.l5_0.g mk0 mk1 n m x0 x1 x2 x3 x4).map h
  | 0, _, _, _, _, _ => rfl
  | m + 1, x0, x1, x2, x3, x4 => by
    unfold Fab.l5_0.g
    rw [← Fab.l5_0.rmap]
    congr
    · funext y0 y1 y2 y3 y4; exact Fab.l5_0.gmap h mk0 mk1 n m y0 y1 y2 y3 y4
theorem Fab.l5_0.pat_shape : ∀ st t, Fab.l5_0.pat st = some t → st = Fab.l5_0.shape t := fun _ _ h => by unfold Fab.l5_0.pat at h; split at h <;> cases h; rfl
def Fab.l5_0.k0 : Int → LI → LA → LA → Ex × St := (fun a0 a1 a2 a3 => ((.ret, (St.mk [(.own 1 6), (.int .u16 a0), (.own 2 6)] [(some (.ints .u8 a1)), (some (.objs 69 6 a2)), (some (.objs 69 6 a3))])) : Ex × St))
def Fab.l5_0.k1 : LI → LA → Ex × St := (fun a0 a1 => (((.exit 0), (St.mk [.any, .any, (.own 1 6)] [(some (.ints .u8 a0)), (some (.objs 69 6 a1))])) : Ex × St))
theorem Fab.l5_0.round (n : Nat) (rc : St → Option (Ex × St)) (x0 : Int) (x1 : Int) (x2 : LA) (x3 : LI) (x4 : LA) : Fab.R0 n rc ((St.mk [(.int .i64 x0), (.int .i64 x1), (.robjs 4 1 x2), (.own 0 1), (.own 1 6)] [(some (.ints .u8 x3)), (some (.objs 69 6 x4))])) = Fab.l5_0.r Fab.l5_0.k0 Fab.l5_0.k1 n (fun y0 y1 y2 y3 y4 => rc ((St.mk [(.int .i64 y0), (.int .i64 y1), (.robjs 4 1 y2), (.own 0 1), (.own 1 6)] [(some (.ints .u8 y3)), (some (.objs 69 6 y4))]))) x0 x1 x2 x3 x4 := by kernel_rfl
theorem Fab.l5_0.loop' (n : Nat) : ∀ (m : Nat) (t : (Int × (Int × (LA × (LI × LA))))), loopOf (Fab.R0 n) m (Fab.l5_0.shape t) = Fab.l5_0.g Fab.l5_0.k0 Fab.l5_0.k1 n m t.1 t.2.1 t.2.2.1 t.2.2.2.1 t.2.2.2.2 :=
  loop_of_round (shape := Fab.l5_0.shape) (body := Fab.R0 n) (g := fun m t => Fab.l5_0.g Fab.l5_0.k0 Fab.l5_0.k1 n m t.1 t.2.1 t.2.2.1 t.2.2.2.1 t.2.2.2.2) (fun t => rfl)
    fun m t ih => (Fab.l5_0.round n (loopOf (Fab.R0 n) m) t.1 t.2.1 t.2.2.1 t.2.2.2.1 t.2.2.2.2).trans (congrFun (congrFun (congrFun (congrFun (congrFun (congrArg (Fab.l5_0.r Fab.l5_0.k0 Fab.l5_0.k1 n) (funext fun y0 => funext fun y1 => funext fun y2 => funext fun y3 => funext fun y4 => ih (y0, y1, y2, y3, y4))) t.1) t.2.1) t.2.2.1) t.2.2.2.1) t.2.2.2.2)
theorem Fab.l5_0.loop (n m : Nat) (t : (Int × (Int × (LA × (LI × LA))))) : loopOf (Fab.R0 n) m (Fab.l5_0.shape t) = (Fab.l5_0.m n m t).map Fab.l5_0.res :=
  (Fab.l5_0.loop' n m t).trans (Fab.l5_0.gmap Fab.l5_0.res (fun a0 a1 a2 a3 => (.inl (a0, a1, a2, a3))) (fun a0 a1 => (.inr (a0, a1))) n m t.1 t.2.1 t.2.2.1 t.2.2.2.1 t.2.2.2.2)
theorem Fab.gmap {α β : Type} (h : β → α) (mk0 : Int → LI → LA → β) (n : Nat) (k : LA) (l : LI) : Fab.g (fun a0 a1 a2 => (h (mk0 a0 a1 a2))) n k l = (Fab.g mk0 n k l).map h := by
  unfold Fab.g
  exact (ite_map rfl (bindO_map fun r4 => match r4 with | (.inl r4) => rfl | (.inr r4) => rfl))
theorem Fab.run (n : Nat) (k : LA) (l : LI) : runF (Fab.C n) (Fab.A n) n Tryd.f53 [(.robjs 4 1 k), (.own 0 1)] [(some (.ints .u8 l))] (fun v o => some (v, o)) = Fab.g (fun a0 a1 a2 => (((.tup [(.own 1 6), (.int .u16 a0)]), [(some (.ints .u8 a1)), (some (.objs 69 6 a2))]) : AV × Blks)) n k l := by kernel_rfl
theorem Fab.call (hmix : Tryd.prog.follows .mixedOrders = true) (n : Nat) (t : (LA × LI)) (u) (h : Fab.m n t = some u) : FnC Tryd.prog abiG 53 (Fab.shape t).1 (Fab.shape t).2 (Fab.res u).1 (Fab.res u).2 :=
  fnC1 (C := Fab.C n) (A := Fab.A n) (fn := Tryd.f53) rfl (.cons (Fbd.s hmix n) (.cons (Faa.s hmix n) (.cons (Fbk.s hmix n) .nil))) hmix Tryd.func53 (by kernel_rfl) (lp := [Fab.b0]) (by kernel_rfl) (.cons (show (Fab.A n).loop (key Fab.b0) = some (.mk' Fab.l5_0.pat (Fab.l5_0.m n n) Fab.l5_0.resK) by kernel_rfl) (LoopS.of (res := Fab.l5_0.res) (fun R u K => by rcases u with u | u <;> rfl) Fab.l5_0.pat_shape fun t => Fab.l5_0.loop n n t)
  .nil)
  (nj rfl) (by decide) rfl rfl (by show 2 ≤ Tryd.f53.ntmps; decide) (Fab.run n t.1 t.2) (Fab.gmap Fab.res (fun a0 a1 a2 => (a0, a1, a2)) n t.1 t.2) h
theorem Fab.s (hmix : Tryd.prog.follows .mixedOrders = true) (n : Nat) : CalleeS Tryd.prog abiG 53 (Fab.c n) :=
  .mk1 (res := Fab.res) (shape := Fab.shape) (fun R u K => rfl) (fun _ _ _ h => by unfold Fab.pat at h; split at h <;> cases h; rfl) (fun t u h => Fab.call hmix n t u h) Tryd.func53 (by decide) (by kernel_rfl)
end
section
noncomputable abbrev Fac.R0 (n : Nat) := roundOf (Fac.C n) (Fac.A n) n Fac.b0
theorem Fac.l5_0.rmap {α β : Type} (h : β → α) (mk0 : Int → LA → LI → LA → LA → β) (mk1 : LA → LI → LA → β) (n : Nat) (f : Int → Int → LA → LI → LA → Option β)  (x0 : Int) (x1 : Int) (x2 : LA) (x3 : LI) (x4 : LA) : Fac.l5_0.r (fun a0 a1 a2 a3 a4 => (h (mk0 a0 a1 a2 a3 a4))) (fun a0 a1 a2 => (h (mk1 a0 a1 a2))) n (fun y0 y1 y2 y3 y4 => (f y0 y1 y2 y3 y4).map h) x0 x1 x2 x3 x4 = (Fac.l5_0.r mk0 mk1 n f x0 x1 x2 x3 x4).map h := by
  unfold Fac.l5_0.r
  exact (ite_map (ite_map (ite_map (bindO_map fun r10 => (ite_map (ite_map (ite_map (ite_map (ite_map (bindO_map fun r22 => (ite_map rfl rfl)) rfl) rfl) rfl) rfl) (bindO_map fun r14 => match r14 with | (.inl r14) => (bindO_map fun r18 => rfl) | (.inr r14) => (bindO_map fun r18 => (ite_map rfl rfl))))) rfl) rfl) rfl)
theorem Fac.l5_0.gmap {α β : Type} (h : β → α) (mk0 : Int → LA → LI → LA → LA → β) (mk1 : LA → LI → LA → β) (n : Nat) : ∀ (m : Nat) (x0 : Int) (x1 : Int) (x2 : LA) (x3 : LI) (x4 : LA), Fac.l5_0.g (fun a0 a1 a2 a3 a4 => (h (mk0 a0 a1 a2 a3 a4))) (fun a0 a1 a2 => (h (mk1 a0 a1 a2))) n m x0 x1 x2 x3 x4 = (Fac.l5_0.g mk0 mk1 n m x0 x1 x2 x3 x4).map h
  | 0, _, _, _, _, _ => rfl
  | m + 1, x0, x1, x2, x3, x4 => by
    unfold Fac.l5_0.g
    rw [← Fac.l5_0.rmap]
    congr
    · funext y0 y1 y2 y3 y4; exact Fac.l5_0.gmap h mk0 mk1 n m y0 y1 y2 y3 y4
theorem Fac.l5_0.pat_shape : ∀ st t, Fac.l5_0.pat st = some t → st = Fac.l5_0.shape t := fun _ _ h => by unfold Fac.l5_0.pat at h; split at h <;> cases h; rfl
def Fac.l5_0.k0 : Int → LA → LI → LA → LA → Ex × St := (fun a0 a1 a2 a3 a4 => ((.ret, (St.mk [(.own 2 6), (.int .u16 a0), (.own 3 6)] [(some (.objs 4 1 a1)), (some (.ints .u8 a2)), (some (.objs 69 6 a3)), (some (.objs 69 6 a4))])) : Ex × St))
def Fac.l5_0.k1 : LA → LI → LA → Ex × St := (fun a0 a1 a2 => (((.exit 0), (St.mk [.any, .any, (.own 2 6)] [(some (.objs 4 1 a0)), (some (.ints .u8 a1)), (some (.objs 69 6 a2))])) : Ex × St))
theorem Fac.l5_0.round (n : Nat) (rc : St → Option (Ex × St)) (x0 : Int) (x1 : Int) (x2 : LA) (x3 : LI) (x4 : LA) : Fac.R0 n rc ((St.mk [(.int .i64 x0), (.int .i64 x1), (.own 0 1), (.own 1 1), (.own 2 6)] [(some (.objs 4 1 x2)), (some (.ints .u8 x3)), (some (.objs 69 6 x4))])) = Fac.l5_0.r Fac.l5_0.k0 Fac.l5_0.k1 n (fun y0 y1 y2 y3 y4 => rc ((St.mk [(.int .i64 y0), (.int .i64 y1), (.own 0 1), (.own 1 1), (.own 2 6)] [(some (.objs 4 1 y2)), (some (.ints .u8 y3)), (some (.objs 69 6 y4))]))) x0 x1 x2 x3 x4 := by kernel_rfl
theorem Fac.l5_0.loop' (n : Nat) : ∀ (m : Nat) (t : (Int × (Int × (LA × (LI × LA))))), loopOf (Fac.R0 n) m (Fac.l5_0.shape t) = Fac.l5_0.g Fac.l5_0.k0 Fac.l5_0.k1 n m t.1 t.2.1 t.2.2.1 t.2.2.2.1 t.2.2.2.2 :=
  loop_of_round (shape := Fac.l5_0.shape) (body := Fac.R0 n) (g := fun m t => Fac.l5_0.g Fac.l5_0.k0 Fac.l5_0.k1 n m t.1 t.2.1 t.2.2.1 t.2.2.2.1 t.2.2.2.2) (fun t => rfl)
    fun m t ih => (Fac.l5_0.round n (loopOf (Fac.R0 n) m) t.1 t.2.1 t.2.2.1 t.2.2.2.1 t.2.2.2.2).trans (congrFun (congrFun (congrFun (congrFun (congrFun (congrArg (Fac.l5_0.r Fac.l5_0.k0 Fac.l5_0.k1 n) (funext fun y0 => funext fun y1 => funext fun y2 => funext fun y3 => funext fun y4 => ih (y0, y1, y2, y3, y4))) t.1) t.2.1) t.2.2.1) t.2.2.2.1) t.2.2.2.2)
theorem Fac.l5_0.loop (n m : Nat) (t : (Int × (Int × (LA × (LI × LA))))) : loopOf (Fac.R0 n) m (Fac.l5_0.shape t) = (Fac.l5_0.m n m t).map Fac.l5_0.res :=
  (Fac.l5_0.loop' n m t).trans (Fac.l5_0.gmap Fac.l5_0.res (fun a0 a1 a2 a3 a4 => (.inl (a0, a1, a2, a3, a4))) (fun a0 a1 a2 => (.inr (a0, a1, a2))) n m t.1 t.2.1 t.2.2.1 t.2.2.2.1 t.2.2.2.2)
theorem Fac.gmap {α β : Type} (h : β → α) (mk0 : Int → LA → LI → LA → β) (n : Nat) (k : LA) (l : LI) : Fac.g (fun a0 a1 a2 a3 => (h (mk0 a0 a1 a2 a3))) n k l = (Fac.g mk0 n k l).map h := by
  unfold Fac.g
  exact (ite_map rfl (bindO_map fun r4 => match r4 with | (.inl r4) => rfl | (.inr r4) => rfl))
theorem Fac.run (n : Nat) (k : LA) (l : LI) : runF (Fac.C n) (Fac.A n) n Tryd.f53 [(.own 0 1), (.own 1 1)] [(some (.objs 4 1 k)), (some (.ints .u8 l))] (fun v o => some (v, o)) = Fac.g (fun a0 a1 a2 a3 => (((.tup [(.own 2 6), (.int .u16 a0)]), [(some (.objs 4 1 a1)), (some (.ints .u8 a2)), (some (.objs 69 6 a3))]) : AV × Blks)) n k l := by kernel_rfl
theorem Fac.call (hmix : Tryd.prog.follows .mixedOrders = true) (n : Nat) (t : (LA × LI)) (u) (h : Fac.m n t = some u) : FnC Tryd.prog abiG 53 (Fac.shape t).1 (Fac.shape t).2 (Fac.res u).1 (Fac.res u).2 :=
  fnC1 (C := Fac.C n) (A := Fac.A n) (fn := Tryd.f53) rfl (.cons (Fbd.s hmix n) (.cons (Faa.s hmix n) (.cons (Fbk.s hmix n) .nil))) hmix Tryd.func53 (by kernel_rfl) (lp := [Fac.b0]) (by kernel_rfl) (.cons (show (Fac.A n).loop (key Fac.b0) = some (.mk' Fac.l5_0.pat (Fac.l5_0.m n n) Fac.l5_0.resK) by kernel_rfl) (LoopS.of (res := Fac.l5_0.res) (fun R u K => by rcases u with u | u <;> rfl) Fac.l5_0.pat_shape fun t => Fac.l5_0.loop n n t)
  .nil)
  (nj rfl) (by decide) rfl rfl (by show 2 ≤ Tryd.f53.ntmps; decide) (Fac.run n t.1 t.2) (Fac.gmap Fac.res (fun a0 a1 a2 a3 => (a0, a1, a2, a3)) n t.1 t.2) h
theorem Fac.s (hmix : Tryd.prog.follows .mixedOrders = true) (n : Nat) : CalleeS Tryd.prog abiG 53 (Fac.c n) :=
  .mk1 (res := Fac.res) (shape := Fac.shape) (fun R u K => rfl) (fun _ _ _ h => by unfold Fac.pat at h; split at h <;> cases h; rfl) (fun t u h => Fac.call hmix n t u h) Tryd.func53 (by decide) (by kernel_rfl)
end
section
noncomputable abbrev Fad.R0 (n : Nat) := roundOf (Fad.C n) (Fad.A n) n Fad.b0
theorem Fad.l5_0.rmap {α β : Type} (h : β → α) (mk0 : Int → LA → LI → LA → LA → β) (mk1 : LA → LI → LA → β) (n : Nat) (f : Int → Int → Nat → Nat → LA → LI → LA → Option β)  (x0 : Int) (x1 : Int) (x2 : Nat) (x3 : Nat) (x4 : LA) (x5 : LI) (x6 : LA) : Fad.l5_0.r (fun a0 a1 a2 a3 a4 => (h (mk0 a0 a1 a2 a3 a4))) (fun a0 a1 a2 => (h (mk1 a0 a1 a2))) n (fun y0 y1 y2 y3 y4 y5 y6 => (f y0 y1 y2 y3 y4 y5 y6).map h) x0 x1 x2 x3 x4 x5 x6 = (Fad.l5_0.r mk0 mk1 n f x0 x1 x2 x3 x4 x5 x6).map h := by
  unfold Fad.l5_0.r
  exact (ite_map (ite_map (ite_map (bindO_map fun r10 => (ite_map (ite_map (ite_map (ite_map (ite_map (bindO_map fun r22 => (ite_map rfl rfl)) rfl) rfl) rfl) rfl) (bindO_map fun r14 => match r14 with | (.inl r14) => (bindO_map fun r18 => rfl) | (.inr r14) => (bindO_map fun r18 => (ite_map rfl rfl))))) rfl) rfl) rfl)
theorem Fad.l5_0.gmap {α β : Type} (h : β → α) (mk0 : Int → LA → LI → LA → LA → β) (mk1 : LA → LI → LA → β) (n : Nat) : ∀ (m : Nat) (x0 : Int) (x1 : Int) (x2 : Nat) (x3 : Nat) (x4 : LA) (x5 : LI) (x6 : LA), Fad.l5_0.g (fun a0 a1 a2 a3 a4 => (h (mk0 a0 a1 a2 a3 a4))) (fun a0 a1 a2 => (h (mk1 a0 a1 a2))) n m x0 x1 x2 x3 x4 x5 x6 = (Fad.l5_0.g mk0 mk1 n m x0 x1 x2 x3 x4 x5 x6).map h
  | 0, _, _, _, _, _, _, _ => rfl
  | m + 1, x0, x1, x2, x3, x4, x5, x6 => by
    unfold Fad.l5_0.g
    rw [← Fad.l5_0.rmap]
    congr
    · funext y0 y1 y2 y3 y4 y5 y6; exact Fad.l5_0.gmap h mk0 mk1 n m y0 y1 y2 y3 y4 y5 y6
theorem Fad.l5_0.pat_shape : ∀ st t, Fad.l5_0.pat st = some t → st = Fad.l5_0.shape t := fun _ _ h => by unfold Fad.l5_0.pat at h; split at h <;> cases h; rfl
def Fad.l5_0.k0 : Int → LA → LI → LA → LA → Ex × St := (fun a0 a1 a2 a3 a4 => ((.ret, (St.mk [(.own 2 6), (.int .u16 a0), (.own 3 6)] [(some (.objs 4 1 a1)), (some (.ints .u8 a2)), (some (.objs 69 6 a3)), (some (.objs 69 6 a4))])) : Ex × St))
def Fad.l5_0.k1 : LA → LI → LA → Ex × St := (fun a0 a1 a2 => (((.exit 0), (St.mk [.any, .any, (.own 2 6)] [(some (.objs 4 1 a0)), (some (.ints .u8 a1)), (some (.objs 69 6 a2))])) : Ex × St))
theorem Fad.l5_0.round (n : Nat) (rc : St → Option (Ex × St)) (x0 : Int) (x1 : Int) (x2 : Nat) (x3 : Nat) (x4 : LA) (x5 : LI) (x6 : LA) : Fad.R0 n rc ((St.mk [(.int .i64 x0), (.int .i64 x1), (.own 0 1), (.slice 1 [] x2 x3 1), (.own 2 6)] [(some (.objs 4 1 x4)), (some (.ints .u8 x5)), (some (.objs 69 6 x6))])) = Fad.l5_0.r Fad.l5_0.k0 Fad.l5_0.k1 n (fun y0 y1 y2 y3 y4 y5 y6 => rc ((St.mk [(.int .i64 y0), (.int .i64 y1), (.own 0 1), (.slice 1 [] y2 y3 1), (.own 2 6)] [(some (.objs 4 1 y4)), (some (.ints .u8 y5)), (some (.objs 69 6 y6))]))) x0 x1 x2 x3 x4 x5 x6 := by kernel_rfl
theorem Fad.l5_0.loop' (n : Nat) : ∀ (m : Nat) (t : (Int × (Int × (Nat × (Nat × (LA × (LI × LA))))))), loopOf (Fad.R0 n) m (Fad.l5_0.shape t) = Fad.l5_0.g Fad.l5_0.k0 Fad.l5_0.k1 n m t.1 t.2.1 t.2.2.1 t.2.2.2.1 t.2.2.2.2.1 t.2.2.2.2.2.1 t.2.2.2.2.2.2 :=
  loop_of_round (shape := Fad.l5_0.shape) (body := Fad.R0 n) (g := fun m t => Fad.l5_0.g Fad.l5_0.k0 Fad.l5_0.k1 n m t.1 t.2.1 t.2.2.1 t.2.2.2.1 t.2.2.2.2.1 t.2.2.2.2.2.1 t.2.2.2.2.2.2) (fun t => rfl)
    fun m t ih => (Fad.l5_0.round n (loopOf (Fad.R0 n) m) t.1 t.2.1 t.2.2.1 t.2.2.2.1 t.2.2.2.2.1 t.2.2.2.2.2.1 t.2.2.2.2.2.2).trans (congrFun (congrFun (congrFun (congrFun (congrFun (congrFun (congrFun (congrArg (Fad.l5_0.r Fad.l5_0.k0 Fad.l5_0.k1 n) (funext fun y0 => funext fun y1 => funext fun y2 => funext fun y3 => funext fun y4 => funext fun y5 => funext fun y6 => ih (y0, y1, y2, y3, y4, y5, y6))) t.1) t.2.1) t.2.2.1) t.2.2.2.1) t.2.2.2.2.1) t.2.2.2.2.2.1) t.2.2.2.2.2.2)
theorem Fad.l5_0.loop (n m : Nat) (t : (Int × (Int × (Nat × (Nat × (LA × (LI × LA))))))) : loopOf (Fad.R0 n) m (Fad.l5_0.shape t) = (Fad.l5_0.m n m t).map Fad.l5_0.res :=
  (Fad.l5_0.loop' n m t).trans (Fad.l5_0.gmap Fad.l5_0.res (fun a0 a1 a2 a3 a4 => (.inl (a0, a1, a2, a3, a4))) (fun a0 a1 a2 => (.inr (a0, a1, a2))) n m t.1 t.2.1 t.2.2.1 t.2.2.2.1 t.2.2.2.2.1 t.2.2.2.2.2.1 t.2.2.2.2.2.2)
theorem Fad.gmap {α β : Type} (h : β → α) (mk0 : Int → LA → LI → LA → β) (n : Nat) (s : Nat) (m : Nat) (k : LA) (l : LI) : Fad.g (fun a0 a1 a2 a3 => (h (mk0 a0 a1 a2 a3))) n s m k l = (Fad.g mk0 n s m k l).map h := by
  unfold Fad.g
  exact (ite_map rfl (bindO_map fun r4 => match r4 with | (.inl r4) => rfl | (.inr r4) => rfl))
theorem Fad.run (n : Nat) (s : Nat) (m : Nat) (k : LA) (l : LI) : runF (Fad.C n) (Fad.A n) n Tryd.f53 [(.own 0 1), (.slice 1 [] s m 1)] [(some (.objs 4 1 k)), (some (.ints .u8 l))] (fun v o => some (v, o)) = Fad.g (fun a0 a1 a2 a3 => (((.tup [(.own 2 6), (.int .u16 a0)]), [(some (.objs 4 1 a1)), (some (.ints .u8 a2)), (some (.objs 69 6 a3))]) : AV × Blks)) n s m k l := by kernel_rfl
theorem Fad.call (hmix : Tryd.prog.follows .mixedOrders = true) (n : Nat) (t : (Nat × (Nat × (LA × LI)))) (u) (h : Fad.m n t = some u) : FnC Tryd.prog abiG 53 (Fad.shape t).1 (Fad.shape t).2 (Fad.res u).1 (Fad.res u).2 :=
  fnC1 (C := Fad.C n) (A := Fad.A n) (fn := Tryd.f53) rfl (.cons (Fbd.s hmix n) (.cons (Faa.s hmix n) (.cons (Fbk.s hmix n) .nil))) hmix Tryd.func53 (by kernel_rfl) (lp := [Fad.b0]) (by kernel_rfl) (.cons (show (Fad.A n).loop (key Fad.b0) = some (.mk' Fad.l5_0.pat (Fad.l5_0.m n n) Fad.l5_0.resK) by kernel_rfl) (LoopS.of (res := Fad.l5_0.res) (fun R u K => by rcases u with u | u <;> rfl) Fad.l5_0.pat_shape fun t => Fad.l5_0.loop n n t)
  .nil)
  (nj rfl) (by decide) rfl rfl (by show 2 ≤ Tryd.f53.ntmps; decide) (Fad.run n t.1 t.2.1 t.2.2.1 t.2.2.2) (Fad.gmap Fad.res (fun a0 a1 a2 a3 => (a0, a1, a2, a3)) n t.1 t.2.1 t.2.2.1 t.2.2.2) h
theorem Fad.s (hmix : Tryd.prog.follows .mixedOrders = true) (n : Nat) : CalleeS Tryd.prog abiG 53 (Fad.c n) :=
  .mk1 (res := Fad.res) (shape := Fad.shape) (fun R u K => rfl) (fun _ _ _ h => by unfold Fad.pat at h; split at h <;> cases h; rfl) (fun t u h => Fad.call hmix n t u h) Tryd.func53 (by decide) (by kernel_rfl)
end
section
noncomputable abbrev Fae.R0 (n : Nat) := roundOf (Fae.C n) (Fae.A n) n Fae.b0
theorem Fae.l5_0.rmap {α β : Type} (h : β → α) (mk0 : Int → LI → LA → LA → β) (mk1 : LI → LA → β) (n : Nat) (f : Int → Int → LA → Nat → Nat → LI → LA → Option β)  (x0 : Int) (x1 : Int) (x2 : LA) (x3 : Nat) (x4 : Nat) (x5 : LI) (x6 : LA) : Fae.l5_0.r (fun a0 a1 a2 a3 => (h (mk0 a0 a1 a2 a3))) (fun a0 a1 => (h (mk1 a0 a1))) n (fun y0 y1 y2 y3 y4 y5 y6 => (f y0 y1 y2 y3 y4 y5 y6).map h) x0 x1 x2 x3 x4 x5 x6 = (Fae.l5_0.r mk0 mk1 n f x0 x1 x2 x3 x4 x5 x6).map h := by
  unfold Fae.l5_0.r
  exact (ite_map (ite_map (ite_map (bindO_map fun r10 => (ite_map (ite_map (ite_map (ite_map (ite_map (bindO_map fun r22 => (ite_map rfl rfl)) rfl) rfl) rfl) rfl) (bindO_map fun r14 => match r14 with | (.inl r14) => (bindO_map fun r18 => rfl) | (.inr r14) => (bindO_map fun r18 => (ite_map rfl rfl))))) rfl) rfl) rfl)
theorem Fae.l5_0.gmap {α β : Type} (h : β → α) (mk0 : Int → LI → LA → LA → β) (mk1 : LI → LA → β) (n : Nat) : ∀ (m : Nat) (x0 : Int) (x1 : Int) (x2 : LA) (x3 : Nat) (x4 : Nat) (x5 : LI) (x6 : LA), Fae.l5_0.g (fun a0 a1 a2 a3 => (h (mk0 a0 a1 a2 a3))) (fun a0 a1 => (h (mk1 a0 a1))) n m x0 x1 x2 x3 x4 x5 x6 = (Fae.l5_0.g mk0 mk1 n m x0 x1 x2 x3 x4 x5 x6).map h
  | 0, _, _, _, _, _, _, _ => rfl
  | m + 1, x0, x1, x2, x3, x4, x5, x6 => by
    unfold Fae.l5_0.g
    rw [← Fae.l5_0.rmap]
    congr
    · funext y0 y1 y2 y3 y4 y5 y6; exact Fae.l5_0.gmap h mk0 mk1 n m y0 y1 y2 y3 y4 y5 y6
theorem Fae.l5_0.pat_shape : ∀ st t, Fae.l5_0.pat st = some t → st = Fae.l5_0.shape t := fun _ _ h => by unfold Fae.l5_0.pat at h; split at h <;> cases h; rfl
def Fae.l5_0.k0 : Int → LI → LA → LA → Ex × St := (fun a0 a1 a2 a3 => ((.ret, (St.mk [(.own 1 6), (.int .u16 a0), (.own 2 6)] [(some (.ints .u8 a1)), (some (.objs 69 6 a2)), (some (.objs 69 6 a3))])) : Ex × St))
def Fae.l5_0.k1 : LI → LA → Ex × St := (fun a0 a1 => (((.exit 0), (St.mk [.any, .any, (.own 1 6)] [(some (.ints .u8 a0)), (some (.objs 69 6 a1))])) : Ex × St))
theorem Fae.l5_0.round (n : Nat) (rc : St → Option (Ex × St)) (x0 : Int) (x1 : Int) (x2 : LA) (x3 : Nat) (x4 : Nat) (x5 : LI) (x6 : LA) : Fae.R0 n rc ((St.mk [(.int .i64 x0), (.int .i64 x1), (.robjs 4 1 x2), (.slice 0 [] x3 x4 1), (.own 1 6)] [(some (.ints .u8 x5)), (some (.objs 69 6 x6))])) = Fae.l5_0.r Fae.l5_0.k0 Fae.l5_0.k1 n (fun y0 y1 y2 y3 y4 y5 y6 => rc ((St.mk [(.int .i64 y0), (.int .i64 y1), (.robjs 4 1 y2), (.slice 0 [] y3 y4 1), (.own 1 6)] [(some (.ints .u8 y5)), (some (.objs 69 6 y6))]))) x0 x1 x2 x3 x4 x5 x6 := by kernel_rfl
theorem Fae.l5_0.loop' (n : Nat) : ∀ (m : Nat) (t : (Int × (Int × (LA × (Nat × (Nat × (LI × LA))))))), loopOf (Fae.R0 n) m (Fae.l5_0.shape t) = Fae.l5_0.g Fae.l5_0.k0 Fae.l5_0.k1 n m t.1 t.2.1 t.2.2.1 t.2.2.2.1 t.2.2.2.2.1 t.2.2.2.2.2.1 t.2.2.2.2.2.2 :=
  loop_of_round (shape := Fae.l5_0.shape) (body := Fae.R0 n) (g := fun m t => Fae.l5_0.g Fae.l5_0.k0 Fae.l5_0.k1 n m t.1 t.2.1 t.2.2.1 t.2.2.2.1 t.2.2.2.2.1 t.2.2.2.2.2.1 t.2.2.2.2.2.2) (fun t => rfl)
    fun m t ih => (Fae.l5_0.round n (loopOf (Fae.R0 n) m) t.1 t.2.1 t.2.2.1 t.2.2.2.1 t.2.2.2.2.1 t.2.2.2.2.2.1 t.2.2.2.2.2.2).trans (congrFun (congrFun (congrFun (congrFun (congrFun (congrFun (congrFun (congrArg (Fae.l5_0.r Fae.l5_0.k0 Fae.l5_0.k1 n) (funext fun y0 => funext fun y1 => funext fun y2 => funext fun y3 => funext fun y4 => funext fun y5 => funext fun y6 => ih (y0, y1, y2, y3, y4, y5, y6))) t.1) t.2.1) t.2.2.1) t.2.2.2.1) t.2.2.2.2.1) t.2.2.2.2.2.1) t.2.2.2.2.2.2)
theorem Fae.l5_0.loop (n m : Nat) (t : (Int × (Int × (LA × (Nat × (Nat × (LI × LA))))))) : loopOf (Fae.R0 n) m (Fae.l5_0.shape t) = (Fae.l5_0.m n m t).map Fae.l5_0.res :=
  (Fae.l5_0.loop' n m t).trans (Fae.l5_0.gmap Fae.l5_0.res (fun a0 a1 a2 a3 => (.inl (a0, a1, a2, a3))) (fun a0 a1 => (.inr (a0, a1))) n m t.1 t.2.1 t.2.2.1 t.2.2.2.1 t.2.2.2.2.1 t.2.2.2.2.2.1 t.2.2.2.2.2.2)
theorem Fae.gmap {α β : Type} (h : β → α) (mk0 : Int → LI → LA → β) (n : Nat) (k : LA) (s : Nat) (m : Nat) (l : LI) : Fae.g (fun a0 a1 a2 => (h (mk0 a0 a1 a2))) n k s m l = (Fae.g mk0 n k s m l).map h := by
  unfold Fae.g
  exact (ite_map rfl (bindO_map fun r4 => match r4 with | (.inl r4) => rfl | (.inr r4) => rfl))
theorem Fae.run (n : Nat) (k : LA) (s : Nat) (m : Nat) (l : LI) : runF (Fae.C n) (Fae.A n) n Tryd.f53 [(.robjs 4 1 k), (.slice 0 [] s m 1)] [(some (.ints .u8 l))] (fun v o => some (v, o)) = Fae.g (fun a0 a1 a2 => (((.tup [(.own 1 6), (.int .u16 a0)]), [(some (.ints .u8 a1)), (some (.objs 69 6 a2))]) : AV × Blks)) n k s m l := by kernel_rfl
theorem Fae.call (hmix : Tryd.prog.follows .mixedOrders = true) (n : Nat) (t : (LA × (Nat × (Nat × LI)))) (u) (h : Fae.m n t = some u) : FnC Tryd.prog abiG 53 (Fae.shape t).1 (Fae.shape t).2 (Fae.res u).1 (Fae.res u).2 :=
  fnC1 (C := Fae.C n) (A := Fae.A n) (fn := Tryd.f53) rfl (.cons (Fbd.s hmix n) (.cons (Faa.s hmix n) (.cons (Fbk.s hmix n) .nil))) hmix Tryd.func53 (by kernel_rfl) (lp := [Fae.b0]) (by kernel_rfl) (.cons (show (Fae.A n).loop (key Fae.b0) = some (.mk' Fae.l5_0.pat (Fae.l5_0.m n n) Fae.l5_0.resK) by kernel_rfl) (LoopS.of (res := Fae.l5_0.res) (fun R u K => by rcases u with u | u <;> rfl) Fae.l5_0.pat_shape fun t => Fae.l5_0.loop n n t)
  .nil)
  (nj rfl) (by decide) rfl rfl (by show 2 ≤ Tryd.f53.ntmps; decide) (Fae.run n t.1 t.2.1 t.2.2.1 t.2.2.2) (Fae.gmap Fae.res (fun a0 a1 a2 => (a0, a1, a2)) n t.1 t.2.1 t.2.2.1 t.2.2.2) h
theorem Fae.s (hmix : Tryd.prog.follows .mixedOrders = true) (n : Nat) : CalleeS Tryd.prog abiG 53 (Fae.c n) :=
  .mk1 (res := Fae.res) (shape := Fae.shape) (fun R u K => rfl) (fun _ _ _ h => by unfold Fae.pat at h; split at h <;> cases h; rfl) (fun t u h => Fae.call hmix n t u h) Tryd.func53 (by decide) (by kernel_rfl)
end
section
noncomputable abbrev Faf.R0 (n : Nat) := roundOf (Faf.C n) (Faf.A n) n Faf.b0
theorem Faf.l5_0.rmap {α β : Type} (h : β → α) (mk0 : Int → LA → LA → β) (mk1 : LA → β) (n : Nat) (f : Int → Int → LA → LI → LA → Option β)  (x0 : Int) (x1 : Int) (x2 : LA) (x3 : LI) (x4 : LA) : Faf.l5_0.r (fun a0 a1 a2 => (h (mk0 a0 a1 a2))) (fun a0 => (h (mk1 a0))) n (fun y0 y1 y2 y3 y4 => (f y0 y1 y2 y3 y4).map h) x0 x1 x2 x3 x4 = (Faf.l5_0.r mk0 mk1 n f x0 x1 x2 x3 x4).map h := by
  unfold Faf.l5_0.r
  exact (ite_map (ite_map (ite_map (bindO_map fun r10 => (ite_map (ite_map (ite_map (ite_map (ite_map (bindO_map fun r22 => (ite_map rfl rfl)) rfl) rfl) rfl) rfl) (bindO_map fun r14 => match r14 with | (.inl r14) => (bindO_map fun r18 => rfl) | (.inr r14) => (bindO_map fun r18 => (ite_map rfl rfl))))) rfl) rfl) rfl)
theorem Faf.l5_0.gmap {α β : Type} (h : β → α) (mk0 : Int → LA → LA → β) (mk1 : LA → β) (n : Nat) : ∀ (m : Nat) (x0 : Int) (x1 : Int) (x2 : LA) (x3 : LI) (x4 : LA), Faf.l5_0.g (fun a0 a1 a2 => (h (mk0 a0 a1 a2))) (fun a0 => (h (mk1 a0))) n m x0 x1 x2 x3 x4 = (Faf.l5_0.g mk0 mk1 n m x0 x1 x2 x3 x4).map h
  | 0, _, _, _, _, _ => rfl
  | m + 1, x0, x1, x2, x3, x4 => by
    unfold Faf.l5_0.g
    rw [← Faf.l5_0.rmap]
    congr
    · funext y0 y1 y2 y3 y4; exact Faf.l5_0.gmap h mk0 mk1 n m y0 y1 y2 y3 y4
theorem Faf.l5_0.pat_shape : ∀ st t, Faf.l5_0.pat st = some t → st = Faf.l5_0.shape t := fun _ _ h => by unfold Faf.l5_0.pat at h; split at h <;> cases h; rfl
def Faf.l5_0.k0 : Int → LA → LA → Ex × St := (fun a0 a1 a2 => ((.ret, (St.mk [(.own 0 6), (.int .u16 a0), (.own 1 6)] [(some (.objs 69 6 a1)), (some (.objs 69 6 a2))])) : Ex × St))
def Faf.l5_0.k1 : LA → Ex × St := (fun a0 => (((.exit 0), (St.mk [.any, .any, (.own 0 6)] [(some (.objs 69 6 a0))])) : Ex × St))
theorem Faf.l5_0.round (n : Nat) (rc : St → Option (Ex × St)) (x0 : Int) (x1 : Int) (x2 : LA) (x3 : LI) (x4 : LA) : Faf.R0 n rc ((St.mk [(.int .i64 x0), (.int .i64 x1), (.robjs 4 1 x2), (.rints .u8 x3), (.own 0 6)] [(some (.objs 69 6 x4))])) = Faf.l5_0.r Faf.l5_0.k0 Faf.l5_0.k1 n (fun y0 y1 y2 y3 y4 => rc ((St.mk [(.int .i64 y0), (.int .i64 y1), (.robjs 4 1 y2), (.rints .u8 y3), (.own 0 6)] [(some (.objs 69 6 y4))]))) x0 x1 x2 x3 x4 := by kernel_rfl
theorem Faf.l5_0.loop' (n : Nat) : ∀ (m : Nat) (t : (Int × (Int × (LA × (LI × LA))))), loopOf (Faf.R0 n) m (Faf.l5_0.shape t) = Faf.l5_0.g Faf.l5_0.k0 Faf.l5_0.k1 n m t.1 t.2.1 t.2.2.1 t.2.2.2.1 t.2.2.2.2 :=
  loop_of_round (shape := Faf.l5_0.shape) (body := Faf.R0 n) (g := fun m t => Faf.l5_0.g Faf.l5_0.k0 Faf.l5_0.k1 n m t.1 t.2.1 t.2.2.1 t.2.2.2.1 t.2.2.2.2) (fun t => rfl)
    fun m t ih => (Faf.l5_0.round n (loopOf (Faf.R0 n) m) t.1 t.2.1 t.2.2.1 t.2.2.2.1 t.2.2.2.2).trans (congrFun (congrFun (congrFun (congrFun (congrFun (congrArg (Faf.l5_0.r Faf.l5_0.k0 Faf.l5_0.k1 n) (funext fun y0 => funext fun y1 => funext fun y2 => funext fun y3 => funext fun y4 => ih (y0, y1, y2, y3, y4))) t.1) t.2.1) t.2.2.1) t.2.2.2.1) t.2.2.2.2)
theorem Faf.l5_0.loop (n m : Nat) (t : (Int × (Int × (LA × (LI × LA))))) : loopOf (Faf.R0 n) m (Faf.l5_0.shape t) = (Faf.l5_0.m n m t).map Faf.l5_0.res :=
  (Faf.l5_0.loop' n m t).trans (Faf.l5_0.gmap Faf.l5_0.res (fun a0 a1 a2 => (.inl (a0, a1, a2))) (fun a0 => (.inr a0)) n m t.1 t.2.1 t.2.2.1 t.2.2.2.1 t.2.2.2.2)
theorem Faf.gmap {α β : Type} (h : β → α) (mk0 : Int → LA → β) (n : Nat) (a0 : LA) (a1 : LI) : Faf.g (fun a0 a1 => (h (mk0 a0 a1))) n a0 a1 = (Faf.g mk0 n a0 a1).map h := by
  unfold Faf.g
  exact (ite_map rfl (bindO_map fun r4 => match r4 with | (.inl r4) => rfl | (.inr r4) => rfl))
theorem Faf.run (n : Nat) (a0 : LA) (a1 : LI) : runF (Faf.C n) (Faf.A n) n Tryd.f53 [(.robjs 4 1 a0), (.rints .u8 a1)] [] (fun v o => some (v, o)) = Faf.g (fun a0 a1 => (((.tup [(.own 0 6), (.int .u16 a0)]), [(some (.objs 69 6 a1))]) : AV × Blks)) n a0 a1 := by kernel_rfl
theorem Faf.call (hmix : Tryd.prog.follows .mixedOrders = true) (n : Nat) (t : (LA × LI)) (u) (h : Faf.m n t = some u) : FnC Tryd.prog abiG 53 (Faf.shape t).1 (Faf.shape t).2 (Faf.res u).1 (Faf.res u).2 :=
  fnC1 (C := Faf.C n) (A := Faf.A n) (fn := Tryd.f53) rfl (.cons (Fbd.s hmix n) (.cons (Faa.s hmix n) (.cons (Fbk.s hmix n) .nil))) hmix Tryd.func53 (by kernel_rfl) (lp := [Faf.b0]) (by kernel_rfl) (.cons (show (Faf.A n).loop (key Faf.b0) = some (.mk' Faf.l5_0.pat (Faf.l5_0.m n n) Faf.l5_0.resK) by kernel_rfl) (LoopS.of (res := Faf.l5_0.res) (fun R u K => by rcases u with u | u <;> rfl) Faf.l5_0.pat_shape fun t => Faf.l5_0.loop n n t)
  .nil)
  (nj rfl) (by decide) rfl rfl (by show 2 ≤ Tryd.f53.ntmps; decide) (Faf.run n t.1 t.2) (Faf.gmap Faf.res (fun a0 a1 => (a0, a1)) n t.1 t.2) h
theorem Faf.s (hmix : Tryd.prog.follows .mixedOrders = true) (n : Nat) : CalleeS Tryd.prog abiG 53 (Faf.c n) :=
  .mk1 (res := Faf.res) (shape := Faf.shape) (fun R u K => rfl) (fun _ _ _ h => by unfold Faf.pat at h; split at h <;> cases h; rfl) (fun t u h => Faf.call hmix n t u h) Tryd.func53 (by decide) (by kernel_rfl)
end
section
theorem abi_Decode.s (hmix : Tryd.prog.follows .mixedOrders = true) (n : Nat) : CalleeS Tryd.prog abiG 53 (abi_Decode.c n) := .pick (Fab.s hmix n) (.pick (Fac.s hmix n) (.pick (Fad.s hmix n) (.pick (Fae.s hmix n) (Faf.s hmix n))))
end
section
noncomputable section
noncomputable def Fo.C (n : Nat) : Ctx := ⟨Tryd.prog, abiG, lookC [(19, Fn.c n)], fun _ => false⟩
def Fo.live : NL := fun k => match k with
 | 4 => ([5, 0, 1], [4])
 | _ => ([], [])
def Fo.l4_0.r {α : Type} (mk0 : Bool → α) (mk1 : α) (n : Nat) (rc : Int → LA → LA → Option α)  (x0 : Int) (x1 : LA) (x2 : LA) : Option α :=
  if (decide (x0 < (((List.length x1) : Nat) : Int))) = true then
   if 0 ≤ x0 then
    if x0 < (((List.length x1) : Nat) : Int) then
     bindO (tkAgg 3 (List.getD x1 (Int.toNat x0) AV.any)) fun r10 =>
      bindO (tkBool (List.getD r10 0 AV.any)) fun r12 =>
       bindO (tkInts .u64 4 (List.getD r10 1 AV.any)) fun r14 =>
        bindO (tkRints .u8 (List.getD r10 2 AV.any)) fun r16 =>
         if 0 ≤ x0 then
          if x0 < (((List.length x2) : Nat) : Int) then
           bindO (tkAgg 3 (List.getD x2 (Int.toNat x0) AV.any)) fun r22 =>
            bindO (tkBool (List.getD r22 0 AV.any)) fun r24 =>
             bindO (tkInts .u64 4 (List.getD r22 1 AV.any)) fun r26 =>
              bindO (tkRints .u8 (List.getD r22 2 AV.any)) fun r28 =>
               if (!(r12 == r24)) = true then
                some (mk0 false)
               else
                if 0 ≤ x0 then
                 if x0 < (((List.length x1) : Nat) : Int) then
                  bindO (tkAgg 3 (List.getD x1 (Int.toNat x0) AV.any)) fun r36 =>
                   bindO (tkBool (List.getD r36 0 AV.any)) fun r38 =>
                    bindO (tkInts .u64 4 (List.getD r36 1 AV.any)) fun r40 =>
                     bindO (tkRints .u8 (List.getD r36 2 AV.any)) fun r42 =>
                      if 0 ≤ x0 then
                       if x0 < (((List.length x2) : Nat) : Int) then
                        bindO (tkAgg 3 (List.getD x2 (Int.toNat x0) AV.any)) fun r48 =>
                         bindO (tkBool (List.getD r48 0 AV.any)) fun r50 =>
                          bindO (tkInts .u64 4 (List.getD r48 1 AV.any)) fun r52 =>
                           bindO (tkRints .u8 (List.getD r48 2 AV.any)) fun r54 =>
                            if (!(r40 == r52)) = true then
                             some (mk0 false)
                            else
                             if 0 ≤ x0 then
                              if x0 < (((List.length x1) : Nat) : Int) then
                               bindO (tkAgg 3 (List.getD x1 (Int.toNat x0) AV.any)) fun r62 =>
                                bindO (tkBool (List.getD r62 0 AV.any)) fun r64 =>
                                 bindO (tkInts .u64 4 (List.getD r62 1 AV.any)) fun r66 =>
                                  bindO (tkRints .u8 (List.getD r62 2 AV.any)) fun r68 =>
                                   if 0 ≤ x0 then
                                    if x0 < (((List.length x2) : Nat) : Int) then
                                     bindO (tkAgg 3 (List.getD x2 (Int.toNat x0) AV.any)) fun r74 =>
                                      bindO (tkBool (List.getD r74 0 AV.any)) fun r76 =>
                                       bindO (tkInts .u64 4 (List.getD r74 1 AV.any)) fun r78 =>
                                        bindO (tkRints .u8 (List.getD r74 2 AV.any)) fun r80 =>
                                         bindO (Fn.m n (r68, r80)) fun r82 =>
                                          if (!r82) = true then
                                           some (mk0 false)
                                          else
                                           rc (IntKind.wrap .i64 (x0 + 1)) x1 x2
                                    else
                                     none
                                   else
                                    none
                              else
                               none
                             else
                              none
                       else
                        none
                      else
                       none
                 else
                  none
                else
                 none
          else
           none
         else
          none
    else
     none
   else
    none
  else
   some (mk1)
def Fo.l4_0.g {α : Type} (mk0 : Bool → α) (mk1 : α) (n : Nat) : Nat → Int → LA → LA → Option α
 | 0, _, _, _ => none
 | m + 1, x0, x1, x2 => Fo.l4_0.r mk0 mk1 n (fun y0 y1 y2 => Fo.l4_0.g mk0 mk1 n m y0 y1 y2)  x0 x1 x2
def Fo.l4_0.m (n m : Nat) (t : (Int × (LA × LA))) : Option (Bool ⊕ Unit) := Fo.l4_0.g (fun a0 => (.inl a0)) (.inr ()) n m t.1 t.2.1 t.2.2
def Fo.l4_0.pat : St → Option (Int × (LA × LA))
 | (St.mk [(.int .i64 x0), (.robjs 69 6 x1), (.robjs 69 6 x2)] []) => some (x0, x1, x2)
 | _ => none
def Fo.l4_0.shape (t : (Int × (LA × LA))) : St := (St.mk [(.int .i64 t.1), (.robjs 69 6 t.2.1), (.robjs 69 6 t.2.2)] [])
def Fo.l4_0.res : (Bool ⊕ Unit) → Ex × St
 | (.inl u) => (.ret, (St.mk [(.bool u)] []))
 | (.inr u) => ((.exit 0), (St.mk [.any] []))
def Fo.l4_0.resK {R : Type} (u : (Bool ⊕ Unit)) (K : Ex → St → Option R) : Option R := match u with
 | (.inl u) => (fun p : Ex × St => K p.1 p.2) (.ret, (St.mk [(.bool u)] []))
 | (.inr u) => (fun p : Ex × St => K p.1 p.2) ((.exit 0), (St.mk [.any] []))
noncomputable def Fo.A (n : Nat) : Ann := ⟨Tryd.f37.ntmps, 0, Fo.live, [(0, (.objs 69 6)), (1, (.objs 69 6))], [none], fun k => match k with
 | 4 => some (.mk' Fo.l4_0.pat (Fo.l4_0.m n n) Fo.l4_0.resK)
 | _ => none, noNL, lookJ []⟩
noncomputable def Fo.b0 : Code := (loopsIn (Tryd.f37.body.getD .skip)).getD 0 .skip
def Fo.g {α : Type} (mk0 : Bool → α) (n : Nat) (a0 : LA) (a1 : LA) : Option α :=
 if ((((List.length a0) : Nat) : Int) != (((List.length a1) : Nat) : Int)) = true then
  some (mk0 false)
 else
  bindO (Fo.l4_0.m n n (0, a0, a1)) fun r4 => match r4 with
   | (.inl r4) =>
    some (mk0 r4)
   | (.inr r4) =>
    some (mk0 true)
def Fo.m (n : Nat) (t : (LA × LA)) : Option Bool := Fo.g (fun a0 => a0) n t.1 t.2
def Fo.pat : List AV → Blks → Option (LA × LA)
 | [(.robjs 69 6 a0), (.robjs 69 6 a1)], [] => some (a0, a1)
 | _, _ => none
def Fo.shape (t : (LA × LA)) : List AV × Blks := ([(.robjs 69 6 t.1), (.robjs 69 6 t.2)], [])
def Fo.res : Bool → AV × Blks
 | u => ((.bool u), [])
def Fo.resK {R : Type} (u : Bool) (K : AV → Blks → Option R) : Option R := K (Fo.res u).1 (Fo.res u).2
def Fo.c (n : Nat) : Abs.Callee := .mk' [] [(some (.objs 69 6)), (some (.objs 69 6))] Fo.pat (Fo.m n) Fo.resK
end
end
section
noncomputable abbrev Fo.R0 (n : Nat) := roundOf (Fo.C n) (Fo.A n) n Fo.b0
theorem Fo.l4_0.rmap {α β : Type} (h : β → α) (mk0 : Bool → β) (mk1 : β) (n : Nat) (f : Int → LA → LA → Option β)  (x0 : Int) (x1 : LA) (x2 : LA) : Fo.l4_0.r (fun a0 => (h (mk0 a0))) (h mk1) n (fun y0 y1 y2 => (f y0 y1 y2).map h) x0 x1 x2 = (Fo.l4_0.r mk0 mk1 n f x0 x1 x2).map h := by
  unfold Fo.l4_0.r
  exact (ite_map (ite_map (ite_map (bindO_map fun r10 => (bindO_map fun r12 => (bindO_map fun r14 => (bindO_map fun r16 => (ite_map (ite_map (bindO_map fun r22 => (bindO_map fun r24 => (bindO_map fun r26 => (bindO_map fun r28 => (ite_map rfl (ite_map (ite_map (bindO_map fun r36 => (bindO_map fun r38 => (bindO_map fun r40 => (bindO_map fun r42 => (ite_map (ite_map (bindO_map fun r48 => (bindO_map fun r50 => (bindO_map fun r52 => (bindO_map fun r54 => (ite_map rfl (ite_map (ite_map (bindO_map fun r62 => (bindO_map fun r64 => (bindO_map fun r66 => (bindO_map fun r68 => (ite_map (ite_map (bindO_map fun r74 => (bindO_map fun r76 => (bindO_map fun r78 => (bindO_map fun r80 => (bindO_map fun r82 => (ite_map rfl rfl)))))) rfl) rfl))))) rfl) rfl)))))) rfl) rfl))))) rfl) rfl)))))) rfl) rfl))))) rfl) rfl) rfl)
theorem Fo.l4_0.gmap {α β : Type} (h : β → α) (mk0 : Bool → β) (mk1 : β) (n : Nat) : ∀ (m : Nat) (x0 : Int) (x1 : LA) (x2 : LA), Fo.l4_0.g (fun a0 => (h (mk0 a0))) (h mk1) n m x0 x1 x2 = (Fo.l4_0.g mk0 mk1 n m x0 x1 x2).map h
  | 0, _, _, _ => rfl
  | m + 1, x0, x1, x2 => by
    unfold Fo.l4_0.g
    rw [← Fo.l4_0.rmap]
    congr
    · funext y0 y1 y2; exact Fo.l4_0.gmap h mk0 mk1 n m y0 y1 y2
theorem Fo.l4_0.pat_shape : ∀ st t, Fo.l4_0.pat st = some t → st = Fo.l4_0.shape t := fun _ _ h => by unfold Fo.l4_0.pat at h; split at h <;> cases h; rfl
def Fo.l4_0.k0 : Bool → Ex × St := (fun a0 => ((.ret, (St.mk [(.bool a0)] [])) : Ex × St))
def Fo.l4_0.k1 : Ex × St := (((.exit 0), (St.mk [.any] [])) : Ex × St)
theorem Fo.l4_0.round (n : Nat) (rc : St → Option (Ex × St)) (x0 : Int) (x1 : LA) (x2 : LA) : Fo.R0 n rc ((St.mk [(.int .i64 x0), (.robjs 69 6 x1), (.robjs 69 6 x2)] [])) = Fo.l4_0.r Fo.l4_0.k0 Fo.l4_0.k1 n (fun y0 y1 y2 => rc ((St.mk [(.int .i64 y0), (.robjs 69 6 y1), (.robjs 69 6 y2)] []))) x0 x1 x2 := by kernel_rfl
theorem Fo.l4_0.loop' (n : Nat) : ∀ (m : Nat) (t : (Int × (LA × LA))), loopOf (Fo.R0 n) m (Fo.l4_0.shape t) = Fo.l4_0.g Fo.l4_0.k0 Fo.l4_0.k1 n m t.1 t.2.1 t.2.2 :=
  loop_of_round (shape := Fo.l4_0.shape) (body := Fo.R0 n) (g := fun m t => Fo.l4_0.g Fo.l4_0.k0 Fo.l4_0.k1 n m t.1 t.2.1 t.2.2) (fun t => rfl)
    fun m t ih => (Fo.l4_0.round n (loopOf (Fo.R0 n) m) t.1 t.2.1 t.2.2).trans (congrFun (congrFun (congrFun (congrArg (Fo.l4_0.r Fo.l4_0.k0 Fo.l4_0.k1 n) (funext fun y0 => funext fun y1 => funext fun y2 => ih (y0, y1, y2))) t.1) t.2.1) t.2.2)
theorem Fo.l4_0.loop (n m : Nat) (t : (Int × (LA × LA))) : loopOf (Fo.R0 n) m (Fo.l4_0.shape t) = (Fo.l4_0.m n m t).map Fo.l4_0.res :=
  (Fo.l4_0.loop' n m t).trans (Fo.l4_0.gmap Fo.l4_0.res (fun a0 => (.inl a0)) (.inr ()) n m t.1 t.2.1 t.2.2)
theorem Fo.gmap {α β : Type} (h : β → α) (mk0 : Bool → β) (n : Nat) (a0 : LA) (a1 : LA) : Fo.g (fun a0 => (h (mk0 a0))) n a0 a1 = (Fo.g mk0 n a0 a1).map h := by
  unfold Fo.g
  exact (ite_map rfl (bindO_map fun r4 => match r4 with | (.inl r4) => rfl | (.inr r4) => rfl))
theorem Fo.run (n : Nat) (a0 : LA) (a1 : LA) : runF (Fo.C n) (Fo.A n) n Tryd.f37 [(.robjs 69 6 a0), (.robjs 69 6 a1)] [] (fun v o => some (v, o)) = Fo.g (fun a0 => (((.bool a0), []) : AV × Blks)) n a0 a1 := by kernel_rfl
theorem Fo.call (hmix : Tryd.prog.follows .mixedOrders = true) (n : Nat) (t : (LA × LA)) (u) (h : Fo.m n t = some u) : FnC Tryd.prog abiG 37 (Fo.shape t).1 (Fo.shape t).2 (Fo.res u).1 (Fo.res u).2 :=
  fnC1 (C := Fo.C n) (A := Fo.A n) (fn := Tryd.f37) rfl (.cons (Fn.s hmix n) .nil) hmix Tryd.func37 (by kernel_rfl) (lp := [Fo.b0]) (by kernel_rfl) (.cons (show (Fo.A n).loop (key Fo.b0) = some (.mk' Fo.l4_0.pat (Fo.l4_0.m n n) Fo.l4_0.resK) by kernel_rfl) (LoopS.of (res := Fo.l4_0.res) (fun R u K => by rcases u with u | u <;> rfl) Fo.l4_0.pat_shape fun t => Fo.l4_0.loop n n t)
  .nil)
  (nj rfl) (by decide) rfl rfl (by show 2 ≤ Tryd.f37.ntmps; decide) (Fo.run n t.1 t.2) (Fo.gmap Fo.res (fun a0 => a0) n t.1 t.2) h
theorem Fo.s (hmix : Tryd.prog.follows .mixedOrders = true) (n : Nat) : CalleeS Tryd.prog abiG 37 (Fo.c n) :=
  .mk1 (res := Fo.res) (shape := Fo.shape) (fun R u K => rfl) (fun _ _ _ h => by unfold Fo.pat at h; split at h <;> cases h; rfl) (fun t u h => Fo.call hmix n t u h) Tryd.func37 (by decide) (by kernel_rfl)
end
section
noncomputable section
noncomputable def Fd.C (n : Nat) : Ctx := ⟨Tryd.prog, abiG, lookC [], fun _ => false⟩
noncomputable def Fd.A (n : Nat) : Ann := ⟨Tryd.f117.ntmps, 0, noNL, [], [(some (.ints .u8))], fun k => match k with
 | _ => none, noNL, lookJ []⟩
def Fd.g {α : Type} (mk0 : LI → α) (n : Nat) (sz : Int) : Option α :=
 if (decide (sz < 0)) = true then
  none
 else
  if (decide ((IntKind.wrap .i64 (sz - 0)) > 0)) = true then
   if 0 ≤ (IntKind.wrap .i64 (sz - 0)) then
    if (((List.length (List.replicate (Int.toNat (IntKind.wrap .i64 (sz - 0))) (0 : Int))) * 1) ≤ 70368744177664 ∧ (List.length (List.replicate (Int.toNat (IntKind.wrap .i64 (sz - 0))) (0 : Int))) ≤ 9223372036854775807) then
     some (mk0 [])
    else
     none
   else
    none
  else
   some (mk0 [])
def Fd.m (n : Nat) (t : Int) : Option LI := Fd.g (fun a0 => a0) n t
def Fd.pat : List AV → Blks → Option Int
 | [.snil, (.int .i64 sz)], [] => some sz
 | _, _ => none
def Fd.shape (t : Int) : List AV × Blks := ([.snil, (.int .i64 t)], [])
def Fd.res : LI → AV × Blks
 | u => ((.own 0 1), [(some (.ints .u8 u))])
def Fd.resK {R : Type} (u : LI) (K : AV → Blks → Option R) : Option R := K (Fd.res u).1 (Fd.res u).2
def Fd.c (n : Nat) : Abs.Callee := .mk' [] [none, none] Fd.pat (Fd.m n) Fd.resK
end
end
section
noncomputable section
noncomputable def Fa.C (n : Nat) : Ctx := ⟨Tryd.prog, abiG, lookC [(117, Fd.c n)], fun _ => false⟩
def Fa.live : NL := fun k => match k with
 | 3 => ([11, 10, 9, 3, 0], [3, 0])
 | 11 => ([27, 26, 25, 6], [6])
 | _ => ([], [])
def Fa.l3_0.r {α : Type} (mk0 : Int → LA → α) (n : Nat) (rc : Int → Int → LA → Int → LA → Option α)  (x0 : Int) (x1 : Int) (x2 : LA) (x3 : Int) (x4 : LA) : Option α :=
  if (decide (x0 < x1)) = true then
   if 0 ≤ x0 then
    if x0 < (((List.length x2) : Nat) : Int) then
     bindO (tkRints .u8 (List.getD x2 (Int.toNat x0) AV.any)) fun r10 =>
      if (decide ((IntKind.wrap .i64 (x3 + (((List.length r10) : Nat) : Int))) < 0)) = true then
       none
      else
       rc (IntKind.wrap .i64 (x0 + 1)) x1 x2 (IntKind.wrap .i64 (x3 + (((List.length r10) : Nat) : Int))) x4
    else
     none
   else
    none
  else
   some (mk0 x3 x4)
def Fa.l3_0.g {α : Type} (mk0 : Int → LA → α) (n : Nat) : Nat → Int → Int → LA → Int → LA → Option α
 | 0, _, _, _, _, _ => none
 | m + 1, x0, x1, x2, x3, x4 => Fa.l3_0.r mk0 n (fun y0 y1 y2 y3 y4 => Fa.l3_0.g mk0 n m y0 y1 y2 y3 y4)  x0 x1 x2 x3 x4
def Fa.l3_0.m (n m : Nat) (t : (Int × (Int × (LA × (Int × LA))))) : Option (Int × LA) := Fa.l3_0.g (fun a0 a1 => (a0, a1)) n m t.1 t.2.1 t.2.2.1 t.2.2.2.1 t.2.2.2.2
def Fa.l3_0.pat : St → Option (Int × (Int × (LA × (Int × LA))))
 | (St.mk [(.int .i64 x0), (.int .i64 x1), (.robjs 26 1 x2), (.int .i64 x3), (.robjs 26 1 x4)] []) => some (x0, x1, x2, x3, x4)
 | _ => none
def Fa.l3_0.shape (t : (Int × (Int × (LA × (Int × LA))))) : St := (St.mk [(.int .i64 t.1), (.int .i64 t.2.1), (.robjs 26 1 t.2.2.1), (.int .i64 t.2.2.2.1), (.robjs 26 1 t.2.2.2.2)] [])
def Fa.l3_0.res : (Int × LA) → Ex × St
 | u => ((.exit 0), (St.mk [(.int .i64 u.1), (.robjs 26 1 u.2)] []))
def Fa.l3_0.resK {R : Type} (u : (Int × LA)) (K : Ex → St → Option R) : Option R := K (Fa.l3_0.res u).1 (Fa.l3_0.res u).2
def Fa.l11_0.r {α : Type} (mk0 : LI → α) (n : Nat) (rc : Int → Int → LA → LI → Option α)  (x0 : Int) (x1 : Int) (x2 : LA) (x3 : LI) : Option α :=
  if (decide (x0 < x1)) = true then
   if 0 ≤ x0 then
    if x0 < (((List.length x2) : Nat) : Int) then
     bindO (tkRints .u8 (List.getD x2 (Int.toNat x0) AV.any)) fun r10 =>
      if ((((List.length x3) + (List.length r10)) * 1) ≤ 70368744177664 ∧ ((List.length x3) + (List.length r10)) ≤ 9223372036854775807) then
       rc (IntKind.wrap .i64 (x0 + 1)) x1 x2 (x3 ++ r10)
      else
       none
    else
     none
   else
    none
  else
   some (mk0 x3)
def Fa.l11_0.g {α : Type} (mk0 : LI → α) (n : Nat) : Nat → Int → Int → LA → LI → Option α
 | 0, _, _, _, _ => none
 | m + 1, x0, x1, x2, x3 => Fa.l11_0.r mk0 n (fun y0 y1 y2 y3 => Fa.l11_0.g mk0 n m y0 y1 y2 y3)  x0 x1 x2 x3
def Fa.l11_0.m (n m : Nat) (t : (Int × (Int × (LA × LI)))) : Option LI := Fa.l11_0.g (fun a0 => a0) n m t.1 t.2.1 t.2.2.1 t.2.2.2
def Fa.l11_0.pat : St → Option (Int × (Int × (LA × LI)))
 | (St.mk [(.int .i64 x0), (.int .i64 x1), (.robjs 26 1 x2), (.own 0 1)] [(some (.ints .u8 x3))]) => some (x0, x1, x2, x3)
 | _ => none
def Fa.l11_0.shape (t : (Int × (Int × (LA × LI)))) : St := (St.mk [(.int .i64 t.1), (.int .i64 t.2.1), (.robjs 26 1 t.2.2.1), (.own 0 1)] [(some (.ints .u8 t.2.2.2))])
def Fa.l11_0.res : LI → Ex × St
 | u => ((.exit 2), (St.mk [(.own 0 1)] [(some (.ints .u8 u))]))
def Fa.l11_0.resK {R : Type} (u : LI) (K : Ex → St → Option R) : Option R := K (Fa.l11_0.res u).1 (Fa.l11_0.res u).2
noncomputable def Fa.A (n : Nat) : Ann := ⟨Tryd.f99.ntmps, 0, Fa.live, [(0, (.objs 26 1)), (9, (.objs 26 1)), (25, (.objs 26 1)), (6, (.ints .u8))], [(some (.ints .u8))], fun k => match k with
 | 3 => some (.mk' Fa.l3_0.pat (Fa.l3_0.m n n) Fa.l3_0.resK)
 | 11 => some (.mk' Fa.l11_0.pat (Fa.l11_0.m n n) Fa.l11_0.resK)
 | _ => none, noNL, lookJ []⟩
noncomputable def Fa.b0 : Code := (loopsIn (Tryd.f99.body.getD .skip)).getD 0 .skip
noncomputable def Fa.b1 : Code := (loopsIn (Tryd.f99.body.getD .skip)).getD 1 .skip
def Fa.g {α : Type} (mk0 : LI → α) (n : Nat) (a0 : LA) : Option α :=
 bindO (Fa.l3_0.m n n (0, (((List.length a0) : Nat) : Int), a0, 0, a0)) fun r2 =>
  bindO (Fd.m n r2.1) fun r4 =>
   bindO (Fa.l11_0.m n n (0, (((List.length r2.2) : Nat) : Int), r2.2, r4)) fun r6 =>
    some (mk0 r6)
def Fa.m (n : Nat) (t : LA) : Option LI := Fa.g (fun a0 => a0) n t
def Fa.pat : List AV → Blks → Option LA
 | [(.robjs 26 1 a0)], [] => some a0
 | _, _ => none
def Fa.shape (t : LA) : List AV × Blks := ([(.robjs 26 1 t)], [])
def Fa.res : LI → AV × Blks
 | u => ((.own 0 1), [(some (.ints .u8 u))])
def Fa.resK {R : Type} (u : LI) (K : AV → Blks → Option R) : Option R := K (Fa.res u).1 (Fa.res u).2
def Fa.c (n : Nat) : Abs.Callee := .mk' [] [(some (.objs 26 1))] Fa.pat (Fa.m n) Fa.resK
end
end
section
theorem Fd.gmap {α β : Type} (h : β → α) (mk0 : LI → β) (n : Nat) (sz : Int) : Fd.g (fun a0 => (h (mk0 a0))) n sz = (Fd.g mk0 n sz).map h := by
  unfold Fd.g
  exact (ite_map rfl (ite_map (ite_map (ite_map rfl rfl) rfl) rfl))
theorem Fd.run (n : Nat) (sz : Int) : runF (Fd.C n) (Fd.A n) n Tryd.f117 [.snil, (.int .i64 sz)] [] (fun v o => some (v, o)) = Fd.g (fun a0 => (((.own 0 1), [(some (.ints .u8 a0))]) : AV × Blks)) n sz := by kernel_rfl
theorem Fd.call (hmix : Tryd.prog.follows .mixedOrders = true) (n : Nat) (t : Int) (u) (h : Fd.m n t = some u) : FnC Tryd.prog abiG 117 (Fd.shape t).1 (Fd.shape t).2 (Fd.res u).1 (Fd.res u).2 :=
  fnC1 (C := Fd.C n) (A := Fd.A n) (fn := Tryd.f117) rfl .nil hmix Tryd.func117 (by kernel_rfl) (lp := []) (by kernel_rfl) .nil
  (nj rfl) (by decide) rfl rfl (by show 2 ≤ Tryd.f117.ntmps; decide) (Fd.run n t) (Fd.gmap Fd.res (fun a0 => a0) n t) h
theorem Fd.s (hmix : Tryd.prog.follows .mixedOrders = true) (n : Nat) : CalleeS Tryd.prog abiG 117 (Fd.c n) :=
  .mk1 (res := Fd.res) (shape := Fd.shape) (fun R u K => rfl) (fun _ _ _ h => by unfold Fd.pat at h; split at h <;> cases h; rfl) (fun t u h => Fd.call hmix n t u h) Tryd.func117 (by decide) (by kernel_rfl)
end
section
noncomputable abbrev Fa.R0 (n : Nat) := roundOf (Fa.C n) (Fa.A n) n Fa.b0
noncomputable abbrev Fa.R1 (n : Nat) := roundOf (Fa.C n) (Fa.A n) n Fa.b1
theorem Fa.l3_0.rmap {α β : Type} (h : β → α) (mk0 : Int → LA → β) (n : Nat) (f : Int → Int → LA → Int → LA → Option β)  (x0 : Int) (x1 : Int) (x2 : LA) (x3 : Int) (x4 : LA) : Fa.l3_0.r (fun a0 a1 => (h (mk0 a0 a1))) n (fun y0 y1 y2 y3 y4 => (f y0 y1 y2 y3 y4).map h) x0 x1 x2 x3 x4 = (Fa.l3_0.r mk0 n f x0 x1 x2 x3 x4).map h := by
  unfold Fa.l3_0.r
  exact (ite_map (ite_map (ite_map (bindO_map fun r10 => (ite_map rfl rfl)) rfl) rfl) rfl)
theorem Fa.l3_0.gmap {α β : Type} (h : β → α) (mk0 : Int → LA → β) (n : Nat) : ∀ (m : Nat) (x0 : Int) (x1 : Int) (x2 : LA) (x3 : Int) (x4 : LA), Fa.l3_0.g (fun a0 a1 => (h (mk0 a0 a1))) n m x0 x1 x2 x3 x4 = (Fa.l3_0.g mk0 n m x0 x1 x2 x3 x4).map h
  | 0, _, _, _, _, _ => rfl
  | m + 1, x0, x1, x2, x3, x4 => by
    unfold Fa.l3_0.g
    rw [← Fa.l3_0.rmap]
    congr
    · funext y0 y1 y2 y3 y4; exact Fa.l3_0.gmap h mk0 n m y0 y1 y2 y3 y4
theorem Fa.l3_0.pat_shape : ∀ st t, Fa.l3_0.pat st = some t → st = Fa.l3_0.shape t := fun _ _ h => by unfold Fa.l3_0.pat at h; split at h <;> cases h; rfl
def Fa.l3_0.k0 : Int → LA → Ex × St := (fun a0 a1 => (((.exit 0), (St.mk [(.int .i64 a0), (.robjs 26 1 a1)] [])) : Ex × St))
theorem Fa.l3_0.round (n : Nat) (rc : St → Option (Ex × St)) (x0 : Int) (x1 : Int) (x2 : LA) (x3 : Int) (x4 : LA) : Fa.R0 n rc ((St.mk [(.int .i64 x0), (.int .i64 x1), (.robjs 26 1 x2), (.int .i64 x3), (.robjs 26 1 x4)] [])) = Fa.l3_0.r Fa.l3_0.k0 n (fun y0 y1 y2 y3 y4 => rc ((St.mk [(.int .i64 y0), (.int .i64 y1), (.robjs 26 1 y2), (.int .i64 y3), (.robjs 26 1 y4)] []))) x0 x1 x2 x3 x4 := by kernel_rfl
theorem Fa.l3_0.loop' (n : Nat) : ∀ (m : Nat) (t : (Int × (Int × (LA × (Int × LA))))), loopOf (Fa.R0 n) m (Fa.l3_0.shape t) = Fa.l3_0.g Fa.l3_0.k0 n m t.1 t.2.1 t.2.2.1 t.2.2.2.1 t.2.2.2.2 :=
  loop_of_round (shape := Fa.l3_0.shape) (body := Fa.R0 n) (g := fun m t => Fa.l3_0.g Fa.l3_0.k0 n m t.1 t.2.1 t.2.2.1 t.2.2.2.1 t.2.2.2.2) (fun t => rfl)
    fun m t ih => (Fa.l3_0.round n (loopOf (Fa.R0 n) m) t.1 t.2.1 t.2.2.1 t.2.2.2.1 t.2.2.2.2).trans (congrFun (congrFun (congrFun (congrFun (congrFun (congrArg (Fa.l3_0.r Fa.l3_0.k0 n) (funext fun y0 => funext fun y1 => funext fun y2 => funext fun y3 => funext fun y4 => ih (y0, y1, y2, y3, y4))) t.1) t.2.1) t.2.2.1) t.2.2.2.1) t.2.2.2.2)
theorem Fa.l3_0.loop (n m : Nat) (t : (Int × (Int × (LA × (Int × LA))))) : loopOf (Fa.R0 n) m (Fa.l3_0.shape t) = (Fa.l3_0.m n m t).map Fa.l3_0.res :=
  (Fa.l3_0.loop' n m t).trans (Fa.l3_0.gmap Fa.l3_0.res (fun a0 a1 => (a0, a1)) n m t.1 t.2.1 t.2.2.1 t.2.2.2.1 t.2.2.2.2)
theorem Fa.l11_0.rmap {α β : Type} (h : β → α) (mk0 : LI → β) (n : Nat) (f : Int → Int → LA → LI → Option β)  (x0 : Int) (x1 : Int) (x2 : LA) (x3 : LI) : Fa.l11_0.r (fun a0 => (h (mk0 a0))) n (fun y0 y1 y2 y3 => (f y0 y1 y2 y3).map h) x0 x1 x2 x3 = (Fa.l11_0.r mk0 n f x0 x1 x2 x3).map h := by
  unfold Fa.l11_0.r
  exact (ite_map (ite_map (ite_map (bindO_map fun r10 => (ite_map rfl rfl)) rfl) rfl) rfl)
theorem Fa.l11_0.gmap {α β : Type} (h : β → α) (mk0 : LI → β) (n : Nat) : ∀ (m : Nat) (x0 : Int) (x1 : Int) (x2 : LA) (x3 : LI), Fa.l11_0.g (fun a0 => (h (mk0 a0))) n m x0 x1 x2 x3 = (Fa.l11_0.g mk0 n m x0 x1 x2 x3).map h
  | 0, _, _, _, _ => rfl
  | m + 1, x0, x1, x2, x3 => by
    unfold Fa.l11_0.g
    rw [← Fa.l11_0.rmap]
    congr
    · funext y0 y1 y2 y3; exact Fa.l11_0.gmap h mk0 n m y0 y1 y2 y3
theorem Fa.l11_0.pat_shape : ∀ st t, Fa.l11_0.pat st = some t → st = Fa.l11_0.shape t := fun _ _ h => by unfold Fa.l11_0.pat at h; split at h <;> cases h; rfl
def Fa.l11_0.k0 : LI → Ex × St := (fun a0 => (((.exit 2), (St.mk [(.own 0 1)] [(some (.ints .u8 a0))])) : Ex × St))
theorem Fa.l11_0.round (n : Nat) (rc : St → Option (Ex × St)) (x0 : Int) (x1 : Int) (x2 : LA) (x3 : LI) : Fa.R1 n rc ((St.mk [(.int .i64 x0), (.int .i64 x1), (.robjs 26 1 x2), (.own 0 1)] [(some (.ints .u8 x3))])) = Fa.l11_0.r Fa.l11_0.k0 n (fun y0 y1 y2 y3 => rc ((St.mk [(.int .i64 y0), (.int .i64 y1), (.robjs 26 1 y2), (.own 0 1)] [(some (.ints .u8 y3))]))) x0 x1 x2 x3 := by kernel_rfl
theorem Fa.l11_0.loop' (n : Nat) : ∀ (m : Nat) (t : (Int × (Int × (LA × LI)))), loopOf (Fa.R1 n) m (Fa.l11_0.shape t) = Fa.l11_0.g Fa.l11_0.k0 n m t.1 t.2.1 t.2.2.1 t.2.2.2 :=
  loop_of_round (shape := Fa.l11_0.shape) (body := Fa.R1 n) (g := fun m t => Fa.l11_0.g Fa.l11_0.k0 n m t.1 t.2.1 t.2.2.1 t.2.2.2) (fun t => rfl)
    fun m t ih => (Fa.l11_0.round n (loopOf (Fa.R1 n) m) t.1 t.2.1 t.2.2.1 t.2.2.2).trans (congrFun (congrFun (congrFun (congrFun (congrArg (Fa.l11_0.r Fa.l11_0.k0 n) (funext fun y0 => funext fun y1 => funext fun y2 => funext fun y3 => ih (y0, y1, y2, y3))) t.1) t.2.1) t.2.2.1) t.2.2.2)
theorem Fa.l11_0.loop (n m : Nat) (t : (Int × (Int × (LA × LI)))) : loopOf (Fa.R1 n) m (Fa.l11_0.shape t) = (Fa.l11_0.m n m t).map Fa.l11_0.res :=
  (Fa.l11_0.loop' n m t).trans (Fa.l11_0.gmap Fa.l11_0.res (fun a0 => a0) n m t.1 t.2.1 t.2.2.1 t.2.2.2)
theorem Fa.gmap {α β : Type} (h : β → α) (mk0 : LI → β) (n : Nat) (a0 : LA) : Fa.g (fun a0 => (h (mk0 a0))) n a0 = (Fa.g mk0 n a0).map h := by
  unfold Fa.g
  exact (bindO_map fun r2 => (bindO_map fun r4 => (bindO_map fun r6 => rfl)))
theorem Fa.run (n : Nat) (a0 : LA) : runF (Fa.C n) (Fa.A n) n Tryd.f99 [(.robjs 26 1 a0)] [] (fun v o => some (v, o)) = Fa.g (fun a0 => (((.own 0 1), [(some (.ints .u8 a0))]) : AV × Blks)) n a0 := by kernel_rfl
theorem Fa.call (hmix : Tryd.prog.follows .mixedOrders = true) (n : Nat) (t : LA) (u) (h : Fa.m n t = some u) : FnC Tryd.prog abiG 99 (Fa.shape t).1 (Fa.shape t).2 (Fa.res u).1 (Fa.res u).2 :=
  fnC1 (C := Fa.C n) (A := Fa.A n) (fn := Tryd.f99) rfl (.cons (Fd.s hmix n) .nil) hmix Tryd.func99 (by kernel_rfl) (lp := [Fa.b0, Fa.b1]) (by kernel_rfl) (.cons (show (Fa.A n).loop (key Fa.b0) = some (.mk' Fa.l3_0.pat (Fa.l3_0.m n n) Fa.l3_0.resK) by kernel_rfl) (LoopS.of (res := Fa.l3_0.res) (fun R u K => rfl) Fa.l3_0.pat_shape fun t => Fa.l3_0.loop n n t)
  (.cons (show (Fa.A n).loop (key Fa.b1) = some (.mk' Fa.l11_0.pat (Fa.l11_0.m n n) Fa.l11_0.resK) by kernel_rfl) (LoopS.of (res := Fa.l11_0.res) (fun R u K => rfl) Fa.l11_0.pat_shape fun t => Fa.l11_0.loop n n t)
  .nil))
  (nj rfl) (by decide) rfl rfl (by show 1 ≤ Tryd.f99.ntmps; decide) (Fa.run n t) (Fa.gmap Fa.res (fun a0 => a0) n t) h
theorem Fa.s (hmix : Tryd.prog.follows .mixedOrders = true) (n : Nat) : CalleeS Tryd.prog abiG 99 (Fa.c n) :=
  .mk1 (res := Fa.res) (shape := Fa.shape) (fun R u K => rfl) (fun _ _ _ h => by unfold Fa.pat at h; split at h <;> cases h; rfl) (fun t u h => Fa.call hmix n t u h) Tryd.func99 (by decide) (by kernel_rfl)
end
section
noncomputable section
noncomputable def Ft.C (n : Nat) : Ctx := ⟨Tryd.prog, abiG, lookC [(99, Fa.c n)], fun _ => false⟩
noncomputable def Ft.A (n : Nat) : Ann := ⟨Tryd.f70.ntmps, 0, noNL, [], [none], fun k => match k with
 | _ => none, noNL, lookJ []⟩
def Ft.g {α : Type} (mk0 : Bool → LI → LI → α) (n : Nat) (a0 : LA) : Option α :=
 bindO (Fa.m n a0) fun r2 =>
  some (mk0 true [0, 0, 0, 0] r2)
def Ft.m (n : Nat) (t : LA) : Option (Bool × (LI × LI)) := Ft.g (fun a0 a1 a2 => (a0, a1, a2)) n t
def Ft.pat : List AV → Blks → Option LA
 | [(.robjs 26 1 a0)], [] => some a0
 | _, _ => none
def Ft.shape (t : LA) : List AV × Blks := ([(.robjs 26 1 t)], [])
def Ft.res : (Bool × (LI × LI)) → AV × Blks
 | u => ((.agg [(.bool u.1), (.ints .u64 4 u.2.1), (.own 0 1)]), [(some (.ints .u8 u.2.2))])
def Ft.resK {R : Type} (u : (Bool × (LI × LI))) (K : AV → Blks → Option R) : Option R := K (Ft.res u).1 (Ft.res u).2
def Ft.c (n : Nat) : Abs.Callee := .mk' [] [(some (.objs 26 1))] Ft.pat (Ft.m n) Ft.resK
end
end
section
theorem Ft.gmap {α β : Type} (h : β → α) (mk0 : Bool → LI → LI → β) (n : Nat) (a0 : LA) : Ft.g (fun a0 a1 a2 => (h (mk0 a0 a1 a2))) n a0 = (Ft.g mk0 n a0).map h := by
  unfold Ft.g
  exact (bindO_map fun r2 => rfl)
theorem Ft.run (n : Nat) (a0 : LA) : runF (Ft.C n) (Ft.A n) n Tryd.f70 [(.robjs 26 1 a0)] [] (fun v o => some (v, o)) = Ft.g (fun a0 a1 a2 => (((.agg [(.bool a0), (.ints .u64 4 a1), (.own 0 1)]), [(some (.ints .u8 a2))]) : AV × Blks)) n a0 := by kernel_rfl
theorem Ft.call (hmix : Tryd.prog.follows .mixedOrders = true) (n : Nat) (t : LA) (u) (h : Ft.m n t = some u) : FnC Tryd.prog abiG 70 (Ft.shape t).1 (Ft.shape t).2 (Ft.res u).1 (Ft.res u).2 :=
  fnC1 (C := Ft.C n) (A := Ft.A n) (fn := Tryd.f70) rfl (.cons (Fa.s hmix n) .nil) hmix Tryd.func70 (by kernel_rfl) (lp := []) (by kernel_rfl) .nil
  (nj rfl) (by decide) rfl rfl (by show 1 ≤ Tryd.f70.ntmps; decide) (Ft.run n t) (Ft.gmap Ft.res (fun a0 a1 a2 => (a0, a1, a2)) n t) h
theorem Ft.s (hmix : Tryd.prog.follows .mixedOrders = true) (n : Nat) : CalleeS Tryd.prog abiG 70 (Ft.c n) :=
  .mk1 (res := Ft.res) (shape := Ft.shape) (fun R u K => rfl) (fun _ _ _ h => by unfold Ft.pat at h; split at h <;> cases h; rfl) (fun t u h => Ft.call hmix n t u h) Tryd.func70 (by decide) (by kernel_rfl)
end
section
noncomputable section
noncomputable def Fag.C (n : Nat) : Ctx := ⟨Tryd.prog, abiG, lookC [(69, Fbf.c n), (56, Fan.c n)], fun _ => false⟩
noncomputable def Fag.A (n : Nat) : Ann := ⟨Tryd.f73.ntmps, 0, noNL, [], [(some (.ints .u8))], fun k => match k with
 | _ => none, noNL, lookJ []⟩
def Fag.g {α : Type} (mk0 : LI → α) (n : Nat) (a0 : Int) : Option α :=
 bindO (Fbf.m n a0) fun r2 =>
  bindO (Fan.m n r2) fun r4 =>
   if 16 ≤ (((List.length r4) : Nat) : Int) then
    some (mk0 (Go.Abs.partL r4 16 (Go.Abs.span (List.length r4) 16 (Option.none))))
   else
    none
def Fag.m (n : Nat) (t : Int) : Option LI := Fag.g (fun a0 => a0) n t
def Fag.pat : List AV → Blks → Option Int
 | [(.int .u64 a0)], [] => some a0
 | _, _ => none
def Fag.shape (t : Int) : List AV × Blks := ([(.int .u64 t)], [])
def Fag.res : LI → AV × Blks
 | u => ((.own 0 1), [(some (.ints .u8 u))])
def Fag.resK {R : Type} (u : LI) (K : AV → Blks → Option R) : Option R := K (Fag.res u).1 (Fag.res u).2
def Fag.c (n : Nat) : Abs.Callee := .mk' [] [none] Fag.pat (Fag.m n) Fag.resK
end
end
section
noncomputable section
noncomputable def Fq.C (n : Nat) : Ctx := ⟨Tryd.prog, abiG, lookC [(69, Fbf.c n), (100, Fby.c n), (85, Fbu.c n)], fun _ => false⟩
noncomputable def Fq.A (n : Nat) : Ann := ⟨Tryd.f74.ntmps, 0, noNL, [], [none], fun k => match k with
 | _ => none, noNL, lookJ []⟩
def Fq.g {α : Type} (mk0 : LI → α) (n : Nat) (a0 : LI) (a1 : LI) : Option α :=
 bindO (Fbf.m n 128) fun r2 =>
  bindO (Fby.m n (r2, a0)) fun r4 =>
   bindO (Fbu.m n (r4, a1)) fun r6 =>
    some (mk0 r6.1)
def Fq.m (n : Nat) (t : (LI × LI)) : Option LI := Fq.g (fun a0 => a0) n t.1 t.2
def Fq.pat : List AV → Blks → Option (LI × LI)
 | [(.ints .u64 4 a0), (.ints .u64 4 a1)], [] => some (a0, a1)
 | _, _ => none
def Fq.shape (t : (LI × LI)) : List AV × Blks := ([(.ints .u64 4 t.1), (.ints .u64 4 t.2)], [])
def Fq.res : LI → AV × Blks
 | u => ((.ints .u64 4 u), [])
def Fq.resK {R : Type} (u : LI) (K : AV → Blks → Option R) : Option R := K (Fq.res u).1 (Fq.res u).2
def Fq.c (n : Nat) : Abs.Callee := .mk' [] [none, none] Fq.pat (Fq.m n) Fq.resK
end
end
section
noncomputable section
noncomputable def Fah.C (n : Nat) : Ctx := ⟨Tryd.prog, abiG, lookC [], fun _ => false⟩
noncomputable def Fah.A (n : Nat) : Ann := ⟨Tryd.f68.ntmps, 0, noNL, [], [none], fun k => match k with
 | _ => none, noNL, lookJ []⟩
def Fah.g {α : Type} (mk0 : Bool → LI → α) (n : Nat) (a0 : LI) : Option α :=
 some (mk0 false a0)
def Fah.m (n : Nat) (t : LI) : Option (Bool × LI) := Fah.g (fun a0 a1 => (a0, a1)) n t
def Fah.pat : List AV → Blks → Option LI
 | [(.ints .u64 4 a0)], [] => some a0
 | _, _ => none
def Fah.shape (t : LI) : List AV × Blks := ([(.ints .u64 4 t)], [])
def Fah.res : (Bool × LI) → AV × Blks
 | u => ((.agg [(.bool u.1), (.ints .u64 4 u.2), .snil]), [])
def Fah.resK {R : Type} (u : (Bool × LI)) (K : AV → Blks → Option R) : Option R := K (Fah.res u).1 (Fah.res u).2
def Fah.c (n : Nat) : Abs.Callee := .mk' [] [none] Fah.pat (Fah.m n) Fah.resK
end
end
section
noncomputable section
noncomputable def Fai.C (n : Nat) : Ctx := ⟨Tryd.prog, abiG, lookC [(70, Ft.c n), (73, Fag.c n), (69, Fbf.c n), (74, Fq.c n), (75, Fbj.c n), (68, Fah.c n)], fun t => t == 41⟩
noncomputable def Fai.A (n : Nat) : Ann := ⟨Tryd.f38.ntmps, 0, noNL, [], [(some (.objs 69 6))], fun k => match k with
 | _ => none, noNL, lookJ []⟩
def Fai.g {α : Type} (mk0 : LA → α) (n : Nat) (a0_0 : LI) (a0_1 : LI) (a0_2 : Bool) (a0_3 : LI) (a0_4 : LI) (a0_5 : LI) (a0_6 : Int) (a0_7 : Int) (a0_8 : Int) (a0_9 : LI) (a0_10 : LI) (a0_11 : Bool) (a0_12 : LI) (a0_13 : Int) (a0_14 : Int) (a0_15 : LI) (a0_16 : LI) : Option α :=
 bindO (Ft.m n []) fun r2 =>
  bindO (Ft.m n []) fun r4 =>
   if a0_2 = true then
    bindO (Ft.m n [(AV.rints .u8 (Go.Abs.cut a0_3 0 (Option.none))), (AV.rints .u8 a0_4)]) fun r8 =>
     if a0_11 = true then
      bindO (Fag.m n a0_13) fun r12 =>
       bindO (Fag.m n a0_14) fun r14 =>
        bindO (Ft.m n [(AV.rints .u8 (Go.Abs.cut a0_12 0 (Option.none))), (AV.rints .u8 r12), (AV.rints .u8 r14), (AV.rints .u8 a0_15)]) fun r16 =>
         bindO (Fbf.m n a0_7) fun r18 =>
          bindO (Fbf.m n a0_6) fun r20 =>
           bindO (Fq.m n (r18, r20)) fun r22 =>
            bindO (Fbj.m n a0_0) fun r24 =>
             bindO (Fah.m n r24) fun r26 =>
              bindO (Fah.m n a0_1) fun r28 =>
               bindO (Ft.m n [(AV.rints .u8 a0_5)]) fun r30 =>
                bindO (Fah.m n r22) fun r32 =>
                 bindO (Fbf.m n a0_8) fun r34 =>
                  bindO (Fah.m n r34) fun r36 =>
                   bindO (Fq.m n (a0_10, a0_9)) fun r38 =>
                    bindO (Fah.m n r38) fun r40 =>
                     bindO (Ft.m n [(AV.rints .u8 a0_16)]) fun r42 =>
                      some (mk0 [(AV.agg [(AV.bool r26.1), (AV.ints .u64 4 r26.2), AV.snil]), (AV.agg [(AV.bool r28.1), (AV.ints .u64 4 r28.2), AV.snil]), (AV.agg [(AV.bool r8.1), (AV.ints .u64 4 r8.2.1), (AV.rints .u8 r8.2.2)]), (AV.agg [(AV.bool r30.1), (AV.ints .u64 4 r30.2.1), (AV.rints .u8 r30.2.2)]), (AV.agg [(AV.bool r32.1), (AV.ints .u64 4 r32.2), AV.snil]), (AV.agg [(AV.bool r36.1), (AV.ints .u64 4 r36.2), AV.snil]), (AV.agg [(AV.bool r40.1), (AV.ints .u64 4 r40.2), AV.snil]), (AV.agg [(AV.bool r16.1), (AV.ints .u64 4 r16.2.1), (AV.rints .u8 r16.2.2)]), (AV.agg [(AV.bool r42.1), (AV.ints .u64 4 r42.2.1), (AV.rints .u8 r42.2.2)])])
     else
      bindO (Fbf.m n a0_7) fun r12 =>
       bindO (Fbf.m n a0_6) fun r14 =>
        bindO (Fq.m n (r12, r14)) fun r16 =>
         bindO (Fbj.m n a0_0) fun r18 =>
          bindO (Fah.m n r18) fun r20 =>
           bindO (Fah.m n a0_1) fun r22 =>
            bindO (Ft.m n [(AV.rints .u8 a0_5)]) fun r24 =>
             bindO (Fah.m n r16) fun r26 =>
              bindO (Fbf.m n a0_8) fun r28 =>
               bindO (Fah.m n r28) fun r30 =>
                bindO (Fq.m n (a0_10, a0_9)) fun r32 =>
                 bindO (Fah.m n r32) fun r34 =>
                  bindO (Ft.m n [(AV.rints .u8 a0_16)]) fun r36 =>
                   some (mk0 [(AV.agg [(AV.bool r20.1), (AV.ints .u64 4 r20.2), AV.snil]), (AV.agg [(AV.bool r22.1), (AV.ints .u64 4 r22.2), AV.snil]), (AV.agg [(AV.bool r8.1), (AV.ints .u64 4 r8.2.1), (AV.rints .u8 r8.2.2)]), (AV.agg [(AV.bool r24.1), (AV.ints .u64 4 r24.2.1), (AV.rints .u8 r24.2.2)]), (AV.agg [(AV.bool r26.1), (AV.ints .u64 4 r26.2), AV.snil]), (AV.agg [(AV.bool r30.1), (AV.ints .u64 4 r30.2), AV.snil]), (AV.agg [(AV.bool r34.1), (AV.ints .u64 4 r34.2), AV.snil]), (AV.agg [(AV.bool r4.1), (AV.ints .u64 4 r4.2.1), (AV.rints .u8 r4.2.2)]), (AV.agg [(AV.bool r36.1), (AV.ints .u64 4 r36.2.1), (AV.rints .u8 r36.2.2)])])
   else
    if a0_11 = true then
     bindO (Fag.m n a0_13) fun r10 =>
      bindO (Fag.m n a0_14) fun r12 =>
       bindO (Ft.m n [(AV.rints .u8 (Go.Abs.cut a0_12 0 (Option.none))), (AV.rints .u8 r10), (AV.rints .u8 r12), (AV.rints .u8 a0_15)]) fun r14 =>
        bindO (Fbf.m n a0_7) fun r16 =>
         bindO (Fbf.m n a0_6) fun r18 =>
          bindO (Fq.m n (r16, r18)) fun r20 =>
           bindO (Fbj.m n a0_0) fun r22 =>
            bindO (Fah.m n r22) fun r24 =>
             bindO (Fah.m n a0_1) fun r26 =>
              bindO (Ft.m n [(AV.rints .u8 a0_5)]) fun r28 =>
               bindO (Fah.m n r20) fun r30 =>
                bindO (Fbf.m n a0_8) fun r32 =>
                 bindO (Fah.m n r32) fun r34 =>
                  bindO (Fq.m n (a0_10, a0_9)) fun r36 =>
                   bindO (Fah.m n r36) fun r38 =>
                    bindO (Ft.m n [(AV.rints .u8 a0_16)]) fun r40 =>
                     some (mk0 [(AV.agg [(AV.bool r24.1), (AV.ints .u64 4 r24.2), AV.snil]), (AV.agg [(AV.bool r26.1), (AV.ints .u64 4 r26.2), AV.snil]), (AV.agg [(AV.bool r2.1), (AV.ints .u64 4 r2.2.1), (AV.rints .u8 r2.2.2)]), (AV.agg [(AV.bool r28.1), (AV.ints .u64 4 r28.2.1), (AV.rints .u8 r28.2.2)]), (AV.agg [(AV.bool r30.1), (AV.ints .u64 4 r30.2), AV.snil]), (AV.agg [(AV.bool r34.1), (AV.ints .u64 4 r34.2), AV.snil]), (AV.agg [(AV.bool r38.1), (AV.ints .u64 4 r38.2), AV.snil]), (AV.agg [(AV.bool r14.1), (AV.ints .u64 4 r14.2.1), (AV.rints .u8 r14.2.2)]), (AV.agg [(AV.bool r40.1), (AV.ints .u64 4 r40.2.1), (AV.rints .u8 r40.2.2)])])
    else
     bindO (Fbf.m n a0_7) fun r10 =>
      bindO (Fbf.m n a0_6) fun r12 =>
       bindO (Fq.m n (r10, r12)) fun r14 =>
        bindO (Fbj.m n a0_0) fun r16 =>
         bindO (Fah.m n r16) fun r18 =>
          bindO (Fah.m n a0_1) fun r20 =>
           bindO (Ft.m n [(AV.rints .u8 a0_5)]) fun r22 =>
            bindO (Fah.m n r14) fun r24 =>
             bindO (Fbf.m n a0_8) fun r26 =>
              bindO (Fah.m n r26) fun r28 =>
               bindO (Fq.m n (a0_10, a0_9)) fun r30 =>
                bindO (Fah.m n r30) fun r32 =>
                 bindO (Ft.m n [(AV.rints .u8 a0_16)]) fun r34 =>
                  some (mk0 [(AV.agg [(AV.bool r18.1), (AV.ints .u64 4 r18.2), AV.snil]), (AV.agg [(AV.bool r20.1), (AV.ints .u64 4 r20.2), AV.snil]), (AV.agg [(AV.bool r2.1), (AV.ints .u64 4 r2.2.1), (AV.rints .u8 r2.2.2)]), (AV.agg [(AV.bool r22.1), (AV.ints .u64 4 r22.2.1), (AV.rints .u8 r22.2.2)]), (AV.agg [(AV.bool r24.1), (AV.ints .u64 4 r24.2), AV.snil]), (AV.agg [(AV.bool r28.1), (AV.ints .u64 4 r28.2), AV.snil]), (AV.agg [(AV.bool r32.1), (AV.ints .u64 4 r32.2), AV.snil]), (AV.agg [(AV.bool r4.1), (AV.ints .u64 4 r4.2.1), (AV.rints .u8 r4.2.2)]), (AV.agg [(AV.bool r34.1), (AV.ints .u64 4 r34.2.1), (AV.rints .u8 r34.2.2)])])
def Fai.m (n : Nat) (t : (LI × (LI × (Bool × (LI × (LI × (LI × (Int × (Int × (Int × (LI × (LI × (Bool × (LI × (Int × (Int × (LI × LI))))))))))))))))) : Option LA := Fai.g (fun a0 => a0) n t.1 t.2.1 t.2.2.1 t.2.2.2.1 t.2.2.2.2.1 t.2.2.2.2.2.1 t.2.2.2.2.2.2.1 t.2.2.2.2.2.2.2.1 t.2.2.2.2.2.2.2.2.1 t.2.2.2.2.2.2.2.2.2.1 t.2.2.2.2.2.2.2.2.2.2.1 t.2.2.2.2.2.2.2.2.2.2.2.1 t.2.2.2.2.2.2.2.2.2.2.2.2.1 t.2.2.2.2.2.2.2.2.2.2.2.2.2.1 t.2.2.2.2.2.2.2.2.2.2.2.2.2.2.1 t.2.2.2.2.2.2.2.2.2.2.2.2.2.2.2.1 t.2.2.2.2.2.2.2.2.2.2.2.2.2.2.2.2
def Fai.pat : List AV → Blks → Option (LI × (LI × (Bool × (LI × (LI × (LI × (Int × (Int × (Int × (LI × (LI × (Bool × (LI × (Int × (Int × (LI × LI))))))))))))))))
 | [(.agg [(.ints .u8 20 a0_0), (.ints .u64 4 a0_1), (.bool a0_2), (.ints .u8 20 a0_3), (.rints .u8 a0_4), (.rints .u8 a0_5), (.int .u64 a0_6), (.int .u64 a0_7), (.int .u64 a0_8), (.ints .u64 4 a0_9), (.ints .u64 4 a0_10), (.bool a0_11), (.ints .u8 20 a0_12), (.int .u64 a0_13), (.int .u64 a0_14), (.rints .u8 a0_15), (.rints .u8 a0_16)])], [] => some (a0_0, a0_1, a0_2, a0_3, a0_4, a0_5, a0_6, a0_7, a0_8, a0_9, a0_10, a0_11, a0_12, a0_13, a0_14, a0_15, a0_16)
 | _, _ => none
def Fai.shape (t : (LI × (LI × (Bool × (LI × (LI × (LI × (Int × (Int × (Int × (LI × (LI × (Bool × (LI × (Int × (Int × (LI × LI))))))))))))))))) : List AV × Blks := ([(.agg [(.ints .u8 20 t.1), (.ints .u64 4 t.2.1), (.bool t.2.2.1), (.ints .u8 20 t.2.2.2.1), (.rints .u8 t.2.2.2.2.1), (.rints .u8 t.2.2.2.2.2.1), (.int .u64 t.2.2.2.2.2.2.1), (.int .u64 t.2.2.2.2.2.2.2.1), (.int .u64 t.2.2.2.2.2.2.2.2.1), (.ints .u64 4 t.2.2.2.2.2.2.2.2.2.1), (.ints .u64 4 t.2.2.2.2.2.2.2.2.2.2.1), (.bool t.2.2.2.2.2.2.2.2.2.2.2.1), (.ints .u8 20 t.2.2.2.2.2.2.2.2.2.2.2.2.1), (.int .u64 t.2.2.2.2.2.2.2.2.2.2.2.2.2.1), (.int .u64 t.2.2.2.2.2.2.2.2.2.2.2.2.2.2.1), (.rints .u8 t.2.2.2.2.2.2.2.2.2.2.2.2.2.2.2.1), (.rints .u8 t.2.2.2.2.2.2.2.2.2.2.2.2.2.2.2.2)])], [])
def Fai.res : LA → AV × Blks
 | u => ((.robjs 69 6 u), [])
def Fai.resK {R : Type} (u : LA) (K : AV → Blks → Option R) : Option R := K (Fai.res u).1 (Fai.res u).2
def Fai.c (n : Nat) : Abs.Callee := .mk' [] [(some (.agg [none, none, none, none, (some (.ints .u8)), (some (.ints .u8)), none, none, none, none, none, none, none, none, none, (some (.ints .u8)), (some (.ints .u8))]))] Fai.pat (Fai.m n) Fai.resK
end
end
section
theorem Fag.gmap {α β : Type} (h : β → α) (mk0 : LI → β) (n : Nat) (a0 : Int) : Fag.g (fun a0 => (h (mk0 a0))) n a0 = (Fag.g mk0 n a0).map h := by
  unfold Fag.g
  exact (bindO_map fun r2 => (bindO_map fun r4 => (ite_map rfl rfl)))
theorem Fag.run (n : Nat) (a0 : Int) : runF (Fag.C n) (Fag.A n) n Tryd.f73 [(.int .u64 a0)] [] (fun v o => some (v, o)) = Fag.g (fun a0 => (((.own 0 1), [(some (.ints .u8 a0))]) : AV × Blks)) n a0 := by kernel_rfl
theorem Fag.call (hmix : Tryd.prog.follows .mixedOrders = true) (n : Nat) (t : Int) (u) (h : Fag.m n t = some u) : FnC Tryd.prog abiG 73 (Fag.shape t).1 (Fag.shape t).2 (Fag.res u).1 (Fag.res u).2 :=
  fnC1 (C := Fag.C n) (A := Fag.A n) (fn := Tryd.f73) rfl (.cons (Fbf.s hmix n) (.cons (Fan.s hmix n) .nil)) hmix Tryd.func73 (by kernel_rfl) (lp := []) (by kernel_rfl) .nil
  (nj rfl) (by decide) rfl rfl (by show 1 ≤ Tryd.f73.ntmps; decide) (Fag.run n t) (Fag.gmap Fag.res (fun a0 => a0) n t) h
theorem Fag.s (hmix : Tryd.prog.follows .mixedOrders = true) (n : Nat) : CalleeS Tryd.prog abiG 73 (Fag.c n) :=
  .mk1 (res := Fag.res) (shape := Fag.shape) (fun R u K => rfl) (fun _ _ _ h => by unfold Fag.pat at h; split at h <;> cases h; rfl) (fun t u h => Fag.call hmix n t u h) Tryd.func73 (by decide) (by kernel_rfl)
end
section
theorem Fq.gmap {α β : Type} (h : β → α) (mk0 : LI → β) (n : Nat) (a0 : LI) (a1 : LI) : Fq.g (fun a0 => (h (mk0 a0))) n a0 a1 = (Fq.g mk0 n a0 a1).map h := by
  unfold Fq.g
  exact (bindO_map fun r2 => (bindO_map fun r4 => (bindO_map fun r6 => rfl)))
theorem Fq.run (n : Nat) (a0 : LI) (a1 : LI) : runF (Fq.C n) (Fq.A n) n Tryd.f74 [(.ints .u64 4 a0), (.ints .u64 4 a1)] [] (fun v o => some (v, o)) = Fq.g (fun a0 => (((.ints .u64 4 a0), []) : AV × Blks)) n a0 a1 := by kernel_rfl
theorem Fq.call (hmix : Tryd.prog.follows .mixedOrders = true) (n : Nat) (t : (LI × LI)) (u) (h : Fq.m n t = some u) : FnC Tryd.prog abiG 74 (Fq.shape t).1 (Fq.shape t).2 (Fq.res u).1 (Fq.res u).2 :=
  fnC1 (C := Fq.C n) (A := Fq.A n) (fn := Tryd.f74) rfl (.cons (Fbf.s hmix n) (.cons (Fby.s hmix n) (.cons (Fbu.s hmix n) .nil))) hmix Tryd.func74 (by kernel_rfl) (lp := []) (by kernel_rfl) .nil
  (nj rfl) (by decide) rfl rfl (by show 2 ≤ Tryd.f74.ntmps; decide) (Fq.run n t.1 t.2) (Fq.gmap Fq.res (fun a0 => a0) n t.1 t.2) h
theorem Fq.s (hmix : Tryd.prog.follows .mixedOrders = true) (n : Nat) : CalleeS Tryd.prog abiG 74 (Fq.c n) :=
  .mk1 (res := Fq.res) (shape := Fq.shape) (fun R u K => rfl) (fun _ _ _ h => by unfold Fq.pat at h; split at h <;> cases h; rfl) (fun t u h => Fq.call hmix n t u h) Tryd.func74 (by decide) (by kernel_rfl)
end
