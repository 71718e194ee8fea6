/- What the program's functions compute, as plain functions, each with its proof: the function does just that. Condition: the plain function has an answer. -/
import Derived.Test.YtehhocoldpdijaaDoorFnUseropSigned1
import Derived.Test.YtehhocoldpdijaaDoorAbsG6
import Derived.Test.YtehhocoldpdijaaDoorProg
set_option linter.unusedVariables false
set_option linter.unusedSimpArgs false
set_option maxRecDepth 100000
open Go Go.Abs Go.Proofs
section
noncomputable abbrev Fq.R0 (n : Nat) := roundOf (Fq.C n) (Fq.A n) n Fq.b0
noncomputable abbrev Fq.R1 (n : Nat) := roundOf (Fq.C n) (Fq.A n) n Fq.b1
theorem Fq.l7_0.rmap {α β : Type} (h : β → α) (mk0 : Int → Int → Int → LI → LI → LI → LI → β) (n : Nat) (f : Int → Int → Int → Int → LI → LI → LI → LI → Option β)  (x0 : Int) (x1 : Int) (x2 : Int) (x3 : Int) (x4 : LI) (x5 : LI) (x6 : LI) (x7 : LI) : Fq.l7_0.r (fun a0 a1 a2 a3 a4 a5 a6 => (h (mk0 a0 a1 a2 a3 a4 a5 a6))) n (fun y0 y1 y2 y3 y4 y5 y6 y7 => (f y0 y1 y2 y3 y4 y5 y6 y7).map h) x0 x1 x2 x3 x4 x5 x6 x7 = (Fq.l7_0.r mk0 n f x0 x1 x2 x3 x4 x5 x6 x7).map h := by
  unfold Fq.l7_0.r
  exact (ite_map (ite_map (ite_map (ite_map (ite_map (bindO_map fun r14 => (bindO_map fun r16 => (ite_map (ite_map (bindO_map fun r22 => (ite_map (ite_map rfl rfl) rfl)) rfl) rfl))) rfl) rfl) rfl) rfl) rfl)
theorem Fq.l7_0.gmap {α β : Type} (h : β → α) (mk0 : Int → Int → Int → LI → LI → LI → LI → β) (n : Nat) : ∀ (m : Nat) (x0 : Int) (x1 : Int) (x2 : Int) (x3 : Int) (x4 : LI) (x5 : LI) (x6 : LI) (x7 : LI), Fq.l7_0.g (fun a0 a1 a2 a3 a4 a5 a6 => (h (mk0 a0 a1 a2 a3 a4 a5 a6))) n m x0 x1 x2 x3 x4 x5 x6 x7 = (Fq.l7_0.g mk0 n m x0 x1 x2 x3 x4 x5 x6 x7).map h
  | 0, _, _, _, _, _, _, _, _ => rfl
  | m + 1, x0, x1, x2, x3, x4, x5, x6, x7 => by
    unfold Fq.l7_0.g
    rw [← Fq.l7_0.rmap]
    congr
    · funext y0 y1 y2 y3 y4 y5 y6 y7; exact Fq.l7_0.gmap h mk0 n m y0 y1 y2 y3 y4 y5 y6 y7
theorem Fq.l7_0.pat_shape : ∀ st t, Fq.l7_0.pat st = some t → st = Fq.l7_0.shape t := fun _ _ h => by unfold Fq.l7_0.pat at h; split at h <;> cases h; rfl
def Fq.l7_0.k0 : Int → Int → Int → LI → LI → LI → LI → Ex × St := (fun a0 a1 a2 a3 a4 a5 a6 => (((.exit 2), (St.mk [(.int .i64 a0), (.int .u64 a1), (.ptr 0 []), (.int .i64 a2), (.ptr 1 []), (.ptr 2 []), (.ptr 3 [])] [(some (.var (.ints .u64 8 a3))), (some (.var (.ints .u64 4 a4))), (some (.var (.ints .u64 4 a5))), (some (.var (.ints .u64 8 a6)))])) : Ex × St))
theorem Fq.l7_0.round (n : Nat) (rc : St → Option (Ex × St)) (x0 : Int) (x1 : Int) (x2 : Int) (x3 : Int) (x4 : LI) (x5 : LI) (x6 : LI) (x7 : LI) : Fq.R1 n rc ((St.mk [(.int .i64 x0), (.int .i64 x1), (.ptr 0 []), (.ptr 1 []), (.int .u64 x2), (.ptr 2 []), (.int .i64 x3), (.ptr 3 [])] [(some (.var (.ints .u64 4 x4))), (some (.var (.ints .u64 4 x5))), (some (.var (.ints .u64 8 x6))), (some (.var (.ints .u64 8 x7)))])) = Fq.l7_0.r Fq.l7_0.k0 n (fun y0 y1 y2 y3 y4 y5 y6 y7 => rc ((St.mk [(.int .i64 y0), (.int .i64 y1), (.ptr 0 []), (.ptr 1 []), (.int .u64 y2), (.ptr 2 []), (.int .i64 y3), (.ptr 3 [])] [(some (.var (.ints .u64 4 y4))), (some (.var (.ints .u64 4 y5))), (some (.var (.ints .u64 8 y6))), (some (.var (.ints .u64 8 y7)))]))) x0 x1 x2 x3 x4 x5 x6 x7 := by kernel_rfl
theorem Fq.l7_0.loop' (n : Nat) : ∀ (m : Nat) (t : (Int × (Int × (Int × (Int × (LI × (LI × (LI × LI)))))))), loopOf (Fq.R1 n) m (Fq.l7_0.shape t) = Fq.l7_0.g Fq.l7_0.k0 n m t.1 t.2.1 t.2.2.1 t.2.2.2.1 t.2.2.2.2.1 t.2.2.2.2.2.1 t.2.2.2.2.2.2.1 t.2.2.2.2.2.2.2 :=
  loop_of_round (shape := Fq.l7_0.shape) (body := Fq.R1 n) (g := fun m t => Fq.l7_0.g Fq.l7_0.k0 n m t.1 t.2.1 t.2.2.1 t.2.2.2.1 t.2.2.2.2.1 t.2.2.2.2.2.1 t.2.2.2.2.2.2.1 t.2.2.2.2.2.2.2) (fun t => rfl)
    fun m t ih => (Fq.l7_0.round n (loopOf (Fq.R1 n) m) t.1 t.2.1 t.2.2.1 t.2.2.2.1 t.2.2.2.2.1 t.2.2.2.2.2.1 t.2.2.2.2.2.2.1 t.2.2.2.2.2.2.2).trans (congrFun (congrFun (congrFun (congrFun (congrFun (congrFun (congrFun (congrFun (congrArg (Fq.l7_0.r Fq.l7_0.k0 n) (funext fun y0 => funext fun y1 => funext fun y2 => funext fun y3 => funext fun y4 => funext fun y5 => funext fun y6 => funext fun y7 => ih (y0, y1, y2, y3, y4, y5, y6, y7))) t.1) t.2.1) t.2.2.1) t.2.2.2.1) t.2.2.2.2.1) t.2.2.2.2.2.1) t.2.2.2.2.2.2.1) t.2.2.2.2.2.2.2)
theorem Fq.l7_0.loop (n m : Nat) (t : (Int × (Int × (Int × (Int × (LI × (LI × (LI × LI)))))))) : loopOf (Fq.R1 n) m (Fq.l7_0.shape t) = (Fq.l7_0.m n m t).map Fq.l7_0.res :=
  (Fq.l7_0.loop' n m t).trans (Fq.l7_0.gmap Fq.l7_0.res (fun a0 a1 a2 a3 a4 a5 a6 => (a0, a1, a2, a3, a4, a5, a6)) n m t.1 t.2.1 t.2.2.1 t.2.2.2.1 t.2.2.2.2.1 t.2.2.2.2.2.1 t.2.2.2.2.2.2.1 t.2.2.2.2.2.2.2)
theorem Fq.l3_0.rmap {α β : Type} (h : β → α) (mk0 : LI → LI → β) (n : Nat) (f : Int → LI → LI → LI → LI → Option β)  (x0 : Int) (x1 : LI) (x2 : LI) (x3 : LI) (x4 : LI) : Fq.l3_0.r (fun a0 a1 => (h (mk0 a0 a1))) n (fun y0 y1 y2 y3 y4 => (f y0 y1 y2 y3 y4).map h) x0 x1 x2 x3 x4 = (Fq.l3_0.r mk0 n f x0 x1 x2 x3 x4).map h := by
  unfold Fq.l3_0.r
  exact (ite_map (bindO_map fun r6 => (ite_map (ite_map rfl rfl) rfl)) rfl)
theorem Fq.l3_0.gmap {α β : Type} (h : β → α) (mk0 : LI → LI → β) (n : Nat) : ∀ (m : Nat) (x0 : Int) (x1 : LI) (x2 : LI) (x3 : LI) (x4 : LI), Fq.l3_0.g (fun a0 a1 => (h (mk0 a0 a1))) n m x0 x1 x2 x3 x4 = (Fq.l3_0.g mk0 n m x0 x1 x2 x3 x4).map h
  | 0, _, _, _, _, _ => rfl
  | m + 1, x0, x1, x2, x3, x4 => by
    unfold Fq.l3_0.g
    rw [← Fq.l3_0.rmap]
    congr
    · funext y0 y1 y2 y3 y4; exact Fq.l3_0.gmap h mk0 n m y0 y1 y2 y3 y4
theorem Fq.l3_0.pat_shape : ∀ st t, Fq.l3_0.pat st = some t → st = Fq.l3_0.shape t := fun _ _ h => by unfold Fq.l3_0.pat at h; split at h <;> cases h; rfl
def Fq.l3_0.k0 : LI → LI → Ex × St := (fun a0 a1 => (((.exit 0), (St.mk [(.ptr 0 []), (.ptr 1 [])] [(some (.var (.ints .u64 8 a0))), (some (.var (.ints .u64 8 a1)))])) : Ex × St))
theorem Fq.l3_0.round (n : Nat) (rc : St → Option (Ex × St)) (x0 : Int) (x1 : LI) (x2 : LI) (x3 : LI) (x4 : LI) : Fq.R0 n rc ((St.mk [(.int .i64 x0), (.ptr 0 []), (.ptr 1 []), (.ptr 2 []), (.ptr 3 [])] [(some (.var (.ints .u64 4 x1))), (some (.var (.ints .u64 4 x2))), (some (.var (.ints .u64 8 x3))), (some (.var (.ints .u64 8 x4)))])) = Fq.l3_0.r Fq.l3_0.k0 n (fun y0 y1 y2 y3 y4 => rc ((St.mk [(.int .i64 y0), (.ptr 0 []), (.ptr 1 []), (.ptr 2 []), (.ptr 3 [])] [(some (.var (.ints .u64 4 y1))), (some (.var (.ints .u64 4 y2))), (some (.var (.ints .u64 8 y3))), (some (.var (.ints .u64 8 y4)))]))) x0 x1 x2 x3 x4 := by kernel_rfl
theorem Fq.l3_0.loop' (n : Nat) : ∀ (m : Nat) (t : (Int × (LI × (LI × (LI × LI))))), loopOf (Fq.R0 n) m (Fq.l3_0.shape t) = Fq.l3_0.g Fq.l3_0.k0 n m t.1 t.2.1 t.2.2.1 t.2.2.2.1 t.2.2.2.2 :=
  loop_of_round (shape := Fq.l3_0.shape) (body := Fq.R0 n) (g := fun m t => Fq.l3_0.g Fq.l3_0.k0 n m t.1 t.2.1 t.2.2.1 t.2.2.2.1 t.2.2.2.2) (fun t => rfl)
    fun m t ih => (Fq.l3_0.round n (loopOf (Fq.R0 n) m) t.1 t.2.1 t.2.2.1 t.2.2.2.1 t.2.2.2.2).trans (congrFun (congrFun (congrFun (congrFun (congrFun (congrArg (Fq.l3_0.r Fq.l3_0.k0 n) (funext fun y0 => funext fun y1 => funext fun y2 => funext fun y3 => funext fun y4 => ih (y0, y1, y2, y3, y4))) t.1) t.2.1) t.2.2.1) t.2.2.2.1) t.2.2.2.2)
theorem Fq.l3_0.loop (n m : Nat) (t : (Int × (LI × (LI × (LI × LI))))) : loopOf (Fq.R0 n) m (Fq.l3_0.shape t) = (Fq.l3_0.m n m t).map Fq.l3_0.res :=
  (Fq.l3_0.loop' n m t).trans (Fq.l3_0.gmap Fq.l3_0.res (fun a0 a1 => (a0, a1)) n m t.1 t.2.1 t.2.2.1 t.2.2.2.1 t.2.2.2.2)
theorem Fq.gmap {α β : Type} (h : β → α) (mk0 : LI → β) (n : Nat) (a0 : LI) (a1 : LI) : Fq.g (fun a0 => (h (mk0 a0))) n a0 a1 = (Fq.g mk0 n a0 a1).map h := by
  unfold Fq.g
  exact (bindO_map fun r2 => rfl)
theorem Fq.run (n : Nat) (a0 : LI) (a1 : LI) : runF (Fq.C n) (Fq.A n) n Tryd.f102 [(.ints .u64 4 a0), (.ints .u64 4 a1)] [] (fun v o => some (v, o)) = Fq.g (fun a0 => (((.ints .u64 8 a0), []) : AV × Blks)) n a0 a1 := by kernel_rfl
theorem Fq.call (hmix : Tryd.prog.follows .mixedOrders = true) (n : Nat) (t : (LI × LI)) (u) (h : Fq.m n t = some u) : FnC Tryd.prog abiG 102 (Fq.shape t).1 (Fq.shape t).2 (Fq.res u).1 (Fq.res u).2 :=
  fnC1 (C := Fq.C n) (A := Fq.A n) (fn := Tryd.f102) rfl (.cons (Fak.s hmix n) (.cons (Faj.s hmix n) .nil)) hmix Tryd.func102 (by kernel_rfl) (lp := [Fq.b0, Fq.b1]) (by kernel_rfl) (.cons (show (Fq.A n).loop (key Fq.b0) = some (.mk' Fq.l3_0.pat (Fq.l3_0.m n n) Fq.l3_0.resK) by kernel_rfl) (LoopS.of (res := Fq.l3_0.res) (fun R u K => rfl) Fq.l3_0.pat_shape fun t => Fq.l3_0.loop n n t)
  (.cons (show (Fq.A n).loop (key Fq.b1) = some (.mk' Fq.l7_0.pat (Fq.l7_0.m n n) Fq.l7_0.resK) by kernel_rfl) (LoopS.of (res := Fq.l7_0.res) (fun R u K => rfl) Fq.l7_0.pat_shape fun t => Fq.l7_0.loop n n t)
  .nil))
  (nj rfl) (by decide) rfl rfl (by show 2 ≤ Tryd.f102.ntmps; decide) (Fq.run n t.1 t.2) (Fq.gmap Fq.res (fun a0 => a0) n t.1 t.2) h
theorem Fq.s (hmix : Tryd.prog.follows .mixedOrders = true) (n : Nat) : CalleeS Tryd.prog abiG 102 (Fq.c n) :=
  .mk1 (res := Fq.res) (shape := Fq.shape) (fun R u K => rfl) (fun _ _ _ h => by unfold Fq.pat at h; split at h <;> cases h; rfl) (fun t u h => Fq.call hmix n t u h) Tryd.func102 (by decide) (by kernel_rfl)
end
section
noncomputable section
noncomputable def Fbl.C (n : Nat) : Ctx := ⟨Tryd.prog, abiG, lookC [(102, Fq.c n)], fun _ => false⟩
noncomputable def Fbl.A (n : Nat) : Ann := ⟨Tryd.f84.ntmps, 0, noNL, [], [none, none], fun k => match k with
 | _ => none, noNL, lookJ []⟩
def Fbl.g {α : Type} (mk0 : LI → Bool → α) (n : Nat) (a0 : LI) (a1 : LI) : Option α :=
 bindO (Fq.m n (a0, a1)) fun r2 =>
  some (mk0 (List.take 4 (List.drop 0 r2)) ((ibits BinOp.or .u64 (ibits BinOp.or .u64 (ibits BinOp.or .u64 (List.getD r2 4 0) (List.getD r2 5 0)) (List.getD r2 6 0)) (List.getD r2 7 0)) != 0))
def Fbl.m (n : Nat) (t : (LI × LI)) : Option (LI × Bool) := Fbl.g (fun a0 a1 => (a0, a1)) n t.1 t.2
def Fbl.pat : List AV → Blks → Option (LI × LI)
 | [(.ints .u64 4 a0), (.ints .u64 4 a1)], [] => some (a0, a1)
 | _, _ => none
def Fbl.shape (t : (LI × LI)) : List AV × Blks := ([(.ints .u64 4 t.1), (.ints .u64 4 t.2)], [])
def Fbl.res : (LI × Bool) → AV × Blks
 | u => ((.tup [(.ints .u64 4 u.1), (.bool u.2)]), [])
def Fbl.resK {R : Type} (u : (LI × Bool)) (K : AV → Blks → Option R) : Option R := K (Fbl.res u).1 (Fbl.res u).2
def Fbl.c (n : Nat) : Abs.Callee := .mk' [] [none, none] Fbl.pat (Fbl.m n) Fbl.resK
end
end
section
theorem Fbl.gmap {α β : Type} (h : β → α) (mk0 : LI → Bool → β) (n : Nat) (a0 : LI) (a1 : LI) : Fbl.g (fun a0 a1 => (h (mk0 a0 a1))) n a0 a1 = (Fbl.g mk0 n a0 a1).map h := by
  unfold Fbl.g
  exact (bindO_map fun r2 => rfl)
theorem Fbl.run (n : Nat) (a0 : LI) (a1 : LI) : runF (Fbl.C n) (Fbl.A n) n Tryd.f84 [(.ints .u64 4 a0), (.ints .u64 4 a1)] [] (fun v o => some (v, o)) = Fbl.g (fun a0 a1 => (((.tup [(.ints .u64 4 a0), (.bool a1)]), []) : AV × Blks)) n a0 a1 := by kernel_rfl
theorem Fbl.call (hmix : Tryd.prog.follows .mixedOrders = true) (n : Nat) (t : (LI × LI)) (u) (h : Fbl.m n t = some u) : FnC Tryd.prog abiG 84 (Fbl.shape t).1 (Fbl.shape t).2 (Fbl.res u).1 (Fbl.res u).2 :=
  fnC1 (C := Fbl.C n) (A := Fbl.A n) (fn := Tryd.f84) rfl (.cons (Fq.s hmix n) .nil) hmix Tryd.func84 (by kernel_rfl) (lp := []) (by kernel_rfl) .nil
  (nj rfl) (by decide) rfl rfl (by show 2 ≤ Tryd.f84.ntmps; decide) (Fbl.run n t.1 t.2) (Fbl.gmap Fbl.res (fun a0 a1 => (a0, a1)) n t.1 t.2) h
theorem Fbl.s (hmix : Tryd.prog.follows .mixedOrders = true) (n : Nat) : CalleeS Tryd.prog abiG 84 (Fbl.c n) :=
  .mk1 (res := Fbl.res) (shape := Fbl.shape) (fun R u K => rfl) (fun _ _ _ h => by unfold Fbl.pat at h; split at h <;> cases h; rfl) (fun t u h => Fbl.call hmix n t u h) Tryd.func84 (by decide) (by kernel_rfl)
end
section
noncomputable section
noncomputable def Fax.C (n : Nat) : Ctx := ⟨Tryd.prog, abiG, lookC [], fun _ => false⟩
noncomputable def Fax.A (n : Nat) : Ann := ⟨Tryd.f64.ntmps, 0, noNL, [], [none, none], fun k => match k with
 | _ => none, noNL, lookJ []⟩
def Fax.g {α : Type} (mk0 : Int → Bool → α) (n : Nat) (a0 : LI) : Option α :=
 if ((List.getD a0 1 0) != 0) = true then
  some (mk0 0 false)
 else
  if ((List.getD a0 2 0) != 0) = true then
   some (mk0 0 false)
  else
   if ((List.getD a0 3 0) != 0) = true then
    some (mk0 0 false)
   else
    some (mk0 (List.getD a0 0 0) true)
def Fax.m (n : Nat) (t : LI) : Option (Int × Bool) := Fax.g (fun a0 a1 => (a0, a1)) n t
def Fax.pat : List AV → Blks → Option LI
 | [(.ints .u64 4 a0)], [] => some a0
 | _, _ => none
def Fax.shape (t : LI) : List AV × Blks := ([(.ints .u64 4 t)], [])
def Fax.res : (Int × Bool) → AV × Blks
 | u => ((.tup [(.int .u64 u.1), (.bool u.2)]), [])
def Fax.resK {R : Type} (u : (Int × Bool)) (K : AV → Blks → Option R) : Option R := K (Fax.res u).1 (Fax.res u).2
def Fax.c (n : Nat) : Abs.Callee := .mk' [] [none] Fax.pat (Fax.m n) Fax.resK
end
end
section
noncomputable section
noncomputable def Fcf.C (n : Nat) : Ctx := ⟨Tryd.prog, abiG, lookC [(64, Fax.c n)], fun _ => false⟩
noncomputable def Fcf.A (n : Nat) : Ann := ⟨Tryd.f115.ntmps, 0, noNL, [], [none], fun k => match k with
 | _ => none, noNL, lookJ []⟩
def Fcf.g {α : Type} (mk0 : Int → α) (n : Nat) (a0 : LI) : Option α :=
 bindO (Fax.m n a0) fun r2 =>
  if (!r2.2) = true then
   some (mk0 256)
  else
   if (decide (r2.1 > 256)) = true then
    some (mk0 256)
   else
    some (mk0 (IntKind.wrap .i64 r2.1))
def Fcf.m (n : Nat) (t : LI) : Option Int := Fcf.g (fun a0 => a0) n t
def Fcf.pat : List AV → Blks → Option LI
 | [(.ints .u64 4 a0)], [] => some a0
 | _, _ => none
def Fcf.shape (t : LI) : List AV × Blks := ([(.ints .u64 4 t)], [])
def Fcf.res : Int → AV × Blks
 | u => ((.int .i64 u), [])
def Fcf.resK {R : Type} (u : Int) (K : AV → Blks → Option R) : Option R := K (Fcf.res u).1 (Fcf.res u).2
def Fcf.c (n : Nat) : Abs.Callee := .mk' [] [none] Fcf.pat (Fcf.m n) Fcf.resK
end
end
section
noncomputable section
noncomputable def Fbm.C (n : Nat) : Ctx := ⟨Tryd.prog, abiG, lookC [], fun _ => false⟩
noncomputable def Fbm.A (n : Nat) : Ann := ⟨Tryd.f129.ntmps, 0, noNL, [], [none], fun k => match k with
 | _ => none, noNL, lookJ []⟩
def Fbm.g {α : Type} (mk0 : LI → α) (n : Nat) (a0 : LI) (a1 : Int) (a2 : Bool) : Option α :=
 if 0 ≤ (IntKind.wrap .u64 (Int.tmod a1 64)) then
  if a2 = true then
   if 0 ≤ (IntKind.wrap .i64 (Int.tdiv a1 64)) then
    if (IntKind.wrap .i64 (Int.tdiv a1 64)) < 4 then
     if 0 ≤ (IntKind.wrap .i64 (Int.tdiv a1 64)) then
      if (IntKind.wrap .i64 (Int.tdiv a1 64)) < 4 then
       some (mk0 (List.set a0 (Int.toNat (IntKind.wrap .i64 (Int.tdiv a1 64))) (ibits BinOp.or .u64 (List.getD a0 (Int.toNat (IntKind.wrap .i64 (Int.tdiv a1 64))) 0) (ishl .u64 1 (IntKind.wrap .u64 (Int.tmod a1 64))))))
      else
       none
     else
      none
    else
     none
   else
    none
  else
   if 0 ≤ (IntKind.wrap .i64 (Int.tdiv a1 64)) then
    if (IntKind.wrap .i64 (Int.tdiv a1 64)) < 4 then
     if 0 ≤ (IntKind.wrap .i64 (Int.tdiv a1 64)) then
      if (IntKind.wrap .i64 (Int.tdiv a1 64)) < 4 then
       some (mk0 (List.set a0 (Int.toNat (IntKind.wrap .i64 (Int.tdiv a1 64))) (ibits BinOp.andNot .u64 (List.getD a0 (Int.toNat (IntKind.wrap .i64 (Int.tdiv a1 64))) 0) (ishl .u64 1 (IntKind.wrap .u64 (Int.tmod a1 64))))))
      else
       none
     else
      none
    else
     none
   else
    none
 else
  none
def Fbm.m (n : Nat) (t : (LI × (Int × Bool))) : Option LI := Fbm.g (fun a0 => a0) n t.1 t.2.1 t.2.2
def Fbm.pat : List AV → Blks → Option (LI × (Int × Bool))
 | [(.ints .u64 4 a0), (.int .i64 a1), (.bool a2)], [] => some (a0, a1, a2)
 | _, _ => none
def Fbm.shape (t : (LI × (Int × Bool))) : List AV × Blks := ([(.ints .u64 4 t.1), (.int .i64 t.2.1), (.bool t.2.2)], [])
def Fbm.res : LI → AV × Blks
 | u => ((.ints .u64 4 u), [])
def Fbm.resK {R : Type} (u : LI) (K : AV → Blks → Option R) : Option R := K (Fbm.res u).1 (Fbm.res u).2
def Fbm.c (n : Nat) : Abs.Callee := .mk' [] [none, none, none] Fbm.pat (Fbm.m n) Fbm.resK
end
end
section
noncomputable section
noncomputable def Fay.C (n : Nat) : Ctx := ⟨Tryd.prog, abiG, lookC [(128, Fcb.c n), (129, Fbm.c n)], fun _ => false⟩
def Fay.live : NL := fun k => match k with
 | 3 => ([8, 2, 1, 3, 7, 6], [7, 6])
 | _ => ([], [])
def Fay.l3_0.r {α : Type} (mk0 : LI → LI → α) (n : Nat) (rc : Int → Bool → Int → LI → LI → LI → Option α)  (x0 : Int) (x1 : Bool) (x2 : Int) (x3 : LI) (x4 : LI) (x5 : LI) : Option α :=
  if (decide (x0 < 256)) = true then
   if (decide ((IntKind.wrap .i64 (x0 - x2)) ≥ 0)) = true then
    if (decide ((IntKind.wrap .i64 (x0 - x2)) < 256)) = true then
     bindO (Fcb.m n (x3, (IntKind.wrap .i64 (x0 - x2)))) fun r10 =>
      bindO (Fbm.m n (x4, x0, r10)) fun r12 =>
       rc (IntKind.wrap .i64 (x0 + 1)) x1 x2 x3 r12 x5
    else
     bindO (Fbm.m n (x4, x0, x1)) fun r10 =>
      rc (IntKind.wrap .i64 (x0 + 1)) x1 x2 x3 r10 x5
   else
    bindO (Fbm.m n (x4, x0, x1)) fun r8 =>
     rc (IntKind.wrap .i64 (x0 + 1)) x1 x2 x3 r8 x5
  else
   some (mk0 x4 x5)
def Fay.l3_0.g {α : Type} (mk0 : LI → LI → α) (n : Nat) : Nat → Int → Bool → Int → LI → LI → LI → Option α
 | 0, _, _, _, _, _, _ => none
 | m + 1, x0, x1, x2, x3, x4, x5 => Fay.l3_0.r mk0 n (fun y0 y1 y2 y3 y4 y5 => Fay.l3_0.g mk0 n m y0 y1 y2 y3 y4 y5)  x0 x1 x2 x3 x4 x5
def Fay.l3_0.m (n m : Nat) (t : (Int × (Bool × (Int × (LI × (LI × LI)))))) : Option (LI × LI) := Fay.l3_0.g (fun a0 a1 => (a0, a1)) n m t.1 t.2.1 t.2.2.1 t.2.2.2.1 t.2.2.2.2.1 t.2.2.2.2.2
def Fay.l3_0.pat : St → Option (Int × (Bool × (Int × (LI × (LI × LI)))))
 | (St.mk [(.int .i64 x0), (.bool x1), (.int .i64 x2), (.ptr 0 []), (.ptr 1 []), (.ptr 2 [])] [(some (.var (.ints .u64 4 x3))), (some (.var (.ints .u64 4 x4))), (some (.var (.ints .u64 4 x5)))]) => some (x0, x1, x2, x3, x4, x5)
 | _ => none
def Fay.l3_0.shape (t : (Int × (Bool × (Int × (LI × (LI × LI)))))) : St := (St.mk [(.int .i64 t.1), (.bool t.2.1), (.int .i64 t.2.2.1), (.ptr 0 []), (.ptr 1 []), (.ptr 2 [])] [(some (.var (.ints .u64 4 t.2.2.2.1))), (some (.var (.ints .u64 4 t.2.2.2.2.1))), (some (.var (.ints .u64 4 t.2.2.2.2.2)))])
def Fay.l3_0.res : (LI × LI) → Ex × St
 | u => ((.exit 0), (St.mk [(.ptr 0 []), (.ptr 1 [])] [(some (.var (.ints .u64 4 u.1))), (some (.var (.ints .u64 4 u.2)))]))
def Fay.l3_0.resK {R : Type} (u : (LI × LI)) (K : Ex → St → Option R) : Option R := K (Fay.l3_0.res u).1 (Fay.l3_0.res u).2
noncomputable def Fay.A (n : Nat) : Ann := ⟨Tryd.f114.ntmps, 0, Fay.live, [], [none], fun k => match k with
 | 3 => some (.mk' Fay.l3_0.pat (Fay.l3_0.m n n) Fay.l3_0.resK)
 | _ => none, noNL, lookJ []⟩
noncomputable def Fay.b0 : Code := (loopsIn (Tryd.f114.body.getD .skip)).getD 0 .skip
def Fay.g {α : Type} (mk0 : LI → α) (n : Nat) (a0 : LI) (a1 : Int) (a2 : Bool) : Option α :=
 bindO (Fay.l3_0.m n n (0, a2, a1, a0, [0, 0, 0, 0], [0, 0, 0, 0])) fun r2 =>
  some (mk0 r2.1)
def Fay.m (n : Nat) (t : (LI × (Int × Bool))) : Option LI := Fay.g (fun a0 => a0) n t.1 t.2.1 t.2.2
def Fay.pat : List AV → Blks → Option (LI × (Int × Bool))
 | [(.ints .u64 4 a0), (.int .i64 a1), (.bool a2)], [] => some (a0, a1, a2)
 | _, _ => none
def Fay.shape (t : (LI × (Int × Bool))) : List AV × Blks := ([(.ints .u64 4 t.1), (.int .i64 t.2.1), (.bool t.2.2)], [])
def Fay.res : LI → AV × Blks
 | u => ((.ints .u64 4 u), [])
def Fay.resK {R : Type} (u : LI) (K : AV → Blks → Option R) : Option R := K (Fay.res u).1 (Fay.res u).2
def Fay.c (n : Nat) : Abs.Callee := .mk' [] [none, none, none] Fay.pat (Fay.m n) Fay.resK
end
end
section
theorem Fax.gmap {α β : Type} (h : β → α) (mk0 : Int → Bool → β) (n : Nat) (a0 : LI) : Fax.g (fun a0 a1 => (h (mk0 a0 a1))) n a0 = (Fax.g mk0 n a0).map h := by
  unfold Fax.g
  exact (ite_map rfl (ite_map rfl (ite_map rfl rfl)))
theorem Fax.run (n : Nat) (a0 : LI) : runF (Fax.C n) (Fax.A n) n Tryd.f64 [(.ints .u64 4 a0)] [] (fun v o => some (v, o)) = Fax.g (fun a0 a1 => (((.tup [(.int .u64 a0), (.bool a1)]), []) : AV × Blks)) n a0 := by kernel_rfl
theorem Fax.call (hmix : Tryd.prog.follows .mixedOrders = true) (n : Nat) (t : LI) (u) (h : Fax.m n t = some u) : FnC Tryd.prog abiG 64 (Fax.shape t).1 (Fax.shape t).2 (Fax.res u).1 (Fax.res u).2 :=
  fnC1 (C := Fax.C n) (A := Fax.A n) (fn := Tryd.f64) rfl .nil hmix Tryd.func64 (by kernel_rfl) (lp := []) (by kernel_rfl) .nil
  (nj rfl) (by decide) rfl rfl (by show 1 ≤ Tryd.f64.ntmps; decide) (Fax.run n t) (Fax.gmap Fax.res (fun a0 a1 => (a0, a1)) n t) h
theorem Fax.s (hmix : Tryd.prog.follows .mixedOrders = true) (n : Nat) : CalleeS Tryd.prog abiG 64 (Fax.c n) :=
  .mk1 (res := Fax.res) (shape := Fax.shape) (fun R u K => rfl) (fun _ _ _ h => by unfold Fax.pat at h; split at h <;> cases h; rfl) (fun t u h => Fax.call hmix n t u h) Tryd.func64 (by decide) (by kernel_rfl)
end
section
theorem Fcf.gmap {α β : Type} (h : β → α) (mk0 : Int → β) (n : Nat) (a0 : LI) : Fcf.g (fun a0 => (h (mk0 a0))) n a0 = (Fcf.g mk0 n a0).map h := by
  unfold Fcf.g
  exact (bindO_map fun r2 => (ite_map rfl (ite_map rfl rfl)))
theorem Fcf.run (n : Nat) (a0 : LI) : runF (Fcf.C n) (Fcf.A n) n Tryd.f115 [(.ints .u64 4 a0)] [] (fun v o => some (v, o)) = Fcf.g (fun a0 => (((.int .i64 a0), []) : AV × Blks)) n a0 := by kernel_rfl
theorem Fcf.call (hmix : Tryd.prog.follows .mixedOrders = true) (n : Nat) (t : LI) (u) (h : Fcf.m n t = some u) : FnC Tryd.prog abiG 115 (Fcf.shape t).1 (Fcf.shape t).2 (Fcf.res u).1 (Fcf.res u).2 :=
  fnC1 (C := Fcf.C n) (A := Fcf.A n) (fn := Tryd.f115) rfl (.cons (Fax.s hmix n) .nil) hmix Tryd.func115 (by kernel_rfl) (lp := []) (by kernel_rfl) .nil
  (nj rfl) (by decide) rfl rfl (by show 1 ≤ Tryd.f115.ntmps; decide) (Fcf.run n t) (Fcf.gmap Fcf.res (fun a0 => a0) n t) h
theorem Fcf.s (hmix : Tryd.prog.follows .mixedOrders = true) (n : Nat) : CalleeS Tryd.prog abiG 115 (Fcf.c n) :=
  .mk1 (res := Fcf.res) (shape := Fcf.shape) (fun R u K => rfl) (fun _ _ _ h => by unfold Fcf.pat at h; split at h <;> cases h; rfl) (fun t u h => Fcf.call hmix n t u h) Tryd.func115 (by decide) (by kernel_rfl)
end
section
theorem Fbm.gmap {α β : Type} (h : β → α) (mk0 : LI → β) (n : Nat) (a0 : LI) (a1 : Int) (a2 : Bool) : Fbm.g (fun a0 => (h (mk0 a0))) n a0 a1 a2 = (Fbm.g mk0 n a0 a1 a2).map h := by
  unfold Fbm.g
  exact (ite_map (ite_map (ite_map (ite_map (ite_map (ite_map rfl rfl) rfl) rfl) rfl) (ite_map (ite_map (ite_map (ite_map rfl rfl) rfl) rfl) rfl)) rfl)
theorem Fbm.run (n : Nat) (a0 : LI) (a1 : Int) (a2 : Bool) : runF (Fbm.C n) (Fbm.A n) n Tryd.f129 [(.ints .u64 4 a0), (.int .i64 a1), (.bool a2)] [] (fun v o => some (v, o)) = Fbm.g (fun a0 => (((.ints .u64 4 a0), []) : AV × Blks)) n a0 a1 a2 := by kernel_rfl
theorem Fbm.call (hmix : Tryd.prog.follows .mixedOrders = true) (n : Nat) (t : (LI × (Int × Bool))) (u) (h : Fbm.m n t = some u) : FnC Tryd.prog abiG 129 (Fbm.shape t).1 (Fbm.shape t).2 (Fbm.res u).1 (Fbm.res u).2 :=
  fnC1 (C := Fbm.C n) (A := Fbm.A n) (fn := Tryd.f129) rfl .nil hmix Tryd.func129 (by kernel_rfl) (lp := []) (by kernel_rfl) .nil
  (nj rfl) (by decide) rfl rfl (by show 3 ≤ Tryd.f129.ntmps; decide) (Fbm.run n t.1 t.2.1 t.2.2) (Fbm.gmap Fbm.res (fun a0 => a0) n t.1 t.2.1 t.2.2) h
theorem Fbm.s (hmix : Tryd.prog.follows .mixedOrders = true) (n : Nat) : CalleeS Tryd.prog abiG 129 (Fbm.c n) :=
  .mk1 (res := Fbm.res) (shape := Fbm.shape) (fun R u K => rfl) (fun _ _ _ h => by unfold Fbm.pat at h; split at h <;> cases h; rfl) (fun t u h => Fbm.call hmix n t u h) Tryd.func129 (by decide) (by kernel_rfl)
end
section
noncomputable abbrev Fay.R0 (n : Nat) := roundOf (Fay.C n) (Fay.A n) n Fay.b0
theorem Fay.l3_0.rmap {α β : Type} (h : β → α) (mk0 : LI → LI → β) (n : Nat) (f : Int → Bool → Int → LI → LI → LI → Option β)  (x0 : Int) (x1 : Bool) (x2 : Int) (x3 : LI) (x4 : LI) (x5 : LI) : Fay.l3_0.r (fun a0 a1 => (h (mk0 a0 a1))) n (fun y0 y1 y2 y3 y4 y5 => (f y0 y1 y2 y3 y4 y5).map h) x0 x1 x2 x3 x4 x5 = (Fay.l3_0.r mk0 n f x0 x1 x2 x3 x4 x5).map h := by
  unfold Fay.l3_0.r
  exact (ite_map (ite_map (ite_map (bindO_map fun r10 => (bindO_map fun r12 => rfl)) (bindO_map fun r10 => rfl)) (bindO_map fun r8 => rfl)) rfl)
theorem Fay.l3_0.gmap {α β : Type} (h : β → α) (mk0 : LI → LI → β) (n : Nat) : ∀ (m : Nat) (x0 : Int) (x1 : Bool) (x2 : Int) (x3 : LI) (x4 : LI) (x5 : LI), Fay.l3_0.g (fun a0 a1 => (h (mk0 a0 a1))) n m x0 x1 x2 x3 x4 x5 = (Fay.l3_0.g mk0 n m x0 x1 x2 x3 x4 x5).map h
  | 0, _, _, _, _, _, _ => rfl
  | m + 1, x0, x1, x2, x3, x4, x5 => by
    unfold Fay.l3_0.g
    rw [← Fay.l3_0.rmap]
    congr
    · funext y0 y1 y2 y3 y4 y5; exact Fay.l3_0.gmap h mk0 n m y0 y1 y2 y3 y4 y5
theorem Fay.l3_0.pat_shape : ∀ st t, Fay.l3_0.pat st = some t → st = Fay.l3_0.shape t := fun _ _ h => by unfold Fay.l3_0.pat at h; split at h <;> cases h; rfl
def Fay.l3_0.k0 : LI → LI → Ex × St := (fun a0 a1 => (((.exit 0), (St.mk [(.ptr 0 []), (.ptr 1 [])] [(some (.var (.ints .u64 4 a0))), (some (.var (.ints .u64 4 a1)))])) : Ex × St))
theorem Fay.l3_0.round (n : Nat) (rc : St → Option (Ex × St)) (x0 : Int) (x1 : Bool) (x2 : Int) (x3 : LI) (x4 : LI) (x5 : LI) : Fay.R0 n rc ((St.mk [(.int .i64 x0), (.bool x1), (.int .i64 x2), (.ptr 0 []), (.ptr 1 []), (.ptr 2 [])] [(some (.var (.ints .u64 4 x3))), (some (.var (.ints .u64 4 x4))), (some (.var (.ints .u64 4 x5)))])) = Fay.l3_0.r Fay.l3_0.k0 n (fun y0 y1 y2 y3 y4 y5 => rc ((St.mk [(.int .i64 y0), (.bool y1), (.int .i64 y2), (.ptr 0 []), (.ptr 1 []), (.ptr 2 [])] [(some (.var (.ints .u64 4 y3))), (some (.var (.ints .u64 4 y4))), (some (.var (.ints .u64 4 y5)))]))) x0 x1 x2 x3 x4 x5 := by kernel_rfl
theorem Fay.l3_0.loop' (n : Nat) : ∀ (m : Nat) (t : (Int × (Bool × (Int × (LI × (LI × LI)))))), loopOf (Fay.R0 n) m (Fay.l3_0.shape t) = Fay.l3_0.g Fay.l3_0.k0 n m t.1 t.2.1 t.2.2.1 t.2.2.2.1 t.2.2.2.2.1 t.2.2.2.2.2 :=
  loop_of_round (shape := Fay.l3_0.shape) (body := Fay.R0 n) (g := fun m t => Fay.l3_0.g Fay.l3_0.k0 n m t.1 t.2.1 t.2.2.1 t.2.2.2.1 t.2.2.2.2.1 t.2.2.2.2.2) (fun t => rfl)
    fun m t ih => (Fay.l3_0.round n (loopOf (Fay.R0 n) m) t.1 t.2.1 t.2.2.1 t.2.2.2.1 t.2.2.2.2.1 t.2.2.2.2.2).trans (congrFun (congrFun (congrFun (congrFun (congrFun (congrFun (congrArg (Fay.l3_0.r Fay.l3_0.k0 n) (funext fun y0 => funext fun y1 => funext fun y2 => funext fun y3 => funext fun y4 => funext fun y5 => ih (y0, y1, y2, y3, y4, y5))) t.1) t.2.1) t.2.2.1) t.2.2.2.1) t.2.2.2.2.1) t.2.2.2.2.2)
theorem Fay.l3_0.loop (n m : Nat) (t : (Int × (Bool × (Int × (LI × (LI × LI)))))) : loopOf (Fay.R0 n) m (Fay.l3_0.shape t) = (Fay.l3_0.m n m t).map Fay.l3_0.res :=
  (Fay.l3_0.loop' n m t).trans (Fay.l3_0.gmap Fay.l3_0.res (fun a0 a1 => (a0, a1)) n m t.1 t.2.1 t.2.2.1 t.2.2.2.1 t.2.2.2.2.1 t.2.2.2.2.2)
theorem Fay.gmap {α β : Type} (h : β → α) (mk0 : LI → β) (n : Nat) (a0 : LI) (a1 : Int) (a2 : Bool) : Fay.g (fun a0 => (h (mk0 a0))) n a0 a1 a2 = (Fay.g mk0 n a0 a1 a2).map h := by
  unfold Fay.g
  exact (bindO_map fun r2 => rfl)
theorem Fay.run (n : Nat) (a0 : LI) (a1 : Int) (a2 : Bool) : runF (Fay.C n) (Fay.A n) n Tryd.f114 [(.ints .u64 4 a0), (.int .i64 a1), (.bool a2)] [] (fun v o => some (v, o)) = Fay.g (fun a0 => (((.ints .u64 4 a0), []) : AV × Blks)) n a0 a1 a2 := by kernel_rfl
theorem Fay.call (hmix : Tryd.prog.follows .mixedOrders = true) (n : Nat) (t : (LI × (Int × Bool))) (u) (h : Fay.m n t = some u) : FnC Tryd.prog abiG 114 (Fay.shape t).1 (Fay.shape t).2 (Fay.res u).1 (Fay.res u).2 :=
  fnC1 (C := Fay.C n) (A := Fay.A n) (fn := Tryd.f114) rfl (.cons (Fcb.s hmix n) (.cons (Fbm.s hmix n) .nil)) hmix Tryd.func114 (by kernel_rfl) (lp := [Fay.b0]) (by kernel_rfl) (.cons (show (Fay.A n).loop (key Fay.b0) = some (.mk' Fay.l3_0.pat (Fay.l3_0.m n n) Fay.l3_0.resK) by kernel_rfl) (LoopS.of (res := Fay.l3_0.res) (fun R u K => rfl) Fay.l3_0.pat_shape fun t => Fay.l3_0.loop n n t)
  .nil)
  (nj rfl) (by decide) rfl rfl (by show 3 ≤ Tryd.f114.ntmps; decide) (Fay.run n t.1 t.2.1 t.2.2) (Fay.gmap Fay.res (fun a0 => a0) n t.1 t.2.1 t.2.2) h
theorem Fay.s (hmix : Tryd.prog.follows .mixedOrders = true) (n : Nat) : CalleeS Tryd.prog abiG 114 (Fay.c n) :=
  .mk1 (res := Fay.res) (shape := Fay.shape) (fun R u K => rfl) (fun _ _ _ h => by unfold Fay.pat at h; split at h <;> cases h; rfl) (fun t u h => Fay.call hmix n t u h) Tryd.func114 (by decide) (by kernel_rfl)
end
section
noncomputable section
noncomputable def Fch.C (n : Nat) : Ctx := ⟨Tryd.prog, abiG, lookC [(115, Fcf.c n), (114, Fay.c n)], fun _ => false⟩
noncomputable def Fch.A (n : Nat) : Ann := ⟨Tryd.f95.ntmps, 0, noNL, [], [none], fun k => match k with
 | _ => none, noNL, lookJ []⟩
def Fch.g {α : Type} (mk0 : LI → α) (n : Nat) (a0 : LI) (a1 : LI) : Option α :=
 bindO (Fcf.m n a0) fun r2 =>
  bindO (Fay.m n (a1, (IntKind.wrap .i64 (0 - r2)), false)) fun r4 =>
   some (mk0 r4)
def Fch.m (n : Nat) (t : (LI × LI)) : Option LI := Fch.g (fun a0 => a0) n t.1 t.2
def Fch.pat : List AV → Blks → Option (LI × LI)
 | [(.ints .u64 4 a0), (.ints .u64 4 a1)], [] => some (a0, a1)
 | _, _ => none
def Fch.shape (t : (LI × LI)) : List AV × Blks := ([(.ints .u64 4 t.1), (.ints .u64 4 t.2)], [])
def Fch.res : LI → AV × Blks
 | u => ((.ints .u64 4 u), [])
def Fch.resK {R : Type} (u : LI) (K : AV → Blks → Option R) : Option R := K (Fch.res u).1 (Fch.res u).2
def Fch.c (n : Nat) : Abs.Callee := .mk' [] [none, none] Fch.pat (Fch.m n) Fch.resK
end
end
section
theorem Fch.gmap {α β : Type} (h : β → α) (mk0 : LI → β) (n : Nat) (a0 : LI) (a1 : LI) : Fch.g (fun a0 => (h (mk0 a0))) n a0 a1 = (Fch.g mk0 n a0 a1).map h := by
  unfold Fch.g
  exact (bindO_map fun r2 => (bindO_map fun r4 => rfl))
theorem Fch.run (n : Nat) (a0 : LI) (a1 : LI) : runF (Fch.C n) (Fch.A n) n Tryd.f95 [(.ints .u64 4 a0), (.ints .u64 4 a1)] [] (fun v o => some (v, o)) = Fch.g (fun a0 => (((.ints .u64 4 a0), []) : AV × Blks)) n a0 a1 := by kernel_rfl
theorem Fch.call (hmix : Tryd.prog.follows .mixedOrders = true) (n : Nat) (t : (LI × LI)) (u) (h : Fch.m n t = some u) : FnC Tryd.prog abiG 95 (Fch.shape t).1 (Fch.shape t).2 (Fch.res u).1 (Fch.res u).2 :=
  fnC1 (C := Fch.C n) (A := Fch.A n) (fn := Tryd.f95) rfl (.cons (Fcf.s hmix n) (.cons (Fay.s hmix n) .nil)) hmix Tryd.func95 (by kernel_rfl) (lp := []) (by kernel_rfl) .nil
  (nj rfl) (by decide) rfl rfl (by show 2 ≤ Tryd.f95.ntmps; decide) (Fch.run n t.1 t.2) (Fch.gmap Fch.res (fun a0 => a0) n t.1 t.2) h
theorem Fch.s (hmix : Tryd.prog.follows .mixedOrders = true) (n : Nat) : CalleeS Tryd.prog abiG 95 (Fch.c n) :=
  .mk1 (res := Fch.res) (shape := Fch.shape) (fun R u K => rfl) (fun _ _ _ h => by unfold Fch.pat at h; split at h <;> cases h; rfl) (fun t u h => Fch.call hmix n t u h) Tryd.func95 (by decide) (by kernel_rfl)
end
section
noncomputable section
noncomputable def Fam.C (n : Nat) : Ctx := ⟨Tryd.prog, abiG, lookC [], fun _ => false⟩
noncomputable def Fam.A (n : Nat) : Ann := ⟨Tryd.f120.ntmps, 0, noNL, [], [none, none], fun k => match k with
 | _ => none, noNL, lookJ []⟩
def Fam.g {α : Type} (mk0 : Int → Bool → α) (n : Nat) (a0 : LI) : Option α :=
 if ((ibits BinOp.or .u64 (ibits BinOp.or .u64 (List.getD a0 1 0) (List.getD a0 2 0)) (List.getD a0 3 0)) != 0) = true then
  some (mk0 0 false)
 else
  some (mk0 (List.getD a0 0 0) true)
def Fam.m (n : Nat) (t : LI) : Option (Int × Bool) := Fam.g (fun a0 a1 => (a0, a1)) n t
def Fam.pat : List AV → Blks → Option LI
 | [(.ints .u64 4 a0)], [] => some a0
 | _, _ => none
def Fam.shape (t : LI) : List AV × Blks := ([(.ints .u64 4 t)], [])
def Fam.res : (Int × Bool) → AV × Blks
 | u => ((.tup [(.int .u64 u.1), (.bool u.2)]), [])
def Fam.resK {R : Type} (u : (Int × Bool)) (K : AV → Blks → Option R) : Option R := K (Fam.res u).1 (Fam.res u).2
def Fam.c (n : Nat) : Abs.Callee := .mk' [] [none] Fam.pat (Fam.m n) Fam.resK
end
end
section
noncomputable section
noncomputable def Fbn.C (n : Nat) : Ctx := ⟨Tryd.prog, abiG, lookC [(120, Fam.c n)], fun _ => false⟩
noncomputable def Fbn.A (n : Nat) : Ann := ⟨Tryd.f113.ntmps, 0, noNL, [], [none], fun k => match k with
 | _ => none, noNL, lookJ []⟩
def Fbn.g {α : Type} (mk0 : Int → α) (n : Nat) (a0 : LI) : Option α :=
 bindO (Fam.m n a0) fun r2 =>
  if (!r2.2) = true then
   some (mk0 256)
  else
   some (mk0 (if 256 < r2.1 then 256 else r2.1))
def Fbn.m (n : Nat) (t : LI) : Option Int := Fbn.g (fun a0 => a0) n t
def Fbn.pat : List AV → Blks → Option LI
 | [(.ints .u64 4 a0)], [] => some a0
 | _, _ => none
def Fbn.shape (t : LI) : List AV × Blks := ([(.ints .u64 4 t)], [])
def Fbn.res : Int → AV × Blks
 | u => ((.int .u64 u), [])
def Fbn.resK {R : Type} (u : Int) (K : AV → Blks → Option R) : Option R := K (Fbn.res u).1 (Fbn.res u).2
def Fbn.c (n : Nat) : Abs.Callee := .mk' [] [none] Fbn.pat (Fbn.m n) Fbn.resK
end
end
section
theorem Fam.gmap {α β : Type} (h : β → α) (mk0 : Int → Bool → β) (n : Nat) (a0 : LI) : Fam.g (fun a0 a1 => (h (mk0 a0 a1))) n a0 = (Fam.g mk0 n a0).map h := by
  unfold Fam.g
  exact (ite_map rfl rfl)
theorem Fam.run (n : Nat) (a0 : LI) : runF (Fam.C n) (Fam.A n) n Tryd.f120 [(.ints .u64 4 a0)] [] (fun v o => some (v, o)) = Fam.g (fun a0 a1 => (((.tup [(.int .u64 a0), (.bool a1)]), []) : AV × Blks)) n a0 := by kernel_rfl
theorem Fam.call (hmix : Tryd.prog.follows .mixedOrders = true) (n : Nat) (t : LI) (u) (h : Fam.m n t = some u) : FnC Tryd.prog abiG 120 (Fam.shape t).1 (Fam.shape t).2 (Fam.res u).1 (Fam.res u).2 :=
  fnC1 (C := Fam.C n) (A := Fam.A n) (fn := Tryd.f120) rfl .nil hmix Tryd.func120 (by kernel_rfl) (lp := []) (by kernel_rfl) .nil
  (nj rfl) (by decide) rfl rfl (by show 1 ≤ Tryd.f120.ntmps; decide) (Fam.run n t) (Fam.gmap Fam.res (fun a0 a1 => (a0, a1)) n t) h
theorem Fam.s (hmix : Tryd.prog.follows .mixedOrders = true) (n : Nat) : CalleeS Tryd.prog abiG 120 (Fam.c n) :=
  .mk1 (res := Fam.res) (shape := Fam.shape) (fun R u K => rfl) (fun _ _ _ h => by unfold Fam.pat at h; split at h <;> cases h; rfl) (fun t u h => Fam.call hmix n t u h) Tryd.func120 (by decide) (by kernel_rfl)
end
section
theorem Fbn.gmap {α β : Type} (h : β → α) (mk0 : Int → β) (n : Nat) (a0 : LI) : Fbn.g (fun a0 => (h (mk0 a0))) n a0 = (Fbn.g mk0 n a0).map h := by
  unfold Fbn.g
  exact (bindO_map fun r2 => (ite_map rfl rfl))
theorem Fbn.run (n : Nat) (a0 : LI) : runF (Fbn.C n) (Fbn.A n) n Tryd.f113 [(.ints .u64 4 a0)] [] (fun v o => some (v, o)) = Fbn.g (fun a0 => (((.int .u64 a0), []) : AV × Blks)) n a0 := by kernel_rfl
theorem Fbn.call (hmix : Tryd.prog.follows .mixedOrders = true) (n : Nat) (t : LI) (u) (h : Fbn.m n t = some u) : FnC Tryd.prog abiG 113 (Fbn.shape t).1 (Fbn.shape t).2 (Fbn.res u).1 (Fbn.res u).2 :=
  fnC1 (C := Fbn.C n) (A := Fbn.A n) (fn := Tryd.f113) rfl (.cons (Fam.s hmix n) .nil) hmix Tryd.func113 (by kernel_rfl) (lp := []) (by kernel_rfl) .nil
  (nj rfl) (by decide) rfl rfl (by show 1 ≤ Tryd.f113.ntmps; decide) (Fbn.run n t) (Fbn.gmap Fbn.res (fun a0 => a0) n t) h
theorem Fbn.s (hmix : Tryd.prog.follows .mixedOrders = true) (n : Nat) : CalleeS Tryd.prog abiG 113 (Fbn.c n) :=
  .mk1 (res := Fbn.res) (shape := Fbn.shape) (fun R u K => rfl) (fun _ _ _ h => by unfold Fbn.pat at h; split at h <;> cases h; rfl) (fun t u h => Fbn.call hmix n t u h) Tryd.func113 (by decide) (by kernel_rfl)
end
section
noncomputable section
noncomputable def Fbo.C (n : Nat) : Ctx := ⟨Tryd.prog, abiG, lookC [(113, Fbn.c n)], fun _ => false⟩
def Fbo.live : NL := fun k => match k with
 | 4 => ([11, 5, 3, 6, 4], [6, 4])
 | _ => ([], [])
def Fbo.l4_0.r {α : Type} (mk0 : LI → LI → α) (n : Nat) (rc : Int → Int → LI → LI → LI → Option α)  (x0 : Int) (x1 : Int) (x2 : LI) (x3 : LI) (x4 : LI) : Option α :=
  if (decide (x0 < 4)) = true then
   if (decide ((IntKind.wrap .i64 (x0 - (IntKind.wrap .i64 (IntKind.wrap .u64 (Int.tdiv x1 64))))) ≥ 0)) = true then
    if 0 ≤ (IntKind.wrap .i64 (x0 - (IntKind.wrap .i64 (IntKind.wrap .u64 (Int.tdiv x1 64))))) then
     if (IntKind.wrap .i64 (x0 - (IntKind.wrap .i64 (IntKind.wrap .u64 (Int.tdiv x1 64))))) < 4 then
      if 0 ≤ (Int.tmod x1 64) then
       if 0 ≤ x0 then
        if x0 < 4 then
         if (decide ((IntKind.wrap .i64 (x0 - (IntKind.wrap .i64 (IntKind.wrap .u64 (Int.tdiv x1 64))))) > 0)) = true then
          if ((Int.tmod x1 64) != 0) = true then
           if 0 ≤ x0 then
            if x0 < 4 then
             if 0 ≤ (IntKind.wrap .i64 ((IntKind.wrap .i64 (x0 - (IntKind.wrap .i64 (IntKind.wrap .u64 (Int.tdiv x1 64))))) - 1)) then
              if (IntKind.wrap .i64 ((IntKind.wrap .i64 (x0 - (IntKind.wrap .i64 (IntKind.wrap .u64 (Int.tdiv x1 64))))) - 1)) < 4 then
               if 0 ≤ (IntKind.wrap .u64 (64 - (Int.tmod x1 64))) then
                if 0 ≤ x0 then
                 if x0 < 4 then
                  rc (IntKind.wrap .i64 (x0 + 1)) x1 x2 (List.set (List.set x3 (Int.toNat x0) (ishl .u64 (List.getD x2 (Int.toNat (IntKind.wrap .i64 (x0 - (IntKind.wrap .i64 (IntKind.wrap .u64 (Int.tdiv x1 64)))))) 0) (Int.tmod x1 64))) (Int.toNat x0) (ibits BinOp.or .u64 (List.getD (List.set x3 (Int.toNat x0) (ishl .u64 (List.getD x2 (Int.toNat (IntKind.wrap .i64 (x0 - (IntKind.wrap .i64 (IntKind.wrap .u64 (Int.tdiv x1 64)))))) 0) (Int.tmod x1 64))) (Int.toNat x0) 0) (ishr .u64 (List.getD x2 (Int.toNat (IntKind.wrap .i64 ((IntKind.wrap .i64 (x0 - (IntKind.wrap .i64 (IntKind.wrap .u64 (Int.tdiv x1 64))))) - 1))) 0) (IntKind.wrap .u64 (64 - (Int.tmod x1 64)))))) x4
                 else
                  none
                else
                 none
               else
                none
              else
               none
             else
              none
            else
             none
           else
            none
          else
           rc (IntKind.wrap .i64 (x0 + 1)) x1 x2 (List.set x3 (Int.toNat x0) (ishl .u64 (List.getD x2 (Int.toNat (IntKind.wrap .i64 (x0 - (IntKind.wrap .i64 (IntKind.wrap .u64 (Int.tdiv x1 64)))))) 0) (Int.tmod x1 64))) x4
         else
          rc (IntKind.wrap .i64 (x0 + 1)) x1 x2 (List.set x3 (Int.toNat x0) (ishl .u64 (List.getD x2 (Int.toNat (IntKind.wrap .i64 (x0 - (IntKind.wrap .i64 (IntKind.wrap .u64 (Int.tdiv x1 64)))))) 0) (Int.tmod x1 64))) x4
        else
         none
       else
        none
      else
       none
     else
      none
    else
     none
   else
    if (decide ((IntKind.wrap .i64 (x0 - (IntKind.wrap .i64 (IntKind.wrap .u64 (Int.tdiv x1 64))))) > 0)) = true then
     if ((Int.tmod x1 64) != 0) = true then
      if 0 ≤ x0 then
       if x0 < 4 then
        if 0 ≤ (IntKind.wrap .i64 ((IntKind.wrap .i64 (x0 - (IntKind.wrap .i64 (IntKind.wrap .u64 (Int.tdiv x1 64))))) - 1)) then
         if (IntKind.wrap .i64 ((IntKind.wrap .i64 (x0 - (IntKind.wrap .i64 (IntKind.wrap .u64 (Int.tdiv x1 64))))) - 1)) < 4 then
          if 0 ≤ (IntKind.wrap .u64 (64 - (Int.tmod x1 64))) then
           if 0 ≤ x0 then
            if x0 < 4 then
             rc (IntKind.wrap .i64 (x0 + 1)) x1 x2 (List.set x3 (Int.toNat x0) (ibits BinOp.or .u64 (List.getD x3 (Int.toNat x0) 0) (ishr .u64 (List.getD x2 (Int.toNat (IntKind.wrap .i64 ((IntKind.wrap .i64 (x0 - (IntKind.wrap .i64 (IntKind.wrap .u64 (Int.tdiv x1 64))))) - 1))) 0) (IntKind.wrap .u64 (64 - (Int.tmod x1 64)))))) x4
            else
             none
           else
            none
          else
           none
         else
          none
        else
         none
       else
        none
      else
       none
     else
      rc (IntKind.wrap .i64 (x0 + 1)) x1 x2 x3 x4
    else
     rc (IntKind.wrap .i64 (x0 + 1)) x1 x2 x3 x4
  else
   some (mk0 x3 x4)
def Fbo.l4_0.g {α : Type} (mk0 : LI → LI → α) (n : Nat) : Nat → Int → Int → LI → LI → LI → Option α
 | 0, _, _, _, _, _ => none
 | m + 1, x0, x1, x2, x3, x4 => Fbo.l4_0.r mk0 n (fun y0 y1 y2 y3 y4 => Fbo.l4_0.g mk0 n m y0 y1 y2 y3 y4)  x0 x1 x2 x3 x4
def Fbo.l4_0.m (n m : Nat) (t : (Int × (Int × (LI × (LI × LI))))) : Option (LI × LI) := Fbo.l4_0.g (fun a0 a1 => (a0, a1)) n m t.1 t.2.1 t.2.2.1 t.2.2.2.1 t.2.2.2.2
def Fbo.l4_0.pat : St → Option (Int × (Int × (LI × (LI × LI))))
 | (St.mk [(.int .i64 x0), (.int .u64 x1), (.ptr 0 []), (.ptr 1 []), (.ptr 2 [])] [(some (.var (.ints .u64 4 x2))), (some (.var (.ints .u64 4 x3))), (some (.var (.ints .u64 4 x4)))]) => some (x0, x1, x2, x3, x4)
 | _ => none
def Fbo.l4_0.shape (t : (Int × (Int × (LI × (LI × LI))))) : St := (St.mk [(.int .i64 t.1), (.int .u64 t.2.1), (.ptr 0 []), (.ptr 1 []), (.ptr 2 [])] [(some (.var (.ints .u64 4 t.2.2.1))), (some (.var (.ints .u64 4 t.2.2.2.1))), (some (.var (.ints .u64 4 t.2.2.2.2)))])
def Fbo.l4_0.res : (LI × LI) → Ex × St
 | u => ((.exit 0), (St.mk [(.ptr 0 []), (.ptr 1 [])] [(some (.var (.ints .u64 4 u.1))), (some (.var (.ints .u64 4 u.2)))]))
def Fbo.l4_0.resK {R : Type} (u : (LI × LI)) (K : Ex → St → Option R) : Option R := K (Fbo.l4_0.res u).1 (Fbo.l4_0.res u).2
noncomputable def Fbo.A (n : Nat) : Ann := ⟨Tryd.f100.ntmps, 0, Fbo.live, [], [none], fun k => match k with
 | 4 => some (.mk' Fbo.l4_0.pat (Fbo.l4_0.m n n) Fbo.l4_0.resK)
 | _ => none, noNL, lookJ []⟩
noncomputable def Fbo.b0 : Code := (loopsIn (Tryd.f100.body.getD .skip)).getD 0 .skip
def Fbo.g {α : Type} (mk0 : LI → α) (n : Nat) (a0 : LI) (a1 : LI) : Option α :=
 bindO (Fbn.m n a0) fun r2 =>
  bindO (Fbo.l4_0.m n n (0, r2, a1, [0, 0, 0, 0], [0, 0, 0, 0])) fun r4 =>
   some (mk0 r4.1)
def Fbo.m (n : Nat) (t : (LI × LI)) : Option LI := Fbo.g (fun a0 => a0) n t.1 t.2
def Fbo.pat : List AV → Blks → Option (LI × LI)
 | [(.ints .u64 4 a0), (.ints .u64 4 a1)], [] => some (a0, a1)
 | _, _ => none
def Fbo.shape (t : (LI × LI)) : List AV × Blks := ([(.ints .u64 4 t.1), (.ints .u64 4 t.2)], [])
def Fbo.res : LI → AV × Blks
 | u => ((.ints .u64 4 u), [])
def Fbo.resK {R : Type} (u : LI) (K : AV → Blks → Option R) : Option R := K (Fbo.res u).1 (Fbo.res u).2
def Fbo.c (n : Nat) : Abs.Callee := .mk' [] [none, none] Fbo.pat (Fbo.m n) Fbo.resK
end
end
section
noncomputable abbrev Fbo.R0 (n : Nat) := roundOf (Fbo.C n) (Fbo.A n) n Fbo.b0
theorem Fbo.l4_0.rmap {α β : Type} (h : β → α) (mk0 : LI → LI → β) (n : Nat) (f : Int → Int → LI → LI → LI → Option β)  (x0 : Int) (x1 : Int) (x2 : LI) (x3 : LI) (x4 : LI) : Fbo.l4_0.r (fun a0 a1 => (h (mk0 a0 a1))) n (fun y0 y1 y2 y3 y4 => (f y0 y1 y2 y3 y4).map h) x0 x1 x2 x3 x4 = (Fbo.l4_0.r mk0 n f x0 x1 x2 x3 x4).map h := by
  unfold Fbo.l4_0.r
  exact (ite_map (ite_map (ite_map (ite_map (ite_map (ite_map (ite_map (ite_map (ite_map (ite_map (ite_map (ite_map (ite_map (ite_map (ite_map (ite_map rfl rfl) rfl) rfl) rfl) rfl) rfl) rfl) rfl) rfl) rfl) rfl) rfl) rfl) rfl) (ite_map (ite_map (ite_map (ite_map (ite_map (ite_map (ite_map (ite_map (ite_map rfl rfl) rfl) rfl) rfl) rfl) rfl) rfl) rfl) rfl)) rfl)
theorem Fbo.l4_0.gmap {α β : Type} (h : β → α) (mk0 : LI → LI → β) (n : Nat) : ∀ (m : Nat) (x0 : Int) (x1 : Int) (x2 : LI) (x3 : LI) (x4 : LI), Fbo.l4_0.g (fun a0 a1 => (h (mk0 a0 a1))) n m x0 x1 x2 x3 x4 = (Fbo.l4_0.g mk0 n m x0 x1 x2 x3 x4).map h
  | 0, _, _, _, _, _ => rfl
  | m + 1, x0, x1, x2, x3, x4 => by
    unfold Fbo.l4_0.g
    rw [← Fbo.l4_0.rmap]
    congr
    · funext y0 y1 y2 y3 y4; exact Fbo.l4_0.gmap h mk0 n m y0 y1 y2 y3 y4
theorem Fbo.l4_0.pat_shape : ∀ st t, Fbo.l4_0.pat st = some t → st = Fbo.l4_0.shape t := fun _ _ h => by unfold Fbo.l4_0.pat at h; split at h <;> cases h; rfl
def Fbo.l4_0.k0 : LI → LI → Ex × St := (fun a0 a1 => (((.exit 0), (St.mk [(.ptr 0 []), (.ptr 1 [])] [(some (.var (.ints .u64 4 a0))), (some (.var (.ints .u64 4 a1)))])) : Ex × St))
theorem Fbo.l4_0.round (n : Nat) (rc : St → Option (Ex × St)) (x0 : Int) (x1 : Int) (x2 : LI) (x3 : LI) (x4 : LI) : Fbo.R0 n rc ((St.mk [(.int .i64 x0), (.int .u64 x1), (.ptr 0 []), (.ptr 1 []), (.ptr 2 [])] [(some (.var (.ints .u64 4 x2))), (some (.var (.ints .u64 4 x3))), (some (.var (.ints .u64 4 x4)))])) = Fbo.l4_0.r Fbo.l4_0.k0 n (fun y0 y1 y2 y3 y4 => rc ((St.mk [(.int .i64 y0), (.int .u64 y1), (.ptr 0 []), (.ptr 1 []), (.ptr 2 [])] [(some (.var (.ints .u64 4 y2))), (some (.var (.ints .u64 4 y3))), (some (.var (.ints .u64 4 y4)))]))) x0 x1 x2 x3 x4 := by kernel_rfl
theorem Fbo.l4_0.loop' (n : Nat) : ∀ (m : Nat) (t : (Int × (Int × (LI × (LI × LI))))), loopOf (Fbo.R0 n) m (Fbo.l4_0.shape t) = Fbo.l4_0.g Fbo.l4_0.k0 n m t.1 t.2.1 t.2.2.1 t.2.2.2.1 t.2.2.2.2 :=
  loop_of_round (shape := Fbo.l4_0.shape) (body := Fbo.R0 n) (g := fun m t => Fbo.l4_0.g Fbo.l4_0.k0 n m t.1 t.2.1 t.2.2.1 t.2.2.2.1 t.2.2.2.2) (fun t => rfl)
    fun m t ih => (Fbo.l4_0.round n (loopOf (Fbo.R0 n) m) t.1 t.2.1 t.2.2.1 t.2.2.2.1 t.2.2.2.2).trans (congrFun (congrFun (congrFun (congrFun (congrFun (congrArg (Fbo.l4_0.r Fbo.l4_0.k0 n) (funext fun y0 => funext fun y1 => funext fun y2 => funext fun y3 => funext fun y4 => ih (y0, y1, y2, y3, y4))) t.1) t.2.1) t.2.2.1) t.2.2.2.1) t.2.2.2.2)
theorem Fbo.l4_0.loop (n m : Nat) (t : (Int × (Int × (LI × (LI × LI))))) : loopOf (Fbo.R0 n) m (Fbo.l4_0.shape t) = (Fbo.l4_0.m n m t).map Fbo.l4_0.res :=
  (Fbo.l4_0.loop' n m t).trans (Fbo.l4_0.gmap Fbo.l4_0.res (fun a0 a1 => (a0, a1)) n m t.1 t.2.1 t.2.2.1 t.2.2.2.1 t.2.2.2.2)
theorem Fbo.gmap {α β : Type} (h : β → α) (mk0 : LI → β) (n : Nat) (a0 : LI) (a1 : LI) : Fbo.g (fun a0 => (h (mk0 a0))) n a0 a1 = (Fbo.g mk0 n a0 a1).map h := by
  unfold Fbo.g
  exact (bindO_map fun r2 => (bindO_map fun r4 => rfl))
theorem Fbo.run (n : Nat) (a0 : LI) (a1 : LI) : runF (Fbo.C n) (Fbo.A n) n Tryd.f100 [(.ints .u64 4 a0), (.ints .u64 4 a1)] [] (fun v o => some (v, o)) = Fbo.g (fun a0 => (((.ints .u64 4 a0), []) : AV × Blks)) n a0 a1 := by kernel_rfl
theorem Fbo.call (hmix : Tryd.prog.follows .mixedOrders = true) (n : Nat) (t : (LI × LI)) (u) (h : Fbo.m n t = some u) : FnC Tryd.prog abiG 100 (Fbo.shape t).1 (Fbo.shape t).2 (Fbo.res u).1 (Fbo.res u).2 :=
  fnC1 (C := Fbo.C n) (A := Fbo.A n) (fn := Tryd.f100) rfl (.cons (Fbn.s hmix n) .nil) hmix Tryd.func100 (by kernel_rfl) (lp := [Fbo.b0]) (by kernel_rfl) (.cons (show (Fbo.A n).loop (key Fbo.b0) = some (.mk' Fbo.l4_0.pat (Fbo.l4_0.m n n) Fbo.l4_0.resK) by kernel_rfl) (LoopS.of (res := Fbo.l4_0.res) (fun R u K => rfl) Fbo.l4_0.pat_shape fun t => Fbo.l4_0.loop n n t)
  .nil)
  (nj rfl) (by decide) rfl rfl (by show 2 ≤ Tryd.f100.ntmps; decide) (Fbo.run n t.1 t.2) (Fbo.gmap Fbo.res (fun a0 => a0) n t.1 t.2) h
theorem Fbo.s (hmix : Tryd.prog.follows .mixedOrders = true) (n : Nat) : CalleeS Tryd.prog abiG 100 (Fbo.c n) :=
  .mk1 (res := Fbo.res) (shape := Fbo.shape) (fun R u K => rfl) (fun _ _ _ h => by unfold Fbo.pat at h; split at h <;> cases h; rfl) (fun t u h => Fbo.call hmix n t u h) Tryd.func100 (by decide) (by kernel_rfl)
end
section
noncomputable section
noncomputable def Faz.C (n : Nat) : Ctx := ⟨Tryd.prog, abiG, lookC [(56, Fae.c n)], fun _ => false⟩
noncomputable def Faz.A (n : Nat) : Ann := ⟨Tryd.f63.ntmps, 0, noNL, [], [none], fun k => match k with
 | _ => none, noNL, lookJ []⟩
def Faz.g {α : Type} (mk0 : LI → α) (n : Nat) (a0 : LI) : Option α :=
 bindO (Fae.m n a0) fun r2 =>
  if 12 ≤ (((List.length r2) : Nat) : Int) then
   if 20 ≤ (Go.Abs.span (List.length r2) 12 (Option.none)) then
    some (mk0 (List.take 20 (List.drop 12 r2)))
   else
    none
  else
   none
def Faz.m (n : Nat) (t : LI) : Option LI := Faz.g (fun a0 => a0) n t
def Faz.pat : List AV → Blks → Option LI
 | [(.ints .u64 4 a0)], [] => some a0
 | _, _ => none
def Faz.shape (t : LI) : List AV × Blks := ([(.ints .u64 4 t)], [])
def Faz.res : LI → AV × Blks
 | u => ((.ints .u8 20 u), [])
def Faz.resK {R : Type} (u : LI) (K : AV → Blks → Option R) : Option R := K (Faz.res u).1 (Faz.res u).2
def Faz.c (n : Nat) : Abs.Callee := .mk' [] [none] Faz.pat (Faz.m n) Faz.resK
end
end
section
theorem Faz.gmap {α β : Type} (h : β → α) (mk0 : LI → β) (n : Nat) (a0 : LI) : Faz.g (fun a0 => (h (mk0 a0))) n a0 = (Faz.g mk0 n a0).map h := by
  unfold Faz.g
  exact (bindO_map fun r2 => (ite_map (ite_map rfl rfl) rfl))
theorem Faz.run (n : Nat) (a0 : LI) : runF (Faz.C n) (Faz.A n) n Tryd.f63 [(.ints .u64 4 a0)] [] (fun v o => some (v, o)) = Faz.g (fun a0 => (((.ints .u8 20 a0), []) : AV × Blks)) n a0 := by kernel_rfl
theorem Faz.call (hmix : Tryd.prog.follows .mixedOrders = true) (n : Nat) (t : LI) (u) (h : Faz.m n t = some u) : FnC Tryd.prog abiG 63 (Faz.shape t).1 (Faz.shape t).2 (Faz.res u).1 (Faz.res u).2 :=
  fnC1 (C := Faz.C n) (A := Faz.A n) (fn := Tryd.f63) rfl (.cons (Fae.s hmix n) .nil) hmix Tryd.func63 (by kernel_rfl) (lp := []) (by kernel_rfl) .nil
  (nj rfl) (by decide) rfl rfl (by show 1 ≤ Tryd.f63.ntmps; decide) (Faz.run n t) (Faz.gmap Faz.res (fun a0 => a0) n t) h
theorem Faz.s (hmix : Tryd.prog.follows .mixedOrders = true) (n : Nat) : CalleeS Tryd.prog abiG 63 (Faz.c n) :=
  .mk1 (res := Faz.res) (shape := Faz.shape) (fun R u K => rfl) (fun _ _ _ h => by unfold Faz.pat at h; split at h <;> cases h; rfl) (fun t u h => Faz.call hmix n t u h) Tryd.func63 (by decide) (by kernel_rfl)
end
section
noncomputable section
noncomputable def Fba.C (n : Nat) : Ctx := ⟨Tryd.prog, abiG, lookC [(89, Fau.c n)], fun _ => false⟩
noncomputable def Fba.A (n : Nat) : Ann := ⟨Tryd.f75.ntmps, 0, noNL, [], [none], fun k => match k with
 | _ => none, noNL, lookJ []⟩
def Fba.g {α : Type} (mk0 : LI → α) (n : Nat) (a0 : LI) : Option α :=
 bindO (Fau.m n (List.take 20 (List.drop 0 a0))) fun r2 =>
  some (mk0 r2)
def Fba.m (n : Nat) (t : LI) : Option LI := Fba.g (fun a0 => a0) n t
def Fba.pat : List AV → Blks → Option LI
 | [(.ints .u8 20 a0)], [] => some a0
 | _, _ => none
def Fba.shape (t : LI) : List AV × Blks := ([(.ints .u8 20 t)], [])
def Fba.res : LI → AV × Blks
 | u => ((.ints .u64 4 u), [])
def Fba.resK {R : Type} (u : LI) (K : AV → Blks → Option R) : Option R := K (Fba.res u).1 (Fba.res u).2
def Fba.c (n : Nat) : Abs.Callee := .mk' [] [none] Fba.pat (Fba.m n) Fba.resK
end
end
section
theorem Fba.gmap {α β : Type} (h : β → α) (mk0 : LI → β) (n : Nat) (a0 : LI) : Fba.g (fun a0 => (h (mk0 a0))) n a0 = (Fba.g mk0 n a0).map h := by
  unfold Fba.g
  exact (bindO_map fun r2 => rfl)
theorem Fba.run (n : Nat) (a0 : LI) : runF (Fba.C n) (Fba.A n) n Tryd.f75 [(.ints .u8 20 a0)] [] (fun v o => some (v, o)) = Fba.g (fun a0 => (((.ints .u64 4 a0), []) : AV × Blks)) n a0 := by kernel_rfl
theorem Fba.call (hmix : Tryd.prog.follows .mixedOrders = true) (n : Nat) (t : LI) (u) (h : Fba.m n t = some u) : FnC Tryd.prog abiG 75 (Fba.shape t).1 (Fba.shape t).2 (Fba.res u).1 (Fba.res u).2 :=
  fnC1 (C := Fba.C n) (A := Fba.A n) (fn := Tryd.f75) rfl (.cons (Fau.s hmix n) .nil) hmix Tryd.func75 (by kernel_rfl) (lp := []) (by kernel_rfl) .nil
  (nj rfl) (by decide) rfl rfl (by show 1 ≤ Tryd.f75.ntmps; decide) (Fba.run n t) (Fba.gmap Fba.res (fun a0 => a0) n t) h
theorem Fba.s (hmix : Tryd.prog.follows .mixedOrders = true) (n : Nat) : CalleeS Tryd.prog abiG 75 (Fba.c n) :=
  .mk1 (res := Fba.res) (shape := Fba.shape) (fun R u K => rfl) (fun _ _ _ h => by unfold Fba.pat at h; split at h <;> cases h; rfl) (fun t u h => Fba.call hmix n t u h) Tryd.func75 (by decide) (by kernel_rfl)
end
section
noncomputable section
noncomputable def Fl.C (n : Nat) : Ctx := ⟨Tryd.prog, abiG, lookC [], fun _ => false⟩
noncomputable def Fl.A (n : Nat) : Ann := ⟨Tryd.f19.ntmps, 0, noNL, [], [none], fun k => match k with
 | _ => none, noNL, lookJ []⟩
def Fl.g {α : Type} (mk0 : Bool → α) (n : Nat) (a0 : LI) (a1 : LI) : Option α :=
 some (mk0 ((ByteArray.toList (Go.Abs.strOf a0)) == (ByteArray.toList (Go.Abs.strOf a1))))
def Fl.m (n : Nat) (t : (LI × LI)) : Option Bool := Fl.g (fun a0 => a0) n t.1 t.2
def Fl.pat : List AV → Blks → Option (LI × LI)
 | [(.rints .u8 a0), (.rints .u8 a1)], [] => some (a0, a1)
 | _, _ => none
def Fl.shape (t : (LI × LI)) : List AV × Blks := ([(.rints .u8 t.1), (.rints .u8 t.2)], [])
def Fl.res : Bool → AV × Blks
 | u => ((.bool u), [])
def Fl.resK {R : Type} (u : Bool) (K : AV → Blks → Option R) : Option R := K (Fl.res u).1 (Fl.res u).2
def Fl.c (n : Nat) : Abs.Callee := .mk' [] [(some (.ints .u8)), (some (.ints .u8))] Fl.pat (Fl.m n) Fl.resK
end
end
section
theorem Fl.gmap {α β : Type} (h : β → α) (mk0 : Bool → β) (n : Nat) (a0 : LI) (a1 : LI) : Fl.g (fun a0 => (h (mk0 a0))) n a0 a1 = (Fl.g mk0 n a0 a1).map h := by
  unfold Fl.g
  exact rfl
theorem Fl.run (n : Nat) (a0 : LI) (a1 : LI) : runF (Fl.C n) (Fl.A n) n Tryd.f19 [(.rints .u8 a0), (.rints .u8 a1)] [] (fun v o => some (v, o)) = Fl.g (fun a0 => (((.bool a0), []) : AV × Blks)) n a0 a1 := by kernel_rfl
theorem Fl.call (hmix : Tryd.prog.follows .mixedOrders = true) (n : Nat) (t : (LI × LI)) (u) (h : Fl.m n t = some u) : FnC Tryd.prog abiG 19 (Fl.shape t).1 (Fl.shape t).2 (Fl.res u).1 (Fl.res u).2 :=
  fnC1 (C := Fl.C n) (A := Fl.A n) (fn := Tryd.f19) rfl .nil hmix Tryd.func19 (by kernel_rfl) (lp := []) (by kernel_rfl) .nil
  (nj rfl) (by decide) rfl rfl (by show 2 ≤ Tryd.f19.ntmps; decide) (Fl.run n t.1 t.2) (Fl.gmap Fl.res (fun a0 => a0) n t.1 t.2) h
theorem Fl.s (hmix : Tryd.prog.follows .mixedOrders = true) (n : Nat) : CalleeS Tryd.prog abiG 19 (Fl.c n) :=
  .mk1 (res := Fl.res) (shape := Fl.shape) (fun R u K => rfl) (fun _ _ _ h => by unfold Fl.pat at h; split at h <;> cases h; rfl) (fun t u h => Fl.call hmix n t u h) Tryd.func19 (by decide) (by kernel_rfl)
end
section
noncomputable section
noncomputable def Fx.C (n : Nat) : Ctx := ⟨Tryd.prog, abiG, lookC [(69, Faw.c n), (56, Fae.c n)], fun _ => false⟩
noncomputable def Fx.A (n : Nat) : Ann := ⟨Tryd.f73.ntmps, 0, noNL, [], [(some (.ints .u8))], fun k => match k with
 | _ => none, noNL, lookJ []⟩
def Fx.g {α : Type} (mk0 : LI → α) (n : Nat) (a0 : Int) : Option α :=
 bindO (Faw.m n a0) fun r2 =>
  bindO (Fae.m n r2) fun r4 =>
   if 16 ≤ (((List.length r4) : Nat) : Int) then
    some (mk0 (Go.Abs.partL r4 16 (Go.Abs.span (List.length r4) 16 (Option.none))))
   else
    none
def Fx.m (n : Nat) (t : Int) : Option LI := Fx.g (fun a0 => a0) n t
def Fx.pat : List AV → Blks → Option Int
 | [(.int .u64 a0)], [] => some a0
 | _, _ => none
def Fx.shape (t : Int) : List AV × Blks := ([(.int .u64 t)], [])
def Fx.res : LI → AV × Blks
 | u => ((.own 0 1), [(some (.ints .u8 u))])
def Fx.resK {R : Type} (u : LI) (K : AV → Blks → Option R) : Option R := K (Fx.res u).1 (Fx.res u).2
def Fx.c (n : Nat) : Abs.Callee := .mk' [] [none] Fx.pat (Fx.m n) Fx.resK
end
end
section
noncomputable section
noncomputable def Fm.C (n : Nat) : Ctx := ⟨Tryd.prog, abiG, lookC [(69, Faw.c n), (100, Fbo.c n), (85, Fbk.c n)], fun _ => false⟩
noncomputable def Fm.A (n : Nat) : Ann := ⟨Tryd.f74.ntmps, 0, noNL, [], [none], fun k => match k with
 | _ => none, noNL, lookJ []⟩
def Fm.g {α : Type} (mk0 : LI → α) (n : Nat) (a0 : LI) (a1 : LI) : Option α :=
 bindO (Faw.m n 128) fun r2 =>
  bindO (Fbo.m n (r2, a0)) fun r4 =>
   bindO (Fbk.m n (r4, a1)) fun r6 =>
    some (mk0 r6.1)
def Fm.m (n : Nat) (t : (LI × LI)) : Option LI := Fm.g (fun a0 => a0) n t.1 t.2
def Fm.pat : List AV → Blks → Option (LI × LI)
 | [(.ints .u64 4 a0), (.ints .u64 4 a1)], [] => some (a0, a1)
 | _, _ => none
def Fm.shape (t : (LI × LI)) : List AV × Blks := ([(.ints .u64 4 t.1), (.ints .u64 4 t.2)], [])
def Fm.res : LI → AV × Blks
 | u => ((.ints .u64 4 u), [])
def Fm.resK {R : Type} (u : LI) (K : AV → Blks → Option R) : Option R := K (Fm.res u).1 (Fm.res u).2
def Fm.c (n : Nat) : Abs.Callee := .mk' [] [none, none] Fm.pat (Fm.m n) Fm.resK
end
end
section
noncomputable section
noncomputable def Fy.C (n : Nat) : Ctx := ⟨Tryd.prog, abiG, lookC [], fun _ => false⟩
noncomputable def Fy.A (n : Nat) : Ann := ⟨Tryd.f68.ntmps, 0, noNL, [], [none], fun k => match k with
 | _ => none, noNL, lookJ []⟩
def Fy.g {α : Type} (mk0 : Bool → LI → α) (n : Nat) (a0 : LI) : Option α :=
 some (mk0 false a0)
def Fy.m (n : Nat) (t : LI) : Option (Bool × LI) := Fy.g (fun a0 a1 => (a0, a1)) n t
def Fy.pat : List AV → Blks → Option LI
 | [(.ints .u64 4 a0)], [] => some a0
 | _, _ => none
def Fy.shape (t : LI) : List AV × Blks := ([(.ints .u64 4 t)], [])
def Fy.res : (Bool × LI) → AV × Blks
 | u => ((.agg [(.bool u.1), (.ints .u64 4 u.2), .snil]), [])
def Fy.resK {R : Type} (u : (Bool × LI)) (K : AV → Blks → Option R) : Option R := K (Fy.res u).1 (Fy.res u).2
def Fy.c (n : Nat) : Abs.Callee := .mk' [] [none] Fy.pat (Fy.m n) Fy.resK
end
end
section
noncomputable section
noncomputable def Fz.C (n : Nat) : Ctx := ⟨Tryd.prog, abiG, lookC [(70, Fp.c n), (73, Fx.c n), (69, Faw.c n), (74, Fm.c n), (75, Fba.c n), (68, Fy.c n)], fun t => t == 41⟩
noncomputable def Fz.A (n : Nat) : Ann := ⟨Tryd.f38.ntmps, 0, noNL, [], [(some (.objs 69 6))], fun k => match k with
 | _ => none, noNL, lookJ []⟩
def Fz.g {α : Type} (mk0 : LA → α) (n : Nat) (a0_0 : LI) (a0_1 : LI) (a0_2 : Bool) (a0_3 : LI) (a0_4 : LI) (a0_5 : LI) (a0_6 : Int) (a0_7 : Int) (a0_8 : Int) (a0_9 : LI) (a0_10 : LI) (a0_11 : Bool) (a0_12 : LI) (a0_13 : Int) (a0_14 : Int) (a0_15 : LI) (a0_16 : LI) : Option α :=
 bindO (Fp.m n []) fun r2 =>
  bindO (Fp.m n []) fun r4 =>
   if a0_2 = true then
    bindO (Fp.m n [(AV.rints .u8 (Go.Abs.cut a0_3 0 (Option.none))), (AV.rints .u8 a0_4)]) fun r8 =>
     if a0_11 = true then
      bindO (Fx.m n a0_13) fun r12 =>
       bindO (Fx.m n a0_14) fun r14 =>
        bindO (Fp.m n [(AV.rints .u8 (Go.Abs.cut a0_12 0 (Option.none))), (AV.rints .u8 r12), (AV.rints .u8 r14), (AV.rints .u8 a0_15)]) fun r16 =>
         bindO (Faw.m n a0_7) fun r18 =>
          bindO (Faw.m n a0_6) fun r20 =>
           bindO (Fm.m n (r18, r20)) fun r22 =>
            bindO (Fba.m n a0_0) fun r24 =>
             bindO (Fy.m n r24) fun r26 =>
              bindO (Fy.m n a0_1) fun r28 =>
               bindO (Fp.m n [(AV.rints .u8 a0_5)]) fun r30 =>
                bindO (Fy.m n r22) fun r32 =>
                 bindO (Faw.m n a0_8) fun r34 =>
                  bindO (Fy.m n r34) fun r36 =>
                   bindO (Fm.m n (a0_10, a0_9)) fun r38 =>
                    bindO (Fy.m n r38) fun r40 =>
                     bindO (Fp.m n [(AV.rints .u8 a0_16)]) fun r42 =>
                      some (mk0 [(AV.agg [(AV.bool r26.1), (AV.ints .u64 4 r26.2), AV.snil]), (AV.agg [(AV.bool r28.1), (AV.ints .u64 4 r28.2), AV.snil]), (AV.agg [(AV.bool r8.1), (AV.ints .u64 4 r8.2.1), (AV.rints .u8 r8.2.2)]), (AV.agg [(AV.bool r30.1), (AV.ints .u64 4 r30.2.1), (AV.rints .u8 r30.2.2)]), (AV.agg [(AV.bool r32.1), (AV.ints .u64 4 r32.2), AV.snil]), (AV.agg [(AV.bool r36.1), (AV.ints .u64 4 r36.2), AV.snil]), (AV.agg [(AV.bool r40.1), (AV.ints .u64 4 r40.2), AV.snil]), (AV.agg [(AV.bool r16.1), (AV.ints .u64 4 r16.2.1), (AV.rints .u8 r16.2.2)]), (AV.agg [(AV.bool r42.1), (AV.ints .u64 4 r42.2.1), (AV.rints .u8 r42.2.2)])])
     else
      bindO (Faw.m n a0_7) fun r12 =>
       bindO (Faw.m n a0_6) fun r14 =>
        bindO (Fm.m n (r12, r14)) fun r16 =>
         bindO (Fba.m n a0_0) fun r18 =>
          bindO (Fy.m n r18) fun r20 =>
           bindO (Fy.m n a0_1) fun r22 =>
            bindO (Fp.m n [(AV.rints .u8 a0_5)]) fun r24 =>
             bindO (Fy.m n r16) fun r26 =>
              bindO (Faw.m n a0_8) fun r28 =>
               bindO (Fy.m n r28) fun r30 =>
                bindO (Fm.m n (a0_10, a0_9)) fun r32 =>
                 bindO (Fy.m n r32) fun r34 =>
                  bindO (Fp.m n [(AV.rints .u8 a0_16)]) fun r36 =>
                   some (mk0 [(AV.agg [(AV.bool r20.1), (AV.ints .u64 4 r20.2), AV.snil]), (AV.agg [(AV.bool r22.1), (AV.ints .u64 4 r22.2), AV.snil]), (AV.agg [(AV.bool r8.1), (AV.ints .u64 4 r8.2.1), (AV.rints .u8 r8.2.2)]), (AV.agg [(AV.bool r24.1), (AV.ints .u64 4 r24.2.1), (AV.rints .u8 r24.2.2)]), (AV.agg [(AV.bool r26.1), (AV.ints .u64 4 r26.2), AV.snil]), (AV.agg [(AV.bool r30.1), (AV.ints .u64 4 r30.2), AV.snil]), (AV.agg [(AV.bool r34.1), (AV.ints .u64 4 r34.2), AV.snil]), (AV.agg [(AV.bool r4.1), (AV.ints .u64 4 r4.2.1), (AV.rints .u8 r4.2.2)]), (AV.agg [(AV.bool r36.1), (AV.ints .u64 4 r36.2.1), (AV.rints .u8 r36.2.2)])])
   else
    if a0_11 = true then
     bindO (Fx.m n a0_13) fun r10 =>
      bindO (Fx.m n a0_14) fun r12 =>
       bindO (Fp.m n [(AV.rints .u8 (Go.Abs.cut a0_12 0 (Option.none))), (AV.rints .u8 r10), (AV.rints .u8 r12), (AV.rints .u8 a0_15)]) fun r14 =>
        bindO (Faw.m n a0_7) fun r16 =>
         bindO (Faw.m n a0_6) fun r18 =>
          bindO (Fm.m n (r16, r18)) fun r20 =>
           bindO (Fba.m n a0_0) fun r22 =>
            bindO (Fy.m n r22) fun r24 =>
             bindO (Fy.m n a0_1) fun r26 =>
              bindO (Fp.m n [(AV.rints .u8 a0_5)]) fun r28 =>
               bindO (Fy.m n r20) fun r30 =>
                bindO (Faw.m n a0_8) fun r32 =>
                 bindO (Fy.m n r32) fun r34 =>
                  bindO (Fm.m n (a0_10, a0_9)) fun r36 =>
                   bindO (Fy.m n r36) fun r38 =>
                    bindO (Fp.m n [(AV.rints .u8 a0_16)]) fun r40 =>
                     some (mk0 [(AV.agg [(AV.bool r24.1), (AV.ints .u64 4 r24.2), AV.snil]), (AV.agg [(AV.bool r26.1), (AV.ints .u64 4 r26.2), AV.snil]), (AV.agg [(AV.bool r2.1), (AV.ints .u64 4 r2.2.1), (AV.rints .u8 r2.2.2)]), (AV.agg [(AV.bool r28.1), (AV.ints .u64 4 r28.2.1), (AV.rints .u8 r28.2.2)]), (AV.agg [(AV.bool r30.1), (AV.ints .u64 4 r30.2), AV.snil]), (AV.agg [(AV.bool r34.1), (AV.ints .u64 4 r34.2), AV.snil]), (AV.agg [(AV.bool r38.1), (AV.ints .u64 4 r38.2), AV.snil]), (AV.agg [(AV.bool r14.1), (AV.ints .u64 4 r14.2.1), (AV.rints .u8 r14.2.2)]), (AV.agg [(AV.bool r40.1), (AV.ints .u64 4 r40.2.1), (AV.rints .u8 r40.2.2)])])
    else
     bindO (Faw.m n a0_7) fun r10 =>
      bindO (Faw.m n a0_6) fun r12 =>
       bindO (Fm.m n (r10, r12)) fun r14 =>
        bindO (Fba.m n a0_0) fun r16 =>
         bindO (Fy.m n r16) fun r18 =>
          bindO (Fy.m n a0_1) fun r20 =>
           bindO (Fp.m n [(AV.rints .u8 a0_5)]) fun r22 =>
            bindO (Fy.m n r14) fun r24 =>
             bindO (Faw.m n a0_8) fun r26 =>
              bindO (Fy.m n r26) fun r28 =>
               bindO (Fm.m n (a0_10, a0_9)) fun r30 =>
                bindO (Fy.m n r30) fun r32 =>
                 bindO (Fp.m n [(AV.rints .u8 a0_16)]) fun r34 =>
                  some (mk0 [(AV.agg [(AV.bool r18.1), (AV.ints .u64 4 r18.2), AV.snil]), (AV.agg [(AV.bool r20.1), (AV.ints .u64 4 r20.2), AV.snil]), (AV.agg [(AV.bool r2.1), (AV.ints .u64 4 r2.2.1), (AV.rints .u8 r2.2.2)]), (AV.agg [(AV.bool r22.1), (AV.ints .u64 4 r22.2.1), (AV.rints .u8 r22.2.2)]), (AV.agg [(AV.bool r24.1), (AV.ints .u64 4 r24.2), AV.snil]), (AV.agg [(AV.bool r28.1), (AV.ints .u64 4 r28.2), AV.snil]), (AV.agg [(AV.bool r32.1), (AV.ints .u64 4 r32.2), AV.snil]), (AV.agg [(AV.bool r4.1), (AV.ints .u64 4 r4.2.1), (AV.rints .u8 r4.2.2)]), (AV.agg [(AV.bool r34.1), (AV.ints .u64 4 r34.2.1), (AV.rints .u8 r34.2.2)])])
def Fz.m (n : Nat) (t : (LI × (LI × (Bool × (LI × (LI × (LI × (Int × (Int × (Int × (LI × (LI × (Bool × (LI × (Int × (Int × (LI × LI))))))))))))))))) : Option LA := Fz.g (fun a0 => a0) n t.1 t.2.1 t.2.2.1 t.2.2.2.1 t.2.2.2.2.1 t.2.2.2.2.2.1 t.2.2.2.2.2.2.1 t.2.2.2.2.2.2.2.1 t.2.2.2.2.2.2.2.2.1 t.2.2.2.2.2.2.2.2.2.1 t.2.2.2.2.2.2.2.2.2.2.1 t.2.2.2.2.2.2.2.2.2.2.2.1 t.2.2.2.2.2.2.2.2.2.2.2.2.1 t.2.2.2.2.2.2.2.2.2.2.2.2.2.1 t.2.2.2.2.2.2.2.2.2.2.2.2.2.2.1 t.2.2.2.2.2.2.2.2.2.2.2.2.2.2.2.1 t.2.2.2.2.2.2.2.2.2.2.2.2.2.2.2.2
def Fz.pat : List AV → Blks → Option (LI × (LI × (Bool × (LI × (LI × (LI × (Int × (Int × (Int × (LI × (LI × (Bool × (LI × (Int × (Int × (LI × LI))))))))))))))))
 | [(.agg [(.ints .u8 20 a0_0), (.ints .u64 4 a0_1), (.bool a0_2), (.ints .u8 20 a0_3), (.rints .u8 a0_4), (.rints .u8 a0_5), (.int .u64 a0_6), (.int .u64 a0_7), (.int .u64 a0_8), (.ints .u64 4 a0_9), (.ints .u64 4 a0_10), (.bool a0_11), (.ints .u8 20 a0_12), (.int .u64 a0_13), (.int .u64 a0_14), (.rints .u8 a0_15), (.rints .u8 a0_16)])], [] => some (a0_0, a0_1, a0_2, a0_3, a0_4, a0_5, a0_6, a0_7, a0_8, a0_9, a0_10, a0_11, a0_12, a0_13, a0_14, a0_15, a0_16)
 | _, _ => none
def Fz.shape (t : (LI × (LI × (Bool × (LI × (LI × (LI × (Int × (Int × (Int × (LI × (LI × (Bool × (LI × (Int × (Int × (LI × LI))))))))))))))))) : List AV × Blks := ([(.agg [(.ints .u8 20 t.1), (.ints .u64 4 t.2.1), (.bool t.2.2.1), (.ints .u8 20 t.2.2.2.1), (.rints .u8 t.2.2.2.2.1), (.rints .u8 t.2.2.2.2.2.1), (.int .u64 t.2.2.2.2.2.2.1), (.int .u64 t.2.2.2.2.2.2.2.1), (.int .u64 t.2.2.2.2.2.2.2.2.1), (.ints .u64 4 t.2.2.2.2.2.2.2.2.2.1), (.ints .u64 4 t.2.2.2.2.2.2.2.2.2.2.1), (.bool t.2.2.2.2.2.2.2.2.2.2.2.1), (.ints .u8 20 t.2.2.2.2.2.2.2.2.2.2.2.2.1), (.int .u64 t.2.2.2.2.2.2.2.2.2.2.2.2.2.1), (.int .u64 t.2.2.2.2.2.2.2.2.2.2.2.2.2.2.1), (.rints .u8 t.2.2.2.2.2.2.2.2.2.2.2.2.2.2.2.1), (.rints .u8 t.2.2.2.2.2.2.2.2.2.2.2.2.2.2.2.2)])], [])
def Fz.res : LA → AV × Blks
 | u => ((.robjs 69 6 u), [])
def Fz.resK {R : Type} (u : LA) (K : AV → Blks → Option R) : Option R := K (Fz.res u).1 (Fz.res u).2
def Fz.c (n : Nat) : Abs.Callee := .mk' [] [(some (.agg [none, none, none, none, (some (.ints .u8)), (some (.ints .u8)), none, none, none, none, none, none, none, none, none, (some (.ints .u8)), (some (.ints .u8))]))] Fz.pat (Fz.m n) Fz.resK
end
end
section
theorem Fx.gmap {α β : Type} (h : β → α) (mk0 : LI → β) (n : Nat) (a0 : Int) : Fx.g (fun a0 => (h (mk0 a0))) n a0 = (Fx.g mk0 n a0).map h := by
  unfold Fx.g
  exact (bindO_map fun r2 => (bindO_map fun r4 => (ite_map rfl rfl)))
theorem Fx.run (n : Nat) (a0 : Int) : runF (Fx.C n) (Fx.A n) n Tryd.f73 [(.int .u64 a0)] [] (fun v o => some (v, o)) = Fx.g (fun a0 => (((.own 0 1), [(some (.ints .u8 a0))]) : AV × Blks)) n a0 := by kernel_rfl
theorem Fx.call (hmix : Tryd.prog.follows .mixedOrders = true) (n : Nat) (t : Int) (u) (h : Fx.m n t = some u) : FnC Tryd.prog abiG 73 (Fx.shape t).1 (Fx.shape t).2 (Fx.res u).1 (Fx.res u).2 :=
  fnC1 (C := Fx.C n) (A := Fx.A n) (fn := Tryd.f73) rfl (.cons (Faw.s hmix n) (.cons (Fae.s hmix n) .nil)) hmix Tryd.func73 (by kernel_rfl) (lp := []) (by kernel_rfl) .nil
  (nj rfl) (by decide) rfl rfl (by show 1 ≤ Tryd.f73.ntmps; decide) (Fx.run n t) (Fx.gmap Fx.res (fun a0 => a0) n t) h
theorem Fx.s (hmix : Tryd.prog.follows .mixedOrders = true) (n : Nat) : CalleeS Tryd.prog abiG 73 (Fx.c n) :=
  .mk1 (res := Fx.res) (shape := Fx.shape) (fun R u K => rfl) (fun _ _ _ h => by unfold Fx.pat at h; split at h <;> cases h; rfl) (fun t u h => Fx.call hmix n t u h) Tryd.func73 (by decide) (by kernel_rfl)
end
section
theorem Fm.gmap {α β : Type} (h : β → α) (mk0 : LI → β) (n : Nat) (a0 : LI) (a1 : LI) : Fm.g (fun a0 => (h (mk0 a0))) n a0 a1 = (Fm.g mk0 n a0 a1).map h := by
  unfold Fm.g
  exact (bindO_map fun r2 => (bindO_map fun r4 => (bindO_map fun r6 => rfl)))
theorem Fm.run (n : Nat) (a0 : LI) (a1 : LI) : runF (Fm.C n) (Fm.A n) n Tryd.f74 [(.ints .u64 4 a0), (.ints .u64 4 a1)] [] (fun v o => some (v, o)) = Fm.g (fun a0 => (((.ints .u64 4 a0), []) : AV × Blks)) n a0 a1 := by kernel_rfl
theorem Fm.call (hmix : Tryd.prog.follows .mixedOrders = true) (n : Nat) (t : (LI × LI)) (u) (h : Fm.m n t = some u) : FnC Tryd.prog abiG 74 (Fm.shape t).1 (Fm.shape t).2 (Fm.res u).1 (Fm.res u).2 :=
  fnC1 (C := Fm.C n) (A := Fm.A n) (fn := Tryd.f74) rfl (.cons (Faw.s hmix n) (.cons (Fbo.s hmix n) (.cons (Fbk.s hmix n) .nil))) hmix Tryd.func74 (by kernel_rfl) (lp := []) (by kernel_rfl) .nil
  (nj rfl) (by decide) rfl rfl (by show 2 ≤ Tryd.f74.ntmps; decide) (Fm.run n t.1 t.2) (Fm.gmap Fm.res (fun a0 => a0) n t.1 t.2) h
theorem Fm.s (hmix : Tryd.prog.follows .mixedOrders = true) (n : Nat) : CalleeS Tryd.prog abiG 74 (Fm.c n) :=
  .mk1 (res := Fm.res) (shape := Fm.shape) (fun R u K => rfl) (fun _ _ _ h => by unfold Fm.pat at h; split at h <;> cases h; rfl) (fun t u h => Fm.call hmix n t u h) Tryd.func74 (by decide) (by kernel_rfl)
end
section
theorem Fy.gmap {α β : Type} (h : β → α) (mk0 : Bool → LI → β) (n : Nat) (a0 : LI) : Fy.g (fun a0 a1 => (h (mk0 a0 a1))) n a0 = (Fy.g mk0 n a0).map h := by
  unfold Fy.g
  exact rfl
theorem Fy.run (n : Nat) (a0 : LI) : runF (Fy.C n) (Fy.A n) n Tryd.f68 [(.ints .u64 4 a0)] [] (fun v o => some (v, o)) = Fy.g (fun a0 a1 => (((.agg [(.bool a0), (.ints .u64 4 a1), .snil]), []) : AV × Blks)) n a0 := by kernel_rfl
theorem Fy.call (hmix : Tryd.prog.follows .mixedOrders = true) (n : Nat) (t : LI) (u) (h : Fy.m n t = some u) : FnC Tryd.prog abiG 68 (Fy.shape t).1 (Fy.shape t).2 (Fy.res u).1 (Fy.res u).2 :=
  fnC1 (C := Fy.C n) (A := Fy.A n) (fn := Tryd.f68) rfl .nil hmix Tryd.func68 (by kernel_rfl) (lp := []) (by kernel_rfl) .nil
  (nj rfl) (by decide) rfl rfl (by show 1 ≤ Tryd.f68.ntmps; decide) (Fy.run n t) (Fy.gmap Fy.res (fun a0 a1 => (a0, a1)) n t) h
theorem Fy.s (hmix : Tryd.prog.follows .mixedOrders = true) (n : Nat) : CalleeS Tryd.prog abiG 68 (Fy.c n) :=
  .mk1 (res := Fy.res) (shape := Fy.shape) (fun R u K => rfl) (fun _ _ _ h => by unfold Fy.pat at h; split at h <;> cases h; rfl) (fun t u h => Fy.call hmix n t u h) Tryd.func68 (by decide) (by kernel_rfl)
end
section
theorem Fz.gmap {α β : Type} (h : β → α) (mk0 : LA → β) (n : Nat) (a0_0 : LI) (a0_1 : LI) (a0_2 : Bool) (a0_3 : LI) (a0_4 : LI) (a0_5 : LI) (a0_6 : Int) (a0_7 : Int) (a0_8 : Int) (a0_9 : LI) (a0_10 : LI) (a0_11 : Bool) (a0_12 : LI) (a0_13 : Int) (a0_14 : Int) (a0_15 : LI) (a0_16 : LI) : Fz.g (fun a0 => (h (mk0 a0))) n a0_0 a0_1 a0_2 a0_3 a0_4 a0_5 a0_6 a0_7 a0_8 a0_9 a0_10 a0_11 a0_12 a0_13 a0_14 a0_15 a0_16 = (Fz.g mk0 n a0_0 a0_1 a0_2 a0_3 a0_4 a0_5 a0_6 a0_7 a0_8 a0_9 a0_10 a0_11 a0_12 a0_13 a0_14 a0_15 a0_16).map h := by
  unfold Fz.g
  exact (bindO_map fun r2 => (bindO_map fun r4 => (ite_map (bindO_map fun r8 => (ite_map (bindO_map fun r12 => (bindO_map fun r14 => (bindO_map fun r16 => (bindO_map fun r18 => (bindO_map fun r20 => (bindO_map fun r22 => (bindO_map fun r24 => (bindO_map fun r26 => (bindO_map fun r28 => (bindO_map fun r30 => (bindO_map fun r32 => (bindO_map fun r34 => (bindO_map fun r36 => (bindO_map fun r38 => (bindO_map fun r40 => (bindO_map fun r42 => rfl)))))))))))))))) (bindO_map fun r12 => (bindO_map fun r14 => (bindO_map fun r16 => (bindO_map fun r18 => (bindO_map fun r20 => (bindO_map fun r22 => (bindO_map fun r24 => (bindO_map fun r26 => (bindO_map fun r28 => (bindO_map fun r30 => (bindO_map fun r32 => (bindO_map fun r34 => (bindO_map fun r36 => rfl))))))))))))))) (ite_map (bindO_map fun r10 => (bindO_map fun r12 => (bindO_map fun r14 => (bindO_map fun r16 => (bindO_map fun r18 => (bindO_map fun r20 => (bindO_map fun r22 => (bindO_map fun r24 => (bindO_map fun r26 => (bindO_map fun r28 => (bindO_map fun r30 => (bindO_map fun r32 => (bindO_map fun r34 => (bindO_map fun r36 => (bindO_map fun r38 => (bindO_map fun r40 => rfl)))))))))))))))) (bindO_map fun r10 => (bindO_map fun r12 => (bindO_map fun r14 => (bindO_map fun r16 => (bindO_map fun r18 => (bindO_map fun r20 => (bindO_map fun r22 => (bindO_map fun r24 => (bindO_map fun r26 => (bindO_map fun r28 => (bindO_map fun r30 => (bindO_map fun r32 => (bindO_map fun r34 => rfl)))))))))))))))))
theorem Fz.run (n : Nat) (a0_0 : LI) (a0_1 : LI) (a0_2 : Bool) (a0_3 : LI) (a0_4 : LI) (a0_5 : LI) (a0_6 : Int) (a0_7 : Int) (a0_8 : Int) (a0_9 : LI) (a0_10 : LI) (a0_11 : Bool) (a0_12 : LI) (a0_13 : Int) (a0_14 : Int) (a0_15 : LI) (a0_16 : LI) : runF (Fz.C n) (Fz.A n) n Tryd.f38 [(.agg [(.ints .u8 20 a0_0), (.ints .u64 4 a0_1), (.bool a0_2), (.ints .u8 20 a0_3), (.rints .u8 a0_4), (.rints .u8 a0_5), (.int .u64 a0_6), (.int .u64 a0_7), (.int .u64 a0_8), (.ints .u64 4 a0_9), (.ints .u64 4 a0_10), (.bool a0_11), (.ints .u8 20 a0_12), (.int .u64 a0_13), (.int .u64 a0_14), (.rints .u8 a0_15), (.rints .u8 a0_16)])] [] (fun v o => some (v, o)) = Fz.g (fun a0 => (((.robjs 69 6 a0), []) : AV × Blks)) n a0_0 a0_1 a0_2 a0_3 a0_4 a0_5 a0_6 a0_7 a0_8 a0_9 a0_10 a0_11 a0_12 a0_13 a0_14 a0_15 a0_16 := by kernel_rfl
theorem Fz.call (hmix : Tryd.prog.follows .mixedOrders = true) (n : Nat) (t : (LI × (LI × (Bool × (LI × (LI × (LI × (Int × (Int × (Int × (LI × (LI × (Bool × (LI × (Int × (Int × (LI × LI))))))))))))))))) (u) (h : Fz.m n t = some u) : FnC Tryd.prog abiG 38 (Fz.shape t).1 (Fz.shape t).2 (Fz.res u).1 (Fz.res u).2 :=
  fnC1 (C := Fz.C n) (A := Fz.A n) (fn := Tryd.f38) rfl (.cons (Fp.s hmix n) (.cons (Fx.s hmix n) (.cons (Faw.s hmix n) (.cons (Fm.s hmix n) (.cons (Fba.s hmix n) (.cons (Fy.s hmix n) .nil)))))) hmix Tryd.func38 (by kernel_rfl) (lp := []) (by kernel_rfl) .nil
  (nj rfl) (by decide) rfl rfl (by show 1 ≤ Tryd.f38.ntmps; decide) (Fz.run n t.1 t.2.1 t.2.2.1 t.2.2.2.1 t.2.2.2.2.1 t.2.2.2.2.2.1 t.2.2.2.2.2.2.1 t.2.2.2.2.2.2.2.1 t.2.2.2.2.2.2.2.2.1 t.2.2.2.2.2.2.2.2.2.1 t.2.2.2.2.2.2.2.2.2.2.1 t.2.2.2.2.2.2.2.2.2.2.2.1 t.2.2.2.2.2.2.2.2.2.2.2.2.1 t.2.2.2.2.2.2.2.2.2.2.2.2.2.1 t.2.2.2.2.2.2.2.2.2.2.2.2.2.2.1 t.2.2.2.2.2.2.2.2.2.2.2.2.2.2.2.1 t.2.2.2.2.2.2.2.2.2.2.2.2.2.2.2.2) (Fz.gmap Fz.res (fun a0 => a0) n t.1 t.2.1 t.2.2.1 t.2.2.2.1 t.2.2.2.2.1 t.2.2.2.2.2.1 t.2.2.2.2.2.2.1 t.2.2.2.2.2.2.2.1 t.2.2.2.2.2.2.2.2.1 t.2.2.2.2.2.2.2.2.2.1 t.2.2.2.2.2.2.2.2.2.2.1 t.2.2.2.2.2.2.2.2.2.2.2.1 t.2.2.2.2.2.2.2.2.2.2.2.2.1 t.2.2.2.2.2.2.2.2.2.2.2.2.2.1 t.2.2.2.2.2.2.2.2.2.2.2.2.2.2.1 t.2.2.2.2.2.2.2.2.2.2.2.2.2.2.2.1 t.2.2.2.2.2.2.2.2.2.2.2.2.2.2.2.2) h
theorem Fz.s (hmix : Tryd.prog.follows .mixedOrders = true) (n : Nat) : CalleeS Tryd.prog abiG 38 (Fz.c n) :=
  .mk1 (res := Fz.res) (shape := Fz.shape) (fun R u K => rfl) (fun _ _ _ h => by unfold Fz.pat at h; split at h <;> cases h; rfl) (fun t u h => Fz.call hmix n t u h) Tryd.func38 (by decide) (by kernel_rfl)
end
section
noncomputable section
noncomputable def Fs.C (n : Nat) : Ctx := ⟨Tryd.prog, abiG, lookC [(57, Fad.c n), (56, Fae.c n)], fun _ => false⟩
noncomputable def Fs.A (n : Nat) : Ann := ⟨Tryd.f22.ntmps, 0, noNL, [], [(some (.ints .u8))], fun k => match k with
 | _ => none, noNL, lookJ []⟩
def Fs.g {α : Type} (mk0 : LI → α) (n : Nat) (a0 : ByteArray) : Option α :=
 bindO (Fad.m n (Go.Abs.bytesOf a0)) fun r2 =>
  bindO (Fae.m n r2) fun r4 =>
   if 4 ≤ (((List.length r4) : Nat) : Int) then
    some (mk0 (Go.Abs.partL r4 0 (Go.Abs.span (List.length r4) 0 (Option.some 4))))
   else
    none
def Fs.m (n : Nat) (t : ByteArray) : Option LI := Fs.g (fun a0 => a0) n t
def Fs.pat : List AV → Blks → Option ByteArray
 | [(.str a0)], [] => some a0
 | _, _ => none
def Fs.shape (t : ByteArray) : List AV × Blks := ([(.str t)], [])
def Fs.res : LI → AV × Blks
 | u => ((.own 0 1), [(some (.ints .u8 u))])
def Fs.resK {R : Type} (u : LI) (K : AV → Blks → Option R) : Option R := K (Fs.res u).1 (Fs.res u).2
def Fs.c (n : Nat) : Abs.Callee := .mk' [] [none] Fs.pat (Fs.m n) Fs.resK
end
end
section
theorem Fs.gmap {α β : Type} (h : β → α) (mk0 : LI → β) (n : Nat) (a0 : ByteArray) : Fs.g (fun a0 => (h (mk0 a0))) n a0 = (Fs.g mk0 n a0).map h := by
  unfold Fs.g
  exact (bindO_map fun r2 => (bindO_map fun r4 => (ite_map rfl rfl)))
theorem Fs.run (n : Nat) (a0 : ByteArray) : runF (Fs.C n) (Fs.A n) n Tryd.f22 [(.str a0)] [] (fun v o => some (v, o)) = Fs.g (fun a0 => (((.own 0 1), [(some (.ints .u8 a0))]) : AV × Blks)) n a0 := by kernel_rfl
theorem Fs.call (hmix : Tryd.prog.follows .mixedOrders = true) (n : Nat) (t : ByteArray) (u) (h : Fs.m n t = some u) : FnC Tryd.prog abiG 22 (Fs.shape t).1 (Fs.shape t).2 (Fs.res u).1 (Fs.res u).2 :=
  fnC1 (C := Fs.C n) (A := Fs.A n) (fn := Tryd.f22) rfl (.cons (Fad.s hmix n) (.cons (Fae.s hmix n) .nil)) hmix Tryd.func22 (by kernel_rfl) (lp := []) (by kernel_rfl) .nil
  (nj rfl) (by decide) rfl rfl (by show 1 ≤ Tryd.f22.ntmps; decide) (Fs.run n t) (Fs.gmap Fs.res (fun a0 => a0) n t) h
theorem Fs.s (hmix : Tryd.prog.follows .mixedOrders = true) (n : Nat) : CalleeS Tryd.prog abiG 22 (Fs.c n) :=
  .mk1 (res := Fs.res) (shape := Fs.shape) (fun R u K => rfl) (fun _ _ _ h => by unfold Fs.pat at h; split at h <;> cases h; rfl) (fun t u h => Fs.call hmix n t u h) Tryd.func22 (by decide) (by kernel_rfl)
end
section
noncomputable section
noncomputable def Fab.C (n : Nat) : Ctx := ⟨Tryd.prog, abiG, lookC [(56, Fae.c n), (57, Fad.c n)], fun _ => false⟩
def Fab.live : NL := fun k => match k with
 | 3 => ([12, 11, 10, 3, 2], [3, 2])
 | _ => ([], [])
def Fab.l3_0.r {α : Type} (mk0 : LI → LI → α) (n : Nat) (rc : Int → Int → LA → LI → LI → Option α)  (x0 : Int) (x1 : Int) (x2 : LA) (x3 : LI) (x4 : LI) : Option α :=
  if (decide (x0 < x1)) = true then
   if 0 ≤ x0 then
    if x0 < (((List.length x2) : Nat) : Int) then
     bindO (tkInts .u64 4 (List.getD x2 (Int.toNat x0) AV.any)) fun r10 =>
      bindO (Fae.m n r10) fun r12 =>
       if ((((List.length x3) + (List.length r12)) * 1) ≤ 70368744177664 ∧ ((List.length x3) + (List.length r12)) ≤ 9223372036854775807) then
        rc (IntKind.wrap .i64 (x0 + 1)) x1 x2 (x3 ++ r12) x4
       else
        none
    else
     none
   else
    none
  else
   some (mk0 x3 x4)
def Fab.l3_0.g {α : Type} (mk0 : LI → LI → α) (n : Nat) : Nat → Int → Int → LA → LI → LI → Option α
 | 0, _, _, _, _, _ => none
 | m + 1, x0, x1, x2, x3, x4 => Fab.l3_0.r mk0 n (fun y0 y1 y2 y3 y4 => Fab.l3_0.g mk0 n m y0 y1 y2 y3 y4)  x0 x1 x2 x3 x4
def Fab.l3_0.m (n m : Nat) (t : (Int × (Int × (LA × (LI × LI))))) : Option (LI × LI) := Fab.l3_0.g (fun a0 a1 => (a0, a1)) n m t.1 t.2.1 t.2.2.1 t.2.2.2.1 t.2.2.2.2
def Fab.l3_0.pat : St → Option (Int × (Int × (LA × (LI × LI))))
 | (St.mk [(.int .i64 x0), (.int .i64 x1), (.robjs 32 4 x2), (.own 0 1), (.ptr 1 [])] [(some (.ints .u8 x3)), (some (.var (.ints .u64 4 x4)))]) => some (x0, x1, x2, x3, x4)
 | _ => none
def Fab.l3_0.shape (t : (Int × (Int × (LA × (LI × LI))))) : St := (St.mk [(.int .i64 t.1), (.int .i64 t.2.1), (.robjs 32 4 t.2.2.1), (.own 0 1), (.ptr 1 [])] [(some (.ints .u8 t.2.2.2.1)), (some (.var (.ints .u64 4 t.2.2.2.2)))])
def Fab.l3_0.res : (LI × LI) → Ex × St
 | u => ((.exit 0), (St.mk [(.own 0 1), (.ptr 1 [])] [(some (.ints .u8 u.1)), (some (.var (.ints .u64 4 u.2)))]))
def Fab.l3_0.resK {R : Type} (u : (LI × LI)) (K : Ex → St → Option R) : Option R := K (Fab.l3_0.res u).1 (Fab.l3_0.res u).2
noncomputable def Fab.A (n : Nat) : Ann := ⟨Tryd.f80.ntmps, 0, Fab.live, [(10, (.objs 32 4)), (3, (.ints .u8))], [none], fun k => match k with
 | 3 => some (.mk' Fab.l3_0.pat (Fab.l3_0.m n n) Fab.l3_0.resK)
 | _ => none, noNL, lookJ []⟩
noncomputable def Fab.b0 : Code := (loopsIn (Tryd.f80.body.getD .skip)).getD 0 .skip
def Fab.g {α : Type} (mk0 : LI → α) (n : Nat) (a0 : LA) : Option α :=
 if 0 ≤ (IntKind.wrap .i64 (32 * (((List.length a0) : Nat) : Int))) then
  if ((IntKind.wrap .i64 (32 * (((List.length a0) : Nat) : Int))) * ((1 : Nat) : Int)) ≤ 140737488355328 then
   if (IntKind.wrap .i64 (32 * (((List.length a0) : Nat) : Int))) ≤ 1152921504606846976 then
    bindO (Fab.l3_0.m n n (0, (((List.length a0) : Nat) : Int), a0, [], [0, 0, 0, 0])) fun r8 =>
     bindO (Fad.m n r8.1) fun r10 =>
      some (mk0 r10)
   else
    none
  else
   none
 else
  none
def Fab.m (n : Nat) (t : LA) : Option LI := Fab.g (fun a0 => a0) n t
def Fab.pat : List AV → Blks → Option LA
 | [(.robjs 32 4 a0)], [] => some a0
 | _, _ => none
def Fab.shape (t : LA) : List AV × Blks := ([(.robjs 32 4 t)], [])
def Fab.res : LI → AV × Blks
 | u => ((.ints .u64 4 u), [])
def Fab.resK {R : Type} (u : LI) (K : AV → Blks → Option R) : Option R := K (Fab.res u).1 (Fab.res u).2
def Fab.c (n : Nat) : Abs.Callee := .mk' [] [(some (.objs 32 4))] Fab.pat (Fab.m n) Fab.resK
end
end
section
noncomputable abbrev Fab.R0 (n : Nat) := roundOf (Fab.C n) (Fab.A n) n Fab.b0
theorem Fab.l3_0.rmap {α β : Type} (h : β → α) (mk0 : LI → LI → β) (n : Nat) (f : Int → Int → LA → LI → LI → Option β)  (x0 : Int) (x1 : Int) (x2 : LA) (x3 : LI) (x4 : LI) : Fab.l3_0.r (fun a0 a1 => (h (mk0 a0 a1))) n (fun y0 y1 y2 y3 y4 => (f y0 y1 y2 y3 y4).map h) x0 x1 x2 x3 x4 = (Fab.l3_0.r mk0 n f x0 x1 x2 x3 x4).map h := by
  unfold Fab.l3_0.r
  exact (ite_map (ite_map (ite_map (bindO_map fun r10 => (bindO_map fun r12 => (ite_map rfl rfl))) rfl) rfl) rfl)
theorem Fab.l3_0.gmap {α β : Type} (h : β → α) (mk0 : LI → LI → β) (n : Nat) : ∀ (m : Nat) (x0 : Int) (x1 : Int) (x2 : LA) (x3 : LI) (x4 : LI), Fab.l3_0.g (fun a0 a1 => (h (mk0 a0 a1))) n m x0 x1 x2 x3 x4 = (Fab.l3_0.g mk0 n m x0 x1 x2 x3 x4).map h
  | 0, _, _, _, _, _ => rfl
  | m + 1, x0, x1, x2, x3, x4 => by
    unfold Fab.l3_0.g
    rw [← Fab.l3_0.rmap]
    congr
    · funext y0 y1 y2 y3 y4; exact Fab.l3_0.gmap h mk0 n m y0 y1 y2 y3 y4
theorem Fab.l3_0.pat_shape : ∀ st t, Fab.l3_0.pat st = some t → st = Fab.l3_0.shape t := fun _ _ h => by unfold Fab.l3_0.pat at h; split at h <;> cases h; rfl
def Fab.l3_0.k0 : LI → LI → Ex × St := (fun a0 a1 => (((.exit 0), (St.mk [(.own 0 1), (.ptr 1 [])] [(some (.ints .u8 a0)), (some (.var (.ints .u64 4 a1)))])) : Ex × St))
theorem Fab.l3_0.round (n : Nat) (rc : St → Option (Ex × St)) (x0 : Int) (x1 : Int) (x2 : LA) (x3 : LI) (x4 : LI) : Fab.R0 n rc ((St.mk [(.int .i64 x0), (.int .i64 x1), (.robjs 32 4 x2), (.own 0 1), (.ptr 1 [])] [(some (.ints .u8 x3)), (some (.var (.ints .u64 4 x4)))])) = Fab.l3_0.r Fab.l3_0.k0 n (fun y0 y1 y2 y3 y4 => rc ((St.mk [(.int .i64 y0), (.int .i64 y1), (.robjs 32 4 y2), (.own 0 1), (.ptr 1 [])] [(some (.ints .u8 y3)), (some (.var (.ints .u64 4 y4)))]))) x0 x1 x2 x3 x4 := by kernel_rfl
theorem Fab.l3_0.loop' (n : Nat) : ∀ (m : Nat) (t : (Int × (Int × (LA × (LI × LI))))), loopOf (Fab.R0 n) m (Fab.l3_0.shape t) = Fab.l3_0.g Fab.l3_0.k0 n m t.1 t.2.1 t.2.2.1 t.2.2.2.1 t.2.2.2.2 :=
  loop_of_round (shape := Fab.l3_0.shape) (body := Fab.R0 n) (g := fun m t => Fab.l3_0.g Fab.l3_0.k0 n m t.1 t.2.1 t.2.2.1 t.2.2.2.1 t.2.2.2.2) (fun t => rfl)
    fun m t ih => (Fab.l3_0.round n (loopOf (Fab.R0 n) m) t.1 t.2.1 t.2.2.1 t.2.2.2.1 t.2.2.2.2).trans (congrFun (congrFun (congrFun (congrFun (congrFun (congrArg (Fab.l3_0.r Fab.l3_0.k0 n) (funext fun y0 => funext fun y1 => funext fun y2 => funext fun y3 => funext fun y4 => ih (y0, y1, y2, y3, y4))) t.1) t.2.1) t.2.2.1) t.2.2.2.1) t.2.2.2.2)
theorem Fab.l3_0.loop (n m : Nat) (t : (Int × (Int × (LA × (LI × LI))))) : loopOf (Fab.R0 n) m (Fab.l3_0.shape t) = (Fab.l3_0.m n m t).map Fab.l3_0.res :=
  (Fab.l3_0.loop' n m t).trans (Fab.l3_0.gmap Fab.l3_0.res (fun a0 a1 => (a0, a1)) n m t.1 t.2.1 t.2.2.1 t.2.2.2.1 t.2.2.2.2)
theorem Fab.gmap {α β : Type} (h : β → α) (mk0 : LI → β) (n : Nat) (a0 : LA) : Fab.g (fun a0 => (h (mk0 a0))) n a0 = (Fab.g mk0 n a0).map h := by
  unfold Fab.g
  exact (ite_map (ite_map (ite_map (bindO_map fun r8 => (bindO_map fun r10 => rfl)) rfl) rfl) rfl)
theorem Fab.run (n : Nat) (a0 : LA) : runF (Fab.C n) (Fab.A n) n Tryd.f80 [(.robjs 32 4 a0)] [] (fun v o => some (v, o)) = Fab.g (fun a0 => (((.ints .u64 4 a0), []) : AV × Blks)) n a0 := by kernel_rfl
theorem Fab.call (hmix : Tryd.prog.follows .mixedOrders = true) (n : Nat) (t : LA) (u) (h : Fab.m n t = some u) : FnC Tryd.prog abiG 80 (Fab.shape t).1 (Fab.shape t).2 (Fab.res u).1 (Fab.res u).2 :=
  fnC1 (C := Fab.C n) (A := Fab.A n) (fn := Tryd.f80) rfl (.cons (Fae.s hmix n) (.cons (Fad.s hmix n) .nil)) hmix Tryd.func80 (by kernel_rfl) (lp := [Fab.b0]) (by kernel_rfl) (.cons (show (Fab.A n).loop (key Fab.b0) = some (.mk' Fab.l3_0.pat (Fab.l3_0.m n n) Fab.l3_0.resK) by kernel_rfl) (LoopS.of (res := Fab.l3_0.res) (fun R u K => rfl) Fab.l3_0.pat_shape fun t => Fab.l3_0.loop n n t)
  .nil)
  (nj rfl) (by decide) rfl rfl (by show 1 ≤ Tryd.f80.ntmps; decide) (Fab.run n t) (Fab.gmap Fab.res (fun a0 => a0) n t) h
theorem Fab.s (hmix : Tryd.prog.follows .mixedOrders = true) (n : Nat) : CalleeS Tryd.prog abiG 80 (Fab.c n) :=
  .mk1 (res := Fab.res) (shape := Fab.shape) (fun R u K => rfl) (fun _ _ _ h => by unfold Fab.pat at h; split at h <;> cases h; rfl) (fun t u h => Fab.call hmix n t u h) Tryd.func80 (by decide) (by kernel_rfl)
end
section
noncomputable section
def Fbv.l3_0.r {α : Type} (mk0 : LI → LI → α) (n : Nat) (rc : Int → LA → LI → LI → Option α)  (x0 : Int) (x1 : LA) (x2 : LI) (x3 : LI) : Option α :=
  if (decide (x0 < (((List.length x1) : Nat) : Int))) = true then
   if 0 ≤ x0 then
    if x0 < (((List.length x1) : Nat) : Int) then
     bindO (tkInts .u64 4 (List.getD x1 (Int.toNat x0) AV.any)) fun r10 =>
      bindO (Fav.m n r10) fun r12 =>
       if ((((List.length x2) + (List.length r12)) * 1) ≤ 70368744177664 ∧ ((List.length x2) + (List.length r12)) ≤ 9223372036854775807) then
        rc (IntKind.wrap .i64 (x0 + 1)) x1 (x2 ++ r12) x3
       else
        none
    else
     none
   else
    none
  else
   some (mk0 x2 x3)
def Fbv.l3_0.g {α : Type} (mk0 : LI → LI → α) (n : Nat) : Nat → Int → LA → LI → LI → Option α
 | 0, _, _, _, _ => none
 | m + 1, x0, x1, x2, x3 => Fbv.l3_0.r mk0 n (fun y0 y1 y2 y3 => Fbv.l3_0.g mk0 n m y0 y1 y2 y3)  x0 x1 x2 x3
def Fbv.l3_0.m (n m : Nat) (t : (Int × (LA × (LI × LI)))) : Option (LI × LI) := Fbv.l3_0.g (fun a0 a1 => (a0, a1)) n m t.1 t.2.1 t.2.2.1 t.2.2.2
def Fbv.g {α : Type} (mk0 : LI → α) (n : Nat) (a0 : LA) : Option α :=
 bindO (Fbv.l3_0.m n n (0, a0, [], [0, 0, 0, 0])) fun r2 =>
  bindO (Fca.m n r2.1) fun r4 =>
   some (mk0 r4)
def Fbv.m (n : Nat) (t : LA) : Option LI := Fbv.g (fun a0 => a0) n t
end
end
section
noncomputable section
noncomputable def Fbb.C (n : Nat) : Ctx := ⟨Tryd.prog, abiG, lookC [], fun _ => false⟩
noncomputable def Fbb.A (n : Nat) : Ann := ⟨Tryd.f81.ntmps, 0, noNL, [], [none], fun k => match k with
 | _ => none, noNL, lookJ []⟩
def Fbb.g {α : Type} (mk0 : LI → α) (n : Nat)  : Option α :=
 some (mk0 ([0, 0, 0, 0, 113, 114, 125, 226, 46, 94, 157, 139, 175, 14, 218, 198, 243, 125, 160, 50] : List Int))
def Fbb.m (n : Nat) (t : Unit) : Option LI := Fbb.g (fun a0 => a0) n 
def Fbb.pat : List AV → Blks → Option Unit
 | [], [] => some ()
 | _, _ => none
def Fbb.shape (t : Unit) : List AV × Blks := ([], [])
def Fbb.res : LI → AV × Blks
 | u => ((.ints .u8 20 u), [])
def Fbb.resK {R : Type} (u : LI) (K : AV → Blks → Option R) : Option R := K (Fbb.res u).1 (Fbb.res u).2
def Fbb.c (n : Nat) : Abs.Callee := .mk' [] [] Fbb.pat (Fbb.m n) Fbb.resK
end
end
section
noncomputable section
noncomputable def Fac.C (n : Nat) : Ctx := ⟨Tryd.prog, abiG, lookC [(38, Fz.c n), (57, Fad.c n), (80, Fab.c n), (81, Fbb.c n), (75, Fba.c n)], fun _ => false⟩
def Fac.live : NL := fun k => match k with
 | 3 => ([12, 11, 10, 5, 3, 4], [5, 3, 4])
 | _ => ([], [])
def Fac.l3_0.r {α : Type} (mk0 : LA → LI → LI → α) (n : Nat) (rc : Int → Int → LA → LA → LI → LI → Option α)  (x0 : Int) (x1 : Int) (x2 : LA) (x3 : LA) (x4 : LI) (x5 : LI) : Option α :=
  if (decide (x0 < x1)) = true then
   if 0 ≤ x0 then
    if x0 < (((List.length x2) : Nat) : Int) then
     bindO (tkAgg 3 (List.getD x2 (Int.toNat x0) AV.any)) fun r10 =>
      bindO (tkBool (List.getD r10 0 AV.any)) fun r12 =>
       bindO (tkInts .u64 4 (List.getD r10 1 AV.any)) fun r14 =>
        bindO (tkRints .u8 (List.getD r10 2 AV.any)) fun r16 =>
         if r12 = true then
          bindO (Fad.m n r16) fun r20 =>
           if ((((List.length x3) + 1) * 32) ≤ 70368744177664 ∧ ((List.length x3) + 1) ≤ 9223372036854775807) then
            rc (IntKind.wrap .i64 (x0 + 1)) x1 x2 (x3 ++ [(AV.ints .u64 4 r20)]) x4 x5
           else
            none
         else
          if ((((List.length x3) + 1) * 32) ≤ 70368744177664 ∧ ((List.length x3) + 1) ≤ 9223372036854775807) then
           rc (IntKind.wrap .i64 (x0 + 1)) x1 x2 (x3 ++ [(AV.ints .u64 4 r14)]) x4 x5
          else
           none
    else
     none
   else
    none
  else
   some (mk0 x3 x4 x5)
def Fac.l3_0.g {α : Type} (mk0 : LA → LI → LI → α) (n : Nat) : Nat → Int → Int → LA → LA → LI → LI → Option α
 | 0, _, _, _, _, _, _ => none
 | m + 1, x0, x1, x2, x3, x4, x5 => Fac.l3_0.r mk0 n (fun y0 y1 y2 y3 y4 y5 => Fac.l3_0.g mk0 n m y0 y1 y2 y3 y4 y5)  x0 x1 x2 x3 x4 x5
def Fac.l3_0.m (n m : Nat) (t : (Int × (Int × (LA × (LA × (LI × LI)))))) : Option (LA × (LI × LI)) := Fac.l3_0.g (fun a0 a1 a2 => (a0, a1, a2)) n m t.1 t.2.1 t.2.2.1 t.2.2.2.1 t.2.2.2.2.1 t.2.2.2.2.2
def Fac.l3_0.pat : St → Option (Int × (Int × (LA × (LA × (LI × LI)))))
 | (St.mk [(.int .i64 x0), (.int .i64 x1), (.robjs 69 6 x2), (.own 0 4), (.ptr 1 []), (.ptr 2 [])] [(some (.objs 32 4 x3)), (some (.var (.ints .u64 4 x4))), (some (.var (.ints .u64 4 x5)))]) => some (x0, x1, x2, x3, x4, x5)
 | _ => none
def Fac.l3_0.shape (t : (Int × (Int × (LA × (LA × (LI × LI)))))) : St := (St.mk [(.int .i64 t.1), (.int .i64 t.2.1), (.robjs 69 6 t.2.2.1), (.own 0 4), (.ptr 1 []), (.ptr 2 [])] [(some (.objs 32 4 t.2.2.2.1)), (some (.var (.ints .u64 4 t.2.2.2.2.1))), (some (.var (.ints .u64 4 t.2.2.2.2.2)))])
def Fac.l3_0.res : (LA × (LI × LI)) → Ex × St
 | u => ((.exit 0), (St.mk [(.own 0 4), (.ptr 1 []), (.ptr 2 [])] [(some (.objs 32 4 u.1)), (some (.var (.ints .u64 4 u.2.1))), (some (.var (.ints .u64 4 u.2.2)))]))
def Fac.l3_0.resK {R : Type} (u : (LA × (LI × LI))) (K : Ex → St → Option R) : Option R := K (Fac.l3_0.res u).1 (Fac.l3_0.res u).2
noncomputable def Fac.A (n : Nat) : Ann := ⟨Tryd.f40.ntmps, 0, Fac.live, [(10, (.objs 69 6)), (5, (.objs 32 4))], [none], fun k => match k with
 | 3 => some (.mk' Fac.l3_0.pat (Fac.l3_0.m n n) Fac.l3_0.resK)
 | _ => none, noNL, lookJ []⟩
noncomputable def Fac.b0 : Code := (loopsIn (Tryd.f40.body.getD .skip)).getD 0 .skip
def Fac.g {α : Type} (mk0 : LI → α) (n : Nat) (a0_0 : LI) (a0_1 : LI) (a0_2 : Bool) (a0_3 : LI) (a0_4 : LI) (a0_5 : LI) (a0_6 : Int) (a0_7 : Int) (a0_8 : Int) (a0_9 : LI) (a0_10 : LI) (a0_11 : Bool) (a0_12 : LI) (a0_13 : Int) (a0_14 : Int) (a0_15 : LI) (a0_16 : LI) (a1 : LI) : Option α :=
 bindO (Fz.m n (a0_0, a0_1, a0_2, a0_3, a0_4, a0_5, a0_6, a0_7, a0_8, a0_9, a0_10, a0_11, a0_12, a0_13, a0_14, a0_15, a0_16)) fun r2 =>
  if 8 ≤ (((List.length r2) : Nat) : Int) then
   bindO (Fac.l3_0.m n n (0, (((List.length (Go.Abs.cut r2 0 (Option.some 8))) : Nat) : Int), (Go.Abs.cut r2 0 (Option.some 8)), [], a1, [0, 0, 0, 0])) fun r6 =>
    bindO (Fab.m n r6.1) fun r8 =>
     bindO (Fbb.m n Unit.unit) fun r10 =>
      bindO (Fba.m n r10) fun r12 =>
       bindO (Fab.m n [(AV.ints .u64 4 r8), (AV.ints .u64 4 r12), (AV.ints .u64 4 r6.2.1)]) fun r14 =>
        some (mk0 r14)
  else
   none
def Fac.m (n : Nat) (t : (LI × (LI × (Bool × (LI × (LI × (LI × (Int × (Int × (Int × (LI × (LI × (Bool × (LI × (Int × (Int × (LI × (LI × LI)))))))))))))))))) : Option LI := Fac.g (fun a0 => a0) n t.1 t.2.1 t.2.2.1 t.2.2.2.1 t.2.2.2.2.1 t.2.2.2.2.2.1 t.2.2.2.2.2.2.1 t.2.2.2.2.2.2.2.1 t.2.2.2.2.2.2.2.2.1 t.2.2.2.2.2.2.2.2.2.1 t.2.2.2.2.2.2.2.2.2.2.1 t.2.2.2.2.2.2.2.2.2.2.2.1 t.2.2.2.2.2.2.2.2.2.2.2.2.1 t.2.2.2.2.2.2.2.2.2.2.2.2.2.1 t.2.2.2.2.2.2.2.2.2.2.2.2.2.2.1 t.2.2.2.2.2.2.2.2.2.2.2.2.2.2.2.1 t.2.2.2.2.2.2.2.2.2.2.2.2.2.2.2.2.1 t.2.2.2.2.2.2.2.2.2.2.2.2.2.2.2.2.2
def Fac.pat : List AV → Blks → Option (LI × (LI × (Bool × (LI × (LI × (LI × (Int × (Int × (Int × (LI × (LI × (Bool × (LI × (Int × (Int × (LI × (LI × LI)))))))))))))))))
 | [(.agg [(.ints .u8 20 a0_0), (.ints .u64 4 a0_1), (.bool a0_2), (.ints .u8 20 a0_3), (.rints .u8 a0_4), (.rints .u8 a0_5), (.int .u64 a0_6), (.int .u64 a0_7), (.int .u64 a0_8), (.ints .u64 4 a0_9), (.ints .u64 4 a0_10), (.bool a0_11), (.ints .u8 20 a0_12), (.int .u64 a0_13), (.int .u64 a0_14), (.rints .u8 a0_15), (.rints .u8 a0_16)]), (.ints .u64 4 a1)], [] => some (a0_0, a0_1, a0_2, a0_3, a0_4, a0_5, a0_6, a0_7, a0_8, a0_9, a0_10, a0_11, a0_12, a0_13, a0_14, a0_15, a0_16, a1)
 | _, _ => none
def Fac.shape (t : (LI × (LI × (Bool × (LI × (LI × (LI × (Int × (Int × (Int × (LI × (LI × (Bool × (LI × (Int × (Int × (LI × (LI × LI)))))))))))))))))) : List AV × Blks := ([(.agg [(.ints .u8 20 t.1), (.ints .u64 4 t.2.1), (.bool t.2.2.1), (.ints .u8 20 t.2.2.2.1), (.rints .u8 t.2.2.2.2.1), (.rints .u8 t.2.2.2.2.2.1), (.int .u64 t.2.2.2.2.2.2.1), (.int .u64 t.2.2.2.2.2.2.2.1), (.int .u64 t.2.2.2.2.2.2.2.2.1), (.ints .u64 4 t.2.2.2.2.2.2.2.2.2.1), (.ints .u64 4 t.2.2.2.2.2.2.2.2.2.2.1), (.bool t.2.2.2.2.2.2.2.2.2.2.2.1), (.ints .u8 20 t.2.2.2.2.2.2.2.2.2.2.2.2.1), (.int .u64 t.2.2.2.2.2.2.2.2.2.2.2.2.2.1), (.int .u64 t.2.2.2.2.2.2.2.2.2.2.2.2.2.2.1), (.rints .u8 t.2.2.2.2.2.2.2.2.2.2.2.2.2.2.2.1), (.rints .u8 t.2.2.2.2.2.2.2.2.2.2.2.2.2.2.2.2.1)]), (.ints .u64 4 t.2.2.2.2.2.2.2.2.2.2.2.2.2.2.2.2.2)], [])
def Fac.res : LI → AV × Blks
 | u => ((.ints .u64 4 u), [])
def Fac.resK {R : Type} (u : LI) (K : AV → Blks → Option R) : Option R := K (Fac.res u).1 (Fac.res u).2
def Fac.c (n : Nat) : Abs.Callee := .mk' [] [(some (.agg [none, none, none, none, (some (.ints .u8)), (some (.ints .u8)), none, none, none, none, none, none, none, none, none, (some (.ints .u8)), (some (.ints .u8))])), none] Fac.pat (Fac.m n) Fac.resK
end
end
section
theorem Fbb.gmap {α β : Type} (h : β → α) (mk0 : LI → β) (n : Nat)  : Fbb.g (fun a0 => (h (mk0 a0))) n  = (Fbb.g mk0 n ).map h := by
  unfold Fbb.g
  exact rfl
theorem Fbb.run (n : Nat)  : runF (Fbb.C n) (Fbb.A n) n Tryd.f81 [] [] (fun v o => some (v, o)) = Fbb.g (fun a0 => (((.ints .u8 20 a0), []) : AV × Blks)) n  := by kernel_rfl
theorem Fbb.call (hmix : Tryd.prog.follows .mixedOrders = true) (n : Nat) (t : Unit) (u) (h : Fbb.m n t = some u) : FnC Tryd.prog abiG 81 (Fbb.shape t).1 (Fbb.shape t).2 (Fbb.res u).1 (Fbb.res u).2 :=
  fnC1 (C := Fbb.C n) (A := Fbb.A n) (fn := Tryd.f81) rfl .nil hmix Tryd.func81 (by kernel_rfl) (lp := []) (by kernel_rfl) .nil
  (nj rfl) (by decide) rfl rfl (by show 0 ≤ Tryd.f81.ntmps; decide) (Fbb.run n ) (Fbb.gmap Fbb.res (fun a0 => a0) n ) h
theorem Fbb.s (hmix : Tryd.prog.follows .mixedOrders = true) (n : Nat) : CalleeS Tryd.prog abiG 81 (Fbb.c n) :=
  .mk1 (res := Fbb.res) (shape := Fbb.shape) (fun R u K => rfl) (fun _ _ _ h => by unfold Fbb.pat at h; split at h <;> cases h; rfl) (fun t u h => Fbb.call hmix n t u h) Tryd.func81 (by decide) (by kernel_rfl)
end
section
noncomputable abbrev Fac.R0 (n : Nat) := roundOf (Fac.C n) (Fac.A n) n Fac.b0
theorem Fac.l3_0.rmap {α β : Type} (h : β → α) (mk0 : LA → LI → LI → β) (n : Nat) (f : Int → Int → LA → LA → LI → LI → Option β)  (x0 : Int) (x1 : Int) (x2 : LA) (x3 : LA) (x4 : LI) (x5 : LI) : Fac.l3_0.r (fun a0 a1 a2 => (h (mk0 a0 a1 a2))) n (fun y0 y1 y2 y3 y4 y5 => (f y0 y1 y2 y3 y4 y5).map h) x0 x1 x2 x3 x4 x5 = (Fac.l3_0.r mk0 n f x0 x1 x2 x3 x4 x5).map h := by
  unfold Fac.l3_0.r
  exact (ite_map (ite_map (ite_map (bindO_map fun r10 => (bindO_map fun r12 => (bindO_map fun r14 => (bindO_map fun r16 => (ite_map (bindO_map fun r20 => (ite_map rfl rfl)) (ite_map rfl rfl)))))) rfl) rfl) rfl)
theorem Fac.l3_0.gmap {α β : Type} (h : β → α) (mk0 : LA → LI → LI → β) (n : Nat) : ∀ (m : Nat) (x0 : Int) (x1 : Int) (x2 : LA) (x3 : LA) (x4 : LI) (x5 : LI), Fac.l3_0.g (fun a0 a1 a2 => (h (mk0 a0 a1 a2))) n m x0 x1 x2 x3 x4 x5 = (Fac.l3_0.g mk0 n m x0 x1 x2 x3 x4 x5).map h
  | 0, _, _, _, _, _, _ => rfl
  | m + 1, x0, x1, x2, x3, x4, x5 => by
    unfold Fac.l3_0.g
    rw [← Fac.l3_0.rmap]
    congr
    · funext y0 y1 y2 y3 y4 y5; exact Fac.l3_0.gmap h mk0 n m y0 y1 y2 y3 y4 y5
theorem Fac.l3_0.pat_shape : ∀ st t, Fac.l3_0.pat st = some t → st = Fac.l3_0.shape t := fun _ _ h => by unfold Fac.l3_0.pat at h; split at h <;> cases h; rfl
def Fac.l3_0.k0 : LA → LI → LI → Ex × St := (fun a0 a1 a2 => (((.exit 0), (St.mk [(.own 0 4), (.ptr 1 []), (.ptr 2 [])] [(some (.objs 32 4 a0)), (some (.var (.ints .u64 4 a1))), (some (.var (.ints .u64 4 a2)))])) : Ex × St))
theorem Fac.l3_0.round (n : Nat) (rc : St → Option (Ex × St)) (x0 : Int) (x1 : Int) (x2 : LA) (x3 : LA) (x4 : LI) (x5 : LI) : Fac.R0 n rc ((St.mk [(.int .i64 x0), (.int .i64 x1), (.robjs 69 6 x2), (.own 0 4), (.ptr 1 []), (.ptr 2 [])] [(some (.objs 32 4 x3)), (some (.var (.ints .u64 4 x4))), (some (.var (.ints .u64 4 x5)))])) = Fac.l3_0.r Fac.l3_0.k0 n (fun y0 y1 y2 y3 y4 y5 => rc ((St.mk [(.int .i64 y0), (.int .i64 y1), (.robjs 69 6 y2), (.own 0 4), (.ptr 1 []), (.ptr 2 [])] [(some (.objs 32 4 y3)), (some (.var (.ints .u64 4 y4))), (some (.var (.ints .u64 4 y5)))]))) x0 x1 x2 x3 x4 x5 := by kernel_rfl
theorem Fac.l3_0.loop' (n : Nat) : ∀ (m : Nat) (t : (Int × (Int × (LA × (LA × (LI × LI)))))), loopOf (Fac.R0 n) m (Fac.l3_0.shape t) = Fac.l3_0.g Fac.l3_0.k0 n m t.1 t.2.1 t.2.2.1 t.2.2.2.1 t.2.2.2.2.1 t.2.2.2.2.2 :=
  loop_of_round (shape := Fac.l3_0.shape) (body := Fac.R0 n) (g := fun m t => Fac.l3_0.g Fac.l3_0.k0 n m t.1 t.2.1 t.2.2.1 t.2.2.2.1 t.2.2.2.2.1 t.2.2.2.2.2) (fun t => rfl)
    fun m t ih => (Fac.l3_0.round n (loopOf (Fac.R0 n) m) t.1 t.2.1 t.2.2.1 t.2.2.2.1 t.2.2.2.2.1 t.2.2.2.2.2).trans (congrFun (congrFun (congrFun (congrFun (congrFun (congrFun (congrArg (Fac.l3_0.r Fac.l3_0.k0 n) (funext fun y0 => funext fun y1 => funext fun y2 => funext fun y3 => funext fun y4 => funext fun y5 => ih (y0, y1, y2, y3, y4, y5))) t.1) t.2.1) t.2.2.1) t.2.2.2.1) t.2.2.2.2.1) t.2.2.2.2.2)
theorem Fac.l3_0.loop (n m : Nat) (t : (Int × (Int × (LA × (LA × (LI × LI)))))) : loopOf (Fac.R0 n) m (Fac.l3_0.shape t) = (Fac.l3_0.m n m t).map Fac.l3_0.res :=
  (Fac.l3_0.loop' n m t).trans (Fac.l3_0.gmap Fac.l3_0.res (fun a0 a1 a2 => (a0, a1, a2)) n m t.1 t.2.1 t.2.2.1 t.2.2.2.1 t.2.2.2.2.1 t.2.2.2.2.2)
theorem Fac.gmap {α β : Type} (h : β → α) (mk0 : LI → β) (n : Nat) (a0_0 : LI) (a0_1 : LI) (a0_2 : Bool) (a0_3 : LI) (a0_4 : LI) (a0_5 : LI) (a0_6 : Int) (a0_7 : Int) (a0_8 : Int) (a0_9 : LI) (a0_10 : LI) (a0_11 : Bool) (a0_12 : LI) (a0_13 : Int) (a0_14 : Int) (a0_15 : LI) (a0_16 : LI) (a1 : LI) : Fac.g (fun a0 => (h (mk0 a0))) n a0_0 a0_1 a0_2 a0_3 a0_4 a0_5 a0_6 a0_7 a0_8 a0_9 a0_10 a0_11 a0_12 a0_13 a0_14 a0_15 a0_16 a1 = (Fac.g mk0 n a0_0 a0_1 a0_2 a0_3 a0_4 a0_5 a0_6 a0_7 a0_8 a0_9 a0_10 a0_11 a0_12 a0_13 a0_14 a0_15 a0_16 a1).map h := by
  unfold Fac.g
  exact (bindO_map fun r2 => (ite_map (bindO_map fun r6 => (bindO_map fun r8 => (bindO_map fun r10 => (bindO_map fun r12 => (bindO_map fun r14 => rfl))))) rfl))
theorem Fac.run (n : Nat) (a0_0 : LI) (a0_1 : LI) (a0_2 : Bool) (a0_3 : LI) (a0_4 : LI) (a0_5 : LI) (a0_6 : Int) (a0_7 : Int) (a0_8 : Int) (a0_9 : LI) (a0_10 : LI) (a0_11 : Bool) (a0_12 : LI) (a0_13 : Int) (a0_14 : Int) (a0_15 : LI) (a0_16 : LI) (a1 : LI) : runF (Fac.C n) (Fac.A n) n Tryd.f40 [(.agg [(.ints .u8 20 a0_0), (.ints .u64 4 a0_1), (.bool a0_2), (.ints .u8 20 a0_3), (.rints .u8 a0_4), (.rints .u8 a0_5), (.int .u64 a0_6), (.int .u64 a0_7), (.int .u64 a0_8), (.ints .u64 4 a0_9), (.ints .u64 4 a0_10), (.bool a0_11), (.ints .u8 20 a0_12), (.int .u64 a0_13), (.int .u64 a0_14), (.rints .u8 a0_15), (.rints .u8 a0_16)]), (.ints .u64 4 a1)] [] (fun v o => some (v, o)) = Fac.g (fun a0 => (((.ints .u64 4 a0), []) : AV × Blks)) n a0_0 a0_1 a0_2 a0_3 a0_4 a0_5 a0_6 a0_7 a0_8 a0_9 a0_10 a0_11 a0_12 a0_13 a0_14 a0_15 a0_16 a1 := by kernel_rfl
theorem Fac.call (hmix : Tryd.prog.follows .mixedOrders = true) (n : Nat) (t : (LI × (LI × (Bool × (LI × (LI × (LI × (Int × (Int × (Int × (LI × (LI × (Bool × (LI × (Int × (Int × (LI × (LI × LI)))))))))))))))))) (u) (h : Fac.m n t = some u) : FnC Tryd.prog abiG 40 (Fac.shape t).1 (Fac.shape t).2 (Fac.res u).1 (Fac.res u).2 :=
  fnC1 (C := Fac.C n) (A := Fac.A n) (fn := Tryd.f40) rfl (.cons (Fz.s hmix n) (.cons (Fad.s hmix n) (.cons (Fab.s hmix n) (.cons (Fbb.s hmix n) (.cons (Fba.s hmix n) .nil))))) hmix Tryd.func40 (by kernel_rfl) (lp := [Fac.b0]) (by kernel_rfl) (.cons (show (Fac.A n).loop (key Fac.b0) = some (.mk' Fac.l3_0.pat (Fac.l3_0.m n n) Fac.l3_0.resK) by kernel_rfl) (LoopS.of (res := Fac.l3_0.res) (fun R u K => rfl) Fac.l3_0.pat_shape fun t => Fac.l3_0.loop n n t)
  .nil)
  (nj rfl) (by decide) rfl rfl (by show 2 ≤ Tryd.f40.ntmps; decide) (Fac.run n t.1 t.2.1 t.2.2.1 t.2.2.2.1 t.2.2.2.2.1 t.2.2.2.2.2.1 t.2.2.2.2.2.2.1 t.2.2.2.2.2.2.2.1 t.2.2.2.2.2.2.2.2.1 t.2.2.2.2.2.2.2.2.2.1 t.2.2.2.2.2.2.2.2.2.2.1 t.2.2.2.2.2.2.2.2.2.2.2.1 t.2.2.2.2.2.2.2.2.2.2.2.2.1 t.2.2.2.2.2.2.2.2.2.2.2.2.2.1 t.2.2.2.2.2.2.2.2.2.2.2.2.2.2.1 t.2.2.2.2.2.2.2.2.2.2.2.2.2.2.2.1 t.2.2.2.2.2.2.2.2.2.2.2.2.2.2.2.2.1 t.2.2.2.2.2.2.2.2.2.2.2.2.2.2.2.2.2) (Fac.gmap Fac.res (fun a0 => a0) n t.1 t.2.1 t.2.2.1 t.2.2.2.1 t.2.2.2.2.1 t.2.2.2.2.2.1 t.2.2.2.2.2.2.1 t.2.2.2.2.2.2.2.1 t.2.2.2.2.2.2.2.2.1 t.2.2.2.2.2.2.2.2.2.1 t.2.2.2.2.2.2.2.2.2.2.1 t.2.2.2.2.2.2.2.2.2.2.2.1 t.2.2.2.2.2.2.2.2.2.2.2.2.1 t.2.2.2.2.2.2.2.2.2.2.2.2.2.1 t.2.2.2.2.2.2.2.2.2.2.2.2.2.2.1 t.2.2.2.2.2.2.2.2.2.2.2.2.2.2.2.1 t.2.2.2.2.2.2.2.2.2.2.2.2.2.2.2.2.1 t.2.2.2.2.2.2.2.2.2.2.2.2.2.2.2.2.2) h
theorem Fac.s (hmix : Tryd.prog.follows .mixedOrders = true) (n : Nat) : CalleeS Tryd.prog abiG 40 (Fac.c n) :=
  .mk1 (res := Fac.res) (shape := Fac.shape) (fun R u K => rfl) (fun _ _ _ h => by unfold Fac.pat at h; split at h <;> cases h; rfl) (fun t u h => Fac.call hmix n t u h) Tryd.func40 (by decide) (by kernel_rfl)
end
section
noncomputable section
noncomputable def Fn.C (n : Nat) : Ctx := ⟨Tryd.prog, abiG, lookC [(19, Fl.c n)], fun _ => false⟩
def Fn.live : NL := fun k => match k with
 | 4 => ([5, 0, 1], [4])
 | _ => ([], [])
def Fn.l4_0.r {α : Type} (mk0 : Bool → α) (mk1 : α) (n : Nat) (rc : Int → LA → LA → Option α)  (x0 : Int) (x1 : LA) (x2 : LA) : Option α :=
  if (decide (x0 < (((List.length x1) : Nat) : Int))) = true then
   if 0 ≤ x0 then
    if x0 < (((List.length x1) : Nat) : Int) then
     bindO (tkAgg 3 (List.getD x1 (Int.toNat x0) AV.any)) fun r10 =>
      bindO (tkBool (List.getD r10 0 AV.any)) fun r12 =>
       bindO (tkInts .u64 4 (List.getD r10 1 AV.any)) fun r14 =>
        bindO (tkRints .u8 (List.getD r10 2 AV.any)) fun r16 =>
         if 0 ≤ x0 then
          if x0 < (((List.length x2) : Nat) : Int) then
           bindO (tkAgg 3 (List.getD x2 (Int.toNat x0) AV.any)) fun r22 =>
            bindO (tkBool (List.getD r22 0 AV.any)) fun r24 =>
             bindO (tkInts .u64 4 (List.getD r22 1 AV.any)) fun r26 =>
              bindO (tkRints .u8 (List.getD r22 2 AV.any)) fun r28 =>
               if (!(r12 == r24)) = true then
                some (mk0 false)
               else
                if 0 ≤ x0 then
                 if x0 < (((List.length x1) : Nat) : Int) then
                  bindO (tkAgg 3 (List.getD x1 (Int.toNat x0) AV.any)) fun r36 =>
                   bindO (tkBool (List.getD r36 0 AV.any)) fun r38 =>
                    bindO (tkInts .u64 4 (List.getD r36 1 AV.any)) fun r40 =>
                     bindO (tkRints .u8 (List.getD r36 2 AV.any)) fun r42 =>
                      if 0 ≤ x0 then
                       if x0 < (((List.length x2) : Nat) : Int) then
                        bindO (tkAgg 3 (List.getD x2 (Int.toNat x0) AV.any)) fun r48 =>
                         bindO (tkBool (List.getD r48 0 AV.any)) fun r50 =>
                          bindO (tkInts .u64 4 (List.getD r48 1 AV.any)) fun r52 =>
                           bindO (tkRints .u8 (List.getD r48 2 AV.any)) fun r54 =>
                            if (!(r40 == r52)) = true then
                             some (mk0 false)
                            else
                             if 0 ≤ x0 then
                              if x0 < (((List.length x1) : Nat) : Int) then
                               bindO (tkAgg 3 (List.getD x1 (Int.toNat x0) AV.any)) fun r62 =>
                                bindO (tkBool (List.getD r62 0 AV.any)) fun r64 =>
                                 bindO (tkInts .u64 4 (List.getD r62 1 AV.any)) fun r66 =>
                                  bindO (tkRints .u8 (List.getD r62 2 AV.any)) fun r68 =>
                                   if 0 ≤ x0 then
                                    if x0 < (((List.length x2) : Nat) : Int) then
                                     bindO (tkAgg 3 (List.getD x2 (Int.toNat x0) AV.any)) fun r74 =>
                                      bindO (tkBool (List.getD r74 0 AV.any)) fun r76 =>
                                       bindO (tkInts .u64 4 (List.getD r74 1 AV.any)) fun r78 =>
                                        bindO (tkRints .u8 (List.getD r74 2 AV.any)) fun r80 =>
                                         bindO (Fl.m n (r68, r80)) fun r82 =>
                                          if (!r82) = true then
                                           some (mk0 false)
                                          else
                                           rc (IntKind.wrap .i64 (x0 + 1)) x1 x2
                                    else
                                     none
                                   else
                                    none
                              else
                               none
                             else
                              none
                       else
                        none
                      else
                       none
                 else
                  none
                else
                 none
          else
           none
         else
          none
    else
     none
   else
    none
  else
   some (mk1)
def Fn.l4_0.g {α : Type} (mk0 : Bool → α) (mk1 : α) (n : Nat) : Nat → Int → LA → LA → Option α
 | 0, _, _, _ => none
 | m + 1, x0, x1, x2 => Fn.l4_0.r mk0 mk1 n (fun y0 y1 y2 => Fn.l4_0.g mk0 mk1 n m y0 y1 y2)  x0 x1 x2
def Fn.l4_0.m (n m : Nat) (t : (Int × (LA × LA))) : Option (Bool ⊕ Unit) := Fn.l4_0.g (fun a0 => (.inl a0)) (.inr ()) n m t.1 t.2.1 t.2.2
def Fn.l4_0.pat : St → Option (Int × (LA × LA))
 | (St.mk [(.int .i64 x0), (.robjs 69 6 x1), (.robjs 69 6 x2)] []) => some (x0, x1, x2)
 | _ => none
def Fn.l4_0.shape (t : (Int × (LA × LA))) : St := (St.mk [(.int .i64 t.1), (.robjs 69 6 t.2.1), (.robjs 69 6 t.2.2)] [])
def Fn.l4_0.res : (Bool ⊕ Unit) → Ex × St
 | (.inl u) => (.ret, (St.mk [(.bool u)] []))
 | (.inr u) => ((.exit 0), (St.mk [.any] []))
def Fn.l4_0.resK {R : Type} (u : (Bool ⊕ Unit)) (K : Ex → St → Option R) : Option R := match u with
 | (.inl u) => (fun p : Ex × St => K p.1 p.2) (.ret, (St.mk [(.bool u)] []))
 | (.inr u) => (fun p : Ex × St => K p.1 p.2) ((.exit 0), (St.mk [.any] []))
noncomputable def Fn.A (n : Nat) : Ann := ⟨Tryd.f37.ntmps, 0, Fn.live, [(0, (.objs 69 6)), (1, (.objs 69 6))], [none], fun k => match k with
 | 4 => some (.mk' Fn.l4_0.pat (Fn.l4_0.m n n) Fn.l4_0.resK)
 | _ => none, noNL, lookJ []⟩
noncomputable def Fn.b0 : Code := (loopsIn (Tryd.f37.body.getD .skip)).getD 0 .skip
def Fn.g {α : Type} (mk0 : Bool → α) (n : Nat) (a0 : LA) (a1 : LA) : Option α :=
 if ((((List.length a0) : Nat) : Int) != (((List.length a1) : Nat) : Int)) = true then
  some (mk0 false)
 else
  bindO (Fn.l4_0.m n n (0, a0, a1)) fun r4 => match r4 with
   | (.inl r4) =>
    some (mk0 r4)
   | (.inr r4) =>
    some (mk0 true)
def Fn.m (n : Nat) (t : (LA × LA)) : Option Bool := Fn.g (fun a0 => a0) n t.1 t.2
def Fn.pat : List AV → Blks → Option (LA × LA)
 | [(.robjs 69 6 a0), (.robjs 69 6 a1)], [] => some (a0, a1)
 | _, _ => none
def Fn.shape (t : (LA × LA)) : List AV × Blks := ([(.robjs 69 6 t.1), (.robjs 69 6 t.2)], [])
def Fn.res : Bool → AV × Blks
 | u => ((.bool u), [])
def Fn.resK {R : Type} (u : Bool) (K : AV → Blks → Option R) : Option R := K (Fn.res u).1 (Fn.res u).2
def Fn.c (n : Nat) : Abs.Callee := .mk' [] [(some (.objs 69 6)), (some (.objs 69 6))] Fn.pat (Fn.m n) Fn.resK
end
end
section
noncomputable abbrev Fn.R0 (n : Nat) := roundOf (Fn.C n) (Fn.A n) n Fn.b0
theorem Fn.l4_0.rmap {α β : Type} (h : β → α) (mk0 : Bool → β) (mk1 : β) (n : Nat) (f : Int → LA → LA → Option β)  (x0 : Int) (x1 : LA) (x2 : LA) : Fn.l4_0.r (fun a0 => (h (mk0 a0))) (h mk1) n (fun y0 y1 y2 => (f y0 y1 y2).map h) x0 x1 x2 = (Fn.l4_0.r mk0 mk1 n f x0 x1 x2).map h := by
  unfold Fn.l4_0.r
  exact (ite_map (ite_map (ite_map (bindO_map fun r10 => (bindO_map fun r12 => (bindO_map fun r14 => (bindO_map fun r16 => (ite_map (ite_map (bindO_map fun r22 => (bindO_map fun r24 => (bindO_map fun r26 => (bindO_map fun r28 => (ite_map rfl (ite_map (ite_map (bindO_map fun r36 => (bindO_map fun r38 => (bindO_map fun r40 => (bindO_map fun r42 => (ite_map (ite_map (bindO_map fun r48 => (bindO_map fun r50 => (bindO_map fun r52 => (bindO_map fun r54 => (ite_map rfl (ite_map (ite_map (bindO_map fun r62 => (bindO_map fun r64 => (bindO_map fun r66 => (bindO_map fun r68 => (ite_map (ite_map (bindO_map fun r74 => (bindO_map fun r76 => (bindO_map fun r78 => (bindO_map fun r80 => (bindO_map fun r82 => (ite_map rfl rfl)))))) rfl) rfl))))) rfl) rfl)))))) rfl) rfl))))) rfl) rfl)))))) rfl) rfl))))) rfl) rfl) rfl)
theorem Fn.l4_0.gmap {α β : Type} (h : β → α) (mk0 : Bool → β) (mk1 : β) (n : Nat) : ∀ (m : Nat) (x0 : Int) (x1 : LA) (x2 : LA), Fn.l4_0.g (fun a0 => (h (mk0 a0))) (h mk1) n m x0 x1 x2 = (Fn.l4_0.g mk0 mk1 n m x0 x1 x2).map h
  | 0, _, _, _ => rfl
  | m + 1, x0, x1, x2 => by
    unfold Fn.l4_0.g
    rw [← Fn.l4_0.rmap]
    congr
    · funext y0 y1 y2; exact Fn.l4_0.gmap h mk0 mk1 n m y0 y1 y2
theorem Fn.l4_0.pat_shape : ∀ st t, Fn.l4_0.pat st = some t → st = Fn.l4_0.shape t := fun _ _ h => by unfold Fn.l4_0.pat at h; split at h <;> cases h; rfl
def Fn.l4_0.k0 : Bool → Ex × St := (fun a0 => ((.ret, (St.mk [(.bool a0)] [])) : Ex × St))
def Fn.l4_0.k1 : Ex × St := (((.exit 0), (St.mk [.any] [])) : Ex × St)
theorem Fn.l4_0.round (n : Nat) (rc : St → Option (Ex × St)) (x0 : Int) (x1 : LA) (x2 : LA) : Fn.R0 n rc ((St.mk [(.int .i64 x0), (.robjs 69 6 x1), (.robjs 69 6 x2)] [])) = Fn.l4_0.r Fn.l4_0.k0 Fn.l4_0.k1 n (fun y0 y1 y2 => rc ((St.mk [(.int .i64 y0), (.robjs 69 6 y1), (.robjs 69 6 y2)] []))) x0 x1 x2 := by kernel_rfl
theorem Fn.l4_0.loop' (n : Nat) : ∀ (m : Nat) (t : (Int × (LA × LA))), loopOf (Fn.R0 n) m (Fn.l4_0.shape t) = Fn.l4_0.g Fn.l4_0.k0 Fn.l4_0.k1 n m t.1 t.2.1 t.2.2 :=
  loop_of_round (shape := Fn.l4_0.shape) (body := Fn.R0 n) (g := fun m t => Fn.l4_0.g Fn.l4_0.k0 Fn.l4_0.k1 n m t.1 t.2.1 t.2.2) (fun t => rfl)
    fun m t ih => (Fn.l4_0.round n (loopOf (Fn.R0 n) m) t.1 t.2.1 t.2.2).trans (congrFun (congrFun (congrFun (congrArg (Fn.l4_0.r Fn.l4_0.k0 Fn.l4_0.k1 n) (funext fun y0 => funext fun y1 => funext fun y2 => ih (y0, y1, y2))) t.1) t.2.1) t.2.2)
theorem Fn.l4_0.loop (n m : Nat) (t : (Int × (LA × LA))) : loopOf (Fn.R0 n) m (Fn.l4_0.shape t) = (Fn.l4_0.m n m t).map Fn.l4_0.res :=
  (Fn.l4_0.loop' n m t).trans (Fn.l4_0.gmap Fn.l4_0.res (fun a0 => (.inl a0)) (.inr ()) n m t.1 t.2.1 t.2.2)
theorem Fn.gmap {α β : Type} (h : β → α) (mk0 : Bool → β) (n : Nat) (a0 : LA) (a1 : LA) : Fn.g (fun a0 => (h (mk0 a0))) n a0 a1 = (Fn.g mk0 n a0 a1).map h := by
  unfold Fn.g
  exact (ite_map rfl (bindO_map fun r4 => match r4 with | (.inl r4) => rfl | (.inr r4) => rfl))
theorem Fn.run (n : Nat) (a0 : LA) (a1 : LA) : runF (Fn.C n) (Fn.A n) n Tryd.f37 [(.robjs 69 6 a0), (.robjs 69 6 a1)] [] (fun v o => some (v, o)) = Fn.g (fun a0 => (((.bool a0), []) : AV × Blks)) n a0 a1 := by kernel_rfl
theorem Fn.call (hmix : Tryd.prog.follows .mixedOrders = true) (n : Nat) (t : (LA × LA)) (u) (h : Fn.m n t = some u) : FnC Tryd.prog abiG 37 (Fn.shape t).1 (Fn.shape t).2 (Fn.res u).1 (Fn.res u).2 :=
  fnC1 (C := Fn.C n) (A := Fn.A n) (fn := Tryd.f37) rfl (.cons (Fl.s hmix n) .nil) hmix Tryd.func37 (by kernel_rfl) (lp := [Fn.b0]) (by kernel_rfl) (.cons (show (Fn.A n).loop (key Fn.b0) = some (.mk' Fn.l4_0.pat (Fn.l4_0.m n n) Fn.l4_0.resK) by kernel_rfl) (LoopS.of (res := Fn.l4_0.res) (fun R u K => by rcases u with u | u <;> rfl) Fn.l4_0.pat_shape fun t => Fn.l4_0.loop n n t)
  .nil)
  (nj rfl) (by decide) rfl rfl (by show 2 ≤ Tryd.f37.ntmps; decide) (Fn.run n t.1 t.2) (Fn.gmap Fn.res (fun a0 => a0) n t.1 t.2) h
theorem Fn.s (hmix : Tryd.prog.follows .mixedOrders = true) (n : Nat) : CalleeS Tryd.prog abiG 37 (Fn.c n) :=
  .mk1 (res := Fn.res) (shape := Fn.shape) (fun R u K => rfl) (fun _ _ _ h => by unfold Fn.pat at h; split at h <;> cases h; rfl) (fun t u h => Fn.call hmix n t u h) Tryd.func37 (by decide) (by kernel_rfl)
end
section
noncomputable section
noncomputable def Fap.C (n : Nat) : Ctx := ⟨Tryd.prog, abiG, lookC [(19, Fl.c n)], fun _ => false⟩
def Fap.jlive : NL := fun k => match k with
 | 20001 => ([2, 3], [2, 3, 5])
 | 20002 => ([2, 3, 5], [5, 6, 2, 3])
 | _ => ([], [])
noncomputable def Fap.jc0 : Code := ((seqsIn (Tryd.f42.body.getD .skip)).filter fun a => jkey a == 20001).getD 0 .skip
noncomputable def Fap.jc1 : Code := ((seqsIn (Tryd.f42.body.getD .skip)).filter fun a => jkey a == 20002).getD 0 .skip
def Fap.j20001.g {α : Type} (mk0 : Bool → LI → LI → Bool → LI → LI → LI → Int → Int → Int → LI → LI → Bool → LI → Int → Int → LI → LI → LI → LI → Bool → LI → LI → LI → Int → Int → Int → LI → LI → Bool → LI → Int → Int → LI → LI → α) (n : Nat) (x0 : LI) (x1 : LI) (x2 : Bool) (x3 : LI) (x4 : LI) (x5 : LI) (x6 : Int) (x7 : Int) (x8 : Int) (x9 : LI) (x10 : LI) (x11 : Bool) (x12 : LI) (x13 : Int) (x14 : Int) (x15 : LI) (x16 : LI) (x17 : LI) (x18 : LI) (x19 : Bool) (x20 : LI) (x21 : LI) (x22 : LI) (x23 : Int) (x24 : Int) (x25 : Int) (x26 : LI) (x27 : LI) (x28 : Bool) (x29 : LI) (x30 : Int) (x31 : Int) (x32 : LI) (x33 : LI) : Option α :=
  if (x0 == x17) = true then
   if (x1 == x18) = true then
    if (x2 == x19) = true then
     if (x3 == x20) = true then
      if (x6 == x23) = true then
       if (x7 == x24) = true then
        some (mk0 (x8 == x25) x0 x1 x2 x3 x4 x5 x6 x7 x8 x9 x10 x11 x12 x13 x14 x15 x16 x17 x18 x19 x20 x21 x22 x23 x24 x25 x26 x27 x28 x29 x30 x31 x32 x33)
       else
        some (mk0 false x0 x1 x2 x3 x4 x5 x6 x7 x8 x9 x10 x11 x12 x13 x14 x15 x16 x17 x18 x19 x20 x21 x22 x23 x24 x25 x26 x27 x28 x29 x30 x31 x32 x33)
      else
       some (mk0 false x0 x1 x2 x3 x4 x5 x6 x7 x8 x9 x10 x11 x12 x13 x14 x15 x16 x17 x18 x19 x20 x21 x22 x23 x24 x25 x26 x27 x28 x29 x30 x31 x32 x33)
     else
      some (mk0 false x0 x1 x2 x3 x4 x5 x6 x7 x8 x9 x10 x11 x12 x13 x14 x15 x16 x17 x18 x19 x20 x21 x22 x23 x24 x25 x26 x27 x28 x29 x30 x31 x32 x33)
    else
     some (mk0 false x0 x1 x2 x3 x4 x5 x6 x7 x8 x9 x10 x11 x12 x13 x14 x15 x16 x17 x18 x19 x20 x21 x22 x23 x24 x25 x26 x27 x28 x29 x30 x31 x32 x33)
   else
    some (mk0 false x0 x1 x2 x3 x4 x5 x6 x7 x8 x9 x10 x11 x12 x13 x14 x15 x16 x17 x18 x19 x20 x21 x22 x23 x24 x25 x26 x27 x28 x29 x30 x31 x32 x33)
  else
   some (mk0 false x0 x1 x2 x3 x4 x5 x6 x7 x8 x9 x10 x11 x12 x13 x14 x15 x16 x17 x18 x19 x20 x21 x22 x23 x24 x25 x26 x27 x28 x29 x30 x31 x32 x33)
def Fap.j20001.m (n : Nat) (t : (LI × (LI × (Bool × (LI × (LI × (LI × (Int × (Int × (Int × (LI × (LI × (Bool × (LI × (Int × (Int × (LI × (LI × (LI × (LI × (Bool × (LI × (LI × (LI × (Int × (Int × (Int × (LI × (LI × (Bool × (LI × (Int × (Int × (LI × LI)))))))))))))))))))))))))))))))))) : Option (Bool × (LI × (LI × (Bool × (LI × (LI × (LI × (Int × (Int × (Int × (LI × (LI × (Bool × (LI × (Int × (Int × (LI × (LI × (LI × (LI × (Bool × (LI × (LI × (LI × (Int × (Int × (Int × (LI × (LI × (Bool × (LI × (Int × (Int × (LI × LI)))))))))))))))))))))))))))))))))) := Fap.j20001.g (fun a0 a1 a2 a3 a4 a5 a6 a7 a8 a9 a10 a11 a12 a13 a14 a15 a16 a17 a18 a19 a20 a21 a22 a23 a24 a25 a26 a27 a28 a29 a30 a31 a32 a33 a34 => (a0, a1, a2, a3, a4, a5, a6, a7, a8, a9, a10, a11, a12, a13, a14, a15, a16, a17, a18, a19, a20, a21, a22, a23, a24, a25, a26, a27, a28, a29, a30, a31, a32, a33, a34)) n t.1 t.2.1 t.2.2.1 t.2.2.2.1 t.2.2.2.2.1 t.2.2.2.2.2.1 t.2.2.2.2.2.2.1 t.2.2.2.2.2.2.2.1 t.2.2.2.2.2.2.2.2.1 t.2.2.2.2.2.2.2.2.2.1 t.2.2.2.2.2.2.2.2.2.2.1 t.2.2.2.2.2.2.2.2.2.2.2.1 t.2.2.2.2.2.2.2.2.2.2.2.2.1 t.2.2.2.2.2.2.2.2.2.2.2.2.2.1 t.2.2.2.2.2.2.2.2.2.2.2.2.2.2.1 t.2.2.2.2.2.2.2.2.2.2.2.2.2.2.2.1 t.2.2.2.2.2.2.2.2.2.2.2.2.2.2.2.2.1 t.2.2.2.2.2.2.2.2.2.2.2.2.2.2.2.2.2.1 t.2.2.2.2.2.2.2.2.2.2.2.2.2.2.2.2.2.2.1 t.2.2.2.2.2.2.2.2.2.2.2.2.2.2.2.2.2.2.2.1 t.2.2.2.2.2.2.2.2.2.2.2.2.2.2.2.2.2.2.2.2.1 t.2.2.2.2.2.2.2.2.2.2.2.2.2.2.2.2.2.2.2.2.2.1 t.2.2.2.2.2.2.2.2.2.2.2.2.2.2.2.2.2.2.2.2.2.2.1 t.2.2.2.2.2.2.2.2.2.2.2.2.2.2.2.2.2.2.2.2.2.2.2.1 t.2.2.2.2.2.2.2.2.2.2.2.2.2.2.2.2.2.2.2.2.2.2.2.2.1 t.2.2.2.2.2.2.2.2.2.2.2.2.2.2.2.2.2.2.2.2.2.2.2.2.2.1 t.2.2.2.2.2.2.2.2.2.2.2.2.2.2.2.2.2.2.2.2.2.2.2.2.2.2.1 t.2.2.2.2.2.2.2.2.2.2.2.2.2.2.2.2.2.2.2.2.2.2.2.2.2.2.2.1 t.2.2.2.2.2.2.2.2.2.2.2.2.2.2.2.2.2.2.2.2.2.2.2.2.2.2.2.2.1 t.2.2.2.2.2.2.2.2.2.2.2.2.2.2.2.2.2.2.2.2.2.2.2.2.2.2.2.2.2.1 t.2.2.2.2.2.2.2.2.2.2.2.2.2.2.2.2.2.2.2.2.2.2.2.2.2.2.2.2.2.2.1 t.2.2.2.2.2.2.2.2.2.2.2.2.2.2.2.2.2.2.2.2.2.2.2.2.2.2.2.2.2.2.2.1 t.2.2.2.2.2.2.2.2.2.2.2.2.2.2.2.2.2.2.2.2.2.2.2.2.2.2.2.2.2.2.2.2.1 t.2.2.2.2.2.2.2.2.2.2.2.2.2.2.2.2.2.2.2.2.2.2.2.2.2.2.2.2.2.2.2.2.2
def Fap.j20001.pat : St → Option (LI × (LI × (Bool × (LI × (LI × (LI × (Int × (Int × (Int × (LI × (LI × (Bool × (LI × (Int × (Int × (LI × (LI × (LI × (LI × (Bool × (LI × (LI × (LI × (Int × (Int × (Int × (LI × (LI × (Bool × (LI × (Int × (Int × (LI × LI)))))))))))))))))))))))))))))))))
 | (St.mk [(.ptr 0 []), (.ptr 1 [])] [(some (.var (.agg [(.ints .u8 20 x0), (.ints .u64 4 x1), (.bool x2), (.ints .u8 20 x3), (.rints .u8 x4), (.rints .u8 x5), (.int .u64 x6), (.int .u64 x7), (.int .u64 x8), (.ints .u64 4 x9), (.ints .u64 4 x10), (.bool x11), (.ints .u8 20 x12), (.int .u64 x13), (.int .u64 x14), (.rints .u8 x15), (.rints .u8 x16)]))), (some (.var (.agg [(.ints .u8 20 x17), (.ints .u64 4 x18), (.bool x19), (.ints .u8 20 x20), (.rints .u8 x21), (.rints .u8 x22), (.int .u64 x23), (.int .u64 x24), (.int .u64 x25), (.ints .u64 4 x26), (.ints .u64 4 x27), (.bool x28), (.ints .u8 20 x29), (.int .u64 x30), (.int .u64 x31), (.rints .u8 x32), (.rints .u8 x33)])))]) => some (x0, x1, x2, x3, x4, x5, x6, x7, x8, x9, x10, x11, x12, x13, x14, x15, x16, x17, x18, x19, x20, x21, x22, x23, x24, x25, x26, x27, x28, x29, x30, x31, x32, x33)
 | _ => none
def Fap.j20001.shape (t : (LI × (LI × (Bool × (LI × (LI × (LI × (Int × (Int × (Int × (LI × (LI × (Bool × (LI × (Int × (Int × (LI × (LI × (LI × (LI × (Bool × (LI × (LI × (LI × (Int × (Int × (Int × (LI × (LI × (Bool × (LI × (Int × (Int × (LI × LI)))))))))))))))))))))))))))))))))) : St := (St.mk [(.ptr 0 []), (.ptr 1 [])] [(some (.var (.agg [(.ints .u8 20 t.1), (.ints .u64 4 t.2.1), (.bool t.2.2.1), (.ints .u8 20 t.2.2.2.1), (.rints .u8 t.2.2.2.2.1), (.rints .u8 t.2.2.2.2.2.1), (.int .u64 t.2.2.2.2.2.2.1), (.int .u64 t.2.2.2.2.2.2.2.1), (.int .u64 t.2.2.2.2.2.2.2.2.1), (.ints .u64 4 t.2.2.2.2.2.2.2.2.2.1), (.ints .u64 4 t.2.2.2.2.2.2.2.2.2.2.1), (.bool t.2.2.2.2.2.2.2.2.2.2.2.1), (.ints .u8 20 t.2.2.2.2.2.2.2.2.2.2.2.2.1), (.int .u64 t.2.2.2.2.2.2.2.2.2.2.2.2.2.1), (.int .u64 t.2.2.2.2.2.2.2.2.2.2.2.2.2.2.1), (.rints .u8 t.2.2.2.2.2.2.2.2.2.2.2.2.2.2.2.1), (.rints .u8 t.2.2.2.2.2.2.2.2.2.2.2.2.2.2.2.2.1)]))), (some (.var (.agg [(.ints .u8 20 t.2.2.2.2.2.2.2.2.2.2.2.2.2.2.2.2.2.1), (.ints .u64 4 t.2.2.2.2.2.2.2.2.2.2.2.2.2.2.2.2.2.2.1), (.bool t.2.2.2.2.2.2.2.2.2.2.2.2.2.2.2.2.2.2.2.1), (.ints .u8 20 t.2.2.2.2.2.2.2.2.2.2.2.2.2.2.2.2.2.2.2.2.1), (.rints .u8 t.2.2.2.2.2.2.2.2.2.2.2.2.2.2.2.2.2.2.2.2.2.1), (.rints .u8 t.2.2.2.2.2.2.2.2.2.2.2.2.2.2.2.2.2.2.2.2.2.2.1), (.int .u64 t.2.2.2.2.2.2.2.2.2.2.2.2.2.2.2.2.2.2.2.2.2.2.2.1), (.int .u64 t.2.2.2.2.2.2.2.2.2.2.2.2.2.2.2.2.2.2.2.2.2.2.2.2.1), (.int .u64 t.2.2.2.2.2.2.2.2.2.2.2.2.2.2.2.2.2.2.2.2.2.2.2.2.2.1), (.ints .u64 4 t.2.2.2.2.2.2.2.2.2.2.2.2.2.2.2.2.2.2.2.2.2.2.2.2.2.2.1), (.ints .u64 4 t.2.2.2.2.2.2.2.2.2.2.2.2.2.2.2.2.2.2.2.2.2.2.2.2.2.2.2.1), (.bool t.2.2.2.2.2.2.2.2.2.2.2.2.2.2.2.2.2.2.2.2.2.2.2.2.2.2.2.2.1), (.ints .u8 20 t.2.2.2.2.2.2.2.2.2.2.2.2.2.2.2.2.2.2.2.2.2.2.2.2.2.2.2.2.2.1), (.int .u64 t.2.2.2.2.2.2.2.2.2.2.2.2.2.2.2.2.2.2.2.2.2.2.2.2.2.2.2.2.2.2.1), (.int .u64 t.2.2.2.2.2.2.2.2.2.2.2.2.2.2.2.2.2.2.2.2.2.2.2.2.2.2.2.2.2.2.2.1), (.rints .u8 t.2.2.2.2.2.2.2.2.2.2.2.2.2.2.2.2.2.2.2.2.2.2.2.2.2.2.2.2.2.2.2.2.1), (.rints .u8 t.2.2.2.2.2.2.2.2.2.2.2.2.2.2.2.2.2.2.2.2.2.2.2.2.2.2.2.2.2.2.2.2.2)])))])
def Fap.j20001.res : (Bool × (LI × (LI × (Bool × (LI × (LI × (LI × (Int × (Int × (Int × (LI × (LI × (Bool × (LI × (Int × (Int × (LI × (LI × (LI × (LI × (Bool × (LI × (LI × (LI × (Int × (Int × (Int × (LI × (LI × (Bool × (LI × (Int × (Int × (LI × LI)))))))))))))))))))))))))))))))))) → Ex × St
 | u => (.normal, (St.mk [(.ptr 0 []), (.ptr 1 []), (.bool u.1)] [(some (.var (.agg [(.ints .u8 20 u.2.1), (.ints .u64 4 u.2.2.1), (.bool u.2.2.2.1), (.ints .u8 20 u.2.2.2.2.1), (.rints .u8 u.2.2.2.2.2.1), (.rints .u8 u.2.2.2.2.2.2.1), (.int .u64 u.2.2.2.2.2.2.2.1), (.int .u64 u.2.2.2.2.2.2.2.2.1), (.int .u64 u.2.2.2.2.2.2.2.2.2.1), (.ints .u64 4 u.2.2.2.2.2.2.2.2.2.2.1), (.ints .u64 4 u.2.2.2.2.2.2.2.2.2.2.2.1), (.bool u.2.2.2.2.2.2.2.2.2.2.2.2.1), (.ints .u8 20 u.2.2.2.2.2.2.2.2.2.2.2.2.2.1), (.int .u64 u.2.2.2.2.2.2.2.2.2.2.2.2.2.2.1), (.int .u64 u.2.2.2.2.2.2.2.2.2.2.2.2.2.2.2.1), (.rints .u8 u.2.2.2.2.2.2.2.2.2.2.2.2.2.2.2.2.1), (.rints .u8 u.2.2.2.2.2.2.2.2.2.2.2.2.2.2.2.2.2.1)]))), (some (.var (.agg [(.ints .u8 20 u.2.2.2.2.2.2.2.2.2.2.2.2.2.2.2.2.2.2.1), (.ints .u64 4 u.2.2.2.2.2.2.2.2.2.2.2.2.2.2.2.2.2.2.2.1), (.bool u.2.2.2.2.2.2.2.2.2.2.2.2.2.2.2.2.2.2.2.2.1), (.ints .u8 20 u.2.2.2.2.2.2.2.2.2.2.2.2.2.2.2.2.2.2.2.2.2.1), (.rints .u8 u.2.2.2.2.2.2.2.2.2.2.2.2.2.2.2.2.2.2.2.2.2.2.1), (.rints .u8 u.2.2.2.2.2.2.2.2.2.2.2.2.2.2.2.2.2.2.2.2.2.2.2.1), (.int .u64 u.2.2.2.2.2.2.2.2.2.2.2.2.2.2.2.2.2.2.2.2.2.2.2.2.1), (.int .u64 u.2.2.2.2.2.2.2.2.2.2.2.2.2.2.2.2.2.2.2.2.2.2.2.2.2.1), (.int .u64 u.2.2.2.2.2.2.2.2.2.2.2.2.2.2.2.2.2.2.2.2.2.2.2.2.2.2.1), (.ints .u64 4 u.2.2.2.2.2.2.2.2.2.2.2.2.2.2.2.2.2.2.2.2.2.2.2.2.2.2.2.1), (.ints .u64 4 u.2.2.2.2.2.2.2.2.2.2.2.2.2.2.2.2.2.2.2.2.2.2.2.2.2.2.2.2.1), (.bool u.2.2.2.2.2.2.2.2.2.2.2.2.2.2.2.2.2.2.2.2.2.2.2.2.2.2.2.2.2.1), (.ints .u8 20 u.2.2.2.2.2.2.2.2.2.2.2.2.2.2.2.2.2.2.2.2.2.2.2.2.2.2.2.2.2.2.1), (.int .u64 u.2.2.2.2.2.2.2.2.2.2.2.2.2.2.2.2.2.2.2.2.2.2.2.2.2.2.2.2.2.2.2.1), (.int .u64 u.2.2.2.2.2.2.2.2.2.2.2.2.2.2.2.2.2.2.2.2.2.2.2.2.2.2.2.2.2.2.2.2.1), (.rints .u8 u.2.2.2.2.2.2.2.2.2.2.2.2.2.2.2.2.2.2.2.2.2.2.2.2.2.2.2.2.2.2.2.2.2.1), (.rints .u8 u.2.2.2.2.2.2.2.2.2.2.2.2.2.2.2.2.2.2.2.2.2.2.2.2.2.2.2.2.2.2.2.2.2.2)])))]))
def Fap.j20001.resK {R : Type} (u : (Bool × (LI × (LI × (Bool × (LI × (LI × (LI × (Int × (Int × (Int × (LI × (LI × (Bool × (LI × (Int × (Int × (LI × (LI × (LI × (LI × (Bool × (LI × (LI × (LI × (Int × (Int × (Int × (LI × (LI × (Bool × (LI × (Int × (Int × (LI × LI))))))))))))))))))))))))))))))))))) (K : Ex → St → Option R) : Option R := K (Fap.j20001.res u).1 (Fap.j20001.res u).2
def Fap.j20002.g {α : Type} (mk0 : Bool → Bool → LI → LI → Bool → LI → LI → LI → Int → Int → Int → LI → LI → Bool → LI → Int → Int → LI → LI → LI → LI → Bool → LI → LI → LI → Int → Int → Int → LI → LI → Bool → LI → Int → Int → LI → LI → α) (n : Nat) (x0 : Bool) (x1 : LI) (x2 : LI) (x3 : Bool) (x4 : LI) (x5 : LI) (x6 : LI) (x7 : Int) (x8 : Int) (x9 : Int) (x10 : LI) (x11 : LI) (x12 : Bool) (x13 : LI) (x14 : Int) (x15 : Int) (x16 : LI) (x17 : LI) (x18 : LI) (x19 : LI) (x20 : Bool) (x21 : LI) (x22 : LI) (x23 : LI) (x24 : Int) (x25 : Int) (x26 : Int) (x27 : LI) (x28 : LI) (x29 : Bool) (x30 : LI) (x31 : Int) (x32 : Int) (x33 : LI) (x34 : LI) : Option α :=
  if (x10 == x27) = true then
   if (x11 == x28) = true then
    if (x12 == x29) = true then
     if (x13 == x30) = true then
      if (x14 == x31) = true then
       some (mk0 x0 (x15 == x32) x1 x2 x3 x4 x5 x6 x7 x8 x9 x10 x11 x12 x13 x14 x15 x16 x17 x18 x19 x20 x21 x22 x23 x24 x25 x26 x27 x28 x29 x30 x31 x32 x33 x34)
      else
       some (mk0 x0 false x1 x2 x3 x4 x5 x6 x7 x8 x9 x10 x11 x12 x13 x14 x15 x16 x17 x18 x19 x20 x21 x22 x23 x24 x25 x26 x27 x28 x29 x30 x31 x32 x33 x34)
     else
      some (mk0 x0 false x1 x2 x3 x4 x5 x6 x7 x8 x9 x10 x11 x12 x13 x14 x15 x16 x17 x18 x19 x20 x21 x22 x23 x24 x25 x26 x27 x28 x29 x30 x31 x32 x33 x34)
    else
     some (mk0 x0 false x1 x2 x3 x4 x5 x6 x7 x8 x9 x10 x11 x12 x13 x14 x15 x16 x17 x18 x19 x20 x21 x22 x23 x24 x25 x26 x27 x28 x29 x30 x31 x32 x33 x34)
   else
    some (mk0 x0 false x1 x2 x3 x4 x5 x6 x7 x8 x9 x10 x11 x12 x13 x14 x15 x16 x17 x18 x19 x20 x21 x22 x23 x24 x25 x26 x27 x28 x29 x30 x31 x32 x33 x34)
  else
   some (mk0 x0 false x1 x2 x3 x4 x5 x6 x7 x8 x9 x10 x11 x12 x13 x14 x15 x16 x17 x18 x19 x20 x21 x22 x23 x24 x25 x26 x27 x28 x29 x30 x31 x32 x33 x34)
def Fap.j20002.m (n : Nat) (t : (Bool × (LI × (LI × (Bool × (LI × (LI × (LI × (Int × (Int × (Int × (LI × (LI × (Bool × (LI × (Int × (Int × (LI × (LI × (LI × (LI × (Bool × (LI × (LI × (LI × (Int × (Int × (Int × (LI × (LI × (Bool × (LI × (Int × (Int × (LI × LI))))))))))))))))))))))))))))))))))) : Option (Bool × (Bool × (LI × (LI × (Bool × (LI × (LI × (LI × (Int × (Int × (Int × (LI × (LI × (Bool × (LI × (Int × (Int × (LI × (LI × (LI × (LI × (Bool × (LI × (LI × (LI × (Int × (Int × (Int × (LI × (LI × (Bool × (LI × (Int × (Int × (LI × LI))))))))))))))))))))))))))))))))))) := Fap.j20002.g (fun a0 a1 a2 a3 a4 a5 a6 a7 a8 a9 a10 a11 a12 a13 a14 a15 a16 a17 a18 a19 a20 a21 a22 a23 a24 a25 a26 a27 a28 a29 a30 a31 a32 a33 a34 a35 => (a0, a1, a2, a3, a4, a5, a6, a7, a8, a9, a10, a11, a12, a13, a14, a15, a16, a17, a18, a19, a20, a21, a22, a23, a24, a25, a26, a27, a28, a29, a30, a31, a32, a33, a34, a35)) n t.1 t.2.1 t.2.2.1 t.2.2.2.1 t.2.2.2.2.1 t.2.2.2.2.2.1 t.2.2.2.2.2.2.1 t.2.2.2.2.2.2.2.1 t.2.2.2.2.2.2.2.2.1 t.2.2.2.2.2.2.2.2.2.1 t.2.2.2.2.2.2.2.2.2.2.1 t.2.2.2.2.2.2.2.2.2.2.2.1 t.2.2.2.2.2.2.2.2.2.2.2.2.1 t.2.2.2.2.2.2.2.2.2.2.2.2.2.1 t.2.2.2.2.2.2.2.2.2.2.2.2.2.2.1 t.2.2.2.2.2.2.2.2.2.2.2.2.2.2.2.1 t.2.2.2.2.2.2.2.2.2.2.2.2.2.2.2.2.1 t.2.2.2.2.2.2.2.2.2.2.2.2.2.2.2.2.2.1 t.2.2.2.2.2.2.2.2.2.2.2.2.2.2.2.2.2.2.1 t.2.2.2.2.2.2.2.2.2.2.2.2.2.2.2.2.2.2.2.1 t.2.2.2.2.2.2.2.2.2.2.2.2.2.2.2.2.2.2.2.2.1 t.2.2.2.2.2.2.2.2.2.2.2.2.2.2.2.2.2.2.2.2.2.1 t.2.2.2.2.2.2.2.2.2.2.2.2.2.2.2.2.2.2.2.2.2.2.1 t.2.2.2.2.2.2.2.2.2.2.2.2.2.2.2.2.2.2.2.2.2.2.2.1 t.2.2.2.2.2.2.2.2.2.2.2.2.2.2.2.2.2.2.2.2.2.2.2.2.1 t.2.2.2.2.2.2.2.2.2.2.2.2.2.2.2.2.2.2.2.2.2.2.2.2.2.1 t.2.2.2.2.2.2.2.2.2.2.2.2.2.2.2.2.2.2.2.2.2.2.2.2.2.2.1 t.2.2.2.2.2.2.2.2.2.2.2.2.2.2.2.2.2.2.2.2.2.2.2.2.2.2.2.1 t.2.2.2.2.2.2.2.2.2.2.2.2.2.2.2.2.2.2.2.2.2.2.2.2.2.2.2.2.1 t.2.2.2.2.2.2.2.2.2.2.2.2.2.2.2.2.2.2.2.2.2.2.2.2.2.2.2.2.2.1 t.2.2.2.2.2.2.2.2.2.2.2.2.2.2.2.2.2.2.2.2.2.2.2.2.2.2.2.2.2.2.1 t.2.2.2.2.2.2.2.2.2.2.2.2.2.2.2.2.2.2.2.2.2.2.2.2.2.2.2.2.2.2.2.1 t.2.2.2.2.2.2.2.2.2.2.2.2.2.2.2.2.2.2.2.2.2.2.2.2.2.2.2.2.2.2.2.2.1 t.2.2.2.2.2.2.2.2.2.2.2.2.2.2.2.2.2.2.2.2.2.2.2.2.2.2.2.2.2.2.2.2.2.1 t.2.2.2.2.2.2.2.2.2.2.2.2.2.2.2.2.2.2.2.2.2.2.2.2.2.2.2.2.2.2.2.2.2.2
def Fap.j20002.pat : St → Option (Bool × (LI × (LI × (Bool × (LI × (LI × (LI × (Int × (Int × (Int × (LI × (LI × (Bool × (LI × (Int × (Int × (LI × (LI × (LI × (LI × (Bool × (LI × (LI × (LI × (Int × (Int × (Int × (LI × (LI × (Bool × (LI × (Int × (Int × (LI × LI))))))))))))))))))))))))))))))))))
 | (St.mk [(.ptr 0 []), (.ptr 1 []), (.bool x0)] [(some (.var (.agg [(.ints .u8 20 x1), (.ints .u64 4 x2), (.bool x3), (.ints .u8 20 x4), (.rints .u8 x5), (.rints .u8 x6), (.int .u64 x7), (.int .u64 x8), (.int .u64 x9), (.ints .u64 4 x10), (.ints .u64 4 x11), (.bool x12), (.ints .u8 20 x13), (.int .u64 x14), (.int .u64 x15), (.rints .u8 x16), (.rints .u8 x17)]))), (some (.var (.agg [(.ints .u8 20 x18), (.ints .u64 4 x19), (.bool x20), (.ints .u8 20 x21), (.rints .u8 x22), (.rints .u8 x23), (.int .u64 x24), (.int .u64 x25), (.int .u64 x26), (.ints .u64 4 x27), (.ints .u64 4 x28), (.bool x29), (.ints .u8 20 x30), (.int .u64 x31), (.int .u64 x32), (.rints .u8 x33), (.rints .u8 x34)])))]) => some (x0, x1, x2, x3, x4, x5, x6, x7, x8, x9, x10, x11, x12, x13, x14, x15, x16, x17, x18, x19, x20, x21, x22, x23, x24, x25, x26, x27, x28, x29, x30, x31, x32, x33, x34)
 | _ => none
def Fap.j20002.shape (t : (Bool × (LI × (LI × (Bool × (LI × (LI × (LI × (Int × (Int × (Int × (LI × (LI × (Bool × (LI × (Int × (Int × (LI × (LI × (LI × (LI × (Bool × (LI × (LI × (LI × (Int × (Int × (Int × (LI × (LI × (Bool × (LI × (Int × (Int × (LI × LI))))))))))))))))))))))))))))))))))) : St := (St.mk [(.ptr 0 []), (.ptr 1 []), (.bool t.1)] [(some (.var (.agg [(.ints .u8 20 t.2.1), (.ints .u64 4 t.2.2.1), (.bool t.2.2.2.1), (.ints .u8 20 t.2.2.2.2.1), (.rints .u8 t.2.2.2.2.2.1), (.rints .u8 t.2.2.2.2.2.2.1), (.int .u64 t.2.2.2.2.2.2.2.1), (.int .u64 t.2.2.2.2.2.2.2.2.1), (.int .u64 t.2.2.2.2.2.2.2.2.2.1), (.ints .u64 4 t.2.2.2.2.2.2.2.2.2.2.1), (.ints .u64 4 t.2.2.2.2.2.2.2.2.2.2.2.1), (.bool t.2.2.2.2.2.2.2.2.2.2.2.2.1), (.ints .u8 20 t.2.2.2.2.2.2.2.2.2.2.2.2.2.1), (.int .u64 t.2.2.2.2.2.2.2.2.2.2.2.2.2.2.1), (.int .u64 t.2.2.2.2.2.2.2.2.2.2.2.2.2.2.2.1), (.rints .u8 t.2.2.2.2.2.2.2.2.2.2.2.2.2.2.2.2.1), (.rints .u8 t.2.2.2.2.2.2.2.2.2.2.2.2.2.2.2.2.2.1)]))), (some (.var (.agg [(.ints .u8 20 t.2.2.2.2.2.2.2.2.2.2.2.2.2.2.2.2.2.2.1), (.ints .u64 4 t.2.2.2.2.2.2.2.2.2.2.2.2.2.2.2.2.2.2.2.1), (.bool t.2.2.2.2.2.2.2.2.2.2.2.2.2.2.2.2.2.2.2.2.1), (.ints .u8 20 t.2.2.2.2.2.2.2.2.2.2.2.2.2.2.2.2.2.2.2.2.2.1), (.rints .u8 t.2.2.2.2.2.2.2.2.2.2.2.2.2.2.2.2.2.2.2.2.2.2.1), (.rints .u8 t.2.2.2.2.2.2.2.2.2.2.2.2.2.2.2.2.2.2.2.2.2.2.2.1), (.int .u64 t.2.2.2.2.2.2.2.2.2.2.2.2.2.2.2.2.2.2.2.2.2.2.2.2.1), (.int .u64 t.2.2.2.2.2.2.2.2.2.2.2.2.2.2.2.2.2.2.2.2.2.2.2.2.2.1), (.int .u64 t.2.2.2.2.2.2.2.2.2.2.2.2.2.2.2.2.2.2.2.2.2.2.2.2.2.2.1), (.ints .u64 4 t.2.2.2.2.2.2.2.2.2.2.2.2.2.2.2.2.2.2.2.2.2.2.2.2.2.2.2.1), (.ints .u64 4 t.2.2.2.2.2.2.2.2.2.2.2.2.2.2.2.2.2.2.2.2.2.2.2.2.2.2.2.2.1), (.bool t.2.2.2.2.2.2.2.2.2.2.2.2.2.2.2.2.2.2.2.2.2.2.2.2.2.2.2.2.2.1), (.ints .u8 20 t.2.2.2.2.2.2.2.2.2.2.2.2.2.2.2.2.2.2.2.2.2.2.2.2.2.2.2.2.2.2.1), (.int .u64 t.2.2.2.2.2.2.2.2.2.2.2.2.2.2.2.2.2.2.2.2.2.2.2.2.2.2.2.2.2.2.2.1), (.int .u64 t.2.2.2.2.2.2.2.2.2.2.2.2.2.2.2.2.2.2.2.2.2.2.2.2.2.2.2.2.2.2.2.2.1), (.rints .u8 t.2.2.2.2.2.2.2.2.2.2.2.2.2.2.2.2.2.2.2.2.2.2.2.2.2.2.2.2.2.2.2.2.2.1), (.rints .u8 t.2.2.2.2.2.2.2.2.2.2.2.2.2.2.2.2.2.2.2.2.2.2.2.2.2.2.2.2.2.2.2.2.2.2)])))])
def Fap.j20002.res : (Bool × (Bool × (LI × (LI × (Bool × (LI × (LI × (LI × (Int × (Int × (Int × (LI × (LI × (Bool × (LI × (Int × (Int × (LI × (LI × (LI × (LI × (Bool × (LI × (LI × (LI × (Int × (Int × (Int × (LI × (LI × (Bool × (LI × (Int × (Int × (LI × LI))))))))))))))))))))))))))))))))))) → Ex × St
 | u => (.normal, (St.mk [(.bool u.1), (.bool u.2.1), (.ptr 0 []), (.ptr 1 [])] [(some (.var (.agg [(.ints .u8 20 u.2.2.1), (.ints .u64 4 u.2.2.2.1), (.bool u.2.2.2.2.1), (.ints .u8 20 u.2.2.2.2.2.1), (.rints .u8 u.2.2.2.2.2.2.1), (.rints .u8 u.2.2.2.2.2.2.2.1), (.int .u64 u.2.2.2.2.2.2.2.2.1), (.int .u64 u.2.2.2.2.2.2.2.2.2.1), (.int .u64 u.2.2.2.2.2.2.2.2.2.2.1), (.ints .u64 4 u.2.2.2.2.2.2.2.2.2.2.2.1), (.ints .u64 4 u.2.2.2.2.2.2.2.2.2.2.2.2.1), (.bool u.2.2.2.2.2.2.2.2.2.2.2.2.2.1), (.ints .u8 20 u.2.2.2.2.2.2.2.2.2.2.2.2.2.2.1), (.int .u64 u.2.2.2.2.2.2.2.2.2.2.2.2.2.2.2.1), (.int .u64 u.2.2.2.2.2.2.2.2.2.2.2.2.2.2.2.2.1), (.rints .u8 u.2.2.2.2.2.2.2.2.2.2.2.2.2.2.2.2.2.1), (.rints .u8 u.2.2.2.2.2.2.2.2.2.2.2.2.2.2.2.2.2.2.1)]))), (some (.var (.agg [(.ints .u8 20 u.2.2.2.2.2.2.2.2.2.2.2.2.2.2.2.2.2.2.2.1), (.ints .u64 4 u.2.2.2.2.2.2.2.2.2.2.2.2.2.2.2.2.2.2.2.2.1), (.bool u.2.2.2.2.2.2.2.2.2.2.2.2.2.2.2.2.2.2.2.2.2.1), (.ints .u8 20 u.2.2.2.2.2.2.2.2.2.2.2.2.2.2.2.2.2.2.2.2.2.2.1), (.rints .u8 u.2.2.2.2.2.2.2.2.2.2.2.2.2.2.2.2.2.2.2.2.2.2.2.1), (.rints .u8 u.2.2.2.2.2.2.2.2.2.2.2.2.2.2.2.2.2.2.2.2.2.2.2.2.1), (.int .u64 u.2.2.2.2.2.2.2.2.2.2.2.2.2.2.2.2.2.2.2.2.2.2.2.2.2.1), (.int .u64 u.2.2.2.2.2.2.2.2.2.2.2.2.2.2.2.2.2.2.2.2.2.2.2.2.2.2.1), (.int .u64 u.2.2.2.2.2.2.2.2.2.2.2.2.2.2.2.2.2.2.2.2.2.2.2.2.2.2.2.1), (.ints .u64 4 u.2.2.2.2.2.2.2.2.2.2.2.2.2.2.2.2.2.2.2.2.2.2.2.2.2.2.2.2.1), (.ints .u64 4 u.2.2.2.2.2.2.2.2.2.2.2.2.2.2.2.2.2.2.2.2.2.2.2.2.2.2.2.2.2.1), (.bool u.2.2.2.2.2.2.2.2.2.2.2.2.2.2.2.2.2.2.2.2.2.2.2.2.2.2.2.2.2.2.1), (.ints .u8 20 u.2.2.2.2.2.2.2.2.2.2.2.2.2.2.2.2.2.2.2.2.2.2.2.2.2.2.2.2.2.2.2.1), (.int .u64 u.2.2.2.2.2.2.2.2.2.2.2.2.2.2.2.2.2.2.2.2.2.2.2.2.2.2.2.2.2.2.2.2.1), (.int .u64 u.2.2.2.2.2.2.2.2.2.2.2.2.2.2.2.2.2.2.2.2.2.2.2.2.2.2.2.2.2.2.2.2.2.1), (.rints .u8 u.2.2.2.2.2.2.2.2.2.2.2.2.2.2.2.2.2.2.2.2.2.2.2.2.2.2.2.2.2.2.2.2.2.2.1), (.rints .u8 u.2.2.2.2.2.2.2.2.2.2.2.2.2.2.2.2.2.2.2.2.2.2.2.2.2.2.2.2.2.2.2.2.2.2.2)])))]))
def Fap.j20002.resK {R : Type} (u : (Bool × (Bool × (LI × (LI × (Bool × (LI × (LI × (LI × (Int × (Int × (Int × (LI × (LI × (Bool × (LI × (Int × (Int × (LI × (LI × (LI × (LI × (Bool × (LI × (LI × (LI × (Int × (Int × (Int × (LI × (LI × (Bool × (LI × (Int × (Int × (LI × LI)))))))))))))))))))))))))))))))))))) (K : Ex → St → Option R) : Option R := K (Fap.j20002.res u).1 (Fap.j20002.res u).2
noncomputable def Fap.A (n : Nat) : Ann := ⟨Tryd.f42.ntmps, 0, noNL, [], [none], fun k => match k with
 | _ => none, Fap.jlive, lookJ [(20001, .mk' Fap.j20001.pat (Fap.j20001.m n) Fap.j20001.resK), (20002, .mk' Fap.j20002.pat (Fap.j20002.m n) Fap.j20002.resK)]⟩
def Fap.g {α : Type} (mk0 : Bool → α) (n : Nat) (a0_0 : LI) (a0_1 : LI) (a0_2 : Bool) (a0_3 : LI) (a0_4 : LI) (a0_5 : LI) (a0_6 : Int) (a0_7 : Int) (a0_8 : Int) (a0_9 : LI) (a0_10 : LI) (a0_11 : Bool) (a0_12 : LI) (a0_13 : Int) (a0_14 : Int) (a0_15 : LI) (a0_16 : LI) (a1_0 : LI) (a1_1 : LI) (a1_2 : Bool) (a1_3 : LI) (a1_4 : LI) (a1_5 : LI) (a1_6 : Int) (a1_7 : Int) (a1_8 : Int) (a1_9 : LI) (a1_10 : LI) (a1_11 : Bool) (a1_12 : LI) (a1_13 : Int) (a1_14 : Int) (a1_15 : LI) (a1_16 : LI) : Option α :=
 bindO (Fap.j20001.m n (a0_0, a0_1, a0_2, a0_3, a0_4, a0_5, a0_6, a0_7, a0_8, a0_9, a0_10, a0_11, a0_12, a0_13, a0_14, a0_15, a0_16, a1_0, a1_1, a1_2, a1_3, a1_4, a1_5, a1_6, a1_7, a1_8, a1_9, a1_10, a1_11, a1_12, a1_13, a1_14, a1_15, a1_16)) fun r2 =>
  bindO (Fap.j20002.m n (r2.1, r2.2.1, r2.2.2.1, r2.2.2.2.1, r2.2.2.2.2.1, r2.2.2.2.2.2.1, r2.2.2.2.2.2.2.1, r2.2.2.2.2.2.2.2.1, r2.2.2.2.2.2.2.2.2.1, r2.2.2.2.2.2.2.2.2.2.1, r2.2.2.2.2.2.2.2.2.2.2.1, r2.2.2.2.2.2.2.2.2.2.2.2.1, r2.2.2.2.2.2.2.2.2.2.2.2.2.1, r2.2.2.2.2.2.2.2.2.2.2.2.2.2.1, r2.2.2.2.2.2.2.2.2.2.2.2.2.2.2.1, r2.2.2.2.2.2.2.2.2.2.2.2.2.2.2.2.1, r2.2.2.2.2.2.2.2.2.2.2.2.2.2.2.2.2.1, r2.2.2.2.2.2.2.2.2.2.2.2.2.2.2.2.2.2.1, r2.2.2.2.2.2.2.2.2.2.2.2.2.2.2.2.2.2.2.1, r2.2.2.2.2.2.2.2.2.2.2.2.2.2.2.2.2.2.2.2.1, r2.2.2.2.2.2.2.2.2.2.2.2.2.2.2.2.2.2.2.2.2.1, r2.2.2.2.2.2.2.2.2.2.2.2.2.2.2.2.2.2.2.2.2.2.1, r2.2.2.2.2.2.2.2.2.2.2.2.2.2.2.2.2.2.2.2.2.2.2.1, r2.2.2.2.2.2.2.2.2.2.2.2.2.2.2.2.2.2.2.2.2.2.2.2.1, r2.2.2.2.2.2.2.2.2.2.2.2.2.2.2.2.2.2.2.2.2.2.2.2.2.1, r2.2.2.2.2.2.2.2.2.2.2.2.2.2.2.2.2.2.2.2.2.2.2.2.2.2.1, r2.2.2.2.2.2.2.2.2.2.2.2.2.2.2.2.2.2.2.2.2.2.2.2.2.2.2.1, r2.2.2.2.2.2.2.2.2.2.2.2.2.2.2.2.2.2.2.2.2.2.2.2.2.2.2.2.1, r2.2.2.2.2.2.2.2.2.2.2.2.2.2.2.2.2.2.2.2.2.2.2.2.2.2.2.2.2.1, r2.2.2.2.2.2.2.2.2.2.2.2.2.2.2.2.2.2.2.2.2.2.2.2.2.2.2.2.2.2.1, r2.2.2.2.2.2.2.2.2.2.2.2.2.2.2.2.2.2.2.2.2.2.2.2.2.2.2.2.2.2.2.1, r2.2.2.2.2.2.2.2.2.2.2.2.2.2.2.2.2.2.2.2.2.2.2.2.2.2.2.2.2.2.2.2.1, r2.2.2.2.2.2.2.2.2.2.2.2.2.2.2.2.2.2.2.2.2.2.2.2.2.2.2.2.2.2.2.2.2.1, r2.2.2.2.2.2.2.2.2.2.2.2.2.2.2.2.2.2.2.2.2.2.2.2.2.2.2.2.2.2.2.2.2.2.1, r2.2.2.2.2.2.2.2.2.2.2.2.2.2.2.2.2.2.2.2.2.2.2.2.2.2.2.2.2.2.2.2.2.2.2)) fun r4 =>
   if r4.1 = true then
    if r4.2.1 = true then
     bindO (Fl.m n (r4.2.2.2.2.2.2.1, r4.2.2.2.2.2.2.2.2.2.2.2.2.2.2.2.2.2.2.2.2.2.2.2.1)) fun r10 =>
      if r10 = true then
       bindO (Fl.m n (r4.2.2.2.2.2.2.2.1, r4.2.2.2.2.2.2.2.2.2.2.2.2.2.2.2.2.2.2.2.2.2.2.2.2.1)) fun r14 =>
        if r14 = true then
         bindO (Fl.m n (r4.2.2.2.2.2.2.2.2.2.2.2.2.2.2.2.2.2.1, r4.2.2.2.2.2.2.2.2.2.2.2.2.2.2.2.2.2.2.2.2.2.2.2.2.2.2.2.2.2.2.2.2.2.2.1)) fun r18 =>
          if r18 = true then
           bindO (Fl.m n (r4.2.2.2.2.2.2.2.2.2.2.2.2.2.2.2.2.2.2.1, r4.2.2.2.2.2.2.2.2.2.2.2.2.2.2.2.2.2.2.2.2.2.2.2.2.2.2.2.2.2.2.2.2.2.2.2)) fun r22 =>
            some (mk0 r22)
          else
           some (mk0 false)
        else
         some (mk0 false)
      else
       some (mk0 false)
    else
     some (mk0 false)
   else
    some (mk0 false)
def Fap.m (n : Nat) (t : (LI × (LI × (Bool × (LI × (LI × (LI × (Int × (Int × (Int × (LI × (LI × (Bool × (LI × (Int × (Int × (LI × (LI × (LI × (LI × (Bool × (LI × (LI × (LI × (Int × (Int × (Int × (LI × (LI × (Bool × (LI × (Int × (Int × (LI × LI)))))))))))))))))))))))))))))))))) : Option Bool := Fap.g (fun a0 => a0) n t.1 t.2.1 t.2.2.1 t.2.2.2.1 t.2.2.2.2.1 t.2.2.2.2.2.1 t.2.2.2.2.2.2.1 t.2.2.2.2.2.2.2.1 t.2.2.2.2.2.2.2.2.1 t.2.2.2.2.2.2.2.2.2.1 t.2.2.2.2.2.2.2.2.2.2.1 t.2.2.2.2.2.2.2.2.2.2.2.1 t.2.2.2.2.2.2.2.2.2.2.2.2.1 t.2.2.2.2.2.2.2.2.2.2.2.2.2.1 t.2.2.2.2.2.2.2.2.2.2.2.2.2.2.1 t.2.2.2.2.2.2.2.2.2.2.2.2.2.2.2.1 t.2.2.2.2.2.2.2.2.2.2.2.2.2.2.2.2.1 t.2.2.2.2.2.2.2.2.2.2.2.2.2.2.2.2.2.1 t.2.2.2.2.2.2.2.2.2.2.2.2.2.2.2.2.2.2.1 t.2.2.2.2.2.2.2.2.2.2.2.2.2.2.2.2.2.2.2.1 t.2.2.2.2.2.2.2.2.2.2.2.2.2.2.2.2.2.2.2.2.1 t.2.2.2.2.2.2.2.2.2.2.2.2.2.2.2.2.2.2.2.2.2.1 t.2.2.2.2.2.2.2.2.2.2.2.2.2.2.2.2.2.2.2.2.2.2.1 t.2.2.2.2.2.2.2.2.2.2.2.2.2.2.2.2.2.2.2.2.2.2.2.1 t.2.2.2.2.2.2.2.2.2.2.2.2.2.2.2.2.2.2.2.2.2.2.2.2.1 t.2.2.2.2.2.2.2.2.2.2.2.2.2.2.2.2.2.2.2.2.2.2.2.2.2.1 t.2.2.2.2.2.2.2.2.2.2.2.2.2.2.2.2.2.2.2.2.2.2.2.2.2.2.1 t.2.2.2.2.2.2.2.2.2.2.2.2.2.2.2.2.2.2.2.2.2.2.2.2.2.2.2.1 t.2.2.2.2.2.2.2.2.2.2.2.2.2.2.2.2.2.2.2.2.2.2.2.2.2.2.2.2.1 t.2.2.2.2.2.2.2.2.2.2.2.2.2.2.2.2.2.2.2.2.2.2.2.2.2.2.2.2.2.1 t.2.2.2.2.2.2.2.2.2.2.2.2.2.2.2.2.2.2.2.2.2.2.2.2.2.2.2.2.2.2.1 t.2.2.2.2.2.2.2.2.2.2.2.2.2.2.2.2.2.2.2.2.2.2.2.2.2.2.2.2.2.2.2.1 t.2.2.2.2.2.2.2.2.2.2.2.2.2.2.2.2.2.2.2.2.2.2.2.2.2.2.2.2.2.2.2.2.1 t.2.2.2.2.2.2.2.2.2.2.2.2.2.2.2.2.2.2.2.2.2.2.2.2.2.2.2.2.2.2.2.2.2
def Fap.pat : List AV → Blks → Option (LI × (LI × (Bool × (LI × (LI × (LI × (Int × (Int × (Int × (LI × (LI × (Bool × (LI × (Int × (Int × (LI × (LI × (LI × (LI × (Bool × (LI × (LI × (LI × (Int × (Int × (Int × (LI × (LI × (Bool × (LI × (Int × (Int × (LI × LI)))))))))))))))))))))))))))))))))
 | [(.agg [(.ints .u8 20 a0_0), (.ints .u64 4 a0_1), (.bool a0_2), (.ints .u8 20 a0_3), (.rints .u8 a0_4), (.rints .u8 a0_5), (.int .u64 a0_6), (.int .u64 a0_7), (.int .u64 a0_8), (.ints .u64 4 a0_9), (.ints .u64 4 a0_10), (.bool a0_11), (.ints .u8 20 a0_12), (.int .u64 a0_13), (.int .u64 a0_14), (.rints .u8 a0_15), (.rints .u8 a0_16)]), (.agg [(.ints .u8 20 a1_0), (.ints .u64 4 a1_1), (.bool a1_2), (.ints .u8 20 a1_3), (.rints .u8 a1_4), (.rints .u8 a1_5), (.int .u64 a1_6), (.int .u64 a1_7), (.int .u64 a1_8), (.ints .u64 4 a1_9), (.ints .u64 4 a1_10), (.bool a1_11), (.ints .u8 20 a1_12), (.int .u64 a1_13), (.int .u64 a1_14), (.rints .u8 a1_15), (.rints .u8 a1_16)])], [] => some (a0_0, a0_1, a0_2, a0_3, a0_4, a0_5, a0_6, a0_7, a0_8, a0_9, a0_10, a0_11, a0_12, a0_13, a0_14, a0_15, a0_16, a1_0, a1_1, a1_2, a1_3, a1_4, a1_5, a1_6, a1_7, a1_8, a1_9, a1_10, a1_11, a1_12, a1_13, a1_14, a1_15, a1_16)
 | _, _ => none
def Fap.shape (t : (LI × (LI × (Bool × (LI × (LI × (LI × (Int × (Int × (Int × (LI × (LI × (Bool × (LI × (Int × (Int × (LI × (LI × (LI × (LI × (Bool × (LI × (LI × (LI × (Int × (Int × (Int × (LI × (LI × (Bool × (LI × (Int × (Int × (LI × LI)))))))))))))))))))))))))))))))))) : List AV × Blks := ([(.agg [(.ints .u8 20 t.1), (.ints .u64 4 t.2.1), (.bool t.2.2.1), (.ints .u8 20 t.2.2.2.1), (.rints .u8 t.2.2.2.2.1), (.rints .u8 t.2.2.2.2.2.1), (.int .u64 t.2.2.2.2.2.2.1), (.int .u64 t.2.2.2.2.2.2.2.1), (.int .u64 t.2.2.2.2.2.2.2.2.1), (.ints .u64 4 t.2.2.2.2.2.2.2.2.2.1), (.ints .u64 4 t.2.2.2.2.2.2.2.2.2.2.1), (.bool t.2.2.2.2.2.2.2.2.2.2.2.1), (.ints .u8 20 t.2.2.2.2.2.2.2.2.2.2.2.2.1), (.int .u64 t.2.2.2.2.2.2.2.2.2.2.2.2.2.1), (.int .u64 t.2.2.2.2.2.2.2.2.2.2.2.2.2.2.1), (.rints .u8 t.2.2.2.2.2.2.2.2.2.2.2.2.2.2.2.1), (.rints .u8 t.2.2.2.2.2.2.2.2.2.2.2.2.2.2.2.2.1)]), (.agg [(.ints .u8 20 t.2.2.2.2.2.2.2.2.2.2.2.2.2.2.2.2.2.1), (.ints .u64 4 t.2.2.2.2.2.2.2.2.2.2.2.2.2.2.2.2.2.2.1), (.bool t.2.2.2.2.2.2.2.2.2.2.2.2.2.2.2.2.2.2.2.1), (.ints .u8 20 t.2.2.2.2.2.2.2.2.2.2.2.2.2.2.2.2.2.2.2.2.1), (.rints .u8 t.2.2.2.2.2.2.2.2.2.2.2.2.2.2.2.2.2.2.2.2.2.1), (.rints .u8 t.2.2.2.2.2.2.2.2.2.2.2.2.2.2.2.2.2.2.2.2.2.2.1), (.int .u64 t.2.2.2.2.2.2.2.2.2.2.2.2.2.2.2.2.2.2.2.2.2.2.2.1), (.int .u64 t.2.2.2.2.2.2.2.2.2.2.2.2.2.2.2.2.2.2.2.2.2.2.2.2.1), (.int .u64 t.2.2.2.2.2.2.2.2.2.2.2.2.2.2.2.2.2.2.2.2.2.2.2.2.2.1), (.ints .u64 4 t.2.2.2.2.2.2.2.2.2.2.2.2.2.2.2.2.2.2.2.2.2.2.2.2.2.2.1), (.ints .u64 4 t.2.2.2.2.2.2.2.2.2.2.2.2.2.2.2.2.2.2.2.2.2.2.2.2.2.2.2.1), (.bool t.2.2.2.2.2.2.2.2.2.2.2.2.2.2.2.2.2.2.2.2.2.2.2.2.2.2.2.2.1), (.ints .u8 20 t.2.2.2.2.2.2.2.2.2.2.2.2.2.2.2.2.2.2.2.2.2.2.2.2.2.2.2.2.2.1), (.int .u64 t.2.2.2.2.2.2.2.2.2.2.2.2.2.2.2.2.2.2.2.2.2.2.2.2.2.2.2.2.2.2.1), (.int .u64 t.2.2.2.2.2.2.2.2.2.2.2.2.2.2.2.2.2.2.2.2.2.2.2.2.2.2.2.2.2.2.2.1), (.rints .u8 t.2.2.2.2.2.2.2.2.2.2.2.2.2.2.2.2.2.2.2.2.2.2.2.2.2.2.2.2.2.2.2.2.1), (.rints .u8 t.2.2.2.2.2.2.2.2.2.2.2.2.2.2.2.2.2.2.2.2.2.2.2.2.2.2.2.2.2.2.2.2.2)])], [])
def Fap.res : Bool → AV × Blks
 | u => ((.bool u), [])
def Fap.resK {R : Type} (u : Bool) (K : AV → Blks → Option R) : Option R := K (Fap.res u).1 (Fap.res u).2
def Fap.c (n : Nat) : Abs.Callee := .mk' [] [(some (.agg [none, none, none, none, (some (.ints .u8)), (some (.ints .u8)), none, none, none, none, none, none, none, none, none, (some (.ints .u8)), (some (.ints .u8))])), (some (.agg [none, none, none, none, (some (.ints .u8)), (some (.ints .u8)), none, none, none, none, none, none, none, none, none, (some (.ints .u8)), (some (.ints .u8))]))] Fap.pat (Fap.m n) Fap.resK
end
end
section
theorem Fap.j20001.gmap {α β : Type} (h : β → α) (mk0 : Bool → LI → LI → Bool → LI → LI → LI → Int → Int → Int → LI → LI → Bool → LI → Int → Int → LI → LI → LI → LI → Bool → LI → LI → LI → Int → Int → Int → LI → LI → Bool → LI → Int → Int → LI → LI → β) (n : Nat) (x0 : LI) (x1 : LI) (x2 : Bool) (x3 : LI) (x4 : LI) (x5 : LI) (x6 : Int) (x7 : Int) (x8 : Int) (x9 : LI) (x10 : LI) (x11 : Bool) (x12 : LI) (x13 : Int) (x14 : Int) (x15 : LI) (x16 : LI) (x17 : LI) (x18 : LI) (x19 : Bool) (x20 : LI) (x21 : LI) (x22 : LI) (x23 : Int) (x24 : Int) (x25 : Int) (x26 : LI) (x27 : LI) (x28 : Bool) (x29 : LI) (x30 : Int) (x31 : Int) (x32 : LI) (x33 : LI) : Fap.j20001.g (fun a0 a1 a2 a3 a4 a5 a6 a7 a8 a9 a10 a11 a12 a13 a14 a15 a16 a17 a18 a19 a20 a21 a22 a23 a24 a25 a26 a27 a28 a29 a30 a31 a32 a33 a34 => (h (mk0 a0 a1 a2 a3 a4 a5 a6 a7 a8 a9 a10 a11 a12 a13 a14 a15 a16 a17 a18 a19 a20 a21 a22 a23 a24 a25 a26 a27 a28 a29 a30 a31 a32 a33 a34))) n x0 x1 x2 x3 x4 x5 x6 x7 x8 x9 x10 x11 x12 x13 x14 x15 x16 x17 x18 x19 x20 x21 x22 x23 x24 x25 x26 x27 x28 x29 x30 x31 x32 x33 = (Fap.j20001.g mk0 n x0 x1 x2 x3 x4 x5 x6 x7 x8 x9 x10 x11 x12 x13 x14 x15 x16 x17 x18 x19 x20 x21 x22 x23 x24 x25 x26 x27 x28 x29 x30 x31 x32 x33).map h := by
  unfold Fap.j20001.g
  exact (ite_map (ite_map (ite_map (ite_map (ite_map (ite_map rfl rfl) rfl) rfl) rfl) rfl) rfl)
theorem Fap.j20001.pat_shape : ∀ st t, Fap.j20001.pat st = some t → st = Fap.j20001.shape t := fun _ _ h => by unfold Fap.j20001.pat at h; split at h <;> cases h; rfl
theorem Fap.j20001.run (n : Nat) (x0 : LI) (x1 : LI) (x2 : Bool) (x3 : LI) (x4 : LI) (x5 : LI) (x6 : Int) (x7 : Int) (x8 : Int) (x9 : LI) (x10 : LI) (x11 : Bool) (x12 : LI) (x13 : Int) (x14 : Int) (x15 : LI) (x16 : LI) (x17 : LI) (x18 : LI) (x19 : Bool) (x20 : LI) (x21 : LI) (x22 : LI) (x23 : Int) (x24 : Int) (x25 : Int) (x26 : LI) (x27 : LI) (x28 : Bool) (x29 : LI) (x30 : Int) (x31 : Int) (x32 : LI) (x33 : LI) : joinOf (Fap.C n) (Fap.A n) n Fap.jc0 ((St.mk [(.ptr 0 []), (.ptr 1 [])] [(some (.var (.agg [(.ints .u8 20 x0), (.ints .u64 4 x1), (.bool x2), (.ints .u8 20 x3), (.rints .u8 x4), (.rints .u8 x5), (.int .u64 x6), (.int .u64 x7), (.int .u64 x8), (.ints .u64 4 x9), (.ints .u64 4 x10), (.bool x11), (.ints .u8 20 x12), (.int .u64 x13), (.int .u64 x14), (.rints .u8 x15), (.rints .u8 x16)]))), (some (.var (.agg [(.ints .u8 20 x17), (.ints .u64 4 x18), (.bool x19), (.ints .u8 20 x20), (.rints .u8 x21), (.rints .u8 x22), (.int .u64 x23), (.int .u64 x24), (.int .u64 x25), (.ints .u64 4 x26), (.ints .u64 4 x27), (.bool x28), (.ints .u8 20 x29), (.int .u64 x30), (.int .u64 x31), (.rints .u8 x32), (.rints .u8 x33)])))])) = Fap.j20001.g (fun a0 a1 a2 a3 a4 a5 a6 a7 a8 a9 a10 a11 a12 a13 a14 a15 a16 a17 a18 a19 a20 a21 a22 a23 a24 a25 a26 a27 a28 a29 a30 a31 a32 a33 a34 => ((.normal, (St.mk [(.ptr 0 []), (.ptr 1 []), (.bool a0)] [(some (.var (.agg [(.ints .u8 20 a1), (.ints .u64 4 a2), (.bool a3), (.ints .u8 20 a4), (.rints .u8 a5), (.rints .u8 a6), (.int .u64 a7), (.int .u64 a8), (.int .u64 a9), (.ints .u64 4 a10), (.ints .u64 4 a11), (.bool a12), (.ints .u8 20 a13), (.int .u64 a14), (.int .u64 a15), (.rints .u8 a16), (.rints .u8 a17)]))), (some (.var (.agg [(.ints .u8 20 a18), (.ints .u64 4 a19), (.bool a20), (.ints .u8 20 a21), (.rints .u8 a22), (.rints .u8 a23), (.int .u64 a24), (.int .u64 a25), (.int .u64 a26), (.ints .u64 4 a27), (.ints .u64 4 a28), (.bool a29), (.ints .u8 20 a30), (.int .u64 a31), (.int .u64 a32), (.rints .u8 a33), (.rints .u8 a34)])))])) : Ex × St)) n x0 x1 x2 x3 x4 x5 x6 x7 x8 x9 x10 x11 x12 x13 x14 x15 x16 x17 x18 x19 x20 x21 x22 x23 x24 x25 x26 x27 x28 x29 x30 x31 x32 x33 := by kernel_rfl
theorem Fap.j20001.join (n : Nat) (t : (LI × (LI × (Bool × (LI × (LI × (LI × (Int × (Int × (Int × (LI × (LI × (Bool × (LI × (Int × (Int × (LI × (LI × (LI × (LI × (Bool × (LI × (LI × (LI × (Int × (Int × (Int × (LI × (LI × (Bool × (LI × (Int × (Int × (LI × LI)))))))))))))))))))))))))))))))))) : joinOf (Fap.C n) (Fap.A n) n Fap.jc0 (Fap.j20001.shape t) = (Fap.j20001.m n t).map Fap.j20001.res :=
  (Fap.j20001.run n t.1 t.2.1 t.2.2.1 t.2.2.2.1 t.2.2.2.2.1 t.2.2.2.2.2.1 t.2.2.2.2.2.2.1 t.2.2.2.2.2.2.2.1 t.2.2.2.2.2.2.2.2.1 t.2.2.2.2.2.2.2.2.2.1 t.2.2.2.2.2.2.2.2.2.2.1 t.2.2.2.2.2.2.2.2.2.2.2.1 t.2.2.2.2.2.2.2.2.2.2.2.2.1 t.2.2.2.2.2.2.2.2.2.2.2.2.2.1 t.2.2.2.2.2.2.2.2.2.2.2.2.2.2.1 t.2.2.2.2.2.2.2.2.2.2.2.2.2.2.2.1 t.2.2.2.2.2.2.2.2.2.2.2.2.2.2.2.2.1 t.2.2.2.2.2.2.2.2.2.2.2.2.2.2.2.2.2.1 t.2.2.2.2.2.2.2.2.2.2.2.2.2.2.2.2.2.2.1 t.2.2.2.2.2.2.2.2.2.2.2.2.2.2.2.2.2.2.2.1 t.2.2.2.2.2.2.2.2.2.2.2.2.2.2.2.2.2.2.2.2.1 t.2.2.2.2.2.2.2.2.2.2.2.2.2.2.2.2.2.2.2.2.2.1 t.2.2.2.2.2.2.2.2.2.2.2.2.2.2.2.2.2.2.2.2.2.2.1 t.2.2.2.2.2.2.2.2.2.2.2.2.2.2.2.2.2.2.2.2.2.2.2.1 t.2.2.2.2.2.2.2.2.2.2.2.2.2.2.2.2.2.2.2.2.2.2.2.2.1 t.2.2.2.2.2.2.2.2.2.2.2.2.2.2.2.2.2.2.2.2.2.2.2.2.2.1 t.2.2.2.2.2.2.2.2.2.2.2.2.2.2.2.2.2.2.2.2.2.2.2.2.2.2.1 t.2.2.2.2.2.2.2.2.2.2.2.2.2.2.2.2.2.2.2.2.2.2.2.2.2.2.2.1 t.2.2.2.2.2.2.2.2.2.2.2.2.2.2.2.2.2.2.2.2.2.2.2.2.2.2.2.2.1 t.2.2.2.2.2.2.2.2.2.2.2.2.2.2.2.2.2.2.2.2.2.2.2.2.2.2.2.2.2.1 t.2.2.2.2.2.2.2.2.2.2.2.2.2.2.2.2.2.2.2.2.2.2.2.2.2.2.2.2.2.2.1 t.2.2.2.2.2.2.2.2.2.2.2.2.2.2.2.2.2.2.2.2.2.2.2.2.2.2.2.2.2.2.2.1 t.2.2.2.2.2.2.2.2.2.2.2.2.2.2.2.2.2.2.2.2.2.2.2.2.2.2.2.2.2.2.2.2.1 t.2.2.2.2.2.2.2.2.2.2.2.2.2.2.2.2.2.2.2.2.2.2.2.2.2.2.2.2.2.2.2.2.2).trans (Fap.j20001.gmap Fap.j20001.res (fun a0 a1 a2 a3 a4 a5 a6 a7 a8 a9 a10 a11 a12 a13 a14 a15 a16 a17 a18 a19 a20 a21 a22 a23 a24 a25 a26 a27 a28 a29 a30 a31 a32 a33 a34 => (a0, a1, a2, a3, a4, a5, a6, a7, a8, a9, a10, a11, a12, a13, a14, a15, a16, a17, a18, a19, a20, a21, a22, a23, a24, a25, a26, a27, a28, a29, a30, a31, a32, a33, a34)) n t.1 t.2.1 t.2.2.1 t.2.2.2.1 t.2.2.2.2.1 t.2.2.2.2.2.1 t.2.2.2.2.2.2.1 t.2.2.2.2.2.2.2.1 t.2.2.2.2.2.2.2.2.1 t.2.2.2.2.2.2.2.2.2.1 t.2.2.2.2.2.2.2.2.2.2.1 t.2.2.2.2.2.2.2.2.2.2.2.1 t.2.2.2.2.2.2.2.2.2.2.2.2.1 t.2.2.2.2.2.2.2.2.2.2.2.2.2.1 t.2.2.2.2.2.2.2.2.2.2.2.2.2.2.1 t.2.2.2.2.2.2.2.2.2.2.2.2.2.2.2.1 t.2.2.2.2.2.2.2.2.2.2.2.2.2.2.2.2.1 t.2.2.2.2.2.2.2.2.2.2.2.2.2.2.2.2.2.1 t.2.2.2.2.2.2.2.2.2.2.2.2.2.2.2.2.2.2.1 t.2.2.2.2.2.2.2.2.2.2.2.2.2.2.2.2.2.2.2.1 t.2.2.2.2.2.2.2.2.2.2.2.2.2.2.2.2.2.2.2.2.1 t.2.2.2.2.2.2.2.2.2.2.2.2.2.2.2.2.2.2.2.2.2.1 t.2.2.2.2.2.2.2.2.2.2.2.2.2.2.2.2.2.2.2.2.2.2.1 t.2.2.2.2.2.2.2.2.2.2.2.2.2.2.2.2.2.2.2.2.2.2.2.1 t.2.2.2.2.2.2.2.2.2.2.2.2.2.2.2.2.2.2.2.2.2.2.2.2.1 t.2.2.2.2.2.2.2.2.2.2.2.2.2.2.2.2.2.2.2.2.2.2.2.2.2.1 t.2.2.2.2.2.2.2.2.2.2.2.2.2.2.2.2.2.2.2.2.2.2.2.2.2.2.1 t.2.2.2.2.2.2.2.2.2.2.2.2.2.2.2.2.2.2.2.2.2.2.2.2.2.2.2.1 t.2.2.2.2.2.2.2.2.2.2.2.2.2.2.2.2.2.2.2.2.2.2.2.2.2.2.2.2.1 t.2.2.2.2.2.2.2.2.2.2.2.2.2.2.2.2.2.2.2.2.2.2.2.2.2.2.2.2.2.1 t.2.2.2.2.2.2.2.2.2.2.2.2.2.2.2.2.2.2.2.2.2.2.2.2.2.2.2.2.2.2.1 t.2.2.2.2.2.2.2.2.2.2.2.2.2.2.2.2.2.2.2.2.2.2.2.2.2.2.2.2.2.2.2.1 t.2.2.2.2.2.2.2.2.2.2.2.2.2.2.2.2.2.2.2.2.2.2.2.2.2.2.2.2.2.2.2.2.1 t.2.2.2.2.2.2.2.2.2.2.2.2.2.2.2.2.2.2.2.2.2.2.2.2.2.2.2.2.2.2.2.2.2)
theorem Fap.j20002.gmap {α β : Type} (h : β → α) (mk0 : Bool → Bool → LI → LI → Bool → LI → LI → LI → Int → Int → Int → LI → LI → Bool → LI → Int → Int → LI → LI → LI → LI → Bool → LI → LI → LI → Int → Int → Int → LI → LI → Bool → LI → Int → Int → LI → LI → β) (n : Nat) (x0 : Bool) (x1 : LI) (x2 : LI) (x3 : Bool) (x4 : LI) (x5 : LI) (x6 : LI) (x7 : Int) (x8 : Int) (x9 : Int) (x10 : LI) (x11 : LI) (x12 : Bool) (x13 : LI) (x14 : Int) (x15 : Int) (x16 : LI) (x17 : LI) (x18 : LI) (x19 : LI) (x20 : Bool) (x21 : LI) (x22 : LI) (x23 : LI) (x24 : Int) (x25 : Int) (x26 : Int) (x27 : LI) (x28 : LI) (x29 : Bool) (x30 : LI) (x31 : Int) (x32 : Int) (x33 : LI) (x34 : LI) : Fap.j20002.g (fun a0 a1 a2 a3 a4 a5 a6 a7 a8 a9 a10 a11 a12 a13 a14 a15 a16 a17 a18 a19 a20 a21 a22 a23 a24 a25 a26 a27 a28 a29 a30 a31 a32 a33 a34 a35 => (h (mk0 a0 a1 a2 a3 a4 a5 a6 a7 a8 a9 a10 a11 a12 a13 a14 a15 a16 a17 a18 a19 a20 a21 a22 a23 a24 a25 a26 a27 a28 a29 a30 a31 a32 a33 a34 a35))) n x0 x1 x2 x3 x4 x5 x6 x7 x8 x9 x10 x11 x12 x13 x14 x15 x16 x17 x18 x19 x20 x21 x22 x23 x24 x25 x26 x27 x28 x29 x30 x31 x32 x33 x34 = (Fap.j20002.g mk0 n x0 x1 x2 x3 x4 x5 x6 x7 x8 x9 x10 x11 x12 x13 x14 x15 x16 x17 x18 x19 x20 x21 x22 x23 x24 x25 x26 x27 x28 x29 x30 x31 x32 x33 x34).map h := by
  unfold Fap.j20002.g
  exact (ite_map (ite_map (ite_map (ite_map (ite_map rfl rfl) rfl) rfl) rfl) rfl)
theorem Fap.j20002.pat_shape : ∀ st t, Fap.j20002.pat st = some t → st = Fap.j20002.shape t := fun _ _ h => by unfold Fap.j20002.pat at h; split at h <;> cases h; rfl
theorem Fap.j20002.run (n : Nat) (x0 : Bool) (x1 : LI) (x2 : LI) (x3 : Bool) (x4 : LI) (x5 : LI) (x6 : LI) (x7 : Int) (x8 : Int) (x9 : Int) (x10 : LI) (x11 : LI) (x12 : Bool) (x13 : LI) (x14 : Int) (x15 : Int) (x16 : LI) (x17 : LI) (x18 : LI) (x19 : LI) (x20 : Bool) (x21 : LI) (x22 : LI) (x23 : LI) (x24 : Int) (x25 : Int) (x26 : Int) (x27 : LI) (x28 : LI) (x29 : Bool) (x30 : LI) (x31 : Int) (x32 : Int) (x33 : LI) (x34 : LI) : joinOf (Fap.C n) (Fap.A n) n Fap.jc1 ((St.mk [(.ptr 0 []), (.ptr 1 []), (.bool x0)] [(some (.var (.agg [(.ints .u8 20 x1), (.ints .u64 4 x2), (.bool x3), (.ints .u8 20 x4), (.rints .u8 x5), (.rints .u8 x6), (.int .u64 x7), (.int .u64 x8), (.int .u64 x9), (.ints .u64 4 x10), (.ints .u64 4 x11), (.bool x12), (.ints .u8 20 x13), (.int .u64 x14), (.int .u64 x15), (.rints .u8 x16), (.rints .u8 x17)]))), (some (.var (.agg [(.ints .u8 20 x18), (.ints .u64 4 x19), (.bool x20), (.ints .u8 20 x21), (.rints .u8 x22), (.rints .u8 x23), (.int .u64 x24), (.int .u64 x25), (.int .u64 x26), (.ints .u64 4 x27), (.ints .u64 4 x28), (.bool x29), (.ints .u8 20 x30), (.int .u64 x31), (.int .u64 x32), (.rints .u8 x33), (.rints .u8 x34)])))])) = Fap.j20002.g (fun a0 a1 a2 a3 a4 a5 a6 a7 a8 a9 a10 a11 a12 a13 a14 a15 a16 a17 a18 a19 a20 a21 a22 a23 a24 a25 a26 a27 a28 a29 a30 a31 a32 a33 a34 a35 => ((.normal, (St.mk [(.bool a0), (.bool a1), (.ptr 0 []), (.ptr 1 [])] [(some (.var (.agg [(.ints .u8 20 a2), (.ints .u64 4 a3), (.bool a4), (.ints .u8 20 a5), (.rints .u8 a6), (.rints .u8 a7), (.int .u64 a8), (.int .u64 a9), (.int .u64 a10), (.ints .u64 4 a11), (.ints .u64 4 a12), (.bool a13), (.ints .u8 20 a14), (.int .u64 a15), (.int .u64 a16), (.rints .u8 a17), (.rints .u8 a18)]))), (some (.var (.agg [(.ints .u8 20 a19), (.ints .u64 4 a20), (.bool a21), (.ints .u8 20 a22), (.rints .u8 a23), (.rints .u8 a24), (.int .u64 a25), (.int .u64 a26), (.int .u64 a27), (.ints .u64 4 a28), (.ints .u64 4 a29), (.bool a30), (.ints .u8 20 a31), (.int .u64 a32), (.int .u64 a33), (.rints .u8 a34), (.rints .u8 a35)])))])) : Ex × St)) n x0 x1 x2 x3 x4 x5 x6 x7 x8 x9 x10 x11 x12 x13 x14 x15 x16 x17 x18 x19 x20 x21 x22 x23 x24 x25 x26 x27 x28 x29 x30 x31 x32 x33 x34 := by kernel_rfl
theorem Fap.j20002.join (n : Nat) (t : (Bool × (LI × (LI × (Bool × (LI × (LI × (LI × (Int × (Int × (Int × (LI × (LI × (Bool × (LI × (Int × (Int × (LI × (LI × (LI × (LI × (Bool × (LI × (LI × (LI × (Int × (Int × (Int × (LI × (LI × (Bool × (LI × (Int × (Int × (LI × LI))))))))))))))))))))))))))))))))))) : joinOf (Fap.C n) (Fap.A n) n Fap.jc1 (Fap.j20002.shape t) = (Fap.j20002.m n t).map Fap.j20002.res :=
  (Fap.j20002.run n t.1 t.2.1 t.2.2.1 t.2.2.2.1 t.2.2.2.2.1 t.2.2.2.2.2.1 t.2.2.2.2.2.2.1 t.2.2.2.2.2.2.2.1 t.2.2.2.2.2.2.2.2.1 t.2.2.2.2.2.2.2.2.2.1 t.2.2.2.2.2.2.2.2.2.2.1 t.2.2.2.2.2.2.2.2.2.2.2.1 t.2.2.2.2.2.2.2.2.2.2.2.2.1 t.2.2.2.2.2.2.2.2.2.2.2.2.2.1 t.2.2.2.2.2.2.2.2.2.2.2.2.2.2.1 t.2.2.2.2.2.2.2.2.2.2.2.2.2.2.2.1 t.2.2.2.2.2.2.2.2.2.2.2.2.2.2.2.2.1 t.2.2.2.2.2.2.2.2.2.2.2.2.2.2.2.2.2.1 t.2.2.2.2.2.2.2.2.2.2.2.2.2.2.2.2.2.2.1 t.2.2.2.2.2.2.2.2.2.2.2.2.2.2.2.2.2.2.2.1 t.2.2.2.2.2.2.2.2.2.2.2.2.2.2.2.2.2.2.2.2.1 t.2.2.2.2.2.2.2.2.2.2.2.2.2.2.2.2.2.2.2.2.2.1 t.2.2.2.2.2.2.2.2.2.2.2.2.2.2.2.2.2.2.2.2.2.2.1 t.2.2.2.2.2.2.2.2.2.2.2.2.2.2.2.2.2.2.2.2.2.2.2.1 t.2.2.2.2.2.2.2.2.2.2.2.2.2.2.2.2.2.2.2.2.2.2.2.2.1 t.2.2.2.2.2.2.2.2.2.2.2.2.2.2.2.2.2.2.2.2.2.2.2.2.2.1 t.2.2.2.2.2.2.2.2.2.2.2.2.2.2.2.2.2.2.2.2.2.2.2.2.2.2.1 t.2.2.2.2.2.2.2.2.2.2.2.2.2.2.2.2.2.2.2.2.2.2.2.2.2.2.2.1 t.2.2.2.2.2.2.2.2.2.2.2.2.2.2.2.2.2.2.2.2.2.2.2.2.2.2.2.2.1 t.2.2.2.2.2.2.2.2.2.2.2.2.2.2.2.2.2.2.2.2.2.2.2.2.2.2.2.2.2.1 t.2.2.2.2.2.2.2.2.2.2.2.2.2.2.2.2.2.2.2.2.2.2.2.2.2.2.2.2.2.2.1 t.2.2.2.2.2.2.2.2.2.2.2.2.2.2.2.2.2.2.2.2.2.2.2.2.2.2.2.2.2.2.2.1 t.2.2.2.2.2.2.2.2.2.2.2.2.2.2.2.2.2.2.2.2.2.2.2.2.2.2.2.2.2.2.2.2.1 t.2.2.2.2.2.2.2.2.2.2.2.2.2.2.2.2.2.2.2.2.2.2.2.2.2.2.2.2.2.2.2.2.2.1 t.2.2.2.2.2.2.2.2.2.2.2.2.2.2.2.2.2.2.2.2.2.2.2.2.2.2.2.2.2.2.2.2.2.2).trans (Fap.j20002.gmap Fap.j20002.res (fun a0 a1 a2 a3 a4 a5 a6 a7 a8 a9 a10 a11 a12 a13 a14 a15 a16 a17 a18 a19 a20 a21 a22 a23 a24 a25 a26 a27 a28 a29 a30 a31 a32 a33 a34 a35 => (a0, a1, a2, a3, a4, a5, a6, a7, a8, a9, a10, a11, a12, a13, a14, a15, a16, a17, a18, a19, a20, a21, a22, a23, a24, a25, a26, a27, a28, a29, a30, a31, a32, a33, a34, a35)) n t.1 t.2.1 t.2.2.1 t.2.2.2.1 t.2.2.2.2.1 t.2.2.2.2.2.1 t.2.2.2.2.2.2.1 t.2.2.2.2.2.2.2.1 t.2.2.2.2.2.2.2.2.1 t.2.2.2.2.2.2.2.2.2.1 t.2.2.2.2.2.2.2.2.2.2.1 t.2.2.2.2.2.2.2.2.2.2.2.1 t.2.2.2.2.2.2.2.2.2.2.2.2.1 t.2.2.2.2.2.2.2.2.2.2.2.2.2.1 t.2.2.2.2.2.2.2.2.2.2.2.2.2.2.1 t.2.2.2.2.2.2.2.2.2.2.2.2.2.2.2.1 t.2.2.2.2.2.2.2.2.2.2.2.2.2.2.2.2.1 t.2.2.2.2.2.2.2.2.2.2.2.2.2.2.2.2.2.1 t.2.2.2.2.2.2.2.2.2.2.2.2.2.2.2.2.2.2.1 t.2.2.2.2.2.2.2.2.2.2.2.2.2.2.2.2.2.2.2.1 t.2.2.2.2.2.2.2.2.2.2.2.2.2.2.2.2.2.2.2.2.1 t.2.2.2.2.2.2.2.2.2.2.2.2.2.2.2.2.2.2.2.2.2.1 t.2.2.2.2.2.2.2.2.2.2.2.2.2.2.2.2.2.2.2.2.2.2.1 t.2.2.2.2.2.2.2.2.2.2.2.2.2.2.2.2.2.2.2.2.2.2.2.1 t.2.2.2.2.2.2.2.2.2.2.2.2.2.2.2.2.2.2.2.2.2.2.2.2.1 t.2.2.2.2.2.2.2.2.2.2.2.2.2.2.2.2.2.2.2.2.2.2.2.2.2.1 t.2.2.2.2.2.2.2.2.2.2.2.2.2.2.2.2.2.2.2.2.2.2.2.2.2.2.1 t.2.2.2.2.2.2.2.2.2.2.2.2.2.2.2.2.2.2.2.2.2.2.2.2.2.2.2.1 t.2.2.2.2.2.2.2.2.2.2.2.2.2.2.2.2.2.2.2.2.2.2.2.2.2.2.2.2.1 t.2.2.2.2.2.2.2.2.2.2.2.2.2.2.2.2.2.2.2.2.2.2.2.2.2.2.2.2.2.1 t.2.2.2.2.2.2.2.2.2.2.2.2.2.2.2.2.2.2.2.2.2.2.2.2.2.2.2.2.2.2.1 t.2.2.2.2.2.2.2.2.2.2.2.2.2.2.2.2.2.2.2.2.2.2.2.2.2.2.2.2.2.2.2.1 t.2.2.2.2.2.2.2.2.2.2.2.2.2.2.2.2.2.2.2.2.2.2.2.2.2.2.2.2.2.2.2.2.1 t.2.2.2.2.2.2.2.2.2.2.2.2.2.2.2.2.2.2.2.2.2.2.2.2.2.2.2.2.2.2.2.2.2.1 t.2.2.2.2.2.2.2.2.2.2.2.2.2.2.2.2.2.2.2.2.2.2.2.2.2.2.2.2.2.2.2.2.2.2)
theorem Fap.gmap {α β : Type} (h : β → α) (mk0 : Bool → β) (n : Nat) (a0_0 : LI) (a0_1 : LI) (a0_2 : Bool) (a0_3 : LI) (a0_4 : LI) (a0_5 : LI) (a0_6 : Int) (a0_7 : Int) (a0_8 : Int) (a0_9 : LI) (a0_10 : LI) (a0_11 : Bool) (a0_12 : LI) (a0_13 : Int) (a0_14 : Int) (a0_15 : LI) (a0_16 : LI) (a1_0 : LI) (a1_1 : LI) (a1_2 : Bool) (a1_3 : LI) (a1_4 : LI) (a1_5 : LI) (a1_6 : Int) (a1_7 : Int) (a1_8 : Int) (a1_9 : LI) (a1_10 : LI) (a1_11 : Bool) (a1_12 : LI) (a1_13 : Int) (a1_14 : Int) (a1_15 : LI) (a1_16 : LI) : Fap.g (fun a0 => (h (mk0 a0))) n a0_0 a0_1 a0_2 a0_3 a0_4 a0_5 a0_6 a0_7 a0_8 a0_9 a0_10 a0_11 a0_12 a0_13 a0_14 a0_15 a0_16 a1_0 a1_1 a1_2 a1_3 a1_4 a1_5 a1_6 a1_7 a1_8 a1_9 a1_10 a1_11 a1_12 a1_13 a1_14 a1_15 a1_16 = (Fap.g mk0 n a0_0 a0_1 a0_2 a0_3 a0_4 a0_5 a0_6 a0_7 a0_8 a0_9 a0_10 a0_11 a0_12 a0_13 a0_14 a0_15 a0_16 a1_0 a1_1 a1_2 a1_3 a1_4 a1_5 a1_6 a1_7 a1_8 a1_9 a1_10 a1_11 a1_12 a1_13 a1_14 a1_15 a1_16).map h := by
  unfold Fap.g
  exact (bindO_map fun r2 => (bindO_map fun r4 => (ite_map (ite_map (bindO_map fun r10 => (ite_map (bindO_map fun r14 => (ite_map (bindO_map fun r18 => (ite_map (bindO_map fun r22 => rfl) rfl)) rfl)) rfl)) rfl) rfl)))
theorem Fap.run (n : Nat) (a0_0 : LI) (a0_1 : LI) (a0_2 : Bool) (a0_3 : LI) (a0_4 : LI) (a0_5 : LI) (a0_6 : Int) (a0_7 : Int) (a0_8 : Int) (a0_9 : LI) (a0_10 : LI) (a0_11 : Bool) (a0_12 : LI) (a0_13 : Int) (a0_14 : Int) (a0_15 : LI) (a0_16 : LI) (a1_0 : LI) (a1_1 : LI) (a1_2 : Bool) (a1_3 : LI) (a1_4 : LI) (a1_5 : LI) (a1_6 : Int) (a1_7 : Int) (a1_8 : Int) (a1_9 : LI) (a1_10 : LI) (a1_11 : Bool) (a1_12 : LI) (a1_13 : Int) (a1_14 : Int) (a1_15 : LI) (a1_16 : LI) : runF (Fap.C n) (Fap.A n) n Tryd.f42 [(.agg [(.ints .u8 20 a0_0), (.ints .u64 4 a0_1), (.bool a0_2), (.ints .u8 20 a0_3), (.rints .u8 a0_4), (.rints .u8 a0_5), (.int .u64 a0_6), (.int .u64 a0_7), (.int .u64 a0_8), (.ints .u64 4 a0_9), (.ints .u64 4 a0_10), (.bool a0_11), (.ints .u8 20 a0_12), (.int .u64 a0_13), (.int .u64 a0_14), (.rints .u8 a0_15), (.rints .u8 a0_16)]), (.agg [(.ints .u8 20 a1_0), (.ints .u64 4 a1_1), (.bool a1_2), (.ints .u8 20 a1_3), (.rints .u8 a1_4), (.rints .u8 a1_5), (.int .u64 a1_6), (.int .u64 a1_7), (.int .u64 a1_8), (.ints .u64 4 a1_9), (.ints .u64 4 a1_10), (.bool a1_11), (.ints .u8 20 a1_12), (.int .u64 a1_13), (.int .u64 a1_14), (.rints .u8 a1_15), (.rints .u8 a1_16)])] [] (fun v o => some (v, o)) = Fap.g (fun a0 => (((.bool a0), []) : AV × Blks)) n a0_0 a0_1 a0_2 a0_3 a0_4 a0_5 a0_6 a0_7 a0_8 a0_9 a0_10 a0_11 a0_12 a0_13 a0_14 a0_15 a0_16 a1_0 a1_1 a1_2 a1_3 a1_4 a1_5 a1_6 a1_7 a1_8 a1_9 a1_10 a1_11 a1_12 a1_13 a1_14 a1_15 a1_16 := by kernel_rfl
theorem Fap.call (hmix : Tryd.prog.follows .mixedOrders = true) (n : Nat) (t : (LI × (LI × (Bool × (LI × (LI × (LI × (Int × (Int × (Int × (LI × (LI × (Bool × (LI × (Int × (Int × (LI × (LI × (LI × (LI × (Bool × (LI × (LI × (LI × (Int × (Int × (Int × (LI × (LI × (Bool × (LI × (Int × (Int × (LI × LI)))))))))))))))))))))))))))))))))) (u) (h : Fap.m n t = some u) : FnC Tryd.prog abiG 42 (Fap.shape t).1 (Fap.shape t).2 (Fap.res u).1 (Fap.res u).2 :=
  fnC1 (C := Fap.C n) (A := Fap.A n) (fn := Tryd.f42) rfl (.cons (Fl.s hmix n) .nil) hmix Tryd.func42 (by kernel_rfl) (lp := []) (by kernel_rfl) .nil
  (by
    intro a ha m hm
    have hm' := lookJ_mem (show lookJ [(20001, .mk' Fap.j20001.pat (Fap.j20001.m n) Fap.j20001.resK), (20002, .mk' Fap.j20002.pat (Fap.j20002.m n) Fap.j20002.resK)] (jkey a) = some m from hm)
    simp only [List.mem_cons, List.not_mem_nil, or_false, Prod.mk.injEq] at hm'
    rcases hm' with ⟨hk, rfl⟩ | ⟨hk, rfl⟩
    · obtain rfl := only ha hk (c := Fap.jc0) (by kernel_rfl)
      exact JoinS.of (res := Fap.j20001.res) (fun R u K => rfl) Fap.j20001.pat_shape fun t => Fap.j20001.join n t
    · obtain rfl := only ha hk (c := Fap.jc1) (by kernel_rfl)
      exact JoinS.of (res := Fap.j20002.res) (fun R u K => rfl) Fap.j20002.pat_shape fun t => Fap.j20002.join n t) (by decide) rfl rfl (by show 2 ≤ Tryd.f42.ntmps; decide) (Fap.run n t.1 t.2.1 t.2.2.1 t.2.2.2.1 t.2.2.2.2.1 t.2.2.2.2.2.1 t.2.2.2.2.2.2.1 t.2.2.2.2.2.2.2.1 t.2.2.2.2.2.2.2.2.1 t.2.2.2.2.2.2.2.2.2.1 t.2.2.2.2.2.2.2.2.2.2.1 t.2.2.2.2.2.2.2.2.2.2.2.1 t.2.2.2.2.2.2.2.2.2.2.2.2.1 t.2.2.2.2.2.2.2.2.2.2.2.2.2.1 t.2.2.2.2.2.2.2.2.2.2.2.2.2.2.1 t.2.2.2.2.2.2.2.2.2.2.2.2.2.2.2.1 t.2.2.2.2.2.2.2.2.2.2.2.2.2.2.2.2.1 t.2.2.2.2.2.2.2.2.2.2.2.2.2.2.2.2.2.1 t.2.2.2.2.2.2.2.2.2.2.2.2.2.2.2.2.2.2.1 t.2.2.2.2.2.2.2.2.2.2.2.2.2.2.2.2.2.2.2.1 t.2.2.2.2.2.2.2.2.2.2.2.2.2.2.2.2.2.2.2.2.1 t.2.2.2.2.2.2.2.2.2.2.2.2.2.2.2.2.2.2.2.2.2.1 t.2.2.2.2.2.2.2.2.2.2.2.2.2.2.2.2.2.2.2.2.2.2.1 t.2.2.2.2.2.2.2.2.2.2.2.2.2.2.2.2.2.2.2.2.2.2.2.1 t.2.2.2.2.2.2.2.2.2.2.2.2.2.2.2.2.2.2.2.2.2.2.2.2.1 t.2.2.2.2.2.2.2.2.2.2.2.2.2.2.2.2.2.2.2.2.2.2.2.2.2.1 t.2.2.2.2.2.2.2.2.2.2.2.2.2.2.2.2.2.2.2.2.2.2.2.2.2.2.1 t.2.2.2.2.2.2.2.2.2.2.2.2.2.2.2.2.2.2.2.2.2.2.2.2.2.2.2.1 t.2.2.2.2.2.2.2.2.2.2.2.2.2.2.2.2.2.2.2.2.2.2.2.2.2.2.2.2.1 t.2.2.2.2.2.2.2.2.2.2.2.2.2.2.2.2.2.2.2.2.2.2.2.2.2.2.2.2.2.1 t.2.2.2.2.2.2.2.2.2.2.2.2.2.2.2.2.2.2.2.2.2.2.2.2.2.2.2.2.2.2.1 t.2.2.2.2.2.2.2.2.2.2.2.2.2.2.2.2.2.2.2.2.2.2.2.2.2.2.2.2.2.2.2.1 t.2.2.2.2.2.2.2.2.2.2.2.2.2.2.2.2.2.2.2.2.2.2.2.2.2.2.2.2.2.2.2.2.1 t.2.2.2.2.2.2.2.2.2.2.2.2.2.2.2.2.2.2.2.2.2.2.2.2.2.2.2.2.2.2.2.2.2) (Fap.gmap Fap.res (fun a0 => a0) n t.1 t.2.1 t.2.2.1 t.2.2.2.1 t.2.2.2.2.1 t.2.2.2.2.2.1 t.2.2.2.2.2.2.1 t.2.2.2.2.2.2.2.1 t.2.2.2.2.2.2.2.2.1 t.2.2.2.2.2.2.2.2.2.1 t.2.2.2.2.2.2.2.2.2.2.1 t.2.2.2.2.2.2.2.2.2.2.2.1 t.2.2.2.2.2.2.2.2.2.2.2.2.1 t.2.2.2.2.2.2.2.2.2.2.2.2.2.1 t.2.2.2.2.2.2.2.2.2.2.2.2.2.2.1 t.2.2.2.2.2.2.2.2.2.2.2.2.2.2.2.1 t.2.2.2.2.2.2.2.2.2.2.2.2.2.2.2.2.1 t.2.2.2.2.2.2.2.2.2.2.2.2.2.2.2.2.2.1 t.2.2.2.2.2.2.2.2.2.2.2.2.2.2.2.2.2.2.1 t.2.2.2.2.2.2.2.2.2.2.2.2.2.2.2.2.2.2.2.1 t.2.2.2.2.2.2.2.2.2.2.2.2.2.2.2.2.2.2.2.2.1 t.2.2.2.2.2.2.2.2.2.2.2.2.2.2.2.2.2.2.2.2.2.1 t.2.2.2.2.2.2.2.2.2.2.2.2.2.2.2.2.2.2.2.2.2.2.1 t.2.2.2.2.2.2.2.2.2.2.2.2.2.2.2.2.2.2.2.2.2.2.2.1 t.2.2.2.2.2.2.2.2.2.2.2.2.2.2.2.2.2.2.2.2.2.2.2.2.1 t.2.2.2.2.2.2.2.2.2.2.2.2.2.2.2.2.2.2.2.2.2.2.2.2.2.1 t.2.2.2.2.2.2.2.2.2.2.2.2.2.2.2.2.2.2.2.2.2.2.2.2.2.2.1 t.2.2.2.2.2.2.2.2.2.2.2.2.2.2.2.2.2.2.2.2.2.2.2.2.2.2.2.1 t.2.2.2.2.2.2.2.2.2.2.2.2.2.2.2.2.2.2.2.2.2.2.2.2.2.2.2.2.1 t.2.2.2.2.2.2.2.2.2.2.2.2.2.2.2.2.2.2.2.2.2.2.2.2.2.2.2.2.2.1 t.2.2.2.2.2.2.2.2.2.2.2.2.2.2.2.2.2.2.2.2.2.2.2.2.2.2.2.2.2.2.1 t.2.2.2.2.2.2.2.2.2.2.2.2.2.2.2.2.2.2.2.2.2.2.2.2.2.2.2.2.2.2.2.1 t.2.2.2.2.2.2.2.2.2.2.2.2.2.2.2.2.2.2.2.2.2.2.2.2.2.2.2.2.2.2.2.2.1 t.2.2.2.2.2.2.2.2.2.2.2.2.2.2.2.2.2.2.2.2.2.2.2.2.2.2.2.2.2.2.2.2.2) h
theorem Fap.s (hmix : Tryd.prog.follows .mixedOrders = true) (n : Nat) : CalleeS Tryd.prog abiG 42 (Fap.c n) :=
  .mk1 (res := Fap.res) (shape := Fap.shape) (fun R u K => rfl) (fun _ _ _ h => by unfold Fap.pat at h; split at h <;> cases h; rfl) (fun t u h => Fap.call hmix n t u h) Tryd.func42 (by decide) (by kernel_rfl)
end
section
noncomputable section
noncomputable def Fbc.C (n : Nat) : Ctx := ⟨Tryd.prog, abiG, lookC [(51, Fbg.c n), (95, Fch.c n), (49, Fcd.c n)], fun _ => false⟩
noncomputable def Fbc.A (n : Nat) : Ann := ⟨Tryd.f60.ntmps, 0, noNL, [], [none], fun k => match k with
 | _ => none, noNL, lookJ []⟩
def Fbc.g {α : Type} (mk0 : Int → α) (n : Nat) (a0_0 : LI) (a0_1 : LI) (a0_2 : Bool) (a0_3 : LI) (a0_4 : LI) (a0_5 : LI) (a0_6 : Int) (a0_7 : Int) (a0_8 : Int) (a0_9 : LI) (a0_10 : LI) (a0_11 : Bool) (a0_12 : LI) (a0_13 : Int) (a0_14 : Int) (a0_15 : LI) (a0_16 : LI) : Option α :=
 if (decide ((((List.length a0_4) : Nat) : Int) > 4096)) = true then
  some (mk0 150)
 else
  if (decide ((((List.length a0_5) : Nat) : Int) > 4096)) = true then
   some (mk0 150)
  else
   if (decide ((((List.length a0_15) : Nat) : Int) > 4096)) = true then
    some (mk0 150)
   else
    if (decide ((((List.length a0_16) : Nat) : Int) > 4096)) = true then
     some (mk0 150)
    else
     if (decide (a0_6 > 1048576)) = true then
      some (mk0 150)
     else
      if (decide (a0_7 > 1048576)) = true then
       some (mk0 150)
      else
       if (decide (a0_8 > 1048576)) = true then
        some (mk0 150)
       else
        if (decide (a0_13 > 1048576)) = true then
         some (mk0 150)
        else
         if (decide (a0_14 > 1048576)) = true then
          some (mk0 150)
         else
          bindO (Fbg.m n 120) fun r20 =>
           bindO (Fch.m n (r20, a0_9)) fun r22 =>
            if (!(r22 == [0, 0, 0, 0])) = true then
             some (mk0 150)
            else
             bindO (Fcd.m n (a0_10, a0_9)) fun r26 =>
              if (decide (r26 > 0)) = true then
               some (mk0 150)
              else
               if (!a0_2) = true then
                if (!(a0_3 == ([0, 0, 0, 0, 0, 0, 0, 0, 0, 0, 0, 0, 0, 0, 0, 0, 0, 0, 0, 0] : List Int))) = true then
                 some (mk0 150)
                else
                 if (decide ((((List.length a0_4) : Nat) : Int) > 0)) = true then
                  some (mk0 150)
                 else
                  if (!a0_11) = true then
                   if (!(a0_12 == ([0, 0, 0, 0, 0, 0, 0, 0, 0, 0, 0, 0, 0, 0, 0, 0, 0, 0, 0, 0] : List Int))) = true then
                    some (mk0 150)
                   else
                    if (decide ((((List.length a0_15) : Nat) : Int) > 0)) = true then
                     some (mk0 150)
                    else
                     if (a0_13 != 0) = true then
                      some (mk0 150)
                     else
                      if (a0_14 != 0) = true then
                       some (mk0 150)
                      else
                       some (mk0 0)
                  else
                   some (mk0 0)
               else
                if (!a0_11) = true then
                 if (!(a0_12 == ([0, 0, 0, 0, 0, 0, 0, 0, 0, 0, 0, 0, 0, 0, 0, 0, 0, 0, 0, 0] : List Int))) = true then
                  some (mk0 150)
                 else
                  if (decide ((((List.length a0_15) : Nat) : Int) > 0)) = true then
                   some (mk0 150)
                  else
                   if (a0_13 != 0) = true then
                    some (mk0 150)
                   else
                    if (a0_14 != 0) = true then
                     some (mk0 150)
                    else
                     some (mk0 0)
                else
                 some (mk0 0)
def Fbc.m (n : Nat) (t : (LI × (LI × (Bool × (LI × (LI × (LI × (Int × (Int × (Int × (LI × (LI × (Bool × (LI × (Int × (Int × (LI × LI))))))))))))))))) : Option Int := Fbc.g (fun a0 => a0) n t.1 t.2.1 t.2.2.1 t.2.2.2.1 t.2.2.2.2.1 t.2.2.2.2.2.1 t.2.2.2.2.2.2.1 t.2.2.2.2.2.2.2.1 t.2.2.2.2.2.2.2.2.1 t.2.2.2.2.2.2.2.2.2.1 t.2.2.2.2.2.2.2.2.2.2.1 t.2.2.2.2.2.2.2.2.2.2.2.1 t.2.2.2.2.2.2.2.2.2.2.2.2.1 t.2.2.2.2.2.2.2.2.2.2.2.2.2.1 t.2.2.2.2.2.2.2.2.2.2.2.2.2.2.1 t.2.2.2.2.2.2.2.2.2.2.2.2.2.2.2.1 t.2.2.2.2.2.2.2.2.2.2.2.2.2.2.2.2
def Fbc.pat : List AV → Blks → Option (LI × (LI × (Bool × (LI × (LI × (LI × (Int × (Int × (Int × (LI × (LI × (Bool × (LI × (Int × (Int × (LI × LI))))))))))))))))
 | [(.agg [(.ints .u8 20 a0_0), (.ints .u64 4 a0_1), (.bool a0_2), (.ints .u8 20 a0_3), (.rints .u8 a0_4), (.rints .u8 a0_5), (.int .u64 a0_6), (.int .u64 a0_7), (.int .u64 a0_8), (.ints .u64 4 a0_9), (.ints .u64 4 a0_10), (.bool a0_11), (.ints .u8 20 a0_12), (.int .u64 a0_13), (.int .u64 a0_14), (.rints .u8 a0_15), (.rints .u8 a0_16)])], [] => some (a0_0, a0_1, a0_2, a0_3, a0_4, a0_5, a0_6, a0_7, a0_8, a0_9, a0_10, a0_11, a0_12, a0_13, a0_14, a0_15, a0_16)
 | _, _ => none
def Fbc.shape (t : (LI × (LI × (Bool × (LI × (LI × (LI × (Int × (Int × (Int × (LI × (LI × (Bool × (LI × (Int × (Int × (LI × LI))))))))))))))))) : List AV × Blks := ([(.agg [(.ints .u8 20 t.1), (.ints .u64 4 t.2.1), (.bool t.2.2.1), (.ints .u8 20 t.2.2.2.1), (.rints .u8 t.2.2.2.2.1), (.rints .u8 t.2.2.2.2.2.1), (.int .u64 t.2.2.2.2.2.2.1), (.int .u64 t.2.2.2.2.2.2.2.1), (.int .u64 t.2.2.2.2.2.2.2.2.1), (.ints .u64 4 t.2.2.2.2.2.2.2.2.2.1), (.ints .u64 4 t.2.2.2.2.2.2.2.2.2.2.1), (.bool t.2.2.2.2.2.2.2.2.2.2.2.1), (.ints .u8 20 t.2.2.2.2.2.2.2.2.2.2.2.2.1), (.int .u64 t.2.2.2.2.2.2.2.2.2.2.2.2.2.1), (.int .u64 t.2.2.2.2.2.2.2.2.2.2.2.2.2.2.1), (.rints .u8 t.2.2.2.2.2.2.2.2.2.2.2.2.2.2.2.1), (.rints .u8 t.2.2.2.2.2.2.2.2.2.2.2.2.2.2.2.2)])], [])
def Fbc.res : Int → AV × Blks
 | u => ((.int .i64 u), [])
def Fbc.resK {R : Type} (u : Int) (K : AV → Blks → Option R) : Option R := K (Fbc.res u).1 (Fbc.res u).2
def Fbc.c (n : Nat) : Abs.Callee := .mk' [] [(some (.agg [none, none, none, none, (some (.ints .u8)), (some (.ints .u8)), none, none, none, none, none, none, none, none, none, (some (.ints .u8)), (some (.ints .u8))]))] Fbc.pat (Fbc.m n) Fbc.resK
end
end
section
theorem Fbc.gmap {α β : Type} (h : β → α) (mk0 : Int → β) (n : Nat) (a0_0 : LI) (a0_1 : LI) (a0_2 : Bool) (a0_3 : LI) (a0_4 : LI) (a0_5 : LI) (a0_6 : Int) (a0_7 : Int) (a0_8 : Int) (a0_9 : LI) (a0_10 : LI) (a0_11 : Bool) (a0_12 : LI) (a0_13 : Int) (a0_14 : Int) (a0_15 : LI) (a0_16 : LI) : Fbc.g (fun a0 => (h (mk0 a0))) n a0_0 a0_1 a0_2 a0_3 a0_4 a0_5 a0_6 a0_7 a0_8 a0_9 a0_10 a0_11 a0_12 a0_13 a0_14 a0_15 a0_16 = (Fbc.g mk0 n a0_0 a0_1 a0_2 a0_3 a0_4 a0_5 a0_6 a0_7 a0_8 a0_9 a0_10 a0_11 a0_12 a0_13 a0_14 a0_15 a0_16).map h := by
  unfold Fbc.g
  exact (ite_map rfl (ite_map rfl (ite_map rfl (ite_map rfl (ite_map rfl (ite_map rfl (ite_map rfl (ite_map rfl (ite_map rfl (bindO_map fun r20 => (bindO_map fun r22 => (ite_map rfl (bindO_map fun r26 => (ite_map rfl (ite_map (ite_map rfl (ite_map rfl (ite_map (ite_map rfl (ite_map rfl (ite_map rfl (ite_map rfl rfl)))) rfl))) (ite_map (ite_map rfl (ite_map rfl (ite_map rfl (ite_map rfl rfl)))) rfl))))))))))))))))
theorem Fbc.run (n : Nat) (a0_0 : LI) (a0_1 : LI) (a0_2 : Bool) (a0_3 : LI) (a0_4 : LI) (a0_5 : LI) (a0_6 : Int) (a0_7 : Int) (a0_8 : Int) (a0_9 : LI) (a0_10 : LI) (a0_11 : Bool) (a0_12 : LI) (a0_13 : Int) (a0_14 : Int) (a0_15 : LI) (a0_16 : LI) : runF (Fbc.C n) (Fbc.A n) n Tryd.f60 [(.agg [(.ints .u8 20 a0_0), (.ints .u64 4 a0_1), (.bool a0_2), (.ints .u8 20 a0_3), (.rints .u8 a0_4), (.rints .u8 a0_5), (.int .u64 a0_6), (.int .u64 a0_7), (.int .u64 a0_8), (.ints .u64 4 a0_9), (.ints .u64 4 a0_10), (.bool a0_11), (.ints .u8 20 a0_12), (.int .u64 a0_13), (.int .u64 a0_14), (.rints .u8 a0_15), (.rints .u8 a0_16)])] [] (fun v o => some (v, o)) = Fbc.g (fun a0 => (((.int .i64 a0), []) : AV × Blks)) n a0_0 a0_1 a0_2 a0_3 a0_4 a0_5 a0_6 a0_7 a0_8 a0_9 a0_10 a0_11 a0_12 a0_13 a0_14 a0_15 a0_16 := by kernel_rfl
theorem Fbc.call (hmix : Tryd.prog.follows .mixedOrders = true) (n : Nat) (t : (LI × (LI × (Bool × (LI × (LI × (LI × (Int × (Int × (Int × (LI × (LI × (Bool × (LI × (Int × (Int × (LI × LI))))))))))))))))) (u) (h : Fbc.m n t = some u) : FnC Tryd.prog abiG 60 (Fbc.shape t).1 (Fbc.shape t).2 (Fbc.res u).1 (Fbc.res u).2 :=
  fnC1 (C := Fbc.C n) (A := Fbc.A n) (fn := Tryd.f60) rfl (.cons (Fbg.s hmix n) (.cons (Fch.s hmix n) (.cons (Fcd.s hmix n) .nil))) hmix Tryd.func60 (by kernel_rfl) (lp := []) (by kernel_rfl) .nil
  (nj rfl) (by decide) rfl rfl (by show 1 ≤ Tryd.f60.ntmps; decide) (Fbc.run n t.1 t.2.1 t.2.2.1 t.2.2.2.1 t.2.2.2.2.1 t.2.2.2.2.2.1 t.2.2.2.2.2.2.1 t.2.2.2.2.2.2.2.1 t.2.2.2.2.2.2.2.2.1 t.2.2.2.2.2.2.2.2.2.1 t.2.2.2.2.2.2.2.2.2.2.1 t.2.2.2.2.2.2.2.2.2.2.2.1 t.2.2.2.2.2.2.2.2.2.2.2.2.1 t.2.2.2.2.2.2.2.2.2.2.2.2.2.1 t.2.2.2.2.2.2.2.2.2.2.2.2.2.2.1 t.2.2.2.2.2.2.2.2.2.2.2.2.2.2.2.1 t.2.2.2.2.2.2.2.2.2.2.2.2.2.2.2.2) (Fbc.gmap Fbc.res (fun a0 => a0) n t.1 t.2.1 t.2.2.1 t.2.2.2.1 t.2.2.2.2.1 t.2.2.2.2.2.1 t.2.2.2.2.2.2.1 t.2.2.2.2.2.2.2.1 t.2.2.2.2.2.2.2.2.1 t.2.2.2.2.2.2.2.2.2.1 t.2.2.2.2.2.2.2.2.2.2.1 t.2.2.2.2.2.2.2.2.2.2.2.1 t.2.2.2.2.2.2.2.2.2.2.2.2.1 t.2.2.2.2.2.2.2.2.2.2.2.2.2.1 t.2.2.2.2.2.2.2.2.2.2.2.2.2.2.1 t.2.2.2.2.2.2.2.2.2.2.2.2.2.2.2.1 t.2.2.2.2.2.2.2.2.2.2.2.2.2.2.2.2) h
theorem Fbc.s (hmix : Tryd.prog.follows .mixedOrders = true) (n : Nat) : CalleeS Tryd.prog abiG 60 (Fbc.c n) :=
  .mk1 (res := Fbc.res) (shape := Fbc.shape) (fun R u K => rfl) (fun _ _ _ h => by unfold Fbc.pat at h; split at h <;> cases h; rfl) (fun t u h => Fbc.call hmix n t u h) Tryd.func60 (by decide) (by kernel_rfl)
end
section
noncomputable section
noncomputable def Fcj.C (n : Nat) : Ctx := ⟨Tryd.prog, abiG, lookC [], fun _ => false⟩
noncomputable def Fcj.A (n : Nat) : Ann := ⟨Tryd.f58.ntmps, 0, noNL, [], [none], fun k => match k with
 | _ => none, noNL, lookJ []⟩
def Fcj.g {α : Type} (mk0 : Bool → α) (n : Nat) (a0_0 : LI) (a0_1 : LI) (a0_2 : Bool) (a0_3 : LI) (a0_4 : LI) (a0_5 : LI) (a0_6 : Int) (a0_7 : Int) (a0_8 : Int) (a0_9 : LI) (a0_10 : LI) (a0_11 : Bool) (a0_12 : LI) (a0_13 : Int) (a0_14 : Int) (a0_15 : LI) (a0_16 : LI) (a1 : Int) : Option α :=
 if (decide ((((List.length a0_4) : Nat) : Int) ≤ a1)) = true then
  if (decide ((((List.length a0_5) : Nat) : Int) ≤ a1)) = true then
   if (decide ((((List.length a0_15) : Nat) : Int) ≤ a1)) = true then
    some (mk0 (decide ((((List.length a0_16) : Nat) : Int) ≤ a1)))
   else
    some (mk0 false)
  else
   some (mk0 false)
 else
  some (mk0 false)
def Fcj.m (n : Nat) (t : (LI × (LI × (Bool × (LI × (LI × (LI × (Int × (Int × (Int × (LI × (LI × (Bool × (LI × (Int × (Int × (LI × (LI × Int)))))))))))))))))) : Option Bool := Fcj.g (fun a0 => a0) n t.1 t.2.1 t.2.2.1 t.2.2.2.1 t.2.2.2.2.1 t.2.2.2.2.2.1 t.2.2.2.2.2.2.1 t.2.2.2.2.2.2.2.1 t.2.2.2.2.2.2.2.2.1 t.2.2.2.2.2.2.2.2.2.1 t.2.2.2.2.2.2.2.2.2.2.1 t.2.2.2.2.2.2.2.2.2.2.2.1 t.2.2.2.2.2.2.2.2.2.2.2.2.1 t.2.2.2.2.2.2.2.2.2.2.2.2.2.1 t.2.2.2.2.2.2.2.2.2.2.2.2.2.2.1 t.2.2.2.2.2.2.2.2.2.2.2.2.2.2.2.1 t.2.2.2.2.2.2.2.2.2.2.2.2.2.2.2.2.1 t.2.2.2.2.2.2.2.2.2.2.2.2.2.2.2.2.2
def Fcj.pat : List AV → Blks → Option (LI × (LI × (Bool × (LI × (LI × (LI × (Int × (Int × (Int × (LI × (LI × (Bool × (LI × (Int × (Int × (LI × (LI × Int)))))))))))))))))
 | [(.agg [(.ints .u8 20 a0_0), (.ints .u64 4 a0_1), (.bool a0_2), (.ints .u8 20 a0_3), (.rints .u8 a0_4), (.rints .u8 a0_5), (.int .u64 a0_6), (.int .u64 a0_7), (.int .u64 a0_8), (.ints .u64 4 a0_9), (.ints .u64 4 a0_10), (.bool a0_11), (.ints .u8 20 a0_12), (.int .u64 a0_13), (.int .u64 a0_14), (.rints .u8 a0_15), (.rints .u8 a0_16)]), (.int .i64 a1)], [] => some (a0_0, a0_1, a0_2, a0_3, a0_4, a0_5, a0_6, a0_7, a0_8, a0_9, a0_10, a0_11, a0_12, a0_13, a0_14, a0_15, a0_16, a1)
 | _, _ => none
def Fcj.shape (t : (LI × (LI × (Bool × (LI × (LI × (LI × (Int × (Int × (Int × (LI × (LI × (Bool × (LI × (Int × (Int × (LI × (LI × Int)))))))))))))))))) : List AV × Blks := ([(.agg [(.ints .u8 20 t.1), (.ints .u64 4 t.2.1), (.bool t.2.2.1), (.ints .u8 20 t.2.2.2.1), (.rints .u8 t.2.2.2.2.1), (.rints .u8 t.2.2.2.2.2.1), (.int .u64 t.2.2.2.2.2.2.1), (.int .u64 t.2.2.2.2.2.2.2.1), (.int .u64 t.2.2.2.2.2.2.2.2.1), (.ints .u64 4 t.2.2.2.2.2.2.2.2.2.1), (.ints .u64 4 t.2.2.2.2.2.2.2.2.2.2.1), (.bool t.2.2.2.2.2.2.2.2.2.2.2.1), (.ints .u8 20 t.2.2.2.2.2.2.2.2.2.2.2.2.1), (.int .u64 t.2.2.2.2.2.2.2.2.2.2.2.2.2.1), (.int .u64 t.2.2.2.2.2.2.2.2.2.2.2.2.2.2.1), (.rints .u8 t.2.2.2.2.2.2.2.2.2.2.2.2.2.2.2.1), (.rints .u8 t.2.2.2.2.2.2.2.2.2.2.2.2.2.2.2.2.1)]), (.int .i64 t.2.2.2.2.2.2.2.2.2.2.2.2.2.2.2.2.2)], [])
def Fcj.res : Bool → AV × Blks
 | u => ((.bool u), [])
def Fcj.resK {R : Type} (u : Bool) (K : AV → Blks → Option R) : Option R := K (Fcj.res u).1 (Fcj.res u).2
def Fcj.c (n : Nat) : Abs.Callee := .mk' [] [(some (.agg [none, none, none, none, (some (.ints .u8)), (some (.ints .u8)), none, none, none, none, none, none, none, none, none, (some (.ints .u8)), (some (.ints .u8))])), none] Fcj.pat (Fcj.m n) Fcj.resK
end
end
section
noncomputable section
noncomputable def Fci.C (n : Nat) : Ctx := ⟨Tryd.prog, abiG, lookC [(58, Fcj.c n), (60, Fbc.c n)], fun _ => false⟩
noncomputable def Fci.A (n : Nat) : Ann := ⟨Tryd.f29.ntmps, 0, noNL, [], [none], fun k => match k with
 | _ => none, noNL, lookJ []⟩
def Fci.g {α : Type} (mk0 : Bool → α) (n : Nat) (a0_0 : LI) (a0_1 : LI) (a0_2 : Bool) (a0_3 : LI) (a0_4 : LI) (a0_5 : LI) (a0_6 : Int) (a0_7 : Int) (a0_8 : Int) (a0_9 : LI) (a0_10 : LI) (a0_11 : Bool) (a0_12 : LI) (a0_13 : Int) (a0_14 : Int) (a0_15 : LI) (a0_16 : LI) : Option α :=
 bindO (Fcj.m n (a0_0, a0_1, a0_2, a0_3, a0_4, a0_5, a0_6, a0_7, a0_8, a0_9, a0_10, a0_11, a0_12, a0_13, a0_14, a0_15, a0_16, 1000)) fun r2 =>
  if r2 = true then
   bindO (Fbc.m n (a0_0, a0_1, a0_2, a0_3, a0_4, a0_5, a0_6, a0_7, a0_8, a0_9, a0_10, a0_11, a0_12, a0_13, a0_14, a0_15, a0_16)) fun r6 =>
    some (mk0 (r6 == 0))
  else
   some (mk0 false)
def Fci.m (n : Nat) (t : (LI × (LI × (Bool × (LI × (LI × (LI × (Int × (Int × (Int × (LI × (LI × (Bool × (LI × (Int × (Int × (LI × LI))))))))))))))))) : Option Bool := Fci.g (fun a0 => a0) n t.1 t.2.1 t.2.2.1 t.2.2.2.1 t.2.2.2.2.1 t.2.2.2.2.2.1 t.2.2.2.2.2.2.1 t.2.2.2.2.2.2.2.1 t.2.2.2.2.2.2.2.2.1 t.2.2.2.2.2.2.2.2.2.1 t.2.2.2.2.2.2.2.2.2.2.1 t.2.2.2.2.2.2.2.2.2.2.2.1 t.2.2.2.2.2.2.2.2.2.2.2.2.1 t.2.2.2.2.2.2.2.2.2.2.2.2.2.1 t.2.2.2.2.2.2.2.2.2.2.2.2.2.2.1 t.2.2.2.2.2.2.2.2.2.2.2.2.2.2.2.1 t.2.2.2.2.2.2.2.2.2.2.2.2.2.2.2.2
def Fci.pat : List AV → Blks → Option (LI × (LI × (Bool × (LI × (LI × (LI × (Int × (Int × (Int × (LI × (LI × (Bool × (LI × (Int × (Int × (LI × LI))))))))))))))))
 | [(.agg [(.ints .u8 20 a0_0), (.ints .u64 4 a0_1), (.bool a0_2), (.ints .u8 20 a0_3), (.rints .u8 a0_4), (.rints .u8 a0_5), (.int .u64 a0_6), (.int .u64 a0_7), (.int .u64 a0_8), (.ints .u64 4 a0_9), (.ints .u64 4 a0_10), (.bool a0_11), (.ints .u8 20 a0_12), (.int .u64 a0_13), (.int .u64 a0_14), (.rints .u8 a0_15), (.rints .u8 a0_16)])], [] => some (a0_0, a0_1, a0_2, a0_3, a0_4, a0_5, a0_6, a0_7, a0_8, a0_9, a0_10, a0_11, a0_12, a0_13, a0_14, a0_15, a0_16)
 | _, _ => none
def Fci.shape (t : (LI × (LI × (Bool × (LI × (LI × (LI × (Int × (Int × (Int × (LI × (LI × (Bool × (LI × (Int × (Int × (LI × LI))))))))))))))))) : List AV × Blks := ([(.agg [(.ints .u8 20 t.1), (.ints .u64 4 t.2.1), (.bool t.2.2.1), (.ints .u8 20 t.2.2.2.1), (.rints .u8 t.2.2.2.2.1), (.rints .u8 t.2.2.2.2.2.1), (.int .u64 t.2.2.2.2.2.2.1), (.int .u64 t.2.2.2.2.2.2.2.1), (.int .u64 t.2.2.2.2.2.2.2.2.1), (.ints .u64 4 t.2.2.2.2.2.2.2.2.2.1), (.ints .u64 4 t.2.2.2.2.2.2.2.2.2.2.1), (.bool t.2.2.2.2.2.2.2.2.2.2.2.1), (.ints .u8 20 t.2.2.2.2.2.2.2.2.2.2.2.2.1), (.int .u64 t.2.2.2.2.2.2.2.2.2.2.2.2.2.1), (.int .u64 t.2.2.2.2.2.2.2.2.2.2.2.2.2.2.1), (.rints .u8 t.2.2.2.2.2.2.2.2.2.2.2.2.2.2.2.1), (.rints .u8 t.2.2.2.2.2.2.2.2.2.2.2.2.2.2.2.2)])], [])
def Fci.res : Bool → AV × Blks
 | u => ((.bool u), [])
def Fci.resK {R : Type} (u : Bool) (K : AV → Blks → Option R) : Option R := K (Fci.res u).1 (Fci.res u).2
def Fci.c (n : Nat) : Abs.Callee := .mk' [] [(some (.agg [none, none, none, none, (some (.ints .u8)), (some (.ints .u8)), none, none, none, none, none, none, none, none, none, (some (.ints .u8)), (some (.ints .u8))]))] Fci.pat (Fci.m n) Fci.resK
end
end
