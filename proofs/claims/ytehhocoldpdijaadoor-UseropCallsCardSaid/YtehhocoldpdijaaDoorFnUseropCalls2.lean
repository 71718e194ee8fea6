/- What the program's functions compute, as plain functions, each with its proof: the function does just that. Condition: the plain function has an answer. -/
import Derived.Test.YtehhocoldpdijaaDoorFnUseropCalls1
import Derived.Test.YtehhocoldpdijaaDoorAbsG6
import Derived.Test.YtehhocoldpdijaaDoorProg
set_option linter.unusedVariables false
set_option linter.unusedSimpArgs false
set_option maxRecDepth 100000
open Go Go.Abs Go.Proofs
section
noncomputable abbrev Fbd.R0 (n : Nat) := roundOf (Fbd.C n) (Fbd.A n) n Fbd.b0
theorem Fbd.l4_0.rmap {α β : Type} (h : β → α) (mk0 : LI → LI → β) (n : Nat) (f : Int → Int → LI → LI → LI → Option β)  (x0 : Int) (x1 : Int) (x2 : LI) (x3 : LI) (x4 : LI) : Fbd.l4_0.r (fun a0 a1 => (h (mk0 a0 a1))) n (fun y0 y1 y2 y3 y4 => (f y0 y1 y2 y3 y4).map h) x0 x1 x2 x3 x4 = (Fbd.l4_0.r mk0 n f x0 x1 x2 x3 x4).map h := by
  unfold Fbd.l4_0.r
  exact (ite_map (ite_map (ite_map (ite_map (ite_map (ite_map (ite_map (ite_map (ite_map rfl rfl) rfl) rfl) rfl) rfl) rfl) rfl) rfl) rfl)
theorem Fbd.l4_0.gmap {α β : Type} (h : β → α) (mk0 : LI → LI → β) (n : Nat) : ∀ (m : Nat) (x0 : Int) (x1 : Int) (x2 : LI) (x3 : LI) (x4 : LI), Fbd.l4_0.g (fun a0 a1 => (h (mk0 a0 a1))) n m x0 x1 x2 x3 x4 = (Fbd.l4_0.g mk0 n m x0 x1 x2 x3 x4).map h
  | 0, _, _, _, _, _ => rfl
  | m + 1, x0, x1, x2, x3, x4 => by
    unfold Fbd.l4_0.g
    rw [← Fbd.l4_0.rmap]
    congr
    · funext y0 y1 y2 y3 y4; exact Fbd.l4_0.gmap h mk0 n m y0 y1 y2 y3 y4
theorem Fbd.l4_0.pat_shape : ∀ st t, Fbd.l4_0.pat st = some t → st = Fbd.l4_0.shape t := fun _ _ h => by unfold Fbd.l4_0.pat at h; split at h <;> cases h; rfl
def Fbd.l4_0.k0 : LI → LI → Ex × St := (fun a0 a1 => ((Prod.mk (.exit 0) (St.mk [(.ptr 0 []), (.ptr 1 [])] [(some (.var (.ints .u64 4 a0))), (some (.var (.ints .u64 4 a1)))])) : Ex × St))
theorem Fbd.l4_0.round (n : Nat) (rc : St → Option (Ex × St)) (x0 : Int) (x1 : Int) (x2 : LI) (x3 : LI) (x4 : LI) : Fbd.R0 n rc ((St.mk [(.int .i64 x0), (.int .i64 x1), (.ptr 0 []), (.rints .u8 x2), (.ptr 1 [])] [(some (.var (.ints .u64 4 x3))), (some (.var (.ints .u64 4 x4)))])) = Fbd.l4_0.r Fbd.l4_0.k0 n (fun y0 y1 y2 y3 y4 => rc ((St.mk [(.int .i64 y0), (.int .i64 y1), (.ptr 0 []), (.rints .u8 y2), (.ptr 1 [])] [(some (.var (.ints .u64 4 y3))), (some (.var (.ints .u64 4 y4)))]))) x0 x1 x2 x3 x4 := by kernel_rfl
theorem Fbd.l4_0.loop' (n : Nat) : ∀ (m : Nat) (t : (Int × (Int × (LI × (LI × LI))))), loopOf (Fbd.R0 n) m (Fbd.l4_0.shape t) = Fbd.l4_0.g Fbd.l4_0.k0 n m t.1 t.2.1 t.2.2.1 t.2.2.2.1 t.2.2.2.2 :=
  loop_of_round (shape := Fbd.l4_0.shape) (body := Fbd.R0 n) (g := fun m t => Fbd.l4_0.g Fbd.l4_0.k0 n m t.1 t.2.1 t.2.2.1 t.2.2.2.1 t.2.2.2.2) (fun t => rfl)
    fun m t ih => (Fbd.l4_0.round n (loopOf (Fbd.R0 n) m) t.1 t.2.1 t.2.2.1 t.2.2.2.1 t.2.2.2.2).trans (congrFun (congrFun (congrFun (congrFun (congrFun (congrArg (Fbd.l4_0.r Fbd.l4_0.k0 n) (funext fun y0 => funext fun y1 => funext fun y2 => funext fun y3 => funext fun y4 => ih (y0, y1, y2, y3, y4))) t.1) t.2.1) t.2.2.1) t.2.2.2.1) t.2.2.2.2)
theorem Fbd.l4_0.loop (n m : Nat) (t : (Int × (Int × (LI × (LI × LI))))) : loopOf (Fbd.R0 n) m (Fbd.l4_0.shape t) = (Fbd.l4_0.m n m t).map Fbd.l4_0.res :=
  (Fbd.l4_0.loop' n m t).trans (Fbd.l4_0.gmap Fbd.l4_0.res (fun a0 a1 => (a0, a1)) n m t.1 t.2.1 t.2.2.1 t.2.2.2.1 t.2.2.2.2)
theorem Fbd.gmap {α β : Type} (h : β → α) (mk0 : LI → β) (n : Nat) (a0 : LI) : Fbd.g (fun a0 => (h (mk0 a0))) n a0 = (Fbd.g mk0 n a0).map h := by
  unfold Fbd.g
  exact (bindO_map fun r2 => rfl)
theorem Fbd.run (n : Nat) (a0 : LI) : runF (Fbd.C n) (Fbd.A n) n Tryd.f65 [(.rints .u8 a0)] [] (fun v o => some (v, o)) = Fbd.g (fun a0 => ((Prod.mk (.ints .u64 4 a0) []) : AV × Blks)) n a0 := by kernel_rfl
theorem Fbd.call (hmix : Tryd.prog.follows .mixedOrders = true) (n : Nat) (t : LI) (u) (h : Fbd.m n t = some u) : FnC Tryd.prog abiG 65 (Fbd.shape t).1 (Fbd.shape t).2 (Fbd.res u).1 (Fbd.res u).2 :=
  fnC1 (C := Fbd.C n) (A := Fbd.A n) (fn := Tryd.f65) rfl .nil hmix Tryd.func65 (by kernel_rfl) (lp := [Fbd.b0]) (by kernel_rfl) (.cons (show (Fbd.A n).loop (key Fbd.b0) = some (.mk' Fbd.l4_0.pat (Fbd.l4_0.m n n) Fbd.l4_0.resK) by kernel_rfl) (LoopS.of (res := Fbd.l4_0.res) (fun R u K => rfl) Fbd.l4_0.pat_shape fun t => Fbd.l4_0.loop n n t)
  .nil)
  (nj rfl) (by decide) rfl rfl (by show 1 ≤ Tryd.f65.ntmps; decide) (Fbd.run n t) (Fbd.gmap Fbd.res (fun a0 => a0) n t) h
theorem Fbd.s (hmix : Tryd.prog.follows .mixedOrders = true) (n : Nat) : CalleeS Tryd.prog abiG 65 (Fbd.c n) :=
  .mk1 (res := Fbd.res) (shape := Fbd.shape) (fun R u K => rfl) (fun _ _ _ h => by unfold Fbd.pat at h; split at h <;> cases h; rfl) (fun t u h => Fbd.call hmix n t u h) Tryd.func65 (by decide) (by kernel_rfl)
end
section
noncomputable abbrev Fbw.R0 (n : Nat) := roundOf (Fbw.C n) (Fbw.A n) n Fbw.b0
noncomputable abbrev Fbw.R1 (n : Nat) := roundOf (Fbw.C n) (Fbw.A n) n Fbw.b1
noncomputable abbrev Fbw.R2 (n : Nat) := roundOf (Fbw.C n) (Fbw.A n) n Fbw.b2
noncomputable abbrev Fbw.R3 (n : Nat) := roundOf (Fbw.C n) (Fbw.A n) n Fbw.b3
noncomputable abbrev Fbw.R4 (n : Nat) := roundOf (Fbw.C n) (Fbw.A n) n Fbw.b4
noncomputable abbrev Fbw.R5 (n : Nat) := roundOf (Fbw.C n) (Fbw.A n) n Fbw.b5
theorem Fbw.l4_0.rmap {α β : Type} (h : β → α) (mk0 : LI → LI → β) (n : Nat) (f : LI → LI → Option β)  (x0 : LI) (x1 : LI) : Fbw.l4_0.r (fun a0 a1 => (h (mk0 a0 a1))) n (fun y0 y1 => (f y0 y1).map h) x0 x1 = (Fbw.l4_0.r mk0 n f x0 x1).map h := by
  unfold Fbw.l4_0.r
  exact (ite_map (ite_map rfl rfl) rfl)
theorem Fbw.l4_0.gmap {α β : Type} (h : β → α) (mk0 : LI → LI → β) (n : Nat) : ∀ (m : Nat) (x0 : LI) (x1 : LI), Fbw.l4_0.g (fun a0 a1 => (h (mk0 a0 a1))) n m x0 x1 = (Fbw.l4_0.g mk0 n m x0 x1).map h
  | 0, _, _ => rfl
  | m + 1, x0, x1 => by
    unfold Fbw.l4_0.g
    rw [← Fbw.l4_0.rmap]
    congr
    · funext y0 y1; exact Fbw.l4_0.gmap h mk0 n m y0 y1
theorem Fbw.l4_0.pat_shape : ∀ st t, Fbw.l4_0.pat st = some t → st = Fbw.l4_0.shape t := fun _ _ h => by unfold Fbw.l4_0.pat at h; split at h <;> cases h; rfl
def Fbw.l4_0.k0 : LI → LI → Ex × St := (fun a0 a1 => ((Prod.mk (.exit 0) (St.mk [(.own 0 1), (.ptr 1 [])] [(some (.ints .u8 a0)), (some (.var (.ints .u64 4 a1)))])) : Ex × St))
theorem Fbw.l4_0.round (n : Nat) (rc : St → Option (Ex × St)) (x0 : LI) (x1 : LI) : Fbw.R0 n rc ((St.mk [(.own 0 1), (.ptr 1 [])] [(some (.ints .u8 x0)), (some (.var (.ints .u64 4 x1)))])) = Fbw.l4_0.r Fbw.l4_0.k0 n (fun y0 y1 => rc ((St.mk [(.own 0 1), (.ptr 1 [])] [(some (.ints .u8 y0)), (some (.var (.ints .u64 4 y1)))]))) x0 x1 := by kernel_rfl
theorem Fbw.l4_0.loop' (n : Nat) : ∀ (m : Nat) (t : (LI × LI)), loopOf (Fbw.R0 n) m (Fbw.l4_0.shape t) = Fbw.l4_0.g Fbw.l4_0.k0 n m t.1 t.2 :=
  loop_of_round (shape := Fbw.l4_0.shape) (body := Fbw.R0 n) (g := fun m t => Fbw.l4_0.g Fbw.l4_0.k0 n m t.1 t.2) (fun t => rfl)
    fun m t ih => (Fbw.l4_0.round n (loopOf (Fbw.R0 n) m) t.1 t.2).trans (congrFun (congrFun (congrArg (Fbw.l4_0.r Fbw.l4_0.k0 n) (funext fun y0 => funext fun y1 => ih (y0, y1))) t.1) t.2)
theorem Fbw.l4_0.loop (n m : Nat) (t : (LI × LI)) : loopOf (Fbw.R0 n) m (Fbw.l4_0.shape t) = (Fbw.l4_0.m n m t).map Fbw.l4_0.res :=
  (Fbw.l4_0.loop' n m t).trans (Fbw.l4_0.gmap Fbw.l4_0.res (fun a0 a1 => (a0, a1)) n m t.1 t.2)
theorem Fbw.l17_0.rmap {α β : Type} (h : β → α) (mk0 : Int → Int → LI → LI → LI → LI → LI → β) (n : Nat) (f : Int → Int → Int → LI → LI → LI → LI → LI → Option β)  (x0 : Int) (x1 : Int) (x2 : Int) (x3 : LI) (x4 : LI) (x5 : LI) (x6 : LI) (x7 : LI) : Fbw.l17_0.r (fun a0 a1 a2 a3 a4 a5 a6 => (h (mk0 a0 a1 a2 a3 a4 a5 a6))) n (fun y0 y1 y2 y3 y4 y5 y6 y7 => (f y0 y1 y2 y3 y4 y5 y6 y7).map h) x0 x1 x2 x3 x4 x5 x6 x7 = (Fbw.l17_0.r mk0 n f x0 x1 x2 x3 x4 x5 x6 x7).map h := by
  unfold Fbw.l17_0.r
  exact (ite_map (ite_map (ite_map (ite_map (ite_map (ite_map (ite_map (ite_map rfl rfl) rfl) rfl) rfl) rfl) rfl) rfl) rfl)
theorem Fbw.l17_0.gmap {α β : Type} (h : β → α) (mk0 : Int → Int → LI → LI → LI → LI → LI → β) (n : Nat) : ∀ (m : Nat) (x0 : Int) (x1 : Int) (x2 : Int) (x3 : LI) (x4 : LI) (x5 : LI) (x6 : LI) (x7 : LI), Fbw.l17_0.g (fun a0 a1 a2 a3 a4 a5 a6 => (h (mk0 a0 a1 a2 a3 a4 a5 a6))) n m x0 x1 x2 x3 x4 x5 x6 x7 = (Fbw.l17_0.g mk0 n m x0 x1 x2 x3 x4 x5 x6 x7).map h
  | 0, _, _, _, _, _, _, _, _ => rfl
  | m + 1, x0, x1, x2, x3, x4, x5, x6, x7 => by
    unfold Fbw.l17_0.g
    rw [← Fbw.l17_0.rmap]
    congr
    · funext y0 y1 y2 y3 y4 y5 y6 y7; exact Fbw.l17_0.gmap h mk0 n m y0 y1 y2 y3 y4 y5 y6 y7
theorem Fbw.l17_0.pat_shape : ∀ st t, Fbw.l17_0.pat st = some t → st = Fbw.l17_0.shape t := fun _ _ h => by unfold Fbw.l17_0.pat at h; split at h <;> cases h; rfl
def Fbw.l17_0.k0 : Int → Int → LI → LI → LI → LI → LI → Ex × St := (fun a0 a1 a2 a3 a4 a5 a6 => ((Prod.mk (.exit 6) (St.mk [(.int .i64 a0), (.own 0 1), (.own 1 1), (.int .i64 a1), (.own 2 1), (.own 3 1), (.ptr 4 [])] [(some (.ints .u64 a2)), (some (.ints .u8 a3)), (some (.ints .i64 a4)), (some (.ints .u64 a5)), (some (.var (.ints .u64 4 a6)))])) : Ex × St))
theorem Fbw.l17_0.round (n : Nat) (rc : St → Option (Ex × St)) (x0 : Int) (x1 : Int) (x2 : Int) (x3 : LI) (x4 : LI) (x5 : LI) (x6 : LI) (x7 : LI) : Fbw.R3 n rc ((St.mk [(.int .i64 x0), (.own 0 1), (.int .i64 x1), (.own 1 1), (.int .i64 x2), (.own 2 1), (.own 3 1), (.ptr 4 [])] [(some (.ints .u64 x3)), (some (.ints .u8 x4)), (some (.ints .i64 x5)), (some (.ints .u64 x6)), (some (.var (.ints .u64 4 x7)))])) = Fbw.l17_0.r Fbw.l17_0.k0 n (fun y0 y1 y2 y3 y4 y5 y6 y7 => rc ((St.mk [(.int .i64 y0), (.own 0 1), (.int .i64 y1), (.own 1 1), (.int .i64 y2), (.own 2 1), (.own 3 1), (.ptr 4 [])] [(some (.ints .u64 y3)), (some (.ints .u8 y4)), (some (.ints .i64 y5)), (some (.ints .u64 y6)), (some (.var (.ints .u64 4 y7)))]))) x0 x1 x2 x3 x4 x5 x6 x7 := by kernel_rfl
theorem Fbw.l17_0.loop' (n : Nat) : ∀ (m : Nat) (t : (Int × (Int × (Int × (LI × (LI × (LI × (LI × LI)))))))), loopOf (Fbw.R3 n) m (Fbw.l17_0.shape t) = Fbw.l17_0.g Fbw.l17_0.k0 n m t.1 t.2.1 t.2.2.1 t.2.2.2.1 t.2.2.2.2.1 t.2.2.2.2.2.1 t.2.2.2.2.2.2.1 t.2.2.2.2.2.2.2 :=
  loop_of_round (shape := Fbw.l17_0.shape) (body := Fbw.R3 n) (g := fun m t => Fbw.l17_0.g Fbw.l17_0.k0 n m t.1 t.2.1 t.2.2.1 t.2.2.2.1 t.2.2.2.2.1 t.2.2.2.2.2.1 t.2.2.2.2.2.2.1 t.2.2.2.2.2.2.2) (fun t => rfl)
    fun m t ih => (Fbw.l17_0.round n (loopOf (Fbw.R3 n) m) t.1 t.2.1 t.2.2.1 t.2.2.2.1 t.2.2.2.2.1 t.2.2.2.2.2.1 t.2.2.2.2.2.2.1 t.2.2.2.2.2.2.2).trans (congrFun (congrFun (congrFun (congrFun (congrFun (congrFun (congrFun (congrFun (congrArg (Fbw.l17_0.r Fbw.l17_0.k0 n) (funext fun y0 => funext fun y1 => funext fun y2 => funext fun y3 => funext fun y4 => funext fun y5 => funext fun y6 => funext fun y7 => ih (y0, y1, y2, y3, y4, y5, y6, y7))) t.1) t.2.1) t.2.2.1) t.2.2.2.1) t.2.2.2.2.1) t.2.2.2.2.2.1) t.2.2.2.2.2.2.1) t.2.2.2.2.2.2.2)
theorem Fbw.l17_0.loop (n m : Nat) (t : (Int × (Int × (Int × (LI × (LI × (LI × (LI × LI)))))))) : loopOf (Fbw.R3 n) m (Fbw.l17_0.shape t) = (Fbw.l17_0.m n m t).map Fbw.l17_0.res :=
  (Fbw.l17_0.loop' n m t).trans (Fbw.l17_0.gmap Fbw.l17_0.res (fun a0 a1 a2 a3 a4 a5 a6 => (a0, a1, a2, a3, a4, a5, a6)) n m t.1 t.2.1 t.2.2.1 t.2.2.2.1 t.2.2.2.2.1 t.2.2.2.2.2.1 t.2.2.2.2.2.2.1 t.2.2.2.2.2.2.2)
theorem Fbw.l14_0.rmap {α β : Type} (h : β → α) (mk0 : Int → LI → LI → LI → LI → LI → β) (n : Nat) (f : Int → Int → LI → LI → LI → LI → LI → Option β)  (x0 : Int) (x1 : Int) (x2 : LI) (x3 : LI) (x4 : LI) (x5 : LI) (x6 : LI) : Fbw.l14_0.r (fun a0 a1 a2 a3 a4 a5 => (h (mk0 a0 a1 a2 a3 a4 a5))) n (fun y0 y1 y2 y3 y4 y5 y6 => (f y0 y1 y2 y3 y4 y5 y6).map h) x0 x1 x2 x3 x4 x5 x6 = (Fbw.l14_0.r mk0 n f x0 x1 x2 x3 x4 x5 x6).map h := by
  unfold Fbw.l14_0.r
  exact (ite_map (bindO_map fun r6 => rfl) rfl)
theorem Fbw.l14_0.gmap {α β : Type} (h : β → α) (mk0 : Int → LI → LI → LI → LI → LI → β) (n : Nat) : ∀ (m : Nat) (x0 : Int) (x1 : Int) (x2 : LI) (x3 : LI) (x4 : LI) (x5 : LI) (x6 : LI), Fbw.l14_0.g (fun a0 a1 a2 a3 a4 a5 => (h (mk0 a0 a1 a2 a3 a4 a5))) n m x0 x1 x2 x3 x4 x5 x6 = (Fbw.l14_0.g mk0 n m x0 x1 x2 x3 x4 x5 x6).map h
  | 0, _, _, _, _, _, _, _ => rfl
  | m + 1, x0, x1, x2, x3, x4, x5, x6 => by
    unfold Fbw.l14_0.g
    rw [← Fbw.l14_0.rmap]
    congr
    · funext y0 y1 y2 y3 y4 y5 y6; exact Fbw.l14_0.gmap h mk0 n m y0 y1 y2 y3 y4 y5 y6
theorem Fbw.l14_0.pat_shape : ∀ st t, Fbw.l14_0.pat st = some t → st = Fbw.l14_0.shape t := fun _ _ h => by unfold Fbw.l14_0.pat at h; split at h <;> cases h; rfl
def Fbw.l14_0.k0 : Int → LI → LI → LI → LI → LI → Ex × St := (fun a0 a1 a2 a3 a4 a5 => ((Prod.mk (.exit 4) (St.mk [(.own 0 1), (.own 1 1), (.own 2 1), (.int .i64 a0), (.own 3 1), (.ptr 4 [])] [(some (.ints .u64 a1)), (some (.ints .i64 a2)), (some (.ints .u64 a3)), (some (.ints .u8 a4)), (some (.var (.ints .u64 4 a5)))])) : Ex × St))
theorem Fbw.l14_0.round (n : Nat) (rc : St → Option (Ex × St)) (x0 : Int) (x1 : Int) (x2 : LI) (x3 : LI) (x4 : LI) (x5 : LI) (x6 : LI) : Fbw.R2 n rc ((St.mk [(.int .i64 x0), (.own 0 1), (.own 1 1), (.int .i64 x1), (.own 2 1), (.own 3 1), (.ptr 4 [])] [(some (.ints .u64 x2)), (some (.ints .u8 x3)), (some (.ints .i64 x4)), (some (.ints .u64 x5)), (some (.var (.ints .u64 4 x6)))])) = Fbw.l14_0.r Fbw.l14_0.k0 n (fun y0 y1 y2 y3 y4 y5 y6 => rc ((St.mk [(.int .i64 y0), (.own 0 1), (.own 1 1), (.int .i64 y1), (.own 2 1), (.own 3 1), (.ptr 4 [])] [(some (.ints .u64 y2)), (some (.ints .u8 y3)), (some (.ints .i64 y4)), (some (.ints .u64 y5)), (some (.var (.ints .u64 4 y6)))]))) x0 x1 x2 x3 x4 x5 x6 := by kernel_rfl
theorem Fbw.l14_0.loop' (n : Nat) : ∀ (m : Nat) (t : (Int × (Int × (LI × (LI × (LI × (LI × LI))))))), loopOf (Fbw.R2 n) m (Fbw.l14_0.shape t) = Fbw.l14_0.g Fbw.l14_0.k0 n m t.1 t.2.1 t.2.2.1 t.2.2.2.1 t.2.2.2.2.1 t.2.2.2.2.2.1 t.2.2.2.2.2.2 :=
  loop_of_round (shape := Fbw.l14_0.shape) (body := Fbw.R2 n) (g := fun m t => Fbw.l14_0.g Fbw.l14_0.k0 n m t.1 t.2.1 t.2.2.1 t.2.2.2.1 t.2.2.2.2.1 t.2.2.2.2.2.1 t.2.2.2.2.2.2) (fun t => rfl)
    fun m t ih => (Fbw.l14_0.round n (loopOf (Fbw.R2 n) m) t.1 t.2.1 t.2.2.1 t.2.2.2.1 t.2.2.2.2.1 t.2.2.2.2.2.1 t.2.2.2.2.2.2).trans (congrFun (congrFun (congrFun (congrFun (congrFun (congrFun (congrFun (congrArg (Fbw.l14_0.r Fbw.l14_0.k0 n) (funext fun y0 => funext fun y1 => funext fun y2 => funext fun y3 => funext fun y4 => funext fun y5 => funext fun y6 => ih (y0, y1, y2, y3, y4, y5, y6))) t.1) t.2.1) t.2.2.1) t.2.2.2.1) t.2.2.2.2.1) t.2.2.2.2.2.1) t.2.2.2.2.2.2)
theorem Fbw.l14_0.loop (n m : Nat) (t : (Int × (Int × (LI × (LI × (LI × (LI × LI))))))) : loopOf (Fbw.R2 n) m (Fbw.l14_0.shape t) = (Fbw.l14_0.m n m t).map Fbw.l14_0.res :=
  (Fbw.l14_0.loop' n m t).trans (Fbw.l14_0.gmap Fbw.l14_0.res (fun a0 a1 a2 a3 a4 a5 => (a0, a1, a2, a3, a4, a5)) n m t.1 t.2.1 t.2.2.1 t.2.2.2.1 t.2.2.2.2.1 t.2.2.2.2.2.1 t.2.2.2.2.2.2)
theorem Fbw.l11_0.rmap {α β : Type} (h : β → α) (mk0 : LI → LI → β) (n : Nat) (f : Int → LI → LI → LI → LI → LI → Option β)  (x0 : Int) (x1 : LI) (x2 : LI) (x3 : LI) (x4 : LI) (x5 : LI) : Fbw.l11_0.r (fun a0 a1 => (h (mk0 a0 a1))) n (fun y0 y1 y2 y3 y4 y5 => (f y0 y1 y2 y3 y4 y5).map h) x0 x1 x2 x3 x4 x5 = (Fbw.l11_0.r mk0 n f x0 x1 x2 x3 x4 x5).map h := by
  unfold Fbw.l11_0.r
  exact (ite_map (bindO_map fun r6 => (bindO_map fun r8 => match r8 with | (.inl r8) => rfl | (.inr r8) => rfl)) rfl)
theorem Fbw.l11_0.gmap {α β : Type} (h : β → α) (mk0 : LI → LI → β) (n : Nat) : ∀ (m : Nat) (x0 : Int) (x1 : LI) (x2 : LI) (x3 : LI) (x4 : LI) (x5 : LI), Fbw.l11_0.g (fun a0 a1 => (h (mk0 a0 a1))) n m x0 x1 x2 x3 x4 x5 = (Fbw.l11_0.g mk0 n m x0 x1 x2 x3 x4 x5).map h
  | 0, _, _, _, _, _, _ => rfl
  | m + 1, x0, x1, x2, x3, x4, x5 => by
    unfold Fbw.l11_0.g
    rw [← Fbw.l11_0.rmap]
    congr
    · funext y0 y1 y2 y3 y4 y5; exact Fbw.l11_0.gmap h mk0 n m y0 y1 y2 y3 y4 y5
theorem Fbw.l11_0.pat_shape : ∀ st t, Fbw.l11_0.pat st = some t → st = Fbw.l11_0.shape t := fun _ _ h => by unfold Fbw.l11_0.pat at h; split at h <;> cases h; rfl
def Fbw.l11_0.k0 : LI → LI → Ex × St := (fun a0 a1 => ((Prod.mk (.exit 2) (St.mk [(.own 0 1), (.ptr 1 [])] [(some (.ints .u64 a0)), (some (.var (.ints .u64 4 a1)))])) : Ex × St))
theorem Fbw.l11_0.round (n : Nat) (rc : St → Option (Ex × St)) (x0 : Int) (x1 : LI) (x2 : LI) (x3 : LI) (x4 : LI) (x5 : LI) : Fbw.R1 n rc ((St.mk [(.int .i64 x0), (.own 0 1), (.own 1 1), (.own 2 1), (.own 3 1), (.ptr 4 [])] [(some (.ints .u8 x1)), (some (.ints .u64 x2)), (some (.ints .i64 x3)), (some (.ints .u64 x4)), (some (.var (.ints .u64 4 x5)))])) = Fbw.l11_0.r Fbw.l11_0.k0 n (fun y0 y1 y2 y3 y4 y5 => rc ((St.mk [(.int .i64 y0), (.own 0 1), (.own 1 1), (.own 2 1), (.own 3 1), (.ptr 4 [])] [(some (.ints .u8 y1)), (some (.ints .u64 y2)), (some (.ints .i64 y3)), (some (.ints .u64 y4)), (some (.var (.ints .u64 4 y5)))]))) x0 x1 x2 x3 x4 x5 := by kernel_rfl
theorem Fbw.l11_0.loop' (n : Nat) : ∀ (m : Nat) (t : (Int × (LI × (LI × (LI × (LI × LI)))))), loopOf (Fbw.R1 n) m (Fbw.l11_0.shape t) = Fbw.l11_0.g Fbw.l11_0.k0 n m t.1 t.2.1 t.2.2.1 t.2.2.2.1 t.2.2.2.2.1 t.2.2.2.2.2 :=
  loop_of_round (shape := Fbw.l11_0.shape) (body := Fbw.R1 n) (g := fun m t => Fbw.l11_0.g Fbw.l11_0.k0 n m t.1 t.2.1 t.2.2.1 t.2.2.2.1 t.2.2.2.2.1 t.2.2.2.2.2) (fun t => rfl)
    fun m t ih => (Fbw.l11_0.round n (loopOf (Fbw.R1 n) m) t.1 t.2.1 t.2.2.1 t.2.2.2.1 t.2.2.2.2.1 t.2.2.2.2.2).trans (congrFun (congrFun (congrFun (congrFun (congrFun (congrFun (congrArg (Fbw.l11_0.r Fbw.l11_0.k0 n) (funext fun y0 => funext fun y1 => funext fun y2 => funext fun y3 => funext fun y4 => funext fun y5 => ih (y0, y1, y2, y3, y4, y5))) t.1) t.2.1) t.2.2.1) t.2.2.2.1) t.2.2.2.2.1) t.2.2.2.2.2)
theorem Fbw.l11_0.loop (n m : Nat) (t : (Int × (LI × (LI × (LI × (LI × LI)))))) : loopOf (Fbw.R1 n) m (Fbw.l11_0.shape t) = (Fbw.l11_0.m n m t).map Fbw.l11_0.res :=
  (Fbw.l11_0.loop' n m t).trans (Fbw.l11_0.gmap Fbw.l11_0.res (fun a0 a1 => (a0, a1)) n m t.1 t.2.1 t.2.2.1 t.2.2.2.1 t.2.2.2.2.1 t.2.2.2.2.2)
theorem Fbw.l26_0.rmap {α β : Type} (h : β → α) (mk0 : Int → LI → LI → LI → β) (n : Nat) (f : Int → Int → LI → LI → LI → Option β)  (x0 : Int) (x1 : Int) (x2 : LI) (x3 : LI) (x4 : LI) : Fbw.l26_0.r (fun a0 a1 a2 a3 => (h (mk0 a0 a1 a2 a3))) n (fun y0 y1 y2 y3 y4 => (f y0 y1 y2 y3 y4).map h) x0 x1 x2 x3 x4 = (Fbw.l26_0.r mk0 n f x0 x1 x2 x3 x4).map h := by
  unfold Fbw.l26_0.r
  exact (ite_map (ite_map (ite_map (ite_map (ite_map rfl rfl) rfl) rfl) rfl) rfl)
theorem Fbw.l26_0.gmap {α β : Type} (h : β → α) (mk0 : Int → LI → LI → LI → β) (n : Nat) : ∀ (m : Nat) (x0 : Int) (x1 : Int) (x2 : LI) (x3 : LI) (x4 : LI), Fbw.l26_0.g (fun a0 a1 a2 a3 => (h (mk0 a0 a1 a2 a3))) n m x0 x1 x2 x3 x4 = (Fbw.l26_0.g mk0 n m x0 x1 x2 x3 x4).map h
  | 0, _, _, _, _, _ => rfl
  | m + 1, x0, x1, x2, x3, x4 => by
    unfold Fbw.l26_0.g
    rw [← Fbw.l26_0.rmap]
    congr
    · funext y0 y1 y2 y3 y4; exact Fbw.l26_0.gmap h mk0 n m y0 y1 y2 y3 y4
theorem Fbw.l26_0.pat_shape : ∀ st t, Fbw.l26_0.pat st = some t → st = Fbw.l26_0.shape t := fun _ _ h => by unfold Fbw.l26_0.pat at h; split at h <;> cases h; rfl
def Fbw.l26_0.k0 : Int → LI → LI → LI → Ex × St := (fun a0 a1 a2 a3 => ((Prod.mk (.exit 10) (St.mk [(.int .i64 a0), (.own 0 1), (.own 1 1), (.ptr 2 [])] [(some (.ints .u8 a1)), (some (.ints .u64 a2)), (some (.var (.ints .u64 4 a3)))])) : Ex × St))
theorem Fbw.l26_0.round (n : Nat) (rc : St → Option (Ex × St)) (x0 : Int) (x1 : Int) (x2 : LI) (x3 : LI) (x4 : LI) : Fbw.R5 n rc ((St.mk [(.int .i64 x0), (.own 0 1), (.own 1 1), (.int .i64 x1), (.ptr 2 [])] [(some (.ints .u8 x2)), (some (.ints .u64 x3)), (some (.var (.ints .u64 4 x4)))])) = Fbw.l26_0.r Fbw.l26_0.k0 n (fun y0 y1 y2 y3 y4 => rc ((St.mk [(.int .i64 y0), (.own 0 1), (.own 1 1), (.int .i64 y1), (.ptr 2 [])] [(some (.ints .u8 y2)), (some (.ints .u64 y3)), (some (.var (.ints .u64 4 y4)))]))) x0 x1 x2 x3 x4 := by kernel_rfl
theorem Fbw.l26_0.loop' (n : Nat) : ∀ (m : Nat) (t : (Int × (Int × (LI × (LI × LI))))), loopOf (Fbw.R5 n) m (Fbw.l26_0.shape t) = Fbw.l26_0.g Fbw.l26_0.k0 n m t.1 t.2.1 t.2.2.1 t.2.2.2.1 t.2.2.2.2 :=
  loop_of_round (shape := Fbw.l26_0.shape) (body := Fbw.R5 n) (g := fun m t => Fbw.l26_0.g Fbw.l26_0.k0 n m t.1 t.2.1 t.2.2.1 t.2.2.2.1 t.2.2.2.2) (fun t => rfl)
    fun m t ih => (Fbw.l26_0.round n (loopOf (Fbw.R5 n) m) t.1 t.2.1 t.2.2.1 t.2.2.2.1 t.2.2.2.2).trans (congrFun (congrFun (congrFun (congrFun (congrFun (congrArg (Fbw.l26_0.r Fbw.l26_0.k0 n) (funext fun y0 => funext fun y1 => funext fun y2 => funext fun y3 => funext fun y4 => ih (y0, y1, y2, y3, y4))) t.1) t.2.1) t.2.2.1) t.2.2.2.1) t.2.2.2.2)
theorem Fbw.l26_0.loop (n m : Nat) (t : (Int × (Int × (LI × (LI × LI))))) : loopOf (Fbw.R5 n) m (Fbw.l26_0.shape t) = (Fbw.l26_0.m n m t).map Fbw.l26_0.res :=
  (Fbw.l26_0.loop' n m t).trans (Fbw.l26_0.gmap Fbw.l26_0.res (fun a0 a1 a2 a3 => (a0, a1, a2, a3)) n m t.1 t.2.1 t.2.2.1 t.2.2.2.1 t.2.2.2.2)
theorem Fbw.l23_0.rmap {α β : Type} (h : β → α) (mk0 : LI → LI → β) (n : Nat) (f : Int → LI → LI → LI → Option β)  (x0 : Int) (x1 : LI) (x2 : LI) (x3 : LI) : Fbw.l23_0.r (fun a0 a1 => (h (mk0 a0 a1))) n (fun y0 y1 y2 y3 => (f y0 y1 y2 y3).map h) x0 x1 x2 x3 = (Fbw.l23_0.r mk0 n f x0 x1 x2 x3).map h := by
  unfold Fbw.l23_0.r
  exact (ite_map (bindO_map fun r6 => rfl) rfl)
theorem Fbw.l23_0.gmap {α β : Type} (h : β → α) (mk0 : LI → LI → β) (n : Nat) : ∀ (m : Nat) (x0 : Int) (x1 : LI) (x2 : LI) (x3 : LI), Fbw.l23_0.g (fun a0 a1 => (h (mk0 a0 a1))) n m x0 x1 x2 x3 = (Fbw.l23_0.g mk0 n m x0 x1 x2 x3).map h
  | 0, _, _, _, _ => rfl
  | m + 1, x0, x1, x2, x3 => by
    unfold Fbw.l23_0.g
    rw [← Fbw.l23_0.rmap]
    congr
    · funext y0 y1 y2 y3; exact Fbw.l23_0.gmap h mk0 n m y0 y1 y2 y3
theorem Fbw.l23_0.pat_shape : ∀ st t, Fbw.l23_0.pat st = some t → st = Fbw.l23_0.shape t := fun _ _ h => by unfold Fbw.l23_0.pat at h; split at h <;> cases h; rfl
def Fbw.l23_0.k0 : LI → LI → Ex × St := (fun a0 a1 => ((Prod.mk (.exit 8) (St.mk [(.own 0 1), (.ptr 1 [])] [(some (.ints .u8 a0)), (some (.var (.ints .u64 4 a1)))])) : Ex × St))
theorem Fbw.l23_0.round (n : Nat) (rc : St → Option (Ex × St)) (x0 : Int) (x1 : LI) (x2 : LI) (x3 : LI) : Fbw.R4 n rc ((St.mk [(.int .i64 x0), (.own 0 1), (.own 1 1), (.ptr 2 [])] [(some (.ints .u8 x1)), (some (.ints .u64 x2)), (some (.var (.ints .u64 4 x3)))])) = Fbw.l23_0.r Fbw.l23_0.k0 n (fun y0 y1 y2 y3 => rc ((St.mk [(.int .i64 y0), (.own 0 1), (.own 1 1), (.ptr 2 [])] [(some (.ints .u8 y1)), (some (.ints .u64 y2)), (some (.var (.ints .u64 4 y3)))]))) x0 x1 x2 x3 := by kernel_rfl
theorem Fbw.l23_0.loop' (n : Nat) : ∀ (m : Nat) (t : (Int × (LI × (LI × LI)))), loopOf (Fbw.R4 n) m (Fbw.l23_0.shape t) = Fbw.l23_0.g Fbw.l23_0.k0 n m t.1 t.2.1 t.2.2.1 t.2.2.2 :=
  loop_of_round (shape := Fbw.l23_0.shape) (body := Fbw.R4 n) (g := fun m t => Fbw.l23_0.g Fbw.l23_0.k0 n m t.1 t.2.1 t.2.2.1 t.2.2.2) (fun t => rfl)
    fun m t ih => (Fbw.l23_0.round n (loopOf (Fbw.R4 n) m) t.1 t.2.1 t.2.2.1 t.2.2.2).trans (congrFun (congrFun (congrFun (congrFun (congrArg (Fbw.l23_0.r Fbw.l23_0.k0 n) (funext fun y0 => funext fun y1 => funext fun y2 => funext fun y3 => ih (y0, y1, y2, y3))) t.1) t.2.1) t.2.2.1) t.2.2.2)
theorem Fbw.l23_0.loop (n m : Nat) (t : (Int × (LI × (LI × LI)))) : loopOf (Fbw.R4 n) m (Fbw.l23_0.shape t) = (Fbw.l23_0.m n m t).map Fbw.l23_0.res :=
  (Fbw.l23_0.loop' n m t).trans (Fbw.l23_0.gmap Fbw.l23_0.res (fun a0 a1 => (a0, a1)) n m t.1 t.2.1 t.2.2.1 t.2.2.2)
theorem Fbw.gmap {α β : Type} (h : β → α) (mk0 : LI → β) (n : Nat) (a0 : LI) : Fbw.g (fun a0 => (h (mk0 a0))) n a0 = (Fbw.g mk0 n a0).map h := by
  unfold Fbw.g
  exact (ite_map (ite_map (bindO_map fun r6 => (ite_map (ite_map (ite_map (ite_map (bindO_map fun r16 => (bindO_map fun r18 => (bindO_map fun r20 => (bindO_map fun r22 => (bindO_map fun r24 => rfl))))) rfl) rfl) rfl) rfl)) rfl) rfl)
theorem Fbw.run (n : Nat) (a0 : LI) : runF (Fbw.C n) (Fbw.A n) n Tryd.f62 [(.rints .u8 a0)] [] (fun v o => some (v, o)) = Fbw.g (fun a0 => ((Prod.mk (.ints .u64 4 a0) []) : AV × Blks)) n a0 := by kernel_rfl
theorem Fbw.call (hmix : Tryd.prog.follows .mixedOrders = true) (n : Nat) (t : LI) (u) (h : Fbw.m n t = some u) : FnC Tryd.prog abiG 62 (Fbw.shape t).1 (Fbw.shape t).2 (Fbw.res u).1 (Fbw.res u).2 :=
  fnC1 (C := Fbw.C n) (A := Fbw.A n) (fn := Tryd.f62) rfl (.cons (Far.s hmix n) (.cons (Fbc.s hmix n) (.cons (Fbv.s hmix n) (.cons (Fbd.s hmix n) .nil)))) hmix Tryd.func62 (by kernel_rfl) (lp := [Fbw.b0, Fbw.b1, Fbw.b2, Fbw.b3, Fbw.b4, Fbw.b5]) (by kernel_rfl) (.cons (show (Fbw.A n).loop (key Fbw.b0) = some (.mk' Fbw.l4_0.pat (Fbw.l4_0.m n n) Fbw.l4_0.resK) by kernel_rfl) (LoopS.of (res := Fbw.l4_0.res) (fun R u K => rfl) Fbw.l4_0.pat_shape fun t => Fbw.l4_0.loop n n t)
  (.cons (show (Fbw.A n).loop (key Fbw.b1) = some (.mk' Fbw.l11_0.pat (Fbw.l11_0.m n n) Fbw.l11_0.resK) by kernel_rfl) (LoopS.of (res := Fbw.l11_0.res) (fun R u K => rfl) Fbw.l11_0.pat_shape fun t => Fbw.l11_0.loop n n t)
  (.cons (show (Fbw.A n).loop (key Fbw.b2) = some (.mk' Fbw.l14_0.pat (Fbw.l14_0.m n n) Fbw.l14_0.resK) by kernel_rfl) (LoopS.of (res := Fbw.l14_0.res) (fun R u K => rfl) Fbw.l14_0.pat_shape fun t => Fbw.l14_0.loop n n t)
  (.cons (show (Fbw.A n).loop (key Fbw.b3) = some (.mk' Fbw.l17_0.pat (Fbw.l17_0.m n n) Fbw.l17_0.resK) by kernel_rfl) (LoopS.of (res := Fbw.l17_0.res) (fun R u K => rfl) Fbw.l17_0.pat_shape fun t => Fbw.l17_0.loop n n t)
  (.cons (show (Fbw.A n).loop (key Fbw.b4) = some (.mk' Fbw.l23_0.pat (Fbw.l23_0.m n n) Fbw.l23_0.resK) by kernel_rfl) (LoopS.of (res := Fbw.l23_0.res) (fun R u K => rfl) Fbw.l23_0.pat_shape fun t => Fbw.l23_0.loop n n t)
  (.cons (show (Fbw.A n).loop (key Fbw.b5) = some (.mk' Fbw.l26_0.pat (Fbw.l26_0.m n n) Fbw.l26_0.resK) by kernel_rfl) (LoopS.of (res := Fbw.l26_0.res) (fun R u K => rfl) Fbw.l26_0.pat_shape fun t => Fbw.l26_0.loop n n t)
  .nil))))))
  (nj rfl) (by decide) rfl rfl (by show 1 ≤ Tryd.f62.ntmps; decide) (Fbw.run n t) (Fbw.gmap Fbw.res (fun a0 => a0) n t) h
theorem Fbw.s (hmix : Tryd.prog.follows .mixedOrders = true) (n : Nat) : CalleeS Tryd.prog abiG 62 (Fbw.c n) :=
  .mk1 (res := Fbw.res) (shape := Fbw.shape) (fun R u K => rfl) (fun _ _ _ h => by unfold Fbw.pat at h; split at h <;> cases h; rfl) (fun t u h => Fbw.call hmix n t u h) Tryd.func62 (by decide) (by kernel_rfl)
end
section
noncomputable section
noncomputable def Fae.C (n : Nat) : Ctx := ⟨Tryd.prog, abiG, lookC [], fun _ => false⟩
def Fae.live : NL := fun k => match k with
 | 3 => ([6, 3, 1], [3])
 | _ => ([], [])
def Fae.l3_0.r {α : Type} (mk0 : LI → α) (n : Nat) (rc : Int → LI → LI → Option α)  (x0 : Int) (x1 : LI) (x2 : LI) : Option α :=
  if (decide (x0 < 32)) = true then
   if 0 ≤ (IntKind.wrap .i64 (Int.tdiv x0 8)) then
    if (IntKind.wrap .i64 (Int.tdiv x0 8)) < 4 then
     if 0 ≤ (IntKind.wrap .i64 ((Int.tmod x0 8) * 8)) then
      if 0 ≤ (IntKind.wrap .i64 (31 - x0)) then
       if (IntKind.wrap .i64 (31 - x0)) < (((List.length x1) : Nat) : Int) then
        rc (IntKind.wrap .i64 (x0 + 1)) (List.set x1 (Int.toNat (IntKind.wrap .i64 (31 - x0))) (IntKind.wrap .u8 (ishr .u64 (List.getD x2 (Int.toNat (IntKind.wrap .i64 (Int.tdiv x0 8))) 0) (IntKind.wrap .i64 ((Int.tmod x0 8) * 8))))) x2
       else
        none
      else
       none
     else
      none
    else
     none
   else
    none
  else
   some (mk0 x1)
def Fae.l3_0.g {α : Type} (mk0 : LI → α) (n : Nat) : Nat → Int → LI → LI → Option α
 | 0, _, _, _ => none
 | m + 1, x0, x1, x2 => Fae.l3_0.r mk0 n (fun y0 y1 y2 => Fae.l3_0.g mk0 n m y0 y1 y2)  x0 x1 x2
def Fae.l3_0.m (n m : Nat) (t : (Int × (LI × LI))) : Option LI := Fae.l3_0.g (fun a0 => a0) n m t.1 t.2.1 t.2.2
def Fae.l3_0.pat : St → Option (Int × (LI × LI))
 | (St.mk [(.int .i64 x0), (.own 0 1), (.ptr 1 [])] [(some (.ints .u8 x1)), (some (.var (.ints .u64 4 x2)))]) => some (x0, x1, x2)
 | _ => none
def Fae.l3_0.shape (t : (Int × (LI × LI))) : St := (St.mk [(.int .i64 t.1), (.own 0 1), (.ptr 1 [])] [(some (.ints .u8 t.2.1)), (some (.var (.ints .u64 4 t.2.2)))])
def Fae.l3_0.res : LI → Ex × St
 | u => (Prod.mk (.exit 0) (St.mk [(.own 0 1)] [(some (.ints .u8 u))]))
def Fae.l3_0.resK {R : Type} (u : LI) (K : Ex → St → Option R) : Option R := K (Fae.l3_0.res u).1 (Fae.l3_0.res u).2
noncomputable def Fae.A (n : Nat) : Ann := ⟨Tryd.f56.ntmps, 0, Fae.live, [(3, (.ints .u8))], [(some (.ints .u8))], fun k => match k with
 | 3 => some (.mk' Fae.l3_0.pat (Fae.l3_0.m n n) Fae.l3_0.resK)
 | _ => none, noNL, lookJ []⟩
noncomputable def Fae.b0 : Code := (loopsIn (Tryd.f56.body.getD .skip)).getD 0 .skip
def Fae.g {α : Type} (mk0 : LI → α) (n : Nat) (a0 : LI) : Option α :=
 bindO (Fae.l3_0.m n n (0, ([0, 0, 0, 0, 0, 0, 0, 0, 0, 0, 0, 0, 0, 0, 0, 0, 0, 0, 0, 0, 0, 0, 0, 0, 0, 0, 0, 0, 0, 0, 0, 0] : List Int), a0)) fun r2 =>
  some (mk0 r2)
def Fae.m (n : Nat) (t : LI) : Option LI := Fae.g (fun a0 => a0) n t
def Fae.pat : List AV → Blks → Option LI
 | [(.ints .u64 4 a0)], [] => some a0
 | _, _ => none
def Fae.shape (t : LI) : List AV × Blks := ([(.ints .u64 4 t)], [])
def Fae.res : LI → AV × Blks
 | u => (Prod.mk (.own 0 1) [(some (.ints .u8 u))])
def Fae.resK {R : Type} (u : LI) (K : AV → Blks → Option R) : Option R := K (Fae.res u).1 (Fae.res u).2
def Fae.c (n : Nat) : Abs.Callee := .mk' [] [none] Fae.pat (Fae.m n) Fae.resK
end
end
section
noncomputable abbrev Fae.R0 (n : Nat) := roundOf (Fae.C n) (Fae.A n) n Fae.b0
theorem Fae.l3_0.rmap {α β : Type} (h : β → α) (mk0 : LI → β) (n : Nat) (f : Int → LI → LI → Option β)  (x0 : Int) (x1 : LI) (x2 : LI) : Fae.l3_0.r (fun a0 => (h (mk0 a0))) n (fun y0 y1 y2 => (f y0 y1 y2).map h) x0 x1 x2 = (Fae.l3_0.r mk0 n f x0 x1 x2).map h := by
  unfold Fae.l3_0.r
  exact (ite_map (ite_map (ite_map (ite_map (ite_map (ite_map rfl rfl) rfl) rfl) rfl) rfl) rfl)
theorem Fae.l3_0.gmap {α β : Type} (h : β → α) (mk0 : LI → β) (n : Nat) : ∀ (m : Nat) (x0 : Int) (x1 : LI) (x2 : LI), Fae.l3_0.g (fun a0 => (h (mk0 a0))) n m x0 x1 x2 = (Fae.l3_0.g mk0 n m x0 x1 x2).map h
  | 0, _, _, _ => rfl
  | m + 1, x0, x1, x2 => by
    unfold Fae.l3_0.g
    rw [← Fae.l3_0.rmap]
    congr
    · funext y0 y1 y2; exact Fae.l3_0.gmap h mk0 n m y0 y1 y2
theorem Fae.l3_0.pat_shape : ∀ st t, Fae.l3_0.pat st = some t → st = Fae.l3_0.shape t := fun _ _ h => by unfold Fae.l3_0.pat at h; split at h <;> cases h; rfl
def Fae.l3_0.k0 : LI → Ex × St := (fun a0 => ((Prod.mk (.exit 0) (St.mk [(.own 0 1)] [(some (.ints .u8 a0))])) : Ex × St))
theorem Fae.l3_0.round (n : Nat) (rc : St → Option (Ex × St)) (x0 : Int) (x1 : LI) (x2 : LI) : Fae.R0 n rc ((St.mk [(.int .i64 x0), (.own 0 1), (.ptr 1 [])] [(some (.ints .u8 x1)), (some (.var (.ints .u64 4 x2)))])) = Fae.l3_0.r Fae.l3_0.k0 n (fun y0 y1 y2 => rc ((St.mk [(.int .i64 y0), (.own 0 1), (.ptr 1 [])] [(some (.ints .u8 y1)), (some (.var (.ints .u64 4 y2)))]))) x0 x1 x2 := by kernel_rfl
theorem Fae.l3_0.loop' (n : Nat) : ∀ (m : Nat) (t : (Int × (LI × LI))), loopOf (Fae.R0 n) m (Fae.l3_0.shape t) = Fae.l3_0.g Fae.l3_0.k0 n m t.1 t.2.1 t.2.2 :=
  loop_of_round (shape := Fae.l3_0.shape) (body := Fae.R0 n) (g := fun m t => Fae.l3_0.g Fae.l3_0.k0 n m t.1 t.2.1 t.2.2) (fun t => rfl)
    fun m t ih => (Fae.l3_0.round n (loopOf (Fae.R0 n) m) t.1 t.2.1 t.2.2).trans (congrFun (congrFun (congrFun (congrArg (Fae.l3_0.r Fae.l3_0.k0 n) (funext fun y0 => funext fun y1 => funext fun y2 => ih (y0, y1, y2))) t.1) t.2.1) t.2.2)
theorem Fae.l3_0.loop (n m : Nat) (t : (Int × (LI × LI))) : loopOf (Fae.R0 n) m (Fae.l3_0.shape t) = (Fae.l3_0.m n m t).map Fae.l3_0.res :=
  (Fae.l3_0.loop' n m t).trans (Fae.l3_0.gmap Fae.l3_0.res (fun a0 => a0) n m t.1 t.2.1 t.2.2)
theorem Fae.gmap {α β : Type} (h : β → α) (mk0 : LI → β) (n : Nat) (a0 : LI) : Fae.g (fun a0 => (h (mk0 a0))) n a0 = (Fae.g mk0 n a0).map h := by
  unfold Fae.g
  exact (bindO_map fun r2 => rfl)
theorem Fae.run (n : Nat) (a0 : LI) : runF (Fae.C n) (Fae.A n) n Tryd.f56 [(.ints .u64 4 a0)] [] (fun v o => some (v, o)) = Fae.g (fun a0 => ((Prod.mk (.own 0 1) [(some (.ints .u8 a0))]) : AV × Blks)) n a0 := by kernel_rfl
theorem Fae.call (hmix : Tryd.prog.follows .mixedOrders = true) (n : Nat) (t : LI) (u) (h : Fae.m n t = some u) : FnC Tryd.prog abiG 56 (Fae.shape t).1 (Fae.shape t).2 (Fae.res u).1 (Fae.res u).2 :=
  fnC1 (C := Fae.C n) (A := Fae.A n) (fn := Tryd.f56) rfl .nil hmix Tryd.func56 (by kernel_rfl) (lp := [Fae.b0]) (by kernel_rfl) (.cons (show (Fae.A n).loop (key Fae.b0) = some (.mk' Fae.l3_0.pat (Fae.l3_0.m n n) Fae.l3_0.resK) by kernel_rfl) (LoopS.of (res := Fae.l3_0.res) (fun R u K => rfl) Fae.l3_0.pat_shape fun t => Fae.l3_0.loop n n t)
  .nil)
  (nj rfl) (by decide) rfl rfl (by show 1 ≤ Tryd.f56.ntmps; decide) (Fae.run n t) (Fae.gmap Fae.res (fun a0 => a0) n t) h
theorem Fae.s (hmix : Tryd.prog.follows .mixedOrders = true) (n : Nat) : CalleeS Tryd.prog abiG 56 (Fae.c n) :=
  .mk1 (res := Fae.res) (shape := Fae.shape) (fun R u K => rfl) (fun _ _ _ h => by unfold Fae.pat at h; split at h <;> cases h; rfl) (fun t u h => Fae.call hmix n t u h) Tryd.func56 (by decide) (by kernel_rfl)
end
section
noncomputable section
noncomputable def Fat.C (n : Nat) : Ctx := ⟨Tryd.prog, abiG, lookC [], fun _ => false⟩
def Fat.live : NL := fun k => match k with
 | 3 => ([4, 3, 1], [3])
 | _ => ([], [])
def Fat.l3_0.r {α : Type} (mk0 : LI → α) (n : Nat) (rc : Int → LI → LI → Option α)  (x0 : Int) (x1 : LI) (x2 : LI) : Option α :=
  if (decide (x0 < 32)) = true then
   if 0 ≤ (IntKind.wrap .i64 (Int.tdiv (IntKind.wrap .i64 (31 - x0)) 8)) then
    if (IntKind.wrap .i64 (Int.tdiv (IntKind.wrap .i64 (31 - x0)) 8)) < 4 then
     if 0 ≤ (IntKind.wrap .u64 (IntKind.wrap .i64 ((Int.tmod (IntKind.wrap .i64 (31 - x0)) 8) * 8))) then
      if ((((List.length x1) + 1) * 1) ≤ 70368744177664 ∧ ((List.length x1) + 1) ≤ 9223372036854775807) then
       rc (IntKind.wrap .i64 (x0 + 1)) (x1 ++ [(IntKind.wrap .u8 (ishr .u64 (List.getD x2 (Int.toNat (IntKind.wrap .i64 (Int.tdiv (IntKind.wrap .i64 (31 - x0)) 8))) 0) (IntKind.wrap .u64 (IntKind.wrap .i64 ((Int.tmod (IntKind.wrap .i64 (31 - x0)) 8) * 8)))))]) x2
      else
       none
     else
      none
    else
     none
   else
    none
  else
   some (mk0 x1)
def Fat.l3_0.g {α : Type} (mk0 : LI → α) (n : Nat) : Nat → Int → LI → LI → Option α
 | 0, _, _, _ => none
 | m + 1, x0, x1, x2 => Fat.l3_0.r mk0 n (fun y0 y1 y2 => Fat.l3_0.g mk0 n m y0 y1 y2)  x0 x1 x2
def Fat.l3_0.m (n m : Nat) (t : (Int × (LI × LI))) : Option LI := Fat.l3_0.g (fun a0 => a0) n m t.1 t.2.1 t.2.2
def Fat.l3_0.pat : St → Option (Int × (LI × LI))
 | (St.mk [(.int .i64 x0), (.own 0 1), (.ptr 1 [])] [(some (.ints .u8 x1)), (some (.var (.ints .u64 4 x2)))]) => some (x0, x1, x2)
 | _ => none
def Fat.l3_0.shape (t : (Int × (LI × LI))) : St := (St.mk [(.int .i64 t.1), (.own 0 1), (.ptr 1 [])] [(some (.ints .u8 t.2.1)), (some (.var (.ints .u64 4 t.2.2)))])
def Fat.l3_0.res : LI → Ex × St
 | u => (Prod.mk (.exit 0) (St.mk [(.own 0 1)] [(some (.ints .u8 u))]))
def Fat.l3_0.resK {R : Type} (u : LI) (K : Ex → St → Option R) : Option R := K (Fat.l3_0.res u).1 (Fat.l3_0.res u).2
noncomputable def Fat.A (n : Nat) : Ann := ⟨Tryd.f55.ntmps, 0, Fat.live, [(3, (.ints .u8))], [(some (.ints .u8))], fun k => match k with
 | 3 => some (.mk' Fat.l3_0.pat (Fat.l3_0.m n n) Fat.l3_0.resK)
 | _ => none, noNL, lookJ []⟩
noncomputable def Fat.b0 : Code := (loopsIn (Tryd.f55.body.getD .skip)).getD 0 .skip
def Fat.g {α : Type} (mk0 : LI → α) (n : Nat) (a0 : LI) : Option α :=
 bindO (Fat.l3_0.m n n (0, [], a0)) fun r2 =>
  some (mk0 r2)
def Fat.m (n : Nat) (t : LI) : Option LI := Fat.g (fun a0 => a0) n t
def Fat.pat : List AV → Blks → Option LI
 | [(.ints .u64 4 a0)], [] => some a0
 | _, _ => none
def Fat.shape (t : LI) : List AV × Blks := ([(.ints .u64 4 t)], [])
def Fat.res : LI → AV × Blks
 | u => (Prod.mk (.own 0 1) [(some (.ints .u8 u))])
def Fat.resK {R : Type} (u : LI) (K : AV → Blks → Option R) : Option R := K (Fat.res u).1 (Fat.res u).2
def Fat.c (n : Nat) : Abs.Callee := .mk' [] [none] Fat.pat (Fat.m n) Fat.resK
end
end
section
noncomputable abbrev Fat.R0 (n : Nat) := roundOf (Fat.C n) (Fat.A n) n Fat.b0
theorem Fat.l3_0.rmap {α β : Type} (h : β → α) (mk0 : LI → β) (n : Nat) (f : Int → LI → LI → Option β)  (x0 : Int) (x1 : LI) (x2 : LI) : Fat.l3_0.r (fun a0 => (h (mk0 a0))) n (fun y0 y1 y2 => (f y0 y1 y2).map h) x0 x1 x2 = (Fat.l3_0.r mk0 n f x0 x1 x2).map h := by
  unfold Fat.l3_0.r
  exact (ite_map (ite_map (ite_map (ite_map (ite_map rfl rfl) rfl) rfl) rfl) rfl)
theorem Fat.l3_0.gmap {α β : Type} (h : β → α) (mk0 : LI → β) (n : Nat) : ∀ (m : Nat) (x0 : Int) (x1 : LI) (x2 : LI), Fat.l3_0.g (fun a0 => (h (mk0 a0))) n m x0 x1 x2 = (Fat.l3_0.g mk0 n m x0 x1 x2).map h
  | 0, _, _, _ => rfl
  | m + 1, x0, x1, x2 => by
    unfold Fat.l3_0.g
    rw [← Fat.l3_0.rmap]
    congr
    · funext y0 y1 y2; exact Fat.l3_0.gmap h mk0 n m y0 y1 y2
theorem Fat.l3_0.pat_shape : ∀ st t, Fat.l3_0.pat st = some t → st = Fat.l3_0.shape t := fun _ _ h => by unfold Fat.l3_0.pat at h; split at h <;> cases h; rfl
def Fat.l3_0.k0 : LI → Ex × St := (fun a0 => ((Prod.mk (.exit 0) (St.mk [(.own 0 1)] [(some (.ints .u8 a0))])) : Ex × St))
theorem Fat.l3_0.round (n : Nat) (rc : St → Option (Ex × St)) (x0 : Int) (x1 : LI) (x2 : LI) : Fat.R0 n rc ((St.mk [(.int .i64 x0), (.own 0 1), (.ptr 1 [])] [(some (.ints .u8 x1)), (some (.var (.ints .u64 4 x2)))])) = Fat.l3_0.r Fat.l3_0.k0 n (fun y0 y1 y2 => rc ((St.mk [(.int .i64 y0), (.own 0 1), (.ptr 1 [])] [(some (.ints .u8 y1)), (some (.var (.ints .u64 4 y2)))]))) x0 x1 x2 := by kernel_rfl
theorem Fat.l3_0.loop' (n : Nat) : ∀ (m : Nat) (t : (Int × (LI × LI))), loopOf (Fat.R0 n) m (Fat.l3_0.shape t) = Fat.l3_0.g Fat.l3_0.k0 n m t.1 t.2.1 t.2.2 :=
  loop_of_round (shape := Fat.l3_0.shape) (body := Fat.R0 n) (g := fun m t => Fat.l3_0.g Fat.l3_0.k0 n m t.1 t.2.1 t.2.2) (fun t => rfl)
    fun m t ih => (Fat.l3_0.round n (loopOf (Fat.R0 n) m) t.1 t.2.1 t.2.2).trans (congrFun (congrFun (congrFun (congrArg (Fat.l3_0.r Fat.l3_0.k0 n) (funext fun y0 => funext fun y1 => funext fun y2 => ih (y0, y1, y2))) t.1) t.2.1) t.2.2)
theorem Fat.l3_0.loop (n m : Nat) (t : (Int × (LI × LI))) : loopOf (Fat.R0 n) m (Fat.l3_0.shape t) = (Fat.l3_0.m n m t).map Fat.l3_0.res :=
  (Fat.l3_0.loop' n m t).trans (Fat.l3_0.gmap Fat.l3_0.res (fun a0 => a0) n m t.1 t.2.1 t.2.2)
theorem Fat.gmap {α β : Type} (h : β → α) (mk0 : LI → β) (n : Nat) (a0 : LI) : Fat.g (fun a0 => (h (mk0 a0))) n a0 = (Fat.g mk0 n a0).map h := by
  unfold Fat.g
  exact (bindO_map fun r2 => rfl)
theorem Fat.run (n : Nat) (a0 : LI) : runF (Fat.C n) (Fat.A n) n Tryd.f55 [(.ints .u64 4 a0)] [] (fun v o => some (v, o)) = Fat.g (fun a0 => ((Prod.mk (.own 0 1) [(some (.ints .u8 a0))]) : AV × Blks)) n a0 := by kernel_rfl
theorem Fat.call (hmix : Tryd.prog.follows .mixedOrders = true) (n : Nat) (t : LI) (u) (h : Fat.m n t = some u) : FnC Tryd.prog abiG 55 (Fat.shape t).1 (Fat.shape t).2 (Fat.res u).1 (Fat.res u).2 :=
  fnC1 (C := Fat.C n) (A := Fat.A n) (fn := Tryd.f55) rfl .nil hmix Tryd.func55 (by kernel_rfl) (lp := [Fat.b0]) (by kernel_rfl) (.cons (show (Fat.A n).loop (key Fat.b0) = some (.mk' Fat.l3_0.pat (Fat.l3_0.m n n) Fat.l3_0.resK) by kernel_rfl) (LoopS.of (res := Fat.l3_0.res) (fun R u K => rfl) Fat.l3_0.pat_shape fun t => Fat.l3_0.loop n n t)
  .nil)
  (nj rfl) (by decide) rfl rfl (by show 1 ≤ Tryd.f55.ntmps; decide) (Fat.run n t) (Fat.gmap Fat.res (fun a0 => a0) n t) h
theorem Fat.s (hmix : Tryd.prog.follows .mixedOrders = true) (n : Nat) : CalleeS Tryd.prog abiG 55 (Fat.c n) :=
  .mk1 (res := Fat.res) (shape := Fat.shape) (fun R u K => rfl) (fun _ _ _ h => by unfold Fat.pat at h; split at h <;> cases h; rfl) (fun t u h => Fat.call hmix n t u h) Tryd.func55 (by decide) (by kernel_rfl)
end
section
noncomputable section
noncomputable def Fau.C (n : Nat) : Ctx := ⟨Tryd.prog, abiG, lookC [], fun _ => false⟩
noncomputable def Fau.A (n : Nat) : Ann := ⟨Tryd.f69.ntmps, 0, noNL, [], [none], fun k => match k with
 | _ => none, noNL, lookJ []⟩
def Fau.g {α : Type} (mk0 : LI → α) (n : Nat) (a0 : Int) : Option α :=
 some (mk0 [a0, 0, 0, 0])
def Fau.m (n : Nat) (t : Int) : Option LI := Fau.g (fun a0 => a0) n t
def Fau.pat : List AV → Blks → Option Int
 | [(.int .u64 a0)], [] => some a0
 | _, _ => none
def Fau.shape (t : Int) : List AV × Blks := ([(.int .u64 t)], [])
def Fau.res : LI → AV × Blks
 | u => (Prod.mk (.ints .u64 4 u) [])
def Fau.resK {R : Type} (u : LI) (K : AV → Blks → Option R) : Option R := K (Fau.res u).1 (Fau.res u).2
def Fau.c (n : Nat) : Abs.Callee := .mk' [] [none] Fau.pat (Fau.m n) Fau.resK
end
end
section
noncomputable section
noncomputable def Faf.C (n : Nat) : Ctx := ⟨Tryd.prog, abiG, lookC [(69, Fau.c n), (56, Fae.c n)], fun _ => false⟩
noncomputable def Faf.A (n : Nat) : Ann := ⟨Tryd.f61.ntmps, 0, noNL, [], [(some (.ints .u8))], fun k => match k with
 | _ => none, noNL, lookJ []⟩
def Faf.g {α : Type} (mk0 : LI → α) (n : Nat) (a0 : Int) : Option α :=
 bindO (Fau.m n (IntKind.wrap .u64 a0)) fun r2 =>
  bindO (Fae.m n r2) fun r4 =>
   some (mk0 r4)
def Faf.m (n : Nat) (t : Int) : Option LI := Faf.g (fun a0 => a0) n t
def Faf.pat : List AV → Blks → Option Int
 | [(.int .i64 a0)], [] => some a0
 | _, _ => none
def Faf.shape (t : Int) : List AV × Blks := ([(.int .i64 t)], [])
def Faf.res : LI → AV × Blks
 | u => (Prod.mk (.own 0 1) [(some (.ints .u8 u))])
def Faf.resK {R : Type} (u : LI) (K : AV → Blks → Option R) : Option R := K (Faf.res u).1 (Faf.res u).2
def Faf.c (n : Nat) : Abs.Callee := .mk' [] [none] Faf.pat (Faf.m n) Faf.resK
end
end
section
noncomputable section
noncomputable def Fag.C (n : Nat) : Ctx := ⟨Tryd.prog, abiG, lookC [(56, Fae.c n), (61, Faf.c n)], fun _ => false⟩
def Fag.live : NL := fun k => match k with
 | 3 => ([9, 8, 7, 3, 0, 4], [3, 4])
 | _ => ([], [])
def Fag.l3_0.r {α : Type} (mk0 : LI → LI → α) (n : Nat) (rc : Int → Int → LA → LA → LI → LI → Option α)  (x0 : Int) (x1 : Int) (x2 : LA) (x3 : LA) (x4 : LI) (x5 : LI) : Option α :=
  if (decide (x0 < x1)) = true then
   if 0 ≤ x0 then
    if x0 < (((List.length x2) : Nat) : Int) then
     bindO (tkAgg 3 (List.getD x2 (Int.toNat x0) AV.any)) fun r10 =>
      bindO (tkBool (List.getD r10 0 AV.any)) fun r12 =>
       bindO (tkInts .u64 4 (List.getD r10 1 AV.any)) fun r14 =>
        bindO (tkRints .u8 (List.getD r10 2 AV.any)) fun r16 =>
         if (!r12) = true then
          bindO (Fae.m n r14) fun r20 =>
           if ((((List.length x4) + (List.length r20)) * 1) ≤ 70368744177664 ∧ ((List.length x4) + (List.length r20)) ≤ 9223372036854775807) then
            rc (IntKind.wrap .i64 (x0 + 1)) x1 x2 x3 (x4 ++ r20) x5
           else
            none
         else
          bindO (Faf.m n (IntKind.wrap .i64 ((IntKind.wrap .i64 (32 * (((List.length x3) : Nat) : Int))) + (((List.length x5) : Nat) : Int)))) fun r20 =>
           if ((((List.length x4) + (List.length r20)) * 1) ≤ 70368744177664 ∧ ((List.length x4) + (List.length r20)) ≤ 9223372036854775807) then
            bindO (Faf.m n (((List.length r16) : Nat) : Int)) fun r24 =>
             if ((((List.length x5) + (List.length r24)) * 1) ≤ 70368744177664 ∧ ((List.length x5) + (List.length r24)) ≤ 9223372036854775807) then
              if ((((List.length (x5 ++ r24)) + (List.length r16)) * 1) ≤ 70368744177664 ∧ ((List.length (x5 ++ r24)) + (List.length r16)) ≤ 9223372036854775807) then
               if 0 ≤ (Int.tmod (IntKind.wrap .i64 (32 - (Int.tmod (((List.length r16) : Nat) : Int) 32))) 32) then
                if ((((List.length ((x5 ++ r24) ++ r16)) + (List.length (List.replicate (Int.toNat (Int.tmod (IntKind.wrap .i64 (32 - (Int.tmod (((List.length r16) : Nat) : Int) 32))) 32)) (0 : Int)))) * 1) ≤ 70368744177664 ∧ ((List.length ((x5 ++ r24) ++ r16)) + (List.length (List.replicate (Int.toNat (Int.tmod (IntKind.wrap .i64 (32 - (Int.tmod (((List.length r16) : Nat) : Int) 32))) 32)) (0 : Int)))) ≤ 9223372036854775807) then
                 rc (IntKind.wrap .i64 (x0 + 1)) x1 x2 x3 (x4 ++ r20) (((x5 ++ r24) ++ r16) ++ (List.replicate (Int.toNat (Int.tmod (IntKind.wrap .i64 (32 - (Int.tmod (((List.length r16) : Nat) : Int) 32))) 32)) (0 : Int)))
                else
                 none
               else
                none
              else
               none
             else
              none
           else
            none
    else
     none
   else
    none
  else
   some (mk0 x4 x5)
def Fag.l3_0.g {α : Type} (mk0 : LI → LI → α) (n : Nat) : Nat → Int → Int → LA → LA → LI → LI → Option α
 | 0, _, _, _, _, _, _ => none
 | m + 1, x0, x1, x2, x3, x4, x5 => Fag.l3_0.r mk0 n (fun y0 y1 y2 y3 y4 y5 => Fag.l3_0.g mk0 n m y0 y1 y2 y3 y4 y5)  x0 x1 x2 x3 x4 x5
def Fag.l3_0.m (n m : Nat) (t : (Int × (Int × (LA × (LA × (LI × LI)))))) : Option (LI × LI) := Fag.l3_0.g (fun a0 a1 => (a0, a1)) n m t.1 t.2.1 t.2.2.1 t.2.2.2.1 t.2.2.2.2.1 t.2.2.2.2.2
def Fag.l3_0.pat : St → Option (Int × (Int × (LA × (LA × (LI × LI)))))
 | (St.mk [(.int .i64 x0), (.int .i64 x1), (.robjs 69 6 x2), (.own 0 1), (.robjs 69 6 x3), (.own 1 1)] [(some (.ints .u8 x4)), (some (.ints .u8 x5))]) => some (x0, x1, x2, x3, x4, x5)
 | _ => none
def Fag.l3_0.shape (t : (Int × (Int × (LA × (LA × (LI × LI)))))) : St := (St.mk [(.int .i64 t.1), (.int .i64 t.2.1), (.robjs 69 6 t.2.2.1), (.own 0 1), (.robjs 69 6 t.2.2.2.1), (.own 1 1)] [(some (.ints .u8 t.2.2.2.2.1)), (some (.ints .u8 t.2.2.2.2.2))])
def Fag.l3_0.res : (LI × LI) → Ex × St
 | u => (Prod.mk (.exit 0) (St.mk [(.own 0 1), (.own 1 1)] [(some (.ints .u8 u.1)), (some (.ints .u8 u.2))]))
def Fag.l3_0.resK {R : Type} (u : (LI × LI)) (K : Ex → St → Option R) : Option R := K (Fag.l3_0.res u).1 (Fag.l3_0.res u).2
noncomputable def Fag.A (n : Nat) : Ann := ⟨Tryd.f20.ntmps, 0, Fag.live, [(0, (.objs 69 6)), (7, (.objs 69 6)), (3, (.ints .u8)), (4, (.ints .u8))], [(some (.ints .u8))], fun k => match k with
 | 3 => some (.mk' Fag.l3_0.pat (Fag.l3_0.m n n) Fag.l3_0.resK)
 | _ => none, noNL, lookJ []⟩
noncomputable def Fag.b0 : Code := (loopsIn (Tryd.f20.body.getD .skip)).getD 0 .skip
def Fag.g {α : Type} (mk0 : LI → α) (n : Nat) (a0 : LA) : Option α :=
 bindO (Fag.l3_0.m n n (0, (((List.length a0) : Nat) : Int), a0, a0, [], [])) fun r2 =>
  if ((((List.length (Prod.fst r2)) + (List.length (Prod.snd r2))) * 1) ≤ 70368744177664 ∧ ((List.length (Prod.fst r2)) + (List.length (Prod.snd r2))) ≤ 9223372036854775807) then
   some (mk0 ((Prod.fst r2) ++ (Prod.snd r2)))
  else
   none
def Fag.m (n : Nat) (t : LA) : Option LI := Fag.g (fun a0 => a0) n t
def Fag.pat : List AV → Blks → Option LA
 | [(.robjs 69 6 a0)], [] => some a0
 | _, _ => none
def Fag.shape (t : LA) : List AV × Blks := ([(.robjs 69 6 t)], [])
def Fag.res : LI → AV × Blks
 | u => (Prod.mk (.own 0 1) [(some (.ints .u8 u))])
def Fag.resK {R : Type} (u : LI) (K : AV → Blks → Option R) : Option R := K (Fag.res u).1 (Fag.res u).2
def Fag.c (n : Nat) : Abs.Callee := .mk' [] [(some (.objs 69 6))] Fag.pat (Fag.m n) Fag.resK
end
end
section
theorem Fau.gmap {α β : Type} (h : β → α) (mk0 : LI → β) (n : Nat) (a0 : Int) : Fau.g (fun a0 => (h (mk0 a0))) n a0 = (Fau.g mk0 n a0).map h := by
  unfold Fau.g
  exact rfl
theorem Fau.run (n : Nat) (a0 : Int) : runF (Fau.C n) (Fau.A n) n Tryd.f69 [(.int .u64 a0)] [] (fun v o => some (v, o)) = Fau.g (fun a0 => ((Prod.mk (.ints .u64 4 a0) []) : AV × Blks)) n a0 := by kernel_rfl
theorem Fau.call (hmix : Tryd.prog.follows .mixedOrders = true) (n : Nat) (t : Int) (u) (h : Fau.m n t = some u) : FnC Tryd.prog abiG 69 (Fau.shape t).1 (Fau.shape t).2 (Fau.res u).1 (Fau.res u).2 :=
  fnC1 (C := Fau.C n) (A := Fau.A n) (fn := Tryd.f69) rfl .nil hmix Tryd.func69 (by kernel_rfl) (lp := []) (by kernel_rfl) .nil
  (nj rfl) (by decide) rfl rfl (by show 1 ≤ Tryd.f69.ntmps; decide) (Fau.run n t) (Fau.gmap Fau.res (fun a0 => a0) n t) h
theorem Fau.s (hmix : Tryd.prog.follows .mixedOrders = true) (n : Nat) : CalleeS Tryd.prog abiG 69 (Fau.c n) :=
  .mk1 (res := Fau.res) (shape := Fau.shape) (fun R u K => rfl) (fun _ _ _ h => by unfold Fau.pat at h; split at h <;> cases h; rfl) (fun t u h => Fau.call hmix n t u h) Tryd.func69 (by decide) (by kernel_rfl)
end
section
theorem Faf.gmap {α β : Type} (h : β → α) (mk0 : LI → β) (n : Nat) (a0 : Int) : Faf.g (fun a0 => (h (mk0 a0))) n a0 = (Faf.g mk0 n a0).map h := by
  unfold Faf.g
  exact (bindO_map fun r2 => (bindO_map fun r4 => rfl))
theorem Faf.run (n : Nat) (a0 : Int) : runF (Faf.C n) (Faf.A n) n Tryd.f61 [(.int .i64 a0)] [] (fun v o => some (v, o)) = Faf.g (fun a0 => ((Prod.mk (.own 0 1) [(some (.ints .u8 a0))]) : AV × Blks)) n a0 := by kernel_rfl
theorem Faf.call (hmix : Tryd.prog.follows .mixedOrders = true) (n : Nat) (t : Int) (u) (h : Faf.m n t = some u) : FnC Tryd.prog abiG 61 (Faf.shape t).1 (Faf.shape t).2 (Faf.res u).1 (Faf.res u).2 :=
  fnC1 (C := Faf.C n) (A := Faf.A n) (fn := Tryd.f61) rfl (.cons (Fau.s hmix n) (.cons (Fae.s hmix n) .nil)) hmix Tryd.func61 (by kernel_rfl) (lp := []) (by kernel_rfl) .nil
  (nj rfl) (by decide) rfl rfl (by show 1 ≤ Tryd.f61.ntmps; decide) (Faf.run n t) (Faf.gmap Faf.res (fun a0 => a0) n t) h
theorem Faf.s (hmix : Tryd.prog.follows .mixedOrders = true) (n : Nat) : CalleeS Tryd.prog abiG 61 (Faf.c n) :=
  .mk1 (res := Faf.res) (shape := Faf.shape) (fun R u K => rfl) (fun _ _ _ h => by unfold Faf.pat at h; split at h <;> cases h; rfl) (fun t u h => Faf.call hmix n t u h) Tryd.func61 (by decide) (by kernel_rfl)
end
section
noncomputable abbrev Fag.R0 (n : Nat) := roundOf (Fag.C n) (Fag.A n) n Fag.b0
theorem Fag.l3_0.rmap {α β : Type} (h : β → α) (mk0 : LI → LI → β) (n : Nat) (f : Int → Int → LA → LA → LI → LI → Option β)  (x0 : Int) (x1 : Int) (x2 : LA) (x3 : LA) (x4 : LI) (x5 : LI) : Fag.l3_0.r (fun a0 a1 => (h (mk0 a0 a1))) n (fun y0 y1 y2 y3 y4 y5 => (f y0 y1 y2 y3 y4 y5).map h) x0 x1 x2 x3 x4 x5 = (Fag.l3_0.r mk0 n f x0 x1 x2 x3 x4 x5).map h := by
  unfold Fag.l3_0.r
  exact (ite_map (ite_map (ite_map (bindO_map fun r10 => (bindO_map fun r12 => (bindO_map fun r14 => (bindO_map fun r16 => (ite_map (bindO_map fun r20 => (ite_map rfl rfl)) (bindO_map fun r20 => (ite_map (bindO_map fun r24 => (ite_map (ite_map (ite_map (ite_map rfl rfl) rfl) rfl) rfl)) rfl))))))) rfl) rfl) rfl)
theorem Fag.l3_0.gmap {α β : Type} (h : β → α) (mk0 : LI → LI → β) (n : Nat) : ∀ (m : Nat) (x0 : Int) (x1 : Int) (x2 : LA) (x3 : LA) (x4 : LI) (x5 : LI), Fag.l3_0.g (fun a0 a1 => (h (mk0 a0 a1))) n m x0 x1 x2 x3 x4 x5 = (Fag.l3_0.g mk0 n m x0 x1 x2 x3 x4 x5).map h
  | 0, _, _, _, _, _, _ => rfl
  | m + 1, x0, x1, x2, x3, x4, x5 => by
    unfold Fag.l3_0.g
    rw [← Fag.l3_0.rmap]
    congr
    · funext y0 y1 y2 y3 y4 y5; exact Fag.l3_0.gmap h mk0 n m y0 y1 y2 y3 y4 y5
theorem Fag.l3_0.pat_shape : ∀ st t, Fag.l3_0.pat st = some t → st = Fag.l3_0.shape t := fun _ _ h => by unfold Fag.l3_0.pat at h; split at h <;> cases h; rfl
def Fag.l3_0.k0 : LI → LI → Ex × St := (fun a0 a1 => ((Prod.mk (.exit 0) (St.mk [(.own 0 1), (.own 1 1)] [(some (.ints .u8 a0)), (some (.ints .u8 a1))])) : Ex × St))
theorem Fag.l3_0.round (n : Nat) (rc : St → Option (Ex × St)) (x0 : Int) (x1 : Int) (x2 : LA) (x3 : LA) (x4 : LI) (x5 : LI) : Fag.R0 n rc ((St.mk [(.int .i64 x0), (.int .i64 x1), (.robjs 69 6 x2), (.own 0 1), (.robjs 69 6 x3), (.own 1 1)] [(some (.ints .u8 x4)), (some (.ints .u8 x5))])) = Fag.l3_0.r Fag.l3_0.k0 n (fun y0 y1 y2 y3 y4 y5 => rc ((St.mk [(.int .i64 y0), (.int .i64 y1), (.robjs 69 6 y2), (.own 0 1), (.robjs 69 6 y3), (.own 1 1)] [(some (.ints .u8 y4)), (some (.ints .u8 y5))]))) x0 x1 x2 x3 x4 x5 := by kernel_rfl
theorem Fag.l3_0.loop' (n : Nat) : ∀ (m : Nat) (t : (Int × (Int × (LA × (LA × (LI × LI)))))), loopOf (Fag.R0 n) m (Fag.l3_0.shape t) = Fag.l3_0.g Fag.l3_0.k0 n m t.1 t.2.1 t.2.2.1 t.2.2.2.1 t.2.2.2.2.1 t.2.2.2.2.2 :=
  loop_of_round (shape := Fag.l3_0.shape) (body := Fag.R0 n) (g := fun m t => Fag.l3_0.g Fag.l3_0.k0 n m t.1 t.2.1 t.2.2.1 t.2.2.2.1 t.2.2.2.2.1 t.2.2.2.2.2) (fun t => rfl)
    fun m t ih => (Fag.l3_0.round n (loopOf (Fag.R0 n) m) t.1 t.2.1 t.2.2.1 t.2.2.2.1 t.2.2.2.2.1 t.2.2.2.2.2).trans (congrFun (congrFun (congrFun (congrFun (congrFun (congrFun (congrArg (Fag.l3_0.r Fag.l3_0.k0 n) (funext fun y0 => funext fun y1 => funext fun y2 => funext fun y3 => funext fun y4 => funext fun y5 => ih (y0, y1, y2, y3, y4, y5))) t.1) t.2.1) t.2.2.1) t.2.2.2.1) t.2.2.2.2.1) t.2.2.2.2.2)
theorem Fag.l3_0.loop (n m : Nat) (t : (Int × (Int × (LA × (LA × (LI × LI)))))) : loopOf (Fag.R0 n) m (Fag.l3_0.shape t) = (Fag.l3_0.m n m t).map Fag.l3_0.res :=
  (Fag.l3_0.loop' n m t).trans (Fag.l3_0.gmap Fag.l3_0.res (fun a0 a1 => (a0, a1)) n m t.1 t.2.1 t.2.2.1 t.2.2.2.1 t.2.2.2.2.1 t.2.2.2.2.2)
theorem Fag.gmap {α β : Type} (h : β → α) (mk0 : LI → β) (n : Nat) (a0 : LA) : Fag.g (fun a0 => (h (mk0 a0))) n a0 = (Fag.g mk0 n a0).map h := by
  unfold Fag.g
  exact (bindO_map fun r2 => (ite_map rfl rfl))
theorem Fag.run (n : Nat) (a0 : LA) : runF (Fag.C n) (Fag.A n) n Tryd.f20 [(.robjs 69 6 a0)] [] (fun v o => some (v, o)) = Fag.g (fun a0 => ((Prod.mk (.own 0 1) [(some (.ints .u8 a0))]) : AV × Blks)) n a0 := by kernel_rfl
theorem Fag.call (hmix : Tryd.prog.follows .mixedOrders = true) (n : Nat) (t : LA) (u) (h : Fag.m n t = some u) : FnC Tryd.prog abiG 20 (Fag.shape t).1 (Fag.shape t).2 (Fag.res u).1 (Fag.res u).2 :=
  fnC1 (C := Fag.C n) (A := Fag.A n) (fn := Tryd.f20) rfl (.cons (Fae.s hmix n) (.cons (Faf.s hmix n) .nil)) hmix Tryd.func20 (by kernel_rfl) (lp := [Fag.b0]) (by kernel_rfl) (.cons (show (Fag.A n).loop (key Fag.b0) = some (.mk' Fag.l3_0.pat (Fag.l3_0.m n n) Fag.l3_0.resK) by kernel_rfl) (LoopS.of (res := Fag.l3_0.res) (fun R u K => rfl) Fag.l3_0.pat_shape fun t => Fag.l3_0.loop n n t)
  .nil)
  (nj rfl) (by decide) rfl rfl (by show 1 ≤ Tryd.f20.ntmps; decide) (Fag.run n t) (Fag.gmap Fag.res (fun a0 => a0) n t) h
theorem Fag.s (hmix : Tryd.prog.follows .mixedOrders = true) (n : Nat) : CalleeS Tryd.prog abiG 20 (Fag.c n) :=
  .mk1 (res := Fag.res) (shape := Fag.shape) (fun R u K => rfl) (fun _ _ _ h => by unfold Fag.pat at h; split at h <;> cases h; rfl) (fun t u h => Fag.call hmix n t u h) Tryd.func20 (by decide) (by kernel_rfl)
end
section
noncomputable section
noncomputable def Fbe.C (n : Nat) : Ctx := ⟨Tryd.prog, abiG, lookC [], fun _ => false⟩
noncomputable def Fbe.A (n : Nat) : Ann := ⟨Tryd.f51.ntmps, 0, noNL, [], [none], fun k => match k with
 | _ => none, noNL, lookJ []⟩
def Fbe.g {α : Type} (mk0 : LI → α) (n : Nat) (a0 : Int) : Option α :=
 some (mk0 [a0, 0, 0, 0])
def Fbe.m (n : Nat) (t : Int) : Option LI := Fbe.g (fun a0 => a0) n t
def Fbe.pat : List AV → Blks → Option Int
 | [(.int .u64 a0)], [] => some a0
 | _, _ => none
def Fbe.shape (t : Int) : List AV × Blks := ([(.int .u64 t)], [])
def Fbe.res : LI → AV × Blks
 | u => (Prod.mk (.ints .u64 4 u) [])
def Fbe.resK {R : Type} (u : LI) (K : AV → Blks → Option R) : Option R := K (Fbe.res u).1 (Fbe.res u).2
def Fbe.c (n : Nat) : Abs.Callee := .mk' [] [none] Fbe.pat (Fbe.m n) Fbe.resK
end
end
section
noncomputable section
noncomputable def Fah.C (n : Nat) : Ctx := ⟨Tryd.prog, abiG, lookC [(55, Fat.c n), (51, Fbe.c n)], fun _ => false⟩
def Fah.live : NL := fun k => match k with
 | 3 => ([5, 0, 3, 4], [3, 4])
 | 11 => ([4, 5, 0, 3], [5, 0, 3, 4])
 | _ => ([], [])
def Fah.l11_0.r {α : Type} (mk0 : Int → LA → LI → LI → α) (n : Nat) (rc : Int → LA → LI → LI → Option α)  (x0 : Int) (x1 : LA) (x2 : LI) (x3 : LI) : Option α :=
  if ((Int.tmod (((List.length x2) : Nat) : Int) 32) != 0) = true then
   if ((((List.length x2) + 1) * 1) ≤ 70368744177664 ∧ ((List.length x2) + 1) ≤ 9223372036854775807) then
    rc x0 x1 (x2 ++ [0]) x3
   else
    none
  else
   some (mk0 x0 x1 x3 x2)
def Fah.l11_0.g {α : Type} (mk0 : Int → LA → LI → LI → α) (n : Nat) : Nat → Int → LA → LI → LI → Option α
 | 0, _, _, _, _ => none
 | m + 1, x0, x1, x2, x3 => Fah.l11_0.r mk0 n (fun y0 y1 y2 y3 => Fah.l11_0.g mk0 n m y0 y1 y2 y3)  x0 x1 x2 x3
def Fah.l11_0.m (n m : Nat) (t : (Int × (LA × (LI × LI)))) : Option (Int × (LA × (LI × LI))) := Fah.l11_0.g (fun a0 a1 a2 a3 => (a0, a1, a2, a3)) n m t.1 t.2.1 t.2.2.1 t.2.2.2
def Fah.l11_0.pat : St → Option (Int × (LA × (LI × LI)))
 | (St.mk [(.own 0 1), (.int .i64 x0), (.robjs 69 6 x1), (.own 1 1)] [(some (.ints .u8 x2)), (some (.ints .u8 x3))]) => some (x0, x1, x2, x3)
 | _ => none
def Fah.l11_0.shape (t : (Int × (LA × (LI × LI)))) : St := (St.mk [(.own 0 1), (.int .i64 t.1), (.robjs 69 6 t.2.1), (.own 1 1)] [(some (.ints .u8 t.2.2.1)), (some (.ints .u8 t.2.2.2))])
def Fah.l11_0.res : (Int × (LA × (LI × LI))) → Ex × St
 | u => (Prod.mk (.exit 2) (St.mk [(.int .i64 u.1), (.robjs 69 6 u.2.1), (.own 0 1), (.own 1 1)] [(some (.ints .u8 u.2.2.1)), (some (.ints .u8 u.2.2.2))]))
def Fah.l11_0.resK {R : Type} (u : (Int × (LA × (LI × LI)))) (K : Ex → St → Option R) : Option R := K (Fah.l11_0.res u).1 (Fah.l11_0.res u).2
def Fah.l3_0.r {α : Type} (mk0 : LI → LI → α) (n : Nat) (rc : Int → LA → LI → LI → Option α)  (x0 : Int) (x1 : LA) (x2 : LI) (x3 : LI) : Option α :=
  if (decide (x0 < (((List.length x1) : Nat) : Int))) = true then
   if 0 ≤ x0 then
    if x0 < (((List.length x1) : Nat) : Int) then
     bindO (tkAgg 3 (List.getD x1 (Int.toNat x0) AV.any)) fun r10 =>
      bindO (tkBool (List.getD r10 0 AV.any)) fun r12 =>
       bindO (tkInts .u64 4 (List.getD r10 1 AV.any)) fun r14 =>
        bindO (tkRints .u8 (List.getD r10 2 AV.any)) fun r16 =>
         if (!r12) = true then
          if 0 ≤ x0 then
           if x0 < (((List.length x1) : Nat) : Int) then
            bindO (tkAgg 3 (List.getD x1 (Int.toNat x0) AV.any)) fun r24 =>
             bindO (tkBool (List.getD r24 0 AV.any)) fun r26 =>
              bindO (tkInts .u64 4 (List.getD r24 1 AV.any)) fun r28 =>
               bindO (tkRints .u8 (List.getD r24 2 AV.any)) fun r30 =>
                bindO (Fat.m n r28) fun r32 =>
                 if ((((List.length x2) + (List.length r32)) * 1) ≤ 70368744177664 ∧ ((List.length x2) + (List.length r32)) ≤ 9223372036854775807) then
                  rc (IntKind.wrap .i64 (x0 + 1)) x1 (x2 ++ r32) x3
                 else
                  none
           else
            none
          else
           none
         else
          bindO (Fbe.m n (IntKind.wrap .u64 (IntKind.wrap .i64 ((IntKind.wrap .i64 (32 * (((List.length x1) : Nat) : Int))) + (((List.length x3) : Nat) : Int))))) fun r20 =>
           bindO (Fat.m n r20) fun r22 =>
            if ((((List.length x2) + (List.length r22)) * 1) ≤ 70368744177664 ∧ ((List.length x2) + (List.length r22)) ≤ 9223372036854775807) then
             if 0 ≤ x0 then
              if x0 < (((List.length x1) : Nat) : Int) then
               bindO (tkAgg 3 (List.getD x1 (Int.toNat x0) AV.any)) fun r30 =>
                bindO (tkBool (List.getD r30 0 AV.any)) fun r32 =>
                 bindO (tkInts .u64 4 (List.getD r30 1 AV.any)) fun r34 =>
                  bindO (tkRints .u8 (List.getD r30 2 AV.any)) fun r36 =>
                   bindO (Fbe.m n (IntKind.wrap .u64 (((List.length r36) : Nat) : Int))) fun r38 =>
                    bindO (Fat.m n r38) fun r40 =>
                     if ((((List.length x3) + (List.length r40)) * 1) ≤ 70368744177664 ∧ ((List.length x3) + (List.length r40)) ≤ 9223372036854775807) then
                      if 0 ≤ x0 then
                       if x0 < (((List.length x1) : Nat) : Int) then
                        bindO (tkAgg 3 (List.getD x1 (Int.toNat x0) AV.any)) fun r48 =>
                         bindO (tkBool (List.getD r48 0 AV.any)) fun r50 =>
                          bindO (tkInts .u64 4 (List.getD r48 1 AV.any)) fun r52 =>
                           bindO (tkRints .u8 (List.getD r48 2 AV.any)) fun r54 =>
                            if ((((List.length (x3 ++ r40)) + (List.length r54)) * 1) ≤ 70368744177664 ∧ ((List.length (x3 ++ r40)) + (List.length r54)) ≤ 9223372036854775807) then
                             bindO (Fah.l11_0.m n n (x0, x1, ((x3 ++ r40) ++ r54), (x2 ++ r22))) fun r58 =>
                              rc (IntKind.wrap .i64 ((Prod.fst r58) + 1)) (Prod.fst r58.2) (Prod.fst (Prod.snd r58).2) (Prod.snd (Prod.snd r58).2)
                            else
                             none
                       else
                        none
                      else
                       none
                     else
                      none
              else
               none
             else
              none
            else
             none
    else
     none
   else
    none
  else
   some (mk0 x2 x3)
def Fah.l3_0.g {α : Type} (mk0 : LI → LI → α) (n : Nat) : Nat → Int → LA → LI → LI → Option α
 | 0, _, _, _, _ => none
 | m + 1, x0, x1, x2, x3 => Fah.l3_0.r mk0 n (fun y0 y1 y2 y3 => Fah.l3_0.g mk0 n m y0 y1 y2 y3)  x0 x1 x2 x3
def Fah.l3_0.m (n m : Nat) (t : (Int × (LA × (LI × LI)))) : Option (LI × LI) := Fah.l3_0.g (fun a0 a1 => (a0, a1)) n m t.1 t.2.1 t.2.2.1 t.2.2.2
def Fah.l3_0.pat : St → Option (Int × (LA × (LI × LI)))
 | (St.mk [(.int .i64 x0), (.robjs 69 6 x1), (.own 0 1), (.own 1 1)] [(some (.ints .u8 x2)), (some (.ints .u8 x3))]) => some (x0, x1, x2, x3)
 | _ => none
def Fah.l3_0.shape (t : (Int × (LA × (LI × LI)))) : St := (St.mk [(.int .i64 t.1), (.robjs 69 6 t.2.1), (.own 0 1), (.own 1 1)] [(some (.ints .u8 t.2.2.1)), (some (.ints .u8 t.2.2.2))])
def Fah.l3_0.res : (LI × LI) → Ex × St
 | u => (Prod.mk (.exit 0) (St.mk [(.own 0 1), (.own 1 1)] [(some (.ints .u8 u.1)), (some (.ints .u8 u.2))]))
def Fah.l3_0.resK {R : Type} (u : (LI × LI)) (K : Ex → St → Option R) : Option R := K (Fah.l3_0.res u).1 (Fah.l3_0.res u).2
noncomputable def Fah.A (n : Nat) : Ann := ⟨Tryd.f21.ntmps, 0, Fah.live, [(0, (.objs 69 6)), (3, (.ints .u8)), (4, (.ints .u8))], [(some (.ints .u8))], fun k => match k with
 | 11 => some (.mk' Fah.l11_0.pat (Fah.l11_0.m n n) Fah.l11_0.resK)
 | 3 => some (.mk' Fah.l3_0.pat (Fah.l3_0.m n n) Fah.l3_0.resK)
 | _ => none, noNL, lookJ []⟩
noncomputable def Fah.b0 : Code := (loopsIn (Tryd.f21.body.getD .skip)).getD 0 .skip
noncomputable def Fah.b1 : Code := (loopsIn (Tryd.f21.body.getD .skip)).getD 1 .skip
def Fah.g {α : Type} (mk0 : LI → α) (n : Nat) (a0 : LA) : Option α :=
 bindO (Fah.l3_0.m n n (0, a0, [], [])) fun r2 =>
  if ((((List.length (Prod.fst r2)) + (List.length (Prod.snd r2))) * 1) ≤ 70368744177664 ∧ ((List.length (Prod.fst r2)) + (List.length (Prod.snd r2))) ≤ 9223372036854775807) then
   some (mk0 ((Prod.fst r2) ++ (Prod.snd r2)))
  else
   none
def Fah.m (n : Nat) (t : LA) : Option LI := Fah.g (fun a0 => a0) n t
def Fah.pat : List AV → Blks → Option LA
 | [(.robjs 69 6 a0)], [] => some a0
 | _, _ => none
def Fah.shape (t : LA) : List AV × Blks := ([(.robjs 69 6 t)], [])
def Fah.res : LI → AV × Blks
 | u => (Prod.mk (.own 0 1) [(some (.ints .u8 u))])
def Fah.resK {R : Type} (u : LI) (K : AV → Blks → Option R) : Option R := K (Fah.res u).1 (Fah.res u).2
def Fah.c (n : Nat) : Abs.Callee := .mk' [] [(some (.objs 69 6))] Fah.pat (Fah.m n) Fah.resK
end
end
section
theorem Fbe.gmap {α β : Type} (h : β → α) (mk0 : LI → β) (n : Nat) (a0 : Int) : Fbe.g (fun a0 => (h (mk0 a0))) n a0 = (Fbe.g mk0 n a0).map h := by
  unfold Fbe.g
  exact rfl
theorem Fbe.run (n : Nat) (a0 : Int) : runF (Fbe.C n) (Fbe.A n) n Tryd.f51 [(.int .u64 a0)] [] (fun v o => some (v, o)) = Fbe.g (fun a0 => ((Prod.mk (.ints .u64 4 a0) []) : AV × Blks)) n a0 := by kernel_rfl
theorem Fbe.call (hmix : Tryd.prog.follows .mixedOrders = true) (n : Nat) (t : Int) (u) (h : Fbe.m n t = some u) : FnC Tryd.prog abiG 51 (Fbe.shape t).1 (Fbe.shape t).2 (Fbe.res u).1 (Fbe.res u).2 :=
  fnC1 (C := Fbe.C n) (A := Fbe.A n) (fn := Tryd.f51) rfl .nil hmix Tryd.func51 (by kernel_rfl) (lp := []) (by kernel_rfl) .nil
  (nj rfl) (by decide) rfl rfl (by show 1 ≤ Tryd.f51.ntmps; decide) (Fbe.run n t) (Fbe.gmap Fbe.res (fun a0 => a0) n t) h
theorem Fbe.s (hmix : Tryd.prog.follows .mixedOrders = true) (n : Nat) : CalleeS Tryd.prog abiG 51 (Fbe.c n) :=
  .mk1 (res := Fbe.res) (shape := Fbe.shape) (fun R u K => rfl) (fun _ _ _ h => by unfold Fbe.pat at h; split at h <;> cases h; rfl) (fun t u h => Fbe.call hmix n t u h) Tryd.func51 (by decide) (by kernel_rfl)
end
section
noncomputable abbrev Fah.R0 (n : Nat) := roundOf (Fah.C n) (Fah.A n) n Fah.b0
noncomputable abbrev Fah.R1 (n : Nat) := roundOf (Fah.C n) (Fah.A n) n Fah.b1
theorem Fah.l11_0.rmap {α β : Type} (h : β → α) (mk0 : Int → LA → LI → LI → β) (n : Nat) (f : Int → LA → LI → LI → Option β)  (x0 : Int) (x1 : LA) (x2 : LI) (x3 : LI) : Fah.l11_0.r (fun a0 a1 a2 a3 => (h (mk0 a0 a1 a2 a3))) n (fun y0 y1 y2 y3 => (f y0 y1 y2 y3).map h) x0 x1 x2 x3 = (Fah.l11_0.r mk0 n f x0 x1 x2 x3).map h := by
  unfold Fah.l11_0.r
  exact (ite_map (ite_map rfl rfl) rfl)
theorem Fah.l11_0.gmap {α β : Type} (h : β → α) (mk0 : Int → LA → LI → LI → β) (n : Nat) : ∀ (m : Nat) (x0 : Int) (x1 : LA) (x2 : LI) (x3 : LI), Fah.l11_0.g (fun a0 a1 a2 a3 => (h (mk0 a0 a1 a2 a3))) n m x0 x1 x2 x3 = (Fah.l11_0.g mk0 n m x0 x1 x2 x3).map h
  | 0, _, _, _, _ => rfl
  | m + 1, x0, x1, x2, x3 => by
    unfold Fah.l11_0.g
    rw [← Fah.l11_0.rmap]
    congr
    · funext y0 y1 y2 y3; exact Fah.l11_0.gmap h mk0 n m y0 y1 y2 y3
theorem Fah.l11_0.pat_shape : ∀ st t, Fah.l11_0.pat st = some t → st = Fah.l11_0.shape t := fun _ _ h => by unfold Fah.l11_0.pat at h; split at h <;> cases h; rfl
def Fah.l11_0.k0 : Int → LA → LI → LI → Ex × St := (fun a0 a1 a2 a3 => ((Prod.mk (.exit 2) (St.mk [(.int .i64 a0), (.robjs 69 6 a1), (.own 0 1), (.own 1 1)] [(some (.ints .u8 a2)), (some (.ints .u8 a3))])) : Ex × St))
theorem Fah.l11_0.round (n : Nat) (rc : St → Option (Ex × St)) (x0 : Int) (x1 : LA) (x2 : LI) (x3 : LI) : Fah.R1 n rc ((St.mk [(.own 0 1), (.int .i64 x0), (.robjs 69 6 x1), (.own 1 1)] [(some (.ints .u8 x2)), (some (.ints .u8 x3))])) = Fah.l11_0.r Fah.l11_0.k0 n (fun y0 y1 y2 y3 => rc ((St.mk [(.own 0 1), (.int .i64 y0), (.robjs 69 6 y1), (.own 1 1)] [(some (.ints .u8 y2)), (some (.ints .u8 y3))]))) x0 x1 x2 x3 := by kernel_rfl
theorem Fah.l11_0.loop' (n : Nat) : ∀ (m : Nat) (t : (Int × (LA × (LI × LI)))), loopOf (Fah.R1 n) m (Fah.l11_0.shape t) = Fah.l11_0.g Fah.l11_0.k0 n m t.1 t.2.1 t.2.2.1 t.2.2.2 :=
  loop_of_round (shape := Fah.l11_0.shape) (body := Fah.R1 n) (g := fun m t => Fah.l11_0.g Fah.l11_0.k0 n m t.1 t.2.1 t.2.2.1 t.2.2.2) (fun t => rfl)
    fun m t ih => (Fah.l11_0.round n (loopOf (Fah.R1 n) m) t.1 t.2.1 t.2.2.1 t.2.2.2).trans (congrFun (congrFun (congrFun (congrFun (congrArg (Fah.l11_0.r Fah.l11_0.k0 n) (funext fun y0 => funext fun y1 => funext fun y2 => funext fun y3 => ih (y0, y1, y2, y3))) t.1) t.2.1) t.2.2.1) t.2.2.2)
theorem Fah.l11_0.loop (n m : Nat) (t : (Int × (LA × (LI × LI)))) : loopOf (Fah.R1 n) m (Fah.l11_0.shape t) = (Fah.l11_0.m n m t).map Fah.l11_0.res :=
  (Fah.l11_0.loop' n m t).trans (Fah.l11_0.gmap Fah.l11_0.res (fun a0 a1 a2 a3 => (a0, a1, a2, a3)) n m t.1 t.2.1 t.2.2.1 t.2.2.2)
theorem Fah.l3_0.rmap {α β : Type} (h : β → α) (mk0 : LI → LI → β) (n : Nat) (f : Int → LA → LI → LI → Option β)  (x0 : Int) (x1 : LA) (x2 : LI) (x3 : LI) : Fah.l3_0.r (fun a0 a1 => (h (mk0 a0 a1))) n (fun y0 y1 y2 y3 => (f y0 y1 y2 y3).map h) x0 x1 x2 x3 = (Fah.l3_0.r mk0 n f x0 x1 x2 x3).map h := by
  unfold Fah.l3_0.r
  exact (ite_map (ite_map (ite_map (bindO_map fun r10 => (bindO_map fun r12 => (bindO_map fun r14 => (bindO_map fun r16 => (ite_map (ite_map (ite_map (bindO_map fun r24 => (bindO_map fun r26 => (bindO_map fun r28 => (bindO_map fun r30 => (bindO_map fun r32 => (ite_map rfl rfl)))))) rfl) rfl) (bindO_map fun r20 => (bindO_map fun r22 => (ite_map (ite_map (ite_map (bindO_map fun r30 => (bindO_map fun r32 => (bindO_map fun r34 => (bindO_map fun r36 => (bindO_map fun r38 => (bindO_map fun r40 => (ite_map (ite_map (ite_map (bindO_map fun r48 => (bindO_map fun r50 => (bindO_map fun r52 => (bindO_map fun r54 => (ite_map (bindO_map fun r58 => rfl) rfl))))) rfl) rfl) rfl))))))) rfl) rfl) rfl)))))))) rfl) rfl) rfl)
theorem Fah.l3_0.gmap {α β : Type} (h : β → α) (mk0 : LI → LI → β) (n : Nat) : ∀ (m : Nat) (x0 : Int) (x1 : LA) (x2 : LI) (x3 : LI), Fah.l3_0.g (fun a0 a1 => (h (mk0 a0 a1))) n m x0 x1 x2 x3 = (Fah.l3_0.g mk0 n m x0 x1 x2 x3).map h
  | 0, _, _, _, _ => rfl
  | m + 1, x0, x1, x2, x3 => by
    unfold Fah.l3_0.g
    rw [← Fah.l3_0.rmap]
    congr
    · funext y0 y1 y2 y3; exact Fah.l3_0.gmap h mk0 n m y0 y1 y2 y3
theorem Fah.l3_0.pat_shape : ∀ st t, Fah.l3_0.pat st = some t → st = Fah.l3_0.shape t := fun _ _ h => by unfold Fah.l3_0.pat at h; split at h <;> cases h; rfl
def Fah.l3_0.k0 : LI → LI → Ex × St := (fun a0 a1 => ((Prod.mk (.exit 0) (St.mk [(.own 0 1), (.own 1 1)] [(some (.ints .u8 a0)), (some (.ints .u8 a1))])) : Ex × St))
theorem Fah.l3_0.round (n : Nat) (rc : St → Option (Ex × St)) (x0 : Int) (x1 : LA) (x2 : LI) (x3 : LI) : Fah.R0 n rc ((St.mk [(.int .i64 x0), (.robjs 69 6 x1), (.own 0 1), (.own 1 1)] [(some (.ints .u8 x2)), (some (.ints .u8 x3))])) = Fah.l3_0.r Fah.l3_0.k0 n (fun y0 y1 y2 y3 => rc ((St.mk [(.int .i64 y0), (.robjs 69 6 y1), (.own 0 1), (.own 1 1)] [(some (.ints .u8 y2)), (some (.ints .u8 y3))]))) x0 x1 x2 x3 := by kernel_rfl
theorem Fah.l3_0.loop' (n : Nat) : ∀ (m : Nat) (t : (Int × (LA × (LI × LI)))), loopOf (Fah.R0 n) m (Fah.l3_0.shape t) = Fah.l3_0.g Fah.l3_0.k0 n m t.1 t.2.1 t.2.2.1 t.2.2.2 :=
  loop_of_round (shape := Fah.l3_0.shape) (body := Fah.R0 n) (g := fun m t => Fah.l3_0.g Fah.l3_0.k0 n m t.1 t.2.1 t.2.2.1 t.2.2.2) (fun t => rfl)
    fun m t ih => (Fah.l3_0.round n (loopOf (Fah.R0 n) m) t.1 t.2.1 t.2.2.1 t.2.2.2).trans (congrFun (congrFun (congrFun (congrFun (congrArg (Fah.l3_0.r Fah.l3_0.k0 n) (funext fun y0 => funext fun y1 => funext fun y2 => funext fun y3 => ih (y0, y1, y2, y3))) t.1) t.2.1) t.2.2.1) t.2.2.2)
theorem Fah.l3_0.loop (n m : Nat) (t : (Int × (LA × (LI × LI)))) : loopOf (Fah.R0 n) m (Fah.l3_0.shape t) = (Fah.l3_0.m n m t).map Fah.l3_0.res :=
  (Fah.l3_0.loop' n m t).trans (Fah.l3_0.gmap Fah.l3_0.res (fun a0 a1 => (a0, a1)) n m t.1 t.2.1 t.2.2.1 t.2.2.2)
theorem Fah.gmap {α β : Type} (h : β → α) (mk0 : LI → β) (n : Nat) (a0 : LA) : Fah.g (fun a0 => (h (mk0 a0))) n a0 = (Fah.g mk0 n a0).map h := by
  unfold Fah.g
  exact (bindO_map fun r2 => (ite_map rfl rfl))
theorem Fah.run (n : Nat) (a0 : LA) : runF (Fah.C n) (Fah.A n) n Tryd.f21 [(.robjs 69 6 a0)] [] (fun v o => some (v, o)) = Fah.g (fun a0 => ((Prod.mk (.own 0 1) [(some (.ints .u8 a0))]) : AV × Blks)) n a0 := by kernel_rfl
theorem Fah.call (hmix : Tryd.prog.follows .mixedOrders = true) (n : Nat) (t : LA) (u) (h : Fah.m n t = some u) : FnC Tryd.prog abiG 21 (Fah.shape t).1 (Fah.shape t).2 (Fah.res u).1 (Fah.res u).2 :=
  fnC1 (C := Fah.C n) (A := Fah.A n) (fn := Tryd.f21) rfl (.cons (Fat.s hmix n) (.cons (Fbe.s hmix n) .nil)) hmix Tryd.func21 (by kernel_rfl) (lp := [Fah.b0, Fah.b1]) (by kernel_rfl) (.cons (show (Fah.A n).loop (key Fah.b0) = some (.mk' Fah.l3_0.pat (Fah.l3_0.m n n) Fah.l3_0.resK) by kernel_rfl) (LoopS.of (res := Fah.l3_0.res) (fun R u K => rfl) Fah.l3_0.pat_shape fun t => Fah.l3_0.loop n n t)
  (.cons (show (Fah.A n).loop (key Fah.b1) = some (.mk' Fah.l11_0.pat (Fah.l11_0.m n n) Fah.l11_0.resK) by kernel_rfl) (LoopS.of (res := Fah.l11_0.res) (fun R u K => rfl) Fah.l11_0.pat_shape fun t => Fah.l11_0.loop n n t)
  .nil))
  (nj rfl) (by decide) rfl rfl (by show 1 ≤ Tryd.f21.ntmps; decide) (Fah.run n t) (Fah.gmap Fah.res (fun a0 => a0) n t) h
theorem Fah.s (hmix : Tryd.prog.follows .mixedOrders = true) (n : Nat) : CalleeS Tryd.prog abiG 21 (Fah.c n) :=
  .mk1 (res := Fah.res) (shape := Fah.shape) (fun R u K => rfl) (fun _ _ _ h => by unfold Fah.pat at h; split at h <;> cases h; rfl) (fun t u h => Fah.call hmix n t u h) Tryd.func21 (by decide) (by kernel_rfl)
end
section
noncomputable section
noncomputable def Fc.C (n : Nat) : Ctx := ⟨Tryd.prog, abiG, lookC [], fun _ => false⟩
noncomputable def Fc.A (n : Nat) : Ann := ⟨Tryd.f117.ntmps, 0, noNL, [], [(some (.ints .u8))], fun k => match k with
 | _ => none, noNL, lookJ []⟩
def Fc.g {α : Type} (mk0 : LI → α) (n : Nat) (sz : Int) : Option α :=
 if (decide (sz < 0)) = true then
  none
 else
  if (decide ((IntKind.wrap .i64 (sz - 0)) > 0)) = true then
   if 0 ≤ (IntKind.wrap .i64 (sz - 0)) then
    if (((List.length (List.replicate (Int.toNat (IntKind.wrap .i64 (sz - 0))) (0 : Int))) * 1) ≤ 70368744177664 ∧ (List.length (List.replicate (Int.toNat (IntKind.wrap .i64 (sz - 0))) (0 : Int))) ≤ 9223372036854775807) then
     some (mk0 [])
    else
     none
   else
    none
  else
   some (mk0 [])
def Fc.m (n : Nat) (t : Int) : Option LI := Fc.g (fun a0 => a0) n t
def Fc.pat : List AV → Blks → Option Int
 | [.snil, (.int .i64 sz)], [] => some sz
 | _, _ => none
def Fc.shape (t : Int) : List AV × Blks := ([.snil, (.int .i64 t)], [])
def Fc.res : LI → AV × Blks
 | u => (Prod.mk (.own 0 1) [(some (.ints .u8 u))])
def Fc.resK {R : Type} (u : LI) (K : AV → Blks → Option R) : Option R := K (Fc.res u).1 (Fc.res u).2
def Fc.c (n : Nat) : Abs.Callee := .mk' [] [none, none] Fc.pat (Fc.m n) Fc.resK
end
end
section
noncomputable section
noncomputable def Fa.C (n : Nat) : Ctx := ⟨Tryd.prog, abiG, lookC [(117, Fc.c n)], fun _ => false⟩
def Fa.live : NL := fun k => match k with
 | 3 => ([11, 10, 9, 3, 0], [3, 0])
 | 11 => ([27, 26, 25, 6], [6])
 | _ => ([], [])
def Fa.l3_0.r {α : Type} (mk0 : Int → LA → α) (n : Nat) (rc : Int → Int → LA → Int → LA → Option α)  (x0 : Int) (x1 : Int) (x2 : LA) (x3 : Int) (x4 : LA) : Option α :=
  if (decide (x0 < x1)) = true then
   if 0 ≤ x0 then
    if x0 < (((List.length x2) : Nat) : Int) then
     bindO (tkRints .u8 (List.getD x2 (Int.toNat x0) AV.any)) fun r10 =>
      if (decide ((IntKind.wrap .i64 (x3 + (((List.length r10) : Nat) : Int))) < 0)) = true then
       none
      else
       rc (IntKind.wrap .i64 (x0 + 1)) x1 x2 (IntKind.wrap .i64 (x3 + (((List.length r10) : Nat) : Int))) x4
    else
     none
   else
    none
  else
   some (mk0 x3 x4)
def Fa.l3_0.g {α : Type} (mk0 : Int → LA → α) (n : Nat) : Nat → Int → Int → LA → Int → LA → Option α
 | 0, _, _, _, _, _ => none
 | m + 1, x0, x1, x2, x3, x4 => Fa.l3_0.r mk0 n (fun y0 y1 y2 y3 y4 => Fa.l3_0.g mk0 n m y0 y1 y2 y3 y4)  x0 x1 x2 x3 x4
def Fa.l3_0.m (n m : Nat) (t : (Int × (Int × (LA × (Int × LA))))) : Option (Int × LA) := Fa.l3_0.g (fun a0 a1 => (a0, a1)) n m t.1 t.2.1 t.2.2.1 t.2.2.2.1 t.2.2.2.2
def Fa.l3_0.pat : St → Option (Int × (Int × (LA × (Int × LA))))
 | (St.mk [(.int .i64 x0), (.int .i64 x1), (.robjs 26 1 x2), (.int .i64 x3), (.robjs 26 1 x4)] []) => some (x0, x1, x2, x3, x4)
 | _ => none
def Fa.l3_0.shape (t : (Int × (Int × (LA × (Int × LA))))) : St := (St.mk [(.int .i64 t.1), (.int .i64 t.2.1), (.robjs 26 1 t.2.2.1), (.int .i64 t.2.2.2.1), (.robjs 26 1 t.2.2.2.2)] [])
def Fa.l3_0.res : (Int × LA) → Ex × St
 | u => (Prod.mk (.exit 0) (St.mk [(.int .i64 u.1), (.robjs 26 1 u.2)] []))
def Fa.l3_0.resK {R : Type} (u : (Int × LA)) (K : Ex → St → Option R) : Option R := K (Fa.l3_0.res u).1 (Fa.l3_0.res u).2
def Fa.l11_0.r {α : Type} (mk0 : LI → α) (n : Nat) (rc : Int → Int → LA → LI → Option α)  (x0 : Int) (x1 : Int) (x2 : LA) (x3 : LI) : Option α :=
  if (decide (x0 < x1)) = true then
   if 0 ≤ x0 then
    if x0 < (((List.length x2) : Nat) : Int) then
     bindO (tkRints .u8 (List.getD x2 (Int.toNat x0) AV.any)) fun r10 =>
      if ((((List.length x3) + (List.length r10)) * 1) ≤ 70368744177664 ∧ ((List.length x3) + (List.length r10)) ≤ 9223372036854775807) then
       rc (IntKind.wrap .i64 (x0 + 1)) x1 x2 (x3 ++ r10)
      else
       none
    else
     none
   else
    none
  else
   some (mk0 x3)
def Fa.l11_0.g {α : Type} (mk0 : LI → α) (n : Nat) : Nat → Int → Int → LA → LI → Option α
 | 0, _, _, _, _ => none
 | m + 1, x0, x1, x2, x3 => Fa.l11_0.r mk0 n (fun y0 y1 y2 y3 => Fa.l11_0.g mk0 n m y0 y1 y2 y3)  x0 x1 x2 x3
def Fa.l11_0.m (n m : Nat) (t : (Int × (Int × (LA × LI)))) : Option LI := Fa.l11_0.g (fun a0 => a0) n m t.1 t.2.1 t.2.2.1 t.2.2.2
def Fa.l11_0.pat : St → Option (Int × (Int × (LA × LI)))
 | (St.mk [(.int .i64 x0), (.int .i64 x1), (.robjs 26 1 x2), (.own 0 1)] [(some (.ints .u8 x3))]) => some (x0, x1, x2, x3)
 | _ => none
def Fa.l11_0.shape (t : (Int × (Int × (LA × LI)))) : St := (St.mk [(.int .i64 t.1), (.int .i64 t.2.1), (.robjs 26 1 t.2.2.1), (.own 0 1)] [(some (.ints .u8 t.2.2.2))])
def Fa.l11_0.res : LI → Ex × St
 | u => (Prod.mk (.exit 2) (St.mk [(.own 0 1)] [(some (.ints .u8 u))]))
def Fa.l11_0.resK {R : Type} (u : LI) (K : Ex → St → Option R) : Option R := K (Fa.l11_0.res u).1 (Fa.l11_0.res u).2
noncomputable def Fa.A (n : Nat) : Ann := ⟨Tryd.f99.ntmps, 0, Fa.live, [(0, (.objs 26 1)), (9, (.objs 26 1)), (25, (.objs 26 1)), (6, (.ints .u8))], [(some (.ints .u8))], fun k => match k with
 | 3 => some (.mk' Fa.l3_0.pat (Fa.l3_0.m n n) Fa.l3_0.resK)
 | 11 => some (.mk' Fa.l11_0.pat (Fa.l11_0.m n n) Fa.l11_0.resK)
 | _ => none, noNL, lookJ []⟩
noncomputable def Fa.b0 : Code := (loopsIn (Tryd.f99.body.getD .skip)).getD 0 .skip
noncomputable def Fa.b1 : Code := (loopsIn (Tryd.f99.body.getD .skip)).getD 1 .skip
def Fa.g {α : Type} (mk0 : LI → α) (n : Nat) (a0 : LA) : Option α :=
 bindO (Fa.l3_0.m n n (0, (((List.length a0) : Nat) : Int), a0, 0, a0)) fun r2 =>
  bindO (Fc.m n (Prod.fst r2)) fun r4 =>
   bindO (Fa.l11_0.m n n (0, (((List.length (Prod.snd r2)) : Nat) : Int), (Prod.snd r2), r4)) fun r6 =>
    some (mk0 r6)
def Fa.m (n : Nat) (t : LA) : Option LI := Fa.g (fun a0 => a0) n t
def Fa.pat : List AV → Blks → Option LA
 | [(.robjs 26 1 a0)], [] => some a0
 | _, _ => none
def Fa.shape (t : LA) : List AV × Blks := ([(.robjs 26 1 t)], [])
def Fa.res : LI → AV × Blks
 | u => (Prod.mk (.own 0 1) [(some (.ints .u8 u))])
def Fa.resK {R : Type} (u : LI) (K : AV → Blks → Option R) : Option R := K (Fa.res u).1 (Fa.res u).2
def Fa.c (n : Nat) : Abs.Callee := .mk' [] [(some (.objs 26 1))] Fa.pat (Fa.m n) Fa.resK
end
end
section
theorem Fc.gmap {α β : Type} (h : β → α) (mk0 : LI → β) (n : Nat) (sz : Int) : Fc.g (fun a0 => (h (mk0 a0))) n sz = (Fc.g mk0 n sz).map h := by
  unfold Fc.g
  exact (ite_map rfl (ite_map (ite_map (ite_map rfl rfl) rfl) rfl))
theorem Fc.run (n : Nat) (sz : Int) : runF (Fc.C n) (Fc.A n) n Tryd.f117 [.snil, (.int .i64 sz)] [] (fun v o => some (v, o)) = Fc.g (fun a0 => ((Prod.mk (.own 0 1) [(some (.ints .u8 a0))]) : AV × Blks)) n sz := by kernel_rfl
theorem Fc.call (hmix : Tryd.prog.follows .mixedOrders = true) (n : Nat) (t : Int) (u) (h : Fc.m n t = some u) : FnC Tryd.prog abiG 117 (Fc.shape t).1 (Fc.shape t).2 (Fc.res u).1 (Fc.res u).2 :=
  fnC1 (C := Fc.C n) (A := Fc.A n) (fn := Tryd.f117) rfl .nil hmix Tryd.func117 (by kernel_rfl) (lp := []) (by kernel_rfl) .nil
  (nj rfl) (by decide) rfl rfl (by show 2 ≤ Tryd.f117.ntmps; decide) (Fc.run n t) (Fc.gmap Fc.res (fun a0 => a0) n t) h
theorem Fc.s (hmix : Tryd.prog.follows .mixedOrders = true) (n : Nat) : CalleeS Tryd.prog abiG 117 (Fc.c n) :=
  .mk1 (res := Fc.res) (shape := Fc.shape) (fun R u K => rfl) (fun _ _ _ h => by unfold Fc.pat at h; split at h <;> cases h; rfl) (fun t u h => Fc.call hmix n t u h) Tryd.func117 (by decide) (by kernel_rfl)
end
section
noncomputable abbrev Fa.R0 (n : Nat) := roundOf (Fa.C n) (Fa.A n) n Fa.b0
noncomputable abbrev Fa.R1 (n : Nat) := roundOf (Fa.C n) (Fa.A n) n Fa.b1
theorem Fa.l3_0.rmap {α β : Type} (h : β → α) (mk0 : Int → LA → β) (n : Nat) (f : Int → Int → LA → Int → LA → Option β)  (x0 : Int) (x1 : Int) (x2 : LA) (x3 : Int) (x4 : LA) : Fa.l3_0.r (fun a0 a1 => (h (mk0 a0 a1))) n (fun y0 y1 y2 y3 y4 => (f y0 y1 y2 y3 y4).map h) x0 x1 x2 x3 x4 = (Fa.l3_0.r mk0 n f x0 x1 x2 x3 x4).map h := by
  unfold Fa.l3_0.r
  exact (ite_map (ite_map (ite_map (bindO_map fun r10 => (ite_map rfl rfl)) rfl) rfl) rfl)
theorem Fa.l3_0.gmap {α β : Type} (h : β → α) (mk0 : Int → LA → β) (n : Nat) : ∀ (m : Nat) (x0 : Int) (x1 : Int) (x2 : LA) (x3 : Int) (x4 : LA), Fa.l3_0.g (fun a0 a1 => (h (mk0 a0 a1))) n m x0 x1 x2 x3 x4 = (Fa.l3_0.g mk0 n m x0 x1 x2 x3 x4).map h
  | 0, _, _, _, _, _ => rfl
  | m + 1, x0, x1, x2, x3, x4 => by
    unfold Fa.l3_0.g
    rw [← Fa.l3_0.rmap]
    congr
    · funext y0 y1 y2 y3 y4; exact Fa.l3_0.gmap h mk0 n m y0 y1 y2 y3 y4
theorem Fa.l3_0.pat_shape : ∀ st t, Fa.l3_0.pat st = some t → st = Fa.l3_0.shape t := fun _ _ h => by unfold Fa.l3_0.pat at h; split at h <;> cases h; rfl
def Fa.l3_0.k0 : Int → LA → Ex × St := (fun a0 a1 => ((Prod.mk (.exit 0) (St.mk [(.int .i64 a0), (.robjs 26 1 a1)] [])) : Ex × St))
theorem Fa.l3_0.round (n : Nat) (rc : St → Option (Ex × St)) (x0 : Int) (x1 : Int) (x2 : LA) (x3 : Int) (x4 : LA) : Fa.R0 n rc ((St.mk [(.int .i64 x0), (.int .i64 x1), (.robjs 26 1 x2), (.int .i64 x3), (.robjs 26 1 x4)] [])) = Fa.l3_0.r Fa.l3_0.k0 n (fun y0 y1 y2 y3 y4 => rc ((St.mk [(.int .i64 y0), (.int .i64 y1), (.robjs 26 1 y2), (.int .i64 y3), (.robjs 26 1 y4)] []))) x0 x1 x2 x3 x4 := by kernel_rfl
theorem Fa.l3_0.loop' (n : Nat) : ∀ (m : Nat) (t : (Int × (Int × (LA × (Int × LA))))), loopOf (Fa.R0 n) m (Fa.l3_0.shape t) = Fa.l3_0.g Fa.l3_0.k0 n m t.1 t.2.1 t.2.2.1 t.2.2.2.1 t.2.2.2.2 :=
  loop_of_round (shape := Fa.l3_0.shape) (body := Fa.R0 n) (g := fun m t => Fa.l3_0.g Fa.l3_0.k0 n m t.1 t.2.1 t.2.2.1 t.2.2.2.1 t.2.2.2.2) (fun t => rfl)
    fun m t ih => (Fa.l3_0.round n (loopOf (Fa.R0 n) m) t.1 t.2.1 t.2.2.1 t.2.2.2.1 t.2.2.2.2).trans (congrFun (congrFun (congrFun (congrFun (congrFun (congrArg (Fa.l3_0.r Fa.l3_0.k0 n) (funext fun y0 => funext fun y1 => funext fun y2 => funext fun y3 => funext fun y4 => ih (y0, y1, y2, y3, y4))) t.1) t.2.1) t.2.2.1) t.2.2.2.1) t.2.2.2.2)
theorem Fa.l3_0.loop (n m : Nat) (t : (Int × (Int × (LA × (Int × LA))))) : loopOf (Fa.R0 n) m (Fa.l3_0.shape t) = (Fa.l3_0.m n m t).map Fa.l3_0.res :=
  (Fa.l3_0.loop' n m t).trans (Fa.l3_0.gmap Fa.l3_0.res (fun a0 a1 => (a0, a1)) n m t.1 t.2.1 t.2.2.1 t.2.2.2.1 t.2.2.2.2)
theorem Fa.l11_0.rmap {α β : Type} (h : β → α) (mk0 : LI → β) (n : Nat) (f : Int → Int → LA → LI → Option β)  (x0 : Int) (x1 : Int) (x2 : LA) (x3 : LI) : Fa.l11_0.r (fun a0 => (h (mk0 a0))) n (fun y0 y1 y2 y3 => (f y0 y1 y2 y3).map h) x0 x1 x2 x3 = (Fa.l11_0.r mk0 n f x0 x1 x2 x3).map h := by
  unfold Fa.l11_0.r
  exact (ite_map (ite_map (ite_map (bindO_map fun r10 => (ite_map rfl rfl)) rfl) rfl) rfl)
theorem Fa.l11_0.gmap {α β : Type} (h : β → α) (mk0 : LI → β) (n : Nat) : ∀ (m : Nat) (x0 : Int) (x1 : Int) (x2 : LA) (x3 : LI), Fa.l11_0.g (fun a0 => (h (mk0 a0))) n m x0 x1 x2 x3 = (Fa.l11_0.g mk0 n m x0 x1 x2 x3).map h
  | 0, _, _, _, _ => rfl
  | m + 1, x0, x1, x2, x3 => by
    unfold Fa.l11_0.g
    rw [← Fa.l11_0.rmap]
    congr
    · funext y0 y1 y2 y3; exact Fa.l11_0.gmap h mk0 n m y0 y1 y2 y3
theorem Fa.l11_0.pat_shape : ∀ st t, Fa.l11_0.pat st = some t → st = Fa.l11_0.shape t := fun _ _ h => by unfold Fa.l11_0.pat at h; split at h <;> cases h; rfl
def Fa.l11_0.k0 : LI → Ex × St := (fun a0 => ((Prod.mk (.exit 2) (St.mk [(.own 0 1)] [(some (.ints .u8 a0))])) : Ex × St))
theorem Fa.l11_0.round (n : Nat) (rc : St → Option (Ex × St)) (x0 : Int) (x1 : Int) (x2 : LA) (x3 : LI) : Fa.R1 n rc ((St.mk [(.int .i64 x0), (.int .i64 x1), (.robjs 26 1 x2), (.own 0 1)] [(some (.ints .u8 x3))])) = Fa.l11_0.r Fa.l11_0.k0 n (fun y0 y1 y2 y3 => rc ((St.mk [(.int .i64 y0), (.int .i64 y1), (.robjs 26 1 y2), (.own 0 1)] [(some (.ints .u8 y3))]))) x0 x1 x2 x3 := by kernel_rfl
theorem Fa.l11_0.loop' (n : Nat) : ∀ (m : Nat) (t : (Int × (Int × (LA × LI)))), loopOf (Fa.R1 n) m (Fa.l11_0.shape t) = Fa.l11_0.g Fa.l11_0.k0 n m t.1 t.2.1 t.2.2.1 t.2.2.2 :=
  loop_of_round (shape := Fa.l11_0.shape) (body := Fa.R1 n) (g := fun m t => Fa.l11_0.g Fa.l11_0.k0 n m t.1 t.2.1 t.2.2.1 t.2.2.2) (fun t => rfl)
    fun m t ih => (Fa.l11_0.round n (loopOf (Fa.R1 n) m) t.1 t.2.1 t.2.2.1 t.2.2.2).trans (congrFun (congrFun (congrFun (congrFun (congrArg (Fa.l11_0.r Fa.l11_0.k0 n) (funext fun y0 => funext fun y1 => funext fun y2 => funext fun y3 => ih (y0, y1, y2, y3))) t.1) t.2.1) t.2.2.1) t.2.2.2)
theorem Fa.l11_0.loop (n m : Nat) (t : (Int × (Int × (LA × LI)))) : loopOf (Fa.R1 n) m (Fa.l11_0.shape t) = (Fa.l11_0.m n m t).map Fa.l11_0.res :=
  (Fa.l11_0.loop' n m t).trans (Fa.l11_0.gmap Fa.l11_0.res (fun a0 => a0) n m t.1 t.2.1 t.2.2.1 t.2.2.2)
theorem Fa.gmap {α β : Type} (h : β → α) (mk0 : LI → β) (n : Nat) (a0 : LA) : Fa.g (fun a0 => (h (mk0 a0))) n a0 = (Fa.g mk0 n a0).map h := by
  unfold Fa.g
  exact (bindO_map fun r2 => (bindO_map fun r4 => (bindO_map fun r6 => rfl)))
theorem Fa.run (n : Nat) (a0 : LA) : runF (Fa.C n) (Fa.A n) n Tryd.f99 [(.robjs 26 1 a0)] [] (fun v o => some (v, o)) = Fa.g (fun a0 => ((Prod.mk (.own 0 1) [(some (.ints .u8 a0))]) : AV × Blks)) n a0 := by kernel_rfl
theorem Fa.call (hmix : Tryd.prog.follows .mixedOrders = true) (n : Nat) (t : LA) (u) (h : Fa.m n t = some u) : FnC Tryd.prog abiG 99 (Fa.shape t).1 (Fa.shape t).2 (Fa.res u).1 (Fa.res u).2 :=
  fnC1 (C := Fa.C n) (A := Fa.A n) (fn := Tryd.f99) rfl (.cons (Fc.s hmix n) .nil) hmix Tryd.func99 (by kernel_rfl) (lp := [Fa.b0, Fa.b1]) (by kernel_rfl) (.cons (show (Fa.A n).loop (key Fa.b0) = some (.mk' Fa.l3_0.pat (Fa.l3_0.m n n) Fa.l3_0.resK) by kernel_rfl) (LoopS.of (res := Fa.l3_0.res) (fun R u K => rfl) Fa.l3_0.pat_shape fun t => Fa.l3_0.loop n n t)
  (.cons (show (Fa.A n).loop (key Fa.b1) = some (.mk' Fa.l11_0.pat (Fa.l11_0.m n n) Fa.l11_0.resK) by kernel_rfl) (LoopS.of (res := Fa.l11_0.res) (fun R u K => rfl) Fa.l11_0.pat_shape fun t => Fa.l11_0.loop n n t)
  .nil))
  (nj rfl) (by decide) rfl rfl (by show 1 ≤ Tryd.f99.ntmps; decide) (Fa.run n t) (Fa.gmap Fa.res (fun a0 => a0) n t) h
theorem Fa.s (hmix : Tryd.prog.follows .mixedOrders = true) (n : Nat) : CalleeS Tryd.prog abiG 99 (Fa.c n) :=
  .mk1 (res := Fa.res) (shape := Fa.shape) (fun R u K => rfl) (fun _ _ _ h => by unfold Fa.pat at h; split at h <;> cases h; rfl) (fun t u h => Fa.call hmix n t u h) Tryd.func99 (by decide) (by kernel_rfl)
end
section
noncomputable section
noncomputable def Fo.C (n : Nat) : Ctx := ⟨Tryd.prog, abiG, lookC [(99, Fa.c n)], fun _ => false⟩
noncomputable def Fo.A (n : Nat) : Ann := ⟨Tryd.f70.ntmps, 0, noNL, [], [none], fun k => match k with
 | _ => none, noNL, lookJ []⟩
def Fo.g {α : Type} (mk0 : Bool → LI → LI → α) (n : Nat) (a0 : LA) : Option α :=
 bindO (Fa.m n a0) fun r2 =>
  some (mk0 true [0, 0, 0, 0] r2)
def Fo.m (n : Nat) (t : LA) : Option (Bool × (LI × LI)) := Fo.g (fun a0 a1 a2 => (a0, a1, a2)) n t
def Fo.pat : List AV → Blks → Option LA
 | [(.robjs 26 1 a0)], [] => some a0
 | _, _ => none
def Fo.shape (t : LA) : List AV × Blks := ([(.robjs 26 1 t)], [])
def Fo.res : (Bool × (LI × LI)) → AV × Blks
 | u => (Prod.mk (.agg [(.bool u.1), (.ints .u64 4 u.2.1), (.own 0 1)]) [(some (.ints .u8 u.2.2))])
def Fo.resK {R : Type} (u : (Bool × (LI × LI))) (K : AV → Blks → Option R) : Option R := K (Fo.res u).1 (Fo.res u).2
def Fo.c (n : Nat) : Abs.Callee := .mk' [] [(some (.objs 26 1))] Fo.pat (Fo.m n) Fo.resK
end
end
section
theorem Fo.gmap {α β : Type} (h : β → α) (mk0 : Bool → LI → LI → β) (n : Nat) (a0 : LA) : Fo.g (fun a0 a1 a2 => (h (mk0 a0 a1 a2))) n a0 = (Fo.g mk0 n a0).map h := by
  unfold Fo.g
  exact (bindO_map fun r2 => rfl)
theorem Fo.run (n : Nat) (a0 : LA) : runF (Fo.C n) (Fo.A n) n Tryd.f70 [(.robjs 26 1 a0)] [] (fun v o => some (v, o)) = Fo.g (fun a0 a1 a2 => ((Prod.mk (.agg [(.bool a0), (.ints .u64 4 a1), (.own 0 1)]) [(some (.ints .u8 a2))]) : AV × Blks)) n a0 := by kernel_rfl
theorem Fo.call (hmix : Tryd.prog.follows .mixedOrders = true) (n : Nat) (t : LA) (u) (h : Fo.m n t = some u) : FnC Tryd.prog abiG 70 (Fo.shape t).1 (Fo.shape t).2 (Fo.res u).1 (Fo.res u).2 :=
  fnC1 (C := Fo.C n) (A := Fo.A n) (fn := Tryd.f70) rfl (.cons (Fa.s hmix n) .nil) hmix Tryd.func70 (by kernel_rfl) (lp := []) (by kernel_rfl) .nil
  (nj rfl) (by decide) rfl rfl (by show 1 ≤ Tryd.f70.ntmps; decide) (Fo.run n t) (Fo.gmap Fo.res (fun a0 a1 a2 => (a0, a1, a2)) n t) h
theorem Fo.s (hmix : Tryd.prog.follows .mixedOrders = true) (n : Nat) : CalleeS Tryd.prog abiG 70 (Fo.c n) :=
  .mk1 (res := Fo.res) (shape := Fo.shape) (fun R u K => rfl) (fun _ _ _ h => by unfold Fo.pat at h; split at h <;> cases h; rfl) (fun t u h => Fo.call hmix n t u h) Tryd.func70 (by decide) (by kernel_rfl)
end
section
noncomputable section
noncomputable def Fbx.C (n : Nat) : Ctx := ⟨Tryd.prog, abiG, lookC [], fun _ => false⟩
noncomputable def Fbx.A (n : Nat) : Ann := ⟨Tryd.f128.ntmps, 0, noNL, [], [none], fun k => match k with
 | _ => none, noNL, lookJ []⟩
def Fbx.g {α : Type} (mk0 : Bool → α) (n : Nat) (a0 : LI) (a1 : Int) : Option α :=
 if 0 ≤ (IntKind.wrap .i64 (Int.tdiv a1 64)) then
  if (IntKind.wrap .i64 (Int.tdiv a1 64)) < 4 then
   if 0 ≤ (IntKind.wrap .u64 (Int.tmod a1 64)) then
    some (mk0 ((ibits BinOp.and .u64 (ishr .u64 (List.getD a0 (Int.toNat (IntKind.wrap .i64 (Int.tdiv a1 64))) 0) (IntKind.wrap .u64 (Int.tmod a1 64))) 1) == 1))
   else
    none
  else
   none
 else
  none
def Fbx.m (n : Nat) (t : (LI × Int)) : Option Bool := Fbx.g (fun a0 => a0) n t.1 t.2
def Fbx.pat : List AV → Blks → Option (LI × Int)
 | [(.ints .u64 4 a0), (.int .i64 a1)], [] => some (a0, a1)
 | _, _ => none
def Fbx.shape (t : (LI × Int)) : List AV × Blks := ([(.ints .u64 4 t.1), (.int .i64 t.2)], [])
def Fbx.res : Bool → AV × Blks
 | u => (Prod.mk (.bool u) [])
def Fbx.resK {R : Type} (u : Bool) (K : AV → Blks → Option R) : Option R := K (Fbx.res u).1 (Fbx.res u).2
def Fbx.c (n : Nat) : Abs.Callee := .mk' [] [none, none] Fbx.pat (Fbx.m n) Fbx.resK
end
end
section
theorem Fbx.gmap {α β : Type} (h : β → α) (mk0 : Bool → β) (n : Nat) (a0 : LI) (a1 : Int) : Fbx.g (fun a0 => (h (mk0 a0))) n a0 a1 = (Fbx.g mk0 n a0 a1).map h := by
  unfold Fbx.g
  exact (ite_map (ite_map (ite_map rfl rfl) rfl) rfl)
theorem Fbx.run (n : Nat) (a0 : LI) (a1 : Int) : runF (Fbx.C n) (Fbx.A n) n Tryd.f128 [(.ints .u64 4 a0), (.int .i64 a1)] [] (fun v o => some (v, o)) = Fbx.g (fun a0 => ((Prod.mk (.bool a0) []) : AV × Blks)) n a0 a1 := by kernel_rfl
theorem Fbx.call (hmix : Tryd.prog.follows .mixedOrders = true) (n : Nat) (t : (LI × Int)) (u) (h : Fbx.m n t = some u) : FnC Tryd.prog abiG 128 (Fbx.shape t).1 (Fbx.shape t).2 (Fbx.res u).1 (Fbx.res u).2 :=
  fnC1 (C := Fbx.C n) (A := Fbx.A n) (fn := Tryd.f128) rfl .nil hmix Tryd.func128 (by kernel_rfl) (lp := []) (by kernel_rfl) .nil
  (nj rfl) (by decide) rfl rfl (by show 2 ≤ Tryd.f128.ntmps; decide) (Fbx.run n t.1 t.2) (Fbx.gmap Fbx.res (fun a0 => a0) n t.1 t.2) h
theorem Fbx.s (hmix : Tryd.prog.follows .mixedOrders = true) (n : Nat) : CalleeS Tryd.prog abiG 128 (Fbx.c n) :=
  .mk1 (res := Fbx.res) (shape := Fbx.shape) (fun R u K => rfl) (fun _ _ _ h => by unfold Fbx.pat at h; split at h <;> cases h; rfl) (fun t u h => Fbx.call hmix n t u h) Tryd.func128 (by decide) (by kernel_rfl)
end
section
noncomputable section
def Faj.m (n : Nat) (t : (Int × (Int × Int))) : Option (Int × Int) := xAdd64 t
def Faj.pat : List AV → Blks → Option (Int × (Int × Int))
 | [(.int .u64 a0), (.int .u64 a1), (.int .u64 a2)], [] => some (a0, a1, a2)
 | _, _ => none
def Faj.shape (t : (Int × (Int × Int))) : List AV × Blks := ([(.int .u64 t.1), (.int .u64 t.2.1), (.int .u64 t.2.2)], [])
def Faj.res : (Int × Int) → AV × Blks
 | u => (Prod.mk (.tup [(.int .u64 u.1), (.int .u64 u.2)]) [])
def Faj.resK {R : Type} (u : (Int × Int)) (K : AV → Blks → Option R) : Option R := K (Faj.res u).1 (Faj.res u).2
def Faj.c (n : Nat) : Abs.Callee := .mk' [] [none, none, none] Faj.pat (Faj.m n) Faj.resK
end
end
section
noncomputable section
noncomputable def Fbi.C (n : Nat) : Ctx := ⟨Tryd.prog, abiG, lookC [(103, Faj.c n)], fun _ => false⟩
def Fbi.live : NL := fun k => match k with
 | 4 => ([9, 2, 3, 7, 6, 4], [6, 7, 4])
 | _ => ([], [])
def Fbi.l4_0.r {α : Type} (mk0 : Int → LI → LI → α) (n : Nat) (rc : Int → Int → LI → LI → LI → LI → Option α)  (x0 : Int) (x1 : Int) (x2 : LI) (x3 : LI) (x4 : LI) (x5 : LI) : Option α :=
  if (decide (x0 < 4)) = true then
   if 0 ≤ x0 then
    if x0 < 4 then
     if 0 ≤ x0 then
      if x0 < 4 then
       bindO (Faj.m n (Prod.mk (List.getD x2 (Int.toNat x0) 0) (Prod.mk (List.getD x3 (Int.toNat x0) 0) x1))) fun r14 =>
        if 0 ≤ x0 then
         if x0 < 4 then
          rc (IntKind.wrap .i64 (x0 + 1)) (Prod.snd r14) x2 x3 (List.set x4 (Int.toNat x0) (Prod.fst r14)) x5
         else
          none
        else
         none
      else
       none
     else
      none
    else
     none
   else
    none
  else
   some (mk0 x1 x4 x5)
def Fbi.l4_0.g {α : Type} (mk0 : Int → LI → LI → α) (n : Nat) : Nat → Int → Int → LI → LI → LI → LI → Option α
 | 0, _, _, _, _, _, _ => none
 | m + 1, x0, x1, x2, x3, x4, x5 => Fbi.l4_0.r mk0 n (fun y0 y1 y2 y3 y4 y5 => Fbi.l4_0.g mk0 n m y0 y1 y2 y3 y4 y5)  x0 x1 x2 x3 x4 x5
def Fbi.l4_0.m (n m : Nat) (t : (Int × (Int × (LI × (LI × (LI × LI)))))) : Option (Int × (LI × LI)) := Fbi.l4_0.g (fun a0 a1 a2 => (a0, a1, a2)) n m t.1 t.2.1 t.2.2.1 t.2.2.2.1 t.2.2.2.2.1 t.2.2.2.2.2
def Fbi.l4_0.pat : St → Option (Int × (Int × (LI × (LI × (LI × LI)))))
 | (St.mk [(.int .i64 x0), (.ptr 0 []), (.ptr 1 []), (.int .u64 x1), (.ptr 2 []), (.ptr 3 [])] [(some (.var (.ints .u64 4 x2))), (some (.var (.ints .u64 4 x3))), (some (.var (.ints .u64 4 x4))), (some (.var (.ints .u64 4 x5)))]) => some (x0, x1, x2, x3, x4, x5)
 | _ => none
def Fbi.l4_0.shape (t : (Int × (Int × (LI × (LI × (LI × LI)))))) : St := (St.mk [(.int .i64 t.1), (.ptr 0 []), (.ptr 1 []), (.int .u64 t.2.1), (.ptr 2 []), (.ptr 3 [])] [(some (.var (.ints .u64 4 t.2.2.1))), (some (.var (.ints .u64 4 t.2.2.2.1))), (some (.var (.ints .u64 4 t.2.2.2.2.1))), (some (.var (.ints .u64 4 t.2.2.2.2.2)))])
def Fbi.l4_0.res : (Int × (LI × LI)) → Ex × St
 | u => (Prod.mk (.exit 0) (St.mk [(.ptr 0 []), (.int .u64 u.1), (.ptr 1 [])] [(some (.var (.ints .u64 4 u.2.1))), (some (.var (.ints .u64 4 u.2.2)))]))
def Fbi.l4_0.resK {R : Type} (u : (Int × (LI × LI))) (K : Ex → St → Option R) : Option R := K (Fbi.l4_0.res u).1 (Fbi.l4_0.res u).2
noncomputable def Fbi.A (n : Nat) : Ann := ⟨Tryd.f85.ntmps, 0, Fbi.live, [], [none, none], fun k => match k with
 | 4 => some (.mk' Fbi.l4_0.pat (Fbi.l4_0.m n n) Fbi.l4_0.resK)
 | _ => none, noNL, lookJ []⟩
noncomputable def Fbi.b0 : Code := (loopsIn (Tryd.f85.body.getD .skip)).getD 0 .skip
def Fbi.g {α : Type} (mk0 : LI → Bool → α) (n : Nat) (a0 : LI) (a1 : LI) : Option α :=
 bindO (Fbi.l4_0.m n n (0, 0, a0, a1, [0, 0, 0, 0], [0, 0, 0, 0])) fun r2 =>
  some (mk0 (Prod.fst r2.2) ((Prod.fst r2) != 0))
def Fbi.m (n : Nat) (t : (LI × LI)) : Option (LI × Bool) := Fbi.g (fun a0 a1 => (a0, a1)) n t.1 t.2
def Fbi.pat : List AV → Blks → Option (LI × LI)
 | [(.ints .u64 4 a0), (.ints .u64 4 a1)], [] => some (a0, a1)
 | _, _ => none
def Fbi.shape (t : (LI × LI)) : List AV × Blks := ([(.ints .u64 4 t.1), (.ints .u64 4 t.2)], [])
def Fbi.res : (LI × Bool) → AV × Blks
 | u => (Prod.mk (.tup [(.ints .u64 4 u.1), (.bool u.2)]) [])
def Fbi.resK {R : Type} (u : (LI × Bool)) (K : AV → Blks → Option R) : Option R := K (Fbi.res u).1 (Fbi.res u).2
def Fbi.c (n : Nat) : Abs.Callee := .mk' [] [none, none] Fbi.pat (Fbi.m n) Fbi.resK
end
end
section
theorem Faj.ok (hmix : Tryd.prog.follows .mixedOrders = true) (n : Nat) (t) (u) (h : Faj.m n t = some u) : FnOK Tryd.prog abiG 103 (Faj.shape t).1 (Faj.shape t).2 (Faj.res u).1 (Faj.res u).2 :=
  xAdd64_ok Tryd.func103 (by kernel_rfl) (by kernel_rfl) (by kernel_rfl) (show Go.Extern.find Tryd.f103 = some add64Entry by kernel_rfl) t u h
theorem Faj.s (hmix : Tryd.prog.follows .mixedOrders = true) (n : Nat) : CalleeS Tryd.prog abiG 103 (Faj.c n) :=
  CalleeS.of (res := Faj.res) (shape := Faj.shape) (fun R u K => rfl) (fun args lent t h => by
    unfold Faj.pat at h
    split at h
    · cases h; rfl
    · cases h) fun t u h => Faj.ok hmix n t u h
end
section
noncomputable abbrev Fbi.R0 (n : Nat) := roundOf (Fbi.C n) (Fbi.A n) n Fbi.b0
theorem Fbi.l4_0.rmap {α β : Type} (h : β → α) (mk0 : Int → LI → LI → β) (n : Nat) (f : Int → Int → LI → LI → LI → LI → Option β)  (x0 : Int) (x1 : Int) (x2 : LI) (x3 : LI) (x4 : LI) (x5 : LI) : Fbi.l4_0.r (fun a0 a1 a2 => (h (mk0 a0 a1 a2))) n (fun y0 y1 y2 y3 y4 y5 => (f y0 y1 y2 y3 y4 y5).map h) x0 x1 x2 x3 x4 x5 = (Fbi.l4_0.r mk0 n f x0 x1 x2 x3 x4 x5).map h := by
  unfold Fbi.l4_0.r
  exact (ite_map (ite_map (ite_map (ite_map (ite_map (bindO_map fun r14 => (ite_map (ite_map rfl rfl) rfl)) rfl) rfl) rfl) rfl) rfl)
theorem Fbi.l4_0.gmap {α β : Type} (h : β → α) (mk0 : Int → LI → LI → β) (n : Nat) : ∀ (m : Nat) (x0 : Int) (x1 : Int) (x2 : LI) (x3 : LI) (x4 : LI) (x5 : LI), Fbi.l4_0.g (fun a0 a1 a2 => (h (mk0 a0 a1 a2))) n m x0 x1 x2 x3 x4 x5 = (Fbi.l4_0.g mk0 n m x0 x1 x2 x3 x4 x5).map h
  | 0, _, _, _, _, _, _ => rfl
  | m + 1, x0, x1, x2, x3, x4, x5 => by
    unfold Fbi.l4_0.g
    rw [← Fbi.l4_0.rmap]
    congr
    · funext y0 y1 y2 y3 y4 y5; exact Fbi.l4_0.gmap h mk0 n m y0 y1 y2 y3 y4 y5
theorem Fbi.l4_0.pat_shape : ∀ st t, Fbi.l4_0.pat st = some t → st = Fbi.l4_0.shape t := fun _ _ h => by unfold Fbi.l4_0.pat at h; split at h <;> cases h; rfl
def Fbi.l4_0.k0 : Int → LI → LI → Ex × St := (fun a0 a1 a2 => ((Prod.mk (.exit 0) (St.mk [(.ptr 0 []), (.int .u64 a0), (.ptr 1 [])] [(some (.var (.ints .u64 4 a1))), (some (.var (.ints .u64 4 a2)))])) : Ex × St))
theorem Fbi.l4_0.round (n : Nat) (rc : St → Option (Ex × St)) (x0 : Int) (x1 : Int) (x2 : LI) (x3 : LI) (x4 : LI) (x5 : LI) : Fbi.R0 n rc ((St.mk [(.int .i64 x0), (.ptr 0 []), (.ptr 1 []), (.int .u64 x1), (.ptr 2 []), (.ptr 3 [])] [(some (.var (.ints .u64 4 x2))), (some (.var (.ints .u64 4 x3))), (some (.var (.ints .u64 4 x4))), (some (.var (.ints .u64 4 x5)))])) = Fbi.l4_0.r Fbi.l4_0.k0 n (fun y0 y1 y2 y3 y4 y5 => rc ((St.mk [(.int .i64 y0), (.ptr 0 []), (.ptr 1 []), (.int .u64 y1), (.ptr 2 []), (.ptr 3 [])] [(some (.var (.ints .u64 4 y2))), (some (.var (.ints .u64 4 y3))), (some (.var (.ints .u64 4 y4))), (some (.var (.ints .u64 4 y5)))]))) x0 x1 x2 x3 x4 x5 := by kernel_rfl
theorem Fbi.l4_0.loop' (n : Nat) : ∀ (m : Nat) (t : (Int × (Int × (LI × (LI × (LI × LI)))))), loopOf (Fbi.R0 n) m (Fbi.l4_0.shape t) = Fbi.l4_0.g Fbi.l4_0.k0 n m t.1 t.2.1 t.2.2.1 t.2.2.2.1 t.2.2.2.2.1 t.2.2.2.2.2 :=
  loop_of_round (shape := Fbi.l4_0.shape) (body := Fbi.R0 n) (g := fun m t => Fbi.l4_0.g Fbi.l4_0.k0 n m t.1 t.2.1 t.2.2.1 t.2.2.2.1 t.2.2.2.2.1 t.2.2.2.2.2) (fun t => rfl)
    fun m t ih => (Fbi.l4_0.round n (loopOf (Fbi.R0 n) m) t.1 t.2.1 t.2.2.1 t.2.2.2.1 t.2.2.2.2.1 t.2.2.2.2.2).trans (congrFun (congrFun (congrFun (congrFun (congrFun (congrFun (congrArg (Fbi.l4_0.r Fbi.l4_0.k0 n) (funext fun y0 => funext fun y1 => funext fun y2 => funext fun y3 => funext fun y4 => funext fun y5 => ih (y0, y1, y2, y3, y4, y5))) t.1) t.2.1) t.2.2.1) t.2.2.2.1) t.2.2.2.2.1) t.2.2.2.2.2)
theorem Fbi.l4_0.loop (n m : Nat) (t : (Int × (Int × (LI × (LI × (LI × LI)))))) : loopOf (Fbi.R0 n) m (Fbi.l4_0.shape t) = (Fbi.l4_0.m n m t).map Fbi.l4_0.res :=
  (Fbi.l4_0.loop' n m t).trans (Fbi.l4_0.gmap Fbi.l4_0.res (fun a0 a1 a2 => (a0, a1, a2)) n m t.1 t.2.1 t.2.2.1 t.2.2.2.1 t.2.2.2.2.1 t.2.2.2.2.2)
theorem Fbi.gmap {α β : Type} (h : β → α) (mk0 : LI → Bool → β) (n : Nat) (a0 : LI) (a1 : LI) : Fbi.g (fun a0 a1 => (h (mk0 a0 a1))) n a0 a1 = (Fbi.g mk0 n a0 a1).map h := by
  unfold Fbi.g
  exact (bindO_map fun r2 => rfl)
theorem Fbi.run (n : Nat) (a0 : LI) (a1 : LI) : runF (Fbi.C n) (Fbi.A n) n Tryd.f85 [(.ints .u64 4 a0), (.ints .u64 4 a1)] [] (fun v o => some (v, o)) = Fbi.g (fun a0 a1 => ((Prod.mk (.tup [(.ints .u64 4 a0), (.bool a1)]) []) : AV × Blks)) n a0 a1 := by kernel_rfl
theorem Fbi.call (hmix : Tryd.prog.follows .mixedOrders = true) (n : Nat) (t : (LI × LI)) (u) (h : Fbi.m n t = some u) : FnC Tryd.prog abiG 85 (Fbi.shape t).1 (Fbi.shape t).2 (Fbi.res u).1 (Fbi.res u).2 :=
  fnC1 (C := Fbi.C n) (A := Fbi.A n) (fn := Tryd.f85) rfl (.cons (Faj.s hmix n) .nil) hmix Tryd.func85 (by kernel_rfl) (lp := [Fbi.b0]) (by kernel_rfl) (.cons (show (Fbi.A n).loop (key Fbi.b0) = some (.mk' Fbi.l4_0.pat (Fbi.l4_0.m n n) Fbi.l4_0.resK) by kernel_rfl) (LoopS.of (res := Fbi.l4_0.res) (fun R u K => rfl) Fbi.l4_0.pat_shape fun t => Fbi.l4_0.loop n n t)
  .nil)
  (nj rfl) (by decide) rfl rfl (by show 2 ≤ Tryd.f85.ntmps; decide) (Fbi.run n t.1 t.2) (Fbi.gmap Fbi.res (fun a0 a1 => (a0, a1)) n t.1 t.2) h
theorem Fbi.s (hmix : Tryd.prog.follows .mixedOrders = true) (n : Nat) : CalleeS Tryd.prog abiG 85 (Fbi.c n) :=
  .mk1 (res := Fbi.res) (shape := Fbi.shape) (fun R u K => rfl) (fun _ _ _ h => by unfold Fbi.pat at h; split at h <;> cases h; rfl) (fun t u h => Fbi.call hmix n t u h) Tryd.func85 (by decide) (by kernel_rfl)
end
section
noncomputable section
noncomputable def Fby.C (n : Nat) : Ctx := ⟨Tryd.prog, abiG, lookC [], fun _ => false⟩
def Fby.live : NL := fun k => match k with
 | 4 => ([8, 2, 3, 7, 6, 4], [6, 7, 4])
 | _ => ([], [])
def Fby.l4_0.r {α : Type} (mk0 : Int → LI → LI → α) (n : Nat) (rc : Int → Int → LI → LI → LI → LI → Option α)  (x0 : Int) (x1 : Int) (x2 : LI) (x3 : LI) (x4 : LI) (x5 : LI) : Option α :=
  if (decide (x0 < 4)) = true then
   if 0 ≤ x0 then
    if x0 < 4 then
     if 0 ≤ x0 then
      if x0 < 4 then
       if 0 ≤ x0 then
        if x0 < 4 then
         if (decide ((IntKind.wrap .u64 ((List.getD x2 (Int.toNat x0) 0) + (List.getD x3 (Int.toNat x0) 0))) < (List.getD x2 (Int.toNat x0) 0))) = true then
          if (decide ((IntKind.wrap .u64 ((IntKind.wrap .u64 ((List.getD x2 (Int.toNat x0) 0) + (List.getD x3 (Int.toNat x0) 0))) + x1)) < (IntKind.wrap .u64 ((List.getD x2 (Int.toNat x0) 0) + (List.getD x3 (Int.toNat x0) 0))))) = true then
           if 0 ≤ x0 then
            if x0 < 4 then
             rc (IntKind.wrap .i64 (x0 + 1)) 1 x2 x3 (List.set x4 (Int.toNat x0) (IntKind.wrap .u64 ((IntKind.wrap .u64 ((List.getD x2 (Int.toNat x0) 0) + (List.getD x3 (Int.toNat x0) 0))) + x1))) x5
            else
             none
           else
            none
          else
           if 0 ≤ x0 then
            if x0 < 4 then
             rc (IntKind.wrap .i64 (x0 + 1)) 1 x2 x3 (List.set x4 (Int.toNat x0) (IntKind.wrap .u64 ((IntKind.wrap .u64 ((List.getD x2 (Int.toNat x0) 0) + (List.getD x3 (Int.toNat x0) 0))) + x1))) x5
            else
             none
           else
            none
         else
          if (decide ((IntKind.wrap .u64 ((IntKind.wrap .u64 ((List.getD x2 (Int.toNat x0) 0) + (List.getD x3 (Int.toNat x0) 0))) + x1)) < (IntKind.wrap .u64 ((List.getD x2 (Int.toNat x0) 0) + (List.getD x3 (Int.toNat x0) 0))))) = true then
           if 0 ≤ x0 then
            if x0 < 4 then
             rc (IntKind.wrap .i64 (x0 + 1)) 1 x2 x3 (List.set x4 (Int.toNat x0) (IntKind.wrap .u64 ((IntKind.wrap .u64 ((List.getD x2 (Int.toNat x0) 0) + (List.getD x3 (Int.toNat x0) 0))) + x1))) x5
            else
             none
           else
            none
          else
           if 0 ≤ x0 then
            if x0 < 4 then
             rc (IntKind.wrap .i64 (x0 + 1)) 0 x2 x3 (List.set x4 (Int.toNat x0) (IntKind.wrap .u64 ((IntKind.wrap .u64 ((List.getD x2 (Int.toNat x0) 0) + (List.getD x3 (Int.toNat x0) 0))) + x1))) x5
            else
             none
           else
            none
        else
         none
       else
        none
      else
       none
     else
      none
    else
     none
   else
    none
  else
   some (mk0 x1 x4 x5)
def Fby.l4_0.g {α : Type} (mk0 : Int → LI → LI → α) (n : Nat) : Nat → Int → Int → LI → LI → LI → LI → Option α
 | 0, _, _, _, _, _, _ => none
 | m + 1, x0, x1, x2, x3, x4, x5 => Fby.l4_0.r mk0 n (fun y0 y1 y2 y3 y4 y5 => Fby.l4_0.g mk0 n m y0 y1 y2 y3 y4 y5)  x0 x1 x2 x3 x4 x5
def Fby.l4_0.m (n m : Nat) (t : (Int × (Int × (LI × (LI × (LI × LI)))))) : Option (Int × (LI × LI)) := Fby.l4_0.g (fun a0 a1 a2 => (a0, a1, a2)) n m t.1 t.2.1 t.2.2.1 t.2.2.2.1 t.2.2.2.2.1 t.2.2.2.2.2
def Fby.l4_0.pat : St → Option (Int × (Int × (LI × (LI × (LI × LI)))))
 | (St.mk [(.int .i64 x0), (.ptr 0 []), (.ptr 1 []), (.int .u64 x1), (.ptr 2 []), (.ptr 3 [])] [(some (.var (.ints .u64 4 x2))), (some (.var (.ints .u64 4 x3))), (some (.var (.ints .u64 4 x4))), (some (.var (.ints .u64 4 x5)))]) => some (x0, x1, x2, x3, x4, x5)
 | _ => none
def Fby.l4_0.shape (t : (Int × (Int × (LI × (LI × (LI × LI)))))) : St := (St.mk [(.int .i64 t.1), (.ptr 0 []), (.ptr 1 []), (.int .u64 t.2.1), (.ptr 2 []), (.ptr 3 [])] [(some (.var (.ints .u64 4 t.2.2.1))), (some (.var (.ints .u64 4 t.2.2.2.1))), (some (.var (.ints .u64 4 t.2.2.2.2.1))), (some (.var (.ints .u64 4 t.2.2.2.2.2)))])
def Fby.l4_0.res : (Int × (LI × LI)) → Ex × St
 | u => (Prod.mk (.exit 0) (St.mk [(.ptr 0 []), (.int .u64 u.1), (.ptr 1 [])] [(some (.var (.ints .u64 4 u.2.1))), (some (.var (.ints .u64 4 u.2.2)))]))
def Fby.l4_0.resK {R : Type} (u : (Int × (LI × LI))) (K : Ex → St → Option R) : Option R := K (Fby.l4_0.res u).1 (Fby.l4_0.res u).2
noncomputable def Fby.A (n : Nat) : Ann := ⟨Tryd.f87.ntmps, 0, Fby.live, [], [none, none], fun k => match k with
 | 4 => some (.mk' Fby.l4_0.pat (Fby.l4_0.m n n) Fby.l4_0.resK)
 | _ => none, noNL, lookJ []⟩
noncomputable def Fby.b0 : Code := (loopsIn (Tryd.f87.body.getD .skip)).getD 0 .skip
def Fby.g {α : Type} (mk0 : LI → Bool → α) (n : Nat) (a0 : LI) (a1 : LI) : Option α :=
 bindO (Fby.l4_0.m n n (0, 0, a0, a1, [0, 0, 0, 0], [0, 0, 0, 0])) fun r2 =>
  some (mk0 (Prod.fst r2.2) ((Prod.fst r2) == 1))
def Fby.m (n : Nat) (t : (LI × LI)) : Option (LI × Bool) := Fby.g (fun a0 a1 => (a0, a1)) n t.1 t.2
def Fby.pat : List AV → Blks → Option (LI × LI)
 | [(.ints .u64 4 a0), (.ints .u64 4 a1)], [] => some (a0, a1)
 | _, _ => none
def Fby.shape (t : (LI × LI)) : List AV × Blks := ([(.ints .u64 4 t.1), (.ints .u64 4 t.2)], [])
def Fby.res : (LI × Bool) → AV × Blks
 | u => (Prod.mk (.tup [(.ints .u64 4 u.1), (.bool u.2)]) [])
def Fby.resK {R : Type} (u : (LI × Bool)) (K : AV → Blks → Option R) : Option R := K (Fby.res u).1 (Fby.res u).2
def Fby.c (n : Nat) : Abs.Callee := .mk' [] [none, none] Fby.pat (Fby.m n) Fby.resK
end
end
section
noncomputable abbrev Fby.R0 (n : Nat) := roundOf (Fby.C n) (Fby.A n) n Fby.b0
theorem Fby.l4_0.rmap {α β : Type} (h : β → α) (mk0 : Int → LI → LI → β) (n : Nat) (f : Int → Int → LI → LI → LI → LI → Option β)  (x0 : Int) (x1 : Int) (x2 : LI) (x3 : LI) (x4 : LI) (x5 : LI) : Fby.l4_0.r (fun a0 a1 a2 => (h (mk0 a0 a1 a2))) n (fun y0 y1 y2 y3 y4 y5 => (f y0 y1 y2 y3 y4 y5).map h) x0 x1 x2 x3 x4 x5 = (Fby.l4_0.r mk0 n f x0 x1 x2 x3 x4 x5).map h := by
  unfold Fby.l4_0.r
  exact (ite_map (ite_map (ite_map (ite_map (ite_map (ite_map (ite_map (ite_map (ite_map (ite_map (ite_map rfl rfl) rfl) (ite_map (ite_map rfl rfl) rfl)) (ite_map (ite_map (ite_map rfl rfl) rfl) (ite_map (ite_map rfl rfl) rfl))) rfl) rfl) rfl) rfl) rfl) rfl) rfl)
theorem Fby.l4_0.gmap {α β : Type} (h : β → α) (mk0 : Int → LI → LI → β) (n : Nat) : ∀ (m : Nat) (x0 : Int) (x1 : Int) (x2 : LI) (x3 : LI) (x4 : LI) (x5 : LI), Fby.l4_0.g (fun a0 a1 a2 => (h (mk0 a0 a1 a2))) n m x0 x1 x2 x3 x4 x5 = (Fby.l4_0.g mk0 n m x0 x1 x2 x3 x4 x5).map h
  | 0, _, _, _, _, _, _ => rfl
  | m + 1, x0, x1, x2, x3, x4, x5 => by
    unfold Fby.l4_0.g
    rw [← Fby.l4_0.rmap]
    congr
    · funext y0 y1 y2 y3 y4 y5; exact Fby.l4_0.gmap h mk0 n m y0 y1 y2 y3 y4 y5
theorem Fby.l4_0.pat_shape : ∀ st t, Fby.l4_0.pat st = some t → st = Fby.l4_0.shape t := fun _ _ h => by unfold Fby.l4_0.pat at h; split at h <;> cases h; rfl
def Fby.l4_0.k0 : Int → LI → LI → Ex × St := (fun a0 a1 a2 => ((Prod.mk (.exit 0) (St.mk [(.ptr 0 []), (.int .u64 a0), (.ptr 1 [])] [(some (.var (.ints .u64 4 a1))), (some (.var (.ints .u64 4 a2)))])) : Ex × St))
theorem Fby.l4_0.round (n : Nat) (rc : St → Option (Ex × St)) (x0 : Int) (x1 : Int) (x2 : LI) (x3 : LI) (x4 : LI) (x5 : LI) : Fby.R0 n rc ((St.mk [(.int .i64 x0), (.ptr 0 []), (.ptr 1 []), (.int .u64 x1), (.ptr 2 []), (.ptr 3 [])] [(some (.var (.ints .u64 4 x2))), (some (.var (.ints .u64 4 x3))), (some (.var (.ints .u64 4 x4))), (some (.var (.ints .u64 4 x5)))])) = Fby.l4_0.r Fby.l4_0.k0 n (fun y0 y1 y2 y3 y4 y5 => rc ((St.mk [(.int .i64 y0), (.ptr 0 []), (.ptr 1 []), (.int .u64 y1), (.ptr 2 []), (.ptr 3 [])] [(some (.var (.ints .u64 4 y2))), (some (.var (.ints .u64 4 y3))), (some (.var (.ints .u64 4 y4))), (some (.var (.ints .u64 4 y5)))]))) x0 x1 x2 x3 x4 x5 := by kernel_rfl
theorem Fby.l4_0.loop' (n : Nat) : ∀ (m : Nat) (t : (Int × (Int × (LI × (LI × (LI × LI)))))), loopOf (Fby.R0 n) m (Fby.l4_0.shape t) = Fby.l4_0.g Fby.l4_0.k0 n m t.1 t.2.1 t.2.2.1 t.2.2.2.1 t.2.2.2.2.1 t.2.2.2.2.2 :=
  loop_of_round (shape := Fby.l4_0.shape) (body := Fby.R0 n) (g := fun m t => Fby.l4_0.g Fby.l4_0.k0 n m t.1 t.2.1 t.2.2.1 t.2.2.2.1 t.2.2.2.2.1 t.2.2.2.2.2) (fun t => rfl)
    fun m t ih => (Fby.l4_0.round n (loopOf (Fby.R0 n) m) t.1 t.2.1 t.2.2.1 t.2.2.2.1 t.2.2.2.2.1 t.2.2.2.2.2).trans (congrFun (congrFun (congrFun (congrFun (congrFun (congrFun (congrArg (Fby.l4_0.r Fby.l4_0.k0 n) (funext fun y0 => funext fun y1 => funext fun y2 => funext fun y3 => funext fun y4 => funext fun y5 => ih (y0, y1, y2, y3, y4, y5))) t.1) t.2.1) t.2.2.1) t.2.2.2.1) t.2.2.2.2.1) t.2.2.2.2.2)
theorem Fby.l4_0.loop (n m : Nat) (t : (Int × (Int × (LI × (LI × (LI × LI)))))) : loopOf (Fby.R0 n) m (Fby.l4_0.shape t) = (Fby.l4_0.m n m t).map Fby.l4_0.res :=
  (Fby.l4_0.loop' n m t).trans (Fby.l4_0.gmap Fby.l4_0.res (fun a0 a1 a2 => (a0, a1, a2)) n m t.1 t.2.1 t.2.2.1 t.2.2.2.1 t.2.2.2.2.1 t.2.2.2.2.2)
theorem Fby.gmap {α β : Type} (h : β → α) (mk0 : LI → Bool → β) (n : Nat) (a0 : LI) (a1 : LI) : Fby.g (fun a0 a1 => (h (mk0 a0 a1))) n a0 a1 = (Fby.g mk0 n a0 a1).map h := by
  unfold Fby.g
  exact (bindO_map fun r2 => rfl)
theorem Fby.run (n : Nat) (a0 : LI) (a1 : LI) : runF (Fby.C n) (Fby.A n) n Tryd.f87 [(.ints .u64 4 a0), (.ints .u64 4 a1)] [] (fun v o => some (v, o)) = Fby.g (fun a0 a1 => ((Prod.mk (.tup [(.ints .u64 4 a0), (.bool a1)]) []) : AV × Blks)) n a0 a1 := by kernel_rfl
theorem Fby.call (hmix : Tryd.prog.follows .mixedOrders = true) (n : Nat) (t : (LI × LI)) (u) (h : Fby.m n t = some u) : FnC Tryd.prog abiG 87 (Fby.shape t).1 (Fby.shape t).2 (Fby.res u).1 (Fby.res u).2 :=
  fnC1 (C := Fby.C n) (A := Fby.A n) (fn := Tryd.f87) rfl .nil hmix Tryd.func87 (by kernel_rfl) (lp := [Fby.b0]) (by kernel_rfl) (.cons (show (Fby.A n).loop (key Fby.b0) = some (.mk' Fby.l4_0.pat (Fby.l4_0.m n n) Fby.l4_0.resK) by kernel_rfl) (LoopS.of (res := Fby.l4_0.res) (fun R u K => rfl) Fby.l4_0.pat_shape fun t => Fby.l4_0.loop n n t)
  .nil)
  (nj rfl) (by decide) rfl rfl (by show 2 ≤ Tryd.f87.ntmps; decide) (Fby.run n t.1 t.2) (Fby.gmap Fby.res (fun a0 a1 => (a0, a1)) n t.1 t.2) h
theorem Fby.s (hmix : Tryd.prog.follows .mixedOrders = true) (n : Nat) : CalleeS Tryd.prog abiG 87 (Fby.c n) :=
  .mk1 (res := Fby.res) (shape := Fby.shape) (fun R u K => rfl) (fun _ _ _ h => by unfold Fby.pat at h; split at h <;> cases h; rfl) (fun t u h => Fby.call hmix n t u h) Tryd.func87 (by decide) (by kernel_rfl)
end
section
noncomputable section
noncomputable def Fbz.C (n : Nat) : Ctx := ⟨Tryd.prog, abiG, lookC [], fun _ => false⟩
def Fbz.live : NL := fun k => match k with
 | 2 => ([5, 2, 3], [4])
 | _ => ([], [])
def Fbz.l2_0.r {α : Type} (mk0 : Int → α) (mk1 : α) (n : Nat) (rc : Int → LI → LI → Option α)  (x0 : Int) (x1 : LI) (x2 : LI) : Option α :=
  if (decide (x0 ≥ 0)) = true then
   if 0 ≤ x0 then
    if x0 < 4 then
     if 0 ≤ x0 then
      if x0 < 4 then
       if (decide ((List.getD x1 (Int.toNat x0) 0) < (List.getD x2 (Int.toNat x0) 0))) = true then
        some (mk0 (-1))
       else
        if 0 ≤ x0 then
         if x0 < 4 then
          if 0 ≤ x0 then
           if x0 < 4 then
            if (decide ((List.getD x1 (Int.toNat x0) 0) > (List.getD x2 (Int.toNat x0) 0))) = true then
             some (mk0 1)
            else
             rc (IntKind.wrap .i64 (x0 - 1)) x1 x2
           else
            none
          else
           none
         else
          none
        else
         none
      else
       none
     else
      none
    else
     none
   else
    none
  else
   some (mk1)
def Fbz.l2_0.g {α : Type} (mk0 : Int → α) (mk1 : α) (n : Nat) : Nat → Int → LI → LI → Option α
 | 0, _, _, _ => none
 | m + 1, x0, x1, x2 => Fbz.l2_0.r mk0 mk1 n (fun y0 y1 y2 => Fbz.l2_0.g mk0 mk1 n m y0 y1 y2)  x0 x1 x2
def Fbz.l2_0.m (n m : Nat) (t : (Int × (LI × LI))) : Option (Int ⊕ Unit) := Fbz.l2_0.g (fun a0 => (.inl a0)) (.inr ()) n m t.1 t.2.1 t.2.2
def Fbz.l2_0.pat : St → Option (Int × (LI × LI))
 | (St.mk [(.int .i64 x0), (.ptr 0 []), (.ptr 1 [])] [(some (.var (.ints .u64 4 x1))), (some (.var (.ints .u64 4 x2)))]) => some (x0, x1, x2)
 | _ => none
def Fbz.l2_0.shape (t : (Int × (LI × LI))) : St := (St.mk [(.int .i64 t.1), (.ptr 0 []), (.ptr 1 [])] [(some (.var (.ints .u64 4 t.2.1))), (some (.var (.ints .u64 4 t.2.2)))])
def Fbz.l2_0.res : (Int ⊕ Unit) → Ex × St
 | (.inl u) => (Prod.mk .ret (St.mk [(.int .i64 u)] []))
 | (.inr u) => (Prod.mk (.exit 0) (St.mk [.any] []))
def Fbz.l2_0.resK {R : Type} (u : (Int ⊕ Unit)) (K : Ex → St → Option R) : Option R := match u with
 | (.inl u) => (fun p : Ex × St => K p.1 p.2) (Prod.mk .ret (St.mk [(.int .i64 u)] []))
 | (.inr u) => (fun p : Ex × St => K p.1 p.2) (Prod.mk (.exit 0) (St.mk [.any] []))
noncomputable def Fbz.A (n : Nat) : Ann := ⟨Tryd.f49.ntmps, 0, Fbz.live, [], [none], fun k => match k with
 | 2 => some (.mk' Fbz.l2_0.pat (Fbz.l2_0.m n n) Fbz.l2_0.resK)
 | _ => none, noNL, lookJ []⟩
noncomputable def Fbz.b0 : Code := (loopsIn (Tryd.f49.body.getD .skip)).getD 0 .skip
def Fbz.g {α : Type} (mk0 : Int → α) (n : Nat) (a0 : LI) (a1 : LI) : Option α :=
 bindO (Fbz.l2_0.m n n (3, a0, a1)) fun r2 => match r2 with
  | (.inl r2) =>
   some (mk0 r2)
  | (.inr r2) =>
   some (mk0 0)
def Fbz.m (n : Nat) (t : (LI × LI)) : Option Int := Fbz.g (fun a0 => a0) n t.1 t.2
def Fbz.pat : List AV → Blks → Option (LI × LI)
 | [(.ints .u64 4 a0), (.ints .u64 4 a1)], [] => some (a0, a1)
 | _, _ => none
def Fbz.shape (t : (LI × LI)) : List AV × Blks := ([(.ints .u64 4 t.1), (.ints .u64 4 t.2)], [])
def Fbz.res : Int → AV × Blks
 | u => (Prod.mk (.int .i64 u) [])
def Fbz.resK {R : Type} (u : Int) (K : AV → Blks → Option R) : Option R := K (Fbz.res u).1 (Fbz.res u).2
def Fbz.c (n : Nat) : Abs.Callee := .mk' [] [none, none] Fbz.pat (Fbz.m n) Fbz.resK
end
end
section
noncomputable abbrev Fbz.R0 (n : Nat) := roundOf (Fbz.C n) (Fbz.A n) n Fbz.b0
theorem Fbz.l2_0.rmap {α β : Type} (h : β → α) (mk0 : Int → β) (mk1 : β) (n : Nat) (f : Int → LI → LI → Option β)  (x0 : Int) (x1 : LI) (x2 : LI) : Fbz.l2_0.r (fun a0 => (h (mk0 a0))) (h mk1) n (fun y0 y1 y2 => (f y0 y1 y2).map h) x0 x1 x2 = (Fbz.l2_0.r mk0 mk1 n f x0 x1 x2).map h := by
  unfold Fbz.l2_0.r
  exact (ite_map (ite_map (ite_map (ite_map (ite_map (ite_map rfl (ite_map (ite_map (ite_map (ite_map (ite_map rfl rfl) rfl) rfl) rfl) rfl)) rfl) rfl) rfl) rfl) rfl)
theorem Fbz.l2_0.gmap {α β : Type} (h : β → α) (mk0 : Int → β) (mk1 : β) (n : Nat) : ∀ (m : Nat) (x0 : Int) (x1 : LI) (x2 : LI), Fbz.l2_0.g (fun a0 => (h (mk0 a0))) (h mk1) n m x0 x1 x2 = (Fbz.l2_0.g mk0 mk1 n m x0 x1 x2).map h
  | 0, _, _, _ => rfl
  | m + 1, x0, x1, x2 => by
    unfold Fbz.l2_0.g
    rw [← Fbz.l2_0.rmap]
    congr
    · funext y0 y1 y2; exact Fbz.l2_0.gmap h mk0 mk1 n m y0 y1 y2
theorem Fbz.l2_0.pat_shape : ∀ st t, Fbz.l2_0.pat st = some t → st = Fbz.l2_0.shape t := fun _ _ h => by unfold Fbz.l2_0.pat at h; split at h <;> cases h; rfl
def Fbz.l2_0.k0 : Int → Ex × St := (fun a0 => ((Prod.mk .ret (St.mk [(.int .i64 a0)] [])) : Ex × St))
def Fbz.l2_0.k1 : Ex × St := ((Prod.mk (.exit 0) (St.mk [.any] [])) : Ex × St)
theorem Fbz.l2_0.round (n : Nat) (rc : St → Option (Ex × St)) (x0 : Int) (x1 : LI) (x2 : LI) : Fbz.R0 n rc ((St.mk [(.int .i64 x0), (.ptr 0 []), (.ptr 1 [])] [(some (.var (.ints .u64 4 x1))), (some (.var (.ints .u64 4 x2)))])) = Fbz.l2_0.r Fbz.l2_0.k0 Fbz.l2_0.k1 n (fun y0 y1 y2 => rc ((St.mk [(.int .i64 y0), (.ptr 0 []), (.ptr 1 [])] [(some (.var (.ints .u64 4 y1))), (some (.var (.ints .u64 4 y2)))]))) x0 x1 x2 := by kernel_rfl
theorem Fbz.l2_0.loop' (n : Nat) : ∀ (m : Nat) (t : (Int × (LI × LI))), loopOf (Fbz.R0 n) m (Fbz.l2_0.shape t) = Fbz.l2_0.g Fbz.l2_0.k0 Fbz.l2_0.k1 n m t.1 t.2.1 t.2.2 :=
  loop_of_round (shape := Fbz.l2_0.shape) (body := Fbz.R0 n) (g := fun m t => Fbz.l2_0.g Fbz.l2_0.k0 Fbz.l2_0.k1 n m t.1 t.2.1 t.2.2) (fun t => rfl)
    fun m t ih => (Fbz.l2_0.round n (loopOf (Fbz.R0 n) m) t.1 t.2.1 t.2.2).trans (congrFun (congrFun (congrFun (congrArg (Fbz.l2_0.r Fbz.l2_0.k0 Fbz.l2_0.k1 n) (funext fun y0 => funext fun y1 => funext fun y2 => ih (y0, y1, y2))) t.1) t.2.1) t.2.2)
theorem Fbz.l2_0.loop (n m : Nat) (t : (Int × (LI × LI))) : loopOf (Fbz.R0 n) m (Fbz.l2_0.shape t) = (Fbz.l2_0.m n m t).map Fbz.l2_0.res :=
  (Fbz.l2_0.loop' n m t).trans (Fbz.l2_0.gmap Fbz.l2_0.res (fun a0 => (.inl a0)) (.inr ()) n m t.1 t.2.1 t.2.2)
theorem Fbz.gmap {α β : Type} (h : β → α) (mk0 : Int → β) (n : Nat) (a0 : LI) (a1 : LI) : Fbz.g (fun a0 => (h (mk0 a0))) n a0 a1 = (Fbz.g mk0 n a0 a1).map h := by
  unfold Fbz.g
  exact (bindO_map fun r2 => match r2 with | (.inl r2) => rfl | (.inr r2) => rfl)
theorem Fbz.run (n : Nat) (a0 : LI) (a1 : LI) : runF (Fbz.C n) (Fbz.A n) n Tryd.f49 [(.ints .u64 4 a0), (.ints .u64 4 a1)] [] (fun v o => some (v, o)) = Fbz.g (fun a0 => ((Prod.mk (.int .i64 a0) []) : AV × Blks)) n a0 a1 := by kernel_rfl
theorem Fbz.call (hmix : Tryd.prog.follows .mixedOrders = true) (n : Nat) (t : (LI × LI)) (u) (h : Fbz.m n t = some u) : FnC Tryd.prog abiG 49 (Fbz.shape t).1 (Fbz.shape t).2 (Fbz.res u).1 (Fbz.res u).2 :=
  fnC1 (C := Fbz.C n) (A := Fbz.A n) (fn := Tryd.f49) rfl .nil hmix Tryd.func49 (by kernel_rfl) (lp := [Fbz.b0]) (by kernel_rfl) (.cons (show (Fbz.A n).loop (key Fbz.b0) = some (.mk' Fbz.l2_0.pat (Fbz.l2_0.m n n) Fbz.l2_0.resK) by kernel_rfl) (LoopS.of (res := Fbz.l2_0.res) (fun R u K => by rcases u with u | u <;> rfl) Fbz.l2_0.pat_shape fun t => Fbz.l2_0.loop n n t)
  .nil)
  (nj rfl) (by decide) rfl rfl (by show 2 ≤ Tryd.f49.ntmps; decide) (Fbz.run n t.1 t.2) (Fbz.gmap Fbz.res (fun a0 => a0) n t.1 t.2) h
theorem Fbz.s (hmix : Tryd.prog.follows .mixedOrders = true) (n : Nat) : CalleeS Tryd.prog abiG 49 (Fbz.c n) :=
  .mk1 (res := Fbz.res) (shape := Fbz.shape) (fun R u K => rfl) (fun _ _ _ h => by unfold Fbz.pat at h; split at h <;> cases h; rfl) (fun t u h => Fbz.call hmix n t u h) Tryd.func49 (by decide) (by kernel_rfl)
end
section
noncomputable section
noncomputable def Fak.C (n : Nat) : Ctx := ⟨Tryd.prog, abiG, lookC [], fun _ => false⟩
noncomputable def Fak.A (n : Nat) : Ann := ⟨Tryd.f118.ntmps, 0, noNL, [], [none, none], fun k => match k with
 | _ => none, noNL, lookJ []⟩
def Fak.g {α : Type} (mk0 : Int → Int → α) (n : Nat) (a0 : Int) (a1 : Int) : Option α :=
 some (mk0 (IntKind.wrap .u64 ((IntKind.wrap .u64 ((IntKind.wrap .u64 ((ishr .u64 a0 32) * (ishr .u64 a1 32))) + (ishr .u64 (IntKind.wrap .u64 ((IntKind.wrap .u64 ((ishr .u64 a0 32) * (ibits BinOp.and .u64 a1 4294967295))) + (ishr .u64 (IntKind.wrap .u64 ((ibits BinOp.and .u64 a0 4294967295) * (ibits BinOp.and .u64 a1 4294967295))) 32))) 32))) + (ishr .u64 (IntKind.wrap .u64 ((ibits BinOp.and .u64 (IntKind.wrap .u64 ((IntKind.wrap .u64 ((ishr .u64 a0 32) * (ibits BinOp.and .u64 a1 4294967295))) + (ishr .u64 (IntKind.wrap .u64 ((ibits BinOp.and .u64 a0 4294967295) * (ibits BinOp.and .u64 a1 4294967295))) 32))) 4294967295) + (IntKind.wrap .u64 ((ibits BinOp.and .u64 a0 4294967295) * (ishr .u64 a1 32))))) 32))) (IntKind.wrap .u64 (a0 * a1)))
def Fak.m (n : Nat) (t : (Int × Int)) : Option (Int × Int) := Fak.g (fun a0 a1 => (a0, a1)) n t.1 t.2
def Fak.pat : List AV → Blks → Option (Int × Int)
 | [(.int .u64 a0), (.int .u64 a1)], [] => some (a0, a1)
 | _, _ => none
def Fak.shape (t : (Int × Int)) : List AV × Blks := ([(.int .u64 t.1), (.int .u64 t.2)], [])
def Fak.res : (Int × Int) → AV × Blks
 | u => (Prod.mk (.tup [(.int .u64 u.1), (.int .u64 u.2)]) [])
def Fak.resK {R : Type} (u : (Int × Int)) (K : AV → Blks → Option R) : Option R := K (Fak.res u).1 (Fak.res u).2
def Fak.c (n : Nat) : Abs.Callee := .mk' [] [none, none] Fak.pat (Fak.m n) Fak.resK
end
end
section
theorem Fak.gmap {α β : Type} (h : β → α) (mk0 : Int → Int → β) (n : Nat) (a0 : Int) (a1 : Int) : Fak.g (fun a0 a1 => (h (mk0 a0 a1))) n a0 a1 = (Fak.g mk0 n a0 a1).map h := by
  unfold Fak.g
  exact rfl
theorem Fak.run (n : Nat) (a0 : Int) (a1 : Int) : runF (Fak.C n) (Fak.A n) n Tryd.f118 [(.int .u64 a0), (.int .u64 a1)] [] (fun v o => some (v, o)) = Fak.g (fun a0 a1 => ((Prod.mk (.tup [(.int .u64 a0), (.int .u64 a1)]) []) : AV × Blks)) n a0 a1 := by kernel_rfl
theorem Fak.call (hmix : Tryd.prog.follows .mixedOrders = true) (n : Nat) (t : (Int × Int)) (u) (h : Fak.m n t = some u) : FnC Tryd.prog abiG 118 (Fak.shape t).1 (Fak.shape t).2 (Fak.res u).1 (Fak.res u).2 :=
  fnC1 (C := Fak.C n) (A := Fak.A n) (fn := Tryd.f118) rfl .nil hmix Tryd.func118 (by kernel_rfl) (lp := []) (by kernel_rfl) .nil
  (nj rfl) (by decide) rfl rfl (by show 2 ≤ Tryd.f118.ntmps; decide) (Fak.run n t.1 t.2) (Fak.gmap Fak.res (fun a0 a1 => (a0, a1)) n t.1 t.2) h
theorem Fak.s (hmix : Tryd.prog.follows .mixedOrders = true) (n : Nat) : CalleeS Tryd.prog abiG 118 (Fak.c n) :=
  .mk1 (res := Fak.res) (shape := Fak.shape) (fun R u K => rfl) (fun _ _ _ h => by unfold Fak.pat at h; split at h <;> cases h; rfl) (fun t u h => Fak.call hmix n t u h) Tryd.func118 (by decide) (by kernel_rfl)
end
section
noncomputable section
noncomputable def Fp.C (n : Nat) : Ctx := ⟨Tryd.prog, abiG, lookC [(118, Fak.c n), (103, Faj.c n)], fun _ => false⟩
def Fp.live : NL := fun k => match k with
 | 3 => ([12, 2, 3, 5, 4], [5, 4])
 | 7 => ([15, 6, 2, 3, 7, 5, 12, 4], [6, 7, 5, 12, 2, 3, 4])
 | _ => ([], [])
def Fp.l7_0.r {α : Type} (mk0 : Int → Int → Int → LI → LI → LI → LI → α) (n : Nat) (rc : Int → Int → Int → Int → LI → LI → LI → LI → Option α)  (x0 : Int) (x1 : Int) (x2 : Int) (x3 : Int) (x4 : LI) (x5 : LI) (x6 : LI) (x7 : LI) : Option α :=
  if (decide (x0 < 4)) = true then
   if 0 ≤ x1 then
    if x1 < 4 then
     if 0 ≤ x0 then
      if x0 < 4 then
       bindO (Fak.m n (Prod.mk (List.getD x4 (Int.toNat x1) 0) (List.getD x5 (Int.toNat x0) 0))) fun r14 =>
        bindO (Faj.m n (Prod.mk (Prod.snd r14) (Prod.mk x2 0))) fun r16 =>
         if 0 ≤ (IntKind.wrap .i64 (x1 + x0)) then
          if (IntKind.wrap .i64 (x1 + x0)) < 8 then
           bindO (Faj.m n (Prod.mk (List.getD x6 (Int.toNat (IntKind.wrap .i64 (x1 + x0))) 0) (Prod.mk (Prod.fst r16) 0))) fun r22 =>
            if 0 ≤ (IntKind.wrap .i64 (x1 + x0)) then
             if (IntKind.wrap .i64 (x1 + x0)) < 8 then
              rc (IntKind.wrap .i64 (x0 + 1)) x1 (IntKind.wrap .u64 ((IntKind.wrap .u64 ((Prod.fst r14) + (Prod.snd r16))) + (Prod.snd r22))) x3 x4 x5 (List.set x6 (Int.toNat (IntKind.wrap .i64 (x1 + x0))) (Prod.fst r22)) x7
             else
              none
            else
             none
          else
           none
         else
          none
      else
       none
     else
      none
    else
     none
   else
    none
  else
   some (mk0 x1 x2 x3 x6 x4 x5 x7)
def Fp.l7_0.g {α : Type} (mk0 : Int → Int → Int → LI → LI → LI → LI → α) (n : Nat) : Nat → Int → Int → Int → Int → LI → LI → LI → LI → Option α
 | 0, _, _, _, _, _, _, _, _ => none
 | m + 1, x0, x1, x2, x3, x4, x5, x6, x7 => Fp.l7_0.r mk0 n (fun y0 y1 y2 y3 y4 y5 y6 y7 => Fp.l7_0.g mk0 n m y0 y1 y2 y3 y4 y5 y6 y7)  x0 x1 x2 x3 x4 x5 x6 x7
def Fp.l7_0.m (n m : Nat) (t : (Int × (Int × (Int × (Int × (LI × (LI × (LI × LI)))))))) : Option (Int × (Int × (Int × (LI × (LI × (LI × LI)))))) := Fp.l7_0.g (fun a0 a1 a2 a3 a4 a5 a6 => (a0, a1, a2, a3, a4, a5, a6)) n m t.1 t.2.1 t.2.2.1 t.2.2.2.1 t.2.2.2.2.1 t.2.2.2.2.2.1 t.2.2.2.2.2.2.1 t.2.2.2.2.2.2.2
def Fp.l7_0.pat : St → Option (Int × (Int × (Int × (Int × (LI × (LI × (LI × LI)))))))
 | (St.mk [(.int .i64 x0), (.int .i64 x1), (.ptr 0 []), (.ptr 1 []), (.int .u64 x2), (.ptr 2 []), (.int .i64 x3), (.ptr 3 [])] [(some (.var (.ints .u64 4 x4))), (some (.var (.ints .u64 4 x5))), (some (.var (.ints .u64 8 x6))), (some (.var (.ints .u64 8 x7)))]) => some (x0, x1, x2, x3, x4, x5, x6, x7)
 | _ => none
def Fp.l7_0.shape (t : (Int × (Int × (Int × (Int × (LI × (LI × (LI × LI)))))))) : St := (St.mk [(.int .i64 t.1), (.int .i64 t.2.1), (.ptr 0 []), (.ptr 1 []), (.int .u64 t.2.2.1), (.ptr 2 []), (.int .i64 t.2.2.2.1), (.ptr 3 [])] [(some (.var (.ints .u64 4 t.2.2.2.2.1))), (some (.var (.ints .u64 4 t.2.2.2.2.2.1))), (some (.var (.ints .u64 8 t.2.2.2.2.2.2.1))), (some (.var (.ints .u64 8 t.2.2.2.2.2.2.2)))])
def Fp.l7_0.res : (Int × (Int × (Int × (LI × (LI × (LI × LI)))))) → Ex × St
 | u => (Prod.mk (.exit 2) (St.mk [(.int .i64 u.1), (.int .u64 u.2.1), (.ptr 0 []), (.int .i64 u.2.2.1), (.ptr 1 []), (.ptr 2 []), (.ptr 3 [])] [(some (.var (.ints .u64 8 u.2.2.2.1))), (some (.var (.ints .u64 4 u.2.2.2.2.1))), (some (.var (.ints .u64 4 u.2.2.2.2.2.1))), (some (.var (.ints .u64 8 u.2.2.2.2.2.2)))]))
def Fp.l7_0.resK {R : Type} (u : (Int × (Int × (Int × (LI × (LI × (LI × LI))))))) (K : Ex → St → Option R) : Option R := K (Fp.l7_0.res u).1 (Fp.l7_0.res u).2
def Fp.l3_0.r {α : Type} (mk0 : LI → LI → α) (n : Nat) (rc : Int → LI → LI → LI → LI → Option α)  (x0 : Int) (x1 : LI) (x2 : LI) (x3 : LI) (x4 : LI) : Option α :=
  if (decide (x0 < 4)) = true then
   bindO (Fp.l7_0.m n n (0, x0, 0, x0, x1, x2, x3, x4)) fun r6 =>
    if 0 ≤ (IntKind.wrap .i64 ((Prod.fst r6) + 4)) then
     if (IntKind.wrap .i64 ((Prod.fst r6) + 4)) < 8 then
      rc (IntKind.wrap .i64 ((Prod.fst (Prod.snd r6).2) + 1)) (Prod.fst (Prod.snd (Prod.snd r6).2).2) (Prod.fst (Prod.snd (Prod.snd r6.2).2).2) (List.set (Prod.fst (Prod.snd r6.2).2) (Int.toNat (IntKind.wrap .i64 ((Prod.fst r6) + 4))) (Prod.fst r6.2)) (Prod.snd (Prod.snd (Prod.snd r6.2).2).2)
     else
      none
    else
     none
  else
   some (mk0 x3 x4)
def Fp.l3_0.g {α : Type} (mk0 : LI → LI → α) (n : Nat) : Nat → Int → LI → LI → LI → LI → Option α
 | 0, _, _, _, _, _ => none
 | m + 1, x0, x1, x2, x3, x4 => Fp.l3_0.r mk0 n (fun y0 y1 y2 y3 y4 => Fp.l3_0.g mk0 n m y0 y1 y2 y3 y4)  x0 x1 x2 x3 x4
def Fp.l3_0.m (n m : Nat) (t : (Int × (LI × (LI × (LI × LI))))) : Option (LI × LI) := Fp.l3_0.g (fun a0 a1 => (a0, a1)) n m t.1 t.2.1 t.2.2.1 t.2.2.2.1 t.2.2.2.2
def Fp.l3_0.pat : St → Option (Int × (LI × (LI × (LI × LI))))
 | (St.mk [(.int .i64 x0), (.ptr 0 []), (.ptr 1 []), (.ptr 2 []), (.ptr 3 [])] [(some (.var (.ints .u64 4 x1))), (some (.var (.ints .u64 4 x2))), (some (.var (.ints .u64 8 x3))), (some (.var (.ints .u64 8 x4)))]) => some (x0, x1, x2, x3, x4)
 | _ => none
def Fp.l3_0.shape (t : (Int × (LI × (LI × (LI × LI))))) : St := (St.mk [(.int .i64 t.1), (.ptr 0 []), (.ptr 1 []), (.ptr 2 []), (.ptr 3 [])] [(some (.var (.ints .u64 4 t.2.1))), (some (.var (.ints .u64 4 t.2.2.1))), (some (.var (.ints .u64 8 t.2.2.2.1))), (some (.var (.ints .u64 8 t.2.2.2.2)))])
def Fp.l3_0.res : (LI × LI) → Ex × St
 | u => (Prod.mk (.exit 0) (St.mk [(.ptr 0 []), (.ptr 1 [])] [(some (.var (.ints .u64 8 u.1))), (some (.var (.ints .u64 8 u.2)))]))
def Fp.l3_0.resK {R : Type} (u : (LI × LI)) (K : Ex → St → Option R) : Option R := K (Fp.l3_0.res u).1 (Fp.l3_0.res u).2
noncomputable def Fp.A (n : Nat) : Ann := ⟨Tryd.f102.ntmps, 0, Fp.live, [], [none], fun k => match k with
 | 7 => some (.mk' Fp.l7_0.pat (Fp.l7_0.m n n) Fp.l7_0.resK)
 | 3 => some (.mk' Fp.l3_0.pat (Fp.l3_0.m n n) Fp.l3_0.resK)
 | _ => none, noNL, lookJ []⟩
noncomputable def Fp.b0 : Code := (loopsIn (Tryd.f102.body.getD .skip)).getD 0 .skip
noncomputable def Fp.b1 : Code := (loopsIn (Tryd.f102.body.getD .skip)).getD 1 .skip
def Fp.g {α : Type} (mk0 : LI → α) (n : Nat) (a0 : LI) (a1 : LI) : Option α :=
 bindO (Fp.l3_0.m n n (0, a0, a1, ([0, 0, 0, 0, 0, 0, 0, 0] : List Int), ([0, 0, 0, 0, 0, 0, 0, 0] : List Int))) fun r2 =>
  some (mk0 (Prod.fst r2))
def Fp.m (n : Nat) (t : (LI × LI)) : Option LI := Fp.g (fun a0 => a0) n t.1 t.2
def Fp.pat : List AV → Blks → Option (LI × LI)
 | [(.ints .u64 4 a0), (.ints .u64 4 a1)], [] => some (a0, a1)
 | _, _ => none
def Fp.shape (t : (LI × LI)) : List AV × Blks := ([(.ints .u64 4 t.1), (.ints .u64 4 t.2)], [])
def Fp.res : LI → AV × Blks
 | u => (Prod.mk (.ints .u64 8 u) [])
def Fp.resK {R : Type} (u : LI) (K : AV → Blks → Option R) : Option R := K (Fp.res u).1 (Fp.res u).2
def Fp.c (n : Nat) : Abs.Callee := .mk' [] [none, none] Fp.pat (Fp.m n) Fp.resK
end
end
section
noncomputable abbrev Fp.R0 (n : Nat) := roundOf (Fp.C n) (Fp.A n) n Fp.b0
noncomputable abbrev Fp.R1 (n : Nat) := roundOf (Fp.C n) (Fp.A n) n Fp.b1
theorem Fp.l7_0.rmap {α β : Type} (h : β → α) (mk0 : Int → Int → Int → LI → LI → LI → LI → β) (n : Nat) (f : Int → Int → Int → Int → LI → LI → LI → LI → Option β)  (x0 : Int) (x1 : Int) (x2 : Int) (x3 : Int) (x4 : LI) (x5 : LI) (x6 : LI) (x7 : LI) : Fp.l7_0.r (fun a0 a1 a2 a3 a4 a5 a6 => (h (mk0 a0 a1 a2 a3 a4 a5 a6))) n (fun y0 y1 y2 y3 y4 y5 y6 y7 => (f y0 y1 y2 y3 y4 y5 y6 y7).map h) x0 x1 x2 x3 x4 x5 x6 x7 = (Fp.l7_0.r mk0 n f x0 x1 x2 x3 x4 x5 x6 x7).map h := by
  unfold Fp.l7_0.r
  exact (ite_map (ite_map (ite_map (ite_map (ite_map (bindO_map fun r14 => (bindO_map fun r16 => (ite_map (ite_map (bindO_map fun r22 => (ite_map (ite_map rfl rfl) rfl)) rfl) rfl))) rfl) rfl) rfl) rfl) rfl)
theorem Fp.l7_0.gmap {α β : Type} (h : β → α) (mk0 : Int → Int → Int → LI → LI → LI → LI → β) (n : Nat) : ∀ (m : Nat) (x0 : Int) (x1 : Int) (x2 : Int) (x3 : Int) (x4 : LI) (x5 : LI) (x6 : LI) (x7 : LI), Fp.l7_0.g (fun a0 a1 a2 a3 a4 a5 a6 => (h (mk0 a0 a1 a2 a3 a4 a5 a6))) n m x0 x1 x2 x3 x4 x5 x6 x7 = (Fp.l7_0.g mk0 n m x0 x1 x2 x3 x4 x5 x6 x7).map h
  | 0, _, _, _, _, _, _, _, _ => rfl
  | m + 1, x0, x1, x2, x3, x4, x5, x6, x7 => by
    unfold Fp.l7_0.g
    rw [← Fp.l7_0.rmap]
    congr
    · funext y0 y1 y2 y3 y4 y5 y6 y7; exact Fp.l7_0.gmap h mk0 n m y0 y1 y2 y3 y4 y5 y6 y7
theorem Fp.l7_0.pat_shape : ∀ st t, Fp.l7_0.pat st = some t → st = Fp.l7_0.shape t := fun _ _ h => by unfold Fp.l7_0.pat at h; split at h <;> cases h; rfl
def Fp.l7_0.k0 : Int → Int → Int → LI → LI → LI → LI → Ex × St := (fun a0 a1 a2 a3 a4 a5 a6 => ((Prod.mk (.exit 2) (St.mk [(.int .i64 a0), (.int .u64 a1), (.ptr 0 []), (.int .i64 a2), (.ptr 1 []), (.ptr 2 []), (.ptr 3 [])] [(some (.var (.ints .u64 8 a3))), (some (.var (.ints .u64 4 a4))), (some (.var (.ints .u64 4 a5))), (some (.var (.ints .u64 8 a6)))])) : Ex × St))
theorem Fp.l7_0.round (n : Nat) (rc : St → Option (Ex × St)) (x0 : Int) (x1 : Int) (x2 : Int) (x3 : Int) (x4 : LI) (x5 : LI) (x6 : LI) (x7 : LI) : Fp.R1 n rc ((St.mk [(.int .i64 x0), (.int .i64 x1), (.ptr 0 []), (.ptr 1 []), (.int .u64 x2), (.ptr 2 []), (.int .i64 x3), (.ptr 3 [])] [(some (.var (.ints .u64 4 x4))), (some (.var (.ints .u64 4 x5))), (some (.var (.ints .u64 8 x6))), (some (.var (.ints .u64 8 x7)))])) = Fp.l7_0.r Fp.l7_0.k0 n (fun y0 y1 y2 y3 y4 y5 y6 y7 => rc ((St.mk [(.int .i64 y0), (.int .i64 y1), (.ptr 0 []), (.ptr 1 []), (.int .u64 y2), (.ptr 2 []), (.int .i64 y3), (.ptr 3 [])] [(some (.var (.ints .u64 4 y4))), (some (.var (.ints .u64 4 y5))), (some (.var (.ints .u64 8 y6))), (some (.var (.ints .u64 8 y7)))]))) x0 x1 x2 x3 x4 x5 x6 x7 := by kernel_rfl
theorem Fp.l7_0.loop' (n : Nat) : ∀ (m : Nat) (t : (Int × (Int × (Int × (Int × (LI × (LI × (LI × LI)))))))), loopOf (Fp.R1 n) m (Fp.l7_0.shape t) = Fp.l7_0.g Fp.l7_0.k0 n m t.1 t.2.1 t.2.2.1 t.2.2.2.1 t.2.2.2.2.1 t.2.2.2.2.2.1 t.2.2.2.2.2.2.1 t.2.2.2.2.2.2.2 :=
  loop_of_round (shape := Fp.l7_0.shape) (body := Fp.R1 n) (g := fun m t => Fp.l7_0.g Fp.l7_0.k0 n m t.1 t.2.1 t.2.2.1 t.2.2.2.1 t.2.2.2.2.1 t.2.2.2.2.2.1 t.2.2.2.2.2.2.1 t.2.2.2.2.2.2.2) (fun t => rfl)
    fun m t ih => (Fp.l7_0.round n (loopOf (Fp.R1 n) m) t.1 t.2.1 t.2.2.1 t.2.2.2.1 t.2.2.2.2.1 t.2.2.2.2.2.1 t.2.2.2.2.2.2.1 t.2.2.2.2.2.2.2).trans (congrFun (congrFun (congrFun (congrFun (congrFun (congrFun (congrFun (congrFun (congrArg (Fp.l7_0.r Fp.l7_0.k0 n) (funext fun y0 => funext fun y1 => funext fun y2 => funext fun y3 => funext fun y4 => funext fun y5 => funext fun y6 => funext fun y7 => ih (y0, y1, y2, y3, y4, y5, y6, y7))) t.1) t.2.1) t.2.2.1) t.2.2.2.1) t.2.2.2.2.1) t.2.2.2.2.2.1) t.2.2.2.2.2.2.1) t.2.2.2.2.2.2.2)
theorem Fp.l7_0.loop (n m : Nat) (t : (Int × (Int × (Int × (Int × (LI × (LI × (LI × LI)))))))) : loopOf (Fp.R1 n) m (Fp.l7_0.shape t) = (Fp.l7_0.m n m t).map Fp.l7_0.res :=
  (Fp.l7_0.loop' n m t).trans (Fp.l7_0.gmap Fp.l7_0.res (fun a0 a1 a2 a3 a4 a5 a6 => (a0, a1, a2, a3, a4, a5, a6)) n m t.1 t.2.1 t.2.2.1 t.2.2.2.1 t.2.2.2.2.1 t.2.2.2.2.2.1 t.2.2.2.2.2.2.1 t.2.2.2.2.2.2.2)
theorem Fp.l3_0.rmap {α β : Type} (h : β → α) (mk0 : LI → LI → β) (n : Nat) (f : Int → LI → LI → LI → LI → Option β)  (x0 : Int) (x1 : LI) (x2 : LI) (x3 : LI) (x4 : LI) : Fp.l3_0.r (fun a0 a1 => (h (mk0 a0 a1))) n (fun y0 y1 y2 y3 y4 => (f y0 y1 y2 y3 y4).map h) x0 x1 x2 x3 x4 = (Fp.l3_0.r mk0 n f x0 x1 x2 x3 x4).map h := by
  unfold Fp.l3_0.r
  exact (ite_map (bindO_map fun r6 => (ite_map (ite_map rfl rfl) rfl)) rfl)
theorem Fp.l3_0.gmap {α β : Type} (h : β → α) (mk0 : LI → LI → β) (n : Nat) : ∀ (m : Nat) (x0 : Int) (x1 : LI) (x2 : LI) (x3 : LI) (x4 : LI), Fp.l3_0.g (fun a0 a1 => (h (mk0 a0 a1))) n m x0 x1 x2 x3 x4 = (Fp.l3_0.g mk0 n m x0 x1 x2 x3 x4).map h
  | 0, _, _, _, _, _ => rfl
  | m + 1, x0, x1, x2, x3, x4 => by
    unfold Fp.l3_0.g
    rw [← Fp.l3_0.rmap]
    congr
    · funext y0 y1 y2 y3 y4; exact Fp.l3_0.gmap h mk0 n m y0 y1 y2 y3 y4
theorem Fp.l3_0.pat_shape : ∀ st t, Fp.l3_0.pat st = some t → st = Fp.l3_0.shape t := fun _ _ h => by unfold Fp.l3_0.pat at h; split at h <;> cases h; rfl
def Fp.l3_0.k0 : LI → LI → Ex × St := (fun a0 a1 => ((Prod.mk (.exit 0) (St.mk [(.ptr 0 []), (.ptr 1 [])] [(some (.var (.ints .u64 8 a0))), (some (.var (.ints .u64 8 a1)))])) : Ex × St))
theorem Fp.l3_0.round (n : Nat) (rc : St → Option (Ex × St)) (x0 : Int) (x1 : LI) (x2 : LI) (x3 : LI) (x4 : LI) : Fp.R0 n rc ((St.mk [(.int .i64 x0), (.ptr 0 []), (.ptr 1 []), (.ptr 2 []), (.ptr 3 [])] [(some (.var (.ints .u64 4 x1))), (some (.var (.ints .u64 4 x2))), (some (.var (.ints .u64 8 x3))), (some (.var (.ints .u64 8 x4)))])) = Fp.l3_0.r Fp.l3_0.k0 n (fun y0 y1 y2 y3 y4 => rc ((St.mk [(.int .i64 y0), (.ptr 0 []), (.ptr 1 []), (.ptr 2 []), (.ptr 3 [])] [(some (.var (.ints .u64 4 y1))), (some (.var (.ints .u64 4 y2))), (some (.var (.ints .u64 8 y3))), (some (.var (.ints .u64 8 y4)))]))) x0 x1 x2 x3 x4 := by kernel_rfl
theorem Fp.l3_0.loop' (n : Nat) : ∀ (m : Nat) (t : (Int × (LI × (LI × (LI × LI))))), loopOf (Fp.R0 n) m (Fp.l3_0.shape t) = Fp.l3_0.g Fp.l3_0.k0 n m t.1 t.2.1 t.2.2.1 t.2.2.2.1 t.2.2.2.2 :=
  loop_of_round (shape := Fp.l3_0.shape) (body := Fp.R0 n) (g := fun m t => Fp.l3_0.g Fp.l3_0.k0 n m t.1 t.2.1 t.2.2.1 t.2.2.2.1 t.2.2.2.2) (fun t => rfl)
    fun m t ih => (Fp.l3_0.round n (loopOf (Fp.R0 n) m) t.1 t.2.1 t.2.2.1 t.2.2.2.1 t.2.2.2.2).trans (congrFun (congrFun (congrFun (congrFun (congrFun (congrArg (Fp.l3_0.r Fp.l3_0.k0 n) (funext fun y0 => funext fun y1 => funext fun y2 => funext fun y3 => funext fun y4 => ih (y0, y1, y2, y3, y4))) t.1) t.2.1) t.2.2.1) t.2.2.2.1) t.2.2.2.2)
theorem Fp.l3_0.loop (n m : Nat) (t : (Int × (LI × (LI × (LI × LI))))) : loopOf (Fp.R0 n) m (Fp.l3_0.shape t) = (Fp.l3_0.m n m t).map Fp.l3_0.res :=
  (Fp.l3_0.loop' n m t).trans (Fp.l3_0.gmap Fp.l3_0.res (fun a0 a1 => (a0, a1)) n m t.1 t.2.1 t.2.2.1 t.2.2.2.1 t.2.2.2.2)
theorem Fp.gmap {α β : Type} (h : β → α) (mk0 : LI → β) (n : Nat) (a0 : LI) (a1 : LI) : Fp.g (fun a0 => (h (mk0 a0))) n a0 a1 = (Fp.g mk0 n a0 a1).map h := by
  unfold Fp.g
  exact (bindO_map fun r2 => rfl)
theorem Fp.run (n : Nat) (a0 : LI) (a1 : LI) : runF (Fp.C n) (Fp.A n) n Tryd.f102 [(.ints .u64 4 a0), (.ints .u64 4 a1)] [] (fun v o => some (v, o)) = Fp.g (fun a0 => ((Prod.mk (.ints .u64 8 a0) []) : AV × Blks)) n a0 a1 := by kernel_rfl
theorem Fp.call (hmix : Tryd.prog.follows .mixedOrders = true) (n : Nat) (t : (LI × LI)) (u) (h : Fp.m n t = some u) : FnC Tryd.prog abiG 102 (Fp.shape t).1 (Fp.shape t).2 (Fp.res u).1 (Fp.res u).2 :=
  fnC1 (C := Fp.C n) (A := Fp.A n) (fn := Tryd.f102) rfl (.cons (Fak.s hmix n) (.cons (Faj.s hmix n) .nil)) hmix Tryd.func102 (by kernel_rfl) (lp := [Fp.b0, Fp.b1]) (by kernel_rfl) (.cons (show (Fp.A n).loop (key Fp.b0) = some (.mk' Fp.l3_0.pat (Fp.l3_0.m n n) Fp.l3_0.resK) by kernel_rfl) (LoopS.of (res := Fp.l3_0.res) (fun R u K => rfl) Fp.l3_0.pat_shape fun t => Fp.l3_0.loop n n t)
  (.cons (show (Fp.A n).loop (key Fp.b1) = some (.mk' Fp.l7_0.pat (Fp.l7_0.m n n) Fp.l7_0.resK) by kernel_rfl) (LoopS.of (res := Fp.l7_0.res) (fun R u K => rfl) Fp.l7_0.pat_shape fun t => Fp.l7_0.loop n n t)
  .nil))
  (nj rfl) (by decide) rfl rfl (by show 2 ≤ Tryd.f102.ntmps; decide) (Fp.run n t.1 t.2) (Fp.gmap Fp.res (fun a0 => a0) n t.1 t.2) h
theorem Fp.s (hmix : Tryd.prog.follows .mixedOrders = true) (n : Nat) : CalleeS Tryd.prog abiG 102 (Fp.c n) :=
  .mk1 (res := Fp.res) (shape := Fp.shape) (fun R u K => rfl) (fun _ _ _ h => by unfold Fp.pat at h; split at h <;> cases h; rfl) (fun t u h => Fp.call hmix n t u h) Tryd.func102 (by decide) (by kernel_rfl)
end
section
noncomputable section
noncomputable def Fbj.C (n : Nat) : Ctx := ⟨Tryd.prog, abiG, lookC [(102, Fp.c n)], fun _ => false⟩
noncomputable def Fbj.A (n : Nat) : Ann := ⟨Tryd.f84.ntmps, 0, noNL, [], [none, none], fun k => match k with
 | _ => none, noNL, lookJ []⟩
def Fbj.g {α : Type} (mk0 : LI → Bool → α) (n : Nat) (a0 : LI) (a1 : LI) : Option α :=
 bindO (Fp.m n (Prod.mk a0 a1)) fun r2 =>
  some (mk0 (List.take 4 (List.drop 0 r2)) ((ibits BinOp.or .u64 (ibits BinOp.or .u64 (ibits BinOp.or .u64 (List.getD r2 4 0) (List.getD r2 5 0)) (List.getD r2 6 0)) (List.getD r2 7 0)) != 0))
def Fbj.m (n : Nat) (t : (LI × LI)) : Option (LI × Bool) := Fbj.g (fun a0 a1 => (a0, a1)) n t.1 t.2
def Fbj.pat : List AV → Blks → Option (LI × LI)
 | [(.ints .u64 4 a0), (.ints .u64 4 a1)], [] => some (a0, a1)
 | _, _ => none
def Fbj.shape (t : (LI × LI)) : List AV × Blks := ([(.ints .u64 4 t.1), (.ints .u64 4 t.2)], [])
def Fbj.res : (LI × Bool) → AV × Blks
 | u => (Prod.mk (.tup [(.ints .u64 4 u.1), (.bool u.2)]) [])
def Fbj.resK {R : Type} (u : (LI × Bool)) (K : AV → Blks → Option R) : Option R := K (Fbj.res u).1 (Fbj.res u).2
def Fbj.c (n : Nat) : Abs.Callee := .mk' [] [none, none] Fbj.pat (Fbj.m n) Fbj.resK
end
end
section
theorem Fbj.gmap {α β : Type} (h : β → α) (mk0 : LI → Bool → β) (n : Nat) (a0 : LI) (a1 : LI) : Fbj.g (fun a0 a1 => (h (mk0 a0 a1))) n a0 a1 = (Fbj.g mk0 n a0 a1).map h := by
  unfold Fbj.g
  exact (bindO_map fun r2 => rfl)
theorem Fbj.run (n : Nat) (a0 : LI) (a1 : LI) : runF (Fbj.C n) (Fbj.A n) n Tryd.f84 [(.ints .u64 4 a0), (.ints .u64 4 a1)] [] (fun v o => some (v, o)) = Fbj.g (fun a0 a1 => ((Prod.mk (.tup [(.ints .u64 4 a0), (.bool a1)]) []) : AV × Blks)) n a0 a1 := by kernel_rfl
theorem Fbj.call (hmix : Tryd.prog.follows .mixedOrders = true) (n : Nat) (t : (LI × LI)) (u) (h : Fbj.m n t = some u) : FnC Tryd.prog abiG 84 (Fbj.shape t).1 (Fbj.shape t).2 (Fbj.res u).1 (Fbj.res u).2 :=
  fnC1 (C := Fbj.C n) (A := Fbj.A n) (fn := Tryd.f84) rfl (.cons (Fp.s hmix n) .nil) hmix Tryd.func84 (by kernel_rfl) (lp := []) (by kernel_rfl) .nil
  (nj rfl) (by decide) rfl rfl (by show 2 ≤ Tryd.f84.ntmps; decide) (Fbj.run n t.1 t.2) (Fbj.gmap Fbj.res (fun a0 a1 => (a0, a1)) n t.1 t.2) h
theorem Fbj.s (hmix : Tryd.prog.follows .mixedOrders = true) (n : Nat) : CalleeS Tryd.prog abiG 84 (Fbj.c n) :=
  .mk1 (res := Fbj.res) (shape := Fbj.shape) (fun R u K => rfl) (fun _ _ _ h => by unfold Fbj.pat at h; split at h <;> cases h; rfl) (fun t u h => Fbj.call hmix n t u h) Tryd.func84 (by decide) (by kernel_rfl)
end
section
noncomputable section
noncomputable def Fav.C (n : Nat) : Ctx := ⟨Tryd.prog, abiG, lookC [], fun _ => false⟩
noncomputable def Fav.A (n : Nat) : Ann := ⟨Tryd.f64.ntmps, 0, noNL, [], [none, none], fun k => match k with
 | _ => none, noNL, lookJ []⟩
def Fav.g {α : Type} (mk0 : Int → Bool → α) (n : Nat) (a0 : LI) : Option α :=
 if ((List.getD a0 1 0) != 0) = true then
  some (mk0 0 false)
 else
  if ((List.getD a0 2 0) != 0) = true then
   some (mk0 0 false)
  else
   if ((List.getD a0 3 0) != 0) = true then
    some (mk0 0 false)
   else
    some (mk0 (List.getD a0 0 0) true)
def Fav.m (n : Nat) (t : LI) : Option (Int × Bool) := Fav.g (fun a0 a1 => (a0, a1)) n t
def Fav.pat : List AV → Blks → Option LI
 | [(.ints .u64 4 a0)], [] => some a0
 | _, _ => none
def Fav.shape (t : LI) : List AV × Blks := ([(.ints .u64 4 t)], [])
def Fav.res : (Int × Bool) → AV × Blks
 | u => (Prod.mk (.tup [(.int .u64 u.1), (.bool u.2)]) [])
def Fav.resK {R : Type} (u : (Int × Bool)) (K : AV → Blks → Option R) : Option R := K (Fav.res u).1 (Fav.res u).2
def Fav.c (n : Nat) : Abs.Callee := .mk' [] [none] Fav.pat (Fav.m n) Fav.resK
end
end
section
noncomputable section
noncomputable def Fcb.C (n : Nat) : Ctx := ⟨Tryd.prog, abiG, lookC [(64, Fav.c n)], fun _ => false⟩
noncomputable def Fcb.A (n : Nat) : Ann := ⟨Tryd.f115.ntmps, 0, noNL, [], [none], fun k => match k with
 | _ => none, noNL, lookJ []⟩
def Fcb.g {α : Type} (mk0 : Int → α) (n : Nat) (a0 : LI) : Option α :=
 bindO (Fav.m n a0) fun r2 =>
  if (!(Prod.snd r2)) = true then
   some (mk0 256)
  else
   if (decide ((Prod.fst r2) > 256)) = true then
    some (mk0 256)
   else
    some (mk0 (IntKind.wrap .i64 (Prod.fst r2)))
def Fcb.m (n : Nat) (t : LI) : Option Int := Fcb.g (fun a0 => a0) n t
def Fcb.pat : List AV → Blks → Option LI
 | [(.ints .u64 4 a0)], [] => some a0
 | _, _ => none
def Fcb.shape (t : LI) : List AV × Blks := ([(.ints .u64 4 t)], [])
def Fcb.res : Int → AV × Blks
 | u => (Prod.mk (.int .i64 u) [])
def Fcb.resK {R : Type} (u : Int) (K : AV → Blks → Option R) : Option R := K (Fcb.res u).1 (Fcb.res u).2
def Fcb.c (n : Nat) : Abs.Callee := .mk' [] [none] Fcb.pat (Fcb.m n) Fcb.resK
end
end
section
noncomputable section
noncomputable def Fbk.C (n : Nat) : Ctx := ⟨Tryd.prog, abiG, lookC [], fun _ => false⟩
noncomputable def Fbk.A (n : Nat) : Ann := ⟨Tryd.f129.ntmps, 0, noNL, [], [none], fun k => match k with
 | _ => none, noNL, lookJ []⟩
def Fbk.g {α : Type} (mk0 : LI → α) (n : Nat) (a0 : LI) (a1 : Int) (a2 : Bool) : Option α :=
 if 0 ≤ (IntKind.wrap .u64 (Int.tmod a1 64)) then
  if a2 = true then
   if 0 ≤ (IntKind.wrap .i64 (Int.tdiv a1 64)) then
    if (IntKind.wrap .i64 (Int.tdiv a1 64)) < 4 then
     if 0 ≤ (IntKind.wrap .i64 (Int.tdiv a1 64)) then
      if (IntKind.wrap .i64 (Int.tdiv a1 64)) < 4 then
       some (mk0 (List.set a0 (Int.toNat (IntKind.wrap .i64 (Int.tdiv a1 64))) (ibits BinOp.or .u64 (List.getD a0 (Int.toNat (IntKind.wrap .i64 (Int.tdiv a1 64))) 0) (ishl .u64 1 (IntKind.wrap .u64 (Int.tmod a1 64))))))
      else
       none
     else
      none
    else
     none
   else
    none
  else
   if 0 ≤ (IntKind.wrap .i64 (Int.tdiv a1 64)) then
    if (IntKind.wrap .i64 (Int.tdiv a1 64)) < 4 then
     if 0 ≤ (IntKind.wrap .i64 (Int.tdiv a1 64)) then
      if (IntKind.wrap .i64 (Int.tdiv a1 64)) < 4 then
       some (mk0 (List.set a0 (Int.toNat (IntKind.wrap .i64 (Int.tdiv a1 64))) (ibits BinOp.andNot .u64 (List.getD a0 (Int.toNat (IntKind.wrap .i64 (Int.tdiv a1 64))) 0) (ishl .u64 1 (IntKind.wrap .u64 (Int.tmod a1 64))))))
      else
       none
     else
      none
    else
     none
   else
    none
 else
  none
def Fbk.m (n : Nat) (t : (LI × (Int × Bool))) : Option LI := Fbk.g (fun a0 => a0) n t.1 t.2.1 t.2.2
def Fbk.pat : List AV → Blks → Option (LI × (Int × Bool))
 | [(.ints .u64 4 a0), (.int .i64 a1), (.bool a2)], [] => some (a0, a1, a2)
 | _, _ => none
def Fbk.shape (t : (LI × (Int × Bool))) : List AV × Blks := ([(.ints .u64 4 t.1), (.int .i64 t.2.1), (.bool t.2.2)], [])
def Fbk.res : LI → AV × Blks
 | u => (Prod.mk (.ints .u64 4 u) [])
def Fbk.resK {R : Type} (u : LI) (K : AV → Blks → Option R) : Option R := K (Fbk.res u).1 (Fbk.res u).2
def Fbk.c (n : Nat) : Abs.Callee := .mk' [] [none, none, none] Fbk.pat (Fbk.m n) Fbk.resK
end
end
section
noncomputable section
noncomputable def Faw.C (n : Nat) : Ctx := ⟨Tryd.prog, abiG, lookC [(128, Fbx.c n), (129, Fbk.c n)], fun _ => false⟩
def Faw.live : NL := fun k => match k with
 | 3 => ([8, 2, 1, 3, 7, 6], [7, 6])
 | _ => ([], [])
def Faw.l3_0.r {α : Type} (mk0 : LI → LI → α) (n : Nat) (rc : Int → Bool → Int → LI → LI → LI → Option α)  (x0 : Int) (x1 : Bool) (x2 : Int) (x3 : LI) (x4 : LI) (x5 : LI) : Option α :=
  if (decide (x0 < 256)) = true then
   if (decide ((IntKind.wrap .i64 (x0 - x2)) ≥ 0)) = true then
    if (decide ((IntKind.wrap .i64 (x0 - x2)) < 256)) = true then
     bindO (Fbx.m n (Prod.mk x3 (IntKind.wrap .i64 (x0 - x2)))) fun r10 =>
      bindO (Fbk.m n (Prod.mk x4 (Prod.mk x0 r10))) fun r12 =>
       rc (IntKind.wrap .i64 (x0 + 1)) x1 x2 x3 r12 x5
    else
     bindO (Fbk.m n (Prod.mk x4 (Prod.mk x0 x1))) fun r10 =>
      rc (IntKind.wrap .i64 (x0 + 1)) x1 x2 x3 r10 x5
   else
    bindO (Fbk.m n (Prod.mk x4 (Prod.mk x0 x1))) fun r8 =>
     rc (IntKind.wrap .i64 (x0 + 1)) x1 x2 x3 r8 x5
  else
   some (mk0 x4 x5)
def Faw.l3_0.g {α : Type} (mk0 : LI → LI → α) (n : Nat) : Nat → Int → Bool → Int → LI → LI → LI → Option α
 | 0, _, _, _, _, _, _ => none
 | m + 1, x0, x1, x2, x3, x4, x5 => Faw.l3_0.r mk0 n (fun y0 y1 y2 y3 y4 y5 => Faw.l3_0.g mk0 n m y0 y1 y2 y3 y4 y5)  x0 x1 x2 x3 x4 x5
def Faw.l3_0.m (n m : Nat) (t : (Int × (Bool × (Int × (LI × (LI × LI)))))) : Option (LI × LI) := Faw.l3_0.g (fun a0 a1 => (a0, a1)) n m t.1 t.2.1 t.2.2.1 t.2.2.2.1 t.2.2.2.2.1 t.2.2.2.2.2
def Faw.l3_0.pat : St → Option (Int × (Bool × (Int × (LI × (LI × LI)))))
 | (St.mk [(.int .i64 x0), (.bool x1), (.int .i64 x2), (.ptr 0 []), (.ptr 1 []), (.ptr 2 [])] [(some (.var (.ints .u64 4 x3))), (some (.var (.ints .u64 4 x4))), (some (.var (.ints .u64 4 x5)))]) => some (x0, x1, x2, x3, x4, x5)
 | _ => none
def Faw.l3_0.shape (t : (Int × (Bool × (Int × (LI × (LI × LI)))))) : St := (St.mk [(.int .i64 t.1), (.bool t.2.1), (.int .i64 t.2.2.1), (.ptr 0 []), (.ptr 1 []), (.ptr 2 [])] [(some (.var (.ints .u64 4 t.2.2.2.1))), (some (.var (.ints .u64 4 t.2.2.2.2.1))), (some (.var (.ints .u64 4 t.2.2.2.2.2)))])
def Faw.l3_0.res : (LI × LI) → Ex × St
 | u => (Prod.mk (.exit 0) (St.mk [(.ptr 0 []), (.ptr 1 [])] [(some (.var (.ints .u64 4 u.1))), (some (.var (.ints .u64 4 u.2)))]))
def Faw.l3_0.resK {R : Type} (u : (LI × LI)) (K : Ex → St → Option R) : Option R := K (Faw.l3_0.res u).1 (Faw.l3_0.res u).2
noncomputable def Faw.A (n : Nat) : Ann := ⟨Tryd.f114.ntmps, 0, Faw.live, [], [none], fun k => match k with
 | 3 => some (.mk' Faw.l3_0.pat (Faw.l3_0.m n n) Faw.l3_0.resK)
 | _ => none, noNL, lookJ []⟩
noncomputable def Faw.b0 : Code := (loopsIn (Tryd.f114.body.getD .skip)).getD 0 .skip
def Faw.g {α : Type} (mk0 : LI → α) (n : Nat) (a0 : LI) (a1 : Int) (a2 : Bool) : Option α :=
 bindO (Faw.l3_0.m n n (0, a2, a1, a0, [0, 0, 0, 0], [0, 0, 0, 0])) fun r2 =>
  some (mk0 (Prod.fst r2))
def Faw.m (n : Nat) (t : (LI × (Int × Bool))) : Option LI := Faw.g (fun a0 => a0) n t.1 t.2.1 t.2.2
def Faw.pat : List AV → Blks → Option (LI × (Int × Bool))
 | [(.ints .u64 4 a0), (.int .i64 a1), (.bool a2)], [] => some (a0, a1, a2)
 | _, _ => none
def Faw.shape (t : (LI × (Int × Bool))) : List AV × Blks := ([(.ints .u64 4 t.1), (.int .i64 t.2.1), (.bool t.2.2)], [])
def Faw.res : LI → AV × Blks
 | u => (Prod.mk (.ints .u64 4 u) [])
def Faw.resK {R : Type} (u : LI) (K : AV → Blks → Option R) : Option R := K (Faw.res u).1 (Faw.res u).2
def Faw.c (n : Nat) : Abs.Callee := .mk' [] [none, none, none] Faw.pat (Faw.m n) Faw.resK
end
end
section
noncomputable section
noncomputable def Fcc.C (n : Nat) : Ctx := ⟨Tryd.prog, abiG, lookC [(115, Fcb.c n), (114, Faw.c n)], fun _ => false⟩
noncomputable def Fcc.A (n : Nat) : Ann := ⟨Tryd.f101.ntmps, 0, noNL, [], [none], fun k => match k with
 | _ => none, noNL, lookJ []⟩
def Fcc.g {α : Type} (mk0 : LI → α) (n : Nat) (a0 : LI) (a1 : LI) : Option α :=
 bindO (Fcb.m n a0) fun r2 =>
  bindO (Faw.m n (Prod.mk a1 (Prod.mk r2 false))) fun r4 =>
   some (mk0 r4)
def Fcc.m (n : Nat) (t : (LI × LI)) : Option LI := Fcc.g (fun a0 => a0) n t.1 t.2
def Fcc.pat : List AV → Blks → Option (LI × LI)
 | [(.ints .u64 4 a0), (.ints .u64 4 a1)], [] => some (a0, a1)
 | _, _ => none
def Fcc.shape (t : (LI × LI)) : List AV × Blks := ([(.ints .u64 4 t.1), (.ints .u64 4 t.2)], [])
def Fcc.res : LI → AV × Blks
 | u => (Prod.mk (.ints .u64 4 u) [])
def Fcc.resK {R : Type} (u : LI) (K : AV → Blks → Option R) : Option R := K (Fcc.res u).1 (Fcc.res u).2
def Fcc.c (n : Nat) : Abs.Callee := .mk' [] [none, none] Fcc.pat (Fcc.m n) Fcc.resK
end
end
section
theorem Fav.gmap {α β : Type} (h : β → α) (mk0 : Int → Bool → β) (n : Nat) (a0 : LI) : Fav.g (fun a0 a1 => (h (mk0 a0 a1))) n a0 = (Fav.g mk0 n a0).map h := by
  unfold Fav.g
  exact (ite_map rfl (ite_map rfl (ite_map rfl rfl)))
theorem Fav.run (n : Nat) (a0 : LI) : runF (Fav.C n) (Fav.A n) n Tryd.f64 [(.ints .u64 4 a0)] [] (fun v o => some (v, o)) = Fav.g (fun a0 a1 => ((Prod.mk (.tup [(.int .u64 a0), (.bool a1)]) []) : AV × Blks)) n a0 := by kernel_rfl
theorem Fav.call (hmix : Tryd.prog.follows .mixedOrders = true) (n : Nat) (t : LI) (u) (h : Fav.m n t = some u) : FnC Tryd.prog abiG 64 (Fav.shape t).1 (Fav.shape t).2 (Fav.res u).1 (Fav.res u).2 :=
  fnC1 (C := Fav.C n) (A := Fav.A n) (fn := Tryd.f64) rfl .nil hmix Tryd.func64 (by kernel_rfl) (lp := []) (by kernel_rfl) .nil
  (nj rfl) (by decide) rfl rfl (by show 1 ≤ Tryd.f64.ntmps; decide) (Fav.run n t) (Fav.gmap Fav.res (fun a0 a1 => (a0, a1)) n t) h
theorem Fav.s (hmix : Tryd.prog.follows .mixedOrders = true) (n : Nat) : CalleeS Tryd.prog abiG 64 (Fav.c n) :=
  .mk1 (res := Fav.res) (shape := Fav.shape) (fun R u K => rfl) (fun _ _ _ h => by unfold Fav.pat at h; split at h <;> cases h; rfl) (fun t u h => Fav.call hmix n t u h) Tryd.func64 (by decide) (by kernel_rfl)
end
section
theorem Fcb.gmap {α β : Type} (h : β → α) (mk0 : Int → β) (n : Nat) (a0 : LI) : Fcb.g (fun a0 => (h (mk0 a0))) n a0 = (Fcb.g mk0 n a0).map h := by
  unfold Fcb.g
  exact (bindO_map fun r2 => (ite_map rfl (ite_map rfl rfl)))
theorem Fcb.run (n : Nat) (a0 : LI) : runF (Fcb.C n) (Fcb.A n) n Tryd.f115 [(.ints .u64 4 a0)] [] (fun v o => some (v, o)) = Fcb.g (fun a0 => ((Prod.mk (.int .i64 a0) []) : AV × Blks)) n a0 := by kernel_rfl
theorem Fcb.call (hmix : Tryd.prog.follows .mixedOrders = true) (n : Nat) (t : LI) (u) (h : Fcb.m n t = some u) : FnC Tryd.prog abiG 115 (Fcb.shape t).1 (Fcb.shape t).2 (Fcb.res u).1 (Fcb.res u).2 :=
  fnC1 (C := Fcb.C n) (A := Fcb.A n) (fn := Tryd.f115) rfl (.cons (Fav.s hmix n) .nil) hmix Tryd.func115 (by kernel_rfl) (lp := []) (by kernel_rfl) .nil
  (nj rfl) (by decide) rfl rfl (by show 1 ≤ Tryd.f115.ntmps; decide) (Fcb.run n t) (Fcb.gmap Fcb.res (fun a0 => a0) n t) h
theorem Fcb.s (hmix : Tryd.prog.follows .mixedOrders = true) (n : Nat) : CalleeS Tryd.prog abiG 115 (Fcb.c n) :=
  .mk1 (res := Fcb.res) (shape := Fcb.shape) (fun R u K => rfl) (fun _ _ _ h => by unfold Fcb.pat at h; split at h <;> cases h; rfl) (fun t u h => Fcb.call hmix n t u h) Tryd.func115 (by decide) (by kernel_rfl)
end
section
theorem Fbk.gmap {α β : Type} (h : β → α) (mk0 : LI → β) (n : Nat) (a0 : LI) (a1 : Int) (a2 : Bool) : Fbk.g (fun a0 => (h (mk0 a0))) n a0 a1 a2 = (Fbk.g mk0 n a0 a1 a2).map h := by
  unfold Fbk.g
  exact (ite_map (ite_map (ite_map (ite_map (ite_map (ite_map rfl rfl) rfl) rfl) rfl) (ite_map (ite_map (ite_map (ite_map rfl rfl) rfl) rfl) rfl)) rfl)
theorem Fbk.run (n : Nat) (a0 : LI) (a1 : Int) (a2 : Bool) : runF (Fbk.C n) (Fbk.A n) n Tryd.f129 [(.ints .u64 4 a0), (.int .i64 a1), (.bool a2)] [] (fun v o => some (v, o)) = Fbk.g (fun a0 => ((Prod.mk (.ints .u64 4 a0) []) : AV × Blks)) n a0 a1 a2 := by kernel_rfl
theorem Fbk.call (hmix : Tryd.prog.follows .mixedOrders = true) (n : Nat) (t : (LI × (Int × Bool))) (u) (h : Fbk.m n t = some u) : FnC Tryd.prog abiG 129 (Fbk.shape t).1 (Fbk.shape t).2 (Fbk.res u).1 (Fbk.res u).2 :=
  fnC1 (C := Fbk.C n) (A := Fbk.A n) (fn := Tryd.f129) rfl .nil hmix Tryd.func129 (by kernel_rfl) (lp := []) (by kernel_rfl) .nil
  (nj rfl) (by decide) rfl rfl (by show 3 ≤ Tryd.f129.ntmps; decide) (Fbk.run n t.1 t.2.1 t.2.2) (Fbk.gmap Fbk.res (fun a0 => a0) n t.1 t.2.1 t.2.2) h
theorem Fbk.s (hmix : Tryd.prog.follows .mixedOrders = true) (n : Nat) : CalleeS Tryd.prog abiG 129 (Fbk.c n) :=
  .mk1 (res := Fbk.res) (shape := Fbk.shape) (fun R u K => rfl) (fun _ _ _ h => by unfold Fbk.pat at h; split at h <;> cases h; rfl) (fun t u h => Fbk.call hmix n t u h) Tryd.func129 (by decide) (by kernel_rfl)
end
section
noncomputable abbrev Faw.R0 (n : Nat) := roundOf (Faw.C n) (Faw.A n) n Faw.b0
theorem Faw.l3_0.rmap {α β : Type} (h : β → α) (mk0 : LI → LI → β) (n : Nat) (f : Int → Bool → Int → LI → LI → LI → Option β)  (x0 : Int) (x1 : Bool) (x2 : Int) (x3 : LI) (x4 : LI) (x5 : LI) : Faw.l3_0.r (fun a0 a1 => (h (mk0 a0 a1))) n (fun y0 y1 y2 y3 y4 y5 => (f y0 y1 y2 y3 y4 y5).map h) x0 x1 x2 x3 x4 x5 = (Faw.l3_0.r mk0 n f x0 x1 x2 x3 x4 x5).map h := by
  unfold Faw.l3_0.r
  exact (ite_map (ite_map (ite_map (bindO_map fun r10 => (bindO_map fun r12 => rfl)) (bindO_map fun r10 => rfl)) (bindO_map fun r8 => rfl)) rfl)
theorem Faw.l3_0.gmap {α β : Type} (h : β → α) (mk0 : LI → LI → β) (n : Nat) : ∀ (m : Nat) (x0 : Int) (x1 : Bool) (x2 : Int) (x3 : LI) (x4 : LI) (x5 : LI), Faw.l3_0.g (fun a0 a1 => (h (mk0 a0 a1))) n m x0 x1 x2 x3 x4 x5 = (Faw.l3_0.g mk0 n m x0 x1 x2 x3 x4 x5).map h
  | 0, _, _, _, _, _, _ => rfl
  | m + 1, x0, x1, x2, x3, x4, x5 => by
    unfold Faw.l3_0.g
    rw [← Faw.l3_0.rmap]
    congr
    · funext y0 y1 y2 y3 y4 y5; exact Faw.l3_0.gmap h mk0 n m y0 y1 y2 y3 y4 y5
theorem Faw.l3_0.pat_shape : ∀ st t, Faw.l3_0.pat st = some t → st = Faw.l3_0.shape t := fun _ _ h => by unfold Faw.l3_0.pat at h; split at h <;> cases h; rfl
def Faw.l3_0.k0 : LI → LI → Ex × St := (fun a0 a1 => ((Prod.mk (.exit 0) (St.mk [(.ptr 0 []), (.ptr 1 [])] [(some (.var (.ints .u64 4 a0))), (some (.var (.ints .u64 4 a1)))])) : Ex × St))
theorem Faw.l3_0.round (n : Nat) (rc : St → Option (Ex × St)) (x0 : Int) (x1 : Bool) (x2 : Int) (x3 : LI) (x4 : LI) (x5 : LI) : Faw.R0 n rc ((St.mk [(.int .i64 x0), (.bool x1), (.int .i64 x2), (.ptr 0 []), (.ptr 1 []), (.ptr 2 [])] [(some (.var (.ints .u64 4 x3))), (some (.var (.ints .u64 4 x4))), (some (.var (.ints .u64 4 x5)))])) = Faw.l3_0.r Faw.l3_0.k0 n (fun y0 y1 y2 y3 y4 y5 => rc ((St.mk [(.int .i64 y0), (.bool y1), (.int .i64 y2), (.ptr 0 []), (.ptr 1 []), (.ptr 2 [])] [(some (.var (.ints .u64 4 y3))), (some (.var (.ints .u64 4 y4))), (some (.var (.ints .u64 4 y5)))]))) x0 x1 x2 x3 x4 x5 := by kernel_rfl
theorem Faw.l3_0.loop' (n : Nat) : ∀ (m : Nat) (t : (Int × (Bool × (Int × (LI × (LI × LI)))))), loopOf (Faw.R0 n) m (Faw.l3_0.shape t) = Faw.l3_0.g Faw.l3_0.k0 n m t.1 t.2.1 t.2.2.1 t.2.2.2.1 t.2.2.2.2.1 t.2.2.2.2.2 :=
  loop_of_round (shape := Faw.l3_0.shape) (body := Faw.R0 n) (g := fun m t => Faw.l3_0.g Faw.l3_0.k0 n m t.1 t.2.1 t.2.2.1 t.2.2.2.1 t.2.2.2.2.1 t.2.2.2.2.2) (fun t => rfl)
    fun m t ih => (Faw.l3_0.round n (loopOf (Faw.R0 n) m) t.1 t.2.1 t.2.2.1 t.2.2.2.1 t.2.2.2.2.1 t.2.2.2.2.2).trans (congrFun (congrFun (congrFun (congrFun (congrFun (congrFun (congrArg (Faw.l3_0.r Faw.l3_0.k0 n) (funext fun y0 => funext fun y1 => funext fun y2 => funext fun y3 => funext fun y4 => funext fun y5 => ih (y0, y1, y2, y3, y4, y5))) t.1) t.2.1) t.2.2.1) t.2.2.2.1) t.2.2.2.2.1) t.2.2.2.2.2)
theorem Faw.l3_0.loop (n m : Nat) (t : (Int × (Bool × (Int × (LI × (LI × LI)))))) : loopOf (Faw.R0 n) m (Faw.l3_0.shape t) = (Faw.l3_0.m n m t).map Faw.l3_0.res :=
  (Faw.l3_0.loop' n m t).trans (Faw.l3_0.gmap Faw.l3_0.res (fun a0 a1 => (a0, a1)) n m t.1 t.2.1 t.2.2.1 t.2.2.2.1 t.2.2.2.2.1 t.2.2.2.2.2)
theorem Faw.gmap {α β : Type} (h : β → α) (mk0 : LI → β) (n : Nat) (a0 : LI) (a1 : Int) (a2 : Bool) : Faw.g (fun a0 => (h (mk0 a0))) n a0 a1 a2 = (Faw.g mk0 n a0 a1 a2).map h := by
  unfold Faw.g
  exact (bindO_map fun r2 => rfl)
theorem Faw.run (n : Nat) (a0 : LI) (a1 : Int) (a2 : Bool) : runF (Faw.C n) (Faw.A n) n Tryd.f114 [(.ints .u64 4 a0), (.int .i64 a1), (.bool a2)] [] (fun v o => some (v, o)) = Faw.g (fun a0 => ((Prod.mk (.ints .u64 4 a0) []) : AV × Blks)) n a0 a1 a2 := by kernel_rfl
theorem Faw.call (hmix : Tryd.prog.follows .mixedOrders = true) (n : Nat) (t : (LI × (Int × Bool))) (u) (h : Faw.m n t = some u) : FnC Tryd.prog abiG 114 (Faw.shape t).1 (Faw.shape t).2 (Faw.res u).1 (Faw.res u).2 :=
  fnC1 (C := Faw.C n) (A := Faw.A n) (fn := Tryd.f114) rfl (.cons (Fbx.s hmix n) (.cons (Fbk.s hmix n) .nil)) hmix Tryd.func114 (by kernel_rfl) (lp := [Faw.b0]) (by kernel_rfl) (.cons (show (Faw.A n).loop (key Faw.b0) = some (.mk' Faw.l3_0.pat (Faw.l3_0.m n n) Faw.l3_0.resK) by kernel_rfl) (LoopS.of (res := Faw.l3_0.res) (fun R u K => rfl) Faw.l3_0.pat_shape fun t => Faw.l3_0.loop n n t)
  .nil)
  (nj rfl) (by decide) rfl rfl (by show 3 ≤ Tryd.f114.ntmps; decide) (Faw.run n t.1 t.2.1 t.2.2) (Faw.gmap Faw.res (fun a0 => a0) n t.1 t.2.1 t.2.2) h
theorem Faw.s (hmix : Tryd.prog.follows .mixedOrders = true) (n : Nat) : CalleeS Tryd.prog abiG 114 (Faw.c n) :=
  .mk1 (res := Faw.res) (shape := Faw.shape) (fun R u K => rfl) (fun _ _ _ h => by unfold Faw.pat at h; split at h <;> cases h; rfl) (fun t u h => Faw.call hmix n t u h) Tryd.func114 (by decide) (by kernel_rfl)
end
section
theorem Fcc.gmap {α β : Type} (h : β → α) (mk0 : LI → β) (n : Nat) (a0 : LI) (a1 : LI) : Fcc.g (fun a0 => (h (mk0 a0))) n a0 a1 = (Fcc.g mk0 n a0 a1).map h := by
  unfold Fcc.g
  exact (bindO_map fun r2 => (bindO_map fun r4 => rfl))
theorem Fcc.run (n : Nat) (a0 : LI) (a1 : LI) : runF (Fcc.C n) (Fcc.A n) n Tryd.f101 [(.ints .u64 4 a0), (.ints .u64 4 a1)] [] (fun v o => some (v, o)) = Fcc.g (fun a0 => ((Prod.mk (.ints .u64 4 a0) []) : AV × Blks)) n a0 a1 := by kernel_rfl
theorem Fcc.call (hmix : Tryd.prog.follows .mixedOrders = true) (n : Nat) (t : (LI × LI)) (u) (h : Fcc.m n t = some u) : FnC Tryd.prog abiG 101 (Fcc.shape t).1 (Fcc.shape t).2 (Fcc.res u).1 (Fcc.res u).2 :=
  fnC1 (C := Fcc.C n) (A := Fcc.A n) (fn := Tryd.f101) rfl (.cons (Fcb.s hmix n) (.cons (Faw.s hmix n) .nil)) hmix Tryd.func101 (by kernel_rfl) (lp := []) (by kernel_rfl) .nil
  (nj rfl) (by decide) rfl rfl (by show 2 ≤ Tryd.f101.ntmps; decide) (Fcc.run n t.1 t.2) (Fcc.gmap Fcc.res (fun a0 => a0) n t.1 t.2) h
theorem Fcc.s (hmix : Tryd.prog.follows .mixedOrders = true) (n : Nat) : CalleeS Tryd.prog abiG 101 (Fcc.c n) :=
  .mk1 (res := Fcc.res) (shape := Fcc.shape) (fun R u K => rfl) (fun _ _ _ h => by unfold Fcc.pat at h; split at h <;> cases h; rfl) (fun t u h => Fcc.call hmix n t u h) Tryd.func101 (by decide) (by kernel_rfl)
end
section
noncomputable section
noncomputable def Fcd.C (n : Nat) : Ctx := ⟨Tryd.prog, abiG, lookC [(115, Fcb.c n), (114, Faw.c n)], fun _ => false⟩
noncomputable def Fcd.A (n : Nat) : Ann := ⟨Tryd.f95.ntmps, 0, noNL, [], [none], fun k => match k with
 | _ => none, noNL, lookJ []⟩
def Fcd.g {α : Type} (mk0 : LI → α) (n : Nat) (a0 : LI) (a1 : LI) : Option α :=
 bindO (Fcb.m n a0) fun r2 =>
  bindO (Faw.m n (Prod.mk a1 (Prod.mk (IntKind.wrap .i64 (0 - r2)) false))) fun r4 =>
   some (mk0 r4)
def Fcd.m (n : Nat) (t : (LI × LI)) : Option LI := Fcd.g (fun a0 => a0) n t.1 t.2
def Fcd.pat : List AV → Blks → Option (LI × LI)
 | [(.ints .u64 4 a0), (.ints .u64 4 a1)], [] => some (a0, a1)
 | _, _ => none
def Fcd.shape (t : (LI × LI)) : List AV × Blks := ([(.ints .u64 4 t.1), (.ints .u64 4 t.2)], [])
def Fcd.res : LI → AV × Blks
 | u => (Prod.mk (.ints .u64 4 u) [])
def Fcd.resK {R : Type} (u : LI) (K : AV → Blks → Option R) : Option R := K (Fcd.res u).1 (Fcd.res u).2
def Fcd.c (n : Nat) : Abs.Callee := .mk' [] [none, none] Fcd.pat (Fcd.m n) Fcd.resK
end
end
section
theorem Fcd.gmap {α β : Type} (h : β → α) (mk0 : LI → β) (n : Nat) (a0 : LI) (a1 : LI) : Fcd.g (fun a0 => (h (mk0 a0))) n a0 a1 = (Fcd.g mk0 n a0 a1).map h := by
  unfold Fcd.g
  exact (bindO_map fun r2 => (bindO_map fun r4 => rfl))
theorem Fcd.run (n : Nat) (a0 : LI) (a1 : LI) : runF (Fcd.C n) (Fcd.A n) n Tryd.f95 [(.ints .u64 4 a0), (.ints .u64 4 a1)] [] (fun v o => some (v, o)) = Fcd.g (fun a0 => ((Prod.mk (.ints .u64 4 a0) []) : AV × Blks)) n a0 a1 := by kernel_rfl
theorem Fcd.call (hmix : Tryd.prog.follows .mixedOrders = true) (n : Nat) (t : (LI × LI)) (u) (h : Fcd.m n t = some u) : FnC Tryd.prog abiG 95 (Fcd.shape t).1 (Fcd.shape t).2 (Fcd.res u).1 (Fcd.res u).2 :=
  fnC1 (C := Fcd.C n) (A := Fcd.A n) (fn := Tryd.f95) rfl (.cons (Fcb.s hmix n) (.cons (Faw.s hmix n) .nil)) hmix Tryd.func95 (by kernel_rfl) (lp := []) (by kernel_rfl) .nil
  (nj rfl) (by decide) rfl rfl (by show 2 ≤ Tryd.f95.ntmps; decide) (Fcd.run n t.1 t.2) (Fcd.gmap Fcd.res (fun a0 => a0) n t.1 t.2) h
theorem Fcd.s (hmix : Tryd.prog.follows .mixedOrders = true) (n : Nat) : CalleeS Tryd.prog abiG 95 (Fcd.c n) :=
  .mk1 (res := Fcd.res) (shape := Fcd.shape) (fun R u K => rfl) (fun _ _ _ h => by unfold Fcd.pat at h; split at h <;> cases h; rfl) (fun t u h => Fcd.call hmix n t u h) Tryd.func95 (by decide) (by kernel_rfl)
end
section
noncomputable section
noncomputable def Fam.C (n : Nat) : Ctx := ⟨Tryd.prog, abiG, lookC [], fun _ => false⟩
noncomputable def Fam.A (n : Nat) : Ann := ⟨Tryd.f120.ntmps, 0, noNL, [], [none, none], fun k => match k with
 | _ => none, noNL, lookJ []⟩
def Fam.g {α : Type} (mk0 : Int → Bool → α) (n : Nat) (a0 : LI) : Option α :=
 if ((ibits BinOp.or .u64 (ibits BinOp.or .u64 (List.getD a0 1 0) (List.getD a0 2 0)) (List.getD a0 3 0)) != 0) = true then
  some (mk0 0 false)
 else
  some (mk0 (List.getD a0 0 0) true)
def Fam.m (n : Nat) (t : LI) : Option (Int × Bool) := Fam.g (fun a0 a1 => (a0, a1)) n t
def Fam.pat : List AV → Blks → Option LI
 | [(.ints .u64 4 a0)], [] => some a0
 | _, _ => none
def Fam.shape (t : LI) : List AV × Blks := ([(.ints .u64 4 t)], [])
def Fam.res : (Int × Bool) → AV × Blks
 | u => (Prod.mk (.tup [(.int .u64 u.1), (.bool u.2)]) [])
def Fam.resK {R : Type} (u : (Int × Bool)) (K : AV → Blks → Option R) : Option R := K (Fam.res u).1 (Fam.res u).2
def Fam.c (n : Nat) : Abs.Callee := .mk' [] [none] Fam.pat (Fam.m n) Fam.resK
end
end
section
noncomputable section
noncomputable def Fbl.C (n : Nat) : Ctx := ⟨Tryd.prog, abiG, lookC [(120, Fam.c n)], fun _ => false⟩
noncomputable def Fbl.A (n : Nat) : Ann := ⟨Tryd.f113.ntmps, 0, noNL, [], [none], fun k => match k with
 | _ => none, noNL, lookJ []⟩
def Fbl.g {α : Type} (mk0 : Int → α) (n : Nat) (a0 : LI) : Option α :=
 bindO (Fam.m n a0) fun r2 =>
  if (!(Prod.snd r2)) = true then
   some (mk0 256)
  else
   some (mk0 (if 256 < (Prod.fst r2) then 256 else (Prod.fst r2)))
def Fbl.m (n : Nat) (t : LI) : Option Int := Fbl.g (fun a0 => a0) n t
def Fbl.pat : List AV → Blks → Option LI
 | [(.ints .u64 4 a0)], [] => some a0
 | _, _ => none
def Fbl.shape (t : LI) : List AV × Blks := ([(.ints .u64 4 t)], [])
def Fbl.res : Int → AV × Blks
 | u => (Prod.mk (.int .u64 u) [])
def Fbl.resK {R : Type} (u : Int) (K : AV → Blks → Option R) : Option R := K (Fbl.res u).1 (Fbl.res u).2
def Fbl.c (n : Nat) : Abs.Callee := .mk' [] [none] Fbl.pat (Fbl.m n) Fbl.resK
end
end
section
theorem Fam.gmap {α β : Type} (h : β → α) (mk0 : Int → Bool → β) (n : Nat) (a0 : LI) : Fam.g (fun a0 a1 => (h (mk0 a0 a1))) n a0 = (Fam.g mk0 n a0).map h := by
  unfold Fam.g
  exact (ite_map rfl rfl)
theorem Fam.run (n : Nat) (a0 : LI) : runF (Fam.C n) (Fam.A n) n Tryd.f120 [(.ints .u64 4 a0)] [] (fun v o => some (v, o)) = Fam.g (fun a0 a1 => ((Prod.mk (.tup [(.int .u64 a0), (.bool a1)]) []) : AV × Blks)) n a0 := by kernel_rfl
theorem Fam.call (hmix : Tryd.prog.follows .mixedOrders = true) (n : Nat) (t : LI) (u) (h : Fam.m n t = some u) : FnC Tryd.prog abiG 120 (Fam.shape t).1 (Fam.shape t).2 (Fam.res u).1 (Fam.res u).2 :=
  fnC1 (C := Fam.C n) (A := Fam.A n) (fn := Tryd.f120) rfl .nil hmix Tryd.func120 (by kernel_rfl) (lp := []) (by kernel_rfl) .nil
  (nj rfl) (by decide) rfl rfl (by show 1 ≤ Tryd.f120.ntmps; decide) (Fam.run n t) (Fam.gmap Fam.res (fun a0 a1 => (a0, a1)) n t) h
theorem Fam.s (hmix : Tryd.prog.follows .mixedOrders = true) (n : Nat) : CalleeS Tryd.prog abiG 120 (Fam.c n) :=
  .mk1 (res := Fam.res) (shape := Fam.shape) (fun R u K => rfl) (fun _ _ _ h => by unfold Fam.pat at h; split at h <;> cases h; rfl) (fun t u h => Fam.call hmix n t u h) Tryd.func120 (by decide) (by kernel_rfl)
end
section
theorem Fbl.gmap {α β : Type} (h : β → α) (mk0 : Int → β) (n : Nat) (a0 : LI) : Fbl.g (fun a0 => (h (mk0 a0))) n a0 = (Fbl.g mk0 n a0).map h := by
  unfold Fbl.g
  exact (bindO_map fun r2 => (ite_map rfl rfl))
theorem Fbl.run (n : Nat) (a0 : LI) : runF (Fbl.C n) (Fbl.A n) n Tryd.f113 [(.ints .u64 4 a0)] [] (fun v o => some (v, o)) = Fbl.g (fun a0 => ((Prod.mk (.int .u64 a0) []) : AV × Blks)) n a0 := by kernel_rfl
theorem Fbl.call (hmix : Tryd.prog.follows .mixedOrders = true) (n : Nat) (t : LI) (u) (h : Fbl.m n t = some u) : FnC Tryd.prog abiG 113 (Fbl.shape t).1 (Fbl.shape t).2 (Fbl.res u).1 (Fbl.res u).2 :=
  fnC1 (C := Fbl.C n) (A := Fbl.A n) (fn := Tryd.f113) rfl (.cons (Fam.s hmix n) .nil) hmix Tryd.func113 (by kernel_rfl) (lp := []) (by kernel_rfl) .nil
  (nj rfl) (by decide) rfl rfl (by show 1 ≤ Tryd.f113.ntmps; decide) (Fbl.run n t) (Fbl.gmap Fbl.res (fun a0 => a0) n t) h
theorem Fbl.s (hmix : Tryd.prog.follows .mixedOrders = true) (n : Nat) : CalleeS Tryd.prog abiG 113 (Fbl.c n) :=
  .mk1 (res := Fbl.res) (shape := Fbl.shape) (fun R u K => rfl) (fun _ _ _ h => by unfold Fbl.pat at h; split at h <;> cases h; rfl) (fun t u h => Fbl.call hmix n t u h) Tryd.func113 (by decide) (by kernel_rfl)
end
section
noncomputable section
noncomputable def Fbm.C (n : Nat) : Ctx := ⟨Tryd.prog, abiG, lookC [(113, Fbl.c n)], fun _ => false⟩
def Fbm.live : NL := fun k => match k with
 | 4 => ([11, 5, 3, 6, 4], [6, 4])
 | _ => ([], [])
def Fbm.l4_0.r {α : Type} (mk0 : LI → LI → α) (n : Nat) (rc : Int → Int → LI → LI → LI → Option α)  (x0 : Int) (x1 : Int) (x2 : LI) (x3 : LI) (x4 : LI) : Option α :=
  if (decide (x0 < 4)) = true then
   if (decide ((IntKind.wrap .i64 (x0 - (IntKind.wrap .i64 (IntKind.wrap .u64 (Int.tdiv x1 64))))) ≥ 0)) = true then
    if 0 ≤ (IntKind.wrap .i64 (x0 - (IntKind.wrap .i64 (IntKind.wrap .u64 (Int.tdiv x1 64))))) then
     if (IntKind.wrap .i64 (x0 - (IntKind.wrap .i64 (IntKind.wrap .u64 (Int.tdiv x1 64))))) < 4 then
      if 0 ≤ (Int.tmod x1 64) then
       if 0 ≤ x0 then
        if x0 < 4 then
         if (decide ((IntKind.wrap .i64 (x0 - (IntKind.wrap .i64 (IntKind.wrap .u64 (Int.tdiv x1 64))))) > 0)) = true then
          if ((Int.tmod x1 64) != 0) = true then
           if 0 ≤ x0 then
            if x0 < 4 then
             if 0 ≤ (IntKind.wrap .i64 ((IntKind.wrap .i64 (x0 - (IntKind.wrap .i64 (IntKind.wrap .u64 (Int.tdiv x1 64))))) - 1)) then
              if (IntKind.wrap .i64 ((IntKind.wrap .i64 (x0 - (IntKind.wrap .i64 (IntKind.wrap .u64 (Int.tdiv x1 64))))) - 1)) < 4 then
               if 0 ≤ (IntKind.wrap .u64 (64 - (Int.tmod x1 64))) then
                if 0 ≤ x0 then
                 if x0 < 4 then
                  rc (IntKind.wrap .i64 (x0 + 1)) x1 x2 (List.set (List.set x3 (Int.toNat x0) (ishl .u64 (List.getD x2 (Int.toNat (IntKind.wrap .i64 (x0 - (IntKind.wrap .i64 (IntKind.wrap .u64 (Int.tdiv x1 64)))))) 0) (Int.tmod x1 64))) (Int.toNat x0) (ibits BinOp.or .u64 (List.getD (List.set x3 (Int.toNat x0) (ishl .u64 (List.getD x2 (Int.toNat (IntKind.wrap .i64 (x0 - (IntKind.wrap .i64 (IntKind.wrap .u64 (Int.tdiv x1 64)))))) 0) (Int.tmod x1 64))) (Int.toNat x0) 0) (ishr .u64 (List.getD x2 (Int.toNat (IntKind.wrap .i64 ((IntKind.wrap .i64 (x0 - (IntKind.wrap .i64 (IntKind.wrap .u64 (Int.tdiv x1 64))))) - 1))) 0) (IntKind.wrap .u64 (64 - (Int.tmod x1 64)))))) x4
                 else
                  none
                else
                 none
               else
                none
              else
               none
             else
              none
            else
             none
           else
            none
          else
           rc (IntKind.wrap .i64 (x0 + 1)) x1 x2 (List.set x3 (Int.toNat x0) (ishl .u64 (List.getD x2 (Int.toNat (IntKind.wrap .i64 (x0 - (IntKind.wrap .i64 (IntKind.wrap .u64 (Int.tdiv x1 64)))))) 0) (Int.tmod x1 64))) x4
         else
          rc (IntKind.wrap .i64 (x0 + 1)) x1 x2 (List.set x3 (Int.toNat x0) (ishl .u64 (List.getD x2 (Int.toNat (IntKind.wrap .i64 (x0 - (IntKind.wrap .i64 (IntKind.wrap .u64 (Int.tdiv x1 64)))))) 0) (Int.tmod x1 64))) x4
        else
         none
       else
        none
      else
       none
     else
      none
    else
     none
   else
    if (decide ((IntKind.wrap .i64 (x0 - (IntKind.wrap .i64 (IntKind.wrap .u64 (Int.tdiv x1 64))))) > 0)) = true then
     if ((Int.tmod x1 64) != 0) = true then
      if 0 ≤ x0 then
       if x0 < 4 then
        if 0 ≤ (IntKind.wrap .i64 ((IntKind.wrap .i64 (x0 - (IntKind.wrap .i64 (IntKind.wrap .u64 (Int.tdiv x1 64))))) - 1)) then
         if (IntKind.wrap .i64 ((IntKind.wrap .i64 (x0 - (IntKind.wrap .i64 (IntKind.wrap .u64 (Int.tdiv x1 64))))) - 1)) < 4 then
          if 0 ≤ (IntKind.wrap .u64 (64 - (Int.tmod x1 64))) then
           if 0 ≤ x0 then
            if x0 < 4 then
             rc (IntKind.wrap .i64 (x0 + 1)) x1 x2 (List.set x3 (Int.toNat x0) (ibits BinOp.or .u64 (List.getD x3 (Int.toNat x0) 0) (ishr .u64 (List.getD x2 (Int.toNat (IntKind.wrap .i64 ((IntKind.wrap .i64 (x0 - (IntKind.wrap .i64 (IntKind.wrap .u64 (Int.tdiv x1 64))))) - 1))) 0) (IntKind.wrap .u64 (64 - (Int.tmod x1 64)))))) x4
            else
             none
           else
            none
          else
           none
         else
          none
        else
         none
       else
        none
      else
       none
     else
      rc (IntKind.wrap .i64 (x0 + 1)) x1 x2 x3 x4
    else
     rc (IntKind.wrap .i64 (x0 + 1)) x1 x2 x3 x4
  else
   some (mk0 x3 x4)
def Fbm.l4_0.g {α : Type} (mk0 : LI → LI → α) (n : Nat) : Nat → Int → Int → LI → LI → LI → Option α
 | 0, _, _, _, _, _ => none
 | m + 1, x0, x1, x2, x3, x4 => Fbm.l4_0.r mk0 n (fun y0 y1 y2 y3 y4 => Fbm.l4_0.g mk0 n m y0 y1 y2 y3 y4)  x0 x1 x2 x3 x4
def Fbm.l4_0.m (n m : Nat) (t : (Int × (Int × (LI × (LI × LI))))) : Option (LI × LI) := Fbm.l4_0.g (fun a0 a1 => (a0, a1)) n m t.1 t.2.1 t.2.2.1 t.2.2.2.1 t.2.2.2.2
def Fbm.l4_0.pat : St → Option (Int × (Int × (LI × (LI × LI))))
 | (St.mk [(.int .i64 x0), (.int .u64 x1), (.ptr 0 []), (.ptr 1 []), (.ptr 2 [])] [(some (.var (.ints .u64 4 x2))), (some (.var (.ints .u64 4 x3))), (some (.var (.ints .u64 4 x4)))]) => some (x0, x1, x2, x3, x4)
 | _ => none
def Fbm.l4_0.shape (t : (Int × (Int × (LI × (LI × LI))))) : St := (St.mk [(.int .i64 t.1), (.int .u64 t.2.1), (.ptr 0 []), (.ptr 1 []), (.ptr 2 [])] [(some (.var (.ints .u64 4 t.2.2.1))), (some (.var (.ints .u64 4 t.2.2.2.1))), (some (.var (.ints .u64 4 t.2.2.2.2)))])
def Fbm.l4_0.res : (LI × LI) → Ex × St
 | u => (Prod.mk (.exit 0) (St.mk [(.ptr 0 []), (.ptr 1 [])] [(some (.var (.ints .u64 4 u.1))), (some (.var (.ints .u64 4 u.2)))]))
def Fbm.l4_0.resK {R : Type} (u : (LI × LI)) (K : Ex → St → Option R) : Option R := K (Fbm.l4_0.res u).1 (Fbm.l4_0.res u).2
noncomputable def Fbm.A (n : Nat) : Ann := ⟨Tryd.f100.ntmps, 0, Fbm.live, [], [none], fun k => match k with
 | 4 => some (.mk' Fbm.l4_0.pat (Fbm.l4_0.m n n) Fbm.l4_0.resK)
 | _ => none, noNL, lookJ []⟩
noncomputable def Fbm.b0 : Code := (loopsIn (Tryd.f100.body.getD .skip)).getD 0 .skip
def Fbm.g {α : Type} (mk0 : LI → α) (n : Nat) (a0 : LI) (a1 : LI) : Option α :=
 bindO (Fbl.m n a0) fun r2 =>
  bindO (Fbm.l4_0.m n n (0, r2, a1, [0, 0, 0, 0], [0, 0, 0, 0])) fun r4 =>
   some (mk0 (Prod.fst r4))
def Fbm.m (n : Nat) (t : (LI × LI)) : Option LI := Fbm.g (fun a0 => a0) n t.1 t.2
def Fbm.pat : List AV → Blks → Option (LI × LI)
 | [(.ints .u64 4 a0), (.ints .u64 4 a1)], [] => some (a0, a1)
 | _, _ => none
def Fbm.shape (t : (LI × LI)) : List AV × Blks := ([(.ints .u64 4 t.1), (.ints .u64 4 t.2)], [])
def Fbm.res : LI → AV × Blks
 | u => (Prod.mk (.ints .u64 4 u) [])
def Fbm.resK {R : Type} (u : LI) (K : AV → Blks → Option R) : Option R := K (Fbm.res u).1 (Fbm.res u).2
def Fbm.c (n : Nat) : Abs.Callee := .mk' [] [none, none] Fbm.pat (Fbm.m n) Fbm.resK
end
end
section
noncomputable abbrev Fbm.R0 (n : Nat) := roundOf (Fbm.C n) (Fbm.A n) n Fbm.b0
theorem Fbm.l4_0.rmap {α β : Type} (h : β → α) (mk0 : LI → LI → β) (n : Nat) (f : Int → Int → LI → LI → LI → Option β)  (x0 : Int) (x1 : Int) (x2 : LI) (x3 : LI) (x4 : LI) : Fbm.l4_0.r (fun a0 a1 => (h (mk0 a0 a1))) n (fun y0 y1 y2 y3 y4 => (f y0 y1 y2 y3 y4).map h) x0 x1 x2 x3 x4 = (Fbm.l4_0.r mk0 n f x0 x1 x2 x3 x4).map h := by
  unfold Fbm.l4_0.r
  exact (ite_map (ite_map (ite_map (ite_map (ite_map (ite_map (ite_map (ite_map (ite_map (ite_map (ite_map (ite_map (ite_map (ite_map (ite_map (ite_map rfl rfl) rfl) rfl) rfl) rfl) rfl) rfl) rfl) rfl) rfl) rfl) rfl) rfl) rfl) (ite_map (ite_map (ite_map (ite_map (ite_map (ite_map (ite_map (ite_map (ite_map rfl rfl) rfl) rfl) rfl) rfl) rfl) rfl) rfl) rfl)) rfl)
theorem Fbm.l4_0.gmap {α β : Type} (h : β → α) (mk0 : LI → LI → β) (n : Nat) : ∀ (m : Nat) (x0 : Int) (x1 : Int) (x2 : LI) (x3 : LI) (x4 : LI), Fbm.l4_0.g (fun a0 a1 => (h (mk0 a0 a1))) n m x0 x1 x2 x3 x4 = (Fbm.l4_0.g mk0 n m x0 x1 x2 x3 x4).map h
  | 0, _, _, _, _, _ => rfl
  | m + 1, x0, x1, x2, x3, x4 => by
    unfold Fbm.l4_0.g
    rw [← Fbm.l4_0.rmap]
    congr
    · funext y0 y1 y2 y3 y4; exact Fbm.l4_0.gmap h mk0 n m y0 y1 y2 y3 y4
theorem Fbm.l4_0.pat_shape : ∀ st t, Fbm.l4_0.pat st = some t → st = Fbm.l4_0.shape t := fun _ _ h => by unfold Fbm.l4_0.pat at h; split at h <;> cases h; rfl
def Fbm.l4_0.k0 : LI → LI → Ex × St := (fun a0 a1 => ((Prod.mk (.exit 0) (St.mk [(.ptr 0 []), (.ptr 1 [])] [(some (.var (.ints .u64 4 a0))), (some (.var (.ints .u64 4 a1)))])) : Ex × St))
theorem Fbm.l4_0.round (n : Nat) (rc : St → Option (Ex × St)) (x0 : Int) (x1 : Int) (x2 : LI) (x3 : LI) (x4 : LI) : Fbm.R0 n rc ((St.mk [(.int .i64 x0), (.int .u64 x1), (.ptr 0 []), (.ptr 1 []), (.ptr 2 [])] [(some (.var (.ints .u64 4 x2))), (some (.var (.ints .u64 4 x3))), (some (.var (.ints .u64 4 x4)))])) = Fbm.l4_0.r Fbm.l4_0.k0 n (fun y0 y1 y2 y3 y4 => rc ((St.mk [(.int .i64 y0), (.int .u64 y1), (.ptr 0 []), (.ptr 1 []), (.ptr 2 [])] [(some (.var (.ints .u64 4 y2))), (some (.var (.ints .u64 4 y3))), (some (.var (.ints .u64 4 y4)))]))) x0 x1 x2 x3 x4 := by kernel_rfl
theorem Fbm.l4_0.loop' (n : Nat) : ∀ (m : Nat) (t : (Int × (Int × (LI × (LI × LI))))), loopOf (Fbm.R0 n) m (Fbm.l4_0.shape t) = Fbm.l4_0.g Fbm.l4_0.k0 n m t.1 t.2.1 t.2.2.1 t.2.2.2.1 t.2.2.2.2 :=
  loop_of_round (shape := Fbm.l4_0.shape) (body := Fbm.R0 n) (g := fun m t => Fbm.l4_0.g Fbm.l4_0.k0 n m t.1 t.2.1 t.2.2.1 t.2.2.2.1 t.2.2.2.2) (fun t => rfl)
    fun m t ih => (Fbm.l4_0.round n (loopOf (Fbm.R0 n) m) t.1 t.2.1 t.2.2.1 t.2.2.2.1 t.2.2.2.2).trans (congrFun (congrFun (congrFun (congrFun (congrFun (congrArg (Fbm.l4_0.r Fbm.l4_0.k0 n) (funext fun y0 => funext fun y1 => funext fun y2 => funext fun y3 => funext fun y4 => ih (y0, y1, y2, y3, y4))) t.1) t.2.1) t.2.2.1) t.2.2.2.1) t.2.2.2.2)
theorem Fbm.l4_0.loop (n m : Nat) (t : (Int × (Int × (LI × (LI × LI))))) : loopOf (Fbm.R0 n) m (Fbm.l4_0.shape t) = (Fbm.l4_0.m n m t).map Fbm.l4_0.res :=
  (Fbm.l4_0.loop' n m t).trans (Fbm.l4_0.gmap Fbm.l4_0.res (fun a0 a1 => (a0, a1)) n m t.1 t.2.1 t.2.2.1 t.2.2.2.1 t.2.2.2.2)
theorem Fbm.gmap {α β : Type} (h : β → α) (mk0 : LI → β) (n : Nat) (a0 : LI) (a1 : LI) : Fbm.g (fun a0 => (h (mk0 a0))) n a0 a1 = (Fbm.g mk0 n a0 a1).map h := by
  unfold Fbm.g
  exact (bindO_map fun r2 => (bindO_map fun r4 => rfl))
theorem Fbm.run (n : Nat) (a0 : LI) (a1 : LI) : runF (Fbm.C n) (Fbm.A n) n Tryd.f100 [(.ints .u64 4 a0), (.ints .u64 4 a1)] [] (fun v o => some (v, o)) = Fbm.g (fun a0 => ((Prod.mk (.ints .u64 4 a0) []) : AV × Blks)) n a0 a1 := by kernel_rfl
theorem Fbm.call (hmix : Tryd.prog.follows .mixedOrders = true) (n : Nat) (t : (LI × LI)) (u) (h : Fbm.m n t = some u) : FnC Tryd.prog abiG 100 (Fbm.shape t).1 (Fbm.shape t).2 (Fbm.res u).1 (Fbm.res u).2 :=
  fnC1 (C := Fbm.C n) (A := Fbm.A n) (fn := Tryd.f100) rfl (.cons (Fbl.s hmix n) .nil) hmix Tryd.func100 (by kernel_rfl) (lp := [Fbm.b0]) (by kernel_rfl) (.cons (show (Fbm.A n).loop (key Fbm.b0) = some (.mk' Fbm.l4_0.pat (Fbm.l4_0.m n n) Fbm.l4_0.resK) by kernel_rfl) (LoopS.of (res := Fbm.l4_0.res) (fun R u K => rfl) Fbm.l4_0.pat_shape fun t => Fbm.l4_0.loop n n t)
  .nil)
  (nj rfl) (by decide) rfl rfl (by show 2 ≤ Tryd.f100.ntmps; decide) (Fbm.run n t.1 t.2) (Fbm.gmap Fbm.res (fun a0 => a0) n t.1 t.2) h
theorem Fbm.s (hmix : Tryd.prog.follows .mixedOrders = true) (n : Nat) : CalleeS Tryd.prog abiG 100 (Fbm.c n) :=
  .mk1 (res := Fbm.res) (shape := Fbm.shape) (fun R u K => rfl) (fun _ _ _ h => by unfold Fbm.pat at h; split at h <;> cases h; rfl) (fun t u h => Fbm.call hmix n t u h) Tryd.func100 (by decide) (by kernel_rfl)
end
section
noncomputable section
noncomputable def Fax.C (n : Nat) : Ctx := ⟨Tryd.prog, abiG, lookC [(56, Fae.c n)], fun _ => false⟩
noncomputable def Fax.A (n : Nat) : Ann := ⟨Tryd.f63.ntmps, 0, noNL, [], [none], fun k => match k with
 | _ => none, noNL, lookJ []⟩
def Fax.g {α : Type} (mk0 : LI → α) (n : Nat) (a0 : LI) : Option α :=
 bindO (Fae.m n a0) fun r2 =>
  if 12 ≤ (((List.length r2) : Nat) : Int) then
   if 20 ≤ (Go.Abs.span (List.length r2) 12 (Option.none)) then
    some (mk0 (List.take 20 (List.drop 12 r2)))
   else
    none
  else
   none
def Fax.m (n : Nat) (t : LI) : Option LI := Fax.g (fun a0 => a0) n t
def Fax.pat : List AV → Blks → Option LI
 | [(.ints .u64 4 a0)], [] => some a0
 | _, _ => none
def Fax.shape (t : LI) : List AV × Blks := ([(.ints .u64 4 t)], [])
def Fax.res : LI → AV × Blks
 | u => (Prod.mk (.ints .u8 20 u) [])
def Fax.resK {R : Type} (u : LI) (K : AV → Blks → Option R) : Option R := K (Fax.res u).1 (Fax.res u).2
def Fax.c (n : Nat) : Abs.Callee := .mk' [] [none] Fax.pat (Fax.m n) Fax.resK
end
end
