/- What the program's functions compute, as plain functions, each with its proof: the function does just that. Condition: the plain function has an answer. -/
import Derived.Test.YtehhocoldpdijaaDoorFnUseropHashes1
import Derived.Test.YtehhocoldpdijaaDoorAbsG6
import Derived.Test.YtehhocoldpdijaaDoorProg
set_option linter.unusedVariables false
set_option linter.unusedSimpArgs false
set_option maxRecDepth 100000
open Go Go.Abs Go.Proofs
section
noncomputable abbrev Fbf.R0 (n : Nat) := roundOf (Fbf.C n) (Fbf.A n) n Fbf.b0
theorem Fbf.l4_0.rmap {α β : Type} (h : β → α) (mk0 : LI → LI → β) (n : Nat) (f : Int → Int → LI → LI → LI → Option β)  (x0 : Int) (x1 : Int) (x2 : LI) (x3 : LI) (x4 : LI) : Fbf.l4_0.r (fun a0 a1 => (h (mk0 a0 a1))) n (fun y0 y1 y2 y3 y4 => (f y0 y1 y2 y3 y4).map h) x0 x1 x2 x3 x4 = (Fbf.l4_0.r mk0 n f x0 x1 x2 x3 x4).map h := by
  unfold Fbf.l4_0.r
  exact (ite_map (ite_map (ite_map (ite_map (ite_map (ite_map (ite_map (ite_map (ite_map rfl rfl) rfl) rfl) rfl) rfl) rfl) rfl) rfl) rfl)
theorem Fbf.l4_0.gmap {α β : Type} (h : β → α) (mk0 : LI → LI → β) (n : Nat) : ∀ (m : Nat) (x0 : Int) (x1 : Int) (x2 : LI) (x3 : LI) (x4 : LI), Fbf.l4_0.g (fun a0 a1 => (h (mk0 a0 a1))) n m x0 x1 x2 x3 x4 = (Fbf.l4_0.g mk0 n m x0 x1 x2 x3 x4).map h
  | 0, _, _, _, _, _ => rfl
  | m + 1, x0, x1, x2, x3, x4 => by
    unfold Fbf.l4_0.g
    rw [← Fbf.l4_0.rmap]
    congr
    · funext y0 y1 y2 y3 y4; exact Fbf.l4_0.gmap h mk0 n m y0 y1 y2 y3 y4
theorem Fbf.l4_0.pat_shape : ∀ st t, Fbf.l4_0.pat st = some t → st = Fbf.l4_0.shape t := fun _ _ h => by unfold Fbf.l4_0.pat at h; split at h <;> cases h; rfl
def Fbf.l4_0.k0 : LI → LI → Ex × St := (fun a0 a1 => (((.exit 0), (St.mk [(.ptr 0 []), (.ptr 1 [])] [(some (.var (.ints .u64 4 a0))), (some (.var (.ints .u64 4 a1)))])) : Ex × St))
theorem Fbf.l4_0.round (n : Nat) (rc : St → Option (Ex × St)) (x0 : Int) (x1 : Int) (x2 : LI) (x3 : LI) (x4 : LI) : Fbf.R0 n rc ((St.mk [(.int .i64 x0), (.int .i64 x1), (.ptr 0 []), (.rints .u8 x2), (.ptr 1 [])] [(some (.var (.ints .u64 4 x3))), (some (.var (.ints .u64 4 x4)))])) = Fbf.l4_0.r Fbf.l4_0.k0 n (fun y0 y1 y2 y3 y4 => rc ((St.mk [(.int .i64 y0), (.int .i64 y1), (.ptr 0 []), (.rints .u8 y2), (.ptr 1 [])] [(some (.var (.ints .u64 4 y3))), (some (.var (.ints .u64 4 y4)))]))) x0 x1 x2 x3 x4 := by kernel_rfl
theorem Fbf.l4_0.loop' (n : Nat) : ∀ (m : Nat) (t : (Int × (Int × (LI × (LI × LI))))), loopOf (Fbf.R0 n) m (Fbf.l4_0.shape t) = Fbf.l4_0.g Fbf.l4_0.k0 n m t.1 t.2.1 t.2.2.1 t.2.2.2.1 t.2.2.2.2 :=
  loop_of_round (shape := Fbf.l4_0.shape) (body := Fbf.R0 n) (g := fun m t => Fbf.l4_0.g Fbf.l4_0.k0 n m t.1 t.2.1 t.2.2.1 t.2.2.2.1 t.2.2.2.2) (fun t => rfl)
    fun m t ih => (Fbf.l4_0.round n (loopOf (Fbf.R0 n) m) t.1 t.2.1 t.2.2.1 t.2.2.2.1 t.2.2.2.2).trans (congrFun (congrFun (congrFun (congrFun (congrFun (congrArg (Fbf.l4_0.r Fbf.l4_0.k0 n) (funext fun y0 => funext fun y1 => funext fun y2 => funext fun y3 => funext fun y4 => ih (y0, y1, y2, y3, y4))) t.1) t.2.1) t.2.2.1) t.2.2.2.1) t.2.2.2.2)
theorem Fbf.l4_0.loop (n m : Nat) (t : (Int × (Int × (LI × (LI × LI))))) : loopOf (Fbf.R0 n) m (Fbf.l4_0.shape t) = (Fbf.l4_0.m n m t).map Fbf.l4_0.res :=
  (Fbf.l4_0.loop' n m t).trans (Fbf.l4_0.gmap Fbf.l4_0.res (fun a0 a1 => (a0, a1)) n m t.1 t.2.1 t.2.2.1 t.2.2.2.1 t.2.2.2.2)
theorem Fbf.gmap {α β : Type} (h : β → α) (mk0 : LI → β) (n : Nat) (a0 : LI) : Fbf.g (fun a0 => (h (mk0 a0))) n a0 = (Fbf.g mk0 n a0).map h := by
  unfold Fbf.g
  exact (bindO_map fun r2 => rfl)
theorem Fbf.run (n : Nat) (a0 : LI) : runF (Fbf.C n) (Fbf.A n) n Tryd.f65 [(.rints .u8 a0)] [] (fun v o => some (v, o)) = Fbf.g (fun a0 => (((.ints .u64 4 a0), []) : AV × Blks)) n a0 := by kernel_rfl
theorem Fbf.call (hmix : Tryd.prog.follows .mixedOrders = true) (n : Nat) (t : LI) (u) (h : Fbf.m n t = some u) : FnC Tryd.prog abiG 65 (Fbf.shape t).1 (Fbf.shape t).2 (Fbf.res u).1 (Fbf.res u).2 :=
  fnC1 (C := Fbf.C n) (A := Fbf.A n) (fn := Tryd.f65) rfl .nil hmix Tryd.func65 (by kernel_rfl) (lp := [Fbf.b0]) (by kernel_rfl) (.cons (show (Fbf.A n).loop (key Fbf.b0) = some (.mk' Fbf.l4_0.pat (Fbf.l4_0.m n n) Fbf.l4_0.resK) by kernel_rfl) (LoopS.of (res := Fbf.l4_0.res) (fun R u K => rfl) Fbf.l4_0.pat_shape fun t => Fbf.l4_0.loop n n t)
  .nil)
  (nj rfl) (by decide) rfl rfl (by show 1 ≤ Tryd.f65.ntmps; decide) (Fbf.run n t) (Fbf.gmap Fbf.res (fun a0 => a0) n t) h
theorem Fbf.s (hmix : Tryd.prog.follows .mixedOrders = true) (n : Nat) : CalleeS Tryd.prog abiG 65 (Fbf.c n) :=
  .mk1 (res := Fbf.res) (shape := Fbf.shape) (fun R u K => rfl) (fun _ _ _ h => by unfold Fbf.pat at h; split at h <;> cases h; rfl) (fun t u h => Fbf.call hmix n t u h) Tryd.func65 (by decide) (by kernel_rfl)
end
section
noncomputable abbrev Fca.R0 (n : Nat) := roundOf (Fca.C n) (Fca.A n) n Fca.b0
noncomputable abbrev Fca.R1 (n : Nat) := roundOf (Fca.C n) (Fca.A n) n Fca.b1
noncomputable abbrev Fca.R2 (n : Nat) := roundOf (Fca.C n) (Fca.A n) n Fca.b2
noncomputable abbrev Fca.R3 (n : Nat) := roundOf (Fca.C n) (Fca.A n) n Fca.b3
noncomputable abbrev Fca.R4 (n : Nat) := roundOf (Fca.C n) (Fca.A n) n Fca.b4
noncomputable abbrev Fca.R5 (n : Nat) := roundOf (Fca.C n) (Fca.A n) n Fca.b5
theorem Fca.l4_0.rmap {α β : Type} (h : β → α) (mk0 : LI → LI → β) (n : Nat) (f : LI → LI → Option β)  (x0 : LI) (x1 : LI) : Fca.l4_0.r (fun a0 a1 => (h (mk0 a0 a1))) n (fun y0 y1 => (f y0 y1).map h) x0 x1 = (Fca.l4_0.r mk0 n f x0 x1).map h := by
  unfold Fca.l4_0.r
  exact (ite_map (ite_map rfl rfl) rfl)
theorem Fca.l4_0.gmap {α β : Type} (h : β → α) (mk0 : LI → LI → β) (n : Nat) : ∀ (m : Nat) (x0 : LI) (x1 : LI), Fca.l4_0.g (fun a0 a1 => (h (mk0 a0 a1))) n m x0 x1 = (Fca.l4_0.g mk0 n m x0 x1).map h
  | 0, _, _ => rfl
  | m + 1, x0, x1 => by
    unfold Fca.l4_0.g
    rw [← Fca.l4_0.rmap]
    congr
    · funext y0 y1; exact Fca.l4_0.gmap h mk0 n m y0 y1
theorem Fca.l4_0.pat_shape : ∀ st t, Fca.l4_0.pat st = some t → st = Fca.l4_0.shape t := fun _ _ h => by unfold Fca.l4_0.pat at h; split at h <;> cases h; rfl
def Fca.l4_0.k0 : LI → LI → Ex × St := (fun a0 a1 => (((.exit 0), (St.mk [(.own 0 1), (.ptr 1 [])] [(some (.ints .u8 a0)), (some (.var (.ints .u64 4 a1)))])) : Ex × St))
theorem Fca.l4_0.round (n : Nat) (rc : St → Option (Ex × St)) (x0 : LI) (x1 : LI) : Fca.R0 n rc ((St.mk [(.own 0 1), (.ptr 1 [])] [(some (.ints .u8 x0)), (some (.var (.ints .u64 4 x1)))])) = Fca.l4_0.r Fca.l4_0.k0 n (fun y0 y1 => rc ((St.mk [(.own 0 1), (.ptr 1 [])] [(some (.ints .u8 y0)), (some (.var (.ints .u64 4 y1)))]))) x0 x1 := by kernel_rfl
theorem Fca.l4_0.loop' (n : Nat) : ∀ (m : Nat) (t : (LI × LI)), loopOf (Fca.R0 n) m (Fca.l4_0.shape t) = Fca.l4_0.g Fca.l4_0.k0 n m t.1 t.2 :=
  loop_of_round (shape := Fca.l4_0.shape) (body := Fca.R0 n) (g := fun m t => Fca.l4_0.g Fca.l4_0.k0 n m t.1 t.2) (fun t => rfl)
    fun m t ih => (Fca.l4_0.round n (loopOf (Fca.R0 n) m) t.1 t.2).trans (congrFun (congrFun (congrArg (Fca.l4_0.r Fca.l4_0.k0 n) (funext fun y0 => funext fun y1 => ih (y0, y1))) t.1) t.2)
theorem Fca.l4_0.loop (n m : Nat) (t : (LI × LI)) : loopOf (Fca.R0 n) m (Fca.l4_0.shape t) = (Fca.l4_0.m n m t).map Fca.l4_0.res :=
  (Fca.l4_0.loop' n m t).trans (Fca.l4_0.gmap Fca.l4_0.res (fun a0 a1 => (a0, a1)) n m t.1 t.2)
theorem Fca.l17_0.rmap {α β : Type} (h : β → α) (mk0 : Int → Int → LI → LI → LI → LI → LI → β) (n : Nat) (f : Int → Int → Int → LI → LI → LI → LI → LI → Option β)  (x0 : Int) (x1 : Int) (x2 : Int) (x3 : LI) (x4 : LI) (x5 : LI) (x6 : LI) (x7 : LI) : Fca.l17_0.r (fun a0 a1 a2 a3 a4 a5 a6 => (h (mk0 a0 a1 a2 a3 a4 a5 a6))) n (fun y0 y1 y2 y3 y4 y5 y6 y7 => (f y0 y1 y2 y3 y4 y5 y6 y7).map h) x0 x1 x2 x3 x4 x5 x6 x7 = (Fca.l17_0.r mk0 n f x0 x1 x2 x3 x4 x5 x6 x7).map h := by
  unfold Fca.l17_0.r
  exact (ite_map (ite_map (ite_map (ite_map (ite_map (ite_map (ite_map (ite_map rfl rfl) rfl) rfl) rfl) rfl) rfl) rfl) rfl)
theorem Fca.l17_0.gmap {α β : Type} (h : β → α) (mk0 : Int → Int → LI → LI → LI → LI → LI → β) (n : Nat) : ∀ (m : Nat) (x0 : Int) (x1 : Int) (x2 : Int) (x3 : LI) (x4 : LI) (x5 : LI) (x6 : LI) (x7 : LI), Fca.l17_0.g (fun a0 a1 a2 a3 a4 a5 a6 => (h (mk0 a0 a1 a2 a3 a4 a5 a6))) n m x0 x1 x2 x3 x4 x5 x6 x7 = (Fca.l17_0.g mk0 n m x0 x1 x2 x3 x4 x5 x6 x7).map h
  | 0, _, _, _, _, _, _, _, _ => rfl
  | m + 1, x0, x1, x2, x3, x4, x5, x6, x7 => by
    unfold Fca.l17_0.g
    rw [← Fca.l17_0.rmap]
    congr
    · funext y0 y1 y2 y3 y4 y5 y6 y7; exact Fca.l17_0.gmap h mk0 n m y0 y1 y2 y3 y4 y5 y6 y7
theorem Fca.l17_0.pat_shape : ∀ st t, Fca.l17_0.pat st = some t → st = Fca.l17_0.shape t := fun _ _ h => by unfold Fca.l17_0.pat at h; split at h <;> cases h; rfl
def Fca.l17_0.k0 : Int → Int → LI → LI → LI → LI → LI → Ex × St := (fun a0 a1 a2 a3 a4 a5 a6 => (((.exit 6), (St.mk [(.int .i64 a0), (.own 0 1), (.own 1 1), (.int .i64 a1), (.own 2 1), (.own 3 1), (.ptr 4 [])] [(some (.ints .u64 a2)), (some (.ints .u8 a3)), (some (.ints .i64 a4)), (some (.ints .u64 a5)), (some (.var (.ints .u64 4 a6)))])) : Ex × St))
theorem Fca.l17_0.round (n : Nat) (rc : St → Option (Ex × St)) (x0 : Int) (x1 : Int) (x2 : Int) (x3 : LI) (x4 : LI) (x5 : LI) (x6 : LI) (x7 : LI) : Fca.R3 n rc ((St.mk [(.int .i64 x0), (.own 0 1), (.int .i64 x1), (.own 1 1), (.int .i64 x2), (.own 2 1), (.own 3 1), (.ptr 4 [])] [(some (.ints .u64 x3)), (some (.ints .u8 x4)), (some (.ints .i64 x5)), (some (.ints .u64 x6)), (some (.var (.ints .u64 4 x7)))])) = Fca.l17_0.r Fca.l17_0.k0 n (fun y0 y1 y2 y3 y4 y5 y6 y7 => rc ((St.mk [(.int .i64 y0), (.own 0 1), (.int .i64 y1), (.own 1 1), (.int .i64 y2), (.own 2 1), (.own 3 1), (.ptr 4 [])] [(some (.ints .u64 y3)), (some (.ints .u8 y4)), (some (.ints .i64 y5)), (some (.ints .u64 y6)), (some (.var (.ints .u64 4 y7)))]))) x0 x1 x2 x3 x4 x5 x6 x7 := by kernel_rfl
theorem Fca.l17_0.loop' (n : Nat) : ∀ (m : Nat) (t : (Int × (Int × (Int × (LI × (LI × (LI × (LI × LI)))))))), loopOf (Fca.R3 n) m (Fca.l17_0.shape t) = Fca.l17_0.g Fca.l17_0.k0 n m t.1 t.2.1 t.2.2.1 t.2.2.2.1 t.2.2.2.2.1 t.2.2.2.2.2.1 t.2.2.2.2.2.2.1 t.2.2.2.2.2.2.2 :=
  loop_of_round (shape := Fca.l17_0.shape) (body := Fca.R3 n) (g := fun m t => Fca.l17_0.g Fca.l17_0.k0 n m t.1 t.2.1 t.2.2.1 t.2.2.2.1 t.2.2.2.2.1 t.2.2.2.2.2.1 t.2.2.2.2.2.2.1 t.2.2.2.2.2.2.2) (fun t => rfl)
    fun m t ih => (Fca.l17_0.round n (loopOf (Fca.R3 n) m) t.1 t.2.1 t.2.2.1 t.2.2.2.1 t.2.2.2.2.1 t.2.2.2.2.2.1 t.2.2.2.2.2.2.1 t.2.2.2.2.2.2.2).trans (congrFun (congrFun (congrFun (congrFun (congrFun (congrFun (congrFun (congrFun (congrArg (Fca.l17_0.r Fca.l17_0.k0 n) (funext fun y0 => funext fun y1 => funext fun y2 => funext fun y3 => funext fun y4 => funext fun y5 => funext fun y6 => funext fun y7 => ih (y0, y1, y2, y3, y4, y5, y6, y7))) t.1) t.2.1) t.2.2.1) t.2.2.2.1) t.2.2.2.2.1) t.2.2.2.2.2.1) t.2.2.2.2.2.2.1) t.2.2.2.2.2.2.2)
theorem Fca.l17_0.loop (n m : Nat) (t : (Int × (Int × (Int × (LI × (LI × (LI × (LI × LI)))))))) : loopOf (Fca.R3 n) m (Fca.l17_0.shape t) = (Fca.l17_0.m n m t).map Fca.l17_0.res :=
  (Fca.l17_0.loop' n m t).trans (Fca.l17_0.gmap Fca.l17_0.res (fun a0 a1 a2 a3 a4 a5 a6 => (a0, a1, a2, a3, a4, a5, a6)) n m t.1 t.2.1 t.2.2.1 t.2.2.2.1 t.2.2.2.2.1 t.2.2.2.2.2.1 t.2.2.2.2.2.2.1 t.2.2.2.2.2.2.2)
theorem Fca.l14_0.rmap {α β : Type} (h : β → α) (mk0 : Int → LI → LI → LI → LI → LI → β) (n : Nat) (f : Int → Int → LI → LI → LI → LI → LI → Option β)  (x0 : Int) (x1 : Int) (x2 : LI) (x3 : LI) (x4 : LI) (x5 : LI) (x6 : LI) : Fca.l14_0.r (fun a0 a1 a2 a3 a4 a5 => (h (mk0 a0 a1 a2 a3 a4 a5))) n (fun y0 y1 y2 y3 y4 y5 y6 => (f y0 y1 y2 y3 y4 y5 y6).map h) x0 x1 x2 x3 x4 x5 x6 = (Fca.l14_0.r mk0 n f x0 x1 x2 x3 x4 x5 x6).map h := by
  unfold Fca.l14_0.r
  exact (ite_map (bindO_map fun r6 => rfl) rfl)
theorem Fca.l14_0.gmap {α β : Type} (h : β → α) (mk0 : Int → LI → LI → LI → LI → LI → β) (n : Nat) : ∀ (m : Nat) (x0 : Int) (x1 : Int) (x2 : LI) (x3 : LI) (x4 : LI) (x5 : LI) (x6 : LI), Fca.l14_0.g (fun a0 a1 a2 a3 a4 a5 => (h (mk0 a0 a1 a2 a3 a4 a5))) n m x0 x1 x2 x3 x4 x5 x6 = (Fca.l14_0.g mk0 n m x0 x1 x2 x3 x4 x5 x6).map h
  | 0, _, _, _, _, _, _, _ => rfl
  | m + 1, x0, x1, x2, x3, x4, x5, x6 => by
    unfold Fca.l14_0.g
    rw [← Fca.l14_0.rmap]
    congr
    · funext y0 y1 y2 y3 y4 y5 y6; exact Fca.l14_0.gmap h mk0 n m y0 y1 y2 y3 y4 y5 y6
theorem Fca.l14_0.pat_shape : ∀ st t, Fca.l14_0.pat st = some t → st = Fca.l14_0.shape t := fun _ _ h => by unfold Fca.l14_0.pat at h; split at h <;> cases h; rfl
def Fca.l14_0.k0 : Int → LI → LI → LI → LI → LI → Ex × St := (fun a0 a1 a2 a3 a4 a5 => (((.exit 4), (St.mk [(.own 0 1), (.own 1 1), (.own 2 1), (.int .i64 a0), (.own 3 1), (.ptr 4 [])] [(some (.ints .u64 a1)), (some (.ints .i64 a2)), (some (.ints .u64 a3)), (some (.ints .u8 a4)), (some (.var (.ints .u64 4 a5)))])) : Ex × St))
theorem Fca.l14_0.round (n : Nat) (rc : St → Option (Ex × St)) (x0 : Int) (x1 : Int) (x2 : LI) (x3 : LI) (x4 : LI) (x5 : LI) (x6 : LI) : Fca.R2 n rc ((St.mk [(.int .i64 x0), (.own 0 1), (.own 1 1), (.int .i64 x1), (.own 2 1), (.own 3 1), (.ptr 4 [])] [(some (.ints .u64 x2)), (some (.ints .u8 x3)), (some (.ints .i64 x4)), (some (.ints .u64 x5)), (some (.var (.ints .u64 4 x6)))])) = Fca.l14_0.r Fca.l14_0.k0 n (fun y0 y1 y2 y3 y4 y5 y6 => rc ((St.mk [(.int .i64 y0), (.own 0 1), (.own 1 1), (.int .i64 y1), (.own 2 1), (.own 3 1), (.ptr 4 [])] [(some (.ints .u64 y2)), (some (.ints .u8 y3)), (some (.ints .i64 y4)), (some (.ints .u64 y5)), (some (.var (.ints .u64 4 y6)))]))) x0 x1 x2 x3 x4 x5 x6 := by kernel_rfl
theorem Fca.l14_0.loop' (n : Nat) : ∀ (m : Nat) (t : (Int × (Int × (LI × (LI × (LI × (LI × LI))))))), loopOf (Fca.R2 n) m (Fca.l14_0.shape t) = Fca.l14_0.g Fca.l14_0.k0 n m t.1 t.2.1 t.2.2.1 t.2.2.2.1 t.2.2.2.2.1 t.2.2.2.2.2.1 t.2.2.2.2.2.2 :=
  loop_of_round (shape := Fca.l14_0.shape) (body := Fca.R2 n) (g := fun m t => Fca.l14_0.g Fca.l14_0.k0 n m t.1 t.2.1 t.2.2.1 t.2.2.2.1 t.2.2.2.2.1 t.2.2.2.2.2.1 t.2.2.2.2.2.2) (fun t => rfl)
    fun m t ih => (Fca.l14_0.round n (loopOf (Fca.R2 n) m) t.1 t.2.1 t.2.2.1 t.2.2.2.1 t.2.2.2.2.1 t.2.2.2.2.2.1 t.2.2.2.2.2.2).trans (congrFun (congrFun (congrFun (congrFun (congrFun (congrFun (congrFun (congrArg (Fca.l14_0.r Fca.l14_0.k0 n) (funext fun y0 => funext fun y1 => funext fun y2 => funext fun y3 => funext fun y4 => funext fun y5 => funext fun y6 => ih (y0, y1, y2, y3, y4, y5, y6))) t.1) t.2.1) t.2.2.1) t.2.2.2.1) t.2.2.2.2.1) t.2.2.2.2.2.1) t.2.2.2.2.2.2)
theorem Fca.l14_0.loop (n m : Nat) (t : (Int × (Int × (LI × (LI × (LI × (LI × LI))))))) : loopOf (Fca.R2 n) m (Fca.l14_0.shape t) = (Fca.l14_0.m n m t).map Fca.l14_0.res :=
  (Fca.l14_0.loop' n m t).trans (Fca.l14_0.gmap Fca.l14_0.res (fun a0 a1 a2 a3 a4 a5 => (a0, a1, a2, a3, a4, a5)) n m t.1 t.2.1 t.2.2.1 t.2.2.2.1 t.2.2.2.2.1 t.2.2.2.2.2.1 t.2.2.2.2.2.2)
theorem Fca.l11_0.rmap {α β : Type} (h : β → α) (mk0 : LI → LI → β) (n : Nat) (f : Int → LI → LI → LI → LI → LI → Option β)  (x0 : Int) (x1 : LI) (x2 : LI) (x3 : LI) (x4 : LI) (x5 : LI) : Fca.l11_0.r (fun a0 a1 => (h (mk0 a0 a1))) n (fun y0 y1 y2 y3 y4 y5 => (f y0 y1 y2 y3 y4 y5).map h) x0 x1 x2 x3 x4 x5 = (Fca.l11_0.r mk0 n f x0 x1 x2 x3 x4 x5).map h := by
  unfold Fca.l11_0.r
  exact (ite_map (bindO_map fun r6 => (bindO_map fun r8 => match r8 with | (.inl r8) => rfl | (.inr r8) => rfl)) rfl)
theorem Fca.l11_0.gmap {α β : Type} (h : β → α) (mk0 : LI → LI → β) (n : Nat) : ∀ (m : Nat) (x0 : Int) (x1 : LI) (x2 : LI) (x3 : LI) (x4 : LI) (x5 : LI), Fca.l11_0.g (fun a0 a1 => (h (mk0 a0 a1))) n m x0 x1 x2 x3 x4 x5 = (Fca.l11_0.g mk0 n m x0 x1 x2 x3 x4 x5).map h
  | 0, _, _, _, _, _, _ => rfl
  | m + 1, x0, x1, x2, x3, x4, x5 => by
    unfold Fca.l11_0.g
    rw [← Fca.l11_0.rmap]
    congr
    · funext y0 y1 y2 y3 y4 y5; exact Fca.l11_0.gmap h mk0 n m y0 y1 y2 y3 y4 y5
theorem Fca.l11_0.pat_shape : ∀ st t, Fca.l11_0.pat st = some t → st = Fca.l11_0.shape t := fun _ _ h => by unfold Fca.l11_0.pat at h; split at h <;> cases h; rfl
def Fca.l11_0.k0 : LI → LI → Ex × St := (fun a0 a1 => (((.exit 2), (St.mk [(.own 0 1), (.ptr 1 [])] [(some (.ints .u64 a0)), (some (.var (.ints .u64 4 a1)))])) : Ex × St))
theorem Fca.l11_0.round (n : Nat) (rc : St → Option (Ex × St)) (x0 : Int) (x1 : LI) (x2 : LI) (x3 : LI) (x4 : LI) (x5 : LI) : Fca.R1 n rc ((St.mk [(.int .i64 x0), (.own 0 1), (.own 1 1), (.own 2 1), (.own 3 1), (.ptr 4 [])] [(some (.ints .u8 x1)), (some (.ints .u64 x2)), (some (.ints .i64 x3)), (some (.ints .u64 x4)), (some (.var (.ints .u64 4 x5)))])) = Fca.l11_0.r Fca.l11_0.k0 n (fun y0 y1 y2 y3 y4 y5 => rc ((St.mk [(.int .i64 y0), (.own 0 1), (.own 1 1), (.own 2 1), (.own 3 1), (.ptr 4 [])] [(some (.ints .u8 y1)), (some (.ints .u64 y2)), (some (.ints .i64 y3)), (some (.ints .u64 y4)), (some (.var (.ints .u64 4 y5)))]))) x0 x1 x2 x3 x4 x5 := by kernel_rfl
theorem Fca.l11_0.loop' (n : Nat) : ∀ (m : Nat) (t : (Int × (LI × (LI × (LI × (LI × LI)))))), loopOf (Fca.R1 n) m (Fca.l11_0.shape t) = Fca.l11_0.g Fca.l11_0.k0 n m t.1 t.2.1 t.2.2.1 t.2.2.2.1 t.2.2.2.2.1 t.2.2.2.2.2 :=
  loop_of_round (shape := Fca.l11_0.shape) (body := Fca.R1 n) (g := fun m t => Fca.l11_0.g Fca.l11_0.k0 n m t.1 t.2.1 t.2.2.1 t.2.2.2.1 t.2.2.2.2.1 t.2.2.2.2.2) (fun t => rfl)
    fun m t ih => (Fca.l11_0.round n (loopOf (Fca.R1 n) m) t.1 t.2.1 t.2.2.1 t.2.2.2.1 t.2.2.2.2.1 t.2.2.2.2.2).trans (congrFun (congrFun (congrFun (congrFun (congrFun (congrFun (congrArg (Fca.l11_0.r Fca.l11_0.k0 n) (funext fun y0 => funext fun y1 => funext fun y2 => funext fun y3 => funext fun y4 => funext fun y5 => ih (y0, y1, y2, y3, y4, y5))) t.1) t.2.1) t.2.2.1) t.2.2.2.1) t.2.2.2.2.1) t.2.2.2.2.2)
theorem Fca.l11_0.loop (n m : Nat) (t : (Int × (LI × (LI × (LI × (LI × LI)))))) : loopOf (Fca.R1 n) m (Fca.l11_0.shape t) = (Fca.l11_0.m n m t).map Fca.l11_0.res :=
  (Fca.l11_0.loop' n m t).trans (Fca.l11_0.gmap Fca.l11_0.res (fun a0 a1 => (a0, a1)) n m t.1 t.2.1 t.2.2.1 t.2.2.2.1 t.2.2.2.2.1 t.2.2.2.2.2)
theorem Fca.l26_0.rmap {α β : Type} (h : β → α) (mk0 : Int → LI → LI → LI → β) (n : Nat) (f : Int → Int → LI → LI → LI → Option β)  (x0 : Int) (x1 : Int) (x2 : LI) (x3 : LI) (x4 : LI) : Fca.l26_0.r (fun a0 a1 a2 a3 => (h (mk0 a0 a1 a2 a3))) n (fun y0 y1 y2 y3 y4 => (f y0 y1 y2 y3 y4).map h) x0 x1 x2 x3 x4 = (Fca.l26_0.r mk0 n f x0 x1 x2 x3 x4).map h := by
  unfold Fca.l26_0.r
  exact (ite_map (ite_map (ite_map (ite_map (ite_map rfl rfl) rfl) rfl) rfl) rfl)
theorem Fca.l26_0.gmap {α β : Type} (h : β → α) (mk0 : Int → LI → LI → LI → β) (n : Nat) : ∀ (m : Nat) (x0 : Int) (x1 : Int) (x2 : LI) (x3 : LI) (x4 : LI), Fca.l26_0.g (fun a0 a1 a2 a3 => (h (mk0 a0 a1 a2 a3))) n m x0 x1 x2 x3 x4 = (Fca.l26_0.g mk0 n m x0 x1 x2 x3 x4).map h
  | 0, _, _, _, _, _ => rfl
  | m + 1, x0, x1, x2, x3, x4 => by
    unfold Fca.l26_0.g
    rw [← Fca.l26_0.rmap]
    congr
    · funext y0 y1 y2 y3 y4; exact Fca.l26_0.gmap h mk0 n m y0 y1 y2 y3 y4
theorem Fca.l26_0.pat_shape : ∀ st t, Fca.l26_0.pat st = some t → st = Fca.l26_0.shape t := fun _ _ h => by unfold Fca.l26_0.pat at h; split at h <;> cases h; rfl
def Fca.l26_0.k0 : Int → LI → LI → LI → Ex × St := (fun a0 a1 a2 a3 => (((.exit 10), (St.mk [(.int .i64 a0), (.own 0 1), (.own 1 1), (.ptr 2 [])] [(some (.ints .u8 a1)), (some (.ints .u64 a2)), (some (.var (.ints .u64 4 a3)))])) : Ex × St))
theorem Fca.l26_0.round (n : Nat) (rc : St → Option (Ex × St)) (x0 : Int) (x1 : Int) (x2 : LI) (x3 : LI) (x4 : LI) : Fca.R5 n rc ((St.mk [(.int .i64 x0), (.own 0 1), (.own 1 1), (.int .i64 x1), (.ptr 2 [])] [(some (.ints .u8 x2)), (some (.ints .u64 x3)), (some (.var (.ints .u64 4 x4)))])) = Fca.l26_0.r Fca.l26_0.k0 n (fun y0 y1 y2 y3 y4 => rc ((St.mk [(.int .i64 y0), (.own 0 1), (.own 1 1), (.int .i64 y1), (.ptr 2 [])] [(some (.ints .u8 y2)), (some (.ints .u64 y3)), (some (.var (.ints .u64 4 y4)))]))) x0 x1 x2 x3 x4 := by kernel_rfl
theorem Fca.l26_0.loop' (n : Nat) : ∀ (m : Nat) (t : (Int × (Int × (LI × (LI × LI))))), loopOf (Fca.R5 n) m (Fca.l26_0.shape t) = Fca.l26_0.g Fca.l26_0.k0 n m t.1 t.2.1 t.2.2.1 t.2.2.2.1 t.2.2.2.2 :=
  loop_of_round (shape := Fca.l26_0.shape) (body := Fca.R5 n) (g := fun m t => Fca.l26_0.g Fca.l26_0.k0 n m t.1 t.2.1 t.2.2.1 t.2.2.2.1 t.2.2.2.2) (fun t => rfl)
    fun m t ih => (Fca.l26_0.round n (loopOf (Fca.R5 n) m) t.1 t.2.1 t.2.2.1 t.2.2.2.1 t.2.2.2.2).trans (congrFun (congrFun (congrFun (congrFun (congrFun (congrArg (Fca.l26_0.r Fca.l26_0.k0 n) (funext fun y0 => funext fun y1 => funext fun y2 => funext fun y3 => funext fun y4 => ih (y0, y1, y2, y3, y4))) t.1) t.2.1) t.2.2.1) t.2.2.2.1) t.2.2.2.2)
theorem Fca.l26_0.loop (n m : Nat) (t : (Int × (Int × (LI × (LI × LI))))) : loopOf (Fca.R5 n) m (Fca.l26_0.shape t) = (Fca.l26_0.m n m t).map Fca.l26_0.res :=
  (Fca.l26_0.loop' n m t).trans (Fca.l26_0.gmap Fca.l26_0.res (fun a0 a1 a2 a3 => (a0, a1, a2, a3)) n m t.1 t.2.1 t.2.2.1 t.2.2.2.1 t.2.2.2.2)
theorem Fca.l23_0.rmap {α β : Type} (h : β → α) (mk0 : LI → LI → β) (n : Nat) (f : Int → LI → LI → LI → Option β)  (x0 : Int) (x1 : LI) (x2 : LI) (x3 : LI) : Fca.l23_0.r (fun a0 a1 => (h (mk0 a0 a1))) n (fun y0 y1 y2 y3 => (f y0 y1 y2 y3).map h) x0 x1 x2 x3 = (Fca.l23_0.r mk0 n f x0 x1 x2 x3).map h := by
  unfold Fca.l23_0.r
  exact (ite_map (bindO_map fun r6 => rfl) rfl)
theorem Fca.l23_0.gmap {α β : Type} (h : β → α) (mk0 : LI → LI → β) (n : Nat) : ∀ (m : Nat) (x0 : Int) (x1 : LI) (x2 : LI) (x3 : LI), Fca.l23_0.g (fun a0 a1 => (h (mk0 a0 a1))) n m x0 x1 x2 x3 = (Fca.l23_0.g mk0 n m x0 x1 x2 x3).map h
  | 0, _, _, _, _ => rfl
  | m + 1, x0, x1, x2, x3 => by
    unfold Fca.l23_0.g
    rw [← Fca.l23_0.rmap]
    congr
    · funext y0 y1 y2 y3; exact Fca.l23_0.gmap h mk0 n m y0 y1 y2 y3
theorem Fca.l23_0.pat_shape : ∀ st t, Fca.l23_0.pat st = some t → st = Fca.l23_0.shape t := fun _ _ h => by unfold Fca.l23_0.pat at h; split at h <;> cases h; rfl
def Fca.l23_0.k0 : LI → LI → Ex × St := (fun a0 a1 => (((.exit 8), (St.mk [(.own 0 1), (.ptr 1 [])] [(some (.ints .u8 a0)), (some (.var (.ints .u64 4 a1)))])) : Ex × St))
theorem Fca.l23_0.round (n : Nat) (rc : St → Option (Ex × St)) (x0 : Int) (x1 : LI) (x2 : LI) (x3 : LI) : Fca.R4 n rc ((St.mk [(.int .i64 x0), (.own 0 1), (.own 1 1), (.ptr 2 [])] [(some (.ints .u8 x1)), (some (.ints .u64 x2)), (some (.var (.ints .u64 4 x3)))])) = Fca.l23_0.r Fca.l23_0.k0 n (fun y0 y1 y2 y3 => rc ((St.mk [(.int .i64 y0), (.own 0 1), (.own 1 1), (.ptr 2 [])] [(some (.ints .u8 y1)), (some (.ints .u64 y2)), (some (.var (.ints .u64 4 y3)))]))) x0 x1 x2 x3 := by kernel_rfl
theorem Fca.l23_0.loop' (n : Nat) : ∀ (m : Nat) (t : (Int × (LI × (LI × LI)))), loopOf (Fca.R4 n) m (Fca.l23_0.shape t) = Fca.l23_0.g Fca.l23_0.k0 n m t.1 t.2.1 t.2.2.1 t.2.2.2 :=
  loop_of_round (shape := Fca.l23_0.shape) (body := Fca.R4 n) (g := fun m t => Fca.l23_0.g Fca.l23_0.k0 n m t.1 t.2.1 t.2.2.1 t.2.2.2) (fun t => rfl)
    fun m t ih => (Fca.l23_0.round n (loopOf (Fca.R4 n) m) t.1 t.2.1 t.2.2.1 t.2.2.2).trans (congrFun (congrFun (congrFun (congrFun (congrArg (Fca.l23_0.r Fca.l23_0.k0 n) (funext fun y0 => funext fun y1 => funext fun y2 => funext fun y3 => ih (y0, y1, y2, y3))) t.1) t.2.1) t.2.2.1) t.2.2.2)
theorem Fca.l23_0.loop (n m : Nat) (t : (Int × (LI × (LI × LI)))) : loopOf (Fca.R4 n) m (Fca.l23_0.shape t) = (Fca.l23_0.m n m t).map Fca.l23_0.res :=
  (Fca.l23_0.loop' n m t).trans (Fca.l23_0.gmap Fca.l23_0.res (fun a0 a1 => (a0, a1)) n m t.1 t.2.1 t.2.2.1 t.2.2.2)
theorem Fca.gmap {α β : Type} (h : β → α) (mk0 : LI → β) (n : Nat) (a0 : LI) : Fca.g (fun a0 => (h (mk0 a0))) n a0 = (Fca.g mk0 n a0).map h := by
  unfold Fca.g
  exact (ite_map (ite_map (bindO_map fun r6 => (ite_map (ite_map (ite_map (ite_map (bindO_map fun r16 => (bindO_map fun r18 => (bindO_map fun r20 => (bindO_map fun r22 => (bindO_map fun r24 => rfl))))) rfl) rfl) rfl) rfl)) rfl) rfl)
theorem Fca.run (n : Nat) (a0 : LI) : runF (Fca.C n) (Fca.A n) n Tryd.f62 [(.rints .u8 a0)] [] (fun v o => some (v, o)) = Fca.g (fun a0 => (((.ints .u64 4 a0), []) : AV × Blks)) n a0 := by kernel_rfl
theorem Fca.call (hmix : Tryd.prog.follows .mixedOrders = true) (n : Nat) (t : LI) (u) (h : Fca.m n t = some u) : FnC Tryd.prog abiG 62 (Fca.shape t).1 (Fca.shape t).2 (Fca.res u).1 (Fca.res u).2 :=
  fnC1 (C := Fca.C n) (A := Fca.A n) (fn := Tryd.f62) rfl (.cons (Fat.s hmix n) (.cons (Fbe.s hmix n) (.cons (Fbz.s hmix n) (.cons (Fbf.s hmix n) .nil)))) hmix Tryd.func62 (by kernel_rfl) (lp := [Fca.b0, Fca.b1, Fca.b2, Fca.b3, Fca.b4, Fca.b5]) (by kernel_rfl) (.cons (show (Fca.A n).loop (key Fca.b0) = some (.mk' Fca.l4_0.pat (Fca.l4_0.m n n) Fca.l4_0.resK) by kernel_rfl) (LoopS.of (res := Fca.l4_0.res) (fun R u K => rfl) Fca.l4_0.pat_shape fun t => Fca.l4_0.loop n n t)
  (.cons (show (Fca.A n).loop (key Fca.b1) = some (.mk' Fca.l11_0.pat (Fca.l11_0.m n n) Fca.l11_0.resK) by kernel_rfl) (LoopS.of (res := Fca.l11_0.res) (fun R u K => rfl) Fca.l11_0.pat_shape fun t => Fca.l11_0.loop n n t)
  (.cons (show (Fca.A n).loop (key Fca.b2) = some (.mk' Fca.l14_0.pat (Fca.l14_0.m n n) Fca.l14_0.resK) by kernel_rfl) (LoopS.of (res := Fca.l14_0.res) (fun R u K => rfl) Fca.l14_0.pat_shape fun t => Fca.l14_0.loop n n t)
  (.cons (show (Fca.A n).loop (key Fca.b3) = some (.mk' Fca.l17_0.pat (Fca.l17_0.m n n) Fca.l17_0.resK) by kernel_rfl) (LoopS.of (res := Fca.l17_0.res) (fun R u K => rfl) Fca.l17_0.pat_shape fun t => Fca.l17_0.loop n n t)
  (.cons (show (Fca.A n).loop (key Fca.b4) = some (.mk' Fca.l23_0.pat (Fca.l23_0.m n n) Fca.l23_0.resK) by kernel_rfl) (LoopS.of (res := Fca.l23_0.res) (fun R u K => rfl) Fca.l23_0.pat_shape fun t => Fca.l23_0.loop n n t)
  (.cons (show (Fca.A n).loop (key Fca.b5) = some (.mk' Fca.l26_0.pat (Fca.l26_0.m n n) Fca.l26_0.resK) by kernel_rfl) (LoopS.of (res := Fca.l26_0.res) (fun R u K => rfl) Fca.l26_0.pat_shape fun t => Fca.l26_0.loop n n t)
  .nil))))))
  (nj rfl) (by decide) rfl rfl (by show 1 ≤ Tryd.f62.ntmps; decide) (Fca.run n t) (Fca.gmap Fca.res (fun a0 => a0) n t) h
theorem Fca.s (hmix : Tryd.prog.follows .mixedOrders = true) (n : Nat) : CalleeS Tryd.prog abiG 62 (Fca.c n) :=
  .mk1 (res := Fca.res) (shape := Fca.shape) (fun R u K => rfl) (fun _ _ _ h => by unfold Fca.pat at h; split at h <;> cases h; rfl) (fun t u h => Fca.call hmix n t u h) Tryd.func62 (by decide) (by kernel_rfl)
end
section
noncomputable section
noncomputable def Fae.C (n : Nat) : Ctx := ⟨Tryd.prog, abiG, lookC [], fun _ => false⟩
def Fae.live : NL := fun k => match k with
 | 3 => ([6, 3, 1], [3])
 | _ => ([], [])
def Fae.l3_0.r {α : Type} (mk0 : LI → α) (n : Nat) (rc : Int → LI → LI → Option α)  (x0 : Int) (x1 : LI) (x2 : LI) : Option α :=
  if (decide (x0 < 32)) = true then
   if 0 ≤ (IntKind.wrap .i64 (Int.tdiv x0 8)) then
    if (IntKind.wrap .i64 (Int.tdiv x0 8)) < 4 then
     if 0 ≤ (IntKind.wrap .i64 ((Int.tmod x0 8) * 8)) then
      if 0 ≤ (IntKind.wrap .i64 (31 - x0)) then
       if (IntKind.wrap .i64 (31 - x0)) < (((List.length x1) : Nat) : Int) then
        rc (IntKind.wrap .i64 (x0 + 1)) (List.set x1 (Int.toNat (IntKind.wrap .i64 (31 - x0))) (IntKind.wrap .u8 (ishr .u64 (List.getD x2 (Int.toNat (IntKind.wrap .i64 (Int.tdiv x0 8))) 0) (IntKind.wrap .i64 ((Int.tmod x0 8) * 8))))) x2
       else
        none
      else
       none
     else
      none
    else
     none
   else
    none
  else
   some (mk0 x1)
def Fae.l3_0.g {α : Type} (mk0 : LI → α) (n : Nat) : Nat → Int → LI → LI → Option α
 | 0, _, _, _ => none
 | m + 1, x0, x1, x2 => Fae.l3_0.r mk0 n (fun y0 y1 y2 => Fae.l3_0.g mk0 n m y0 y1 y2)  x0 x1 x2
def Fae.l3_0.m (n m : Nat) (t : (Int × (LI × LI))) : Option LI := Fae.l3_0.g (fun a0 => a0) n m t.1 t.2.1 t.2.2
def Fae.l3_0.pat : St → Option (Int × (LI × LI))
 | (St.mk [(.int .i64 x0), (.own 0 1), (.ptr 1 [])] [(some (.ints .u8 x1)), (some (.var (.ints .u64 4 x2)))]) => some (x0, x1, x2)
 | _ => none
def Fae.l3_0.shape (t : (Int × (LI × LI))) : St := (St.mk [(.int .i64 t.1), (.own 0 1), (.ptr 1 [])] [(some (.ints .u8 t.2.1)), (some (.var (.ints .u64 4 t.2.2)))])
def Fae.l3_0.res : LI → Ex × St
 | u => ((.exit 0), (St.mk [(.own 0 1)] [(some (.ints .u8 u))]))
def Fae.l3_0.resK {R : Type} (u : LI) (K : Ex → St → Option R) : Option R := K (Fae.l3_0.res u).1 (Fae.l3_0.res u).2
noncomputable def Fae.A (n : Nat) : Ann := ⟨Tryd.f56.ntmps, 0, Fae.live, [(3, (.ints .u8))], [(some (.ints .u8))], fun k => match k with
 | 3 => some (.mk' Fae.l3_0.pat (Fae.l3_0.m n n) Fae.l3_0.resK)
 | _ => none, noNL, lookJ []⟩
noncomputable def Fae.b0 : Code := (loopsIn (Tryd.f56.body.getD .skip)).getD 0 .skip
def Fae.g {α : Type} (mk0 : LI → α) (n : Nat) (a0 : LI) : Option α :=
 bindO (Fae.l3_0.m n n (0, ([0, 0, 0, 0, 0, 0, 0, 0, 0, 0, 0, 0, 0, 0, 0, 0, 0, 0, 0, 0, 0, 0, 0, 0, 0, 0, 0, 0, 0, 0, 0, 0] : List Int), a0)) fun r2 =>
  some (mk0 r2)
def Fae.m (n : Nat) (t : LI) : Option LI := Fae.g (fun a0 => a0) n t
def Fae.pat : List AV → Blks → Option LI
 | [(.ints .u64 4 a0)], [] => some a0
 | _, _ => none
def Fae.shape (t : LI) : List AV × Blks := ([(.ints .u64 4 t)], [])
def Fae.res : LI → AV × Blks
 | u => ((.own 0 1), [(some (.ints .u8 u))])
def Fae.resK {R : Type} (u : LI) (K : AV → Blks → Option R) : Option R := K (Fae.res u).1 (Fae.res u).2
def Fae.c (n : Nat) : Abs.Callee := .mk' [] [none] Fae.pat (Fae.m n) Fae.resK
end
end
section
noncomputable abbrev Fae.R0 (n : Nat) := roundOf (Fae.C n) (Fae.A n) n Fae.b0
theorem Fae.l3_0.rmap {α β : Type} (h : β → α) (mk0 : LI → β) (n : Nat) (f : Int → LI → LI → Option β)  (x0 : Int) (x1 : LI) (x2 : LI) : Fae.l3_0.r (fun a0 => (h (mk0 a0))) n (fun y0 y1 y2 => (f y0 y1 y2).map h) x0 x1 x2 = (Fae.l3_0.r mk0 n f x0 x1 x2).map h := by
  unfold Fae.l3_0.r
  exact (ite_map (ite_map (ite_map (ite_map (ite_map (ite_map rfl rfl) rfl) rfl) rfl) rfl) rfl)
theorem Fae.l3_0.gmap {α β : Type} (h : β → α) (mk0 : LI → β) (n : Nat) : ∀ (m : Nat) (x0 : Int) (x1 : LI) (x2 : LI), Fae.l3_0.g (fun a0 => (h (mk0 a0))) n m x0 x1 x2 = (Fae.l3_0.g mk0 n m x0 x1 x2).map h
  | 0, _, _, _ => rfl
  | m + 1, x0, x1, x2 => by
    unfold Fae.l3_0.g
    rw [← Fae.l3_0.rmap]
    congr
    · funext y0 y1 y2; exact Fae.l3_0.gmap h mk0 n m y0 y1 y2
theorem Fae.l3_0.pat_shape : ∀ st t, Fae.l3_0.pat st = some t → st = Fae.l3_0.shape t := fun _ _ h => by unfold Fae.l3_0.pat at h; split at h <;> cases h; rfl
def Fae.l3_0.k0 : LI → Ex × St := (fun a0 => (((.exit 0), (St.mk [(.own 0 1)] [(some (.ints .u8 a0))])) : Ex × St))
theorem Fae.l3_0.round (n : Nat) (rc : St → Option (Ex × St)) (x0 : Int) (x1 : LI) (x2 : LI) : Fae.R0 n rc ((St.mk [(.int .i64 x0), (.own 0 1), (.ptr 1 [])] [(some (.ints .u8 x1)), (some (.var (.ints .u64 4 x2)))])) = Fae.l3_0.r Fae.l3_0.k0 n (fun y0 y1 y2 => rc ((St.mk [(.int .i64 y0), (.own 0 1), (.ptr 1 [])] [(some (.ints .u8 y1)), (some (.var (.ints .u64 4 y2)))]))) x0 x1 x2 := by kernel_rfl
theorem Fae.l3_0.loop' (n : Nat) : ∀ (m : Nat) (t : (Int × (LI × LI))), loopOf (Fae.R0 n) m (Fae.l3_0.shape t) = Fae.l3_0.g Fae.l3_0.k0 n m t.1 t.2.1 t.2.2 :=
  loop_of_round (shape := Fae.l3_0.shape) (body := Fae.R0 n) (g := fun m t => Fae.l3_0.g Fae.l3_0.k0 n m t.1 t.2.1 t.2.2) (fun t => rfl)
    fun m t ih => (Fae.l3_0.round n (loopOf (Fae.R0 n) m) t.1 t.2.1 t.2.2).trans (congrFun (congrFun (congrFun (congrArg (Fae.l3_0.r Fae.l3_0.k0 n) (funext fun y0 => funext fun y1 => funext fun y2 => ih (y0, y1, y2))) t.1) t.2.1) t.2.2)
theorem Fae.l3_0.loop (n m : Nat) (t : (Int × (LI × LI))) : loopOf (Fae.R0 n) m (Fae.l3_0.shape t) = (Fae.l3_0.m n m t).map Fae.l3_0.res :=
  (Fae.l3_0.loop' n m t).trans (Fae.l3_0.gmap Fae.l3_0.res (fun a0 => a0) n m t.1 t.2.1 t.2.2)
theorem Fae.gmap {α β : Type} (h : β → α) (mk0 : LI → β) (n : Nat) (a0 : LI) : Fae.g (fun a0 => (h (mk0 a0))) n a0 = (Fae.g mk0 n a0).map h := by
  unfold Fae.g
  exact (bindO_map fun r2 => rfl)
theorem Fae.run (n : Nat) (a0 : LI) : runF (Fae.C n) (Fae.A n) n Tryd.f56 [(.ints .u64 4 a0)] [] (fun v o => some (v, o)) = Fae.g (fun a0 => (((.own 0 1), [(some (.ints .u8 a0))]) : AV × Blks)) n a0 := by kernel_rfl
theorem Fae.call (hmix : Tryd.prog.follows .mixedOrders = true) (n : Nat) (t : LI) (u) (h : Fae.m n t = some u) : FnC Tryd.prog abiG 56 (Fae.shape t).1 (Fae.shape t).2 (Fae.res u).1 (Fae.res u).2 :=
  fnC1 (C := Fae.C n) (A := Fae.A n) (fn := Tryd.f56) rfl .nil hmix Tryd.func56 (by kernel_rfl) (lp := [Fae.b0]) (by kernel_rfl) (.cons (show (Fae.A n).loop (key Fae.b0) = some (.mk' Fae.l3_0.pat (Fae.l3_0.m n n) Fae.l3_0.resK) by kernel_rfl) (LoopS.of (res := Fae.l3_0.res) (fun R u K => rfl) Fae.l3_0.pat_shape fun t => Fae.l3_0.loop n n t)
  .nil)
  (nj rfl) (by decide) rfl rfl (by show 1 ≤ Tryd.f56.ntmps; decide) (Fae.run n t) (Fae.gmap Fae.res (fun a0 => a0) n t) h
theorem Fae.s (hmix : Tryd.prog.follows .mixedOrders = true) (n : Nat) : CalleeS Tryd.prog abiG 56 (Fae.c n) :=
  .mk1 (res := Fae.res) (shape := Fae.shape) (fun R u K => rfl) (fun _ _ _ h => by unfold Fae.pat at h; split at h <;> cases h; rfl) (fun t u h => Fae.call hmix n t u h) Tryd.func56 (by decide) (by kernel_rfl)
end
section
noncomputable section
noncomputable def Fav.C (n : Nat) : Ctx := ⟨Tryd.prog, abiG, lookC [], fun _ => false⟩
def Fav.live : NL := fun k => match k with
 | 3 => ([4, 3, 1], [3])
 | _ => ([], [])
def Fav.l3_0.r {α : Type} (mk0 : LI → α) (n : Nat) (rc : Int → LI → LI → Option α)  (x0 : Int) (x1 : LI) (x2 : LI) : Option α :=
  if (decide (x0 < 32)) = true then
   if 0 ≤ (IntKind.wrap .i64 (Int.tdiv (IntKind.wrap .i64 (31 - x0)) 8)) then
    if (IntKind.wrap .i64 (Int.tdiv (IntKind.wrap .i64 (31 - x0)) 8)) < 4 then
     if 0 ≤ (IntKind.wrap .u64 (IntKind.wrap .i64 ((Int.tmod (IntKind.wrap .i64 (31 - x0)) 8) * 8))) then
      if ((((List.length x1) + 1) * 1) ≤ 70368744177664 ∧ ((List.length x1) + 1) ≤ 9223372036854775807) then
       rc (IntKind.wrap .i64 (x0 + 1)) (x1 ++ [(IntKind.wrap .u8 (ishr .u64 (List.getD x2 (Int.toNat (IntKind.wrap .i64 (Int.tdiv (IntKind.wrap .i64 (31 - x0)) 8))) 0) (IntKind.wrap .u64 (IntKind.wrap .i64 ((Int.tmod (IntKind.wrap .i64 (31 - x0)) 8) * 8)))))]) x2
      else
       none
     else
      none
    else
     none
   else
    none
  else
   some (mk0 x1)
def Fav.l3_0.g {α : Type} (mk0 : LI → α) (n : Nat) : Nat → Int → LI → LI → Option α
 | 0, _, _, _ => none
 | m + 1, x0, x1, x2 => Fav.l3_0.r mk0 n (fun y0 y1 y2 => Fav.l3_0.g mk0 n m y0 y1 y2)  x0 x1 x2
def Fav.l3_0.m (n m : Nat) (t : (Int × (LI × LI))) : Option LI := Fav.l3_0.g (fun a0 => a0) n m t.1 t.2.1 t.2.2
def Fav.l3_0.pat : St → Option (Int × (LI × LI))
 | (St.mk [(.int .i64 x0), (.own 0 1), (.ptr 1 [])] [(some (.ints .u8 x1)), (some (.var (.ints .u64 4 x2)))]) => some (x0, x1, x2)
 | _ => none
def Fav.l3_0.shape (t : (Int × (LI × LI))) : St := (St.mk [(.int .i64 t.1), (.own 0 1), (.ptr 1 [])] [(some (.ints .u8 t.2.1)), (some (.var (.ints .u64 4 t.2.2)))])
def Fav.l3_0.res : LI → Ex × St
 | u => ((.exit 0), (St.mk [(.own 0 1)] [(some (.ints .u8 u))]))
def Fav.l3_0.resK {R : Type} (u : LI) (K : Ex → St → Option R) : Option R := K (Fav.l3_0.res u).1 (Fav.l3_0.res u).2
noncomputable def Fav.A (n : Nat) : Ann := ⟨Tryd.f55.ntmps, 0, Fav.live, [(3, (.ints .u8))], [(some (.ints .u8))], fun k => match k with
 | 3 => some (.mk' Fav.l3_0.pat (Fav.l3_0.m n n) Fav.l3_0.resK)
 | _ => none, noNL, lookJ []⟩
noncomputable def Fav.b0 : Code := (loopsIn (Tryd.f55.body.getD .skip)).getD 0 .skip
def Fav.g {α : Type} (mk0 : LI → α) (n : Nat) (a0 : LI) : Option α :=
 bindO (Fav.l3_0.m n n (0, [], a0)) fun r2 =>
  some (mk0 r2)
def Fav.m (n : Nat) (t : LI) : Option LI := Fav.g (fun a0 => a0) n t
def Fav.pat : List AV → Blks → Option LI
 | [(.ints .u64 4 a0)], [] => some a0
 | _, _ => none
def Fav.shape (t : LI) : List AV × Blks := ([(.ints .u64 4 t)], [])
def Fav.res : LI → AV × Blks
 | u => ((.own 0 1), [(some (.ints .u8 u))])
def Fav.resK {R : Type} (u : LI) (K : AV → Blks → Option R) : Option R := K (Fav.res u).1 (Fav.res u).2
def Fav.c (n : Nat) : Abs.Callee := .mk' [] [none] Fav.pat (Fav.m n) Fav.resK
end
end
section
noncomputable abbrev Fav.R0 (n : Nat) := roundOf (Fav.C n) (Fav.A n) n Fav.b0
theorem Fav.l3_0.rmap {α β : Type} (h : β → α) (mk0 : LI → β) (n : Nat) (f : Int → LI → LI → Option β)  (x0 : Int) (x1 : LI) (x2 : LI) : Fav.l3_0.r (fun a0 => (h (mk0 a0))) n (fun y0 y1 y2 => (f y0 y1 y2).map h) x0 x1 x2 = (Fav.l3_0.r mk0 n f x0 x1 x2).map h := by
  unfold Fav.l3_0.r
  exact (ite_map (ite_map (ite_map (ite_map (ite_map rfl rfl) rfl) rfl) rfl) rfl)
theorem Fav.l3_0.gmap {α β : Type} (h : β → α) (mk0 : LI → β) (n : Nat) : ∀ (m : Nat) (x0 : Int) (x1 : LI) (x2 : LI), Fav.l3_0.g (fun a0 => (h (mk0 a0))) n m x0 x1 x2 = (Fav.l3_0.g mk0 n m x0 x1 x2).map h
  | 0, _, _, _ => rfl
  | m + 1, x0, x1, x2 => by
    unfold Fav.l3_0.g
    rw [← Fav.l3_0.rmap]
    congr
    · funext y0 y1 y2; exact Fav.l3_0.gmap h mk0 n m y0 y1 y2
theorem Fav.l3_0.pat_shape : ∀ st t, Fav.l3_0.pat st = some t → st = Fav.l3_0.shape t := fun _ _ h => by unfold Fav.l3_0.pat at h; split at h <;> cases h; rfl
def Fav.l3_0.k0 : LI → Ex × St := (fun a0 => (((.exit 0), (St.mk [(.own 0 1)] [(some (.ints .u8 a0))])) : Ex × St))
theorem Fav.l3_0.round (n : Nat) (rc : St → Option (Ex × St)) (x0 : Int) (x1 : LI) (x2 : LI) : Fav.R0 n rc ((St.mk [(.int .i64 x0), (.own 0 1), (.ptr 1 [])] [(some (.ints .u8 x1)), (some (.var (.ints .u64 4 x2)))])) = Fav.l3_0.r Fav.l3_0.k0 n (fun y0 y1 y2 => rc ((St.mk [(.int .i64 y0), (.own 0 1), (.ptr 1 [])] [(some (.ints .u8 y1)), (some (.var (.ints .u64 4 y2)))]))) x0 x1 x2 := by kernel_rfl
theorem Fav.l3_0.loop' (n : Nat) : ∀ (m : Nat) (t : (Int × (LI × LI))), loopOf (Fav.R0 n) m (Fav.l3_0.shape t) = Fav.l3_0.g Fav.l3_0.k0 n m t.1 t.2.1 t.2.2 :=
  loop_of_round (shape := Fav.l3_0.shape) (body := Fav.R0 n) (g := fun m t => Fav.l3_0.g Fav.l3_0.k0 n m t.1 t.2.1 t.2.2) (fun t => rfl)
    fun m t ih => (Fav.l3_0.round n (loopOf (Fav.R0 n) m) t.1 t.2.1 t.2.2).trans (congrFun (congrFun (congrFun (congrArg (Fav.l3_0.r Fav.l3_0.k0 n) (funext fun y0 => funext fun y1 => funext fun y2 => ih (y0, y1, y2))) t.1) t.2.1) t.2.2)
theorem Fav.l3_0.loop (n m : Nat) (t : (Int × (LI × LI))) : loopOf (Fav.R0 n) m (Fav.l3_0.shape t) = (Fav.l3_0.m n m t).map Fav.l3_0.res :=
  (Fav.l3_0.loop' n m t).trans (Fav.l3_0.gmap Fav.l3_0.res (fun a0 => a0) n m t.1 t.2.1 t.2.2)
theorem Fav.gmap {α β : Type} (h : β → α) (mk0 : LI → β) (n : Nat) (a0 : LI) : Fav.g (fun a0 => (h (mk0 a0))) n a0 = (Fav.g mk0 n a0).map h := by
  unfold Fav.g
  exact (bindO_map fun r2 => rfl)
theorem Fav.run (n : Nat) (a0 : LI) : runF (Fav.C n) (Fav.A n) n Tryd.f55 [(.ints .u64 4 a0)] [] (fun v o => some (v, o)) = Fav.g (fun a0 => (((.own 0 1), [(some (.ints .u8 a0))]) : AV × Blks)) n a0 := by kernel_rfl
theorem Fav.call (hmix : Tryd.prog.follows .mixedOrders = true) (n : Nat) (t : LI) (u) (h : Fav.m n t = some u) : FnC Tryd.prog abiG 55 (Fav.shape t).1 (Fav.shape t).2 (Fav.res u).1 (Fav.res u).2 :=
  fnC1 (C := Fav.C n) (A := Fav.A n) (fn := Tryd.f55) rfl .nil hmix Tryd.func55 (by kernel_rfl) (lp := [Fav.b0]) (by kernel_rfl) (.cons (show (Fav.A n).loop (key Fav.b0) = some (.mk' Fav.l3_0.pat (Fav.l3_0.m n n) Fav.l3_0.resK) by kernel_rfl) (LoopS.of (res := Fav.l3_0.res) (fun R u K => rfl) Fav.l3_0.pat_shape fun t => Fav.l3_0.loop n n t)
  .nil)
  (nj rfl) (by decide) rfl rfl (by show 1 ≤ Tryd.f55.ntmps; decide) (Fav.run n t) (Fav.gmap Fav.res (fun a0 => a0) n t) h
theorem Fav.s (hmix : Tryd.prog.follows .mixedOrders = true) (n : Nat) : CalleeS Tryd.prog abiG 55 (Fav.c n) :=
  .mk1 (res := Fav.res) (shape := Fav.shape) (fun R u K => rfl) (fun _ _ _ h => by unfold Fav.pat at h; split at h <;> cases h; rfl) (fun t u h => Fav.call hmix n t u h) Tryd.func55 (by decide) (by kernel_rfl)
end
section
noncomputable section
noncomputable def Faw.C (n : Nat) : Ctx := ⟨Tryd.prog, abiG, lookC [], fun _ => false⟩
noncomputable def Faw.A (n : Nat) : Ann := ⟨Tryd.f69.ntmps, 0, noNL, [], [none], fun k => match k with
 | _ => none, noNL, lookJ []⟩
def Faw.g {α : Type} (mk0 : LI → α) (n : Nat) (a0 : Int) : Option α :=
 some (mk0 [a0, 0, 0, 0])
def Faw.m (n : Nat) (t : Int) : Option LI := Faw.g (fun a0 => a0) n t
def Faw.pat : List AV → Blks → Option Int
 | [(.int .u64 a0)], [] => some a0
 | _, _ => none
def Faw.shape (t : Int) : List AV × Blks := ([(.int .u64 t)], [])
def Faw.res : LI → AV × Blks
 | u => ((.ints .u64 4 u), [])
def Faw.resK {R : Type} (u : LI) (K : AV → Blks → Option R) : Option R := K (Faw.res u).1 (Faw.res u).2
def Faw.c (n : Nat) : Abs.Callee := .mk' [] [none] Faw.pat (Faw.m n) Faw.resK
end
end
section
noncomputable section
noncomputable def Faf.C (n : Nat) : Ctx := ⟨Tryd.prog, abiG, lookC [(69, Faw.c n), (56, Fae.c n)], fun _ => false⟩
noncomputable def Faf.A (n : Nat) : Ann := ⟨Tryd.f61.ntmps, 0, noNL, [], [(some (.ints .u8))], fun k => match k with
 | _ => none, noNL, lookJ []⟩
def Faf.g {α : Type} (mk0 : LI → α) (n : Nat) (a0 : Int) : Option α :=
 bindO (Faw.m n (IntKind.wrap .u64 a0)) fun r2 =>
  bindO (Fae.m n r2) fun r4 =>
   some (mk0 r4)
def Faf.m (n : Nat) (t : Int) : Option LI := Faf.g (fun a0 => a0) n t
def Faf.pat : List AV → Blks → Option Int
 | [(.int .i64 a0)], [] => some a0
 | _, _ => none
def Faf.shape (t : Int) : List AV × Blks := ([(.int .i64 t)], [])
def Faf.res : LI → AV × Blks
 | u => ((.own 0 1), [(some (.ints .u8 u))])
def Faf.resK {R : Type} (u : LI) (K : AV → Blks → Option R) : Option R := K (Faf.res u).1 (Faf.res u).2
def Faf.c (n : Nat) : Abs.Callee := .mk' [] [none] Faf.pat (Faf.m n) Faf.resK
end
end
section
noncomputable section
noncomputable def Fag.C (n : Nat) : Ctx := ⟨Tryd.prog, abiG, lookC [(56, Fae.c n), (61, Faf.c n)], fun _ => false⟩
def Fag.live : NL := fun k => match k with
 | 3 => ([9, 8, 7, 3, 0, 4], [3, 4])
 | _ => ([], [])
def Fag.l3_0.r {α : Type} (mk0 : LI → LI → α) (n : Nat) (rc : Int → Int → LA → LA → LI → LI → Option α)  (x0 : Int) (x1 : Int) (x2 : LA) (x3 : LA) (x4 : LI) (x5 : LI) : Option α :=
  if (decide (x0 < x1)) = true then
   if 0 ≤ x0 then
    if x0 < (((List.length x2) : Nat) : Int) then
     bindO (tkAgg 3 (List.getD x2 (Int.toNat x0) AV.any)) fun r10 =>
      bindO (tkBool (List.getD r10 0 AV.any)) fun r12 =>
       bindO (tkInts .u64 4 (List.getD r10 1 AV.any)) fun r14 =>
        bindO (tkRints .u8 (List.getD r10 2 AV.any)) fun r16 =>
         if (!r12) = true then
          bindO (Fae.m n r14) fun r20 =>
           if ((((List.length x4) + (List.length r20)) * 1) ≤ 70368744177664 ∧ ((List.length x4) + (List.length r20)) ≤ 9223372036854775807) then
            rc (IntKind.wrap .i64 (x0 + 1)) x1 x2 x3 (x4 ++ r20) x5
           else
            none
         else
          bindO (Faf.m n (IntKind.wrap .i64 ((IntKind.wrap .i64 (32 * (((List.length x3) : Nat) : Int))) + (((List.length x5) : Nat) : Int)))) fun r20 =>
           if ((((List.length x4) + (List.length r20)) * 1) ≤ 70368744177664 ∧ ((List.length x4) + (List.length r20)) ≤ 9223372036854775807) then
            bindO (Faf.m n (((List.length r16) : Nat) : Int)) fun r24 =>
             if ((((List.length x5) + (List.length r24)) * 1) ≤ 70368744177664 ∧ ((List.length x5) + (List.length r24)) ≤ 9223372036854775807) then
              if ((((List.length (x5 ++ r24)) + (List.length r16)) * 1) ≤ 70368744177664 ∧ ((List.length (x5 ++ r24)) + (List.length r16)) ≤ 9223372036854775807) then
               if 0 ≤ (Int.tmod (IntKind.wrap .i64 (32 - (Int.tmod (((List.length r16) : Nat) : Int) 32))) 32) then
                if ((((List.length ((x5 ++ r24) ++ r16)) + (List.length (List.replicate (Int.toNat (Int.tmod (IntKind.wrap .i64 (32 - (Int.tmod (((List.length r16) : Nat) : Int) 32))) 32)) (0 : Int)))) * 1) ≤ 70368744177664 ∧ ((List.length ((x5 ++ r24) ++ r16)) + (List.length (List.replicate (Int.toNat (Int.tmod (IntKind.wrap .i64 (32 - (Int.tmod (((List.length r16) : Nat) : Int) 32))) 32)) (0 : Int)))) ≤ 9223372036854775807) then
                 rc (IntKind.wrap .i64 (x0 + 1)) x1 x2 x3 (x4 ++ r20) (((x5 ++ r24) ++ r16) ++ (List.replicate (Int.toNat (Int.tmod (IntKind.wrap .i64 (32 - (Int.tmod (((List.length r16) : Nat) : Int) 32))) 32)) (0 : Int)))
                else
                 none
               else
                none
              else
               none
             else
              none
           else
            none
    else
     none
   else
    none
  else
   some (mk0 x4 x5)
def Fag.l3_0.g {α : Type} (mk0 : LI → LI → α) (n : Nat) : Nat → Int → Int → LA → LA → LI → LI → Option α
 | 0, _, _, _, _, _, _ => none
 | m + 1, x0, x1, x2, x3, x4, x5 => Fag.l3_0.r mk0 n (fun y0 y1 y2 y3 y4 y5 => Fag.l3_0.g mk0 n m y0 y1 y2 y3 y4 y5)  x0 x1 x2 x3 x4 x5
def Fag.l3_0.m (n m : Nat) (t : (Int × (Int × (LA × (LA × (LI × LI)))))) : Option (LI × LI) := Fag.l3_0.g (fun a0 a1 => (a0, a1)) n m t.1 t.2.1 t.2.2.1 t.2.2.2.1 t.2.2.2.2.1 t.2.2.2.2.2
def Fag.l3_0.pat : St → Option (Int × (Int × (LA × (LA × (LI × LI)))))
 | (St.mk [(.int .i64 x0), (.int .i64 x1), (.robjs 69 6 x2), (.own 0 1), (.robjs 69 6 x3), (.own 1 1)] [(some (.ints .u8 x4)), (some (.ints .u8 x5))]) => some (x0, x1, x2, x3, x4, x5)
 | _ => none
def Fag.l3_0.shape (t : (Int × (Int × (LA × (LA × (LI × LI)))))) : St := (St.mk [(.int .i64 t.1), (.int .i64 t.2.1), (.robjs 69 6 t.2.2.1), (.own 0 1), (.robjs 69 6 t.2.2.2.1), (.own 1 1)] [(some (.ints .u8 t.2.2.2.2.1)), (some (.ints .u8 t.2.2.2.2.2))])
def Fag.l3_0.res : (LI × LI) → Ex × St
 | u => ((.exit 0), (St.mk [(.own 0 1), (.own 1 1)] [(some (.ints .u8 u.1)), (some (.ints .u8 u.2))]))
def Fag.l3_0.resK {R : Type} (u : (LI × LI)) (K : Ex → St → Option R) : Option R := K (Fag.l3_0.res u).1 (Fag.l3_0.res u).2
noncomputable def Fag.A (n : Nat) : Ann := ⟨Tryd.f20.ntmps, 0, Fag.live, [(0, (.objs 69 6)), (7, (.objs 69 6)), (3, (.ints .u8)), (4, (.ints .u8))], [(some (.ints .u8))], fun k => match k with
 | 3 => some (.mk' Fag.l3_0.pat (Fag.l3_0.m n n) Fag.l3_0.resK)
 | _ => none, noNL, lookJ []⟩
noncomputable def Fag.b0 : Code := (loopsIn (Tryd.f20.body.getD .skip)).getD 0 .skip
def Fag.g {α : Type} (mk0 : LI → α) (n : Nat) (a0 : LA) : Option α :=
 bindO (Fag.l3_0.m n n (0, (((List.length a0) : Nat) : Int), a0, a0, [], [])) fun r2 =>
  if ((((List.length r2.1) + (List.length r2.2)) * 1) ≤ 70368744177664 ∧ ((List.length r2.1) + (List.length r2.2)) ≤ 9223372036854775807) then
   some (mk0 (r2.1 ++ r2.2))
  else
   none
def Fag.m (n : Nat) (t : LA) : Option LI := Fag.g (fun a0 => a0) n t
def Fag.pat : List AV → Blks → Option LA
 | [(.robjs 69 6 a0)], [] => some a0
 | _, _ => none
def Fag.shape (t : LA) : List AV × Blks := ([(.robjs 69 6 t)], [])
def Fag.res : LI → AV × Blks
 | u => ((.own 0 1), [(some (.ints .u8 u))])
def Fag.resK {R : Type} (u : LI) (K : AV → Blks → Option R) : Option R := K (Fag.res u).1 (Fag.res u).2
def Fag.c (n : Nat) : Abs.Callee := .mk' [] [(some (.objs 69 6))] Fag.pat (Fag.m n) Fag.resK
end
end
section
theorem Faw.gmap {α β : Type} (h : β → α) (mk0 : LI → β) (n : Nat) (a0 : Int) : Faw.g (fun a0 => (h (mk0 a0))) n a0 = (Faw.g mk0 n a0).map h := by
  unfold Faw.g
  exact rfl
theorem Faw.run (n : Nat) (a0 : Int) : runF (Faw.C n) (Faw.A n) n Tryd.f69 [(.int .u64 a0)] [] (fun v o => some (v, o)) = Faw.g (fun a0 => (((.ints .u64 4 a0), []) : AV × Blks)) n a0 := by kernel_rfl
theorem Faw.call (hmix : Tryd.prog.follows .mixedOrders = true) (n : Nat) (t : Int) (u) (h : Faw.m n t = some u) : FnC Tryd.prog abiG 69 (Faw.shape t).1 (Faw.shape t).2 (Faw.res u).1 (Faw.res u).2 :=
  fnC1 (C := Faw.C n) (A := Faw.A n) (fn := Tryd.f69) rfl .nil hmix Tryd.func69 (by kernel_rfl) (lp := []) (by kernel_rfl) .nil
  (nj rfl) (by decide) rfl rfl (by show 1 ≤ Tryd.f69.ntmps; decide) (Faw.run n t) (Faw.gmap Faw.res (fun a0 => a0) n t) h
theorem Faw.s (hmix : Tryd.prog.follows .mixedOrders = true) (n : Nat) : CalleeS Tryd.prog abiG 69 (Faw.c n) :=
  .mk1 (res := Faw.res) (shape := Faw.shape) (fun R u K => rfl) (fun _ _ _ h => by unfold Faw.pat at h; split at h <;> cases h; rfl) (fun t u h => Faw.call hmix n t u h) Tryd.func69 (by decide) (by kernel_rfl)
end
section
theorem Faf.gmap {α β : Type} (h : β → α) (mk0 : LI → β) (n : Nat) (a0 : Int) : Faf.g (fun a0 => (h (mk0 a0))) n a0 = (Faf.g mk0 n a0).map h := by
  unfold Faf.g
  exact (bindO_map fun r2 => (bindO_map fun r4 => rfl))
theorem Faf.run (n : Nat) (a0 : Int) : runF (Faf.C n) (Faf.A n) n Tryd.f61 [(.int .i64 a0)] [] (fun v o => some (v, o)) = Faf.g (fun a0 => (((.own 0 1), [(some (.ints .u8 a0))]) : AV × Blks)) n a0 := by kernel_rfl
theorem Faf.call (hmix : Tryd.prog.follows .mixedOrders = true) (n : Nat) (t : Int) (u) (h : Faf.m n t = some u) : FnC Tryd.prog abiG 61 (Faf.shape t).1 (Faf.shape t).2 (Faf.res u).1 (Faf.res u).2 :=
  fnC1 (C := Faf.C n) (A := Faf.A n) (fn := Tryd.f61) rfl (.cons (Faw.s hmix n) (.cons (Fae.s hmix n) .nil)) hmix Tryd.func61 (by kernel_rfl) (lp := []) (by kernel_rfl) .nil
  (nj rfl) (by decide) rfl rfl (by show 1 ≤ Tryd.f61.ntmps; decide) (Faf.run n t) (Faf.gmap Faf.res (fun a0 => a0) n t) h
theorem Faf.s (hmix : Tryd.prog.follows .mixedOrders = true) (n : Nat) : CalleeS Tryd.prog abiG 61 (Faf.c n) :=
  .mk1 (res := Faf.res) (shape := Faf.shape) (fun R u K => rfl) (fun _ _ _ h => by unfold Faf.pat at h; split at h <;> cases h; rfl) (fun t u h => Faf.call hmix n t u h) Tryd.func61 (by decide) (by kernel_rfl)
end
section
noncomputable abbrev Fag.R0 (n : Nat) := roundOf (Fag.C n) (Fag.A n) n Fag.b0
theorem Fag.l3_0.rmap {α β : Type} (h : β → α) (mk0 : LI → LI → β) (n : Nat) (f : Int → Int → LA → LA → LI → LI → Option β)  (x0 : Int) (x1 : Int) (x2 : LA) (x3 : LA) (x4 : LI) (x5 : LI) : Fag.l3_0.r (fun a0 a1 => (h (mk0 a0 a1))) n (fun y0 y1 y2 y3 y4 y5 => (f y0 y1 y2 y3 y4 y5).map h) x0 x1 x2 x3 x4 x5 = (Fag.l3_0.r mk0 n f x0 x1 x2 x3 x4 x5).map h := by
  unfold Fag.l3_0.r
  exact (ite_map (ite_map (ite_map (bindO_map fun r10 => (bindO_map fun r12 => (bindO_map fun r14 => (bindO_map fun r16 => (ite_map (bindO_map fun r20 => (ite_map rfl rfl)) (bindO_map fun r20 => (ite_map (bindO_map fun r24 => (ite_map (ite_map (ite_map (ite_map rfl rfl) rfl) rfl) rfl)) rfl))))))) rfl) rfl) rfl)
theorem Fag.l3_0.gmap {α β : Type} (h : β → α) (mk0 : LI → LI → β) (n : Nat) : ∀ (m : Nat) (x0 : Int) (x1 : Int) (x2 : LA) (x3 : LA) (x4 : LI) (x5 : LI), Fag.l3_0.g (fun a0 a1 => (h (mk0 a0 a1))) n m x0 x1 x2 x3 x4 x5 = (Fag.l3_0.g mk0 n m x0 x1 x2 x3 x4 x5).map h
  | 0, _, _, _, _, _, _ => rfl
  | m + 1, x0, x1, x2, x3, x4, x5 => by
    unfold Fag.l3_0.g
    rw [← Fag.l3_0.rmap]
    congr
    · funext y0 y1 y2 y3 y4 y5; exact Fag.l3_0.gmap h mk0 n m y0 y1 y2 y3 y4 y5
theorem Fag.l3_0.pat_shape : ∀ st t, Fag.l3_0.pat st = some t → st = Fag.l3_0.shape t := fun _ _ h => by unfold Fag.l3_0.pat at h; split at h <;> cases h; rfl
def Fag.l3_0.k0 : LI → LI → Ex × St := (fun a0 a1 => (((.exit 0), (St.mk [(.own 0 1), (.own 1 1)] [(some (.ints .u8 a0)), (some (.ints .u8 a1))])) : Ex × St))
theorem Fag.l3_0.round (n : Nat) (rc : St → Option (Ex × St)) (x0 : Int) (x1 : Int) (x2 : LA) (x3 : LA) (x4 : LI) (x5 : LI) : Fag.R0 n rc ((St.mk [(.int .i64 x0), (.int .i64 x1), (.robjs 69 6 x2), (.own 0 1), (.robjs 69 6 x3), (.own 1 1)] [(some (.ints .u8 x4)), (some (.ints .u8 x5))])) = Fag.l3_0.r Fag.l3_0.k0 n (fun y0 y1 y2 y3 y4 y5 => rc ((St.mk [(.int .i64 y0), (.int .i64 y1), (.robjs 69 6 y2), (.own 0 1), (.robjs 69 6 y3), (.own 1 1)] [(some (.ints .u8 y4)), (some (.ints .u8 y5))]))) x0 x1 x2 x3 x4 x5 := by kernel_rfl
theorem Fag.l3_0.loop' (n : Nat) : ∀ (m : Nat) (t : (Int × (Int × (LA × (LA × (LI × LI)))))), loopOf (Fag.R0 n) m (Fag.l3_0.shape t) = Fag.l3_0.g Fag.l3_0.k0 n m t.1 t.2.1 t.2.2.1 t.2.2.2.1 t.2.2.2.2.1 t.2.2.2.2.2 :=
  loop_of_round (shape := Fag.l3_0.shape) (body := Fag.R0 n) (g := fun m t => Fag.l3_0.g Fag.l3_0.k0 n m t.1 t.2.1 t.2.2.1 t.2.2.2.1 t.2.2.2.2.1 t.2.2.2.2.2) (fun t => rfl)
    fun m t ih => (Fag.l3_0.round n (loopOf (Fag.R0 n) m) t.1 t.2.1 t.2.2.1 t.2.2.2.1 t.2.2.2.2.1 t.2.2.2.2.2).trans (congrFun (congrFun (congrFun (congrFun (congrFun (congrFun (congrArg (Fag.l3_0.r Fag.l3_0.k0 n) (funext fun y0 => funext fun y1 => funext fun y2 => funext fun y3 => funext fun y4 => funext fun y5 => ih (y0, y1, y2, y3, y4, y5))) t.1) t.2.1) t.2.2.1) t.2.2.2.1) t.2.2.2.2.1) t.2.2.2.2.2)
theorem Fag.l3_0.loop (n m : Nat) (t : (Int × (Int × (LA × (LA × (LI × LI)))))) : loopOf (Fag.R0 n) m (Fag.l3_0.shape t) = (Fag.l3_0.m n m t).map Fag.l3_0.res :=
  (Fag.l3_0.loop' n m t).trans (Fag.l3_0.gmap Fag.l3_0.res (fun a0 a1 => (a0, a1)) n m t.1 t.2.1 t.2.2.1 t.2.2.2.1 t.2.2.2.2.1 t.2.2.2.2.2)
theorem Fag.gmap {α β : Type} (h : β → α) (mk0 : LI → β) (n : Nat) (a0 : LA) : Fag.g (fun a0 => (h (mk0 a0))) n a0 = (Fag.g mk0 n a0).map h := by
  unfold Fag.g
  exact (bindO_map fun r2 => (ite_map rfl rfl))
theorem Fag.run (n : Nat) (a0 : LA) : runF (Fag.C n) (Fag.A n) n Tryd.f20 [(.robjs 69 6 a0)] [] (fun v o => some (v, o)) = Fag.g (fun a0 => (((.own 0 1), [(some (.ints .u8 a0))]) : AV × Blks)) n a0 := by kernel_rfl
theorem Fag.call (hmix : Tryd.prog.follows .mixedOrders = true) (n : Nat) (t : LA) (u) (h : Fag.m n t = some u) : FnC Tryd.prog abiG 20 (Fag.shape t).1 (Fag.shape t).2 (Fag.res u).1 (Fag.res u).2 :=
  fnC1 (C := Fag.C n) (A := Fag.A n) (fn := Tryd.f20) rfl (.cons (Fae.s hmix n) (.cons (Faf.s hmix n) .nil)) hmix Tryd.func20 (by kernel_rfl) (lp := [Fag.b0]) (by kernel_rfl) (.cons (show (Fag.A n).loop (key Fag.b0) = some (.mk' Fag.l3_0.pat (Fag.l3_0.m n n) Fag.l3_0.resK) by kernel_rfl) (LoopS.of (res := Fag.l3_0.res) (fun R u K => rfl) Fag.l3_0.pat_shape fun t => Fag.l3_0.loop n n t)
  .nil)
  (nj rfl) (by decide) rfl rfl (by show 1 ≤ Tryd.f20.ntmps; decide) (Fag.run n t) (Fag.gmap Fag.res (fun a0 => a0) n t) h
theorem Fag.s (hmix : Tryd.prog.follows .mixedOrders = true) (n : Nat) : CalleeS Tryd.prog abiG 20 (Fag.c n) :=
  .mk1 (res := Fag.res) (shape := Fag.shape) (fun R u K => rfl) (fun _ _ _ h => by unfold Fag.pat at h; split at h <;> cases h; rfl) (fun t u h => Fag.call hmix n t u h) Tryd.func20 (by decide) (by kernel_rfl)
end
section
noncomputable section
noncomputable def Fbg.C (n : Nat) : Ctx := ⟨Tryd.prog, abiG, lookC [], fun _ => false⟩
noncomputable def Fbg.A (n : Nat) : Ann := ⟨Tryd.f51.ntmps, 0, noNL, [], [none], fun k => match k with
 | _ => none, noNL, lookJ []⟩
def Fbg.g {α : Type} (mk0 : LI → α) (n : Nat) (a0 : Int) : Option α :=
 some (mk0 [a0, 0, 0, 0])
def Fbg.m (n : Nat) (t : Int) : Option LI := Fbg.g (fun a0 => a0) n t
def Fbg.pat : List AV → Blks → Option Int
 | [(.int .u64 a0)], [] => some a0
 | _, _ => none
def Fbg.shape (t : Int) : List AV × Blks := ([(.int .u64 t)], [])
def Fbg.res : LI → AV × Blks
 | u => ((.ints .u64 4 u), [])
def Fbg.resK {R : Type} (u : LI) (K : AV → Blks → Option R) : Option R := K (Fbg.res u).1 (Fbg.res u).2
def Fbg.c (n : Nat) : Abs.Callee := .mk' [] [none] Fbg.pat (Fbg.m n) Fbg.resK
end
end
section
theorem Fbg.gmap {α β : Type} (h : β → α) (mk0 : LI → β) (n : Nat) (a0 : Int) : Fbg.g (fun a0 => (h (mk0 a0))) n a0 = (Fbg.g mk0 n a0).map h := by
  unfold Fbg.g
  exact rfl
theorem Fbg.run (n : Nat) (a0 : Int) : runF (Fbg.C n) (Fbg.A n) n Tryd.f51 [(.int .u64 a0)] [] (fun v o => some (v, o)) = Fbg.g (fun a0 => (((.ints .u64 4 a0), []) : AV × Blks)) n a0 := by kernel_rfl
theorem Fbg.call (hmix : Tryd.prog.follows .mixedOrders = true) (n : Nat) (t : Int) (u) (h : Fbg.m n t = some u) : FnC Tryd.prog abiG 51 (Fbg.shape t).1 (Fbg.shape t).2 (Fbg.res u).1 (Fbg.res u).2 :=
  fnC1 (C := Fbg.C n) (A := Fbg.A n) (fn := Tryd.f51) rfl .nil hmix Tryd.func51 (by kernel_rfl) (lp := []) (by kernel_rfl) .nil
  (nj rfl) (by decide) rfl rfl (by show 1 ≤ Tryd.f51.ntmps; decide) (Fbg.run n t) (Fbg.gmap Fbg.res (fun a0 => a0) n t) h
theorem Fbg.s (hmix : Tryd.prog.follows .mixedOrders = true) (n : Nat) : CalleeS Tryd.prog abiG 51 (Fbg.c n) :=
  .mk1 (res := Fbg.res) (shape := Fbg.shape) (fun R u K => rfl) (fun _ _ _ h => by unfold Fbg.pat at h; split at h <;> cases h; rfl) (fun t u h => Fbg.call hmix n t u h) Tryd.func51 (by decide) (by kernel_rfl)
end
section
noncomputable section
noncomputable def Fc.C (n : Nat) : Ctx := ⟨Tryd.prog, abiG, lookC [], fun _ => false⟩
noncomputable def Fc.A (n : Nat) : Ann := ⟨Tryd.f117.ntmps, 0, noNL, [], [(some (.ints .u8))], fun k => match k with
 | _ => none, noNL, lookJ []⟩
def Fc.g {α : Type} (mk0 : LI → α) (n : Nat) (sz : Int) : Option α :=
 if (decide (sz < 0)) = true then
  none
 else
  if (decide ((IntKind.wrap .i64 (sz - 0)) > 0)) = true then
   if 0 ≤ (IntKind.wrap .i64 (sz - 0)) then
    if (((List.length (List.replicate (Int.toNat (IntKind.wrap .i64 (sz - 0))) (0 : Int))) * 1) ≤ 70368744177664 ∧ (List.length (List.replicate (Int.toNat (IntKind.wrap .i64 (sz - 0))) (0 : Int))) ≤ 9223372036854775807) then
     some (mk0 [])
    else
     none
   else
    none
  else
   some (mk0 [])
def Fc.m (n : Nat) (t : Int) : Option LI := Fc.g (fun a0 => a0) n t
def Fc.pat : List AV → Blks → Option Int
 | [.snil, (.int .i64 sz)], [] => some sz
 | _, _ => none
def Fc.shape (t : Int) : List AV × Blks := ([.snil, (.int .i64 t)], [])
def Fc.res : LI → AV × Blks
 | u => ((.own 0 1), [(some (.ints .u8 u))])
def Fc.resK {R : Type} (u : LI) (K : AV → Blks → Option R) : Option R := K (Fc.res u).1 (Fc.res u).2
def Fc.c (n : Nat) : Abs.Callee := .mk' [] [none, none] Fc.pat (Fc.m n) Fc.resK
end
end
section
noncomputable section
noncomputable def Fa.C (n : Nat) : Ctx := ⟨Tryd.prog, abiG, lookC [(117, Fc.c n)], fun _ => false⟩
def Fa.live : NL := fun k => match k with
 | 3 => ([11, 10, 9, 3, 0], [3, 0])
 | 11 => ([27, 26, 25, 6], [6])
 | _ => ([], [])
def Fa.l3_0.r {α : Type} (mk0 : Int → LA → α) (n : Nat) (rc : Int → Int → LA → Int → LA → Option α)  (x0 : Int) (x1 : Int) (x2 : LA) (x3 : Int) (x4 : LA) : Option α :=
  if (decide (x0 < x1)) = true then
   if 0 ≤ x0 then
    if x0 < (((List.length x2) : Nat) : Int) then
     bindO (tkRints .u8 (List.getD x2 (Int.toNat x0) AV.any)) fun r10 =>
      if (decide ((IntKind.wrap .i64 (x3 + (((List.length r10) : Nat) : Int))) < 0)) = true then
       none
      else
       rc (IntKind.wrap .i64 (x0 + 1)) x1 x2 (IntKind.wrap .i64 (x3 + (((List.length r10) : Nat) : Int))) x4
    else
     none
   else
    none
  else
   some (mk0 x3 x4)
def Fa.l3_0.g {α : Type} (mk0 : Int → LA → α) (n : Nat) : Nat → Int → Int → LA → Int → LA → Option α
 | 0, _, _, _, _, _ => none
 | m + 1, x0, x1, x2, x3, x4 => Fa.l3_0.r mk0 n (fun y0 y1 y2 y3 y4 => Fa.l3_0.g mk0 n m y0 y1 y2 y3 y4)  x0 x1 x2 x3 x4
def Fa.l3_0.m (n m : Nat) (t : (Int × (Int × (LA × (Int × LA))))) : Option (Int × LA) := Fa.l3_0.g (fun a0 a1 => (a0, a1)) n m t.1 t.2.1 t.2.2.1 t.2.2.2.1 t.2.2.2.2
def Fa.l3_0.pat : St → Option (Int × (Int × (LA × (Int × LA))))
 | (St.mk [(.int .i64 x0), (.int .i64 x1), (.robjs 26 1 x2), (.int .i64 x3), (.robjs 26 1 x4)] []) => some (x0, x1, x2, x3, x4)
 | _ => none
def Fa.l3_0.shape (t : (Int × (Int × (LA × (Int × LA))))) : St := (St.mk [(.int .i64 t.1), (.int .i64 t.2.1), (.robjs 26 1 t.2.2.1), (.int .i64 t.2.2.2.1), (.robjs 26 1 t.2.2.2.2)] [])
def Fa.l3_0.res : (Int × LA) → Ex × St
 | u => ((.exit 0), (St.mk [(.int .i64 u.1), (.robjs 26 1 u.2)] []))
def Fa.l3_0.resK {R : Type} (u : (Int × LA)) (K : Ex → St → Option R) : Option R := K (Fa.l3_0.res u).1 (Fa.l3_0.res u).2
def Fa.l11_0.r {α : Type} (mk0 : LI → α) (n : Nat) (rc : Int → Int → LA → LI → Option α)  (x0 : Int) (x1 : Int) (x2 : LA) (x3 : LI) : Option α :=
  if (decide (x0 < x1)) = true then
   if 0 ≤ x0 then
    if x0 < (((List.length x2) : Nat) : Int) then
     bindO (tkRints .u8 (List.getD x2 (Int.toNat x0) AV.any)) fun r10 =>
      if ((((List.length x3) + (List.length r10)) * 1) ≤ 70368744177664 ∧ ((List.length x3) + (List.length r10)) ≤ 9223372036854775807) then
       rc (IntKind.wrap .i64 (x0 + 1)) x1 x2 (x3 ++ r10)
      else
       none
    else
     none
   else
    none
  else
   some (mk0 x3)
def Fa.l11_0.g {α : Type} (mk0 : LI → α) (n : Nat) : Nat → Int → Int → LA → LI → Option α
 | 0, _, _, _, _ => none
 | m + 1, x0, x1, x2, x3 => Fa.l11_0.r mk0 n (fun y0 y1 y2 y3 => Fa.l11_0.g mk0 n m y0 y1 y2 y3)  x0 x1 x2 x3
def Fa.l11_0.m (n m : Nat) (t : (Int × (Int × (LA × LI)))) : Option LI := Fa.l11_0.g (fun a0 => a0) n m t.1 t.2.1 t.2.2.1 t.2.2.2
def Fa.l11_0.pat : St → Option (Int × (Int × (LA × LI)))
 | (St.mk [(.int .i64 x0), (.int .i64 x1), (.robjs 26 1 x2), (.own 0 1)] [(some (.ints .u8 x3))]) => some (x0, x1, x2, x3)
 | _ => none
def Fa.l11_0.shape (t : (Int × (Int × (LA × LI)))) : St := (St.mk [(.int .i64 t.1), (.int .i64 t.2.1), (.robjs 26 1 t.2.2.1), (.own 0 1)] [(some (.ints .u8 t.2.2.2))])
def Fa.l11_0.res : LI → Ex × St
 | u => ((.exit 2), (St.mk [(.own 0 1)] [(some (.ints .u8 u))]))
def Fa.l11_0.resK {R : Type} (u : LI) (K : Ex → St → Option R) : Option R := K (Fa.l11_0.res u).1 (Fa.l11_0.res u).2
noncomputable def Fa.A (n : Nat) : Ann := ⟨Tryd.f99.ntmps, 0, Fa.live, [(0, (.objs 26 1)), (9, (.objs 26 1)), (25, (.objs 26 1)), (6, (.ints .u8))], [(some (.ints .u8))], fun k => match k with
 | 3 => some (.mk' Fa.l3_0.pat (Fa.l3_0.m n n) Fa.l3_0.resK)
 | 11 => some (.mk' Fa.l11_0.pat (Fa.l11_0.m n n) Fa.l11_0.resK)
 | _ => none, noNL, lookJ []⟩
noncomputable def Fa.b0 : Code := (loopsIn (Tryd.f99.body.getD .skip)).getD 0 .skip
noncomputable def Fa.b1 : Code := (loopsIn (Tryd.f99.body.getD .skip)).getD 1 .skip
def Fa.g {α : Type} (mk0 : LI → α) (n : Nat) (a0 : LA) : Option α :=
 bindO (Fa.l3_0.m n n (0, (((List.length a0) : Nat) : Int), a0, 0, a0)) fun r2 =>
  bindO (Fc.m n r2.1) fun r4 =>
   bindO (Fa.l11_0.m n n (0, (((List.length r2.2) : Nat) : Int), r2.2, r4)) fun r6 =>
    some (mk0 r6)
def Fa.m (n : Nat) (t : LA) : Option LI := Fa.g (fun a0 => a0) n t
def Fa.pat : List AV → Blks → Option LA
 | [(.robjs 26 1 a0)], [] => some a0
 | _, _ => none
def Fa.shape (t : LA) : List AV × Blks := ([(.robjs 26 1 t)], [])
def Fa.res : LI → AV × Blks
 | u => ((.own 0 1), [(some (.ints .u8 u))])
def Fa.resK {R : Type} (u : LI) (K : AV → Blks → Option R) : Option R := K (Fa.res u).1 (Fa.res u).2
def Fa.c (n : Nat) : Abs.Callee := .mk' [] [(some (.objs 26 1))] Fa.pat (Fa.m n) Fa.resK
end
end
section
theorem Fc.gmap {α β : Type} (h : β → α) (mk0 : LI → β) (n : Nat) (sz : Int) : Fc.g (fun a0 => (h (mk0 a0))) n sz = (Fc.g mk0 n sz).map h := by
  unfold Fc.g
  exact (ite_map rfl (ite_map (ite_map (ite_map rfl rfl) rfl) rfl))
theorem Fc.run (n : Nat) (sz : Int) : runF (Fc.C n) (Fc.A n) n Tryd.f117 [.snil, (.int .i64 sz)] [] (fun v o => some (v, o)) = Fc.g (fun a0 => (((.own 0 1), [(some (.ints .u8 a0))]) : AV × Blks)) n sz := by kernel_rfl
theorem Fc.call (hmix : Tryd.prog.follows .mixedOrders = true) (n : Nat) (t : Int) (u) (h : Fc.m n t = some u) : FnC Tryd.prog abiG 117 (Fc.shape t).1 (Fc.shape t).2 (Fc.res u).1 (Fc.res u).2 :=
  fnC1 (C := Fc.C n) (A := Fc.A n) (fn := Tryd.f117) rfl .nil hmix Tryd.func117 (by kernel_rfl) (lp := []) (by kernel_rfl) .nil
  (nj rfl) (by decide) rfl rfl (by show 2 ≤ Tryd.f117.ntmps; decide) (Fc.run n t) (Fc.gmap Fc.res (fun a0 => a0) n t) h
theorem Fc.s (hmix : Tryd.prog.follows .mixedOrders = true) (n : Nat) : CalleeS Tryd.prog abiG 117 (Fc.c n) :=
  .mk1 (res := Fc.res) (shape := Fc.shape) (fun R u K => rfl) (fun _ _ _ h => by unfold Fc.pat at h; split at h <;> cases h; rfl) (fun t u h => Fc.call hmix n t u h) Tryd.func117 (by decide) (by kernel_rfl)
end
section
noncomputable abbrev Fa.R0 (n : Nat) := roundOf (Fa.C n) (Fa.A n) n Fa.b0
noncomputable abbrev Fa.R1 (n : Nat) := roundOf (Fa.C n) (Fa.A n) n Fa.b1
theorem Fa.l3_0.rmap {α β : Type} (h : β → α) (mk0 : Int → LA → β) (n : Nat) (f : Int → Int → LA → Int → LA → Option β)  (x0 : Int) (x1 : Int) (x2 : LA) (x3 : Int) (x4 : LA) : Fa.l3_0.r (fun a0 a1 => (h (mk0 a0 a1))) n (fun y0 y1 y2 y3 y4 => (f y0 y1 y2 y3 y4).map h) x0 x1 x2 x3 x4 = (Fa.l3_0.r mk0 n f x0 x1 x2 x3 x4).map h := by
  unfold Fa.l3_0.r
  exact (ite_map (ite_map (ite_map (bindO_map fun r10 => (ite_map rfl rfl)) rfl) rfl) rfl)
theorem Fa.l3_0.gmap {α β : Type} (h : β → α) (mk0 : Int → LA → β) (n : Nat) : ∀ (m : Nat) (x0 : Int) (x1 : Int) (x2 : LA) (x3 : Int) (x4 : LA), Fa.l3_0.g (fun a0 a1 => (h (mk0 a0 a1))) n m x0 x1 x2 x3 x4 = (Fa.l3_0.g mk0 n m x0 x1 x2 x3 x4).map h
  | 0, _, _, _, _, _ => rfl
  | m + 1, x0, x1, x2, x3, x4 => by
    unfold Fa.l3_0.g
    rw [← Fa.l3_0.rmap]
    congr
    · funext y0 y1 y2 y3 y4; exact Fa.l3_0.gmap h mk0 n m y0 y1 y2 y3 y4
theorem Fa.l3_0.pat_shape : ∀ st t, Fa.l3_0.pat st = some t → st = Fa.l3_0.shape t := fun _ _ h => by unfold Fa.l3_0.pat at h; split at h <;> cases h; rfl
def Fa.l3_0.k0 : Int → LA → Ex × St := (fun a0 a1 => (((.exit 0), (St.mk [(.int .i64 a0), (.robjs 26 1 a1)] [])) : Ex × St))
theorem Fa.l3_0.round (n : Nat) (rc : St → Option (Ex × St)) (x0 : Int) (x1 : Int) (x2 : LA) (x3 : Int) (x4 : LA) : Fa.R0 n rc ((St.mk [(.int .i64 x0), (.int .i64 x1), (.robjs 26 1 x2), (.int .i64 x3), (.robjs 26 1 x4)] [])) = Fa.l3_0.r Fa.l3_0.k0 n (fun y0 y1 y2 y3 y4 => rc ((St.mk [(.int .i64 y0), (.int .i64 y1), (.robjs 26 1 y2), (.int .i64 y3), (.robjs 26 1 y4)] []))) x0 x1 x2 x3 x4 := by kernel_rfl
theorem Fa.l3_0.loop' (n : Nat) : ∀ (m : Nat) (t : (Int × (Int × (LA × (Int × LA))))), loopOf (Fa.R0 n) m (Fa.l3_0.shape t) = Fa.l3_0.g Fa.l3_0.k0 n m t.1 t.2.1 t.2.2.1 t.2.2.2.1 t.2.2.2.2 :=
  loop_of_round (shape := Fa.l3_0.shape) (body := Fa.R0 n) (g := fun m t => Fa.l3_0.g Fa.l3_0.k0 n m t.1 t.2.1 t.2.2.1 t.2.2.2.1 t.2.2.2.2) (fun t => rfl)
    fun m t ih => (Fa.l3_0.round n (loopOf (Fa.R0 n) m) t.1 t.2.1 t.2.2.1 t.2.2.2.1 t.2.2.2.2).trans (congrFun (congrFun (congrFun (congrFun (congrFun (congrArg (Fa.l3_0.r Fa.l3_0.k0 n) (funext fun y0 => funext fun y1 => funext fun y2 => funext fun y3 => funext fun y4 => ih (y0, y1, y2, y3, y4))) t.1) t.2.1) t.2.2.1) t.2.2.2.1) t.2.2.2.2)
theorem Fa.l3_0.loop (n m : Nat) (t : (Int × (Int × (LA × (Int × LA))))) : loopOf (Fa.R0 n) m (Fa.l3_0.shape t) = (Fa.l3_0.m n m t).map Fa.l3_0.res :=
  (Fa.l3_0.loop' n m t).trans (Fa.l3_0.gmap Fa.l3_0.res (fun a0 a1 => (a0, a1)) n m t.1 t.2.1 t.2.2.1 t.2.2.2.1 t.2.2.2.2)
theorem Fa.l11_0.rmap {α β : Type} (h : β → α) (mk0 : LI → β) (n : Nat) (f : Int → Int → LA → LI → Option β)  (x0 : Int) (x1 : Int) (x2 : LA) (x3 : LI) : Fa.l11_0.r (fun a0 => (h (mk0 a0))) n (fun y0 y1 y2 y3 => (f y0 y1 y2 y3).map h) x0 x1 x2 x3 = (Fa.l11_0.r mk0 n f x0 x1 x2 x3).map h := by
  unfold Fa.l11_0.r
  exact (ite_map (ite_map (ite_map (bindO_map fun r10 => (ite_map rfl rfl)) rfl) rfl) rfl)
theorem Fa.l11_0.gmap {α β : Type} (h : β → α) (mk0 : LI → β) (n : Nat) : ∀ (m : Nat) (x0 : Int) (x1 : Int) (x2 : LA) (x3 : LI), Fa.l11_0.g (fun a0 => (h (mk0 a0))) n m x0 x1 x2 x3 = (Fa.l11_0.g mk0 n m x0 x1 x2 x3).map h
  | 0, _, _, _, _ => rfl
  | m + 1, x0, x1, x2, x3 => by
    unfold Fa.l11_0.g
    rw [← Fa.l11_0.rmap]
    congr
    · funext y0 y1 y2 y3; exact Fa.l11_0.gmap h mk0 n m y0 y1 y2 y3
theorem Fa.l11_0.pat_shape : ∀ st t, Fa.l11_0.pat st = some t → st = Fa.l11_0.shape t := fun _ _ h => by unfold Fa.l11_0.pat at h; split at h <;> cases h; rfl
def Fa.l11_0.k0 : LI → Ex × St := (fun a0 => (((.exit 2), (St.mk [(.own 0 1)] [(some (.ints .u8 a0))])) : Ex × St))
theorem Fa.l11_0.round (n : Nat) (rc : St → Option (Ex × St)) (x0 : Int) (x1 : Int) (x2 : LA) (x3 : LI) : Fa.R1 n rc ((St.mk [(.int .i64 x0), (.int .i64 x1), (.robjs 26 1 x2), (.own 0 1)] [(some (.ints .u8 x3))])) = Fa.l11_0.r Fa.l11_0.k0 n (fun y0 y1 y2 y3 => rc ((St.mk [(.int .i64 y0), (.int .i64 y1), (.robjs 26 1 y2), (.own 0 1)] [(some (.ints .u8 y3))]))) x0 x1 x2 x3 := by kernel_rfl
theorem Fa.l11_0.loop' (n : Nat) : ∀ (m : Nat) (t : (Int × (Int × (LA × LI)))), loopOf (Fa.R1 n) m (Fa.l11_0.shape t) = Fa.l11_0.g Fa.l11_0.k0 n m t.1 t.2.1 t.2.2.1 t.2.2.2 :=
  loop_of_round (shape := Fa.l11_0.shape) (body := Fa.R1 n) (g := fun m t => Fa.l11_0.g Fa.l11_0.k0 n m t.1 t.2.1 t.2.2.1 t.2.2.2) (fun t => rfl)
    fun m t ih => (Fa.l11_0.round n (loopOf (Fa.R1 n) m) t.1 t.2.1 t.2.2.1 t.2.2.2).trans (congrFun (congrFun (congrFun (congrFun (congrArg (Fa.l11_0.r Fa.l11_0.k0 n) (funext fun y0 => funext fun y1 => funext fun y2 => funext fun y3 => ih (y0, y1, y2, y3))) t.1) t.2.1) t.2.2.1) t.2.2.2)
theorem Fa.l11_0.loop (n m : Nat) (t : (Int × (Int × (LA × LI)))) : loopOf (Fa.R1 n) m (Fa.l11_0.shape t) = (Fa.l11_0.m n m t).map Fa.l11_0.res :=
  (Fa.l11_0.loop' n m t).trans (Fa.l11_0.gmap Fa.l11_0.res (fun a0 => a0) n m t.1 t.2.1 t.2.2.1 t.2.2.2)
theorem Fa.gmap {α β : Type} (h : β → α) (mk0 : LI → β) (n : Nat) (a0 : LA) : Fa.g (fun a0 => (h (mk0 a0))) n a0 = (Fa.g mk0 n a0).map h := by
  unfold Fa.g
  exact (bindO_map fun r2 => (bindO_map fun r4 => (bindO_map fun r6 => rfl)))
theorem Fa.run (n : Nat) (a0 : LA) : runF (Fa.C n) (Fa.A n) n Tryd.f99 [(.robjs 26 1 a0)] [] (fun v o => some (v, o)) = Fa.g (fun a0 => (((.own 0 1), [(some (.ints .u8 a0))]) : AV × Blks)) n a0 := by kernel_rfl
theorem Fa.call (hmix : Tryd.prog.follows .mixedOrders = true) (n : Nat) (t : LA) (u) (h : Fa.m n t = some u) : FnC Tryd.prog abiG 99 (Fa.shape t).1 (Fa.shape t).2 (Fa.res u).1 (Fa.res u).2 :=
  fnC1 (C := Fa.C n) (A := Fa.A n) (fn := Tryd.f99) rfl (.cons (Fc.s hmix n) .nil) hmix Tryd.func99 (by kernel_rfl) (lp := [Fa.b0, Fa.b1]) (by kernel_rfl) (.cons (show (Fa.A n).loop (key Fa.b0) = some (.mk' Fa.l3_0.pat (Fa.l3_0.m n n) Fa.l3_0.resK) by kernel_rfl) (LoopS.of (res := Fa.l3_0.res) (fun R u K => rfl) Fa.l3_0.pat_shape fun t => Fa.l3_0.loop n n t)
  (.cons (show (Fa.A n).loop (key Fa.b1) = some (.mk' Fa.l11_0.pat (Fa.l11_0.m n n) Fa.l11_0.resK) by kernel_rfl) (LoopS.of (res := Fa.l11_0.res) (fun R u K => rfl) Fa.l11_0.pat_shape fun t => Fa.l11_0.loop n n t)
  .nil))
  (nj rfl) (by decide) rfl rfl (by show 1 ≤ Tryd.f99.ntmps; decide) (Fa.run n t) (Fa.gmap Fa.res (fun a0 => a0) n t) h
theorem Fa.s (hmix : Tryd.prog.follows .mixedOrders = true) (n : Nat) : CalleeS Tryd.prog abiG 99 (Fa.c n) :=
  .mk1 (res := Fa.res) (shape := Fa.shape) (fun R u K => rfl) (fun _ _ _ h => by unfold Fa.pat at h; split at h <;> cases h; rfl) (fun t u h => Fa.call hmix n t u h) Tryd.func99 (by decide) (by kernel_rfl)
end
section
noncomputable section
noncomputable def Fp.C (n : Nat) : Ctx := ⟨Tryd.prog, abiG, lookC [(99, Fa.c n)], fun _ => false⟩
noncomputable def Fp.A (n : Nat) : Ann := ⟨Tryd.f70.ntmps, 0, noNL, [], [none], fun k => match k with
 | _ => none, noNL, lookJ []⟩
def Fp.g {α : Type} (mk0 : Bool → LI → LI → α) (n : Nat) (a0 : LA) : Option α :=
 bindO (Fa.m n a0) fun r2 =>
  some (mk0 true [0, 0, 0, 0] r2)
def Fp.m (n : Nat) (t : LA) : Option (Bool × (LI × LI)) := Fp.g (fun a0 a1 a2 => (a0, a1, a2)) n t
def Fp.pat : List AV → Blks → Option LA
 | [(.robjs 26 1 a0)], [] => some a0
 | _, _ => none
def Fp.shape (t : LA) : List AV × Blks := ([(.robjs 26 1 t)], [])
def Fp.res : (Bool × (LI × LI)) → AV × Blks
 | u => ((.agg [(.bool u.1), (.ints .u64 4 u.2.1), (.own 0 1)]), [(some (.ints .u8 u.2.2))])
def Fp.resK {R : Type} (u : (Bool × (LI × LI))) (K : AV → Blks → Option R) : Option R := K (Fp.res u).1 (Fp.res u).2
def Fp.c (n : Nat) : Abs.Callee := .mk' [] [(some (.objs 26 1))] Fp.pat (Fp.m n) Fp.resK
end
end
section
theorem Fp.gmap {α β : Type} (h : β → α) (mk0 : Bool → LI → LI → β) (n : Nat) (a0 : LA) : Fp.g (fun a0 a1 a2 => (h (mk0 a0 a1 a2))) n a0 = (Fp.g mk0 n a0).map h := by
  unfold Fp.g
  exact (bindO_map fun r2 => rfl)
theorem Fp.run (n : Nat) (a0 : LA) : runF (Fp.C n) (Fp.A n) n Tryd.f70 [(.robjs 26 1 a0)] [] (fun v o => some (v, o)) = Fp.g (fun a0 a1 a2 => (((.agg [(.bool a0), (.ints .u64 4 a1), (.own 0 1)]), [(some (.ints .u8 a2))]) : AV × Blks)) n a0 := by kernel_rfl
theorem Fp.call (hmix : Tryd.prog.follows .mixedOrders = true) (n : Nat) (t : LA) (u) (h : Fp.m n t = some u) : FnC Tryd.prog abiG 70 (Fp.shape t).1 (Fp.shape t).2 (Fp.res u).1 (Fp.res u).2 :=
  fnC1 (C := Fp.C n) (A := Fp.A n) (fn := Tryd.f70) rfl (.cons (Fa.s hmix n) .nil) hmix Tryd.func70 (by kernel_rfl) (lp := []) (by kernel_rfl) .nil
  (nj rfl) (by decide) rfl rfl (by show 1 ≤ Tryd.f70.ntmps; decide) (Fp.run n t) (Fp.gmap Fp.res (fun a0 a1 a2 => (a0, a1, a2)) n t) h
theorem Fp.s (hmix : Tryd.prog.follows .mixedOrders = true) (n : Nat) : CalleeS Tryd.prog abiG 70 (Fp.c n) :=
  .mk1 (res := Fp.res) (shape := Fp.shape) (fun R u K => rfl) (fun _ _ _ h => by unfold Fp.pat at h; split at h <;> cases h; rfl) (fun t u h => Fp.call hmix n t u h) Tryd.func70 (by decide) (by kernel_rfl)
end
section
noncomputable section
noncomputable def Fcb.C (n : Nat) : Ctx := ⟨Tryd.prog, abiG, lookC [], fun _ => false⟩
noncomputable def Fcb.A (n : Nat) : Ann := ⟨Tryd.f128.ntmps, 0, noNL, [], [none], fun k => match k with
 | _ => none, noNL, lookJ []⟩
def Fcb.g {α : Type} (mk0 : Bool → α) (n : Nat) (a0 : LI) (a1 : Int) : Option α :=
 if 0 ≤ (IntKind.wrap .i64 (Int.tdiv a1 64)) then
  if (IntKind.wrap .i64 (Int.tdiv a1 64)) < 4 then
   if 0 ≤ (IntKind.wrap .u64 (Int.tmod a1 64)) then
    some (mk0 ((ibits BinOp.and .u64 (ishr .u64 (List.getD a0 (Int.toNat (IntKind.wrap .i64 (Int.tdiv a1 64))) 0) (IntKind.wrap .u64 (Int.tmod a1 64))) 1) == 1))
   else
    none
  else
   none
 else
  none
def Fcb.m (n : Nat) (t : (LI × Int)) : Option Bool := Fcb.g (fun a0 => a0) n t.1 t.2
def Fcb.pat : List AV → Blks → Option (LI × Int)
 | [(.ints .u64 4 a0), (.int .i64 a1)], [] => some (a0, a1)
 | _, _ => none
def Fcb.shape (t : (LI × Int)) : List AV × Blks := ([(.ints .u64 4 t.1), (.int .i64 t.2)], [])
def Fcb.res : Bool → AV × Blks
 | u => ((.bool u), [])
def Fcb.resK {R : Type} (u : Bool) (K : AV → Blks → Option R) : Option R := K (Fcb.res u).1 (Fcb.res u).2
def Fcb.c (n : Nat) : Abs.Callee := .mk' [] [none, none] Fcb.pat (Fcb.m n) Fcb.resK
end
end
section
theorem Fcb.gmap {α β : Type} (h : β → α) (mk0 : Bool → β) (n : Nat) (a0 : LI) (a1 : Int) : Fcb.g (fun a0 => (h (mk0 a0))) n a0 a1 = (Fcb.g mk0 n a0 a1).map h := by
  unfold Fcb.g
  exact (ite_map (ite_map (ite_map rfl rfl) rfl) rfl)
theorem Fcb.run (n : Nat) (a0 : LI) (a1 : Int) : runF (Fcb.C n) (Fcb.A n) n Tryd.f128 [(.ints .u64 4 a0), (.int .i64 a1)] [] (fun v o => some (v, o)) = Fcb.g (fun a0 => (((.bool a0), []) : AV × Blks)) n a0 a1 := by kernel_rfl
theorem Fcb.call (hmix : Tryd.prog.follows .mixedOrders = true) (n : Nat) (t : (LI × Int)) (u) (h : Fcb.m n t = some u) : FnC Tryd.prog abiG 128 (Fcb.shape t).1 (Fcb.shape t).2 (Fcb.res u).1 (Fcb.res u).2 :=
  fnC1 (C := Fcb.C n) (A := Fcb.A n) (fn := Tryd.f128) rfl .nil hmix Tryd.func128 (by kernel_rfl) (lp := []) (by kernel_rfl) .nil
  (nj rfl) (by decide) rfl rfl (by show 2 ≤ Tryd.f128.ntmps; decide) (Fcb.run n t.1 t.2) (Fcb.gmap Fcb.res (fun a0 => a0) n t.1 t.2) h
theorem Fcb.s (hmix : Tryd.prog.follows .mixedOrders = true) (n : Nat) : CalleeS Tryd.prog abiG 128 (Fcb.c n) :=
  .mk1 (res := Fcb.res) (shape := Fcb.shape) (fun R u K => rfl) (fun _ _ _ h => by unfold Fcb.pat at h; split at h <;> cases h; rfl) (fun t u h => Fcb.call hmix n t u h) Tryd.func128 (by decide) (by kernel_rfl)
end
section
noncomputable section
def Faj.m (n : Nat) (t : (Int × (Int × Int))) : Option (Int × Int) := xAdd64 t
def Faj.pat : List AV → Blks → Option (Int × (Int × Int))
 | [(.int .u64 a0), (.int .u64 a1), (.int .u64 a2)], [] => some (a0, a1, a2)
 | _, _ => none
def Faj.shape (t : (Int × (Int × Int))) : List AV × Blks := ([(.int .u64 t.1), (.int .u64 t.2.1), (.int .u64 t.2.2)], [])
def Faj.res : (Int × Int) → AV × Blks
 | u => ((.tup [(.int .u64 u.1), (.int .u64 u.2)]), [])
def Faj.resK {R : Type} (u : (Int × Int)) (K : AV → Blks → Option R) : Option R := K (Faj.res u).1 (Faj.res u).2
def Faj.c (n : Nat) : Abs.Callee := .mk' [] [none, none, none] Faj.pat (Faj.m n) Faj.resK
end
end
section
noncomputable section
noncomputable def Fbk.C (n : Nat) : Ctx := ⟨Tryd.prog, abiG, lookC [(103, Faj.c n)], fun _ => false⟩
def Fbk.live : NL := fun k => match k with
 | 4 => ([9, 2, 3, 7, 6, 4], [6, 7, 4])
 | _ => ([], [])
def Fbk.l4_0.r {α : Type} (mk0 : Int → LI → LI → α) (n : Nat) (rc : Int → Int → LI → LI → LI → LI → Option α)  (x0 : Int) (x1 : Int) (x2 : LI) (x3 : LI) (x4 : LI) (x5 : LI) : Option α :=
  if (decide (x0 < 4)) = true then
   if 0 ≤ x0 then
    if x0 < 4 then
     if 0 ≤ x0 then
      if x0 < 4 then
       bindO (Faj.m n ((List.getD x2 (Int.toNat x0) 0), (List.getD x3 (Int.toNat x0) 0), x1)) fun r14 =>
        if 0 ≤ x0 then
         if x0 < 4 then
          rc (IntKind.wrap .i64 (x0 + 1)) r14.2 x2 x3 (List.set x4 (Int.toNat x0) r14.1) x5
         else
          none
        else
         none
      else
       none
     else
      none
    else
     none
   else
    none
  else
   some (mk0 x1 x4 x5)
def Fbk.l4_0.g {α : Type} (mk0 : Int → LI → LI → α) (n : Nat) : Nat → Int → Int → LI → LI → LI → LI → Option α
 | 0, _, _, _, _, _, _ => none
 | m + 1, x0, x1, x2, x3, x4, x5 => Fbk.l4_0.r mk0 n (fun y0 y1 y2 y3 y4 y5 => Fbk.l4_0.g mk0 n m y0 y1 y2 y3 y4 y5)  x0 x1 x2 x3 x4 x5
def Fbk.l4_0.m (n m : Nat) (t : (Int × (Int × (LI × (LI × (LI × LI)))))) : Option (Int × (LI × LI)) := Fbk.l4_0.g (fun a0 a1 a2 => (a0, a1, a2)) n m t.1 t.2.1 t.2.2.1 t.2.2.2.1 t.2.2.2.2.1 t.2.2.2.2.2
def Fbk.l4_0.pat : St → Option (Int × (Int × (LI × (LI × (LI × LI)))))
 | (St.mk [(.int .i64 x0), (.ptr 0 []), (.ptr 1 []), (.int .u64 x1), (.ptr 2 []), (.ptr 3 [])] [(some (.var (.ints .u64 4 x2))), (some (.var (.ints .u64 4 x3))), (some (.var (.ints .u64 4 x4))), (some (.var (.ints .u64 4 x5)))]) => some (x0, x1, x2, x3, x4, x5)
 | _ => none
def Fbk.l4_0.shape (t : (Int × (Int × (LI × (LI × (LI × LI)))))) : St := (St.mk [(.int .i64 t.1), (.ptr 0 []), (.ptr 1 []), (.int .u64 t.2.1), (.ptr 2 []), (.ptr 3 [])] [(some (.var (.ints .u64 4 t.2.2.1))), (some (.var (.ints .u64 4 t.2.2.2.1))), (some (.var (.ints .u64 4 t.2.2.2.2.1))), (some (.var (.ints .u64 4 t.2.2.2.2.2)))])
def Fbk.l4_0.res : (Int × (LI × LI)) → Ex × St
 | u => ((.exit 0), (St.mk [(.ptr 0 []), (.int .u64 u.1), (.ptr 1 [])] [(some (.var (.ints .u64 4 u.2.1))), (some (.var (.ints .u64 4 u.2.2)))]))
def Fbk.l4_0.resK {R : Type} (u : (Int × (LI × LI))) (K : Ex → St → Option R) : Option R := K (Fbk.l4_0.res u).1 (Fbk.l4_0.res u).2
noncomputable def Fbk.A (n : Nat) : Ann := ⟨Tryd.f85.ntmps, 0, Fbk.live, [], [none, none], fun k => match k with
 | 4 => some (.mk' Fbk.l4_0.pat (Fbk.l4_0.m n n) Fbk.l4_0.resK)
 | _ => none, noNL, lookJ []⟩
noncomputable def Fbk.b0 : Code := (loopsIn (Tryd.f85.body.getD .skip)).getD 0 .skip
def Fbk.g {α : Type} (mk0 : LI → Bool → α) (n : Nat) (a0 : LI) (a1 : LI) : Option α :=
 bindO (Fbk.l4_0.m n n (0, 0, a0, a1, [0, 0, 0, 0], [0, 0, 0, 0])) fun r2 =>
  some (mk0 r2.2.1 (r2.1 != 0))
def Fbk.m (n : Nat) (t : (LI × LI)) : Option (LI × Bool) := Fbk.g (fun a0 a1 => (a0, a1)) n t.1 t.2
def Fbk.pat : List AV → Blks → Option (LI × LI)
 | [(.ints .u64 4 a0), (.ints .u64 4 a1)], [] => some (a0, a1)
 | _, _ => none
def Fbk.shape (t : (LI × LI)) : List AV × Blks := ([(.ints .u64 4 t.1), (.ints .u64 4 t.2)], [])
def Fbk.res : (LI × Bool) → AV × Blks
 | u => ((.tup [(.ints .u64 4 u.1), (.bool u.2)]), [])
def Fbk.resK {R : Type} (u : (LI × Bool)) (K : AV → Blks → Option R) : Option R := K (Fbk.res u).1 (Fbk.res u).2
def Fbk.c (n : Nat) : Abs.Callee := .mk' [] [none, none] Fbk.pat (Fbk.m n) Fbk.resK
end
end
section
theorem Faj.ok (hmix : Tryd.prog.follows .mixedOrders = true) (n : Nat) (t) (u) (h : Faj.m n t = some u) : FnOK Tryd.prog abiG 103 (Faj.shape t).1 (Faj.shape t).2 (Faj.res u).1 (Faj.res u).2 :=
  xAdd64_ok Tryd.func103 (by kernel_rfl) (by kernel_rfl) (by kernel_rfl) (show Go.Extern.find Tryd.f103 = some add64Entry by kernel_rfl) t u h
theorem Faj.s (hmix : Tryd.prog.follows .mixedOrders = true) (n : Nat) : CalleeS Tryd.prog abiG 103 (Faj.c n) :=
  CalleeS.of (res := Faj.res) (shape := Faj.shape) (fun R u K => rfl) (fun args lent t h => by
    unfold Faj.pat at h
    split at h
    · cases h; rfl
    · cases h) fun t u h => Faj.ok hmix n t u h
end
section
noncomputable abbrev Fbk.R0 (n : Nat) := roundOf (Fbk.C n) (Fbk.A n) n Fbk.b0
theorem Fbk.l4_0.rmap {α β : Type} (h : β → α) (mk0 : Int → LI → LI → β) (n : Nat) (f : Int → Int → LI → LI → LI → LI → Option β)  (x0 : Int) (x1 : Int) (x2 : LI) (x3 : LI) (x4 : LI) (x5 : LI) : Fbk.l4_0.r (fun a0 a1 a2 => (h (mk0 a0 a1 a2))) n (fun y0 y1 y2 y3 y4 y5 => (f y0 y1 y2 y3 y4 y5).map h) x0 x1 x2 x3 x4 x5 = (Fbk.l4_0.r mk0 n f x0 x1 x2 x3 x4 x5).map h := by
  unfold Fbk.l4_0.r
  exact (ite_map (ite_map (ite_map (ite_map (ite_map (bindO_map fun r14 => (ite_map (ite_map rfl rfl) rfl)) rfl) rfl) rfl) rfl) rfl)
theorem Fbk.l4_0.gmap {α β : Type} (h : β → α) (mk0 : Int → LI → LI → β) (n : Nat) : ∀ (m : Nat) (x0 : Int) (x1 : Int) (x2 : LI) (x3 : LI) (x4 : LI) (x5 : LI), Fbk.l4_0.g (fun a0 a1 a2 => (h (mk0 a0 a1 a2))) n m x0 x1 x2 x3 x4 x5 = (Fbk.l4_0.g mk0 n m x0 x1 x2 x3 x4 x5).map h
  | 0, _, _, _, _, _, _ => rfl
  | m + 1, x0, x1, x2, x3, x4, x5 => by
    unfold Fbk.l4_0.g
    rw [← Fbk.l4_0.rmap]
    congr
    · funext y0 y1 y2 y3 y4 y5; exact Fbk.l4_0.gmap h mk0 n m y0 y1 y2 y3 y4 y5
theorem Fbk.l4_0.pat_shape : ∀ st t, Fbk.l4_0.pat st = some t → st = Fbk.l4_0.shape t := fun _ _ h => by unfold Fbk.l4_0.pat at h; split at h <;> cases h; rfl
def Fbk.l4_0.k0 : Int → LI → LI → Ex × St := (fun a0 a1 a2 => (((.exit 0), (St.mk [(.ptr 0 []), (.int .u64 a0), (.ptr 1 [])] [(some (.var (.ints .u64 4 a1))), (some (.var (.ints .u64 4 a2)))])) : Ex × St))
theorem Fbk.l4_0.round (n : Nat) (rc : St → Option (Ex × St)) (x0 : Int) (x1 : Int) (x2 : LI) (x3 : LI) (x4 : LI) (x5 : LI) : Fbk.R0 n rc ((St.mk [(.int .i64 x0), (.ptr 0 []), (.ptr 1 []), (.int .u64 x1), (.ptr 2 []), (.ptr 3 [])] [(some (.var (.ints .u64 4 x2))), (some (.var (.ints .u64 4 x3))), (some (.var (.ints .u64 4 x4))), (some (.var (.ints .u64 4 x5)))])) = Fbk.l4_0.r Fbk.l4_0.k0 n (fun y0 y1 y2 y3 y4 y5 => rc ((St.mk [(.int .i64 y0), (.ptr 0 []), (.ptr 1 []), (.int .u64 y1), (.ptr 2 []), (.ptr 3 [])] [(some (.var (.ints .u64 4 y2))), (some (.var (.ints .u64 4 y3))), (some (.var (.ints .u64 4 y4))), (some (.var (.ints .u64 4 y5)))]))) x0 x1 x2 x3 x4 x5 := by kernel_rfl
theorem Fbk.l4_0.loop' (n : Nat) : ∀ (m : Nat) (t : (Int × (Int × (LI × (LI × (LI × LI)))))), loopOf (Fbk.R0 n) m (Fbk.l4_0.shape t) = Fbk.l4_0.g Fbk.l4_0.k0 n m t.1 t.2.1 t.2.2.1 t.2.2.2.1 t.2.2.2.2.1 t.2.2.2.2.2 :=
  loop_of_round (shape := Fbk.l4_0.shape) (body := Fbk.R0 n) (g := fun m t => Fbk.l4_0.g Fbk.l4_0.k0 n m t.1 t.2.1 t.2.2.1 t.2.2.2.1 t.2.2.2.2.1 t.2.2.2.2.2) (fun t => rfl)
    fun m t ih => (Fbk.l4_0.round n (loopOf (Fbk.R0 n) m) t.1 t.2.1 t.2.2.1 t.2.2.2.1 t.2.2.2.2.1 t.2.2.2.2.2).trans (congrFun (congrFun (congrFun (congrFun (congrFun (congrFun (congrArg (Fbk.l4_0.r Fbk.l4_0.k0 n) (funext fun y0 => funext fun y1 => funext fun y2 => funext fun y3 => funext fun y4 => funext fun y5 => ih (y0, y1, y2, y3, y4, y5))) t.1) t.2.1) t.2.2.1) t.2.2.2.1) t.2.2.2.2.1) t.2.2.2.2.2)
theorem Fbk.l4_0.loop (n m : Nat) (t : (Int × (Int × (LI × (LI × (LI × LI)))))) : loopOf (Fbk.R0 n) m (Fbk.l4_0.shape t) = (Fbk.l4_0.m n m t).map Fbk.l4_0.res :=
  (Fbk.l4_0.loop' n m t).trans (Fbk.l4_0.gmap Fbk.l4_0.res (fun a0 a1 a2 => (a0, a1, a2)) n m t.1 t.2.1 t.2.2.1 t.2.2.2.1 t.2.2.2.2.1 t.2.2.2.2.2)
theorem Fbk.gmap {α β : Type} (h : β → α) (mk0 : LI → Bool → β) (n : Nat) (a0 : LI) (a1 : LI) : Fbk.g (fun a0 a1 => (h (mk0 a0 a1))) n a0 a1 = (Fbk.g mk0 n a0 a1).map h := by
  unfold Fbk.g
  exact (bindO_map fun r2 => rfl)
theorem Fbk.run (n : Nat) (a0 : LI) (a1 : LI) : runF (Fbk.C n) (Fbk.A n) n Tryd.f85 [(.ints .u64 4 a0), (.ints .u64 4 a1)] [] (fun v o => some (v, o)) = Fbk.g (fun a0 a1 => (((.tup [(.ints .u64 4 a0), (.bool a1)]), []) : AV × Blks)) n a0 a1 := by kernel_rfl
theorem Fbk.call (hmix : Tryd.prog.follows .mixedOrders = true) (n : Nat) (t : (LI × LI)) (u) (h : Fbk.m n t = some u) : FnC Tryd.prog abiG 85 (Fbk.shape t).1 (Fbk.shape t).2 (Fbk.res u).1 (Fbk.res u).2 :=
  fnC1 (C := Fbk.C n) (A := Fbk.A n) (fn := Tryd.f85) rfl (.cons (Faj.s hmix n) .nil) hmix Tryd.func85 (by kernel_rfl) (lp := [Fbk.b0]) (by kernel_rfl) (.cons (show (Fbk.A n).loop (key Fbk.b0) = some (.mk' Fbk.l4_0.pat (Fbk.l4_0.m n n) Fbk.l4_0.resK) by kernel_rfl) (LoopS.of (res := Fbk.l4_0.res) (fun R u K => rfl) Fbk.l4_0.pat_shape fun t => Fbk.l4_0.loop n n t)
  .nil)
  (nj rfl) (by decide) rfl rfl (by show 2 ≤ Tryd.f85.ntmps; decide) (Fbk.run n t.1 t.2) (Fbk.gmap Fbk.res (fun a0 a1 => (a0, a1)) n t.1 t.2) h
theorem Fbk.s (hmix : Tryd.prog.follows .mixedOrders = true) (n : Nat) : CalleeS Tryd.prog abiG 85 (Fbk.c n) :=
  .mk1 (res := Fbk.res) (shape := Fbk.shape) (fun R u K => rfl) (fun _ _ _ h => by unfold Fbk.pat at h; split at h <;> cases h; rfl) (fun t u h => Fbk.call hmix n t u h) Tryd.func85 (by decide) (by kernel_rfl)
end
section
noncomputable section
noncomputable def Fcc.C (n : Nat) : Ctx := ⟨Tryd.prog, abiG, lookC [], fun _ => false⟩
def Fcc.live : NL := fun k => match k with
 | 4 => ([8, 2, 3, 7, 6, 4], [6, 7, 4])
 | _ => ([], [])
def Fcc.l4_0.r {α : Type} (mk0 : Int → LI → LI → α) (n : Nat) (rc : Int → Int → LI → LI → LI → LI → Option α)  (x0 : Int) (x1 : Int) (x2 : LI) (x3 : LI) (x4 : LI) (x5 : LI) : Option α :=
  if (decide (x0 < 4)) = true then
   if 0 ≤ x0 then
    if x0 < 4 then
     if 0 ≤ x0 then
      if x0 < 4 then
       if 0 ≤ x0 then
        if x0 < 4 then
         if (decide ((IntKind.wrap .u64 ((List.getD x2 (Int.toNat x0) 0) + (List.getD x3 (Int.toNat x0) 0))) < (List.getD x2 (Int.toNat x0) 0))) = true then
          if (decide ((IntKind.wrap .u64 ((IntKind.wrap .u64 ((List.getD x2 (Int.toNat x0) 0) + (List.getD x3 (Int.toNat x0) 0))) + x1)) < (IntKind.wrap .u64 ((List.getD x2 (Int.toNat x0) 0) + (List.getD x3 (Int.toNat x0) 0))))) = true then
           if 0 ≤ x0 then
            if x0 < 4 then
             rc (IntKind.wrap .i64 (x0 + 1)) 1 x2 x3 (List.set x4 (Int.toNat x0) (IntKind.wrap .u64 ((IntKind.wrap .u64 ((List.getD x2 (Int.toNat x0) 0) + (List.getD x3 (Int.toNat x0) 0))) + x1))) x5
            else
             none
           else
            none
          else
           if 0 ≤ x0 then
            if x0 < 4 then
             rc (IntKind.wrap .i64 (x0 + 1)) 1 x2 x3 (List.set x4 (Int.toNat x0) (IntKind.wrap .u64 ((IntKind.wrap .u64 ((List.getD x2 (Int.toNat x0) 0) + (List.getD x3 (Int.toNat x0) 0))) + x1))) x5
            else
             none
           else
            none
         else
          if (decide ((IntKind.wrap .u64 ((IntKind.wrap .u64 ((List.getD x2 (Int.toNat x0) 0) + (List.getD x3 (Int.toNat x0) 0))) + x1)) < (IntKind.wrap .u64 ((List.getD x2 (Int.toNat x0) 0) + (List.getD x3 (Int.toNat x0) 0))))) = true then
           if 0 ≤ x0 then
            if x0 < 4 then
             rc (IntKind.wrap .i64 (x0 + 1)) 1 x2 x3 (List.set x4 (Int.toNat x0) (IntKind.wrap .u64 ((IntKind.wrap .u64 ((List.getD x2 (Int.toNat x0) 0) + (List.getD x3 (Int.toNat x0) 0))) + x1))) x5
            else
             none
           else
            none
          else
           if 0 ≤ x0 then
            if x0 < 4 then
             rc (IntKind.wrap .i64 (x0 + 1)) 0 x2 x3 (List.set x4 (Int.toNat x0) (IntKind.wrap .u64 ((IntKind.wrap .u64 ((List.getD x2 (Int.toNat x0) 0) + (List.getD x3 (Int.toNat x0) 0))) + x1))) x5
            else
             none
           else
            none
        else
         none
       else
        none
      else
       none
     else
      none
    else
     none
   else
    none
  else
   some (mk0 x1 x4 x5)
def Fcc.l4_0.g {α : Type} (mk0 : Int → LI → LI → α) (n : Nat) : Nat → Int → Int → LI → LI → LI → LI → Option α
 | 0, _, _, _, _, _, _ => none
 | m + 1, x0, x1, x2, x3, x4, x5 => Fcc.l4_0.r mk0 n (fun y0 y1 y2 y3 y4 y5 => Fcc.l4_0.g mk0 n m y0 y1 y2 y3 y4 y5)  x0 x1 x2 x3 x4 x5
def Fcc.l4_0.m (n m : Nat) (t : (Int × (Int × (LI × (LI × (LI × LI)))))) : Option (Int × (LI × LI)) := Fcc.l4_0.g (fun a0 a1 a2 => (a0, a1, a2)) n m t.1 t.2.1 t.2.2.1 t.2.2.2.1 t.2.2.2.2.1 t.2.2.2.2.2
def Fcc.l4_0.pat : St → Option (Int × (Int × (LI × (LI × (LI × LI)))))
 | (St.mk [(.int .i64 x0), (.ptr 0 []), (.ptr 1 []), (.int .u64 x1), (.ptr 2 []), (.ptr 3 [])] [(some (.var (.ints .u64 4 x2))), (some (.var (.ints .u64 4 x3))), (some (.var (.ints .u64 4 x4))), (some (.var (.ints .u64 4 x5)))]) => some (x0, x1, x2, x3, x4, x5)
 | _ => none
def Fcc.l4_0.shape (t : (Int × (Int × (LI × (LI × (LI × LI)))))) : St := (St.mk [(.int .i64 t.1), (.ptr 0 []), (.ptr 1 []), (.int .u64 t.2.1), (.ptr 2 []), (.ptr 3 [])] [(some (.var (.ints .u64 4 t.2.2.1))), (some (.var (.ints .u64 4 t.2.2.2.1))), (some (.var (.ints .u64 4 t.2.2.2.2.1))), (some (.var (.ints .u64 4 t.2.2.2.2.2)))])
def Fcc.l4_0.res : (Int × (LI × LI)) → Ex × St
 | u => ((.exit 0), (St.mk [(.ptr 0 []), (.int .u64 u.1), (.ptr 1 [])] [(some (.var (.ints .u64 4 u.2.1))), (some (.var (.ints .u64 4 u.2.2)))]))
def Fcc.l4_0.resK {R : Type} (u : (Int × (LI × LI))) (K : Ex → St → Option R) : Option R := K (Fcc.l4_0.res u).1 (Fcc.l4_0.res u).2
noncomputable def Fcc.A (n : Nat) : Ann := ⟨Tryd.f87.ntmps, 0, Fcc.live, [], [none, none], fun k => match k with
 | 4 => some (.mk' Fcc.l4_0.pat (Fcc.l4_0.m n n) Fcc.l4_0.resK)
 | _ => none, noNL, lookJ []⟩
noncomputable def Fcc.b0 : Code := (loopsIn (Tryd.f87.body.getD .skip)).getD 0 .skip
def Fcc.g {α : Type} (mk0 : LI → Bool → α) (n : Nat) (a0 : LI) (a1 : LI) : Option α :=
 bindO (Fcc.l4_0.m n n (0, 0, a0, a1, [0, 0, 0, 0], [0, 0, 0, 0])) fun r2 =>
  some (mk0 r2.2.1 (r2.1 == 1))
def Fcc.m (n : Nat) (t : (LI × LI)) : Option (LI × Bool) := Fcc.g (fun a0 a1 => (a0, a1)) n t.1 t.2
def Fcc.pat : List AV → Blks → Option (LI × LI)
 | [(.ints .u64 4 a0), (.ints .u64 4 a1)], [] => some (a0, a1)
 | _, _ => none
def Fcc.shape (t : (LI × LI)) : List AV × Blks := ([(.ints .u64 4 t.1), (.ints .u64 4 t.2)], [])
def Fcc.res : (LI × Bool) → AV × Blks
 | u => ((.tup [(.ints .u64 4 u.1), (.bool u.2)]), [])
def Fcc.resK {R : Type} (u : (LI × Bool)) (K : AV → Blks → Option R) : Option R := K (Fcc.res u).1 (Fcc.res u).2
def Fcc.c (n : Nat) : Abs.Callee := .mk' [] [none, none] Fcc.pat (Fcc.m n) Fcc.resK
end
end
section
noncomputable abbrev Fcc.R0 (n : Nat) := roundOf (Fcc.C n) (Fcc.A n) n Fcc.b0
theorem Fcc.l4_0.rmap {α β : Type} (h : β → α) (mk0 : Int → LI → LI → β) (n : Nat) (f : Int → Int → LI → LI → LI → LI → Option β)  (x0 : Int) (x1 : Int) (x2 : LI) (x3 : LI) (x4 : LI) (x5 : LI) : Fcc.l4_0.r (fun a0 a1 a2 => (h (mk0 a0 a1 a2))) n (fun y0 y1 y2 y3 y4 y5 => (f y0 y1 y2 y3 y4 y5).map h) x0 x1 x2 x3 x4 x5 = (Fcc.l4_0.r mk0 n f x0 x1 x2 x3 x4 x5).map h := by
  unfold Fcc.l4_0.r
  exact (ite_map (ite_map (ite_map (ite_map (ite_map (ite_map (ite_map (ite_map (ite_map (ite_map (ite_map rfl rfl) rfl) (ite_map (ite_map rfl rfl) rfl)) (ite_map (ite_map (ite_map rfl rfl) rfl) (ite_map (ite_map rfl rfl) rfl))) rfl) rfl) rfl) rfl) rfl) rfl) rfl)
theorem Fcc.l4_0.gmap {α β : Type} (h : β → α) (mk0 : Int → LI → LI → β) (n : Nat) : ∀ (m : Nat) (x0 : Int) (x1 : Int) (x2 : LI) (x3 : LI) (x4 : LI) (x5 : LI), Fcc.l4_0.g (fun a0 a1 a2 => (h (mk0 a0 a1 a2))) n m x0 x1 x2 x3 x4 x5 = (Fcc.l4_0.g mk0 n m x0 x1 x2 x3 x4 x5).map h
  | 0, _, _, _, _, _, _ => rfl
  | m + 1, x0, x1, x2, x3, x4, x5 => by
    unfold Fcc.l4_0.g
    rw [← Fcc.l4_0.rmap]
    congr
    · funext y0 y1 y2 y3 y4 y5; exact Fcc.l4_0.gmap h mk0 n m y0 y1 y2 y3 y4 y5
theorem Fcc.l4_0.pat_shape : ∀ st t, Fcc.l4_0.pat st = some t → st = Fcc.l4_0.shape t := fun _ _ h => by unfold Fcc.l4_0.pat at h; split at h <;> cases h; rfl
def Fcc.l4_0.k0 : Int → LI → LI → Ex × St := (fun a0 a1 a2 => (((.exit 0), (St.mk [(.ptr 0 []), (.int .u64 a0), (.ptr 1 [])] [(some (.var (.ints .u64 4 a1))), (some (.var (.ints .u64 4 a2)))])) : Ex × St))
theorem Fcc.l4_0.round (n : Nat) (rc : St → Option (Ex × St)) (x0 : Int) (x1 : Int) (x2 : LI) (x3 : LI) (x4 : LI) (x5 : LI) : Fcc.R0 n rc ((St.mk [(.int .i64 x0), (.ptr 0 []), (.ptr 1 []), (.int .u64 x1), (.ptr 2 []), (.ptr 3 [])] [(some (.var (.ints .u64 4 x2))), (some (.var (.ints .u64 4 x3))), (some (.var (.ints .u64 4 x4))), (some (.var (.ints .u64 4 x5)))])) = Fcc.l4_0.r Fcc.l4_0.k0 n (fun y0 y1 y2 y3 y4 y5 => rc ((St.mk [(.int .i64 y0), (.ptr 0 []), (.ptr 1 []), (.int .u64 y1), (.ptr 2 []), (.ptr 3 [])] [(some (.var (.ints .u64 4 y2))), (some (.var (.ints .u64 4 y3))), (some (.var (.ints .u64 4 y4))), (some (.var (.ints .u64 4 y5)))]))) x0 x1 x2 x3 x4 x5 := by kernel_rfl
theorem Fcc.l4_0.loop' (n : Nat) : ∀ (m : Nat) (t : (Int × (Int × (LI × (LI × (LI × LI)))))), loopOf (Fcc.R0 n) m (Fcc.l4_0.shape t) = Fcc.l4_0.g Fcc.l4_0.k0 n m t.1 t.2.1 t.2.2.1 t.2.2.2.1 t.2.2.2.2.1 t.2.2.2.2.2 :=
  loop_of_round (shape := Fcc.l4_0.shape) (body := Fcc.R0 n) (g := fun m t => Fcc.l4_0.g Fcc.l4_0.k0 n m t.1 t.2.1 t.2.2.1 t.2.2.2.1 t.2.2.2.2.1 t.2.2.2.2.2) (fun t => rfl)
    fun m t ih => (Fcc.l4_0.round n (loopOf (Fcc.R0 n) m) t.1 t.2.1 t.2.2.1 t.2.2.2.1 t.2.2.2.2.1 t.2.2.2.2.2).trans (congrFun (congrFun (congrFun (congrFun (congrFun (congrFun (congrArg (Fcc.l4_0.r Fcc.l4_0.k0 n) (funext fun y0 => funext fun y1 => funext fun y2 => funext fun y3 => funext fun y4 => funext fun y5 => ih (y0, y1, y2, y3, y4, y5))) t.1) t.2.1) t.2.2.1) t.2.2.2.1) t.2.2.2.2.1) t.2.2.2.2.2)
theorem Fcc.l4_0.loop (n m : Nat) (t : (Int × (Int × (LI × (LI × (LI × LI)))))) : loopOf (Fcc.R0 n) m (Fcc.l4_0.shape t) = (Fcc.l4_0.m n m t).map Fcc.l4_0.res :=
  (Fcc.l4_0.loop' n m t).trans (Fcc.l4_0.gmap Fcc.l4_0.res (fun a0 a1 a2 => (a0, a1, a2)) n m t.1 t.2.1 t.2.2.1 t.2.2.2.1 t.2.2.2.2.1 t.2.2.2.2.2)
theorem Fcc.gmap {α β : Type} (h : β → α) (mk0 : LI → Bool → β) (n : Nat) (a0 : LI) (a1 : LI) : Fcc.g (fun a0 a1 => (h (mk0 a0 a1))) n a0 a1 = (Fcc.g mk0 n a0 a1).map h := by
  unfold Fcc.g
  exact (bindO_map fun r2 => rfl)
theorem Fcc.run (n : Nat) (a0 : LI) (a1 : LI) : runF (Fcc.C n) (Fcc.A n) n Tryd.f87 [(.ints .u64 4 a0), (.ints .u64 4 a1)] [] (fun v o => some (v, o)) = Fcc.g (fun a0 a1 => (((.tup [(.ints .u64 4 a0), (.bool a1)]), []) : AV × Blks)) n a0 a1 := by kernel_rfl
theorem Fcc.call (hmix : Tryd.prog.follows .mixedOrders = true) (n : Nat) (t : (LI × LI)) (u) (h : Fcc.m n t = some u) : FnC Tryd.prog abiG 87 (Fcc.shape t).1 (Fcc.shape t).2 (Fcc.res u).1 (Fcc.res u).2 :=
  fnC1 (C := Fcc.C n) (A := Fcc.A n) (fn := Tryd.f87) rfl .nil hmix Tryd.func87 (by kernel_rfl) (lp := [Fcc.b0]) (by kernel_rfl) (.cons (show (Fcc.A n).loop (key Fcc.b0) = some (.mk' Fcc.l4_0.pat (Fcc.l4_0.m n n) Fcc.l4_0.resK) by kernel_rfl) (LoopS.of (res := Fcc.l4_0.res) (fun R u K => rfl) Fcc.l4_0.pat_shape fun t => Fcc.l4_0.loop n n t)
  .nil)
  (nj rfl) (by decide) rfl rfl (by show 2 ≤ Tryd.f87.ntmps; decide) (Fcc.run n t.1 t.2) (Fcc.gmap Fcc.res (fun a0 a1 => (a0, a1)) n t.1 t.2) h
theorem Fcc.s (hmix : Tryd.prog.follows .mixedOrders = true) (n : Nat) : CalleeS Tryd.prog abiG 87 (Fcc.c n) :=
  .mk1 (res := Fcc.res) (shape := Fcc.shape) (fun R u K => rfl) (fun _ _ _ h => by unfold Fcc.pat at h; split at h <;> cases h; rfl) (fun t u h => Fcc.call hmix n t u h) Tryd.func87 (by decide) (by kernel_rfl)
end
section
noncomputable section
noncomputable def Fcd.C (n : Nat) : Ctx := ⟨Tryd.prog, abiG, lookC [], fun _ => false⟩
def Fcd.live : NL := fun k => match k with
 | 2 => ([5, 2, 3], [4])
 | _ => ([], [])
def Fcd.l2_0.r {α : Type} (mk0 : Int → α) (mk1 : α) (n : Nat) (rc : Int → LI → LI → Option α)  (x0 : Int) (x1 : LI) (x2 : LI) : Option α :=
  if (decide (x0 ≥ 0)) = true then
   if 0 ≤ x0 then
    if x0 < 4 then
     if 0 ≤ x0 then
      if x0 < 4 then
       if (decide ((List.getD x1 (Int.toNat x0) 0) < (List.getD x2 (Int.toNat x0) 0))) = true then
        some (mk0 (-1))
       else
        if 0 ≤ x0 then
         if x0 < 4 then
          if 0 ≤ x0 then
           if x0 < 4 then
            if (decide ((List.getD x1 (Int.toNat x0) 0) > (List.getD x2 (Int.toNat x0) 0))) = true then
             some (mk0 1)
            else
             rc (IntKind.wrap .i64 (x0 - 1)) x1 x2
           else
            none
          else
           none
         else
          none
        else
         none
      else
       none
     else
      none
    else
     none
   else
    none
  else
   some (mk1)
def Fcd.l2_0.g {α : Type} (mk0 : Int → α) (mk1 : α) (n : Nat) : Nat → Int → LI → LI → Option α
 | 0, _, _, _ => none
 | m + 1, x0, x1, x2 => Fcd.l2_0.r mk0 mk1 n (fun y0 y1 y2 => Fcd.l2_0.g mk0 mk1 n m y0 y1 y2)  x0 x1 x2
def Fcd.l2_0.m (n m : Nat) (t : (Int × (LI × LI))) : Option (Int ⊕ Unit) := Fcd.l2_0.g (fun a0 => (.inl a0)) (.inr ()) n m t.1 t.2.1 t.2.2
def Fcd.l2_0.pat : St → Option (Int × (LI × LI))
 | (St.mk [(.int .i64 x0), (.ptr 0 []), (.ptr 1 [])] [(some (.var (.ints .u64 4 x1))), (some (.var (.ints .u64 4 x2)))]) => some (x0, x1, x2)
 | _ => none
def Fcd.l2_0.shape (t : (Int × (LI × LI))) : St := (St.mk [(.int .i64 t.1), (.ptr 0 []), (.ptr 1 [])] [(some (.var (.ints .u64 4 t.2.1))), (some (.var (.ints .u64 4 t.2.2)))])
def Fcd.l2_0.res : (Int ⊕ Unit) → Ex × St
 | (.inl u) => (.ret, (St.mk [(.int .i64 u)] []))
 | (.inr u) => ((.exit 0), (St.mk [.any] []))
def Fcd.l2_0.resK {R : Type} (u : (Int ⊕ Unit)) (K : Ex → St → Option R) : Option R := match u with
 | (.inl u) => (fun p : Ex × St => K p.1 p.2) (.ret, (St.mk [(.int .i64 u)] []))
 | (.inr u) => (fun p : Ex × St => K p.1 p.2) ((.exit 0), (St.mk [.any] []))
noncomputable def Fcd.A (n : Nat) : Ann := ⟨Tryd.f49.ntmps, 0, Fcd.live, [], [none], fun k => match k with
 | 2 => some (.mk' Fcd.l2_0.pat (Fcd.l2_0.m n n) Fcd.l2_0.resK)
 | _ => none, noNL, lookJ []⟩
noncomputable def Fcd.b0 : Code := (loopsIn (Tryd.f49.body.getD .skip)).getD 0 .skip
def Fcd.g {α : Type} (mk0 : Int → α) (n : Nat) (a0 : LI) (a1 : LI) : Option α :=
 bindO (Fcd.l2_0.m n n (3, a0, a1)) fun r2 => match r2 with
  | (.inl r2) =>
   some (mk0 r2)
  | (.inr r2) =>
   some (mk0 0)
def Fcd.m (n : Nat) (t : (LI × LI)) : Option Int := Fcd.g (fun a0 => a0) n t.1 t.2
def Fcd.pat : List AV → Blks → Option (LI × LI)
 | [(.ints .u64 4 a0), (.ints .u64 4 a1)], [] => some (a0, a1)
 | _, _ => none
def Fcd.shape (t : (LI × LI)) : List AV × Blks := ([(.ints .u64 4 t.1), (.ints .u64 4 t.2)], [])
def Fcd.res : Int → AV × Blks
 | u => ((.int .i64 u), [])
def Fcd.resK {R : Type} (u : Int) (K : AV → Blks → Option R) : Option R := K (Fcd.res u).1 (Fcd.res u).2
def Fcd.c (n : Nat) : Abs.Callee := .mk' [] [none, none] Fcd.pat (Fcd.m n) Fcd.resK
end
end
section
noncomputable abbrev Fcd.R0 (n : Nat) := roundOf (Fcd.C n) (Fcd.A n) n Fcd.b0
theorem Fcd.l2_0.rmap {α β : Type} (h : β → α) (mk0 : Int → β) (mk1 : β) (n : Nat) (f : Int → LI → LI → Option β)  (x0 : Int) (x1 : LI) (x2 : LI) : Fcd.l2_0.r (fun a0 => (h (mk0 a0))) (h mk1) n (fun y0 y1 y2 => (f y0 y1 y2).map h) x0 x1 x2 = (Fcd.l2_0.r mk0 mk1 n f x0 x1 x2).map h := by
  unfold Fcd.l2_0.r
  exact (ite_map (ite_map (ite_map (ite_map (ite_map (ite_map rfl (ite_map (ite_map (ite_map (ite_map (ite_map rfl rfl) rfl) rfl) rfl) rfl)) rfl) rfl) rfl) rfl) rfl)
theorem Fcd.l2_0.gmap {α β : Type} (h : β → α) (mk0 : Int → β) (mk1 : β) (n : Nat) : ∀ (m : Nat) (x0 : Int) (x1 : LI) (x2 : LI), Fcd.l2_0.g (fun a0 => (h (mk0 a0))) (h mk1) n m x0 x1 x2 = (Fcd.l2_0.g mk0 mk1 n m x0 x1 x2).map h
  | 0, _, _, _ => rfl
  | m + 1, x0, x1, x2 => by
    unfold Fcd.l2_0.g
    rw [← Fcd.l2_0.rmap]
    congr
    · funext y0 y1 y2; exact Fcd.l2_0.gmap h mk0 mk1 n m y0 y1 y2
theorem Fcd.l2_0.pat_shape : ∀ st t, Fcd.l2_0.pat st = some t → st = Fcd.l2_0.shape t := fun _ _ h => by unfold Fcd.l2_0.pat at h; split at h <;> cases h; rfl
def Fcd.l2_0.k0 : Int → Ex × St := (fun a0 => ((.ret, (St.mk [(.int .i64 a0)] [])) : Ex × St))
def Fcd.l2_0.k1 : Ex × St := (((.exit 0), (St.mk [.any] [])) : Ex × St)
theorem Fcd.l2_0.round (n : Nat) (rc : St → Option (Ex × St)) (x0 : Int) (x1 : LI) (x2 : LI) : Fcd.R0 n rc ((St.mk [(.int .i64 x0), (.ptr 0 []), (.ptr 1 [])] [(some (.var (.ints .u64 4 x1))), (some (.var (.ints .u64 4 x2)))])) = Fcd.l2_0.r Fcd.l2_0.k0 Fcd.l2_0.k1 n (fun y0 y1 y2 => rc ((St.mk [(.int .i64 y0), (.ptr 0 []), (.ptr 1 [])] [(some (.var (.ints .u64 4 y1))), (some (.var (.ints .u64 4 y2)))]))) x0 x1 x2 := by kernel_rfl
theorem Fcd.l2_0.loop' (n : Nat) : ∀ (m : Nat) (t : (Int × (LI × LI))), loopOf (Fcd.R0 n) m (Fcd.l2_0.shape t) = Fcd.l2_0.g Fcd.l2_0.k0 Fcd.l2_0.k1 n m t.1 t.2.1 t.2.2 :=
  loop_of_round (shape := Fcd.l2_0.shape) (body := Fcd.R0 n) (g := fun m t => Fcd.l2_0.g Fcd.l2_0.k0 Fcd.l2_0.k1 n m t.1 t.2.1 t.2.2) (fun t => rfl)
    fun m t ih => (Fcd.l2_0.round n (loopOf (Fcd.R0 n) m) t.1 t.2.1 t.2.2).trans (congrFun (congrFun (congrFun (congrArg (Fcd.l2_0.r Fcd.l2_0.k0 Fcd.l2_0.k1 n) (funext fun y0 => funext fun y1 => funext fun y2 => ih (y0, y1, y2))) t.1) t.2.1) t.2.2)
theorem Fcd.l2_0.loop (n m : Nat) (t : (Int × (LI × LI))) : loopOf (Fcd.R0 n) m (Fcd.l2_0.shape t) = (Fcd.l2_0.m n m t).map Fcd.l2_0.res :=
  (Fcd.l2_0.loop' n m t).trans (Fcd.l2_0.gmap Fcd.l2_0.res (fun a0 => (.inl a0)) (.inr ()) n m t.1 t.2.1 t.2.2)
theorem Fcd.gmap {α β : Type} (h : β → α) (mk0 : Int → β) (n : Nat) (a0 : LI) (a1 : LI) : Fcd.g (fun a0 => (h (mk0 a0))) n a0 a1 = (Fcd.g mk0 n a0 a1).map h := by
  unfold Fcd.g
  exact (bindO_map fun r2 => match r2 with | (.inl r2) => rfl | (.inr r2) => rfl)
theorem Fcd.run (n : Nat) (a0 : LI) (a1 : LI) : runF (Fcd.C n) (Fcd.A n) n Tryd.f49 [(.ints .u64 4 a0), (.ints .u64 4 a1)] [] (fun v o => some (v, o)) = Fcd.g (fun a0 => (((.int .i64 a0), []) : AV × Blks)) n a0 a1 := by kernel_rfl
theorem Fcd.call (hmix : Tryd.prog.follows .mixedOrders = true) (n : Nat) (t : (LI × LI)) (u) (h : Fcd.m n t = some u) : FnC Tryd.prog abiG 49 (Fcd.shape t).1 (Fcd.shape t).2 (Fcd.res u).1 (Fcd.res u).2 :=
  fnC1 (C := Fcd.C n) (A := Fcd.A n) (fn := Tryd.f49) rfl .nil hmix Tryd.func49 (by kernel_rfl) (lp := [Fcd.b0]) (by kernel_rfl) (.cons (show (Fcd.A n).loop (key Fcd.b0) = some (.mk' Fcd.l2_0.pat (Fcd.l2_0.m n n) Fcd.l2_0.resK) by kernel_rfl) (LoopS.of (res := Fcd.l2_0.res) (fun R u K => by rcases u with u | u <;> rfl) Fcd.l2_0.pat_shape fun t => Fcd.l2_0.loop n n t)
  .nil)
  (nj rfl) (by decide) rfl rfl (by show 2 ≤ Tryd.f49.ntmps; decide) (Fcd.run n t.1 t.2) (Fcd.gmap Fcd.res (fun a0 => a0) n t.1 t.2) h
theorem Fcd.s (hmix : Tryd.prog.follows .mixedOrders = true) (n : Nat) : CalleeS Tryd.prog abiG 49 (Fcd.c n) :=
  .mk1 (res := Fcd.res) (shape := Fcd.shape) (fun R u K => rfl) (fun _ _ _ h => by unfold Fcd.pat at h; split at h <;> cases h; rfl) (fun t u h => Fcd.call hmix n t u h) Tryd.func49 (by decide) (by kernel_rfl)
end
section
noncomputable section
noncomputable def Fak.C (n : Nat) : Ctx := ⟨Tryd.prog, abiG, lookC [], fun _ => false⟩
noncomputable def Fak.A (n : Nat) : Ann := ⟨Tryd.f118.ntmps, 0, noNL, [], [none, none], fun k => match k with
 | _ => none, noNL, lookJ []⟩
def Fak.g {α : Type} (mk0 : Int → Int → α) (n : Nat) (a0 : Int) (a1 : Int) : Option α :=
 some (mk0 (IntKind.wrap .u64 ((IntKind.wrap .u64 ((IntKind.wrap .u64 ((ishr .u64 a0 32) * (ishr .u64 a1 32))) + (ishr .u64 (IntKind.wrap .u64 ((IntKind.wrap .u64 ((ishr .u64 a0 32) * (ibits BinOp.and .u64 a1 4294967295))) + (ishr .u64 (IntKind.wrap .u64 ((ibits BinOp.and .u64 a0 4294967295) * (ibits BinOp.and .u64 a1 4294967295))) 32))) 32))) + (ishr .u64 (IntKind.wrap .u64 ((ibits BinOp.and .u64 (IntKind.wrap .u64 ((IntKind.wrap .u64 ((ishr .u64 a0 32) * (ibits BinOp.and .u64 a1 4294967295))) + (ishr .u64 (IntKind.wrap .u64 ((ibits BinOp.and .u64 a0 4294967295) * (ibits BinOp.and .u64 a1 4294967295))) 32))) 4294967295) + (IntKind.wrap .u64 ((ibits BinOp.and .u64 a0 4294967295) * (ishr .u64 a1 32))))) 32))) (IntKind.wrap .u64 (a0 * a1)))
def Fak.m (n : Nat) (t : (Int × Int)) : Option (Int × Int) := Fak.g (fun a0 a1 => (a0, a1)) n t.1 t.2
def Fak.pat : List AV → Blks → Option (Int × Int)
 | [(.int .u64 a0), (.int .u64 a1)], [] => some (a0, a1)
 | _, _ => none
def Fak.shape (t : (Int × Int)) : List AV × Blks := ([(.int .u64 t.1), (.int .u64 t.2)], [])
def Fak.res : (Int × Int) → AV × Blks
 | u => ((.tup [(.int .u64 u.1), (.int .u64 u.2)]), [])
def Fak.resK {R : Type} (u : (Int × Int)) (K : AV → Blks → Option R) : Option R := K (Fak.res u).1 (Fak.res u).2
def Fak.c (n : Nat) : Abs.Callee := .mk' [] [none, none] Fak.pat (Fak.m n) Fak.resK
end
end
section
theorem Fak.gmap {α β : Type} (h : β → α) (mk0 : Int → Int → β) (n : Nat) (a0 : Int) (a1 : Int) : Fak.g (fun a0 a1 => (h (mk0 a0 a1))) n a0 a1 = (Fak.g mk0 n a0 a1).map h := by
  unfold Fak.g
  exact rfl
theorem Fak.run (n : Nat) (a0 : Int) (a1 : Int) : runF (Fak.C n) (Fak.A n) n Tryd.f118 [(.int .u64 a0), (.int .u64 a1)] [] (fun v o => some (v, o)) = Fak.g (fun a0 a1 => (((.tup [(.int .u64 a0), (.int .u64 a1)]), []) : AV × Blks)) n a0 a1 := by kernel_rfl
theorem Fak.call (hmix : Tryd.prog.follows .mixedOrders = true) (n : Nat) (t : (Int × Int)) (u) (h : Fak.m n t = some u) : FnC Tryd.prog abiG 118 (Fak.shape t).1 (Fak.shape t).2 (Fak.res u).1 (Fak.res u).2 :=
  fnC1 (C := Fak.C n) (A := Fak.A n) (fn := Tryd.f118) rfl .nil hmix Tryd.func118 (by kernel_rfl) (lp := []) (by kernel_rfl) .nil
  (nj rfl) (by decide) rfl rfl (by show 2 ≤ Tryd.f118.ntmps; decide) (Fak.run n t.1 t.2) (Fak.gmap Fak.res (fun a0 a1 => (a0, a1)) n t.1 t.2) h
theorem Fak.s (hmix : Tryd.prog.follows .mixedOrders = true) (n : Nat) : CalleeS Tryd.prog abiG 118 (Fak.c n) :=
  .mk1 (res := Fak.res) (shape := Fak.shape) (fun R u K => rfl) (fun _ _ _ h => by unfold Fak.pat at h; split at h <;> cases h; rfl) (fun t u h => Fak.call hmix n t u h) Tryd.func118 (by decide) (by kernel_rfl)
end
section
noncomputable section
noncomputable def Fq.C (n : Nat) : Ctx := ⟨Tryd.prog, abiG, lookC [(118, Fak.c n), (103, Faj.c n)], fun _ => false⟩
def Fq.live : NL := fun k => match k with
 | 3 => ([12, 2, 3, 5, 4], [5, 4])
 | 7 => ([15, 6, 2, 3, 7, 5, 12, 4], [6, 7, 5, 12, 2, 3, 4])
 | _ => ([], [])
def Fq.l7_0.r {α : Type} (mk0 : Int → Int → Int → LI → LI → LI → LI → α) (n : Nat) (rc : Int → Int → Int → Int → LI → LI → LI → LI → Option α)  (x0 : Int) (x1 : Int) (x2 : Int) (x3 : Int) (x4 : LI) (x5 : LI) (x6 : LI) (x7 : LI) : Option α :=
  if (decide (x0 < 4)) = true then
   if 0 ≤ x1 then
    if x1 < 4 then
     if 0 ≤ x0 then
      if x0 < 4 then
       bindO (Fak.m n ((List.getD x4 (Int.toNat x1) 0), (List.getD x5 (Int.toNat x0) 0))) fun r14 =>
        bindO (Faj.m n (r14.2, x2, 0)) fun r16 =>
         if 0 ≤ (IntKind.wrap .i64 (x1 + x0)) then
          if (IntKind.wrap .i64 (x1 + x0)) < 8 then
           bindO (Faj.m n ((List.getD x6 (Int.toNat (IntKind.wrap .i64 (x1 + x0))) 0), r16.1, 0)) fun r22 =>
            if 0 ≤ (IntKind.wrap .i64 (x1 + x0)) then
             if (IntKind.wrap .i64 (x1 + x0)) < 8 then
              rc (IntKind.wrap .i64 (x0 + 1)) x1 (IntKind.wrap .u64 ((IntKind.wrap .u64 (r14.1 + r16.2)) + r22.2)) x3 x4 x5 (List.set x6 (Int.toNat (IntKind.wrap .i64 (x1 + x0))) r22.1) x7
             else
              none
            else
             none
          else
           none
         else
          none
      else
       none
     else
      none
    else
     none
   else
    none
  else
   some (mk0 x1 x2 x3 x6 x4 x5 x7)
def Fq.l7_0.g {α : Type} (mk0 : Int → Int → Int → LI → LI → LI → LI → α) (n : Nat) : Nat → Int → Int → Int → Int → LI → LI → LI → LI → Option α
 | 0, _, _, _, _, _, _, _, _ => none
 | m + 1, x0, x1, x2, x3, x4, x5, x6, x7 => Fq.l7_0.r mk0 n (fun y0 y1 y2 y3 y4 y5 y6 y7 => Fq.l7_0.g mk0 n m y0 y1 y2 y3 y4 y5 y6 y7)  x0 x1 x2 x3 x4 x5 x6 x7
def Fq.l7_0.m (n m : Nat) (t : (Int × (Int × (Int × (Int × (LI × (LI × (LI × LI)))))))) : Option (Int × (Int × (Int × (LI × (LI × (LI × LI)))))) := Fq.l7_0.g (fun a0 a1 a2 a3 a4 a5 a6 => (a0, a1, a2, a3, a4, a5, a6)) n m t.1 t.2.1 t.2.2.1 t.2.2.2.1 t.2.2.2.2.1 t.2.2.2.2.2.1 t.2.2.2.2.2.2.1 t.2.2.2.2.2.2.2
def Fq.l7_0.pat : St → Option (Int × (Int × (Int × (Int × (LI × (LI × (LI × LI)))))))
 | (St.mk [(.int .i64 x0), (.int .i64 x1), (.ptr 0 []), (.ptr 1 []), (.int .u64 x2), (.ptr 2 []), (.int .i64 x3), (.ptr 3 [])] [(some (.var (.ints .u64 4 x4))), (some (.var (.ints .u64 4 x5))), (some (.var (.ints .u64 8 x6))), (some (.var (.ints .u64 8 x7)))]) => some (x0, x1, x2, x3, x4, x5, x6, x7)
 | _ => none
def Fq.l7_0.shape (t : (Int × (Int × (Int × (Int × (LI × (LI × (LI × LI)))))))) : St := (St.mk [(.int .i64 t.1), (.int .i64 t.2.1), (.ptr 0 []), (.ptr 1 []), (.int .u64 t.2.2.1), (.ptr 2 []), (.int .i64 t.2.2.2.1), (.ptr 3 [])] [(some (.var (.ints .u64 4 t.2.2.2.2.1))), (some (.var (.ints .u64 4 t.2.2.2.2.2.1))), (some (.var (.ints .u64 8 t.2.2.2.2.2.2.1))), (some (.var (.ints .u64 8 t.2.2.2.2.2.2.2)))])
def Fq.l7_0.res : (Int × (Int × (Int × (LI × (LI × (LI × LI)))))) → Ex × St
 | u => ((.exit 2), (St.mk [(.int .i64 u.1), (.int .u64 u.2.1), (.ptr 0 []), (.int .i64 u.2.2.1), (.ptr 1 []), (.ptr 2 []), (.ptr 3 [])] [(some (.var (.ints .u64 8 u.2.2.2.1))), (some (.var (.ints .u64 4 u.2.2.2.2.1))), (some (.var (.ints .u64 4 u.2.2.2.2.2.1))), (some (.var (.ints .u64 8 u.2.2.2.2.2.2)))]))
def Fq.l7_0.resK {R : Type} (u : (Int × (Int × (Int × (LI × (LI × (LI × LI))))))) (K : Ex → St → Option R) : Option R := K (Fq.l7_0.res u).1 (Fq.l7_0.res u).2
def Fq.l3_0.r {α : Type} (mk0 : LI → LI → α) (n : Nat) (rc : Int → LI → LI → LI → LI → Option α)  (x0 : Int) (x1 : LI) (x2 : LI) (x3 : LI) (x4 : LI) : Option α :=
  if (decide (x0 < 4)) = true then
   bindO (Fq.l7_0.m n n (0, x0, 0, x0, x1, x2, x3, x4)) fun r6 =>
    if 0 ≤ (IntKind.wrap .i64 (r6.1 + 4)) then
     if (IntKind.wrap .i64 (r6.1 + 4)) < 8 then
      rc (IntKind.wrap .i64 (r6.2.2.1 + 1)) r6.2.2.2.2.1 r6.2.2.2.2.2.1 (List.set r6.2.2.2.1 (Int.toNat (IntKind.wrap .i64 (r6.1 + 4))) r6.2.1) r6.2.2.2.2.2.2
     else
      none
    else
     none
  else
   some (mk0 x3 x4)
def Fq.l3_0.g {α : Type} (mk0 : LI → LI → α) (n : Nat) : Nat → Int → LI → LI → LI → LI → Option α
 | 0, _, _, _, _, _ => none
 | m + 1, x0, x1, x2, x3, x4 => Fq.l3_0.r mk0 n (fun y0 y1 y2 y3 y4 => Fq.l3_0.g mk0 n m y0 y1 y2 y3 y4)  x0 x1 x2 x3 x4
def Fq.l3_0.m (n m : Nat) (t : (Int × (LI × (LI × (LI × LI))))) : Option (LI × LI) := Fq.l3_0.g (fun a0 a1 => (a0, a1)) n m t.1 t.2.1 t.2.2.1 t.2.2.2.1 t.2.2.2.2
def Fq.l3_0.pat : St → Option (Int × (LI × (LI × (LI × LI))))
 | (St.mk [(.int .i64 x0), (.ptr 0 []), (.ptr 1 []), (.ptr 2 []), (.ptr 3 [])] [(some (.var (.ints .u64 4 x1))), (some (.var (.ints .u64 4 x2))), (some (.var (.ints .u64 8 x3))), (some (.var (.ints .u64 8 x4)))]) => some (x0, x1, x2, x3, x4)
 | _ => none
def Fq.l3_0.shape (t : (Int × (LI × (LI × (LI × LI))))) : St := (St.mk [(.int .i64 t.1), (.ptr 0 []), (.ptr 1 []), (.ptr 2 []), (.ptr 3 [])] [(some (.var (.ints .u64 4 t.2.1))), (some (.var (.ints .u64 4 t.2.2.1))), (some (.var (.ints .u64 8 t.2.2.2.1))), (some (.var (.ints .u64 8 t.2.2.2.2)))])
def Fq.l3_0.res : (LI × LI) → Ex × St
 | u => ((.exit 0), (St.mk [(.ptr 0 []), (.ptr 1 [])] [(some (.var (.ints .u64 8 u.1))), (some (.var (.ints .u64 8 u.2)))]))
def Fq.l3_0.resK {R : Type} (u : (LI × LI)) (K : Ex → St → Option R) : Option R := K (Fq.l3_0.res u).1 (Fq.l3_0.res u).2
noncomputable def Fq.A (n : Nat) : Ann := ⟨Tryd.f102.ntmps, 0, Fq.live, [], [none], fun k => match k with
 | 7 => some (.mk' Fq.l7_0.pat (Fq.l7_0.m n n) Fq.l7_0.resK)
 | 3 => some (.mk' Fq.l3_0.pat (Fq.l3_0.m n n) Fq.l3_0.resK)
 | _ => none, noNL, lookJ []⟩
noncomputable def Fq.b0 : Code := (loopsIn (Tryd.f102.body.getD .skip)).getD 0 .skip
noncomputable def Fq.b1 : Code := (loopsIn (Tryd.f102.body.getD .skip)).getD 1 .skip
def Fq.g {α : Type} (mk0 : LI → α) (n : Nat) (a0 : LI) (a1 : LI) : Option α :=
 bindO (Fq.l3_0.m n n (0, a0, a1, ([0, 0, 0, 0, 0, 0, 0, 0] : List Int), ([0, 0, 0, 0, 0, 0, 0, 0] : List Int))) fun r2 =>
  some (mk0 r2.1)
def Fq.m (n : Nat) (t : (LI × LI)) : Option LI := Fq.g (fun a0 => a0) n t.1 t.2
def Fq.pat : List AV → Blks → Option (LI × LI)
 | [(.ints .u64 4 a0), (.ints .u64 4 a1)], [] => some (a0, a1)
 | _, _ => none
def Fq.shape (t : (LI × LI)) : List AV × Blks := ([(.ints .u64 4 t.1), (.ints .u64 4 t.2)], [])
def Fq.res : LI → AV × Blks
 | u => ((.ints .u64 8 u), [])
def Fq.resK {R : Type} (u : LI) (K : AV → Blks → Option R) : Option R := K (Fq.res u).1 (Fq.res u).2
def Fq.c (n : Nat) : Abs.Callee := .mk' [] [none, none] Fq.pat (Fq.m n) Fq.resK
end
end
section
noncomputable abbrev Fq.R0 (n : Nat) := roundOf (Fq.C n) (Fq.A n) n Fq.b0
noncomputable abbrev Fq.R1 (n : Nat) := roundOf (Fq.C n) (Fq.A n) n Fq.b1
theorem Fq.l7_0.rmap {α β : Type} (h : β → α) (mk0 : Int → Int → Int → LI → LI → LI → LI → β) (n : Nat) (f : Int → Int → Int → Int → LI → LI → LI → LI → Option β)  (x0 : Int) (x1 : Int) (x2 : Int) (x3 : Int) (x4 : LI) (x5 : LI) (x6 : LI) (x7 : LI) : Fq.l7_0.r (fun a0 a1 a2 a3 a4 a5 a6 => (h (mk0 a0 a1 a2 a3 a4 a5 a6))) n (fun y0 y1 y2 y3 y4 y5 y6 y7 => (f y0 y1 y2 y3 y4 y5 y6 y7).map h) x0 x1 x2 x3 x4 x5 x6 x7 = (Fq.l7_0.r mk0 n f x0 x1 x2 x3 x4 x5 x6 x7).map h := by
  unfold Fq.l7_0.r
  exact (ite_map (ite_map (ite_map (ite_map (ite_map (bindO_map fun r14 => (bindO_map fun r16 => (ite_map (ite_map (bindO_map fun r22 => (ite_map (ite_map rfl rfl) rfl)) rfl) rfl))) rfl) rfl) rfl) rfl) rfl)
theorem Fq.l7_0.gmap {α β : Type} (h : β → α) (mk0 : Int → Int → Int → LI → LI → LI → LI → β) (n : Nat) : ∀ (m : Nat) (x0 : Int) (x1 : Int) (x2 : Int) (x3 : Int) (x4 : LI) (x5 : LI) (x6 : LI) (x7 : LI), Fq.l7_0.g (fun a0 a1 a2 a3 a4 a5 a6 => (h (mk0 a0 a1 a2 a3 a4 a5 a6))) n m x0 x1 x2 x3 x4 x5 x6 x7 = (Fq.l7_0.g mk0 n m x0 x1 x2 x3 x4 x5 x6 x7).map h
  | 0, _, _, _, _, _, _, _, _ => rfl
  | m + 1, x0, x1, x2, x3, x4, x5, x6, x7 => by
    unfold Fq.l7_0.g
    rw [← Fq.l7_0.rmap]
    congr
    · funext y0 y1 y2 y3 y4 y5 y6 y7; exact Fq.l7_0.gmap h mk0 n m y0 y1 y2 y3 y4 y5 y6 y7
theorem Fq.l7_0.pat_shape : ∀ st t, Fq.l7_0.pat st = some t → st = Fq.l7_0.shape t := fun _ _ h => by unfold Fq.l7_0.pat at h; split at h <;> cases h; rfl
def Fq.l7_0.k0 : Int → Int → Int → LI → LI → LI → LI → Ex × St := (fun a0 a1 a2 a3 a4 a5 a6 => (((.exit 2), (St.mk [(.int .i64 a0), (.int .u64 a1), (.ptr 0 []), (.int .i64 a2), (.ptr 1 []), (.ptr 2 []), (.ptr 3 [])] [(some (.var (.ints .u64 8 a3))), (some (.var (.ints .u64 4 a4))), (some (.var (.ints .u64 4 a5))), (some (.var (.ints .u64 8 a6)))])) : Ex × St))
theorem Fq.l7_0.round (n : Nat) (rc : St → Option (Ex × St)) (x0 : Int) (x1 : Int) (x2 : Int) (x3 : Int) (x4 : LI) (x5 : LI) (x6 : LI) (x7 : LI) : Fq.R1 n rc ((St.mk [(.int .i64 x0), (.int .i64 x1), (.ptr 0 []), (.ptr 1 []), (.int .u64 x2), (.ptr 2 []), (.int .i64 x3), (.ptr 3 [])] [(some (.var (.ints .u64 4 x4))), (some (.var (.ints .u64 4 x5))), (some (.var (.ints .u64 8 x6))), (some (.var (.ints .u64 8 x7)))])) = Fq.l7_0.r Fq.l7_0.k0 n (fun y0 y1 y2 y3 y4 y5 y6 y7 => rc ((St.mk [(.int .i64 y0), (.int .i64 y1), (.ptr 0 []), (.ptr 1 []), (.int .u64 y2), (.ptr 2 []), (.int .i64 y3), (.ptr 3 [])] [(some (.var (.ints .u64 4 y4))), (some (.var (.ints .u64 4 y5))), (some (.var (.ints .u64 8 y6))), (some (.var (.ints .u64 8 y7)))]))) x0 x1 x2 x3 x4 x5 x6 x7 := by kernel_rfl
theorem Fq.l7_0.loop' (n : Nat) : ∀ (m : Nat) (t : (Int × (Int × (Int × (Int × (LI × (LI × (LI × LI)))))))), loopOf (Fq.R1 n) m (Fq.l7_0.shape t) = Fq.l7_0.g Fq.l7_0.k0 n m t.1 t.2.1 t.2.2.1 t.2.2.2.1 t.2.2.2.2.1 t.2.2.2.2.2.1 t.2.2.2.2.2.2.1 t.2.2.2.2.2.2.2 :=
  loop_of_round (shape := Fq.l7_0.shape) (body := Fq.R1 n) (g := fun m t => Fq.l7_0.g Fq.l7_0.k0 n m t.1 t.2.1 t.2.2.1 t.2.2.2.1 t.2.2.2.2.1 t.2.2.2.2.2.1 t.2.2.2.2.2.2.1 t.2.2.2.2.2.2.2) (fun t => rfl)
    fun m t ih => (Fq.l7_0.round n (loopOf (Fq.R1 n) m) t.1 t.2.1 t.2.2.1 t.2.2.2.1 t.2.2.2.2.1 t.2.2.2.2.2.1 t.2.2.2.2.2.2.1 t.2.2.2.2.2.2.2).trans (congrFun (congrFun (congrFun (congrFun (congrFun (congrFun (congrFun (congrFun (congrArg (Fq.l7_0.r Fq.l7_0.k0 n) (funext fun y0 => funext fun y1 => funext fun y2 => funext fun y3 => funext fun y4 => funext fun y5 => funext fun y6 => funext fun y7 => ih (y0, y1, y2, y3, y4, y5, y6, y7))) t.1) t.2.1) t.2.2.1) t.2.2.2.1) t.2.2.2.2.1) t.2.2.2.2.2.1) t.2.2.2.2.2.2.1) t.2.2.2.2.2.2.2)
theorem Fq.l7_0.loop (n m : Nat) (t : (Int × (Int × (Int × (Int × (LI × (LI × (LI × LI)))))))) : loopOf (Fq.R1 n) m (Fq.l7_0.shape t) = (Fq.l7_0.m n m t).map Fq.l7_0.res :=
  (Fq.l7_0.loop' n m t).trans (Fq.l7_0.gmap Fq.l7_0.res (fun a0 a1 a2 a3 a4 a5 a6 => (a0, a1, a2, a3, a4, a5, a6)) n m t.1 t.2.1 t.2.2.1 t.2.2.2.1 t.2.2.2.2.1 t.2.2.2.2.2.1 t.2.2.2.2.2.2.1 t.2.2.2.2.2.2.2)
theorem Fq.l3_0.rmap {α β : Type} (h : β → α) (mk0 : LI → LI → β) (n : Nat) (f : Int → LI → LI → LI → LI → Option β)  (x0 : Int) (x1 : LI) (x2 : LI) (x3 : LI) (x4 : LI) : Fq.l3_0.r (fun a0 a1 => (h (mk0 a0 a1))) n (fun y0 y1 y2 y3 y4 => (f y0 y1 y2 y3 y4).map h) x0 x1 x2 x3 x4 = (Fq.l3_0.r mk0 n f x0 x1 x2 x3 x4).map h := by
  unfold Fq.l3_0.r
  exact (ite_map (bindO_map fun r6 => (ite_map (ite_map rfl rfl) rfl)) rfl)
theorem Fq.l3_0.gmap {α β : Type} (h : β → α) (mk0 : LI → LI → β) (n : Nat) : ∀ (m : Nat) (x0 : Int) (x1 : LI) (x2 : LI) (x3 : LI) (x4 : LI), Fq.l3_0.g (fun a0 a1 => (h (mk0 a0 a1))) n m x0 x1 x2 x3 x4 = (Fq.l3_0.g mk0 n m x0 x1 x2 x3 x4).map h
  | 0, _, _, _, _, _ => rfl
  | m + 1, x0, x1, x2, x3, x4 => by
    unfold Fq.l3_0.g
    rw [← Fq.l3_0.rmap]
    congr
    · funext y0 y1 y2 y3 y4; exact Fq.l3_0.gmap h mk0 n m y0 y1 y2 y3 y4
theorem Fq.l3_0.pat_shape : ∀ st t, Fq.l3_0.pat st = some t → st = Fq.l3_0.shape t := fun _ _ h => by unfold Fq.l3_0.pat at h; split at h <;> cases h; rfl
def Fq.l3_0.k0 : LI → LI → Ex × St := (fun a0 a1 => (((.exit 0), (St.mk [(.ptr 0 []), (.ptr 1 [])] [(some (.var (.ints .u64 8 a0))), (some (.var (.ints .u64 8 a1)))])) : Ex × St))
theorem Fq.l3_0.round (n : Nat) (rc : St → Option (Ex × St)) (x0 : Int) (x1 : LI) (x2 : LI) (x3 : LI) (x4 : LI) : Fq.R0 n rc ((St.mk [(.int .i64 x0), (.ptr 0 []), (.ptr 1 []), (.ptr 2 []), (.ptr 3 [])] [(some (.var (.ints .u64 4 x1))), (some (.var (.ints .u64 4 x2))), (some (.var (.ints .u64 8 x3))), (some (.var (.ints .u64 8 x4)))])) = Fq.l3_0.r Fq.l3_0.k0 n (fun y0 y1 y2 y3 y4 => rc ((St.mk [(.int .i64 y0), (.ptr 0 []), (.ptr 1 []), (.ptr 2 []), (.ptr 3 [])] [(some (.var (.ints .u64 4 y1))), (some (.var (.ints .u64 4 y2))), (some (.var (.ints .u64 8 y3))), (some (.var (.ints .u64 8 y4)))]))) x0 x1 x2 x3 x4 := by kernel_rfl
theorem Fq.l3_0.loop' (n : Nat) : ∀ (m : Nat) (t : (Int × (LI × (LI × (LI × LI))))), loopOf (Fq.R0 n) m (Fq.l3_0.shape t) = Fq.l3_0.g Fq.l3_0.k0 n m t.1 t.2.1 t.2.2.1 t.2.2.2.1 t.2.2.2.2 :=
  loop_of_round (shape := Fq.l3_0.shape) (body := Fq.R0 n) (g := fun m t => Fq.l3_0.g Fq.l3_0.k0 n m t.1 t.2.1 t.2.2.1 t.2.2.2.1 t.2.2.2.2) (fun t => rfl)
    fun m t ih => (Fq.l3_0.round n (loopOf (Fq.R0 n) m) t.1 t.2.1 t.2.2.1 t.2.2.2.1 t.2.2.2.2).trans (congrFun (congrFun (congrFun (congrFun (congrFun (congrArg (Fq.l3_0.r Fq.l3_0.k0 n) (funext fun y0 => funext fun y1 => funext fun y2 => funext fun y3 => funext fun y4 => ih (y0, y1, y2, y3, y4))) t.1) t.2.1) t.2.2.1) t.2.2.2.1) t.2.2.2.2)
theorem Fq.l3_0.loop (n m : Nat) (t : (Int × (LI × (LI × (LI × LI))))) : loopOf (Fq.R0 n) m (Fq.l3_0.shape t) = (Fq.l3_0.m n m t).map Fq.l3_0.res :=
  (Fq.l3_0.loop' n m t).trans (Fq.l3_0.gmap Fq.l3_0.res (fun a0 a1 => (a0, a1)) n m t.1 t.2.1 t.2.2.1 t.2.2.2.1 t.2.2.2.2)
theorem Fq.gmap {α β : Type} (h : β → α) (mk0 : LI → β) (n : Nat) (a0 : LI) (a1 : LI) : Fq.g (fun a0 => (h (mk0 a0))) n a0 a1 = (Fq.g mk0 n a0 a1).map h := by
  unfold Fq.g
  exact (bindO_map fun r2 => rfl)
theorem Fq.run (n : Nat) (a0 : LI) (a1 : LI) : runF (Fq.C n) (Fq.A n) n Tryd.f102 [(.ints .u64 4 a0), (.ints .u64 4 a1)] [] (fun v o => some (v, o)) = Fq.g (fun a0 => (((.ints .u64 8 a0), []) : AV × Blks)) n a0 a1 := by kernel_rfl
theorem Fq.call (hmix : Tryd.prog.follows .mixedOrders = true) (n : Nat) (t : (LI × LI)) (u) (h : Fq.m n t = some u) : FnC Tryd.prog abiG 102 (Fq.shape t).1 (Fq.shape t).2 (Fq.res u).1 (Fq.res u).2 :=
  fnC1 (C := Fq.C n) (A := Fq.A n) (fn := Tryd.f102) rfl (.cons (Fak.s hmix n) (.cons (Faj.s hmix n) .nil)) hmix Tryd.func102 (by kernel_rfl) (lp := [Fq.b0, Fq.b1]) (by kernel_rfl) (.cons (show (Fq.A n).loop (key Fq.b0) = some (.mk' Fq.l3_0.pat (Fq.l3_0.m n n) Fq.l3_0.resK) by kernel_rfl) (LoopS.of (res := Fq.l3_0.res) (fun R u K => rfl) Fq.l3_0.pat_shape fun t => Fq.l3_0.loop n n t)
  (.cons (show (Fq.A n).loop (key Fq.b1) = some (.mk' Fq.l7_0.pat (Fq.l7_0.m n n) Fq.l7_0.resK) by kernel_rfl) (LoopS.of (res := Fq.l7_0.res) (fun R u K => rfl) Fq.l7_0.pat_shape fun t => Fq.l7_0.loop n n t)
  .nil))
  (nj rfl) (by decide) rfl rfl (by show 2 ≤ Tryd.f102.ntmps; decide) (Fq.run n t.1 t.2) (Fq.gmap Fq.res (fun a0 => a0) n t.1 t.2) h
theorem Fq.s (hmix : Tryd.prog.follows .mixedOrders = true) (n : Nat) : CalleeS Tryd.prog abiG 102 (Fq.c n) :=
  .mk1 (res := Fq.res) (shape := Fq.shape) (fun R u K => rfl) (fun _ _ _ h => by unfold Fq.pat at h; split at h <;> cases h; rfl) (fun t u h => Fq.call hmix n t u h) Tryd.func102 (by decide) (by kernel_rfl)
end
section
noncomputable section
noncomputable def Fbl.C (n : Nat) : Ctx := ⟨Tryd.prog, abiG, lookC [(102, Fq.c n)], fun _ => false⟩
noncomputable def Fbl.A (n : Nat) : Ann := ⟨Tryd.f84.ntmps, 0, noNL, [], [none, none], fun k => match k with
 | _ => none, noNL, lookJ []⟩
def Fbl.g {α : Type} (mk0 : LI → Bool → α) (n : Nat) (a0 : LI) (a1 : LI) : Option α :=
 bindO (Fq.m n (a0, a1)) fun r2 =>
  some (mk0 (List.take 4 (List.drop 0 r2)) ((ibits BinOp.or .u64 (ibits BinOp.or .u64 (ibits BinOp.or .u64 (List.getD r2 4 0) (List.getD r2 5 0)) (List.getD r2 6 0)) (List.getD r2 7 0)) != 0))
def Fbl.m (n : Nat) (t : (LI × LI)) : Option (LI × Bool) := Fbl.g (fun a0 a1 => (a0, a1)) n t.1 t.2
def Fbl.pat : List AV → Blks → Option (LI × LI)
 | [(.ints .u64 4 a0), (.ints .u64 4 a1)], [] => some (a0, a1)
 | _, _ => none
def Fbl.shape (t : (LI × LI)) : List AV × Blks := ([(.ints .u64 4 t.1), (.ints .u64 4 t.2)], [])
def Fbl.res : (LI × Bool) → AV × Blks
 | u => ((.tup [(.ints .u64 4 u.1), (.bool u.2)]), [])
def Fbl.resK {R : Type} (u : (LI × Bool)) (K : AV → Blks → Option R) : Option R := K (Fbl.res u).1 (Fbl.res u).2
def Fbl.c (n : Nat) : Abs.Callee := .mk' [] [none, none] Fbl.pat (Fbl.m n) Fbl.resK
end
end
section
theorem Fbl.gmap {α β : Type} (h : β → α) (mk0 : LI → Bool → β) (n : Nat) (a0 : LI) (a1 : LI) : Fbl.g (fun a0 a1 => (h (mk0 a0 a1))) n a0 a1 = (Fbl.g mk0 n a0 a1).map h := by
  unfold Fbl.g
  exact (bindO_map fun r2 => rfl)
theorem Fbl.run (n : Nat) (a0 : LI) (a1 : LI) : runF (Fbl.C n) (Fbl.A n) n Tryd.f84 [(.ints .u64 4 a0), (.ints .u64 4 a1)] [] (fun v o => some (v, o)) = Fbl.g (fun a0 a1 => (((.tup [(.ints .u64 4 a0), (.bool a1)]), []) : AV × Blks)) n a0 a1 := by kernel_rfl
theorem Fbl.call (hmix : Tryd.prog.follows .mixedOrders = true) (n : Nat) (t : (LI × LI)) (u) (h : Fbl.m n t = some u) : FnC Tryd.prog abiG 84 (Fbl.shape t).1 (Fbl.shape t).2 (Fbl.res u).1 (Fbl.res u).2 :=
  fnC1 (C := Fbl.C n) (A := Fbl.A n) (fn := Tryd.f84) rfl (.cons (Fq.s hmix n) .nil) hmix Tryd.func84 (by kernel_rfl) (lp := []) (by kernel_rfl) .nil
  (nj rfl) (by decide) rfl rfl (by show 2 ≤ Tryd.f84.ntmps; decide) (Fbl.run n t.1 t.2) (Fbl.gmap Fbl.res (fun a0 a1 => (a0, a1)) n t.1 t.2) h
theorem Fbl.s (hmix : Tryd.prog.follows .mixedOrders = true) (n : Nat) : CalleeS Tryd.prog abiG 84 (Fbl.c n) :=
  .mk1 (res := Fbl.res) (shape := Fbl.shape) (fun R u K => rfl) (fun _ _ _ h => by unfold Fbl.pat at h; split at h <;> cases h; rfl) (fun t u h => Fbl.call hmix n t u h) Tryd.func84 (by decide) (by kernel_rfl)
end
section
noncomputable section
noncomputable def Fax.C (n : Nat) : Ctx := ⟨Tryd.prog, abiG, lookC [], fun _ => false⟩
noncomputable def Fax.A (n : Nat) : Ann := ⟨Tryd.f64.ntmps, 0, noNL, [], [none, none], fun k => match k with
 | _ => none, noNL, lookJ []⟩
def Fax.g {α : Type} (mk0 : Int → Bool → α) (n : Nat) (a0 : LI) : Option α :=
 if ((List.getD a0 1 0) != 0) = true then
  some (mk0 0 false)
 else
  if ((List.getD a0 2 0) != 0) = true then
   some (mk0 0 false)
  else
   if ((List.getD a0 3 0) != 0) = true then
    some (mk0 0 false)
   else
    some (mk0 (List.getD a0 0 0) true)
def Fax.m (n : Nat) (t : LI) : Option (Int × Bool) := Fax.g (fun a0 a1 => (a0, a1)) n t
def Fax.pat : List AV → Blks → Option LI
 | [(.ints .u64 4 a0)], [] => some a0
 | _, _ => none
def Fax.shape (t : LI) : List AV × Blks := ([(.ints .u64 4 t)], [])
def Fax.res : (Int × Bool) → AV × Blks
 | u => ((.tup [(.int .u64 u.1), (.bool u.2)]), [])
def Fax.resK {R : Type} (u : (Int × Bool)) (K : AV → Blks → Option R) : Option R := K (Fax.res u).1 (Fax.res u).2
def Fax.c (n : Nat) : Abs.Callee := .mk' [] [none] Fax.pat (Fax.m n) Fax.resK
end
end
section
noncomputable section
noncomputable def Fcf.C (n : Nat) : Ctx := ⟨Tryd.prog, abiG, lookC [(64, Fax.c n)], fun _ => false⟩
noncomputable def Fcf.A (n : Nat) : Ann := ⟨Tryd.f115.ntmps, 0, noNL, [], [none], fun k => match k with
 | _ => none, noNL, lookJ []⟩
def Fcf.g {α : Type} (mk0 : Int → α) (n : Nat) (a0 : LI) : Option α :=
 bindO (Fax.m n a0) fun r2 =>
  if (!r2.2) = true then
   some (mk0 256)
  else
   if (decide (r2.1 > 256)) = true then
    some (mk0 256)
   else
    some (mk0 (IntKind.wrap .i64 r2.1))
def Fcf.m (n : Nat) (t : LI) : Option Int := Fcf.g (fun a0 => a0) n t
def Fcf.pat : List AV → Blks → Option LI
 | [(.ints .u64 4 a0)], [] => some a0
 | _, _ => none
def Fcf.shape (t : LI) : List AV × Blks := ([(.ints .u64 4 t)], [])
def Fcf.res : Int → AV × Blks
 | u => ((.int .i64 u), [])
def Fcf.resK {R : Type} (u : Int) (K : AV → Blks → Option R) : Option R := K (Fcf.res u).1 (Fcf.res u).2
def Fcf.c (n : Nat) : Abs.Callee := .mk' [] [none] Fcf.pat (Fcf.m n) Fcf.resK
end
end
section
noncomputable section
noncomputable def Fbm.C (n : Nat) : Ctx := ⟨Tryd.prog, abiG, lookC [], fun _ => false⟩
noncomputable def Fbm.A (n : Nat) : Ann := ⟨Tryd.f129.ntmps, 0, noNL, [], [none], fun k => match k with
 | _ => none, noNL, lookJ []⟩
def Fbm.g {α : Type} (mk0 : LI → α) (n : Nat) (a0 : LI) (a1 : Int) (a2 : Bool) : Option α :=
 if 0 ≤ (IntKind.wrap .u64 (Int.tmod a1 64)) then
  if a2 = true then
   if 0 ≤ (IntKind.wrap .i64 (Int.tdiv a1 64)) then
    if (IntKind.wrap .i64 (Int.tdiv a1 64)) < 4 then
     if 0 ≤ (IntKind.wrap .i64 (Int.tdiv a1 64)) then
      if (IntKind.wrap .i64 (Int.tdiv a1 64)) < 4 then
       some (mk0 (List.set a0 (Int.toNat (IntKind.wrap .i64 (Int.tdiv a1 64))) (ibits BinOp.or .u64 (List.getD a0 (Int.toNat (IntKind.wrap .i64 (Int.tdiv a1 64))) 0) (ishl .u64 1 (IntKind.wrap .u64 (Int.tmod a1 64))))))
      else
       none
     else
      none
    else
     none
   else
    none
  else
   if 0 ≤ (IntKind.wrap .i64 (Int.tdiv a1 64)) then
    if (IntKind.wrap .i64 (Int.tdiv a1 64)) < 4 then
     if 0 ≤ (IntKind.wrap .i64 (Int.tdiv a1 64)) then
      if (IntKind.wrap .i64 (Int.tdiv a1 64)) < 4 then
       some (mk0 (List.set a0 (Int.toNat (IntKind.wrap .i64 (Int.tdiv a1 64))) (ibits BinOp.andNot .u64 (List.getD a0 (Int.toNat (IntKind.wrap .i64 (Int.tdiv a1 64))) 0) (ishl .u64 1 (IntKind.wrap .u64 (Int.tmod a1 64))))))
      else
       none
     else
      none
    else
     none
   else
    none
 else
  none
def Fbm.m (n : Nat) (t : (LI × (Int × Bool))) : Option LI := Fbm.g (fun a0 => a0) n t.1 t.2.1 t.2.2
def Fbm.pat : List AV → Blks → Option (LI × (Int × Bool))
 | [(.ints .u64 4 a0), (.int .i64 a1), (.bool a2)], [] => some (a0, a1, a2)
 | _, _ => none
def Fbm.shape (t : (LI × (Int × Bool))) : List AV × Blks := ([(.ints .u64 4 t.1), (.int .i64 t.2.1), (.bool t.2.2)], [])
def Fbm.res : LI → AV × Blks
 | u => ((.ints .u64 4 u), [])
def Fbm.resK {R : Type} (u : LI) (K : AV → Blks → Option R) : Option R := K (Fbm.res u).1 (Fbm.res u).2
def Fbm.c (n : Nat) : Abs.Callee := .mk' [] [none, none, none] Fbm.pat (Fbm.m n) Fbm.resK
end
end
section
noncomputable section
noncomputable def Fay.C (n : Nat) : Ctx := ⟨Tryd.prog, abiG, lookC [(128, Fcb.c n), (129, Fbm.c n)], fun _ => false⟩
def Fay.live : NL := fun k => match k with
 | 3 => ([8, 2, 1, 3, 7, 6], [7, 6])
 | _ => ([], [])
def Fay.l3_0.r {α : Type} (mk0 : LI → LI → α) (n : Nat) (rc : Int → Bool → Int → LI → LI → LI → Option α)  (x0 : Int) (x1 : Bool) (x2 : Int) (x3 : LI) (x4 : LI) (x5 : LI) : Option α :=
  if (decide (x0 < 256)) = true then
   if (decide ((IntKind.wrap .i64 (x0 - x2)) ≥ 0)) = true then
    if (decide ((IntKind.wrap .i64 (x0 - x2)) < 256)) = true then
     bindO (Fcb.m n (x3, (IntKind.wrap .i64 (x0 - x2)))) fun r10 =>
      bindO (Fbm.m n (x4, x0, r10)) fun r12 =>
       rc (IntKind.wrap .i64 (x0 + 1)) x1 x2 x3 r12 x5
    else
     bindO (Fbm.m n (x4, x0, x1)) fun r10 =>
      rc (IntKind.wrap .i64 (x0 + 1)) x1 x2 x3 r10 x5
   else
    bindO (Fbm.m n (x4, x0, x1)) fun r8 =>
     rc (IntKind.wrap .i64 (x0 + 1)) x1 x2 x3 r8 x5
  else
   some (mk0 x4 x5)
def Fay.l3_0.g {α : Type} (mk0 : LI → LI → α) (n : Nat) : Nat → Int → Bool → Int → LI → LI → LI → Option α
 | 0, _, _, _, _, _, _ => none
 | m + 1, x0, x1, x2, x3, x4, x5 => Fay.l3_0.r mk0 n (fun y0 y1 y2 y3 y4 y5 => Fay.l3_0.g mk0 n m y0 y1 y2 y3 y4 y5)  x0 x1 x2 x3 x4 x5
def Fay.l3_0.m (n m : Nat) (t : (Int × (Bool × (Int × (LI × (LI × LI)))))) : Option (LI × LI) := Fay.l3_0.g (fun a0 a1 => (a0, a1)) n m t.1 t.2.1 t.2.2.1 t.2.2.2.1 t.2.2.2.2.1 t.2.2.2.2.2
def Fay.l3_0.pat : St → Option (Int × (Bool × (Int × (LI × (LI × LI)))))
 | (St.mk [(.int .i64 x0), (.bool x1), (.int .i64 x2), (.ptr 0 []), (.ptr 1 []), (.ptr 2 [])] [(some (.var (.ints .u64 4 x3))), (some (.var (.ints .u64 4 x4))), (some (.var (.ints .u64 4 x5)))]) => some (x0, x1, x2, x3, x4, x5)
 | _ => none
def Fay.l3_0.shape (t : (Int × (Bool × (Int × (LI × (LI × LI)))))) : St := (St.mk [(.int .i64 t.1), (.bool t.2.1), (.int .i64 t.2.2.1), (.ptr 0 []), (.ptr 1 []), (.ptr 2 [])] [(some (.var (.ints .u64 4 t.2.2.2.1))), (some (.var (.ints .u64 4 t.2.2.2.2.1))), (some (.var (.ints .u64 4 t.2.2.2.2.2)))])
def Fay.l3_0.res : (LI × LI) → Ex × St
 | u => ((.exit 0), (St.mk [(.ptr 0 []), (.ptr 1 [])] [(some (.var (.ints .u64 4 u.1))), (some (.var (.ints .u64 4 u.2)))]))
def Fay.l3_0.resK {R : Type} (u : (LI × LI)) (K : Ex → St → Option R) : Option R := K (Fay.l3_0.res u).1 (Fay.l3_0.res u).2
noncomputable def Fay.A (n : Nat) : Ann := ⟨Tryd.f114.ntmps, 0, Fay.live, [], [none], fun k => match k with
 | 3 => some (.mk' Fay.l3_0.pat (Fay.l3_0.m n n) Fay.l3_0.resK)
 | _ => none, noNL, lookJ []⟩
noncomputable def Fay.b0 : Code := (loopsIn (Tryd.f114.body.getD .skip)).getD 0 .skip
def Fay.g {α : Type} (mk0 : LI → α) (n : Nat) (a0 : LI) (a1 : Int) (a2 : Bool) : Option α :=
 bindO (Fay.l3_0.m n n (0, a2, a1, a0, [0, 0, 0, 0], [0, 0, 0, 0])) fun r2 =>
  some (mk0 r2.1)
def Fay.m (n : Nat) (t : (LI × (Int × Bool))) : Option LI := Fay.g (fun a0 => a0) n t.1 t.2.1 t.2.2
def Fay.pat : List AV → Blks → Option (LI × (Int × Bool))
 | [(.ints .u64 4 a0), (.int .i64 a1), (.bool a2)], [] => some (a0, a1, a2)
 | _, _ => none
def Fay.shape (t : (LI × (Int × Bool))) : List AV × Blks := ([(.ints .u64 4 t.1), (.int .i64 t.2.1), (.bool t.2.2)], [])
def Fay.res : LI → AV × Blks
 | u => ((.ints .u64 4 u), [])
def Fay.resK {R : Type} (u : LI) (K : AV → Blks → Option R) : Option R := K (Fay.res u).1 (Fay.res u).2
def Fay.c (n : Nat) : Abs.Callee := .mk' [] [none, none, none] Fay.pat (Fay.m n) Fay.resK
end
end
section
noncomputable section
noncomputable def Fcg.C (n : Nat) : Ctx := ⟨Tryd.prog, abiG, lookC [(115, Fcf.c n), (114, Fay.c n)], fun _ => false⟩
noncomputable def Fcg.A (n : Nat) : Ann := ⟨Tryd.f101.ntmps, 0, noNL, [], [none], fun k => match k with
 | _ => none, noNL, lookJ []⟩
def Fcg.g {α : Type} (mk0 : LI → α) (n : Nat) (a0 : LI) (a1 : LI) : Option α :=
 bindO (Fcf.m n a0) fun r2 =>
  bindO (Fay.m n (a1, r2, false)) fun r4 =>
   some (mk0 r4)
def Fcg.m (n : Nat) (t : (LI × LI)) : Option LI := Fcg.g (fun a0 => a0) n t.1 t.2
def Fcg.pat : List AV → Blks → Option (LI × LI)
 | [(.ints .u64 4 a0), (.ints .u64 4 a1)], [] => some (a0, a1)
 | _, _ => none
def Fcg.shape (t : (LI × LI)) : List AV × Blks := ([(.ints .u64 4 t.1), (.ints .u64 4 t.2)], [])
def Fcg.res : LI → AV × Blks
 | u => ((.ints .u64 4 u), [])
def Fcg.resK {R : Type} (u : LI) (K : AV → Blks → Option R) : Option R := K (Fcg.res u).1 (Fcg.res u).2
def Fcg.c (n : Nat) : Abs.Callee := .mk' [] [none, none] Fcg.pat (Fcg.m n) Fcg.resK
end
end
section
theorem Fax.gmap {α β : Type} (h : β → α) (mk0 : Int → Bool → β) (n : Nat) (a0 : LI) : Fax.g (fun a0 a1 => (h (mk0 a0 a1))) n a0 = (Fax.g mk0 n a0).map h := by
  unfold Fax.g
  exact (ite_map rfl (ite_map rfl (ite_map rfl rfl)))
theorem Fax.run (n : Nat) (a0 : LI) : runF (Fax.C n) (Fax.A n) n Tryd.f64 [(.ints .u64 4 a0)] [] (fun v o => some (v, o)) = Fax.g (fun a0 a1 => (((.tup [(.int .u64 a0), (.bool a1)]), []) : AV × Blks)) n a0 := by kernel_rfl
theorem Fax.call (hmix : Tryd.prog.follows .mixedOrders = true) (n : Nat) (t : LI) (u) (h : Fax.m n t = some u) : FnC Tryd.prog abiG 64 (Fax.shape t).1 (Fax.shape t).2 (Fax.res u).1 (Fax.res u).2 :=
  fnC1 (C := Fax.C n) (A := Fax.A n) (fn := Tryd.f64) rfl .nil hmix Tryd.func64 (by kernel_rfl) (lp := []) (by kernel_rfl) .nil
  (nj rfl) (by decide) rfl rfl (by show 1 ≤ Tryd.f64.ntmps; decide) (Fax.run n t) (Fax.gmap Fax.res (fun a0 a1 => (a0, a1)) n t) h
theorem Fax.s (hmix : Tryd.prog.follows .mixedOrders = true) (n : Nat) : CalleeS Tryd.prog abiG 64 (Fax.c n) :=
  .mk1 (res := Fax.res) (shape := Fax.shape) (fun R u K => rfl) (fun _ _ _ h => by unfold Fax.pat at h; split at h <;> cases h; rfl) (fun t u h => Fax.call hmix n t u h) Tryd.func64 (by decide) (by kernel_rfl)
end
section
theorem Fcf.gmap {α β : Type} (h : β → α) (mk0 : Int → β) (n : Nat) (a0 : LI) : Fcf.g (fun a0 => (h (mk0 a0))) n a0 = (Fcf.g mk0 n a0).map h := by
  unfold Fcf.g
  exact (bindO_map fun r2 => (ite_map rfl (ite_map rfl rfl)))
theorem Fcf.run (n : Nat) (a0 : LI) : runF (Fcf.C n) (Fcf.A n) n Tryd.f115 [(.ints .u64 4 a0)] [] (fun v o => some (v, o)) = Fcf.g (fun a0 => (((.int .i64 a0), []) : AV × Blks)) n a0 := by kernel_rfl
theorem Fcf.call (hmix : Tryd.prog.follows .mixedOrders = true) (n : Nat) (t : LI) (u) (h : Fcf.m n t = some u) : FnC Tryd.prog abiG 115 (Fcf.shape t).1 (Fcf.shape t).2 (Fcf.res u).1 (Fcf.res u).2 :=
  fnC1 (C := Fcf.C n) (A := Fcf.A n) (fn := Tryd.f115) rfl (.cons (Fax.s hmix n) .nil) hmix Tryd.func115 (by kernel_rfl) (lp := []) (by kernel_rfl) .nil
  (nj rfl) (by decide) rfl rfl (by show 1 ≤ Tryd.f115.ntmps; decide) (Fcf.run n t) (Fcf.gmap Fcf.res (fun a0 => a0) n t) h
theorem Fcf.s (hmix : Tryd.prog.follows .mixedOrders = true) (n : Nat) : CalleeS Tryd.prog abiG 115 (Fcf.c n) :=
  .mk1 (res := Fcf.res) (shape := Fcf.shape) (fun R u K => rfl) (fun _ _ _ h => by unfold Fcf.pat at h; split at h <;> cases h; rfl) (fun t u h => Fcf.call hmix n t u h) Tryd.func115 (by decide) (by kernel_rfl)
end
section
theorem Fbm.gmap {α β : Type} (h : β → α) (mk0 : LI → β) (n : Nat) (a0 : LI) (a1 : Int) (a2 : Bool) : Fbm.g (fun a0 => (h (mk0 a0))) n a0 a1 a2 = (Fbm.g mk0 n a0 a1 a2).map h := by
  unfold Fbm.g
  exact (ite_map (ite_map (ite_map (ite_map (ite_map (ite_map rfl rfl) rfl) rfl) rfl) (ite_map (ite_map (ite_map (ite_map rfl rfl) rfl) rfl) rfl)) rfl)
theorem Fbm.run (n : Nat) (a0 : LI) (a1 : Int) (a2 : Bool) : runF (Fbm.C n) (Fbm.A n) n Tryd.f129 [(.ints .u64 4 a0), (.int .i64 a1), (.bool a2)] [] (fun v o => some (v, o)) = Fbm.g (fun a0 => (((.ints .u64 4 a0), []) : AV × Blks)) n a0 a1 a2 := by kernel_rfl
theorem Fbm.call (hmix : Tryd.prog.follows .mixedOrders = true) (n : Nat) (t : (LI × (Int × Bool))) (u) (h : Fbm.m n t = some u) : FnC Tryd.prog abiG 129 (Fbm.shape t).1 (Fbm.shape t).2 (Fbm.res u).1 (Fbm.res u).2 :=
  fnC1 (C := Fbm.C n) (A := Fbm.A n) (fn := Tryd.f129) rfl .nil hmix Tryd.func129 (by kernel_rfl) (lp := []) (by kernel_rfl) .nil
  (nj rfl) (by decide) rfl rfl (by show 3 ≤ Tryd.f129.ntmps; decide) (Fbm.run n t.1 t.2.1 t.2.2) (Fbm.gmap Fbm.res (fun a0 => a0) n t.1 t.2.1 t.2.2) h
theorem Fbm.s (hmix : Tryd.prog.follows .mixedOrders = true) (n : Nat) : CalleeS Tryd.prog abiG 129 (Fbm.c n) :=
  .mk1 (res := Fbm.res) (shape := Fbm.shape) (fun R u K => rfl) (fun _ _ _ h => by unfold Fbm.pat at h; split at h <;> cases h; rfl) (fun t u h => Fbm.call hmix n t u h) Tryd.func129 (by decide) (by kernel_rfl)
end
section
noncomputable abbrev Fay.R0 (n : Nat) := roundOf (Fay.C n) (Fay.A n) n Fay.b0
theorem Fay.l3_0.rmap {α β : Type} (h : β → α) (mk0 : LI → LI → β) (n : Nat) (f : Int → Bool → Int → LI → LI → LI → Option β)  (x0 : Int) (x1 : Bool) (x2 : Int) (x3 : LI) (x4 : LI) (x5 : LI) : Fay.l3_0.r (fun a0 a1 => (h (mk0 a0 a1))) n (fun y0 y1 y2 y3 y4 y5 => (f y0 y1 y2 y3 y4 y5).map h) x0 x1 x2 x3 x4 x5 = (Fay.l3_0.r mk0 n f x0 x1 x2 x3 x4 x5).map h := by
  unfold Fay.l3_0.r
  exact (ite_map (ite_map (ite_map (bindO_map fun r10 => (bindO_map fun r12 => rfl)) (bindO_map fun r10 => rfl)) (bindO_map fun r8 => rfl)) rfl)
theorem Fay.l3_0.gmap {α β : Type} (h : β → α) (mk0 : LI → LI → β) (n : Nat) : ∀ (m : Nat) (x0 : Int) (x1 : Bool) (x2 : Int) (x3 : LI) (x4 : LI) (x5 : LI), Fay.l3_0.g (fun a0 a1 => (h (mk0 a0 a1))) n m x0 x1 x2 x3 x4 x5 = (Fay.l3_0.g mk0 n m x0 x1 x2 x3 x4 x5).map h
  | 0, _, _, _, _, _, _ => rfl
  | m + 1, x0, x1, x2, x3, x4, x5 => by
    unfold Fay.l3_0.g
    rw [← Fay.l3_0.rmap]
    congr
    · funext y0 y1 y2 y3 y4 y5; exact Fay.l3_0.gmap h mk0 n m y0 y1 y2 y3 y4 y5
theorem Fay.l3_0.pat_shape : ∀ st t, Fay.l3_0.pat st = some t → st = Fay.l3_0.shape t := fun _ _ h => by unfold Fay.l3_0.pat at h; split at h <;> cases h; rfl
def Fay.l3_0.k0 : LI → LI → Ex × St := (fun a0 a1 => (((.exit 0), (St.mk [(.ptr 0 []), (.ptr 1 [])] [(some (.var (.ints .u64 4 a0))), (some (.var (.ints .u64 4 a1)))])) : Ex × St))
theorem Fay.l3_0.round (n : Nat) (rc : St → Option (Ex × St)) (x0 : Int) (x1 : Bool) (x2 : Int) (x3 : LI) (x4 : LI) (x5 : LI) : Fay.R0 n rc ((St.mk [(.int .i64 x0), (.bool x1), (.int .i64 x2), (.ptr 0 []), (.ptr 1 []), (.ptr 2 [])] [(some (.var (.ints .u64 4 x3))), (some (.var (.ints .u64 4 x4))), (some (.var (.ints .u64 4 x5)))])) = Fay.l3_0.r Fay.l3_0.k0 n (fun y0 y1 y2 y3 y4 y5 => rc ((St.mk [(.int .i64 y0), (.bool y1), (.int .i64 y2), (.ptr 0 []), (.ptr 1 []), (.ptr 2 [])] [(some (.var (.ints .u64 4 y3))), (some (.var (.ints .u64 4 y4))), (some (.var (.ints .u64 4 y5)))]))) x0 x1 x2 x3 x4 x5 := by kernel_rfl
theorem Fay.l3_0.loop' (n : Nat) : ∀ (m : Nat) (t : (Int × (Bool × (Int × (LI × (LI × LI)))))), loopOf (Fay.R0 n) m (Fay.l3_0.shape t) = Fay.l3_0.g Fay.l3_0.k0 n m t.1 t.2.1 t.2.2.1 t.2.2.2.1 t.2.2.2.2.1 t.2.2.2.2.2 :=
  loop_of_round (shape := Fay.l3_0.shape) (body := Fay.R0 n) (g := fun m t => Fay.l3_0.g Fay.l3_0.k0 n m t.1 t.2.1 t.2.2.1 t.2.2.2.1 t.2.2.2.2.1 t.2.2.2.2.2) (fun t => rfl)
    fun m t ih => (Fay.l3_0.round n (loopOf (Fay.R0 n) m) t.1 t.2.1 t.2.2.1 t.2.2.2.1 t.2.2.2.2.1 t.2.2.2.2.2).trans (congrFun (congrFun (congrFun (congrFun (congrFun (congrFun (congrArg (Fay.l3_0.r Fay.l3_0.k0 n) (funext fun y0 => funext fun y1 => funext fun y2 => funext fun y3 => funext fun y4 => funext fun y5 => ih (y0, y1, y2, y3, y4, y5))) t.1) t.2.1) t.2.2.1) t.2.2.2.1) t.2.2.2.2.1) t.2.2.2.2.2)
theorem Fay.l3_0.loop (n m : Nat) (t : (Int × (Bool × (Int × (LI × (LI × LI)))))) : loopOf (Fay.R0 n) m (Fay.l3_0.shape t) = (Fay.l3_0.m n m t).map Fay.l3_0.res :=
  (Fay.l3_0.loop' n m t).trans (Fay.l3_0.gmap Fay.l3_0.res (fun a0 a1 => (a0, a1)) n m t.1 t.2.1 t.2.2.1 t.2.2.2.1 t.2.2.2.2.1 t.2.2.2.2.2)
theorem Fay.gmap {α β : Type} (h : β → α) (mk0 : LI → β) (n : Nat) (a0 : LI) (a1 : Int) (a2 : Bool) : Fay.g (fun a0 => (h (mk0 a0))) n a0 a1 a2 = (Fay.g mk0 n a0 a1 a2).map h := by
  unfold Fay.g
  exact (bindO_map fun r2 => rfl)
theorem Fay.run (n : Nat) (a0 : LI) (a1 : Int) (a2 : Bool) : runF (Fay.C n) (Fay.A n) n Tryd.f114 [(.ints .u64 4 a0), (.int .i64 a1), (.bool a2)] [] (fun v o => some (v, o)) = Fay.g (fun a0 => (((.ints .u64 4 a0), []) : AV × Blks)) n a0 a1 a2 := by kernel_rfl
theorem Fay.call (hmix : Tryd.prog.follows .mixedOrders = true) (n : Nat) (t : (LI × (Int × Bool))) (u) (h : Fay.m n t = some u) : FnC Tryd.prog abiG 114 (Fay.shape t).1 (Fay.shape t).2 (Fay.res u).1 (Fay.res u).2 :=
  fnC1 (C := Fay.C n) (A := Fay.A n) (fn := Tryd.f114) rfl (.cons (Fcb.s hmix n) (.cons (Fbm.s hmix n) .nil)) hmix Tryd.func114 (by kernel_rfl) (lp := [Fay.b0]) (by kernel_rfl) (.cons (show (Fay.A n).loop (key Fay.b0) = some (.mk' Fay.l3_0.pat (Fay.l3_0.m n n) Fay.l3_0.resK) by kernel_rfl) (LoopS.of (res := Fay.l3_0.res) (fun R u K => rfl) Fay.l3_0.pat_shape fun t => Fay.l3_0.loop n n t)
  .nil)
  (nj rfl) (by decide) rfl rfl (by show 3 ≤ Tryd.f114.ntmps; decide) (Fay.run n t.1 t.2.1 t.2.2) (Fay.gmap Fay.res (fun a0 => a0) n t.1 t.2.1 t.2.2) h
theorem Fay.s (hmix : Tryd.prog.follows .mixedOrders = true) (n : Nat) : CalleeS Tryd.prog abiG 114 (Fay.c n) :=
  .mk1 (res := Fay.res) (shape := Fay.shape) (fun R u K => rfl) (fun _ _ _ h => by unfold Fay.pat at h; split at h <;> cases h; rfl) (fun t u h => Fay.call hmix n t u h) Tryd.func114 (by decide) (by kernel_rfl)
end
section
theorem Fcg.gmap {α β : Type} (h : β → α) (mk0 : LI → β) (n : Nat) (a0 : LI) (a1 : LI) : Fcg.g (fun a0 => (h (mk0 a0))) n a0 a1 = (Fcg.g mk0 n a0 a1).map h := by
  unfold Fcg.g
  exact (bindO_map fun r2 => (bindO_map fun r4 => rfl))
theorem Fcg.run (n : Nat) (a0 : LI) (a1 : LI) : runF (Fcg.C n) (Fcg.A n) n Tryd.f101 [(.ints .u64 4 a0), (.ints .u64 4 a1)] [] (fun v o => some (v, o)) = Fcg.g (fun a0 => (((.ints .u64 4 a0), []) : AV × Blks)) n a0 a1 := by kernel_rfl
theorem Fcg.call (hmix : Tryd.prog.follows .mixedOrders = true) (n : Nat) (t : (LI × LI)) (u) (h : Fcg.m n t = some u) : FnC Tryd.prog abiG 101 (Fcg.shape t).1 (Fcg.shape t).2 (Fcg.res u).1 (Fcg.res u).2 :=
  fnC1 (C := Fcg.C n) (A := Fcg.A n) (fn := Tryd.f101) rfl (.cons (Fcf.s hmix n) (.cons (Fay.s hmix n) .nil)) hmix Tryd.func101 (by kernel_rfl) (lp := []) (by kernel_rfl) .nil
  (nj rfl) (by decide) rfl rfl (by show 2 ≤ Tryd.f101.ntmps; decide) (Fcg.run n t.1 t.2) (Fcg.gmap Fcg.res (fun a0 => a0) n t.1 t.2) h
theorem Fcg.s (hmix : Tryd.prog.follows .mixedOrders = true) (n : Nat) : CalleeS Tryd.prog abiG 101 (Fcg.c n) :=
  .mk1 (res := Fcg.res) (shape := Fcg.shape) (fun R u K => rfl) (fun _ _ _ h => by unfold Fcg.pat at h; split at h <;> cases h; rfl) (fun t u h => Fcg.call hmix n t u h) Tryd.func101 (by decide) (by kernel_rfl)
end
section
noncomputable section
noncomputable def Fch.C (n : Nat) : Ctx := ⟨Tryd.prog, abiG, lookC [(115, Fcf.c n), (114, Fay.c n)], fun _ => false⟩
noncomputable def Fch.A (n : Nat) : Ann := ⟨Tryd.f95.ntmps, 0, noNL, [], [none], fun k => match k with
 | _ => none, noNL, lookJ []⟩
def Fch.g {α : Type} (mk0 : LI → α) (n : Nat) (a0 : LI) (a1 : LI) : Option α :=
 bindO (Fcf.m n a0) fun r2 =>
  bindO (Fay.m n (a1, (IntKind.wrap .i64 (0 - r2)), false)) fun r4 =>
   some (mk0 r4)
def Fch.m (n : Nat) (t : (LI × LI)) : Option LI := Fch.g (fun a0 => a0) n t.1 t.2
def Fch.pat : List AV → Blks → Option (LI × LI)
 | [(.ints .u64 4 a0), (.ints .u64 4 a1)], [] => some (a0, a1)
 | _, _ => none
def Fch.shape (t : (LI × LI)) : List AV × Blks := ([(.ints .u64 4 t.1), (.ints .u64 4 t.2)], [])
def Fch.res : LI → AV × Blks
 | u => ((.ints .u64 4 u), [])
def Fch.resK {R : Type} (u : LI) (K : AV → Blks → Option R) : Option R := K (Fch.res u).1 (Fch.res u).2
def Fch.c (n : Nat) : Abs.Callee := .mk' [] [none, none] Fch.pat (Fch.m n) Fch.resK
end
end
section
theorem Fch.gmap {α β : Type} (h : β → α) (mk0 : LI → β) (n : Nat) (a0 : LI) (a1 : LI) : Fch.g (fun a0 => (h (mk0 a0))) n a0 a1 = (Fch.g mk0 n a0 a1).map h := by
  unfold Fch.g
  exact (bindO_map fun r2 => (bindO_map fun r4 => rfl))
theorem Fch.run (n : Nat) (a0 : LI) (a1 : LI) : runF (Fch.C n) (Fch.A n) n Tryd.f95 [(.ints .u64 4 a0), (.ints .u64 4 a1)] [] (fun v o => some (v, o)) = Fch.g (fun a0 => (((.ints .u64 4 a0), []) : AV × Blks)) n a0 a1 := by kernel_rfl
theorem Fch.call (hmix : Tryd.prog.follows .mixedOrders = true) (n : Nat) (t : (LI × LI)) (u) (h : Fch.m n t = some u) : FnC Tryd.prog abiG 95 (Fch.shape t).1 (Fch.shape t).2 (Fch.res u).1 (Fch.res u).2 :=
  fnC1 (C := Fch.C n) (A := Fch.A n) (fn := Tryd.f95) rfl (.cons (Fcf.s hmix n) (.cons (Fay.s hmix n) .nil)) hmix Tryd.func95 (by kernel_rfl) (lp := []) (by kernel_rfl) .nil
  (nj rfl) (by decide) rfl rfl (by show 2 ≤ Tryd.f95.ntmps; decide) (Fch.run n t.1 t.2) (Fch.gmap Fch.res (fun a0 => a0) n t.1 t.2) h
theorem Fch.s (hmix : Tryd.prog.follows .mixedOrders = true) (n : Nat) : CalleeS Tryd.prog abiG 95 (Fch.c n) :=
  .mk1 (res := Fch.res) (shape := Fch.shape) (fun R u K => rfl) (fun _ _ _ h => by unfold Fch.pat at h; split at h <;> cases h; rfl) (fun t u h => Fch.call hmix n t u h) Tryd.func95 (by decide) (by kernel_rfl)
end
section
noncomputable section
noncomputable def Fam.C (n : Nat) : Ctx := ⟨Tryd.prog, abiG, lookC [], fun _ => false⟩
noncomputable def Fam.A (n : Nat) : Ann := ⟨Tryd.f120.ntmps, 0, noNL, [], [none, none], fun k => match k with
 | _ => none, noNL, lookJ []⟩
def Fam.g {α : Type} (mk0 : Int → Bool → α) (n : Nat) (a0 : LI) : Option α :=
 if ((ibits BinOp.or .u64 (ibits BinOp.or .u64 (List.getD a0 1 0) (List.getD a0 2 0)) (List.getD a0 3 0)) != 0) = true then
  some (mk0 0 false)
 else
  some (mk0 (List.getD a0 0 0) true)
def Fam.m (n : Nat) (t : LI) : Option (Int × Bool) := Fam.g (fun a0 a1 => (a0, a1)) n t
def Fam.pat : List AV → Blks → Option LI
 | [(.ints .u64 4 a0)], [] => some a0
 | _, _ => none
def Fam.shape (t : LI) : List AV × Blks := ([(.ints .u64 4 t)], [])
def Fam.res : (Int × Bool) → AV × Blks
 | u => ((.tup [(.int .u64 u.1), (.bool u.2)]), [])
def Fam.resK {R : Type} (u : (Int × Bool)) (K : AV → Blks → Option R) : Option R := K (Fam.res u).1 (Fam.res u).2
def Fam.c (n : Nat) : Abs.Callee := .mk' [] [none] Fam.pat (Fam.m n) Fam.resK
end
end
section
noncomputable section
noncomputable def Fbn.C (n : Nat) : Ctx := ⟨Tryd.prog, abiG, lookC [(120, Fam.c n)], fun _ => false⟩
noncomputable def Fbn.A (n : Nat) : Ann := ⟨Tryd.f113.ntmps, 0, noNL, [], [none], fun k => match k with
 | _ => none, noNL, lookJ []⟩
def Fbn.g {α : Type} (mk0 : Int → α) (n : Nat) (a0 : LI) : Option α :=
 bindO (Fam.m n a0) fun r2 =>
  if (!r2.2) = true then
   some (mk0 256)
  else
   some (mk0 (if 256 < r2.1 then 256 else r2.1))
def Fbn.m (n : Nat) (t : LI) : Option Int := Fbn.g (fun a0 => a0) n t
def Fbn.pat : List AV → Blks → Option LI
 | [(.ints .u64 4 a0)], [] => some a0
 | _, _ => none
def Fbn.shape (t : LI) : List AV × Blks := ([(.ints .u64 4 t)], [])
def Fbn.res : Int → AV × Blks
 | u => ((.int .u64 u), [])
def Fbn.resK {R : Type} (u : Int) (K : AV → Blks → Option R) : Option R := K (Fbn.res u).1 (Fbn.res u).2
def Fbn.c (n : Nat) : Abs.Callee := .mk' [] [none] Fbn.pat (Fbn.m n) Fbn.resK
end
end
section
theorem Fam.gmap {α β : Type} (h : β → α) (mk0 : Int → Bool → β) (n : Nat) (a0 : LI) : Fam.g (fun a0 a1 => (h (mk0 a0 a1))) n a0 = (Fam.g mk0 n a0).map h := by
  unfold Fam.g
  exact (ite_map rfl rfl)
theorem Fam.run (n : Nat) (a0 : LI) : runF (Fam.C n) (Fam.A n) n Tryd.f120 [(.ints .u64 4 a0)] [] (fun v o => some (v, o)) = Fam.g (fun a0 a1 => (((.tup [(.int .u64 a0), (.bool a1)]), []) : AV × Blks)) n a0 := by kernel_rfl
theorem Fam.call (hmix : Tryd.prog.follows .mixedOrders = true) (n : Nat) (t : LI) (u) (h : Fam.m n t = some u) : FnC Tryd.prog abiG 120 (Fam.shape t).1 (Fam.shape t).2 (Fam.res u).1 (Fam.res u).2 :=
  fnC1 (C := Fam.C n) (A := Fam.A n) (fn := Tryd.f120) rfl .nil hmix Tryd.func120 (by kernel_rfl) (lp := []) (by kernel_rfl) .nil
  (nj rfl) (by decide) rfl rfl (by show 1 ≤ Tryd.f120.ntmps; decide) (Fam.run n t) (Fam.gmap Fam.res (fun a0 a1 => (a0, a1)) n t) h
theorem Fam.s (hmix : Tryd.prog.follows .mixedOrders = true) (n : Nat) : CalleeS Tryd.prog abiG 120 (Fam.c n) :=
  .mk1 (res := Fam.res) (shape := Fam.shape) (fun R u K => rfl) (fun _ _ _ h => by unfold Fam.pat at h; split at h <;> cases h; rfl) (fun t u h => Fam.call hmix n t u h) Tryd.func120 (by decide) (by kernel_rfl)
end
section
theorem Fbn.gmap {α β : Type} (h : β → α) (mk0 : Int → β) (n : Nat) (a0 : LI) : Fbn.g (fun a0 => (h (mk0 a0))) n a0 = (Fbn.g mk0 n a0).map h := by
  unfold Fbn.g
  exact (bindO_map fun r2 => (ite_map rfl rfl))
theorem Fbn.run (n : Nat) (a0 : LI) : runF (Fbn.C n) (Fbn.A n) n Tryd.f113 [(.ints .u64 4 a0)] [] (fun v o => some (v, o)) = Fbn.g (fun a0 => (((.int .u64 a0), []) : AV × Blks)) n a0 := by kernel_rfl
theorem Fbn.call (hmix : Tryd.prog.follows .mixedOrders = true) (n : Nat) (t : LI) (u) (h : Fbn.m n t = some u) : FnC Tryd.prog abiG 113 (Fbn.shape t).1 (Fbn.shape t).2 (Fbn.res u).1 (Fbn.res u).2 :=
  fnC1 (C := Fbn.C n) (A := Fbn.A n) (fn := Tryd.f113) rfl (.cons (Fam.s hmix n) .nil) hmix Tryd.func113 (by kernel_rfl) (lp := []) (by kernel_rfl) .nil
  (nj rfl) (by decide) rfl rfl (by show 1 ≤ Tryd.f113.ntmps; decide) (Fbn.run n t) (Fbn.gmap Fbn.res (fun a0 => a0) n t) h
theorem Fbn.s (hmix : Tryd.prog.follows .mixedOrders = true) (n : Nat) : CalleeS Tryd.prog abiG 113 (Fbn.c n) :=
  .mk1 (res := Fbn.res) (shape := Fbn.shape) (fun R u K => rfl) (fun _ _ _ h => by unfold Fbn.pat at h; split at h <;> cases h; rfl) (fun t u h => Fbn.call hmix n t u h) Tryd.func113 (by decide) (by kernel_rfl)
end
section
noncomputable section
noncomputable def Fbo.C (n : Nat) : Ctx := ⟨Tryd.prog, abiG, lookC [(113, Fbn.c n)], fun _ => false⟩
def Fbo.live : NL := fun k => match k with
 | 4 => ([11, 5, 3, 6, 4], [6, 4])
 | _ => ([], [])
def Fbo.l4_0.r {α : Type} (mk0 : LI → LI → α) (n : Nat) (rc : Int → Int → LI → LI → LI → Option α)  (x0 : Int) (x1 : Int) (x2 : LI) (x3 : LI) (x4 : LI) : Option α :=
  if (decide (x0 < 4)) = true then
   if (decide ((IntKind.wrap .i64 (x0 - (IntKind.wrap .i64 (IntKind.wrap .u64 (Int.tdiv x1 64))))) ≥ 0)) = true then
    if 0 ≤ (IntKind.wrap .i64 (x0 - (IntKind.wrap .i64 (IntKind.wrap .u64 (Int.tdiv x1 64))))) then
     if (IntKind.wrap .i64 (x0 - (IntKind.wrap .i64 (IntKind.wrap .u64 (Int.tdiv x1 64))))) < 4 then
      if 0 ≤ (Int.tmod x1 64) then
       if 0 ≤ x0 then
        if x0 < 4 then
         if (decide ((IntKind.wrap .i64 (x0 - (IntKind.wrap .i64 (IntKind.wrap .u64 (Int.tdiv x1 64))))) > 0)) = true then
          if ((Int.tmod x1 64) != 0) = true then
           if 0 ≤ x0 then
            if x0 < 4 then
             if 0 ≤ (IntKind.wrap .i64 ((IntKind.wrap .i64 (x0 - (IntKind.wrap .i64 (IntKind.wrap .u64 (Int.tdiv x1 64))))) - 1)) then
              if (IntKind.wrap .i64 ((IntKind.wrap .i64 (x0 - (IntKind.wrap .i64 (IntKind.wrap .u64 (Int.tdiv x1 64))))) - 1)) < 4 then
               if 0 ≤ (IntKind.wrap .u64 (64 - (Int.tmod x1 64))) then
                if 0 ≤ x0 then
                 if x0 < 4 then
                  rc (IntKind.wrap .i64 (x0 + 1)) x1 x2 (List.set (List.set x3 (Int.toNat x0) (ishl .u64 (List.getD x2 (Int.toNat (IntKind.wrap .i64 (x0 - (IntKind.wrap .i64 (IntKind.wrap .u64 (Int.tdiv x1 64)))))) 0) (Int.tmod x1 64))) (Int.toNat x0) (ibits BinOp.or .u64 (List.getD (List.set x3 (Int.toNat x0) (ishl .u64 (List.getD x2 (Int.toNat (IntKind.wrap .i64 (x0 - (IntKind.wrap .i64 (IntKind.wrap .u64 (Int.tdiv x1 64)))))) 0) (Int.tmod x1 64))) (Int.toNat x0) 0) (ishr .u64 (List.getD x2 (Int.toNat (IntKind.wrap .i64 ((IntKind.wrap .i64 (x0 - (IntKind.wrap .i64 (IntKind.wrap .u64 (Int.tdiv x1 64))))) - 1))) 0) (IntKind.wrap .u64 (64 - (Int.tmod x1 64)))))) x4
                 else
                  none
                else
                 none
               else
                none
              else
               none
             else
              none
            else
             none
           else
            none
          else
           rc (IntKind.wrap .i64 (x0 + 1)) x1 x2 (List.set x3 (Int.toNat x0) (ishl .u64 (List.getD x2 (Int.toNat (IntKind.wrap .i64 (x0 - (IntKind.wrap .i64 (IntKind.wrap .u64 (Int.tdiv x1 64)))))) 0) (Int.tmod x1 64))) x4
         else
          rc (IntKind.wrap .i64 (x0 + 1)) x1 x2 (List.set x3 (Int.toNat x0) (ishl .u64 (List.getD x2 (Int.toNat (IntKind.wrap .i64 (x0 - (IntKind.wrap .i64 (IntKind.wrap .u64 (Int.tdiv x1 64)))))) 0) (Int.tmod x1 64))) x4
        else
         none
       else
        none
      else
       none
     else
      none
    else
     none
   else
    if (decide ((IntKind.wrap .i64 (x0 - (IntKind.wrap .i64 (IntKind.wrap .u64 (Int.tdiv x1 64))))) > 0)) = true then
     if ((Int.tmod x1 64) != 0) = true then
      if 0 ≤ x0 then
       if x0 < 4 then
        if 0 ≤ (IntKind.wrap .i64 ((IntKind.wrap .i64 (x0 - (IntKind.wrap .i64 (IntKind.wrap .u64 (Int.tdiv x1 64))))) - 1)) then
         if (IntKind.wrap .i64 ((IntKind.wrap .i64 (x0 - (IntKind.wrap .i64 (IntKind.wrap .u64 (Int.tdiv x1 64))))) - 1)) < 4 then
          if 0 ≤ (IntKind.wrap .u64 (64 - (Int.tmod x1 64))) then
           if 0 ≤ x0 then
            if x0 < 4 then
             rc (IntKind.wrap .i64 (x0 + 1)) x1 x2 (List.set x3 (Int.toNat x0) (ibits BinOp.or .u64 (List.getD x3 (Int.toNat x0) 0) (ishr .u64 (List.getD x2 (Int.toNat (IntKind.wrap .i64 ((IntKind.wrap .i64 (x0 - (IntKind.wrap .i64 (IntKind.wrap .u64 (Int.tdiv x1 64))))) - 1))) 0) (IntKind.wrap .u64 (64 - (Int.tmod x1 64)))))) x4
            else
             none
           else
            none
          else
           none
         else
          none
        else
         none
       else
        none
      else
       none
     else
      rc (IntKind.wrap .i64 (x0 + 1)) x1 x2 x3 x4
    else
     rc (IntKind.wrap .i64 (x0 + 1)) x1 x2 x3 x4
  else
   some (mk0 x3 x4)
def Fbo.l4_0.g {α : Type} (mk0 : LI → LI → α) (n : Nat) : Nat → Int → Int → LI → LI → LI → Option α
 | 0, _, _, _, _, _ => none
 | m + 1, x0, x1, x2, x3, x4 => Fbo.l4_0.r mk0 n (fun y0 y1 y2 y3 y4 => Fbo.l4_0.g mk0 n m y0 y1 y2 y3 y4)  x0 x1 x2 x3 x4
def Fbo.l4_0.m (n m : Nat) (t : (Int × (Int × (LI × (LI × LI))))) : Option (LI × LI) := Fbo.l4_0.g (fun a0 a1 => (a0, a1)) n m t.1 t.2.1 t.2.2.1 t.2.2.2.1 t.2.2.2.2
def Fbo.l4_0.pat : St → Option (Int × (Int × (LI × (LI × LI))))
 | (St.mk [(.int .i64 x0), (.int .u64 x1), (.ptr 0 []), (.ptr 1 []), (.ptr 2 [])] [(some (.var (.ints .u64 4 x2))), (some (.var (.ints .u64 4 x3))), (some (.var (.ints .u64 4 x4)))]) => some (x0, x1, x2, x3, x4)
 | _ => none
def Fbo.l4_0.shape (t : (Int × (Int × (LI × (LI × LI))))) : St := (St.mk [(.int .i64 t.1), (.int .u64 t.2.1), (.ptr 0 []), (.ptr 1 []), (.ptr 2 [])] [(some (.var (.ints .u64 4 t.2.2.1))), (some (.var (.ints .u64 4 t.2.2.2.1))), (some (.var (.ints .u64 4 t.2.2.2.2)))])
def Fbo.l4_0.res : (LI × LI) → Ex × St
 | u => ((.exit 0), (St.mk [(.ptr 0 []), (.ptr 1 [])] [(some (.var (.ints .u64 4 u.1))), (some (.var (.ints .u64 4 u.2)))]))
def Fbo.l4_0.resK {R : Type} (u : (LI × LI)) (K : Ex → St → Option R) : Option R := K (Fbo.l4_0.res u).1 (Fbo.l4_0.res u).2
noncomputable def Fbo.A (n : Nat) : Ann := ⟨Tryd.f100.ntmps, 0, Fbo.live, [], [none], fun k => match k with
 | 4 => some (.mk' Fbo.l4_0.pat (Fbo.l4_0.m n n) Fbo.l4_0.resK)
 | _ => none, noNL, lookJ []⟩
noncomputable def Fbo.b0 : Code := (loopsIn (Tryd.f100.body.getD .skip)).getD 0 .skip
def Fbo.g {α : Type} (mk0 : LI → α) (n : Nat) (a0 : LI) (a1 : LI) : Option α :=
 bindO (Fbn.m n a0) fun r2 =>
  bindO (Fbo.l4_0.m n n (0, r2, a1, [0, 0, 0, 0], [0, 0, 0, 0])) fun r4 =>
   some (mk0 r4.1)
def Fbo.m (n : Nat) (t : (LI × LI)) : Option LI := Fbo.g (fun a0 => a0) n t.1 t.2
def Fbo.pat : List AV → Blks → Option (LI × LI)
 | [(.ints .u64 4 a0), (.ints .u64 4 a1)], [] => some (a0, a1)
 | _, _ => none
def Fbo.shape (t : (LI × LI)) : List AV × Blks := ([(.ints .u64 4 t.1), (.ints .u64 4 t.2)], [])
def Fbo.res : LI → AV × Blks
 | u => ((.ints .u64 4 u), [])
def Fbo.resK {R : Type} (u : LI) (K : AV → Blks → Option R) : Option R := K (Fbo.res u).1 (Fbo.res u).2
def Fbo.c (n : Nat) : Abs.Callee := .mk' [] [none, none] Fbo.pat (Fbo.m n) Fbo.resK
end
end
section
noncomputable abbrev Fbo.R0 (n : Nat) := roundOf (Fbo.C n) (Fbo.A n) n Fbo.b0
theorem Fbo.l4_0.rmap {α β : Type} (h : β → α) (mk0 : LI → LI → β) (n : Nat) (f : Int → Int → LI → LI → LI → Option β)  (x0 : Int) (x1 : Int) (x2 : LI) (x3 : LI) (x4 : LI) : Fbo.l4_0.r (fun a0 a1 => (h (mk0 a0 a1))) n (fun y0 y1 y2 y3 y4 => (f y0 y1 y2 y3 y4).map h) x0 x1 x2 x3 x4 = (Fbo.l4_0.r mk0 n f x0 x1 x2 x3 x4).map h := by
  unfold Fbo.l4_0.r
  exact (ite_map (ite_map (ite_map (ite_map (ite_map (ite_map (ite_map (ite_map (ite_map (ite_map (ite_map (ite_map (ite_map (ite_map (ite_map (ite_map rfl rfl) rfl) rfl) rfl) rfl) rfl) rfl) rfl) rfl) rfl) rfl) rfl) rfl) rfl) (ite_map (ite_map (ite_map (ite_map (ite_map (ite_map (ite_map (ite_map (ite_map rfl rfl) rfl) rfl) rfl) rfl) rfl) rfl) rfl) rfl)) rfl)
theorem Fbo.l4_0.gmap {α β : Type} (h : β → α) (mk0 : LI → LI → β) (n : Nat) : ∀ (m : Nat) (x0 : Int) (x1 : Int) (x2 : LI) (x3 : LI) (x4 : LI), Fbo.l4_0.g (fun a0 a1 => (h (mk0 a0 a1))) n m x0 x1 x2 x3 x4 = (Fbo.l4_0.g mk0 n m x0 x1 x2 x3 x4).map h
  | 0, _, _, _, _, _ => rfl
  | m + 1, x0, x1, x2, x3, x4 => by
    unfold Fbo.l4_0.g
    rw [← Fbo.l4_0.rmap]
    congr
    · funext y0 y1 y2 y3 y4; exact Fbo.l4_0.gmap h mk0 n m y0 y1 y2 y3 y4
theorem Fbo.l4_0.pat_shape : ∀ st t, Fbo.l4_0.pat st = some t → st = Fbo.l4_0.shape t := fun _ _ h => by unfold Fbo.l4_0.pat at h; split at h <;> cases h; rfl
def Fbo.l4_0.k0 : LI → LI → Ex × St := (fun a0 a1 => (((.exit 0), (St.mk [(.ptr 0 []), (.ptr 1 [])] [(some (.var (.ints .u64 4 a0))), (some (.var (.ints .u64 4 a1)))])) : Ex × St))
theorem Fbo.l4_0.round (n : Nat) (rc : St → Option (Ex × St)) (x0 : Int) (x1 : Int) (x2 : LI) (x3 : LI) (x4 : LI) : Fbo.R0 n rc ((St.mk [(.int .i64 x0), (.int .u64 x1), (.ptr 0 []), (.ptr 1 []), (.ptr 2 [])] [(some (.var (.ints .u64 4 x2))), (some (.var (.ints .u64 4 x3))), (some (.var (.ints .u64 4 x4)))])) = Fbo.l4_0.r Fbo.l4_0.k0 n (fun y0 y1 y2 y3 y4 => rc ((St.mk [(.int .i64 y0), (.int .u64 y1), (.ptr 0 []), (.ptr 1 []), (.ptr 2 [])] [(some (.var (.ints .u64 4 y2))), (some (.var (.ints .u64 4 y3))), (some (.var (.ints .u64 4 y4)))]))) x0 x1 x2 x3 x4 := by kernel_rfl
theorem Fbo.l4_0.loop' (n : Nat) : ∀ (m : Nat) (t : (Int × (Int × (LI × (LI × LI))))), loopOf (Fbo.R0 n) m (Fbo.l4_0.shape t) = Fbo.l4_0.g Fbo.l4_0.k0 n m t.1 t.2.1 t.2.2.1 t.2.2.2.1 t.2.2.2.2 :=
  loop_of_round (shape := Fbo.l4_0.shape) (body := Fbo.R0 n) (g := fun m t => Fbo.l4_0.g Fbo.l4_0.k0 n m t.1 t.2.1 t.2.2.1 t.2.2.2.1 t.2.2.2.2) (fun t => rfl)
    fun m t ih => (Fbo.l4_0.round n (loopOf (Fbo.R0 n) m) t.1 t.2.1 t.2.2.1 t.2.2.2.1 t.2.2.2.2).trans (congrFun (congrFun (congrFun (congrFun (congrFun (congrArg (Fbo.l4_0.r Fbo.l4_0.k0 n) (funext fun y0 => funext fun y1 => funext fun y2 => funext fun y3 => funext fun y4 => ih (y0, y1, y2, y3, y4))) t.1) t.2.1) t.2.2.1) t.2.2.2.1) t.2.2.2.2)
theorem Fbo.l4_0.loop (n m : Nat) (t : (Int × (Int × (LI × (LI × LI))))) : loopOf (Fbo.R0 n) m (Fbo.l4_0.shape t) = (Fbo.l4_0.m n m t).map Fbo.l4_0.res :=
  (Fbo.l4_0.loop' n m t).trans (Fbo.l4_0.gmap Fbo.l4_0.res (fun a0 a1 => (a0, a1)) n m t.1 t.2.1 t.2.2.1 t.2.2.2.1 t.2.2.2.2)
theorem Fbo.gmap {α β : Type} (h : β → α) (mk0 : LI → β) (n : Nat) (a0 : LI) (a1 : LI) : Fbo.g (fun a0 => (h (mk0 a0))) n a0 a1 = (Fbo.g mk0 n a0 a1).map h := by
  unfold Fbo.g
  exact (bindO_map fun r2 => (bindO_map fun r4 => rfl))
theorem Fbo.run (n : Nat) (a0 : LI) (a1 : LI) : runF (Fbo.C n) (Fbo.A n) n Tryd.f100 [(.ints .u64 4 a0), (.ints .u64 4 a1)] [] (fun v o => some (v, o)) = Fbo.g (fun a0 => (((.ints .u64 4 a0), []) : AV × Blks)) n a0 a1 := by kernel_rfl
theorem Fbo.call (hmix : Tryd.prog.follows .mixedOrders = true) (n : Nat) (t : (LI × LI)) (u) (h : Fbo.m n t = some u) : FnC Tryd.prog abiG 100 (Fbo.shape t).1 (Fbo.shape t).2 (Fbo.res u).1 (Fbo.res u).2 :=
  fnC1 (C := Fbo.C n) (A := Fbo.A n) (fn := Tryd.f100) rfl (.cons (Fbn.s hmix n) .nil) hmix Tryd.func100 (by kernel_rfl) (lp := [Fbo.b0]) (by kernel_rfl) (.cons (show (Fbo.A n).loop (key Fbo.b0) = some (.mk' Fbo.l4_0.pat (Fbo.l4_0.m n n) Fbo.l4_0.resK) by kernel_rfl) (LoopS.of (res := Fbo.l4_0.res) (fun R u K => rfl) Fbo.l4_0.pat_shape fun t => Fbo.l4_0.loop n n t)
  .nil)
  (nj rfl) (by decide) rfl rfl (by show 2 ≤ Tryd.f100.ntmps; decide) (Fbo.run n t.1 t.2) (Fbo.gmap Fbo.res (fun a0 => a0) n t.1 t.2) h
theorem Fbo.s (hmix : Tryd.prog.follows .mixedOrders = true) (n : Nat) : CalleeS Tryd.prog abiG 100 (Fbo.c n) :=
  .mk1 (res := Fbo.res) (shape := Fbo.shape) (fun R u K => rfl) (fun _ _ _ h => by unfold Fbo.pat at h; split at h <;> cases h; rfl) (fun t u h => Fbo.call hmix n t u h) Tryd.func100 (by decide) (by kernel_rfl)
end
section
noncomputable section
noncomputable def Faz.C (n : Nat) : Ctx := ⟨Tryd.prog, abiG, lookC [(56, Fae.c n)], fun _ => false⟩
noncomputable def Faz.A (n : Nat) : Ann := ⟨Tryd.f63.ntmps, 0, noNL, [], [none], fun k => match k with
 | _ => none, noNL, lookJ []⟩
def Faz.g {α : Type} (mk0 : LI → α) (n : Nat) (a0 : LI) : Option α :=
 bindO (Fae.m n a0) fun r2 =>
  if 12 ≤ (((List.length r2) : Nat) : Int) then
   if 20 ≤ (Go.Abs.span (List.length r2) 12 (Option.none)) then
    some (mk0 (List.take 20 (List.drop 12 r2)))
   else
    none
  else
   none
def Faz.m (n : Nat) (t : LI) : Option LI := Faz.g (fun a0 => a0) n t
def Faz.pat : List AV → Blks → Option LI
 | [(.ints .u64 4 a0)], [] => some a0
 | _, _ => none
def Faz.shape (t : LI) : List AV × Blks := ([(.ints .u64 4 t)], [])
def Faz.res : LI → AV × Blks
 | u => ((.ints .u8 20 u), [])
def Faz.resK {R : Type} (u : LI) (K : AV → Blks → Option R) : Option R := K (Faz.res u).1 (Faz.res u).2
def Faz.c (n : Nat) : Abs.Callee := .mk' [] [none] Faz.pat (Faz.m n) Faz.resK
end
end
section
theorem Faz.gmap {α β : Type} (h : β → α) (mk0 : LI → β) (n : Nat) (a0 : LI) : Faz.g (fun a0 => (h (mk0 a0))) n a0 = (Faz.g mk0 n a0).map h := by
  unfold Faz.g
  exact (bindO_map fun r2 => (ite_map (ite_map rfl rfl) rfl))
theorem Faz.run (n : Nat) (a0 : LI) : runF (Faz.C n) (Faz.A n) n Tryd.f63 [(.ints .u64 4 a0)] [] (fun v o => some (v, o)) = Faz.g (fun a0 => (((.ints .u8 20 a0), []) : AV × Blks)) n a0 := by kernel_rfl
theorem Faz.call (hmix : Tryd.prog.follows .mixedOrders = true) (n : Nat) (t : LI) (u) (h : Faz.m n t = some u) : FnC Tryd.prog abiG 63 (Faz.shape t).1 (Faz.shape t).2 (Faz.res u).1 (Faz.res u).2 :=
  fnC1 (C := Faz.C n) (A := Faz.A n) (fn := Tryd.f63) rfl (.cons (Fae.s hmix n) .nil) hmix Tryd.func63 (by kernel_rfl) (lp := []) (by kernel_rfl) .nil
  (nj rfl) (by decide) rfl rfl (by show 1 ≤ Tryd.f63.ntmps; decide) (Faz.run n t) (Faz.gmap Faz.res (fun a0 => a0) n t) h
theorem Faz.s (hmix : Tryd.prog.follows .mixedOrders = true) (n : Nat) : CalleeS Tryd.prog abiG 63 (Faz.c n) :=
  .mk1 (res := Faz.res) (shape := Faz.shape) (fun R u K => rfl) (fun _ _ _ h => by unfold Faz.pat at h; split at h <;> cases h; rfl) (fun t u h => Faz.call hmix n t u h) Tryd.func63 (by decide) (by kernel_rfl)
end
section
noncomputable section
noncomputable def Fba.C (n : Nat) : Ctx := ⟨Tryd.prog, abiG, lookC [(89, Fau.c n)], fun _ => false⟩
noncomputable def Fba.A (n : Nat) : Ann := ⟨Tryd.f75.ntmps, 0, noNL, [], [none], fun k => match k with
 | _ => none, noNL, lookJ []⟩
def Fba.g {α : Type} (mk0 : LI → α) (n : Nat) (a0 : LI) : Option α :=
 bindO (Fau.m n (List.take 20 (List.drop 0 a0))) fun r2 =>
  some (mk0 r2)
def Fba.m (n : Nat) (t : LI) : Option LI := Fba.g (fun a0 => a0) n t
def Fba.pat : List AV → Blks → Option LI
 | [(.ints .u8 20 a0)], [] => some a0
 | _, _ => none
def Fba.shape (t : LI) : List AV × Blks := ([(.ints .u8 20 t)], [])
def Fba.res : LI → AV × Blks
 | u => ((.ints .u64 4 u), [])
def Fba.resK {R : Type} (u : LI) (K : AV → Blks → Option R) : Option R := K (Fba.res u).1 (Fba.res u).2
def Fba.c (n : Nat) : Abs.Callee := .mk' [] [none] Fba.pat (Fba.m n) Fba.resK
end
end
section
theorem Fba.gmap {α β : Type} (h : β → α) (mk0 : LI → β) (n : Nat) (a0 : LI) : Fba.g (fun a0 => (h (mk0 a0))) n a0 = (Fba.g mk0 n a0).map h := by
  unfold Fba.g
  exact (bindO_map fun r2 => rfl)
theorem Fba.run (n : Nat) (a0 : LI) : runF (Fba.C n) (Fba.A n) n Tryd.f75 [(.ints .u8 20 a0)] [] (fun v o => some (v, o)) = Fba.g (fun a0 => (((.ints .u64 4 a0), []) : AV × Blks)) n a0 := by kernel_rfl
theorem Fba.call (hmix : Tryd.prog.follows .mixedOrders = true) (n : Nat) (t : LI) (u) (h : Fba.m n t = some u) : FnC Tryd.prog abiG 75 (Fba.shape t).1 (Fba.shape t).2 (Fba.res u).1 (Fba.res u).2 :=
  fnC1 (C := Fba.C n) (A := Fba.A n) (fn := Tryd.f75) rfl (.cons (Fau.s hmix n) .nil) hmix Tryd.func75 (by kernel_rfl) (lp := []) (by kernel_rfl) .nil
  (nj rfl) (by decide) rfl rfl (by show 1 ≤ Tryd.f75.ntmps; decide) (Fba.run n t) (Fba.gmap Fba.res (fun a0 => a0) n t) h
theorem Fba.s (hmix : Tryd.prog.follows .mixedOrders = true) (n : Nat) : CalleeS Tryd.prog abiG 75 (Fba.c n) :=
  .mk1 (res := Fba.res) (shape := Fba.shape) (fun R u K => rfl) (fun _ _ _ h => by unfold Fba.pat at h; split at h <;> cases h; rfl) (fun t u h => Fba.call hmix n t u h) Tryd.func75 (by decide) (by kernel_rfl)
end
section
noncomputable section
noncomputable def Fbq.C (n : Nat) : Ctx := ⟨Tryd.prog, abiG, lookC [(65, Fbf.c n)], fun _ => false⟩
def Fbq.live : NL := fun k => match k with
 | 3 => ([4, 3, 1, 2], [3, 2])
 | _ => ([], [])
def Fbq.l3_0.r {α : Type} (mk0 : LI → LI → α) (n : Nat) (rc : Int → LI → LI → LI → Option α)  (x0 : Int) (x1 : LI) (x2 : LI) (x3 : LI) : Option α :=
  if (decide (x0 < 20)) = true then
   if 0 ≤ x0 then
    if x0 < 20 then
     if ((((List.length x1) + 1) * 1) ≤ 70368744177664 ∧ ((List.length x1) + 1) ≤ 9223372036854775807) then
      rc (IntKind.wrap .i64 (x0 + 1)) (x1 ++ [(List.getD x2 (Int.toNat x0) 0)]) x2 x3
     else
      none
    else
     none
   else
    none
  else
   some (mk0 x1 x3)
def Fbq.l3_0.g {α : Type} (mk0 : LI → LI → α) (n : Nat) : Nat → Int → LI → LI → LI → Option α
 | 0, _, _, _, _ => none
 | m + 1, x0, x1, x2, x3 => Fbq.l3_0.r mk0 n (fun y0 y1 y2 y3 => Fbq.l3_0.g mk0 n m y0 y1 y2 y3)  x0 x1 x2 x3
def Fbq.l3_0.m (n m : Nat) (t : (Int × (LI × (LI × LI)))) : Option (LI × LI) := Fbq.l3_0.g (fun a0 a1 => (a0, a1)) n m t.1 t.2.1 t.2.2.1 t.2.2.2
def Fbq.l3_0.pat : St → Option (Int × (LI × (LI × LI)))
 | (St.mk [(.int .i64 x0), (.own 0 1), (.ptr 1 []), (.ptr 2 [])] [(some (.ints .u8 x1)), (some (.var (.ints .u8 20 x2))), (some (.var (.ints .u64 4 x3)))]) => some (x0, x1, x2, x3)
 | _ => none
def Fbq.l3_0.shape (t : (Int × (LI × (LI × LI)))) : St := (St.mk [(.int .i64 t.1), (.own 0 1), (.ptr 1 []), (.ptr 2 [])] [(some (.ints .u8 t.2.1)), (some (.var (.ints .u8 20 t.2.2.1))), (some (.var (.ints .u64 4 t.2.2.2)))])
def Fbq.l3_0.res : (LI × LI) → Ex × St
 | u => ((.exit 0), (St.mk [(.own 0 1), (.ptr 1 [])] [(some (.ints .u8 u.1)), (some (.var (.ints .u64 4 u.2)))]))
def Fbq.l3_0.resK {R : Type} (u : (LI × LI)) (K : Ex → St → Option R) : Option R := K (Fbq.l3_0.res u).1 (Fbq.l3_0.res u).2
noncomputable def Fbq.A (n : Nat) : Ann := ⟨Tryd.f78.ntmps, 0, Fbq.live, [(3, (.ints .u8))], [none], fun k => match k with
 | 3 => some (.mk' Fbq.l3_0.pat (Fbq.l3_0.m n n) Fbq.l3_0.resK)
 | _ => none, noNL, lookJ []⟩
noncomputable def Fbq.b0 : Code := (loopsIn (Tryd.f78.body.getD .skip)).getD 0 .skip
def Fbq.g {α : Type} (mk0 : LI → α) (n : Nat) (a0 : LI) : Option α :=
 bindO (Fbq.l3_0.m n n (0, [], a0, [0, 0, 0, 0])) fun r2 =>
  bindO (Fbf.m n r2.1) fun r4 =>
   some (mk0 r4)
def Fbq.m (n : Nat) (t : LI) : Option LI := Fbq.g (fun a0 => a0) n t
def Fbq.pat : List AV → Blks → Option LI
 | [(.ints .u8 20 a0)], [] => some a0
 | _, _ => none
def Fbq.shape (t : LI) : List AV × Blks := ([(.ints .u8 20 t)], [])
def Fbq.res : LI → AV × Blks
 | u => ((.ints .u64 4 u), [])
def Fbq.resK {R : Type} (u : LI) (K : AV → Blks → Option R) : Option R := K (Fbq.res u).1 (Fbq.res u).2
def Fbq.c (n : Nat) : Abs.Callee := .mk' [] [none] Fbq.pat (Fbq.m n) Fbq.resK
end
end
section
noncomputable abbrev Fbq.R0 (n : Nat) := roundOf (Fbq.C n) (Fbq.A n) n Fbq.b0
theorem Fbq.l3_0.rmap {α β : Type} (h : β → α) (mk0 : LI → LI → β) (n : Nat) (f : Int → LI → LI → LI → Option β)  (x0 : Int) (x1 : LI) (x2 : LI) (x3 : LI) : Fbq.l3_0.r (fun a0 a1 => (h (mk0 a0 a1))) n (fun y0 y1 y2 y3 => (f y0 y1 y2 y3).map h) x0 x1 x2 x3 = (Fbq.l3_0.r mk0 n f x0 x1 x2 x3).map h := by
  unfold Fbq.l3_0.r
  exact (ite_map (ite_map (ite_map (ite_map rfl rfl) rfl) rfl) rfl)
theorem Fbq.l3_0.gmap {α β : Type} (h : β → α) (mk0 : LI → LI → β) (n : Nat) : ∀ (m : Nat) (x0 : Int) (x1 : LI) (x2 : LI) (x3 : LI), Fbq.l3_0.g (fun a0 a1 => (h (mk0 a0 a1))) n m x0 x1 x2 x3 = (Fbq.l3_0.g mk0 n m x0 x1 x2 x3).map h
  | 0, _, _, _, _ => rfl
  | m + 1, x0, x1, x2, x3 => by
    unfold Fbq.l3_0.g
    rw [← Fbq.l3_0.rmap]
    congr
    · funext y0 y1 y2 y3; exact Fbq.l3_0.gmap h mk0 n m y0 y1 y2 y3
theorem Fbq.l3_0.pat_shape : ∀ st t, Fbq.l3_0.pat st = some t → st = Fbq.l3_0.shape t := fun _ _ h => by unfold Fbq.l3_0.pat at h; split at h <;> cases h; rfl
def Fbq.l3_0.k0 : LI → LI → Ex × St := (fun a0 a1 => (((.exit 0), (St.mk [(.own 0 1), (.ptr 1 [])] [(some (.ints .u8 a0)), (some (.var (.ints .u64 4 a1)))])) : Ex × St))
theorem Fbq.l3_0.round (n : Nat) (rc : St → Option (Ex × St)) (x0 : Int) (x1 : LI) (x2 : LI) (x3 : LI) : Fbq.R0 n rc ((St.mk [(.int .i64 x0), (.own 0 1), (.ptr 1 []), (.ptr 2 [])] [(some (.ints .u8 x1)), (some (.var (.ints .u8 20 x2))), (some (.var (.ints .u64 4 x3)))])) = Fbq.l3_0.r Fbq.l3_0.k0 n (fun y0 y1 y2 y3 => rc ((St.mk [(.int .i64 y0), (.own 0 1), (.ptr 1 []), (.ptr 2 [])] [(some (.ints .u8 y1)), (some (.var (.ints .u8 20 y2))), (some (.var (.ints .u64 4 y3)))]))) x0 x1 x2 x3 := by kernel_rfl
theorem Fbq.l3_0.loop' (n : Nat) : ∀ (m : Nat) (t : (Int × (LI × (LI × LI)))), loopOf (Fbq.R0 n) m (Fbq.l3_0.shape t) = Fbq.l3_0.g Fbq.l3_0.k0 n m t.1 t.2.1 t.2.2.1 t.2.2.2 :=
  loop_of_round (shape := Fbq.l3_0.shape) (body := Fbq.R0 n) (g := fun m t => Fbq.l3_0.g Fbq.l3_0.k0 n m t.1 t.2.1 t.2.2.1 t.2.2.2) (fun t => rfl)
    fun m t ih => (Fbq.l3_0.round n (loopOf (Fbq.R0 n) m) t.1 t.2.1 t.2.2.1 t.2.2.2).trans (congrFun (congrFun (congrFun (congrFun (congrArg (Fbq.l3_0.r Fbq.l3_0.k0 n) (funext fun y0 => funext fun y1 => funext fun y2 => funext fun y3 => ih (y0, y1, y2, y3))) t.1) t.2.1) t.2.2.1) t.2.2.2)
theorem Fbq.l3_0.loop (n m : Nat) (t : (Int × (LI × (LI × LI)))) : loopOf (Fbq.R0 n) m (Fbq.l3_0.shape t) = (Fbq.l3_0.m n m t).map Fbq.l3_0.res :=
  (Fbq.l3_0.loop' n m t).trans (Fbq.l3_0.gmap Fbq.l3_0.res (fun a0 a1 => (a0, a1)) n m t.1 t.2.1 t.2.2.1 t.2.2.2)
theorem Fbq.gmap {α β : Type} (h : β → α) (mk0 : LI → β) (n : Nat) (a0 : LI) : Fbq.g (fun a0 => (h (mk0 a0))) n a0 = (Fbq.g mk0 n a0).map h := by
  unfold Fbq.g
  exact (bindO_map fun r2 => (bindO_map fun r4 => rfl))
theorem Fbq.run (n : Nat) (a0 : LI) : runF (Fbq.C n) (Fbq.A n) n Tryd.f78 [(.ints .u8 20 a0)] [] (fun v o => some (v, o)) = Fbq.g (fun a0 => (((.ints .u64 4 a0), []) : AV × Blks)) n a0 := by kernel_rfl
theorem Fbq.call (hmix : Tryd.prog.follows .mixedOrders = true) (n : Nat) (t : LI) (u) (h : Fbq.m n t = some u) : FnC Tryd.prog abiG 78 (Fbq.shape t).1 (Fbq.shape t).2 (Fbq.res u).1 (Fbq.res u).2 :=
  fnC1 (C := Fbq.C n) (A := Fbq.A n) (fn := Tryd.f78) rfl (.cons (Fbf.s hmix n) .nil) hmix Tryd.func78 (by kernel_rfl) (lp := [Fbq.b0]) (by kernel_rfl) (.cons (show (Fbq.A n).loop (key Fbq.b0) = some (.mk' Fbq.l3_0.pat (Fbq.l3_0.m n n) Fbq.l3_0.resK) by kernel_rfl) (LoopS.of (res := Fbq.l3_0.res) (fun R u K => rfl) Fbq.l3_0.pat_shape fun t => Fbq.l3_0.loop n n t)
  .nil)
  (nj rfl) (by decide) rfl rfl (by show 1 ≤ Tryd.f78.ntmps; decide) (Fbq.run n t) (Fbq.gmap Fbq.res (fun a0 => a0) n t) h
theorem Fbq.s (hmix : Tryd.prog.follows .mixedOrders = true) (n : Nat) : CalleeS Tryd.prog abiG 78 (Fbq.c n) :=
  .mk1 (res := Fbq.res) (shape := Fbq.shape) (fun R u K => rfl) (fun _ _ _ h => by unfold Fbq.pat at h; split at h <;> cases h; rfl) (fun t u h => Fbq.call hmix n t u h) Tryd.func78 (by decide) (by kernel_rfl)
end
section
noncomputable section
noncomputable def Fl.C (n : Nat) : Ctx := ⟨Tryd.prog, abiG, lookC [], fun _ => false⟩
noncomputable def Fl.A (n : Nat) : Ann := ⟨Tryd.f19.ntmps, 0, noNL, [], [none], fun k => match k with
 | _ => none, noNL, lookJ []⟩
def Fl.g {α : Type} (mk0 : Bool → α) (n : Nat) (a0 : LI) (a1 : LI) : Option α :=
 some (mk0 ((ByteArray.toList (Go.Abs.strOf a0)) == (ByteArray.toList (Go.Abs.strOf a1))))
def Fl.m (n : Nat) (t : (LI × LI)) : Option Bool := Fl.g (fun a0 => a0) n t.1 t.2
def Fl.pat : List AV → Blks → Option (LI × LI)
 | [(.rints .u8 a0), (.rints .u8 a1)], [] => some (a0, a1)
 | _, _ => none
def Fl.shape (t : (LI × LI)) : List AV × Blks := ([(.rints .u8 t.1), (.rints .u8 t.2)], [])
def Fl.res : Bool → AV × Blks
 | u => ((.bool u), [])
def Fl.resK {R : Type} (u : Bool) (K : AV → Blks → Option R) : Option R := K (Fl.res u).1 (Fl.res u).2
def Fl.c (n : Nat) : Abs.Callee := .mk' [] [(some (.ints .u8)), (some (.ints .u8))] Fl.pat (Fl.m n) Fl.resK
end
end
section
theorem Fl.gmap {α β : Type} (h : β → α) (mk0 : Bool → β) (n : Nat) (a0 : LI) (a1 : LI) : Fl.g (fun a0 => (h (mk0 a0))) n a0 a1 = (Fl.g mk0 n a0 a1).map h := by
  unfold Fl.g
  exact rfl
theorem Fl.run (n : Nat) (a0 : LI) (a1 : LI) : runF (Fl.C n) (Fl.A n) n Tryd.f19 [(.rints .u8 a0), (.rints .u8 a1)] [] (fun v o => some (v, o)) = Fl.g (fun a0 => (((.bool a0), []) : AV × Blks)) n a0 a1 := by kernel_rfl
theorem Fl.call (hmix : Tryd.prog.follows .mixedOrders = true) (n : Nat) (t : (LI × LI)) (u) (h : Fl.m n t = some u) : FnC Tryd.prog abiG 19 (Fl.shape t).1 (Fl.shape t).2 (Fl.res u).1 (Fl.res u).2 :=
  fnC1 (C := Fl.C n) (A := Fl.A n) (fn := Tryd.f19) rfl .nil hmix Tryd.func19 (by kernel_rfl) (lp := []) (by kernel_rfl) .nil
  (nj rfl) (by decide) rfl rfl (by show 2 ≤ Tryd.f19.ntmps; decide) (Fl.run n t.1 t.2) (Fl.gmap Fl.res (fun a0 => a0) n t.1 t.2) h
theorem Fl.s (hmix : Tryd.prog.follows .mixedOrders = true) (n : Nat) : CalleeS Tryd.prog abiG 19 (Fl.c n) :=
  .mk1 (res := Fl.res) (shape := Fl.shape) (fun R u K => rfl) (fun _ _ _ h => by unfold Fl.pat at h; split at h <;> cases h; rfl) (fun t u h => Fl.call hmix n t u h) Tryd.func19 (by decide) (by kernel_rfl)
end
section
noncomputable section
noncomputable def Fx.C (n : Nat) : Ctx := ⟨Tryd.prog, abiG, lookC [(69, Faw.c n), (56, Fae.c n)], fun _ => false⟩
noncomputable def Fx.A (n : Nat) : Ann := ⟨Tryd.f73.ntmps, 0, noNL, [], [(some (.ints .u8))], fun k => match k with
 | _ => none, noNL, lookJ []⟩
def Fx.g {α : Type} (mk0 : LI → α) (n : Nat) (a0 : Int) : Option α :=
 bindO (Faw.m n a0) fun r2 =>
  bindO (Fae.m n r2) fun r4 =>
   if 16 ≤ (((List.length r4) : Nat) : Int) then
    some (mk0 (Go.Abs.partL r4 16 (Go.Abs.span (List.length r4) 16 (Option.none))))
   else
    none
def Fx.m (n : Nat) (t : Int) : Option LI := Fx.g (fun a0 => a0) n t
def Fx.pat : List AV → Blks → Option Int
 | [(.int .u64 a0)], [] => some a0
 | _, _ => none
def Fx.shape (t : Int) : List AV × Blks := ([(.int .u64 t)], [])
def Fx.res : LI → AV × Blks
 | u => ((.own 0 1), [(some (.ints .u8 u))])
def Fx.resK {R : Type} (u : LI) (K : AV → Blks → Option R) : Option R := K (Fx.res u).1 (Fx.res u).2
def Fx.c (n : Nat) : Abs.Callee := .mk' [] [none] Fx.pat (Fx.m n) Fx.resK
end
end
section
noncomputable section
noncomputable def Fm.C (n : Nat) : Ctx := ⟨Tryd.prog, abiG, lookC [(69, Faw.c n), (100, Fbo.c n), (85, Fbk.c n)], fun _ => false⟩
noncomputable def Fm.A (n : Nat) : Ann := ⟨Tryd.f74.ntmps, 0, noNL, [], [none], fun k => match k with
 | _ => none, noNL, lookJ []⟩
def Fm.g {α : Type} (mk0 : LI → α) (n : Nat) (a0 : LI) (a1 : LI) : Option α :=
 bindO (Faw.m n 128) fun r2 =>
  bindO (Fbo.m n (r2, a0)) fun r4 =>
   bindO (Fbk.m n (r4, a1)) fun r6 =>
    some (mk0 r6.1)
def Fm.m (n : Nat) (t : (LI × LI)) : Option LI := Fm.g (fun a0 => a0) n t.1 t.2
def Fm.pat : List AV → Blks → Option (LI × LI)
 | [(.ints .u64 4 a0), (.ints .u64 4 a1)], [] => some (a0, a1)
 | _, _ => none
def Fm.shape (t : (LI × LI)) : List AV × Blks := ([(.ints .u64 4 t.1), (.ints .u64 4 t.2)], [])
def Fm.res : LI → AV × Blks
 | u => ((.ints .u64 4 u), [])
def Fm.resK {R : Type} (u : LI) (K : AV → Blks → Option R) : Option R := K (Fm.res u).1 (Fm.res u).2
def Fm.c (n : Nat) : Abs.Callee := .mk' [] [none, none] Fm.pat (Fm.m n) Fm.resK
end
end
section
noncomputable section
noncomputable def Fy.C (n : Nat) : Ctx := ⟨Tryd.prog, abiG, lookC [], fun _ => false⟩
noncomputable def Fy.A (n : Nat) : Ann := ⟨Tryd.f68.ntmps, 0, noNL, [], [none], fun k => match k with
 | _ => none, noNL, lookJ []⟩
def Fy.g {α : Type} (mk0 : Bool → LI → α) (n : Nat) (a0 : LI) : Option α :=
 some (mk0 false a0)
def Fy.m (n : Nat) (t : LI) : Option (Bool × LI) := Fy.g (fun a0 a1 => (a0, a1)) n t
def Fy.pat : List AV → Blks → Option LI
 | [(.ints .u64 4 a0)], [] => some a0
 | _, _ => none
def Fy.shape (t : LI) : List AV × Blks := ([(.ints .u64 4 t)], [])
def Fy.res : (Bool × LI) → AV × Blks
 | u => ((.agg [(.bool u.1), (.ints .u64 4 u.2), .snil]), [])
def Fy.resK {R : Type} (u : (Bool × LI)) (K : AV → Blks → Option R) : Option R := K (Fy.res u).1 (Fy.res u).2
def Fy.c (n : Nat) : Abs.Callee := .mk' [] [none] Fy.pat (Fy.m n) Fy.resK
end
end
