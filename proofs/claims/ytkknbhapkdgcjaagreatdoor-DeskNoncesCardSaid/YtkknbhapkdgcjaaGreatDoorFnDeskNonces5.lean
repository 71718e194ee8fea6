/- What the program's functions compute, as plain functions, each with its proof: the function does just that. Condition: the plain function has an answer. -/
import Derived.Test.YtkknbhapkdgcjaaGreatDoorFnDeskNonces3
import Derived.Test.YtkknbhapkdgcjaaGreatDoorFnDeskNonces4
set_option linter.unusedVariables false
set_option linter.unusedSimpArgs false
set_option maxRecDepth 100000
open Go Go.Abs Go.Proofs
set_option autoImplicit true
set_option relaxedAutoImplicit true
noncomputable section
noncomputable abbrev Fbm.R0 (n : Nat) := roundOf (Fbm.C n) (Fbm.A n) n Fbm.b0
noncomputable abbrev Fbm.R1 (n : Nat) := roundOf (Fbm.C n) (Fbm.A n) n Fbm.b1
noncomputable abbrev Fbm.R2 (n : Nat) := roundOf (Fbm.C n) (Fbm.A n) n Fbm.b2
noncomputable abbrev Fbm.R3 (n : Nat) := roundOf (Fbm.C n) (Fbm.A n) n Fbm.b3
noncomputable abbrev Fbm.R4 (n : Nat) := roundOf (Fbm.C n) (Fbm.A n) n Fbm.b4
noncomputable abbrev Fbm.R5 (n : Nat) := roundOf (Fbm.C n) (Fbm.A n) n Fbm.b5
def Fbm.l6_0.T {α : Type} (mk0 : LI → LI → LI → Int → LI → α) (n : Nat) (f : (Int × (LI × (LI × (LI × (Int × LI))))) → Option α) (t : (Int × (LI × (LI × (LI × (Int × LI)))))) : Option α := Fbm.l6_0.r mk0 n (fun y0 y1 y2 y3 y4 y5 => f (y0, y1, y2, y3, y4, y5)) t.1 t.2.1 t.2.2.1 t.2.2.2.1 t.w.1 t.w.2
theorem Fbm.l6_0.rmap : (Fbm.l6_0.T (fun a0 a1 a2 a3 a4 => (a0, a1, a2, a3, a4)) n f t).map Fbm.l6_0.res = Fbm.l6_0.T (fun a0 a1 a2 a3 a4 => Fbm.l6_0.res (a0, a1, a2, a3, a4)) n (fun y => (f y).map Fbm.l6_0.res) t := by
  unfold Fbm.l6_0.T Fbm.l6_0.r
  exact Eq.symm (ite_map (ite_map (ite_map (ite_map (ite_map (ite_map (ite_map (ite_map (ite_map (ite_map (ite_map (ite_map rfl rfl) rfl) rfl) rfl) rfl) rfl) rfl) rfl) rfl) rfl) rfl) rfl)
theorem Fbm.l6_0.pat_shape : ∀ st t, Fbm.l6_0.pat st = some t → st = Fbm.l6_0.shape t := fun _ _ h => by unfold Fbm.l6_0.pat at h; split at h <;> cases h; rfl
theorem Fbm.l6_0.round : Fbm.R1 n rc (Fbm.l6_0.shape t) = Fbm.l6_0.T (fun a0 a1 a2 a3 a4 => Fbm.l6_0.res (a0, a1, a2, a3, a4)) n (fun y => rc (Fbm.l6_0.shape y)) t := by kernel_rfl
theorem Fbm.l6_0.loop (n m : Nat) (t : (Int × (LI × (LI × (LI × (Int × LI)))))) : loopOf (Fbm.R1 n) m (Fbm.l6_0.shape t) = (Fbm.l6_0.m n m t).map Fbm.l6_0.res :=
  loop_map (fun _ _ => Fbm.l6_0.rmap) (fun _ _ => Fbm.l6_0.round) (fun _ => rfl) (fun _ _ => by kernel_rfl) m t
def Fbm.l15_0.T {α : Type} (mk0 : Int → LI → LI → LI → Int → LI → LI → α) (n : Nat) (f : Ty16 → Option α) (t : Ty16) : Option α := Fbm.l15_0.r mk0 n (fun y0 y1 y2 y3 y4 y5 y6 y7 y8 => f (y0, y1, y2, y3, y4, y5, y6, y7, y8)) t.1 t.2.1 t.2.2.1 t.2.2.2.1 t.w.1 t.w.2.1 t.w.2.2.1 t.w.2.2.2.1 t.x
theorem Fbm.l15_0.rmap : (Fbm.l15_0.T (fun a0 a1 a2 a3 a4 a5 a6 => (a0, a1, a2, a3, a4, a5, a6)) n f t).map Fbm.l15_0.res = Fbm.l15_0.T (fun a0 a1 a2 a3 a4 a5 a6 => Fbm.l15_0.res (a0, a1, a2, a3, a4, a5, a6)) n (fun y => (f y).map Fbm.l15_0.res) t := by
  unfold Fbm.l15_0.T Fbm.l15_0.r
  exact Eq.symm (ite_map (ite_map (ite_map (ite_map (ite_map (bindO_map fun r14 => (ite_map (ite_map rfl rfl) rfl)) rfl) rfl) rfl) rfl) rfl)
theorem Fbm.l15_0.pat_shape : ∀ st t, Fbm.l15_0.pat st = some t → st = Fbm.l15_0.shape t := fun _ _ h => by unfold Fbm.l15_0.pat at h; split at h <;> cases h; rfl
theorem Fbm.l15_0.round : Fbm.R3 n rc (Fbm.l15_0.shape t) = Fbm.l15_0.T (fun a0 a1 a2 a3 a4 a5 a6 => Fbm.l15_0.res (a0, a1, a2, a3, a4, a5, a6)) n (fun y => rc (Fbm.l15_0.shape y)) t := by kernel_rfl
theorem Fbm.l15_0.loop (n m : Nat) (t : Ty16) : loopOf (Fbm.R3 n) m (Fbm.l15_0.shape t) = (Fbm.l15_0.m n m t).map Fbm.l15_0.res :=
  loop_map (fun _ _ => Fbm.l15_0.rmap) (fun _ _ => Fbm.l15_0.round) (fun _ => rfl) (fun _ _ => by kernel_rfl) m t
theorem Fbm.l11_0.rmap {α β : Type} (h : β → α) (mk0 : LI → Int → LI → LI → β) (n : Nat) (f : Int → LI → LI → LI → Int → LI → LI → Option β)  (x0 : Int) (x1 x2 x3 : LI) (x4 : Int) (x5 x6 : LI) : Fbm.l11_0.r (fun a0 a1 a2 a3 => (h (mk0 a0 a1 a2 a3))) n (fun y0 y1 y2 y3 y4 y5 y6 => (f y0 y1 y2 y3 y4 y5 y6).map h) x0 x1 x2 x3 x4 x5 x6 = (Fbm.l11_0.r mk0 n f x0 x1 x2 x3 x4 x5 x6).map h := by
  unfold Fbm.l11_0.r
  exact (ite_map (ite_map (ite_map (ite_map (ite_map (bindO_map fun r14 => (bindO_map fun r16 => rfl)) rfl) rfl) rfl) rfl) rfl)
theorem Fbm.l11_0.gmap {α β : Type} (h : β → α) (mk0 : LI → Int → LI → LI → β) (n : Nat) : ∀ (m : Nat) (x0 : Int) (x1 x2 x3 : LI) (x4 : Int) (x5 x6 : LI), Fbm.l11_0.g (fun a0 a1 a2 a3 => (h (mk0 a0 a1 a2 a3))) n m x0 x1 x2 x3 x4 x5 x6 = (Fbm.l11_0.g mk0 n m x0 x1 x2 x3 x4 x5 x6).map h
  | 0, _, _, _, _, _, _, _ => rfl
  | m + 1, x0, x1, x2, x3, x4, x5, x6 => by
    unfold Fbm.l11_0.g
    rw [← Fbm.l11_0.rmap]
    congr
    · funext y0 y1 y2 y3 y4 y5 y6; exact Fbm.l11_0.gmap h mk0 n m y0 y1 y2 y3 y4 y5 y6
theorem Fbm.l11_0.pat_shape : ∀ st t, Fbm.l11_0.pat st = some t → st = Fbm.l11_0.shape t := fun _ _ h => by unfold Fbm.l11_0.pat at h; split at h <;> cases h; rfl
def Fbm.l11_0.k0 : LI → Int → LI → LI → Ex × St := (fun a0 a1 a2 a3 => (((.exit 4), (St.mk [(.own 0 1), (.rints .u64 a0), (.int .i64 a1), (.rints .i64 a2)] [(some (.ints .u64 a3))])) : Ex × St))
theorem Fbm.l11_0.round (n : Nat) (rc : St → Option (Ex × St)) (x0 : Int) (x1 x2 x3 : LI) (x4 : Int) (x5 x6 : LI) : Fbm.R2 n rc ((St.mk [(.int .i64 x0), (.own 0 1), (.own 1 1), (.rints .u64 x1), (.rints .i64 x2), (.rints .u64 x3), (.int .i64 x4)] [(some (.ints .u64 x5)), (some (.ints .u64 x6))])) = Fbm.l11_0.r Fbm.l11_0.k0 n (fun y0 y1 y2 y3 y4 y5 y6 => rc ((St.mk [(.int .i64 y0), (.own 0 1), (.own 1 1), (.rints .u64 y1), (.rints .i64 y2), (.rints .u64 y3), (.int .i64 y4)] [(some (.ints .u64 y5)), (some (.ints .u64 y6))]))) x0 x1 x2 x3 x4 x5 x6 := by kernel_rfl
theorem Fbm.l11_0.loop' (n : Nat) : ∀ (m : Nat) (t : Ty26), loopOf (Fbm.R2 n) m (Fbm.l11_0.shape t) = Fbm.l11_0.g Fbm.l11_0.k0 n m t.1 t.2.1 t.2.2.1 t.2.2.2.1 t.w.1 t.w.2.1 t.w.2.2 :=
  loop_of_round (shape := Fbm.l11_0.shape) (body := Fbm.R2 n) (g := fun m t => Fbm.l11_0.g Fbm.l11_0.k0 n m t.1 t.2.1 t.2.2.1 t.2.2.2.1 t.w.1 t.w.2.1 t.w.2.2) (fun t => rfl)
    fun m t ih => (Fbm.l11_0.round n (loopOf (Fbm.R2 n) m) t.1 t.2.1 t.2.2.1 t.2.2.2.1 t.w.1 t.w.2.1 t.w.2.2).trans (congrFun (congrFun (congrFun (congrFun (congrFun (congrFun (congrFun (congrArg (Fbm.l11_0.r Fbm.l11_0.k0 n) (funext fun y0 => funext fun y1 => funext fun y2 => funext fun y3 => funext fun y4 => funext fun y5 => funext fun y6 => ih (y0, y1, y2, y3, y4, y5, y6))) t.1) t.2.1) t.2.2.1) t.2.2.2.1) t.w.1) t.w.2.1) t.w.2.2)
theorem Fbm.l11_0.loop (n m : Nat) (t : Ty26) : loopOf (Fbm.R2 n) m (Fbm.l11_0.shape t) = (Fbm.l11_0.m n m t).map Fbm.l11_0.res :=
  (Fbm.l11_0.loop' n m t).trans (Fbm.l11_0.gmap Fbm.l11_0.res (fun a0 a1 a2 a3 => (a0, a1, a2, a3)) n m t.1 t.2.1 t.2.2.1 t.2.2.2.1 t.w.1 t.w.2.1 t.w.2.2)
def Fbm.l23_0.T {α : Type} (mk0 : Int → LI → Int → LI → LI → LI → α) (n : Nat) (f : Ty24 → Option α) (t : Ty24) : Option α := Fbm.l23_0.r mk0 n (fun y0 y1 y2 y3 y4 y5 y6 => f (y0, y1, y2, y3, y4, y5, y6)) t.1 t.2.1 t.2.2.1 t.2.2.2.1 t.w.1 t.w.2.1 t.w.2.2
theorem Fbm.l23_0.rmap : (Fbm.l23_0.T (fun a0 a1 a2 a3 a4 a5 => (a0, a1, a2, a3, a4, a5)) n f t).map Fbm.l23_0.res = Fbm.l23_0.T (fun a0 a1 a2 a3 a4 a5 => Fbm.l23_0.res (a0, a1, a2, a3, a4, a5)) n (fun y => (f y).map Fbm.l23_0.res) t := by
  unfold Fbm.l23_0.T Fbm.l23_0.r
  exact Eq.symm (ite_map (ite_map (ite_map (ite_map (ite_map (ite_map (ite_map (ite_map rfl rfl) rfl) rfl) rfl) rfl) rfl) rfl) rfl)
theorem Fbm.l23_0.pat_shape : ∀ st t, Fbm.l23_0.pat st = some t → st = Fbm.l23_0.shape t := fun _ _ h => by unfold Fbm.l23_0.pat at h; split at h <;> cases h; rfl
theorem Fbm.l23_0.round : Fbm.R5 n rc (Fbm.l23_0.shape t) = Fbm.l23_0.T (fun a0 a1 a2 a3 a4 a5 => Fbm.l23_0.res (a0, a1, a2, a3, a4, a5)) n (fun y => rc (Fbm.l23_0.shape y)) t := by kernel_rfl
theorem Fbm.l23_0.loop (n m : Nat) (t : Ty24) : loopOf (Fbm.R5 n) m (Fbm.l23_0.shape t) = (Fbm.l23_0.m n m t).map Fbm.l23_0.res :=
  loop_map (fun _ _ => Fbm.l23_0.rmap) (fun _ _ => Fbm.l23_0.round) (fun _ => rfl) (fun _ _ => by kernel_rfl) m t
def Fbm.l20_0.T {α : Type} (mk0 : LI → Int → LI → LI → α) (n : Nat) (f : (Int × (LI × (Int × (LI × (LI × LI))))) → Option α) (t : (Int × (LI × (Int × (LI × (LI × LI)))))) : Option α := Fbm.l20_0.r mk0 n (fun y0 y1 y2 y3 y4 y5 => f (y0, y1, y2, y3, y4, y5)) t.1 t.2.1 t.2.2.1 t.2.2.2.1 t.w.1 t.w.2
theorem Fbm.l20_0.rmap : (Fbm.l20_0.T (fun a0 a1 a2 a3 => (a0, a1, a2, a3)) n f t).map Fbm.l20_0.res = Fbm.l20_0.T (fun a0 a1 a2 a3 => Fbm.l20_0.res (a0, a1, a2, a3)) n (fun y => (f y).map Fbm.l20_0.res) t := by
  unfold Fbm.l20_0.T Fbm.l20_0.r
  exact Eq.symm (ite_map (bindO_map fun r6 => rfl) rfl)
theorem Fbm.l20_0.pat_shape : ∀ st t, Fbm.l20_0.pat st = some t → st = Fbm.l20_0.shape t := fun _ _ h => by unfold Fbm.l20_0.pat at h; split at h <;> cases h; rfl
theorem Fbm.l20_0.round : Fbm.R4 n rc (Fbm.l20_0.shape t) = Fbm.l20_0.T (fun a0 a1 a2 a3 => Fbm.l20_0.res (a0, a1, a2, a3)) n (fun y => rc (Fbm.l20_0.shape y)) t := by kernel_rfl
theorem Fbm.l20_0.loop (n m : Nat) (t : (Int × (LI × (Int × (LI × (LI × LI)))))) : loopOf (Fbm.R4 n) m (Fbm.l20_0.shape t) = (Fbm.l20_0.m n m t).map Fbm.l20_0.res :=
  loop_map (fun _ _ => Fbm.l20_0.rmap) (fun _ _ => Fbm.l20_0.round) (fun _ => rfl) (fun _ _ => by kernel_rfl) m t
def Fbm.l6v1_0.T {α : Type} (mk0 : LI → LI → Int → LI → LI → α) (n : Nat) (f : (Int × (LI × (LI × (Int × (LI × LI))))) → Option α) (t : (Int × (LI × (LI × (Int × (LI × LI)))))) : Option α := Fbm.l6v1_0.r mk0 n (fun y0 y1 y2 y3 y4 y5 => f (y0, y1, y2, y3, y4, y5)) t.1 t.2.1 t.2.2.1 t.2.2.2.1 t.w.1 t.w.2
theorem Fbm.l6v1_0.rmap : (Fbm.l6v1_0.T (fun a0 a1 a2 a3 a4 => (a0, a1, a2, a3, a4)) n f t).map Fbm.l6v1_0.res = Fbm.l6v1_0.T (fun a0 a1 a2 a3 a4 => Fbm.l6v1_0.res (a0, a1, a2, a3, a4)) n (fun y => (f y).map Fbm.l6v1_0.res) t := by
  unfold Fbm.l6v1_0.T Fbm.l6v1_0.r
  exact Eq.symm (ite_map (ite_map (ite_map (ite_map (ite_map (ite_map (ite_map (ite_map (ite_map (ite_map (ite_map (ite_map rfl rfl) rfl) rfl) rfl) rfl) rfl) rfl) rfl) rfl) rfl) rfl) rfl)
theorem Fbm.l6v1_0.pat_shape : ∀ st t, Fbm.l6v1_0.pat st = some t → st = Fbm.l6v1_0.shape t := fun _ _ h => by unfold Fbm.l6v1_0.pat at h; split at h <;> cases h; rfl
theorem Fbm.l6v1_0.round : Fbm.R1 n rc (Fbm.l6v1_0.shape t) = Fbm.l6v1_0.T (fun a0 a1 a2 a3 a4 => Fbm.l6v1_0.res (a0, a1, a2, a3, a4)) n (fun y => rc (Fbm.l6v1_0.shape y)) t := by kernel_rfl
theorem Fbm.l6v1_0.loop (n m : Nat) (t : (Int × (LI × (LI × (Int × (LI × LI)))))) : loopOf (Fbm.R1 n) m (Fbm.l6v1_0.shape t) = (Fbm.l6v1_0.m n m t).map Fbm.l6v1_0.res :=
  loop_map (fun _ _ => Fbm.l6v1_0.rmap) (fun _ _ => Fbm.l6v1_0.round) (fun _ => rfl) (fun _ _ => by kernel_rfl) m t
def Fbm.l15v1_0.T {α : Type} (mk0 : Int → LI → LI → Int → LI → LI → LI → α) (n : Nat) (f : Ty17 → Option α) (t : Ty17) : Option α := Fbm.l15v1_0.r mk0 n (fun y0 y1 y2 y3 y4 y5 y6 y7 y8 => f (y0, y1, y2, y3, y4, y5, y6, y7, y8)) t.1 t.2.1 t.2.2.1 t.2.2.2.1 t.w.1 t.w.2.1 t.w.2.2.1 t.w.2.2.2.1 t.x
theorem Fbm.l15v1_0.rmap : (Fbm.l15v1_0.T (fun a0 a1 a2 a3 a4 a5 a6 => (a0, a1, a2, a3, a4, a5, a6)) n f t).map Fbm.l15v1_0.res = Fbm.l15v1_0.T (fun a0 a1 a2 a3 a4 a5 a6 => Fbm.l15v1_0.res (a0, a1, a2, a3, a4, a5, a6)) n (fun y => (f y).map Fbm.l15v1_0.res) t := by
  unfold Fbm.l15v1_0.T Fbm.l15v1_0.r
  exact Eq.symm (ite_map (ite_map (ite_map (ite_map (ite_map (bindO_map fun r14 => (ite_map (ite_map rfl rfl) rfl)) rfl) rfl) rfl) rfl) rfl)
theorem Fbm.l15v1_0.pat_shape : ∀ st t, Fbm.l15v1_0.pat st = some t → st = Fbm.l15v1_0.shape t := fun _ _ h => by unfold Fbm.l15v1_0.pat at h; split at h <;> cases h; rfl
theorem Fbm.l15v1_0.round : Fbm.R3 n rc (Fbm.l15v1_0.shape t) = Fbm.l15v1_0.T (fun a0 a1 a2 a3 a4 a5 a6 => Fbm.l15v1_0.res (a0, a1, a2, a3, a4, a5, a6)) n (fun y => rc (Fbm.l15v1_0.shape y)) t := by kernel_rfl
theorem Fbm.l15v1_0.loop (n m : Nat) (t : Ty17) : loopOf (Fbm.R3 n) m (Fbm.l15v1_0.shape t) = (Fbm.l15v1_0.m n m t).map Fbm.l15v1_0.res :=
  loop_map (fun _ _ => Fbm.l15v1_0.rmap) (fun _ _ => Fbm.l15v1_0.round) (fun _ => rfl) (fun _ _ => by kernel_rfl) m t
def Fbm.l11v1_0.T {α : Type} (mk0 : LI → Int → LI → LI → α) (n : Nat) (f : Ty27 → Option α) (t : Ty27) : Option α := Fbm.l11v1_0.r mk0 n (fun y0 y1 y2 y3 y4 y5 y6 => f (y0, y1, y2, y3, y4, y5, y6)) t.1 t.2.1 t.2.2.1 t.2.2.2.1 t.w.1 t.w.2.1 t.w.2.2
theorem Fbm.l11v1_0.rmap : (Fbm.l11v1_0.T (fun a0 a1 a2 a3 => (a0, a1, a2, a3)) n f t).map Fbm.l11v1_0.res = Fbm.l11v1_0.T (fun a0 a1 a2 a3 => Fbm.l11v1_0.res (a0, a1, a2, a3)) n (fun y => (f y).map Fbm.l11v1_0.res) t := by
  unfold Fbm.l11v1_0.T Fbm.l11v1_0.r
  exact Eq.symm (ite_map (ite_map (ite_map (ite_map (ite_map (bindO_map fun r14 => (bindO_map fun r16 => rfl)) rfl) rfl) rfl) rfl) rfl)
theorem Fbm.l11v1_0.pat_shape : ∀ st t, Fbm.l11v1_0.pat st = some t → st = Fbm.l11v1_0.shape t := fun _ _ h => by unfold Fbm.l11v1_0.pat at h; split at h <;> cases h; rfl
theorem Fbm.l11v1_0.round : Fbm.R2 n rc (Fbm.l11v1_0.shape t) = Fbm.l11v1_0.T (fun a0 a1 a2 a3 => Fbm.l11v1_0.res (a0, a1, a2, a3)) n (fun y => rc (Fbm.l11v1_0.shape y)) t := by kernel_rfl
theorem Fbm.l11v1_0.loop (n m : Nat) (t : Ty27) : loopOf (Fbm.R2 n) m (Fbm.l11v1_0.shape t) = (Fbm.l11v1_0.m n m t).map Fbm.l11v1_0.res :=
  loop_map (fun _ _ => Fbm.l11v1_0.rmap) (fun _ _ => Fbm.l11v1_0.round) (fun _ => rfl) (fun _ _ => by kernel_rfl) m t
theorem Fbm.l2_1.rmap {α β : Type} (h : β → α) (mk0 : LI → β) (mk1 : LI → β) (n : Nat) (f : Int → LI → LI → LI → Option β)  (x0 : Int) (x1 x2 x3 : LI) : Fbm.l2_1.r (fun a0 => (h (mk0 a0))) (fun a0 => (h (mk1 a0))) n (fun y0 y1 y2 y3 => (f y0 y1 y2 y3).map h) x0 x1 x2 x3 = (Fbm.l2_1.r mk0 mk1 n f x0 x1 x2 x3).map h := by
  unfold Fbm.l2_1.r
  exact (ite_map (bindO_map fun r6 => (bindO_map fun r8 => (bindO_map fun r10 => (ite_map (ite_map (ite_map (ite_map rfl rfl) rfl) rfl) rfl)))) rfl)
theorem Fbm.l2_1.gmap {α β : Type} (h : β → α) (mk0 : LI → β) (mk1 : LI → β) (n : Nat) : ∀ (m : Nat) (x0 : Int) (x1 x2 x3 : LI), Fbm.l2_1.g (fun a0 => (h (mk0 a0))) (fun a0 => (h (mk1 a0))) n m x0 x1 x2 x3 = (Fbm.l2_1.g mk0 mk1 n m x0 x1 x2 x3).map h
  | 0, _, _, _, _ => rfl
  | m + 1, x0, x1, x2, x3 => by
    unfold Fbm.l2_1.g
    rw [← Fbm.l2_1.rmap]
    congr
    · funext y0 y1 y2 y3; exact Fbm.l2_1.gmap h mk0 mk1 n m y0 y1 y2 y3
def Fbm.l2_1.k0 : LI → Ex × St := (fun a0 => (((.exit 0), (St.mk [(.own 0 1)] [(some (.ints .u64 a0))])) : Ex × St))
def Fbm.l2_1.k1 : LI → Ex × St := (fun a0 => (((.exit 0), (St.mk [(.rints .u64 a0)] [])) : Ex × St))
theorem Fbm.l2_1.round (n : Nat) (rc : St → Option (Ex × St)) (x0 : Int) (x1 x2 x3 : LI) : Fbm.R0 n rc ((St.mk [(.int .i64 x0), (.own 0 1), (.rints .i64 x1), (.rints .u64 x2)] [(some (.ints .u64 x3))])) = Fbm.l2_1.r Fbm.l2_1.k0 Fbm.l2_1.k1 n (fun y0 y1 y2 y3 => rc ((St.mk [(.int .i64 y0), (.own 0 1), (.rints .i64 y1), (.rints .u64 y2)] [(some (.ints .u64 y3))]))) x0 x1 x2 x3 := by kernel_rfl
theorem Fbm.l2_1.loop' (n : Nat) : ∀ (m : Nat) (t : (Int × (LI × (LI × LI)))), loopOf (Fbm.R0 n) m (Fbm.l2_1.shape t) = Fbm.l2_1.g Fbm.l2_1.k0 Fbm.l2_1.k1 n m t.1 t.2.1 t.2.2.1 t.2.2.2 :=
  loop_of_round (shape := Fbm.l2_1.shape) (body := Fbm.R0 n) (g := fun m t => Fbm.l2_1.g Fbm.l2_1.k0 Fbm.l2_1.k1 n m t.1 t.2.1 t.2.2.1 t.2.2.2) (fun t => rfl)
    fun m t ih => (Fbm.l2_1.round n (loopOf (Fbm.R0 n) m) t.1 t.2.1 t.2.2.1 t.2.2.2).trans (congrFun (congrFun (congrFun (congrFun (congrArg (Fbm.l2_1.r Fbm.l2_1.k0 Fbm.l2_1.k1 n) (funext fun y0 => funext fun y1 => funext fun y2 => funext fun y3 => ih (y0, y1, y2, y3))) t.1) t.2.1) t.2.2.1) t.2.2.2)
theorem Fbm.l2_0.rmap {α β : Type} (h : β → α) (mk0 : LI → β) (mk1 : LI → β) (n : Nat) (f : Int → LI → LI → LI → Option β) (f0 : Int → LI → LI → LI → Option β) (x0 : Int) (x1 x2 x3 : LI) : Fbm.l2_0.r (fun a0 => (h (mk0 a0))) (fun a0 => (h (mk1 a0))) n (fun y0 y1 y2 y3 => (f y0 y1 y2 y3).map h) (fun y0 y1 y2 y3 => (f0 y0 y1 y2 y3).map h) x0 x1 x2 x3 = (Fbm.l2_0.r mk0 mk1 n f f0 x0 x1 x2 x3).map h := by
  unfold Fbm.l2_0.r
  exact (ite_map (bindO_map fun r6 => (bindO_map fun r8 => (bindO_map fun r10 => (ite_map (ite_map (ite_map (ite_map rfl rfl) rfl) rfl) rfl)))) rfl)
theorem Fbm.l2_0.gmap {α β : Type} (h : β → α) (mk0 : LI → β) (mk1 : LI → β) (n : Nat) : ∀ (m : Nat) (x0 : Int) (x1 x2 x3 : LI), Fbm.l2_0.g (fun a0 => (h (mk0 a0))) (fun a0 => (h (mk1 a0))) n m x0 x1 x2 x3 = (Fbm.l2_0.g mk0 mk1 n m x0 x1 x2 x3).map h
  | 0, _, _, _, _ => rfl
  | m + 1, x0, x1, x2, x3 => by
    unfold Fbm.l2_0.g
    rw [← Fbm.l2_0.rmap]
    congr
    · funext y0 y1 y2 y3; exact Fbm.l2_0.gmap h mk0 mk1 n m y0 y1 y2 y3
    · funext y0 y1 y2 y3; exact Fbm.l2_1.gmap h mk0 mk1 n m y0 y1 y2 y3
theorem Fbm.l2_0.pat_shape : ∀ st t, Fbm.l2_0.pat st = some t → st = Fbm.l2_0.shape t := fun _ _ h => by unfold Fbm.l2_0.pat at h; split at h <;> cases h; rfl
theorem Fbm.l2_0.round (n : Nat) (rc : St → Option (Ex × St)) (x0 : Int) (x1 x2 x3 : LI) : Fbm.R0 n rc ((St.mk [(.int .i64 x0), (.rints .u64 x1), (.rints .i64 x2), (.rints .u64 x3)] [])) = Fbm.l2_0.r Fbm.l2_1.k0 Fbm.l2_1.k1 n (fun y0 y1 y2 y3 => rc ((St.mk [(.int .i64 y0), (.rints .u64 y1), (.rints .i64 y2), (.rints .u64 y3)] []))) (fun y0 y1 y2 y3 => rc ((St.mk [(.int .i64 y0), (.own 0 1), (.rints .i64 y1), (.rints .u64 y2)] [(some (.ints .u64 y3))]))) x0 x1 x2 x3 := by kernel_rfl
theorem Fbm.l2_0.loop' (n : Nat) : ∀ (m : Nat) (t : (Int × (LI × (LI × LI)))), loopOf (Fbm.R0 n) m (Fbm.l2_0.shape t) = Fbm.l2_0.g Fbm.l2_1.k0 Fbm.l2_1.k1 n m t.1 t.2.1 t.2.2.1 t.2.2.2 :=
  loop_of_round (shape := Fbm.l2_0.shape) (body := Fbm.R0 n) (g := fun m t => Fbm.l2_0.g Fbm.l2_1.k0 Fbm.l2_1.k1 n m t.1 t.2.1 t.2.2.1 t.2.2.2) (fun t => rfl)
    fun m t ih => (Fbm.l2_0.round n (loopOf (Fbm.R0 n) m) t.1 t.2.1 t.2.2.1 t.2.2.2).trans (congrFun (congrFun (congrFun (congrFun (congr (congrArg (Fbm.l2_0.r Fbm.l2_1.k0 Fbm.l2_1.k1 n) (funext fun y0 => funext fun y1 => funext fun y2 => funext fun y3 => ih (y0, y1, y2, y3))) (funext fun y0 => funext fun y1 => funext fun y2 => funext fun y3 => Fbm.l2_1.loop' n m (y0, y1, y2, y3))) t.1) t.2.1) t.2.2.1) t.2.2.2)
theorem Fbm.l2_0.loop (n m : Nat) (t : (Int × (LI × (LI × LI)))) : loopOf (Fbm.R0 n) m (Fbm.l2_0.shape t) = (Fbm.l2_0.m n m t).map Fbm.l2_0.res :=
  (Fbm.l2_0.loop' n m t).trans (Fbm.l2_0.gmap Fbm.l2_0.res (fun a0 => (.inl a0)) (fun a0 => (.inr a0)) n m t.1 t.2.1 t.2.2.1 t.2.2.2)
theorem Fbm.run : runS (Fbm.C n) (Fbm.A n) n Tryz.f60 (Fbm.shape t) = (Fbm.m n t).map Fbm.res :=
  (show _ = Fbm.g (fun a0 => Fbm.res (.inl a0)) (fun a0 => Fbm.res (.inr a0)) n t.1 t.2.1 t.2.2 from by kernel_rfl).trans (by
    unfold Fbm.m Fbm.g
    exact (bindO_map fun r2 => match r2 with | (.inl r2) => rfl | (.inr r2) => rfl))
theorem Fbm.s (hmix : HM) (n : Nat) : CalleeS Tryz.prog dskG 60 (Fbm.c n) :=
  .mkF (res := Fbm.res) (shape := Fbm.shape) (C := Fbm.C n) (A := Fbm.A n) (fun R u K => by rcases u with u | u <;> rfl) (fun _ _ _ h => by unfold Fbm.pat at h; split at h <;> cases h; rfl) rfl (.cons (Fbl.s hmix n) .nil) hmix Tryz.func60 (by kernel_rfl) (lp := [Fbm.b0, Fbm.b1, Fbm.b2, Fbm.b3, Fbm.b4, Fbm.b5]) (by kernel_rfl) (.cons (show (Fbm.A n).loop (key Fbm.b0) = some (.mk' Fbm.l2_0.pat (Fbm.l2_0.m n n) Fbm.l2_0.resK) by kernel_rfl) (LoopS.of (res := Fbm.l2_0.res) (fun R u K => by rcases u with u | u <;> rfl) Fbm.l2_0.pat_shape fun t => Fbm.l2_0.loop n n t)
  (.cons (show (Fbm.A n).loop (key Fbm.b1) = some (.alt Fbm.l6_0.pat (.mk' Fbm.l6_0.pat (Fbm.l6_0.m n n) (resKl Fbm.l6_0.res)) (.mk' Fbm.l6v1_0.pat (Fbm.l6v1_0.m n n) (resKl Fbm.l6v1_0.res))) by kernel_rfl) (LoopS.alt (LoopS.of (res := Fbm.l6_0.res) (fun R u K => rfl) Fbm.l6_0.pat_shape fun t => Fbm.l6_0.loop n n t) (LoopS.of (res := Fbm.l6v1_0.res) (fun R u K => rfl) Fbm.l6v1_0.pat_shape fun t => Fbm.l6v1_0.loop n n t))
  (.cons (show (Fbm.A n).loop (key Fbm.b2) = some (.alt Fbm.l11_0.pat (.mk' Fbm.l11_0.pat (Fbm.l11_0.m n n) (resKl Fbm.l11_0.res)) (.mk' Fbm.l11v1_0.pat (Fbm.l11v1_0.m n n) (resKl Fbm.l11v1_0.res))) by kernel_rfl) (LoopS.alt (LoopS.of (res := Fbm.l11_0.res) (fun R u K => rfl) Fbm.l11_0.pat_shape fun t => Fbm.l11_0.loop n n t) (LoopS.of (res := Fbm.l11v1_0.res) (fun R u K => rfl) Fbm.l11v1_0.pat_shape fun t => Fbm.l11v1_0.loop n n t))
  (.cons (show (Fbm.A n).loop (key Fbm.b3) = some (.alt Fbm.l15_0.pat (.mk' Fbm.l15_0.pat (Fbm.l15_0.m n n) (resKl Fbm.l15_0.res)) (.mk' Fbm.l15v1_0.pat (Fbm.l15v1_0.m n n) (resKl Fbm.l15v1_0.res))) by kernel_rfl) (LoopS.alt (LoopS.of (res := Fbm.l15_0.res) (fun R u K => rfl) Fbm.l15_0.pat_shape fun t => Fbm.l15_0.loop n n t) (LoopS.of (res := Fbm.l15v1_0.res) (fun R u K => rfl) Fbm.l15v1_0.pat_shape fun t => Fbm.l15v1_0.loop n n t))
  (.cons (show (Fbm.A n).loop (key Fbm.b4) = some (.mk' Fbm.l20_0.pat (Fbm.l20_0.m n n) (resKl Fbm.l20_0.res)) by kernel_rfl) (LoopS.of (res := Fbm.l20_0.res) (fun R u K => rfl) Fbm.l20_0.pat_shape fun t => Fbm.l20_0.loop n n t)
  (.cons (show (Fbm.A n).loop (key Fbm.b5) = some (.mk' Fbm.l23_0.pat (Fbm.l23_0.m n n) (resKl Fbm.l23_0.res)) by kernel_rfl) (LoopS.of (res := Fbm.l23_0.res) (fun R u K => rfl) Fbm.l23_0.pat_shape fun t => Fbm.l23_0.loop n n t)
  .nil))))))
  (nj rfl) (by decide) (fun _ => rfl) rfl (fun _ => by show 3 ≤ Tryz.f60.ntmps; decide) (fun _ => Fbm.run)
noncomputable abbrev Fbi.R0 (n : Nat) := roundOf (Fbi.C n) (Fbi.A n) n Fbi.b0
def Fbi.l4_0.T {α : Type} (mk0 : LI → LI → α) (n : Nat) (f : (Int × (Int × (LI × (LI × LI)))) → Option α) (t : (Int × (Int × (LI × (LI × LI))))) : Option α := Fbi.l4_0.r mk0 n (fun y0 y1 y2 y3 y4 => f (y0, y1, y2, y3, y4)) t.1 t.2.1 t.2.2.1 t.2.2.2.1 t.w
theorem Fbi.l4_0.rmap : (Fbi.l4_0.T (fun a0 a1 => (a0, a1)) n f t).map Fbi.l4_0.res = Fbi.l4_0.T (fun a0 a1 => Fbi.l4_0.res (a0, a1)) n (fun y => (f y).map Fbi.l4_0.res) t := by
  unfold Fbi.l4_0.T Fbi.l4_0.r
  exact Eq.symm (ite_map (ite_map (ite_map (ite_map (ite_map (ite_map (ite_map (ite_map (ite_map rfl rfl) rfl) rfl) rfl) rfl) rfl) rfl) rfl) rfl)
theorem Fbi.l4_0.pat_shape : ∀ st t, Fbi.l4_0.pat st = some t → st = Fbi.l4_0.shape t := fun _ _ h => by unfold Fbi.l4_0.pat at h; split at h <;> cases h; rfl
theorem Fbi.l4_0.round : Fbi.R0 n rc (Fbi.l4_0.shape t) = Fbi.l4_0.T (fun a0 a1 => Fbi.l4_0.res (a0, a1)) n (fun y => rc (Fbi.l4_0.shape y)) t := by kernel_rfl
theorem Fbi.l4_0.loop (n m : Nat) (t : (Int × (Int × (LI × (LI × LI))))) : loopOf (Fbi.R0 n) m (Fbi.l4_0.shape t) = (Fbi.l4_0.m n m t).map Fbi.l4_0.res :=
  loop_map (fun _ _ => Fbi.l4_0.rmap) (fun _ _ => Fbi.l4_0.round) (fun _ => rfl) (fun _ _ => by kernel_rfl) m t
theorem Fbi.run : runS (Fbi.C n) (Fbi.A n) n Tryz.f61 (Fbi.shape t) = (Fbi.m n t).map Fbi.res :=
  (show _ = Fbi.g (fun a0 => Fbi.res a0) n t from by kernel_rfl).trans (by
    unfold Fbi.m Fbi.g
    exact (bindO_map fun r2 => rfl))
theorem Fbi.s (hmix : HM) (n : Nat) : CalleeS Tryz.prog dskG 61 (Fbi.c n) :=
  .mkF (res := Fbi.res) (shape := Fbi.shape) (C := Fbi.C n) (A := Fbi.A n) (fun R u K => rfl) (fun _ _ _ h => by unfold Fbi.pat at h; split at h <;> cases h; rfl) rfl .nil hmix Tryz.func61 (by kernel_rfl) (lp := [Fbi.b0]) (by kernel_rfl) (.cons (show (Fbi.A n).loop (key Fbi.b0) = some (.mk' Fbi.l4_0.pat (Fbi.l4_0.m n n) (resKl Fbi.l4_0.res)) by kernel_rfl) (LoopS.of (res := Fbi.l4_0.res) (fun R u K => rfl) Fbi.l4_0.pat_shape fun t => Fbi.l4_0.loop n n t)
  .nil)
  (nj rfl) (by decide) (fun _ => rfl) rfl (fun _ => by show 1 ≤ Tryz.f61.ntmps; decide) (fun _ => Fbi.run)
noncomputable abbrev Fbn.R0 (n : Nat) := roundOf (Fbn.C n) (Fbn.A n) n Fbn.b0
noncomputable abbrev Fbn.R1 (n : Nat) := roundOf (Fbn.C n) (Fbn.A n) n Fbn.b1
noncomputable abbrev Fbn.R2 (n : Nat) := roundOf (Fbn.C n) (Fbn.A n) n Fbn.b2
noncomputable abbrev Fbn.R3 (n : Nat) := roundOf (Fbn.C n) (Fbn.A n) n Fbn.b3
noncomputable abbrev Fbn.R4 (n : Nat) := roundOf (Fbn.C n) (Fbn.A n) n Fbn.b4
noncomputable abbrev Fbn.R5 (n : Nat) := roundOf (Fbn.C n) (Fbn.A n) n Fbn.b5
def Fbn.l4_0.T {α : Type} (mk0 : LI → LI → α) (n : Nat) (f : (LI × LI) → Option α) (t : (LI × LI)) : Option α := Fbn.l4_0.r mk0 n (fun y0 y1 => f (y0, y1)) t.1 t.2
theorem Fbn.l4_0.rmap : (Fbn.l4_0.T (fun a0 a1 => (a0, a1)) n f t).map Fbn.l4_0.res = Fbn.l4_0.T (fun a0 a1 => Fbn.l4_0.res (a0, a1)) n (fun y => (f y).map Fbn.l4_0.res) t := by
  unfold Fbn.l4_0.T Fbn.l4_0.r
  exact Eq.symm (ite_map (ite_map rfl rfl) rfl)
theorem Fbn.l4_0.pat_shape : ∀ st t, Fbn.l4_0.pat st = some t → st = Fbn.l4_0.shape t := fun _ _ h => by unfold Fbn.l4_0.pat at h; split at h <;> cases h; rfl
theorem Fbn.l4_0.round : Fbn.R0 n rc (Fbn.l4_0.shape t) = Fbn.l4_0.T (fun a0 a1 => Fbn.l4_0.res (a0, a1)) n (fun y => rc (Fbn.l4_0.shape y)) t := by kernel_rfl
theorem Fbn.l4_0.loop (n m : Nat) (t : (LI × LI)) : loopOf (Fbn.R0 n) m (Fbn.l4_0.shape t) = (Fbn.l4_0.m n m t).map Fbn.l4_0.res :=
  loop_map (fun _ _ => Fbn.l4_0.rmap) (fun _ _ => Fbn.l4_0.round) (fun _ => rfl) (fun _ _ => by kernel_rfl) m t
def Fbn.l17_0.T {α : Type} (mk0 : Int → Int → LI → LI → LI → LI → LI → α) (n : Nat) (f : Ty20 → Option α) (t : Ty20) : Option α := Fbn.l17_0.r mk0 n (fun y0 y1 y2 y3 y4 y5 y6 y7 => f (y0, y1, y2, y3, y4, y5, y6, y7)) t.1 t.2.1 t.2.2.1 t.2.2.2.1 t.w.1 t.w.2.1 t.w.2.2.1 t.w.2.2.2
theorem Fbn.l17_0.rmap : (Fbn.l17_0.T (fun a0 a1 a2 a3 a4 a5 a6 => (a0, a1, a2, a3, a4, a5, a6)) n f t).map Fbn.l17_0.res = Fbn.l17_0.T (fun a0 a1 a2 a3 a4 a5 a6 => Fbn.l17_0.res (a0, a1, a2, a3, a4, a5, a6)) n (fun y => (f y).map Fbn.l17_0.res) t := by
  unfold Fbn.l17_0.T Fbn.l17_0.r
  exact Eq.symm (ite_map (ite_map (ite_map (ite_map (ite_map (ite_map (ite_map (ite_map rfl rfl) rfl) rfl) rfl) rfl) rfl) rfl) rfl)
theorem Fbn.l17_0.pat_shape : ∀ st t, Fbn.l17_0.pat st = some t → st = Fbn.l17_0.shape t := fun _ _ h => by unfold Fbn.l17_0.pat at h; split at h <;> cases h; rfl
theorem Fbn.l17_0.round : Fbn.R3 n rc (Fbn.l17_0.shape t) = Fbn.l17_0.T (fun a0 a1 a2 a3 a4 a5 a6 => Fbn.l17_0.res (a0, a1, a2, a3, a4, a5, a6)) n (fun y => rc (Fbn.l17_0.shape y)) t := by kernel_rfl
theorem Fbn.l17_0.loop (n m : Nat) (t : Ty20) : loopOf (Fbn.R3 n) m (Fbn.l17_0.shape t) = (Fbn.l17_0.m n m t).map Fbn.l17_0.res :=
  loop_map (fun _ _ => Fbn.l17_0.rmap) (fun _ _ => Fbn.l17_0.round) (fun _ => rfl) (fun _ _ => by kernel_rfl) m t
def Fbn.l14_0.T {α : Type} (mk0 : Int → LI → LI → LI → LI → LI → α) (n : Nat) (f : Ty28 → Option α) (t : Ty28) : Option α := Fbn.l14_0.r mk0 n (fun y0 y1 y2 y3 y4 y5 y6 => f (y0, y1, y2, y3, y4, y5, y6)) t.1 t.2.1 t.2.2.1 t.2.2.2.1 t.w.1 t.w.2.1 t.w.2.2
theorem Fbn.l14_0.rmap : (Fbn.l14_0.T (fun a0 a1 a2 a3 a4 a5 => (a0, a1, a2, a3, a4, a5)) n f t).map Fbn.l14_0.res = Fbn.l14_0.T (fun a0 a1 a2 a3 a4 a5 => Fbn.l14_0.res (a0, a1, a2, a3, a4, a5)) n (fun y => (f y).map Fbn.l14_0.res) t := by
  unfold Fbn.l14_0.T Fbn.l14_0.r
  exact Eq.symm (ite_map (bindO_map fun r6 => rfl) rfl)
theorem Fbn.l14_0.pat_shape : ∀ st t, Fbn.l14_0.pat st = some t → st = Fbn.l14_0.shape t := fun _ _ h => by unfold Fbn.l14_0.pat at h; split at h <;> cases h; rfl
theorem Fbn.l14_0.round : Fbn.R2 n rc (Fbn.l14_0.shape t) = Fbn.l14_0.T (fun a0 a1 a2 a3 a4 a5 => Fbn.l14_0.res (a0, a1, a2, a3, a4, a5)) n (fun y => rc (Fbn.l14_0.shape y)) t := by kernel_rfl
theorem Fbn.l14_0.loop (n m : Nat) (t : Ty28) : loopOf (Fbn.R2 n) m (Fbn.l14_0.shape t) = (Fbn.l14_0.m n m t).map Fbn.l14_0.res :=
  loop_map (fun _ _ => Fbn.l14_0.rmap) (fun _ _ => Fbn.l14_0.round) (fun _ => rfl) (fun _ _ => by kernel_rfl) m t
def Fbn.l11_0.T {α : Type} (mk0 : LI → LI → α) (n : Nat) (f : (Int × (LI × (LI × (LI × (LI × LI))))) → Option α) (t : (Int × (LI × (LI × (LI × (LI × LI)))))) : Option α := Fbn.l11_0.r mk0 n (fun y0 y1 y2 y3 y4 y5 => f (y0, y1, y2, y3, y4, y5)) t.1 t.2.1 t.2.2.1 t.2.2.2.1 t.w.1 t.w.2
theorem Fbn.l11_0.rmap : (Fbn.l11_0.T (fun a0 a1 => (a0, a1)) n f t).map Fbn.l11_0.res = Fbn.l11_0.T (fun a0 a1 => Fbn.l11_0.res (a0, a1)) n (fun y => (f y).map Fbn.l11_0.res) t := by
  unfold Fbn.l11_0.T Fbn.l11_0.r
  exact Eq.symm (ite_map (bindO_map fun r6 => (bindO_map fun r8 => match r8 with | (.inl r8) => rfl | (.inr r8) => rfl)) rfl)
theorem Fbn.l11_0.pat_shape : ∀ st t, Fbn.l11_0.pat st = some t → st = Fbn.l11_0.shape t := fun _ _ h => by unfold Fbn.l11_0.pat at h; split at h <;> cases h; rfl
theorem Fbn.l11_0.round : Fbn.R1 n rc (Fbn.l11_0.shape t) = Fbn.l11_0.T (fun a0 a1 => Fbn.l11_0.res (a0, a1)) n (fun y => rc (Fbn.l11_0.shape y)) t := by kernel_rfl
theorem Fbn.l11_0.loop (n m : Nat) (t : (Int × (LI × (LI × (LI × (LI × LI)))))) : loopOf (Fbn.R1 n) m (Fbn.l11_0.shape t) = (Fbn.l11_0.m n m t).map Fbn.l11_0.res :=
  loop_map (fun _ _ => Fbn.l11_0.rmap) (fun _ _ => Fbn.l11_0.round) (fun _ => rfl) (fun _ _ => by kernel_rfl) m t
def Fbn.l26_0.T {α : Type} (mk0 : Int → LI → LI → LI → α) (n : Nat) (f : (Int × (Int × (LI × (LI × LI)))) → Option α) (t : (Int × (Int × (LI × (LI × LI))))) : Option α := Fbn.l26_0.r mk0 n (fun y0 y1 y2 y3 y4 => f (y0, y1, y2, y3, y4)) t.1 t.2.1 t.2.2.1 t.2.2.2.1 t.w
theorem Fbn.l26_0.rmap : (Fbn.l26_0.T (fun a0 a1 a2 a3 => (a0, a1, a2, a3)) n f t).map Fbn.l26_0.res = Fbn.l26_0.T (fun a0 a1 a2 a3 => Fbn.l26_0.res (a0, a1, a2, a3)) n (fun y => (f y).map Fbn.l26_0.res) t := by
  unfold Fbn.l26_0.T Fbn.l26_0.r
  exact Eq.symm (ite_map (ite_map (ite_map (ite_map (ite_map rfl rfl) rfl) rfl) rfl) rfl)
theorem Fbn.l26_0.pat_shape : ∀ st t, Fbn.l26_0.pat st = some t → st = Fbn.l26_0.shape t := fun _ _ h => by unfold Fbn.l26_0.pat at h; split at h <;> cases h; rfl
theorem Fbn.l26_0.round : Fbn.R5 n rc (Fbn.l26_0.shape t) = Fbn.l26_0.T (fun a0 a1 a2 a3 => Fbn.l26_0.res (a0, a1, a2, a3)) n (fun y => rc (Fbn.l26_0.shape y)) t := by kernel_rfl
theorem Fbn.l26_0.loop (n m : Nat) (t : (Int × (Int × (LI × (LI × LI))))) : loopOf (Fbn.R5 n) m (Fbn.l26_0.shape t) = (Fbn.l26_0.m n m t).map Fbn.l26_0.res :=
  loop_map (fun _ _ => Fbn.l26_0.rmap) (fun _ _ => Fbn.l26_0.round) (fun _ => rfl) (fun _ _ => by kernel_rfl) m t
def Fbn.l23_0.T {α : Type} (mk0 : LI → LI → α) (n : Nat) (f : (Int × (LI × (LI × LI))) → Option α) (t : (Int × (LI × (LI × LI)))) : Option α := Fbn.l23_0.r mk0 n (fun y0 y1 y2 y3 => f (y0, y1, y2, y3)) t.1 t.2.1 t.2.2.1 t.2.2.2
theorem Fbn.l23_0.rmap : (Fbn.l23_0.T (fun a0 a1 => (a0, a1)) n f t).map Fbn.l23_0.res = Fbn.l23_0.T (fun a0 a1 => Fbn.l23_0.res (a0, a1)) n (fun y => (f y).map Fbn.l23_0.res) t := by
  unfold Fbn.l23_0.T Fbn.l23_0.r
  exact Eq.symm (ite_map (bindO_map fun r6 => rfl) rfl)
theorem Fbn.l23_0.pat_shape : ∀ st t, Fbn.l23_0.pat st = some t → st = Fbn.l23_0.shape t := fun _ _ h => by unfold Fbn.l23_0.pat at h; split at h <;> cases h; rfl
theorem Fbn.l23_0.round : Fbn.R4 n rc (Fbn.l23_0.shape t) = Fbn.l23_0.T (fun a0 a1 => Fbn.l23_0.res (a0, a1)) n (fun y => rc (Fbn.l23_0.shape y)) t := by kernel_rfl
theorem Fbn.l23_0.loop (n m : Nat) (t : (Int × (LI × (LI × LI)))) : loopOf (Fbn.R4 n) m (Fbn.l23_0.shape t) = (Fbn.l23_0.m n m t).map Fbn.l23_0.res :=
  loop_map (fun _ _ => Fbn.l23_0.rmap) (fun _ _ => Fbn.l23_0.round) (fun _ => rfl) (fun _ _ => by kernel_rfl) m t
theorem Fbn.run : runS (Fbn.C n) (Fbn.A n) n Tryz.f43 (Fbn.shape t) = (Fbn.m n t).map Fbn.res :=
  (show _ = Fbn.g (fun a0 => Fbn.res a0) n t from by kernel_rfl).trans (by
    unfold Fbn.m Fbn.g
    exact (ite_map (ite_map (bindO_map fun r6 => (ite_map (ite_map (ite_map (ite_map (bindO_map fun r16 => (bindO_map fun r18 => (bindO_map fun r20 => (bindO_map fun r22 => (bindO_map fun r24 => rfl))))) rfl) rfl) rfl) rfl)) rfl) rfl))
theorem Fbn.s (hmix : HM) (n : Nat) : CalleeS Tryz.prog dskG 43 (Fbn.c n) :=
  .mkF (res := Fbn.res) (shape := Fbn.shape) (C := Fbn.C n) (A := Fbn.A n) (fun R u K => rfl) (fun _ _ _ h => by unfold Fbn.pat at h; split at h <;> cases h; rfl) rfl (.cons (Fay.s hmix n) (.cons (Fbh.s hmix n) (.cons (Fbm.s hmix n) (.cons (Fbi.s hmix n) .nil)))) hmix Tryz.func43 (by kernel_rfl) (lp := [Fbn.b0, Fbn.b1, Fbn.b2, Fbn.b3, Fbn.b4, Fbn.b5]) (by kernel_rfl) (.cons (show (Fbn.A n).loop (key Fbn.b0) = some (.mk' Fbn.l4_0.pat (Fbn.l4_0.m n n) (resKl Fbn.l4_0.res)) by kernel_rfl) (LoopS.of (res := Fbn.l4_0.res) (fun R u K => rfl) Fbn.l4_0.pat_shape fun t => Fbn.l4_0.loop n n t)
  (.cons (show (Fbn.A n).loop (key Fbn.b1) = some (.mk' Fbn.l11_0.pat (Fbn.l11_0.m n n) (resKl Fbn.l11_0.res)) by kernel_rfl) (LoopS.of (res := Fbn.l11_0.res) (fun R u K => rfl) Fbn.l11_0.pat_shape fun t => Fbn.l11_0.loop n n t)
  (.cons (show (Fbn.A n).loop (key Fbn.b2) = some (.mk' Fbn.l14_0.pat (Fbn.l14_0.m n n) (resKl Fbn.l14_0.res)) by kernel_rfl) (LoopS.of (res := Fbn.l14_0.res) (fun R u K => rfl) Fbn.l14_0.pat_shape fun t => Fbn.l14_0.loop n n t)
  (.cons (show (Fbn.A n).loop (key Fbn.b3) = some (.mk' Fbn.l17_0.pat (Fbn.l17_0.m n n) (resKl Fbn.l17_0.res)) by kernel_rfl) (LoopS.of (res := Fbn.l17_0.res) (fun R u K => rfl) Fbn.l17_0.pat_shape fun t => Fbn.l17_0.loop n n t)
  (.cons (show (Fbn.A n).loop (key Fbn.b4) = some (.mk' Fbn.l23_0.pat (Fbn.l23_0.m n n) (resKl Fbn.l23_0.res)) by kernel_rfl) (LoopS.of (res := Fbn.l23_0.res) (fun R u K => rfl) Fbn.l23_0.pat_shape fun t => Fbn.l23_0.loop n n t)
  (.cons (show (Fbn.A n).loop (key Fbn.b5) = some (.mk' Fbn.l26_0.pat (Fbn.l26_0.m n n) (resKl Fbn.l26_0.res)) by kernel_rfl) (LoopS.of (res := Fbn.l26_0.res) (fun R u K => rfl) Fbn.l26_0.pat_shape fun t => Fbn.l26_0.loop n n t)
  .nil))))))
  (nj rfl) (by decide) (fun _ => rfl) rfl (fun _ => by show 1 ≤ Tryz.f43.ntmps; decide) (fun _ => Fbn.run)
noncomputable abbrev Faz.R0 (n : Nat) := roundOf (Faz.C n) (Faz.A n) n Faz.b0
def Faz.l3_0.T {α : Type} (mk0 : LI → α) (n : Nat) (f : (Int × (LI × LI)) → Option α) (t : (Int × (LI × LI))) : Option α := Faz.l3_0.r mk0 n (fun y0 y1 y2 => f (y0, y1, y2)) t.1 t.2.1 t.2.2
theorem Faz.l3_0.rmap : (Faz.l3_0.T (fun a0 => a0) n f t).map Faz.l3_0.res = Faz.l3_0.T (fun a0 => Faz.l3_0.res a0) n (fun y => (f y).map Faz.l3_0.res) t := by
  unfold Faz.l3_0.T Faz.l3_0.r
  exact Eq.symm (ite_map (ite_map (ite_map (ite_map (ite_map rfl rfl) rfl) rfl) rfl) rfl)
theorem Faz.l3_0.pat_shape : ∀ st t, Faz.l3_0.pat st = some t → st = Faz.l3_0.shape t := fun _ _ h => by unfold Faz.l3_0.pat at h; split at h <;> cases h; rfl
theorem Faz.l3_0.round : Faz.R0 n rc (Faz.l3_0.shape t) = Faz.l3_0.T (fun a0 => Faz.l3_0.res a0) n (fun y => rc (Faz.l3_0.shape y)) t := by kernel_rfl
theorem Faz.l3_0.loop (n m : Nat) (t : (Int × (LI × LI))) : loopOf (Faz.R0 n) m (Faz.l3_0.shape t) = (Faz.l3_0.m n m t).map Faz.l3_0.res :=
  loop_map (fun _ _ => Faz.l3_0.rmap) (fun _ _ => Faz.l3_0.round) (fun _ => rfl) (fun _ _ => by kernel_rfl) m t
theorem Faz.run : runS (Faz.C n) (Faz.A n) n Tryz.f42 (Faz.shape t) = (Faz.m n t).map Faz.res :=
  (show _ = Faz.g (fun a0 => Faz.res a0) n t from by kernel_rfl).trans (by
    unfold Faz.m Faz.g
    exact (bindO_map fun r2 => rfl))
theorem Faz.s (hmix : HM) (n : Nat) : CalleeS Tryz.prog dskG 42 (Faz.c n) :=
  .mkF (res := Faz.res) (shape := Faz.shape) (C := Faz.C n) (A := Faz.A n) (fun R u K => rfl) (fun _ _ _ h => by unfold Faz.pat at h; split at h <;> cases h; rfl) rfl .nil hmix Tryz.func42 (by kernel_rfl) (lp := [Faz.b0]) (by kernel_rfl) (.cons (show (Faz.A n).loop (key Faz.b0) = some (.mk' Faz.l3_0.pat (Faz.l3_0.m n n) (resKl Faz.l3_0.res)) by kernel_rfl) (LoopS.of (res := Faz.l3_0.res) (fun R u K => rfl) Faz.l3_0.pat_shape fun t => Faz.l3_0.loop n n t)
  .nil)
  (nj rfl) (by decide) (fun _ => rfl) rfl (fun _ => by show 1 ≤ Tryz.f42.ntmps; decide) (fun _ => Faz.run)
theorem Fz.run : runS (Fz.C n) (Fz.A n) n Tryz.f19 (Fz.shape t) = (Fz.m n t).map Fz.res :=
  (show _ = Fz.g (fun a0 => Fz.res a0) n t from by kernel_rfl).trans (by
    unfold Fz.m Fz.g
    exact (bindO_map fun r2 => (bindO_map fun r4 => (ite_map rfl rfl))))
theorem Fz.s (hmix : HM) (n : Nat) : CalleeS Tryz.prog dskG 19 (Fz.c n) :=
  .mkF (res := Fz.res) (shape := Fz.shape) (C := Fz.C n) (A := Fz.A n) (fun R u K => rfl) (fun _ _ _ h => by unfold Fz.pat at h; split at h <;> cases h; rfl) rfl (.cons (Fbn.s hmix n) (.cons (Faz.s hmix n) .nil)) hmix Tryz.func19 (by kernel_rfl) (lp := []) (by kernel_rfl) .nil
  (nj rfl) (by decide) (fun _ => rfl) rfl (fun _ => by show 1 ≤ Tryz.f19.ntmps; decide) (fun _ => Fz.run)
noncomputable abbrev Fbj.R0 (n : Nat) := roundOf (Fbj.C n) (Fbj.A n) n Fbj.b0
def Fbj.l3_0.T {α : Type} (mk0 : LI → LI → α) (n : Nat) (f : (Int × (LI × (LI × LI))) → Option α) (t : (Int × (LI × (LI × LI)))) : Option α := Fbj.l3_0.r mk0 n (fun y0 y1 y2 y3 => f (y0, y1, y2, y3)) t.1 t.2.1 t.2.2.1 t.2.2.2
theorem Fbj.l3_0.rmap : (Fbj.l3_0.T (fun a0 a1 => (a0, a1)) n f t).map Fbj.l3_0.res = Fbj.l3_0.T (fun a0 a1 => Fbj.l3_0.res (a0, a1)) n (fun y => (f y).map Fbj.l3_0.res) t := by
  unfold Fbj.l3_0.T Fbj.l3_0.r
  exact Eq.symm (ite_map (ite_map (ite_map (ite_map (ite_map (ite_map (ite_map (ite_map rfl rfl) rfl) rfl) rfl) rfl) rfl) rfl) rfl)
theorem Fbj.l3_0.pat_shape : ∀ st t, Fbj.l3_0.pat st = some t → st = Fbj.l3_0.shape t := fun _ _ h => by unfold Fbj.l3_0.pat at h; split at h <;> cases h; rfl
theorem Fbj.l3_0.round : Fbj.R0 n rc (Fbj.l3_0.shape t) = Fbj.l3_0.T (fun a0 a1 => Fbj.l3_0.res (a0, a1)) n (fun y => rc (Fbj.l3_0.shape y)) t := by kernel_rfl
theorem Fbj.l3_0.loop (n m : Nat) (t : (Int × (LI × (LI × LI)))) : loopOf (Fbj.R0 n) m (Fbj.l3_0.shape t) = (Fbj.l3_0.m n m t).map Fbj.l3_0.res :=
  loop_map (fun _ _ => Fbj.l3_0.rmap) (fun _ _ => Fbj.l3_0.round) (fun _ => rfl) (fun _ _ => by kernel_rfl) m t
theorem Fbj.run : runS (Fbj.C n) (Fbj.A n) n Tryz.f21 (Fbj.shape t) = (Fbj.m n t).map Fbj.res :=
  (show _ = Fbj.g (fun a0 => Fbj.res a0) n t from by kernel_rfl).trans (by
    unfold Fbj.m Fbj.g
    exact (bindO_map fun r2 => rfl))
theorem Fbj.s (hmix : HM) (n : Nat) : CalleeS Tryz.prog dskG 21 (Fbj.c n) :=
  .mkF (res := Fbj.res) (shape := Fbj.shape) (C := Fbj.C n) (A := Fbj.A n) (fun R u K => rfl) (fun _ _ _ h => by unfold Fbj.pat at h; split at h <;> cases h; rfl) rfl .nil hmix Tryz.func21 (by kernel_rfl) (lp := [Fbj.b0]) (by kernel_rfl) (.cons (show (Fbj.A n).loop (key Fbj.b0) = some (.mk' Fbj.l3_0.pat (Fbj.l3_0.m n n) (resKl Fbj.l3_0.res)) by kernel_rfl) (LoopS.of (res := Fbj.l3_0.res) (fun R u K => rfl) Fbj.l3_0.pat_shape fun t => Fbj.l3_0.loop n n t)
  .nil)
  (nj rfl) (by decide) (fun _ => rfl) rfl (fun _ => by show 1 ≤ Tryz.f21.ntmps; decide) (fun _ => Fbj.run)
theorem Fbk.run : runS (Fbk.C n) (Fbk.A n) n Tryz.f44 (Fbk.shape t) = (Fbk.m n t).map Fbk.res :=
  (show _ = Fbk.g (fun a0 => Fbk.res a0) n t from by kernel_rfl).trans (by
    unfold Fbk.m Fbk.g
    exact rfl)
theorem Fbk.s (hmix : HM) (n : Nat) : CalleeS Tryz.prog dskG 44 (Fbk.c n) :=
  .mkF (res := Fbk.res) (shape := Fbk.shape) (C := Fbk.C n) (A := Fbk.A n) (fun R u K => rfl) (fun _ _ _ h => by unfold Fbk.pat at h; split at h <;> cases h; rfl) rfl .nil hmix Tryz.func44 (by kernel_rfl) (lp := []) (by kernel_rfl) .nil
  (nj rfl) (by decide) (fun _ => rfl) rfl (fun _ => by show 1 ≤ Tryz.f44.ntmps; decide) (fun _ => Fbk.run)
noncomputable abbrev Fal.R0 (n : Nat) := roundOf (Fal.C n) (Fal.A n) n Fal.b0
noncomputable abbrev Fal.R1 (n : Nat) := roundOf (Fal.C n) (Fal.A n) n Fal.b1
def Fal.l11_0.T {α : Type} (mk0 : Int → LA → LI → LI → α) (n : Nat) (f : (Int × (LA × (LI × LI))) → Option α) (t : (Int × (LA × (LI × LI)))) : Option α := Fal.l11_0.r mk0 n (fun y0 y1 y2 y3 => f (y0, y1, y2, y3)) t.1 t.2.1 t.2.2.1 t.2.2.2
theorem Fal.l11_0.rmap : (Fal.l11_0.T (fun a0 a1 a2 a3 => (a0, a1, a2, a3)) n f t).map Fal.l11_0.res = Fal.l11_0.T (fun a0 a1 a2 a3 => Fal.l11_0.res (a0, a1, a2, a3)) n (fun y => (f y).map Fal.l11_0.res) t := by
  unfold Fal.l11_0.T Fal.l11_0.r
  exact Eq.symm (ite_map (ite_map rfl rfl) rfl)
theorem Fal.l11_0.pat_shape : ∀ st t, Fal.l11_0.pat st = some t → st = Fal.l11_0.shape t := fun _ _ h => by unfold Fal.l11_0.pat at h; split at h <;> cases h; rfl
theorem Fal.l11_0.round : Fal.R1 n rc (Fal.l11_0.shape t) = Fal.l11_0.T (fun a0 a1 a2 a3 => Fal.l11_0.res (a0, a1, a2, a3)) n (fun y => rc (Fal.l11_0.shape y)) t := by kernel_rfl
theorem Fal.l11_0.loop (n m : Nat) (t : (Int × (LA × (LI × LI)))) : loopOf (Fal.R1 n) m (Fal.l11_0.shape t) = (Fal.l11_0.m n m t).map Fal.l11_0.res :=
  loop_map (fun _ _ => Fal.l11_0.rmap) (fun _ _ => Fal.l11_0.round) (fun _ => rfl) (fun _ _ => by kernel_rfl) m t
def Fal.l3_0.T {α : Type} (mk0 : LI → LI → α) (n : Nat) (f : (Int × (LA × (LI × LI))) → Option α) (t : (Int × (LA × (LI × LI)))) : Option α := Fal.l3_0.r mk0 n (fun y0 y1 y2 y3 => f (y0, y1, y2, y3)) t.1 t.2.1 t.2.2.1 t.2.2.2
theorem Fal.l3_0.rmap : (Fal.l3_0.T (fun a0 a1 => (a0, a1)) n f t).map Fal.l3_0.res = Fal.l3_0.T (fun a0 a1 => Fal.l3_0.res (a0, a1)) n (fun y => (f y).map Fal.l3_0.res) t := by
  unfold Fal.l3_0.T Fal.l3_0.r
  exact Eq.symm (ite_map (ite_map (ite_map (bindO_map fun r10 => (bindO_map fun r12 => (bindO_map fun r14 => (bindO_map fun r16 => (ite_map (ite_map (ite_map (bindO_map fun r24 => (bindO_map fun r26 => (bindO_map fun r28 => (bindO_map fun r30 => (bindO_map fun r32 => (ite_map rfl rfl)))))) rfl) rfl) (bindO_map fun r20 => (bindO_map fun r22 => (ite_map (ite_map (ite_map (bindO_map fun r30 => (bindO_map fun r32 => (bindO_map fun r34 => (bindO_map fun r36 => (bindO_map fun r38 => (bindO_map fun r40 => (ite_map (ite_map (ite_map (bindO_map fun r48 => (bindO_map fun r50 => (bindO_map fun r52 => (bindO_map fun r54 => (ite_map (bindO_map fun r58 => rfl) rfl))))) rfl) rfl) rfl))))))) rfl) rfl) rfl)))))))) rfl) rfl) rfl)
theorem Fal.l3_0.pat_shape : ∀ st t, Fal.l3_0.pat st = some t → st = Fal.l3_0.shape t := fun _ _ h => by unfold Fal.l3_0.pat at h; split at h <;> cases h; rfl
theorem Fal.l3_0.round : Fal.R0 n rc (Fal.l3_0.shape t) = Fal.l3_0.T (fun a0 a1 => Fal.l3_0.res (a0, a1)) n (fun y => rc (Fal.l3_0.shape y)) t := by kernel_rfl
theorem Fal.l3_0.loop (n m : Nat) (t : (Int × (LA × (LI × LI)))) : loopOf (Fal.R0 n) m (Fal.l3_0.shape t) = (Fal.l3_0.m n m t).map Fal.l3_0.res :=
  loop_map (fun _ _ => Fal.l3_0.rmap) (fun _ _ => Fal.l3_0.round) (fun _ => rfl) (fun _ _ => by kernel_rfl) m t
theorem Fal.run : runS (Fal.C n) (Fal.A n) n Tryz.f20 (Fal.shape t) = (Fal.m n t).map Fal.res :=
  (show _ = Fal.g (fun a0 => Fal.res a0) n t from by kernel_rfl).trans (by
    unfold Fal.m Fal.g
    exact (bindO_map fun r2 => (ite_map rfl rfl)))
theorem Fal.s (hmix : HM) (n : Nat) : CalleeS Tryz.prog dskG 20 (Fal.c n) :=
  .mkF (res := Fal.res) (shape := Fal.shape) (C := Fal.C n) (A := Fal.A n) (fun R u K => rfl) (fun _ _ _ h => by unfold Fal.pat at h; split at h <;> cases h; rfl) rfl (.cons (Faz.s hmix n) (.cons (Fbk.s hmix n) .nil)) hmix Tryz.func20 (by kernel_rfl) (lp := [Fal.b0, Fal.b1]) (by kernel_rfl) (.cons (show (Fal.A n).loop (key Fal.b0) = some (.mk' Fal.l3_0.pat (Fal.l3_0.m n n) (resKl Fal.l3_0.res)) by kernel_rfl) (LoopS.of (res := Fal.l3_0.res) (fun R u K => rfl) Fal.l3_0.pat_shape fun t => Fal.l3_0.loop n n t)
  (.cons (show (Fal.A n).loop (key Fal.b1) = some (.mk' Fal.l11_0.pat (Fal.l11_0.m n n) (resKl Fal.l11_0.res)) by kernel_rfl) (LoopS.of (res := Fal.l11_0.res) (fun R u K => rfl) Fal.l11_0.pat_shape fun t => Fal.l11_0.loop n n t)
  .nil))
  (nj rfl) (by decide) (fun _ => rfl) rfl (fun _ => by show 1 ≤ Tryz.f20.ntmps; decide) (fun _ => Fal.run)
theorem Fba.run : runS (Fba.C n) (Fba.A n) n Tryz.f5 (Fba.shape t) = (Fba.m n t).map Fba.res :=
  (show _ = Fba.g (fun a0 => Fba.res a0) n  from by kernel_rfl).trans (by
    unfold Fba.m Fba.g
    exact (bindO_map fun r2 => (bindO_map fun r4 => (bindO_map fun r6 => (bindO_map fun r8 => (bindO_map fun r10 => (bindO_map fun r12 => (bindO_map fun r14 => (ite_map (bindO_map fun r18 => (bindO_map fun r20 => (bindO_map fun r22 => (ite_map (ite_map (ite_map (ite_map (ite_map (bindO_map fun r34 => (ite_map (bindO_map fun r38 => (ite_map (bindO_map fun r42 => rfl) rfl)) rfl)) rfl) rfl) rfl) rfl) rfl)))) rfl)))))))))
theorem Fba.s (hmix : HM) (n : Nat) : CalleeS Tryz.prog dskG 5 (Fba.c n) :=
  .mkF (res := Fba.res) (shape := Fba.shape) (C := Fba.C n) (A := Fba.A n) (fun R u K => rfl) (fun _ _ _ h => by unfold Fba.pat at h; split at h <;> cases h; rfl) rfl (.cons (Faq.s hmix n) (.cons (Far.s hmix n) (.cons (Fax.s hmix n) (.cons (Fx.s hmix n) (.cons (Fz.s hmix n) (.cons (Fbj.s hmix n) (.cons (Fal.s hmix n) (.cons (Fbd.s hmix n) (.cons (Ff.s hmix n) (.cons (Fae.s hmix n) .nil)))))))))) hmix Tryz.func5 (by kernel_rfl) (lp := []) (by kernel_rfl) .nil
  (nj rfl) (by decide) (fun _ => rfl) rfl (fun _ => by show 0 ≤ Tryz.f5.ntmps; decide) (fun _ => Fba.run)
noncomputable abbrev Fv.R0 (n : Nat) := roundOf (Fv.C n) (Fv.A n) n Fv.b0
def Fv.l8_0.T {α : Type} (mk0 : Bool → LI → LI → LI → LI → Int → Int → LI → LA → LA → LA → LA → α) (mk1 : LI → LI → LI → LI → Int → Int → LI → LA → LA → LA → LA → α) (n : Nat) (f : Ty3 → Option α) (t : Ty3) : Option α := Fv.l8_0.r mk0 mk1 n (fun y0 y1 y2 y3 y4 y5 y6 y7 y8 y9 y10 y11 y12 => f (y0, y1, y2, y3, y4, y5, y6, y7, y8, y9, y10, y11, y12)) t.1 t.2.1 t.2.2.1 t.2.2.2.1 t.w.1 t.w.2.1 t.w.2.2.1 t.w.2.2.2.1 t.x.1 t.x.2.1 t.x.2.2.1 t.x.2.2.2.1 t.x.w
theorem Fv.l8_0.rmap : (Fv.l8_0.T (fun a0 a1 a2 a3 a4 a5 a6 a7 a8 a9 a10 a11 => (.inl (a0, a1, a2, a3, a4, a5, a6, a7, a8, a9, a10, a11))) (fun a0 a1 a2 a3 a4 a5 a6 a7 a8 a9 a10 => (.inr (a0, a1, a2, a3, a4, a5, a6, a7, a8, a9, a10))) n f t).map Fv.l8_0.res = Fv.l8_0.T (fun a0 a1 a2 a3 a4 a5 a6 a7 a8 a9 a10 a11 => Fv.l8_0.res (.inl (a0, a1, a2, a3, a4, a5, a6, a7, a8, a9, a10, a11))) (fun a0 a1 a2 a3 a4 a5 a6 a7 a8 a9 a10 => Fv.l8_0.res (.inr (a0, a1, a2, a3, a4, a5, a6, a7, a8, a9, a10))) n (fun y => (f y).map Fv.l8_0.res) t := by
  unfold Fv.l8_0.T Fv.l8_0.r
  exact Eq.symm (ite_map (bindO_map fun r6 => (bindO_map fun r8 => (bindO_map fun r10 => (bindO_map fun r12 => (ite_map rfl (ite_map rfl (ite_map rfl (ite_map rfl rfl)))))))) rfl)
theorem Fv.l8_0.pat_shape : ∀ st t, Fv.l8_0.pat st = some t → st = Fv.l8_0.shape t := fun _ _ h => by unfold Fv.l8_0.pat at h; split at h <;> cases h; rfl
theorem Fv.l8_0.round : Fv.R0 n rc (Fv.l8_0.shape t) = Fv.l8_0.T (fun a0 a1 a2 a3 a4 a5 a6 a7 a8 a9 a10 a11 => Fv.l8_0.res (.inl (a0, a1, a2, a3, a4, a5, a6, a7, a8, a9, a10, a11))) (fun a0 a1 a2 a3 a4 a5 a6 a7 a8 a9 a10 => Fv.l8_0.res (.inr (a0, a1, a2, a3, a4, a5, a6, a7, a8, a9, a10))) n (fun y => rc (Fv.l8_0.shape y)) t := by kernel_rfl
theorem Fv.l8_0.loop (n m : Nat) (t : Ty3) : loopOf (Fv.R0 n) m (Fv.l8_0.shape t) = (Fv.l8_0.m n m t).map Fv.l8_0.res :=
  loop_map (fun _ _ => Fv.l8_0.rmap) (fun _ _ => Fv.l8_0.round) (fun _ => rfl) (fun _ _ => by kernel_rfl) m t
theorem Fv.run : runS (Fv.C n) (Fv.A n) n Tryz.f3 (Fv.shape t) = (Fv.m n t).map Fv.res :=
  (show _ = Fv.g (fun a0 => Fv.res a0) n t.1 t.2.1 t.2.2.1 t.2.2.2.1 t.w from by kernel_rfl).trans (by
    unfold Fv.m Fv.g
    exact (bindO_map fun r2 => (ite_map rfl (bindO_map fun r6 => (bindO_map fun r8 => (bindO_map fun r10 => match r10 with | (.inl r10) => rfl | (.inr r10) => (ite_map (ite_map rfl (bindO_map fun r18 => rfl)) (bindO_map fun r16 => rfl))))))))
theorem Fv.call (hmix : HM) (n : Nat) (t : (LI × (LI × (Int × (LI × LI))))) (u) (h : Fv.m n t = some u) : FnC Tryz.prog dskG 3 (Fv.shape t).1 (Fv.shape t).2 (Fv.res u).1 (Fv.res u).2 :=
  fnC2 (C := Fv.C n) (A := Fv.A n) (fn := Tryz.f3) rfl (.cons (Fba.s hmix n) (.cons (Far.s hmix n) (.cons (Fae.s hmix n) (.cons (Fbd.s hmix n) .nil)))) hmix Tryz.func3 (by kernel_rfl) (lp := [Fv.b0]) (by kernel_rfl) (.cons (show (Fv.A n).loop (key Fv.b0) = some (.mk' Fv.l8_0.pat (Fv.l8_0.m n n) Fv.l8_0.resK) by kernel_rfl) (LoopS.of (res := Fv.l8_0.res) (fun R u K => by rcases u with u | u <;> rfl) Fv.l8_0.pat_shape fun t => Fv.l8_0.loop n n t)
  .nil)
  (nj rfl) (by decide) rfl rfl (by show 5 ≤ Tryz.f3.ntmps; decide) Fv.run h
