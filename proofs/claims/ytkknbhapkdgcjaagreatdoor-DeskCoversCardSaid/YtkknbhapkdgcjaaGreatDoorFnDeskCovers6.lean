/- What the program's functions compute, as plain functions, each with its proof: the function does just that. Condition: the plain function has an answer. -/
import Derived.Test.YtkknbhapkdgcjaaGreatDoorFnDeskCovers2
import Derived.Test.YtkknbhapkdgcjaaGreatDoorFnDeskCovers1
import Derived.Test.YtkknbhapkdgcjaaGreatDoorFnDeskCovers3
import Derived.Test.YtkknbhapkdgcjaaGreatDoorFnDeskCovers4
import Derived.Test.YtkknbhapkdgcjaaGreatDoorFnDeskCovers5
set_option linter.unusedVariables false
set_option linter.unusedSimpArgs false
set_option maxRecDepth 100000
open Go Go.Abs Go.Proofs
set_option autoImplicit true
set_option relaxedAutoImplicit true
noncomputable section
noncomputable abbrev Fbk.R0 (n : Nat) := zT (Fbk.C n) (Fbk.A n) n Fbk.b0
noncomputable abbrev Fbk.R1 (n : Nat) := zT (Fbk.C n) (Fbk.A n) n Fbk.b1
def Fbk.l2.T {α : Type} (mk0 : LI → α) (n : Nat) (f : LI → Option α) (t : LI) : Option α := Fbk.l2.r mk0 n (fun y0 => f y0) t
theorem Fbk.l2.e : (Fbk.l2.T (fun a0 => a0) n f t).map Fbk.l2.res = Fbk.l2.T (fun a0 => Fbk.l2.res a0) n (fun y => (f y).map Fbk.l2.res) t := by
  unfold Fbk.l2.T Fbk.l2.r
  exact Eq.symm (zB (zB rfl rfl) rfl)
theorem Fbk.l2.q : ∀ st t, Fbk.l2.pat st = some t → st = Fbk.l2.shape t := fun _ _ h => by unfold Fbk.l2.pat at h; split at h <;> cases h; rfl
theorem Fbk.l2.d : Fbk.R0 n rc (Fbk.l2.shape t) = Fbk.l2.T (fun a0 => Fbk.l2.res a0) n (fun y => rc (Fbk.l2.shape y)) t := by kernel_rfl
theorem Fbk.l2.loop (n m : Nat) (t : LI) : zS (Fbk.R0 n) m (Fbk.l2.shape t) = (Fbk.l2.m n m t).map Fbk.l2.res :=
  zN (fun _ _ => Fbk.l2.e) (fun _ _ => Fbk.l2.d) (fun _ => rfl) (fun _ _ => by kernel_rfl) m t
def Fbk.l7.T {α : Type} (mk0 : LI → α) (n : Nat) (f : (Int × (Int × (Int × LI))) → Option α) (t : (Int × (Int × (Int × LI)))) : Option α := Fbk.l7.r mk0 n (fun y0 y1 y2 y3 => f (y0, y1, y2, y3)) t.1 t.2.1 t.2.2.1 t.2.2.2
theorem Fbk.l7.e : (Fbk.l7.T (fun a0 => a0) n f t).map Fbk.l7.res = Fbk.l7.T (fun a0 => Fbk.l7.res a0) n (fun y => (f y).map Fbk.l7.res) t := by
  unfold Fbk.l7.T Fbk.l7.r
  exact Eq.symm (zB (zB (zB rfl rfl) rfl) rfl)
theorem Fbk.l7.q : ∀ st t, Fbk.l7.pat st = some t → st = Fbk.l7.shape t := fun _ _ h => by unfold Fbk.l7.pat at h; split at h <;> cases h; rfl
theorem Fbk.l7.d : Fbk.R1 n rc (Fbk.l7.shape t) = Fbk.l7.T (fun a0 => Fbk.l7.res a0) n (fun y => rc (Fbk.l7.shape y)) t := by kernel_rfl
theorem Fbk.l7.loop (n m : Nat) (t : (Int × (Int × (Int × LI)))) : zS (Fbk.R1 n) m (Fbk.l7.shape t) = (Fbk.l7.m n m t).map Fbk.l7.res :=
  zN (fun _ _ => Fbk.l7.e) (fun _ _ => Fbk.l7.d) (fun _ => rfl) (fun _ _ => by kernel_rfl) m t
theorem Fbk.run : yC (Fbk.C n) (Fbk.A n) n Tryz.f58 (Fbk.shape t) = (Fbk.m n t).map Fbk.res :=
  (show _ = Fbk.g (fun a0 => Fbk.res a0) n  from by kernel_rfl).trans (by
    unfold Fbk.m Fbk.g
    exact (zA fun r2 => (zA fun r4 => rfl)))
theorem Fbk.s (hmix : HM) (n : Nat) : zE Tryz.prog zI 58 (Fbk.c n) :=
  .mkF (res := Fbk.res) (shape := Fbk.shape) (C := Fbk.C n) (A := Fbk.A n) (fun R u K => rfl) (fun _ _ _ h => by unfold Fbk.pat at h; split at h <;> cases h; rfl) rfl .nil hmix Tryz.func58 (by kernel_rfl) (lp := [Fbk.b0, Fbk.b1]) (by kernel_rfl) (.cons (show (Fbk.A n).loop (key Fbk.b0) = some (.mk' Fbk.l2.pat (Fbk.l2.m n n) (zQ Fbk.l2.res)) by kernel_rfl) (z5.of (res := Fbk.l2.res) (fun R u K => rfl) Fbk.l2.q fun t => Fbk.l2.loop n n t)
  (.cons (show (Fbk.A n).loop (key Fbk.b1) = some (.mk' Fbk.l7.pat (Fbk.l7.m n n) (zQ Fbk.l7.res)) by kernel_rfl) (z5.of (res := Fbk.l7.res) (fun R u K => rfl) Fbk.l7.q fun t => Fbk.l7.loop n n t)
  .nil))
  (nj rfl) (by decide) (fun _ => rfl) rfl (fun _ => by show 0 ≤ Tryz.f58.ntmps; decide) (fun _ => Fbk.run)
noncomputable abbrev Fcc.R0 (n : Nat) := zT (Fcc.C n) (Fcc.A n) n Fcc.b0
noncomputable abbrev Fcc.R1 (n : Nat) := zT (Fcc.C n) (Fcc.A n) n Fcc.b1
def Fcc.l9.T {α : Type} (mk0 : Int → Int → Int → LI → α) (n : Nat) (f : zLH → Option α) (t : zLH) : Option α := Fcc.l9.r mk0 n (fun y0 y1 y2 y3 y4 y5 => f (y0, y1, y2, y3, y4, y5)) t.1 t.2.1 t.2.2.1 t.2.2.2.1 t.w.1 t.w.2
theorem Fcc.l9.e : (Fcc.l9.T (fun a0 a1 a2 a3 => (a0, a1, a2, a3)) n f t).map Fcc.l9.res = Fcc.l9.T (fun a0 a1 a2 a3 => Fcc.l9.res (a0, a1, a2, a3)) n (fun y => (f y).map Fcc.l9.res) t := by
  unfold Fcc.l9.T Fcc.l9.r
  exact Eq.symm (zB (zB (zB (zB rfl rfl) rfl) (zB rfl rfl)) rfl)
theorem Fcc.l9.q : ∀ st t, Fcc.l9.pat st = some t → st = Fcc.l9.shape t := fun _ _ h => by unfold Fcc.l9.pat at h; split at h <;> cases h; rfl
theorem Fcc.l9.d : Fcc.R1 n rc (Fcc.l9.shape t) = Fcc.l9.T (fun a0 a1 a2 a3 => Fcc.l9.res (a0, a1, a2, a3)) n (fun y => rc (Fcc.l9.shape y)) t := by kernel_rfl
theorem Fcc.l9.loop (n m : Nat) (t : zLH) : zS (Fcc.R1 n) m (Fcc.l9.shape t) = (Fcc.l9.m n m t).map Fcc.l9.res :=
  zN (fun _ _ => Fcc.l9.e) (fun _ _ => Fcc.l9.d) (fun _ => rfl) (fun _ _ => by kernel_rfl) m t
def Fcc.l4.T {α : Type} (mk0 : LI → α) (n : Nat) (f : (Int × (Int × LI)) → Option α) (t : (Int × (Int × LI))) : Option α := Fcc.l4.r mk0 n (fun y0 y1 y2 => f (y0, y1, y2)) t.1 t.2.1 t.2.2
theorem Fcc.l4.e : (Fcc.l4.T (fun a0 => a0) n f t).map Fcc.l4.res = Fcc.l4.T (fun a0 => Fcc.l4.res a0) n (fun y => (f y).map Fcc.l4.res) t := by
  unfold Fcc.l4.T Fcc.l4.r
  exact Eq.symm (zB (zA fun r6 => (zB rfl rfl)) rfl)
theorem Fcc.l4.q : ∀ st t, Fcc.l4.pat st = some t → st = Fcc.l4.shape t := fun _ _ h => by unfold Fcc.l4.pat at h; split at h <;> cases h; rfl
theorem Fcc.l4.d : Fcc.R0 n rc (Fcc.l4.shape t) = Fcc.l4.T (fun a0 => Fcc.l4.res a0) n (fun y => rc (Fcc.l4.shape y)) t := by kernel_rfl
theorem Fcc.l4.loop (n m : Nat) (t : (Int × (Int × LI))) : zS (Fcc.R0 n) m (Fcc.l4.shape t) = (Fcc.l4.m n m t).map Fcc.l4.res :=
  zN (fun _ _ => Fcc.l4.e) (fun _ _ => Fcc.l4.d) (fun _ => rfl) (fun _ _ => by kernel_rfl) m t
theorem Fcc.run : yC (Fcc.C n) (Fcc.A n) n Tryz.f59 (Fcc.shape t) = (Fcc.m n t).map Fcc.res :=
  (show _ = Fcc.g (fun a0 => Fcc.res a0) n  from by kernel_rfl).trans (by
    unfold Fcc.m Fcc.g
    exact (zA fun r2 => rfl))
theorem Fcc.s (hmix : HM) (n : Nat) : zE Tryz.prog zI 59 (Fcc.c n) :=
  .mkF (res := Fcc.res) (shape := Fcc.shape) (C := Fcc.C n) (A := Fcc.A n) (fun R u K => rfl) (fun _ _ _ h => by unfold Fcc.pat at h; split at h <;> cases h; rfl) rfl .nil hmix Tryz.func59 (by kernel_rfl) (lp := [Fcc.b0, Fcc.b1]) (by kernel_rfl) (.cons (show (Fcc.A n).loop (key Fcc.b0) = some (.mk' Fcc.l4.pat (Fcc.l4.m n n) (zQ Fcc.l4.res)) by kernel_rfl) (z5.of (res := Fcc.l4.res) (fun R u K => rfl) Fcc.l4.q fun t => Fcc.l4.loop n n t)
  (.cons (show (Fcc.A n).loop (key Fcc.b1) = some (.mk' Fcc.l9.pat (Fcc.l9.m n n) (zQ Fcc.l9.res)) by kernel_rfl) (z5.of (res := Fcc.l9.res) (fun R u K => rfl) Fcc.l9.q fun t => Fcc.l9.loop n n t)
  .nil))
  (nj rfl) (by decide) (fun _ => rfl) rfl (fun _ => by show 0 ≤ Tryz.f59.ntmps; decide) (fun _ => Fcc.run)
theorem Fcg.run : yC (Fcg.C n) (Fcg.A n) n Tryz.f78 (Fcg.shape t) = (Fcg.m n t).map Fcg.res :=
  (show _ = Fcg.g (fun a0 => Fcg.res a0) n t.1 t.2 from by kernel_rfl).trans (by
    unfold Fcg.m Fcg.g
    exact (zB rfl (zB (zB rfl rfl) rfl)))
theorem Fcg.s (hmix : HM) (n : Nat) : zE Tryz.prog zI 78 (Fcg.c n) :=
  .mkF (res := Fcg.res) (shape := Fcg.shape) (C := Fcg.C n) (A := Fcg.A n) (fun R u K => rfl) (fun _ _ _ h => by unfold Fcg.pat at h; split at h <;> cases h; rfl) rfl .nil hmix Tryz.func78 (by kernel_rfl) (lp := []) (by kernel_rfl) .nil
  (nj rfl) (by decide) (fun _ => rfl) rfl (fun _ => by show 2 ≤ Tryz.f78.ntmps; decide) (fun _ => Fcg.run)
noncomputable abbrev Fch.R0 (n : Nat) := zT (Fch.C n) (Fch.A n) n Fch.b0
noncomputable abbrev Fch.R1 (n : Nat) := zT (Fch.C n) (Fch.A n) n Fch.b1
noncomputable abbrev Fch.R2 (n : Nat) := zT (Fch.C n) (Fch.A n) n Fch.b2
noncomputable abbrev Fch.R3 (n : Nat) := zT (Fch.C n) (Fch.A n) n Fch.b3
noncomputable abbrev Fch.R4 (n : Nat) := zT (Fch.C n) (Fch.A n) n Fch.b4
noncomputable abbrev Fch.R5 (n : Nat) := zT (Fch.C n) (Fch.A n) n Fch.b5
def Fch.l6.T {α : Type} (mk0 : LI → LI → LI → Int → LI → α) (n : Nat) (f : (Int × (LI × (LI × (LI × (Int × LI))))) → Option α) (t : (Int × (LI × (LI × (LI × (Int × LI)))))) : Option α := Fch.l6.r mk0 n (fun y0 y1 y2 y3 y4 y5 => f (y0, y1, y2, y3, y4, y5)) t.1 t.2.1 t.2.2.1 t.2.2.2.1 t.w.1 t.w.2
theorem Fch.l6.e : (Fch.l6.T (fun a0 a1 a2 a3 a4 => (a0, a1, a2, a3, a4)) n f t).map Fch.l6.res = Fch.l6.T (fun a0 a1 a2 a3 a4 => Fch.l6.res (a0, a1, a2, a3, a4)) n (fun y => (f y).map Fch.l6.res) t := by
  unfold Fch.l6.T Fch.l6.r
  exact Eq.symm (zB (zB (zB (zB (zB (zB (zB (zB (zB (zB (zB (zB rfl rfl) rfl) rfl) rfl) rfl) rfl) rfl) rfl) rfl) rfl) rfl) rfl)
theorem Fch.l6.q : ∀ st t, Fch.l6.pat st = some t → st = Fch.l6.shape t := fun _ _ h => by unfold Fch.l6.pat at h; split at h <;> cases h; rfl
theorem Fch.l6.d : Fch.R1 n rc (Fch.l6.shape t) = Fch.l6.T (fun a0 a1 a2 a3 a4 => Fch.l6.res (a0, a1, a2, a3, a4)) n (fun y => rc (Fch.l6.shape y)) t := by kernel_rfl
theorem Fch.l6.loop (n m : Nat) (t : (Int × (LI × (LI × (LI × (Int × LI)))))) : zS (Fch.R1 n) m (Fch.l6.shape t) = (Fch.l6.m n m t).map Fch.l6.res :=
  zN (fun _ _ => Fch.l6.e) (fun _ _ => Fch.l6.d) (fun _ => rfl) (fun _ _ => by kernel_rfl) m t
def Fch.l15.T {α : Type} (mk0 : Int → LI → LI → LI → Int → LI → LI → α) (n : Nat) (f : zLM → Option α) (t : zLM) : Option α := Fch.l15.r mk0 n (fun y0 y1 y2 y3 y4 y5 y6 y7 y8 => f (y0, y1, y2, y3, y4, y5, y6, y7, y8)) t.1 t.2.1 t.2.2.1 t.2.2.2.1 t.w.1 t.w.2.1 t.w.2.2.1 t.w.2.2.2.1 t.x
theorem Fch.l15.e : (Fch.l15.T (fun a0 a1 a2 a3 a4 a5 a6 => (a0, a1, a2, a3, a4, a5, a6)) n f t).map Fch.l15.res = Fch.l15.T (fun a0 a1 a2 a3 a4 a5 a6 => Fch.l15.res (a0, a1, a2, a3, a4, a5, a6)) n (fun y => (f y).map Fch.l15.res) t := by
  unfold Fch.l15.T Fch.l15.r
  exact Eq.symm (zB (zB (zB (zB (zB (zA fun r14 => (zB (zB rfl rfl) rfl)) rfl) rfl) rfl) rfl) rfl)
theorem Fch.l15.q : ∀ st t, Fch.l15.pat st = some t → st = Fch.l15.shape t := fun _ _ h => by unfold Fch.l15.pat at h; split at h <;> cases h; rfl
theorem Fch.l15.d : Fch.R3 n rc (Fch.l15.shape t) = Fch.l15.T (fun a0 a1 a2 a3 a4 a5 a6 => Fch.l15.res (a0, a1, a2, a3, a4, a5, a6)) n (fun y => rc (Fch.l15.shape y)) t := by kernel_rfl
theorem Fch.l15.loop (n m : Nat) (t : zLM) : zS (Fch.R3 n) m (Fch.l15.shape t) = (Fch.l15.m n m t).map Fch.l15.res :=
  zN (fun _ _ => Fch.l15.e) (fun _ _ => Fch.l15.d) (fun _ => rfl) (fun _ _ => by kernel_rfl) m t
theorem Fch.l11.e {α β : Type} (h : β → α) (mk0 : LI → Int → LI → LI → β) (n : Nat) (f : Int → LI → LI → LI → Int → LI → LI → Option β)  (x0 : Int) (x1 x2 x3 : LI) (x4 : Int) (x5 x6 : LI) : Fch.l11.r (fun a0 a1 a2 a3 => (h (mk0 a0 a1 a2 a3))) n (fun y0 y1 y2 y3 y4 y5 y6 => (f y0 y1 y2 y3 y4 y5 y6).map h) x0 x1 x2 x3 x4 x5 x6 = (Fch.l11.r mk0 n f x0 x1 x2 x3 x4 x5 x6).map h := by
  unfold Fch.l11.r
  exact (zB (zB (zB (zB (zB (zA fun r14 => (zA fun r16 => rfl)) rfl) rfl) rfl) rfl) rfl)
theorem Fch.l11.gmap {α β : Type} (h : β → α) (mk0 : LI → Int → LI → LI → β) (n : Nat) : ∀ (m : Nat) (x0 : Int) (x1 x2 x3 : LI) (x4 : Int) (x5 x6 : LI), Fch.l11.g (fun a0 a1 a2 a3 => (h (mk0 a0 a1 a2 a3))) n m x0 x1 x2 x3 x4 x5 x6 = (Fch.l11.g mk0 n m x0 x1 x2 x3 x4 x5 x6).map h
  | 0, _, _, _, _, _, _, _ => rfl
  | m + 1, x0, x1, x2, x3, x4, x5, x6 => by
    unfold Fch.l11.g
    rw [← Fch.l11.e]
    congr
    · funext y0 y1 y2 y3 y4 y5 y6; exact Fch.l11.gmap h mk0 n m y0 y1 y2 y3 y4 y5 y6
theorem Fch.l11.q : ∀ st t, Fch.l11.pat st = some t → st = Fch.l11.shape t := fun _ _ h => by unfold Fch.l11.pat at h; split at h <;> cases h; rfl
def Fch.l11.k0 : LI → Int → LI → LI → Ex × St := (fun a0 a1 a2 a3 => (((.exit 4), (St.mk [(.own 0 1), (.rints .u64 a0), (.int .i64 a1), (.rints .i64 a2)] [(some (.ints .u64 a3))])) : Ex × St))
theorem Fch.l11.d (n : Nat) (rc : St → Option (Ex × St)) (x0 : Int) (x1 x2 x3 : LI) (x4 : Int) (x5 x6 : LI) : Fch.R2 n rc ((St.mk [(.int .i64 x0), (.own 0 1), (.own 1 1), (.rints .u64 x1), (.rints .i64 x2), (.rints .u64 x3), (.int .i64 x4)] [(some (.ints .u64 x5)), (some (.ints .u64 x6))])) = Fch.l11.r Fch.l11.k0 n (fun y0 y1 y2 y3 y4 y5 y6 => rc ((St.mk [(.int .i64 y0), (.own 0 1), (.own 1 1), (.rints .u64 y1), (.rints .i64 y2), (.rints .u64 y3), (.int .i64 y4)] [(some (.ints .u64 y5)), (some (.ints .u64 y6))]))) x0 x1 x2 x3 x4 x5 x6 := by kernel_rfl
theorem Fch.l11.loop' (n : Nat) : ∀ (m : Nat) (t : zKs), zS (Fch.R2 n) m (Fch.l11.shape t) = Fch.l11.g Fch.l11.k0 n m t.1 t.2.1 t.2.2.1 t.2.2.2.1 t.w.1 t.w.2.1 t.w.2.2 :=
  wT (shape := Fch.l11.shape) (body := Fch.R2 n) (g := fun m t => Fch.l11.g Fch.l11.k0 n m t.1 t.2.1 t.2.2.1 t.2.2.2.1 t.w.1 t.w.2.1 t.w.2.2) (fun t => rfl)
    fun m t ih => (Fch.l11.d n (zS (Fch.R2 n) m) t.1 t.2.1 t.2.2.1 t.2.2.2.1 t.w.1 t.w.2.1 t.w.2.2).trans (congrFun (congrFun (congrFun (congrFun (congrFun (congrFun (congrFun (congrArg (Fch.l11.r Fch.l11.k0 n) (funext fun y0 => funext fun y1 => funext fun y2 => funext fun y3 => funext fun y4 => funext fun y5 => funext fun y6 => ih (y0, y1, y2, y3, y4, y5, y6))) t.1) t.2.1) t.2.2.1) t.2.2.2.1) t.w.1) t.w.2.1) t.w.2.2)
theorem Fch.l11.loop (n m : Nat) (t : zKs) : zS (Fch.R2 n) m (Fch.l11.shape t) = (Fch.l11.m n m t).map Fch.l11.res :=
  (Fch.l11.loop' n m t).trans (Fch.l11.gmap Fch.l11.res (fun a0 a1 a2 a3 => (a0, a1, a2, a3)) n m t.1 t.2.1 t.2.2.1 t.2.2.2.1 t.w.1 t.w.2.1 t.w.2.2)
def Fch.l23.T {α : Type} (mk0 : Int → LI → Int → LI → LI → LI → α) (n : Nat) (f : zLI → Option α) (t : zLI) : Option α := Fch.l23.r mk0 n (fun y0 y1 y2 y3 y4 y5 y6 => f (y0, y1, y2, y3, y4, y5, y6)) t.1 t.2.1 t.2.2.1 t.2.2.2.1 t.w.1 t.w.2.1 t.w.2.2
theorem Fch.l23.e : (Fch.l23.T (fun a0 a1 a2 a3 a4 a5 => (a0, a1, a2, a3, a4, a5)) n f t).map Fch.l23.res = Fch.l23.T (fun a0 a1 a2 a3 a4 a5 => Fch.l23.res (a0, a1, a2, a3, a4, a5)) n (fun y => (f y).map Fch.l23.res) t := by
  unfold Fch.l23.T Fch.l23.r
  exact Eq.symm (zB (zB (zB (zB (zB (zB (zB (zB rfl rfl) rfl) rfl) rfl) rfl) rfl) rfl) rfl)
theorem Fch.l23.q : ∀ st t, Fch.l23.pat st = some t → st = Fch.l23.shape t := fun _ _ h => by unfold Fch.l23.pat at h; split at h <;> cases h; rfl
theorem Fch.l23.d : Fch.R5 n rc (Fch.l23.shape t) = Fch.l23.T (fun a0 a1 a2 a3 a4 a5 => Fch.l23.res (a0, a1, a2, a3, a4, a5)) n (fun y => rc (Fch.l23.shape y)) t := by kernel_rfl
theorem Fch.l23.loop (n m : Nat) (t : zLI) : zS (Fch.R5 n) m (Fch.l23.shape t) = (Fch.l23.m n m t).map Fch.l23.res :=
  zN (fun _ _ => Fch.l23.e) (fun _ _ => Fch.l23.d) (fun _ => rfl) (fun _ _ => by kernel_rfl) m t
def Fch.l20.T {α : Type} (mk0 : LI → Int → LI → LI → α) (n : Nat) (f : (Int × (LI × (Int × (LI × (LI × LI))))) → Option α) (t : (Int × (LI × (Int × (LI × (LI × LI)))))) : Option α := Fch.l20.r mk0 n (fun y0 y1 y2 y3 y4 y5 => f (y0, y1, y2, y3, y4, y5)) t.1 t.2.1 t.2.2.1 t.2.2.2.1 t.w.1 t.w.2
theorem Fch.l20.e : (Fch.l20.T (fun a0 a1 a2 a3 => (a0, a1, a2, a3)) n f t).map Fch.l20.res = Fch.l20.T (fun a0 a1 a2 a3 => Fch.l20.res (a0, a1, a2, a3)) n (fun y => (f y).map Fch.l20.res) t := by
  unfold Fch.l20.T Fch.l20.r
  exact Eq.symm (zB (zA fun r6 => rfl) rfl)
theorem Fch.l20.q : ∀ st t, Fch.l20.pat st = some t → st = Fch.l20.shape t := fun _ _ h => by unfold Fch.l20.pat at h; split at h <;> cases h; rfl
theorem Fch.l20.d : Fch.R4 n rc (Fch.l20.shape t) = Fch.l20.T (fun a0 a1 a2 a3 => Fch.l20.res (a0, a1, a2, a3)) n (fun y => rc (Fch.l20.shape y)) t := by kernel_rfl
theorem Fch.l20.loop (n m : Nat) (t : (Int × (LI × (Int × (LI × (LI × LI)))))) : zS (Fch.R4 n) m (Fch.l20.shape t) = (Fch.l20.m n m t).map Fch.l20.res :=
  zN (fun _ _ => Fch.l20.e) (fun _ _ => Fch.l20.d) (fun _ => rfl) (fun _ _ => by kernel_rfl) m t
def Fch.l6v1.T {α : Type} (mk0 : LI → LI → Int → LI → LI → α) (n : Nat) (f : (Int × (LI × (LI × (Int × (LI × LI))))) → Option α) (t : (Int × (LI × (LI × (Int × (LI × LI)))))) : Option α := Fch.l6v1.r mk0 n (fun y0 y1 y2 y3 y4 y5 => f (y0, y1, y2, y3, y4, y5)) t.1 t.2.1 t.2.2.1 t.2.2.2.1 t.w.1 t.w.2
theorem Fch.l6v1.e : (Fch.l6v1.T (fun a0 a1 a2 a3 a4 => (a0, a1, a2, a3, a4)) n f t).map Fch.l6v1.res = Fch.l6v1.T (fun a0 a1 a2 a3 a4 => Fch.l6v1.res (a0, a1, a2, a3, a4)) n (fun y => (f y).map Fch.l6v1.res) t := by
  unfold Fch.l6v1.T Fch.l6v1.r
  exact Eq.symm (zB (zB (zB (zB (zB (zB (zB (zB (zB (zB (zB (zB rfl rfl) rfl) rfl) rfl) rfl) rfl) rfl) rfl) rfl) rfl) rfl) rfl)
theorem Fch.l6v1.q : ∀ st t, Fch.l6v1.pat st = some t → st = Fch.l6v1.shape t := fun _ _ h => by unfold Fch.l6v1.pat at h; split at h <;> cases h; rfl
theorem Fch.l6v1.d : Fch.R1 n rc (Fch.l6v1.shape t) = Fch.l6v1.T (fun a0 a1 a2 a3 a4 => Fch.l6v1.res (a0, a1, a2, a3, a4)) n (fun y => rc (Fch.l6v1.shape y)) t := by kernel_rfl
theorem Fch.l6v1.loop (n m : Nat) (t : (Int × (LI × (LI × (Int × (LI × LI)))))) : zS (Fch.R1 n) m (Fch.l6v1.shape t) = (Fch.l6v1.m n m t).map Fch.l6v1.res :=
  zN (fun _ _ => Fch.l6v1.e) (fun _ _ => Fch.l6v1.d) (fun _ => rfl) (fun _ _ => by kernel_rfl) m t
def Fch.l15v1.T {α : Type} (mk0 : Int → LI → LI → Int → LI → LI → LI → α) (n : Nat) (f : zLL → Option α) (t : zLL) : Option α := Fch.l15v1.r mk0 n (fun y0 y1 y2 y3 y4 y5 y6 y7 y8 => f (y0, y1, y2, y3, y4, y5, y6, y7, y8)) t.1 t.2.1 t.2.2.1 t.2.2.2.1 t.w.1 t.w.2.1 t.w.2.2.1 t.w.2.2.2.1 t.x
theorem Fch.l15v1.e : (Fch.l15v1.T (fun a0 a1 a2 a3 a4 a5 a6 => (a0, a1, a2, a3, a4, a5, a6)) n f t).map Fch.l15v1.res = Fch.l15v1.T (fun a0 a1 a2 a3 a4 a5 a6 => Fch.l15v1.res (a0, a1, a2, a3, a4, a5, a6)) n (fun y => (f y).map Fch.l15v1.res) t := by
  unfold Fch.l15v1.T Fch.l15v1.r
  exact Eq.symm (zB (zB (zB (zB (zB (zA fun r14 => (zB (zB rfl rfl) rfl)) rfl) rfl) rfl) rfl) rfl)
theorem Fch.l15v1.q : ∀ st t, Fch.l15v1.pat st = some t → st = Fch.l15v1.shape t := fun _ _ h => by unfold Fch.l15v1.pat at h; split at h <;> cases h; rfl
theorem Fch.l15v1.d : Fch.R3 n rc (Fch.l15v1.shape t) = Fch.l15v1.T (fun a0 a1 a2 a3 a4 a5 a6 => Fch.l15v1.res (a0, a1, a2, a3, a4, a5, a6)) n (fun y => rc (Fch.l15v1.shape y)) t := by kernel_rfl
theorem Fch.l15v1.loop (n m : Nat) (t : zLL) : zS (Fch.R3 n) m (Fch.l15v1.shape t) = (Fch.l15v1.m n m t).map Fch.l15v1.res :=
  zN (fun _ _ => Fch.l15v1.e) (fun _ _ => Fch.l15v1.d) (fun _ => rfl) (fun _ _ => by kernel_rfl) m t
def Fch.l11v1.T {α : Type} (mk0 : LI → Int → LI → LI → α) (n : Nat) (f : zJK → Option α) (t : zJK) : Option α := Fch.l11v1.r mk0 n (fun y0 y1 y2 y3 y4 y5 y6 => f (y0, y1, y2, y3, y4, y5, y6)) t.1 t.2.1 t.2.2.1 t.2.2.2.1 t.w.1 t.w.2.1 t.w.2.2
theorem Fch.l11v1.e : (Fch.l11v1.T (fun a0 a1 a2 a3 => (a0, a1, a2, a3)) n f t).map Fch.l11v1.res = Fch.l11v1.T (fun a0 a1 a2 a3 => Fch.l11v1.res (a0, a1, a2, a3)) n (fun y => (f y).map Fch.l11v1.res) t := by
  unfold Fch.l11v1.T Fch.l11v1.r
  exact Eq.symm (zB (zB (zB (zB (zB (zA fun r14 => (zA fun r16 => rfl)) rfl) rfl) rfl) rfl) rfl)
theorem Fch.l11v1.q : ∀ st t, Fch.l11v1.pat st = some t → st = Fch.l11v1.shape t := fun _ _ h => by unfold Fch.l11v1.pat at h; split at h <;> cases h; rfl
theorem Fch.l11v1.d : Fch.R2 n rc (Fch.l11v1.shape t) = Fch.l11v1.T (fun a0 a1 a2 a3 => Fch.l11v1.res (a0, a1, a2, a3)) n (fun y => rc (Fch.l11v1.shape y)) t := by kernel_rfl
theorem Fch.l11v1.loop (n m : Nat) (t : zJK) : zS (Fch.R2 n) m (Fch.l11v1.shape t) = (Fch.l11v1.m n m t).map Fch.l11v1.res :=
  zN (fun _ _ => Fch.l11v1.e) (fun _ _ => Fch.l11v1.d) (fun _ => rfl) (fun _ _ => by kernel_rfl) m t
theorem Fch.l2_1.e {α β : Type} (h : β → α) (mk0 : LI → β) (mk1 : LI → β) (n : Nat) (f : Int → LI → LI → LI → Option β)  (x0 : Int) (x1 x2 x3 : LI) : Fch.l2_1.r (fun a0 => (h (mk0 a0))) (fun a0 => (h (mk1 a0))) n (fun y0 y1 y2 y3 => (f y0 y1 y2 y3).map h) x0 x1 x2 x3 = (Fch.l2_1.r mk0 mk1 n f x0 x1 x2 x3).map h := by
  unfold Fch.l2_1.r
  exact (zB (zA fun r6 => (zA fun r8 => (zA fun r10 => (zB (zB (zB (zB rfl rfl) rfl) rfl) rfl)))) rfl)
theorem Fch.l2_1.gmap {α β : Type} (h : β → α) (mk0 : LI → β) (mk1 : LI → β) (n : Nat) : ∀ (m : Nat) (x0 : Int) (x1 x2 x3 : LI), Fch.l2_1.g (fun a0 => (h (mk0 a0))) (fun a0 => (h (mk1 a0))) n m x0 x1 x2 x3 = (Fch.l2_1.g mk0 mk1 n m x0 x1 x2 x3).map h
  | 0, _, _, _, _ => rfl
  | m + 1, x0, x1, x2, x3 => by
    unfold Fch.l2_1.g
    rw [← Fch.l2_1.e]
    congr
    · funext y0 y1 y2 y3; exact Fch.l2_1.gmap h mk0 mk1 n m y0 y1 y2 y3
def Fch.l2_1.k0 : LI → Ex × St := (fun a0 => (((.exit 0), (St.mk [(.own 0 1)] [(some (.ints .u64 a0))])) : Ex × St))
def Fch.l2_1.k1 : LI → Ex × St := (fun a0 => (((.exit 0), (St.mk [(.rints .u64 a0)] [])) : Ex × St))
theorem Fch.l2_1.d (n : Nat) (rc : St → Option (Ex × St)) (x0 : Int) (x1 x2 x3 : LI) : Fch.R0 n rc ((St.mk [(.int .i64 x0), (.own 0 1), (.rints .i64 x1), (.rints .u64 x2)] [(some (.ints .u64 x3))])) = Fch.l2_1.r Fch.l2_1.k0 Fch.l2_1.k1 n (fun y0 y1 y2 y3 => rc ((St.mk [(.int .i64 y0), (.own 0 1), (.rints .i64 y1), (.rints .u64 y2)] [(some (.ints .u64 y3))]))) x0 x1 x2 x3 := by kernel_rfl
theorem Fch.l2_1.loop' (n : Nat) : ∀ (m : Nat) (t : (Int × (LI × (LI × LI)))), zS (Fch.R0 n) m (Fch.l2_1.shape t) = Fch.l2_1.g Fch.l2_1.k0 Fch.l2_1.k1 n m t.1 t.2.1 t.2.2.1 t.2.2.2 :=
  wT (shape := Fch.l2_1.shape) (body := Fch.R0 n) (g := fun m t => Fch.l2_1.g Fch.l2_1.k0 Fch.l2_1.k1 n m t.1 t.2.1 t.2.2.1 t.2.2.2) (fun t => rfl)
    fun m t ih => (Fch.l2_1.d n (zS (Fch.R0 n) m) t.1 t.2.1 t.2.2.1 t.2.2.2).trans (congrFun (congrFun (congrFun (congrFun (congrArg (Fch.l2_1.r Fch.l2_1.k0 Fch.l2_1.k1 n) (funext fun y0 => funext fun y1 => funext fun y2 => funext fun y3 => ih (y0, y1, y2, y3))) t.1) t.2.1) t.2.2.1) t.2.2.2)
theorem Fch.l2.e {α β : Type} (h : β → α) (mk0 : LI → β) (mk1 : LI → β) (n : Nat) (f : Int → LI → LI → LI → Option β) (f0 : Int → LI → LI → LI → Option β) (x0 : Int) (x1 x2 x3 : LI) : Fch.l2.r (fun a0 => (h (mk0 a0))) (fun a0 => (h (mk1 a0))) n (fun y0 y1 y2 y3 => (f y0 y1 y2 y3).map h) (fun y0 y1 y2 y3 => (f0 y0 y1 y2 y3).map h) x0 x1 x2 x3 = (Fch.l2.r mk0 mk1 n f f0 x0 x1 x2 x3).map h := by
  unfold Fch.l2.r
  exact (zB (zA fun r6 => (zA fun r8 => (zA fun r10 => (zB (zB (zB (zB rfl rfl) rfl) rfl) rfl)))) rfl)
theorem Fch.l2.gmap {α β : Type} (h : β → α) (mk0 : LI → β) (mk1 : LI → β) (n : Nat) : ∀ (m : Nat) (x0 : Int) (x1 x2 x3 : LI), Fch.l2.g (fun a0 => (h (mk0 a0))) (fun a0 => (h (mk1 a0))) n m x0 x1 x2 x3 = (Fch.l2.g mk0 mk1 n m x0 x1 x2 x3).map h
  | 0, _, _, _, _ => rfl
  | m + 1, x0, x1, x2, x3 => by
    unfold Fch.l2.g
    rw [← Fch.l2.e]
    congr
    · funext y0 y1 y2 y3; exact Fch.l2.gmap h mk0 mk1 n m y0 y1 y2 y3
    · funext y0 y1 y2 y3; exact Fch.l2_1.gmap h mk0 mk1 n m y0 y1 y2 y3
theorem Fch.l2.q : ∀ st t, Fch.l2.pat st = some t → st = Fch.l2.shape t := fun _ _ h => by unfold Fch.l2.pat at h; split at h <;> cases h; rfl
theorem Fch.l2.d (n : Nat) (rc : St → Option (Ex × St)) (x0 : Int) (x1 x2 x3 : LI) : Fch.R0 n rc ((St.mk [(.int .i64 x0), (.rints .u64 x1), (.rints .i64 x2), (.rints .u64 x3)] [])) = Fch.l2.r Fch.l2_1.k0 Fch.l2_1.k1 n (fun y0 y1 y2 y3 => rc ((St.mk [(.int .i64 y0), (.rints .u64 y1), (.rints .i64 y2), (.rints .u64 y3)] []))) (fun y0 y1 y2 y3 => rc ((St.mk [(.int .i64 y0), (.own 0 1), (.rints .i64 y1), (.rints .u64 y2)] [(some (.ints .u64 y3))]))) x0 x1 x2 x3 := by kernel_rfl
theorem Fch.l2.loop' (n : Nat) : ∀ (m : Nat) (t : (Int × (LI × (LI × LI)))), zS (Fch.R0 n) m (Fch.l2.shape t) = Fch.l2.g Fch.l2_1.k0 Fch.l2_1.k1 n m t.1 t.2.1 t.2.2.1 t.2.2.2 :=
  wT (shape := Fch.l2.shape) (body := Fch.R0 n) (g := fun m t => Fch.l2.g Fch.l2_1.k0 Fch.l2_1.k1 n m t.1 t.2.1 t.2.2.1 t.2.2.2) (fun t => rfl)
    fun m t ih => (Fch.l2.d n (zS (Fch.R0 n) m) t.1 t.2.1 t.2.2.1 t.2.2.2).trans (congrFun (congrFun (congrFun (congrFun (congr (congrArg (Fch.l2.r Fch.l2_1.k0 Fch.l2_1.k1 n) (funext fun y0 => funext fun y1 => funext fun y2 => funext fun y3 => ih (y0, y1, y2, y3))) (funext fun y0 => funext fun y1 => funext fun y2 => funext fun y3 => Fch.l2_1.loop' n m (y0, y1, y2, y3))) t.1) t.2.1) t.2.2.1) t.2.2.2)
theorem Fch.l2.loop (n m : Nat) (t : (Int × (LI × (LI × LI)))) : zS (Fch.R0 n) m (Fch.l2.shape t) = (Fch.l2.m n m t).map Fch.l2.res :=
  (Fch.l2.loop' n m t).trans (Fch.l2.gmap Fch.l2.res (fun a0 => (.inl a0)) (fun a0 => (.inr a0)) n m t.1 t.2.1 t.2.2.1 t.2.2.2)
theorem Fch.run : yC (Fch.C n) (Fch.A n) n Tryz.f60 (Fch.shape t) = (Fch.m n t).map Fch.res :=
  (show _ = Fch.g (fun a0 => Fch.res (.inl a0)) (fun a0 => Fch.res (.inr a0)) n t.1 t.2.1 t.2.2 from by kernel_rfl).trans (by
    unfold Fch.m Fch.g
    exact (zA fun r2 => match r2 with | (.inl r2) => rfl | (.inr r2) => rfl))
theorem Fch.s (hmix : HM) (n : Nat) : zE Tryz.prog zI 60 (Fch.c n) :=
  .mkF (res := Fch.res) (shape := Fch.shape) (C := Fch.C n) (A := Fch.A n) (fun R u K => by rcases u with u | u <;> rfl) (fun _ _ _ h => by unfold Fch.pat at h; split at h <;> cases h; rfl) rfl (.cons (Fcg.s hmix n) .nil) hmix Tryz.func60 (by kernel_rfl) (lp := [Fch.b0, Fch.b1, Fch.b2, Fch.b3, Fch.b4, Fch.b5]) (by kernel_rfl) (.cons (show (Fch.A n).loop (key Fch.b0) = some (.mk' Fch.l2.pat (Fch.l2.m n n) Fch.l2.resK) by kernel_rfl) (z5.of (res := Fch.l2.res) (fun R u K => by rcases u with u | u <;> rfl) Fch.l2.q fun t => Fch.l2.loop n n t)
  (.cons (show (Fch.A n).loop (key Fch.b1) = some (.alt Fch.l6.pat (.mk' Fch.l6.pat (Fch.l6.m n n) (zQ Fch.l6.res)) (.mk' Fch.l6v1.pat (Fch.l6v1.m n n) (zQ Fch.l6v1.res))) by kernel_rfl) (z5.alt (z5.of (res := Fch.l6.res) (fun R u K => rfl) Fch.l6.q fun t => Fch.l6.loop n n t) (z5.of (res := Fch.l6v1.res) (fun R u K => rfl) Fch.l6v1.q fun t => Fch.l6v1.loop n n t))
  (.cons (show (Fch.A n).loop (key Fch.b2) = some (.alt Fch.l11.pat (.mk' Fch.l11.pat (Fch.l11.m n n) (zQ Fch.l11.res)) (.mk' Fch.l11v1.pat (Fch.l11v1.m n n) (zQ Fch.l11v1.res))) by kernel_rfl) (z5.alt (z5.of (res := Fch.l11.res) (fun R u K => rfl) Fch.l11.q fun t => Fch.l11.loop n n t) (z5.of (res := Fch.l11v1.res) (fun R u K => rfl) Fch.l11v1.q fun t => Fch.l11v1.loop n n t))
  (.cons (show (Fch.A n).loop (key Fch.b3) = some (.alt Fch.l15.pat (.mk' Fch.l15.pat (Fch.l15.m n n) (zQ Fch.l15.res)) (.mk' Fch.l15v1.pat (Fch.l15v1.m n n) (zQ Fch.l15v1.res))) by kernel_rfl) (z5.alt (z5.of (res := Fch.l15.res) (fun R u K => rfl) Fch.l15.q fun t => Fch.l15.loop n n t) (z5.of (res := Fch.l15v1.res) (fun R u K => rfl) Fch.l15v1.q fun t => Fch.l15v1.loop n n t))
  (.cons (show (Fch.A n).loop (key Fch.b4) = some (.mk' Fch.l20.pat (Fch.l20.m n n) (zQ Fch.l20.res)) by kernel_rfl) (z5.of (res := Fch.l20.res) (fun R u K => rfl) Fch.l20.q fun t => Fch.l20.loop n n t)
  (.cons (show (Fch.A n).loop (key Fch.b5) = some (.mk' Fch.l23.pat (Fch.l23.m n n) (zQ Fch.l23.res)) by kernel_rfl) (z5.of (res := Fch.l23.res) (fun R u K => rfl) Fch.l23.q fun t => Fch.l23.loop n n t)
  .nil))))))
  (nj rfl) (by decide) (fun _ => rfl) rfl (fun _ => by show 3 ≤ Tryz.f60.ntmps; decide) (fun _ => Fch.run)
noncomputable abbrev Fcd.R0 (n : Nat) := zT (Fcd.C n) (Fcd.A n) n Fcd.b0
def Fcd.l4.T {α : Type} (mk0 : LI → LI → α) (n : Nat) (f : (Int × (Int × (LI × (LI × LI)))) → Option α) (t : (Int × (Int × (LI × (LI × LI))))) : Option α := Fcd.l4.r mk0 n (fun y0 y1 y2 y3 y4 => f (y0, y1, y2, y3, y4)) t.1 t.2.1 t.2.2.1 t.2.2.2.1 t.w
theorem Fcd.l4.e : (Fcd.l4.T (fun a0 a1 => (a0, a1)) n f t).map Fcd.l4.res = Fcd.l4.T (fun a0 a1 => Fcd.l4.res (a0, a1)) n (fun y => (f y).map Fcd.l4.res) t := by
  unfold Fcd.l4.T Fcd.l4.r
  exact Eq.symm (zB (zB (zB (zB (zB (zB (zB (zB (zB rfl rfl) rfl) rfl) rfl) rfl) rfl) rfl) rfl) rfl)
theorem Fcd.l4.q : ∀ st t, Fcd.l4.pat st = some t → st = Fcd.l4.shape t := fun _ _ h => by unfold Fcd.l4.pat at h; split at h <;> cases h; rfl
theorem Fcd.l4.d : Fcd.R0 n rc (Fcd.l4.shape t) = Fcd.l4.T (fun a0 a1 => Fcd.l4.res (a0, a1)) n (fun y => rc (Fcd.l4.shape y)) t := by kernel_rfl
theorem Fcd.l4.loop (n m : Nat) (t : (Int × (Int × (LI × (LI × LI))))) : zS (Fcd.R0 n) m (Fcd.l4.shape t) = (Fcd.l4.m n m t).map Fcd.l4.res :=
  zN (fun _ _ => Fcd.l4.e) (fun _ _ => Fcd.l4.d) (fun _ => rfl) (fun _ _ => by kernel_rfl) m t
theorem Fcd.run : yC (Fcd.C n) (Fcd.A n) n Tryz.f61 (Fcd.shape t) = (Fcd.m n t).map Fcd.res :=
  (show _ = Fcd.g (fun a0 => Fcd.res a0) n t from by kernel_rfl).trans (by
    unfold Fcd.m Fcd.g
    exact (zA fun r2 => rfl))
theorem Fcd.s (hmix : HM) (n : Nat) : zE Tryz.prog zI 61 (Fcd.c n) :=
  .mkF (res := Fcd.res) (shape := Fcd.shape) (C := Fcd.C n) (A := Fcd.A n) (fun R u K => rfl) (fun _ _ _ h => by unfold Fcd.pat at h; split at h <;> cases h; rfl) rfl .nil hmix Tryz.func61 (by kernel_rfl) (lp := [Fcd.b0]) (by kernel_rfl) (.cons (show (Fcd.A n).loop (key Fcd.b0) = some (.mk' Fcd.l4.pat (Fcd.l4.m n n) (zQ Fcd.l4.res)) by kernel_rfl) (z5.of (res := Fcd.l4.res) (fun R u K => rfl) Fcd.l4.q fun t => Fcd.l4.loop n n t)
  .nil)
  (nj rfl) (by decide) (fun _ => rfl) rfl (fun _ => by show 1 ≤ Tryz.f61.ntmps; decide) (fun _ => Fcd.run)
noncomputable abbrev Fci.R0 (n : Nat) := zT (Fci.C n) (Fci.A n) n Fci.b0
noncomputable abbrev Fci.R1 (n : Nat) := zT (Fci.C n) (Fci.A n) n Fci.b1
noncomputable abbrev Fci.R2 (n : Nat) := zT (Fci.C n) (Fci.A n) n Fci.b2
noncomputable abbrev Fci.R3 (n : Nat) := zT (Fci.C n) (Fci.A n) n Fci.b3
noncomputable abbrev Fci.R4 (n : Nat) := zT (Fci.C n) (Fci.A n) n Fci.b4
noncomputable abbrev Fci.R5 (n : Nat) := zT (Fci.C n) (Fci.A n) n Fci.b5
def Fci.l4.T {α : Type} (mk0 : LI → LI → α) (n : Nat) (f : (LI × LI) → Option α) (t : (LI × LI)) : Option α := Fci.l4.r mk0 n (fun y0 y1 => f (y0, y1)) t.1 t.2
theorem Fci.l4.e : (Fci.l4.T (fun a0 a1 => (a0, a1)) n f t).map Fci.l4.res = Fci.l4.T (fun a0 a1 => Fci.l4.res (a0, a1)) n (fun y => (f y).map Fci.l4.res) t := by
  unfold Fci.l4.T Fci.l4.r
  exact Eq.symm (zB (zB rfl rfl) rfl)
theorem Fci.l4.q : ∀ st t, Fci.l4.pat st = some t → st = Fci.l4.shape t := fun _ _ h => by unfold Fci.l4.pat at h; split at h <;> cases h; rfl
theorem Fci.l4.d : Fci.R0 n rc (Fci.l4.shape t) = Fci.l4.T (fun a0 a1 => Fci.l4.res (a0, a1)) n (fun y => rc (Fci.l4.shape y)) t := by kernel_rfl
theorem Fci.l4.loop (n m : Nat) (t : (LI × LI)) : zS (Fci.R0 n) m (Fci.l4.shape t) = (Fci.l4.m n m t).map Fci.l4.res :=
  zN (fun _ _ => Fci.l4.e) (fun _ _ => Fci.l4.d) (fun _ => rfl) (fun _ _ => by kernel_rfl) m t
def Fci.l17.T {α : Type} (mk0 : Int → Int → LI → LI → LI → LI → LI → α) (n : Nat) (f : zLJ → Option α) (t : zLJ) : Option α := Fci.l17.r mk0 n (fun y0 y1 y2 y3 y4 y5 y6 y7 => f (y0, y1, y2, y3, y4, y5, y6, y7)) t.1 t.2.1 t.2.2.1 t.2.2.2.1 t.w.1 t.w.2.1 t.w.2.2.1 t.w.2.2.2
theorem Fci.l17.e : (Fci.l17.T (fun a0 a1 a2 a3 a4 a5 a6 => (a0, a1, a2, a3, a4, a5, a6)) n f t).map Fci.l17.res = Fci.l17.T (fun a0 a1 a2 a3 a4 a5 a6 => Fci.l17.res (a0, a1, a2, a3, a4, a5, a6)) n (fun y => (f y).map Fci.l17.res) t := by
  unfold Fci.l17.T Fci.l17.r
  exact Eq.symm (zB (zB (zB (zB (zB (zB (zB (zB rfl rfl) rfl) rfl) rfl) rfl) rfl) rfl) rfl)
theorem Fci.l17.q : ∀ st t, Fci.l17.pat st = some t → st = Fci.l17.shape t := fun _ _ h => by unfold Fci.l17.pat at h; split at h <;> cases h; rfl
theorem Fci.l17.d : Fci.R3 n rc (Fci.l17.shape t) = Fci.l17.T (fun a0 a1 a2 a3 a4 a5 a6 => Fci.l17.res (a0, a1, a2, a3, a4, a5, a6)) n (fun y => rc (Fci.l17.shape y)) t := by kernel_rfl
theorem Fci.l17.loop (n m : Nat) (t : zLJ) : zS (Fci.R3 n) m (Fci.l17.shape t) = (Fci.l17.m n m t).map Fci.l17.res :=
  zN (fun _ _ => Fci.l17.e) (fun _ _ => Fci.l17.d) (fun _ => rfl) (fun _ _ => by kernel_rfl) m t
def Fci.l14.T {α : Type} (mk0 : Int → LI → LI → LI → LI → LI → α) (n : Nat) (f : zJJ → Option α) (t : zJJ) : Option α := Fci.l14.r mk0 n (fun y0 y1 y2 y3 y4 y5 y6 => f (y0, y1, y2, y3, y4, y5, y6)) t.1 t.2.1 t.2.2.1 t.2.2.2.1 t.w.1 t.w.2.1 t.w.2.2
theorem Fci.l14.e : (Fci.l14.T (fun a0 a1 a2 a3 a4 a5 => (a0, a1, a2, a3, a4, a5)) n f t).map Fci.l14.res = Fci.l14.T (fun a0 a1 a2 a3 a4 a5 => Fci.l14.res (a0, a1, a2, a3, a4, a5)) n (fun y => (f y).map Fci.l14.res) t := by
  unfold Fci.l14.T Fci.l14.r
  exact Eq.symm (zB (zA fun r6 => rfl) rfl)
theorem Fci.l14.q : ∀ st t, Fci.l14.pat st = some t → st = Fci.l14.shape t := fun _ _ h => by unfold Fci.l14.pat at h; split at h <;> cases h; rfl
theorem Fci.l14.d : Fci.R2 n rc (Fci.l14.shape t) = Fci.l14.T (fun a0 a1 a2 a3 a4 a5 => Fci.l14.res (a0, a1, a2, a3, a4, a5)) n (fun y => rc (Fci.l14.shape y)) t := by kernel_rfl
theorem Fci.l14.loop (n m : Nat) (t : zJJ) : zS (Fci.R2 n) m (Fci.l14.shape t) = (Fci.l14.m n m t).map Fci.l14.res :=
  zN (fun _ _ => Fci.l14.e) (fun _ _ => Fci.l14.d) (fun _ => rfl) (fun _ _ => by kernel_rfl) m t
def Fci.l11.T {α : Type} (mk0 : LI → LI → α) (n : Nat) (f : (Int × (LI × (LI × (LI × (LI × LI))))) → Option α) (t : (Int × (LI × (LI × (LI × (LI × LI)))))) : Option α := Fci.l11.r mk0 n (fun y0 y1 y2 y3 y4 y5 => f (y0, y1, y2, y3, y4, y5)) t.1 t.2.1 t.2.2.1 t.2.2.2.1 t.w.1 t.w.2
theorem Fci.l11.e : (Fci.l11.T (fun a0 a1 => (a0, a1)) n f t).map Fci.l11.res = Fci.l11.T (fun a0 a1 => Fci.l11.res (a0, a1)) n (fun y => (f y).map Fci.l11.res) t := by
  unfold Fci.l11.T Fci.l11.r
  exact Eq.symm (zB (zA fun r6 => (zA fun r8 => match r8 with | (.inl r8) => rfl | (.inr r8) => rfl)) rfl)
theorem Fci.l11.q : ∀ st t, Fci.l11.pat st = some t → st = Fci.l11.shape t := fun _ _ h => by unfold Fci.l11.pat at h; split at h <;> cases h; rfl
theorem Fci.l11.d : Fci.R1 n rc (Fci.l11.shape t) = Fci.l11.T (fun a0 a1 => Fci.l11.res (a0, a1)) n (fun y => rc (Fci.l11.shape y)) t := by kernel_rfl
theorem Fci.l11.loop (n m : Nat) (t : (Int × (LI × (LI × (LI × (LI × LI)))))) : zS (Fci.R1 n) m (Fci.l11.shape t) = (Fci.l11.m n m t).map Fci.l11.res :=
  zN (fun _ _ => Fci.l11.e) (fun _ _ => Fci.l11.d) (fun _ => rfl) (fun _ _ => by kernel_rfl) m t
def Fci.l26.T {α : Type} (mk0 : Int → LI → LI → LI → α) (n : Nat) (f : (Int × (Int × (LI × (LI × LI)))) → Option α) (t : (Int × (Int × (LI × (LI × LI))))) : Option α := Fci.l26.r mk0 n (fun y0 y1 y2 y3 y4 => f (y0, y1, y2, y3, y4)) t.1 t.2.1 t.2.2.1 t.2.2.2.1 t.w
theorem Fci.l26.e : (Fci.l26.T (fun a0 a1 a2 a3 => (a0, a1, a2, a3)) n f t).map Fci.l26.res = Fci.l26.T (fun a0 a1 a2 a3 => Fci.l26.res (a0, a1, a2, a3)) n (fun y => (f y).map Fci.l26.res) t := by
  unfold Fci.l26.T Fci.l26.r
  exact Eq.symm (zB (zB (zB (zB (zB rfl rfl) rfl) rfl) rfl) rfl)
theorem Fci.l26.q : ∀ st t, Fci.l26.pat st = some t → st = Fci.l26.shape t := fun _ _ h => by unfold Fci.l26.pat at h; split at h <;> cases h; rfl
theorem Fci.l26.d : Fci.R5 n rc (Fci.l26.shape t) = Fci.l26.T (fun a0 a1 a2 a3 => Fci.l26.res (a0, a1, a2, a3)) n (fun y => rc (Fci.l26.shape y)) t := by kernel_rfl
theorem Fci.l26.loop (n m : Nat) (t : (Int × (Int × (LI × (LI × LI))))) : zS (Fci.R5 n) m (Fci.l26.shape t) = (Fci.l26.m n m t).map Fci.l26.res :=
  zN (fun _ _ => Fci.l26.e) (fun _ _ => Fci.l26.d) (fun _ => rfl) (fun _ _ => by kernel_rfl) m t
def Fci.l23.T {α : Type} (mk0 : LI → LI → α) (n : Nat) (f : (Int × (LI × (LI × LI))) → Option α) (t : (Int × (LI × (LI × LI)))) : Option α := Fci.l23.r mk0 n (fun y0 y1 y2 y3 => f (y0, y1, y2, y3)) t.1 t.2.1 t.2.2.1 t.2.2.2
theorem Fci.l23.e : (Fci.l23.T (fun a0 a1 => (a0, a1)) n f t).map Fci.l23.res = Fci.l23.T (fun a0 a1 => Fci.l23.res (a0, a1)) n (fun y => (f y).map Fci.l23.res) t := by
  unfold Fci.l23.T Fci.l23.r
  exact Eq.symm (zB (zA fun r6 => rfl) rfl)
theorem Fci.l23.q : ∀ st t, Fci.l23.pat st = some t → st = Fci.l23.shape t := fun _ _ h => by unfold Fci.l23.pat at h; split at h <;> cases h; rfl
theorem Fci.l23.d : Fci.R4 n rc (Fci.l23.shape t) = Fci.l23.T (fun a0 a1 => Fci.l23.res (a0, a1)) n (fun y => rc (Fci.l23.shape y)) t := by kernel_rfl
theorem Fci.l23.loop (n m : Nat) (t : (Int × (LI × (LI × LI)))) : zS (Fci.R4 n) m (Fci.l23.shape t) = (Fci.l23.m n m t).map Fci.l23.res :=
  zN (fun _ _ => Fci.l23.e) (fun _ _ => Fci.l23.d) (fun _ => rfl) (fun _ _ => by kernel_rfl) m t
theorem Fci.run : yC (Fci.C n) (Fci.A n) n Tryz.f43 (Fci.shape t) = (Fci.m n t).map Fci.res :=
  (show _ = Fci.g (fun a0 => Fci.res a0) n t from by kernel_rfl).trans (by
    unfold Fci.m Fci.g
    exact (zB (zB (zA fun r6 => (zB (zB (zB (zB (zA fun r16 => (zA fun r18 => (zA fun r20 => (zA fun r22 => (zA fun r24 => rfl))))) rfl) rfl) rfl) rfl)) rfl) rfl))
theorem Fci.s (hmix : HM) (n : Nat) : zE Tryz.prog zI 43 (Fci.c n) :=
  .mkF (res := Fci.res) (shape := Fci.shape) (C := Fci.C n) (A := Fci.A n) (fun R u K => rfl) (fun _ _ _ h => by unfold Fci.pat at h; split at h <;> cases h; rfl) rfl (.cons (Fbk.s hmix n) (.cons (Fcc.s hmix n) (.cons (Fch.s hmix n) (.cons (Fcd.s hmix n) .nil)))) hmix Tryz.func43 (by kernel_rfl) (lp := [Fci.b0, Fci.b1, Fci.b2, Fci.b3, Fci.b4, Fci.b5]) (by kernel_rfl) (.cons (show (Fci.A n).loop (key Fci.b0) = some (.mk' Fci.l4.pat (Fci.l4.m n n) (zQ Fci.l4.res)) by kernel_rfl) (z5.of (res := Fci.l4.res) (fun R u K => rfl) Fci.l4.q fun t => Fci.l4.loop n n t)
  (.cons (show (Fci.A n).loop (key Fci.b1) = some (.mk' Fci.l11.pat (Fci.l11.m n n) (zQ Fci.l11.res)) by kernel_rfl) (z5.of (res := Fci.l11.res) (fun R u K => rfl) Fci.l11.q fun t => Fci.l11.loop n n t)
  (.cons (show (Fci.A n).loop (key Fci.b2) = some (.mk' Fci.l14.pat (Fci.l14.m n n) (zQ Fci.l14.res)) by kernel_rfl) (z5.of (res := Fci.l14.res) (fun R u K => rfl) Fci.l14.q fun t => Fci.l14.loop n n t)
  (.cons (show (Fci.A n).loop (key Fci.b3) = some (.mk' Fci.l17.pat (Fci.l17.m n n) (zQ Fci.l17.res)) by kernel_rfl) (z5.of (res := Fci.l17.res) (fun R u K => rfl) Fci.l17.q fun t => Fci.l17.loop n n t)
  (.cons (show (Fci.A n).loop (key Fci.b4) = some (.mk' Fci.l23.pat (Fci.l23.m n n) (zQ Fci.l23.res)) by kernel_rfl) (z5.of (res := Fci.l23.res) (fun R u K => rfl) Fci.l23.q fun t => Fci.l23.loop n n t)
  (.cons (show (Fci.A n).loop (key Fci.b5) = some (.mk' Fci.l26.pat (Fci.l26.m n n) (zQ Fci.l26.res)) by kernel_rfl) (z5.of (res := Fci.l26.res) (fun R u K => rfl) Fci.l26.q fun t => Fci.l26.loop n n t)
  .nil))))))
  (nj rfl) (by decide) (fun _ => rfl) rfl (fun _ => by show 1 ≤ Tryz.f43.ntmps; decide) (fun _ => Fci.run)
noncomputable abbrev Fbg.R0 (n : Nat) := zT (Fbg.C n) (Fbg.A n) n Fbg.b0
def Fbg.l3.T {α : Type} (mk0 : LI → α) (n : Nat) (f : (Int × (LI × LI)) → Option α) (t : (Int × (LI × LI))) : Option α := Fbg.l3.r mk0 n (fun y0 y1 y2 => f (y0, y1, y2)) t.1 t.2.1 t.2.2
theorem Fbg.l3.e : (Fbg.l3.T (fun a0 => a0) n f t).map Fbg.l3.res = Fbg.l3.T (fun a0 => Fbg.l3.res a0) n (fun y => (f y).map Fbg.l3.res) t := by
  unfold Fbg.l3.T Fbg.l3.r
  exact Eq.symm (zB (zB (zB (zB (zB rfl rfl) rfl) rfl) rfl) rfl)
theorem Fbg.l3.q : ∀ st t, Fbg.l3.pat st = some t → st = Fbg.l3.shape t := fun _ _ h => by unfold Fbg.l3.pat at h; split at h <;> cases h; rfl
theorem Fbg.l3.d : Fbg.R0 n rc (Fbg.l3.shape t) = Fbg.l3.T (fun a0 => Fbg.l3.res a0) n (fun y => rc (Fbg.l3.shape y)) t := by kernel_rfl
theorem Fbg.l3.loop (n m : Nat) (t : (Int × (LI × LI))) : zS (Fbg.R0 n) m (Fbg.l3.shape t) = (Fbg.l3.m n m t).map Fbg.l3.res :=
  zN (fun _ _ => Fbg.l3.e) (fun _ _ => Fbg.l3.d) (fun _ => rfl) (fun _ _ => by kernel_rfl) m t
theorem Fbg.run : yC (Fbg.C n) (Fbg.A n) n Tryz.f42 (Fbg.shape t) = (Fbg.m n t).map Fbg.res :=
  (show _ = Fbg.g (fun a0 => Fbg.res a0) n t from by kernel_rfl).trans (by
    unfold Fbg.m Fbg.g
    exact (zA fun r2 => rfl))
theorem Fbg.s (hmix : HM) (n : Nat) : zE Tryz.prog zI 42 (Fbg.c n) :=
  .mkF (res := Fbg.res) (shape := Fbg.shape) (C := Fbg.C n) (A := Fbg.A n) (fun R u K => rfl) (fun _ _ _ h => by unfold Fbg.pat at h; split at h <;> cases h; rfl) rfl .nil hmix Tryz.func42 (by kernel_rfl) (lp := [Fbg.b0]) (by kernel_rfl) (.cons (show (Fbg.A n).loop (key Fbg.b0) = some (.mk' Fbg.l3.pat (Fbg.l3.m n n) (zQ Fbg.l3.res)) by kernel_rfl) (z5.of (res := Fbg.l3.res) (fun R u K => rfl) Fbg.l3.q fun t => Fbg.l3.loop n n t)
  .nil)
  (nj rfl) (by decide) (fun _ => rfl) rfl (fun _ => by show 1 ≤ Tryz.f42.ntmps; decide) (fun _ => Fbg.run)
theorem Fan.run : yC (Fan.C n) (Fan.A n) n Tryz.f19 (Fan.shape t) = (Fan.m n t).map Fan.res :=
  (show _ = Fan.g (fun a0 => Fan.res a0) n t from by kernel_rfl).trans (by
    unfold Fan.m Fan.g
    exact (zA fun r2 => (zA fun r4 => (zB rfl rfl))))
theorem Fan.s (hmix : HM) (n : Nat) : zE Tryz.prog zI 19 (Fan.c n) :=
  .mkF (res := Fan.res) (shape := Fan.shape) (C := Fan.C n) (A := Fan.A n) (fun R u K => rfl) (fun _ _ _ h => by unfold Fan.pat at h; split at h <;> cases h; rfl) rfl (.cons (Fci.s hmix n) (.cons (Fbg.s hmix n) .nil)) hmix Tryz.func19 (by kernel_rfl) (lp := []) (by kernel_rfl) .nil
  (nj rfl) (by decide) (fun _ => rfl) rfl (fun _ => by show 1 ≤ Tryz.f19.ntmps; decide) (fun _ => Fan.run)
noncomputable abbrev Fce.R0 (n : Nat) := zT (Fce.C n) (Fce.A n) n Fce.b0
def Fce.l3.T {α : Type} (mk0 : LI → LI → α) (n : Nat) (f : (Int × (LI × (LI × LI))) → Option α) (t : (Int × (LI × (LI × LI)))) : Option α := Fce.l3.r mk0 n (fun y0 y1 y2 y3 => f (y0, y1, y2, y3)) t.1 t.2.1 t.2.2.1 t.2.2.2
theorem Fce.l3.e : (Fce.l3.T (fun a0 a1 => (a0, a1)) n f t).map Fce.l3.res = Fce.l3.T (fun a0 a1 => Fce.l3.res (a0, a1)) n (fun y => (f y).map Fce.l3.res) t := by
  unfold Fce.l3.T Fce.l3.r
  exact Eq.symm (zB (zB (zB (zB (zB (zB (zB (zB rfl rfl) rfl) rfl) rfl) rfl) rfl) rfl) rfl)
theorem Fce.l3.q : ∀ st t, Fce.l3.pat st = some t → st = Fce.l3.shape t := fun _ _ h => by unfold Fce.l3.pat at h; split at h <;> cases h; rfl
theorem Fce.l3.d : Fce.R0 n rc (Fce.l3.shape t) = Fce.l3.T (fun a0 a1 => Fce.l3.res (a0, a1)) n (fun y => rc (Fce.l3.shape y)) t := by kernel_rfl
theorem Fce.l3.loop (n m : Nat) (t : (Int × (LI × (LI × LI)))) : zS (Fce.R0 n) m (Fce.l3.shape t) = (Fce.l3.m n m t).map Fce.l3.res :=
  zN (fun _ _ => Fce.l3.e) (fun _ _ => Fce.l3.d) (fun _ => rfl) (fun _ _ => by kernel_rfl) m t
theorem Fce.run : yC (Fce.C n) (Fce.A n) n Tryz.f21 (Fce.shape t) = (Fce.m n t).map Fce.res :=
  (show _ = Fce.g (fun a0 => Fce.res a0) n t from by kernel_rfl).trans (by
    unfold Fce.m Fce.g
    exact (zA fun r2 => rfl))
theorem Fce.s (hmix : HM) (n : Nat) : zE Tryz.prog zI 21 (Fce.c n) :=
  .mkF (res := Fce.res) (shape := Fce.shape) (C := Fce.C n) (A := Fce.A n) (fun R u K => rfl) (fun _ _ _ h => by unfold Fce.pat at h; split at h <;> cases h; rfl) rfl .nil hmix Tryz.func21 (by kernel_rfl) (lp := [Fce.b0]) (by kernel_rfl) (.cons (show (Fce.A n).loop (key Fce.b0) = some (.mk' Fce.l3.pat (Fce.l3.m n n) (zQ Fce.l3.res)) by kernel_rfl) (z5.of (res := Fce.l3.res) (fun R u K => rfl) Fce.l3.q fun t => Fce.l3.loop n n t)
  .nil)
  (nj rfl) (by decide) (fun _ => rfl) rfl (fun _ => by show 1 ≤ Tryz.f21.ntmps; decide) (fun _ => Fce.run)
theorem Fcf.run : yC (Fcf.C n) (Fcf.A n) n Tryz.f44 (Fcf.shape t) = (Fcf.m n t).map Fcf.res :=
  (show _ = Fcf.g (fun a0 => Fcf.res a0) n t from by kernel_rfl).trans (by
    unfold Fcf.m Fcf.g
    exact rfl)
theorem Fcf.s (hmix : HM) (n : Nat) : zE Tryz.prog zI 44 (Fcf.c n) :=
  .mkF (res := Fcf.res) (shape := Fcf.shape) (C := Fcf.C n) (A := Fcf.A n) (fun R u K => rfl) (fun _ _ _ h => by unfold Fcf.pat at h; split at h <;> cases h; rfl) rfl .nil hmix Tryz.func44 (by kernel_rfl) (lp := []) (by kernel_rfl) .nil
  (nj rfl) (by decide) (fun _ => rfl) rfl (fun _ => by show 1 ≤ Tryz.f44.ntmps; decide) (fun _ => Fcf.run)
noncomputable abbrev Fba.R0 (n : Nat) := zT (Fba.C n) (Fba.A n) n Fba.b0
noncomputable abbrev Fba.R1 (n : Nat) := zT (Fba.C n) (Fba.A n) n Fba.b1
def Fba.l11.T {α : Type} (mk0 : Int → LA → LI → LI → α) (n : Nat) (f : (Int × (LA × (LI × LI))) → Option α) (t : (Int × (LA × (LI × LI)))) : Option α := Fba.l11.r mk0 n (fun y0 y1 y2 y3 => f (y0, y1, y2, y3)) t.1 t.2.1 t.2.2.1 t.2.2.2
theorem Fba.l11.e : (Fba.l11.T (fun a0 a1 a2 a3 => (a0, a1, a2, a3)) n f t).map Fba.l11.res = Fba.l11.T (fun a0 a1 a2 a3 => Fba.l11.res (a0, a1, a2, a3)) n (fun y => (f y).map Fba.l11.res) t := by
  unfold Fba.l11.T Fba.l11.r
  exact Eq.symm (zB (zB rfl rfl) rfl)
theorem Fba.l11.q : ∀ st t, Fba.l11.pat st = some t → st = Fba.l11.shape t := fun _ _ h => by unfold Fba.l11.pat at h; split at h <;> cases h; rfl
theorem Fba.l11.d : Fba.R1 n rc (Fba.l11.shape t) = Fba.l11.T (fun a0 a1 a2 a3 => Fba.l11.res (a0, a1, a2, a3)) n (fun y => rc (Fba.l11.shape y)) t := by kernel_rfl
theorem Fba.l11.loop (n m : Nat) (t : (Int × (LA × (LI × LI)))) : zS (Fba.R1 n) m (Fba.l11.shape t) = (Fba.l11.m n m t).map Fba.l11.res :=
  zN (fun _ _ => Fba.l11.e) (fun _ _ => Fba.l11.d) (fun _ => rfl) (fun _ _ => by kernel_rfl) m t
def Fba.l3.T {α : Type} (mk0 : LI → LI → α) (n : Nat) (f : (Int × (LA × (LI × LI))) → Option α) (t : (Int × (LA × (LI × LI)))) : Option α := Fba.l3.r mk0 n (fun y0 y1 y2 y3 => f (y0, y1, y2, y3)) t.1 t.2.1 t.2.2.1 t.2.2.2
theorem Fba.l3.e : (Fba.l3.T (fun a0 a1 => (a0, a1)) n f t).map Fba.l3.res = Fba.l3.T (fun a0 a1 => Fba.l3.res (a0, a1)) n (fun y => (f y).map Fba.l3.res) t := by
  unfold Fba.l3.T Fba.l3.r
  exact Eq.symm (zB (zB (zB (zA fun r10 => (zA fun r12 => (zA fun r14 => (zA fun r16 => (zB (zB (zB (zA fun r24 => (zA fun r26 => (zA fun r28 => (zA fun r30 => (zA fun r32 => (zB rfl rfl)))))) rfl) rfl) (zA fun r20 => (zA fun r22 => (zB (zB (zB (zA fun r30 => (zA fun r32 => (zA fun r34 => (zA fun r36 => (zA fun r38 => (zA fun r40 => (zB (zB (zB (zA fun r48 => (zA fun r50 => (zA fun r52 => (zA fun r54 => (zB (zA fun r58 => rfl) rfl))))) rfl) rfl) rfl))))))) rfl) rfl) rfl)))))))) rfl) rfl) rfl)
theorem Fba.l3.q : ∀ st t, Fba.l3.pat st = some t → st = Fba.l3.shape t := fun _ _ h => by unfold Fba.l3.pat at h; split at h <;> cases h; rfl
theorem Fba.l3.d : Fba.R0 n rc (Fba.l3.shape t) = Fba.l3.T (fun a0 a1 => Fba.l3.res (a0, a1)) n (fun y => rc (Fba.l3.shape y)) t := by kernel_rfl
theorem Fba.l3.loop (n m : Nat) (t : (Int × (LA × (LI × LI)))) : zS (Fba.R0 n) m (Fba.l3.shape t) = (Fba.l3.m n m t).map Fba.l3.res :=
  zN (fun _ _ => Fba.l3.e) (fun _ _ => Fba.l3.d) (fun _ => rfl) (fun _ _ => by kernel_rfl) m t
theorem Fba.run : yC (Fba.C n) (Fba.A n) n Tryz.f20 (Fba.shape t) = (Fba.m n t).map Fba.res :=
  (show _ = Fba.g (fun a0 => Fba.res a0) n t from by kernel_rfl).trans (by
    unfold Fba.m Fba.g
    exact (zA fun r2 => (zB rfl rfl)))
theorem Fba.s (hmix : HM) (n : Nat) : zE Tryz.prog zI 20 (Fba.c n) :=
  .mkF (res := Fba.res) (shape := Fba.shape) (C := Fba.C n) (A := Fba.A n) (fun R u K => rfl) (fun _ _ _ h => by unfold Fba.pat at h; split at h <;> cases h; rfl) rfl (.cons (Fbg.s hmix n) (.cons (Fcf.s hmix n) .nil)) hmix Tryz.func20 (by kernel_rfl) (lp := [Fba.b0, Fba.b1]) (by kernel_rfl) (.cons (show (Fba.A n).loop (key Fba.b0) = some (.mk' Fba.l3.pat (Fba.l3.m n n) (zQ Fba.l3.res)) by kernel_rfl) (z5.of (res := Fba.l3.res) (fun R u K => rfl) Fba.l3.q fun t => Fba.l3.loop n n t)
  (.cons (show (Fba.A n).loop (key Fba.b1) = some (.mk' Fba.l11.pat (Fba.l11.m n n) (zQ Fba.l11.res)) by kernel_rfl) (z5.of (res := Fba.l11.res) (fun R u K => rfl) Fba.l11.q fun t => Fba.l11.loop n n t)
  .nil))
  (nj rfl) (by decide) (fun _ => rfl) rfl (fun _ => by show 1 ≤ Tryz.f20.ntmps; decide) (fun _ => Fba.run)
theorem Fbt.run : yC (Fbt.C n) (Fbt.A n) n Tryz.f5 (Fbt.shape t) = (Fbt.m n t).map Fbt.res :=
  (show _ = Fbt.g (fun a0 => Fbt.res a0) n  from by kernel_rfl).trans (by
    unfold Fbt.m Fbt.g
    exact (zA fun r2 => (zA fun r4 => (zA fun r6 => (zA fun r8 => (zA fun r10 => (zA fun r12 => (zA fun r14 => (zB (zA fun r18 => (zA fun r20 => (zA fun r22 => (zB (zB (zB (zB (zB (zA fun r34 => (zB (zA fun r38 => (zB (zA fun r42 => rfl) rfl)) rfl)) rfl) rfl) rfl) rfl) rfl)))) rfl)))))))))
theorem Fbt.s (hmix : HM) (n : Nat) : zE Tryz.prog zI 5 (Fbt.c n) :=
  .mkF (res := Fbt.res) (shape := Fbt.shape) (C := Fbt.C n) (A := Fbt.A n) (fun R u K => rfl) (fun _ _ _ h => by unfold Fbt.pat at h; split at h <;> cases h; rfl) rfl (.cons (Fbj.s hmix n) (.cons (Fbs.s hmix n) (.cons (Fbr.s hmix n) (.cons (Fak.s hmix n) (.cons (Fan.s hmix n) (.cons (Fce.s hmix n) (.cons (Fba.s hmix n) (.cons (Fbx.s hmix n) (.cons (Fi.s hmix n) (.cons (Fav.s hmix n) .nil)))))))))) hmix Tryz.func5 (by kernel_rfl) (lp := []) (by kernel_rfl) .nil
  (nj rfl) (by decide) (fun _ => rfl) rfl (fun _ => by show 0 ≤ Tryz.f5.ntmps; decide) (fun _ => Fbt.run)
theorem Fab.run : yC (Fab.C n) (Fab.A n) n Tryz.f11 (Fab.shape t) = (Fab.m n t).map Fab.res :=
  (show _ = Fab.g (fun a0 a1 a2 a3 a4 a5 a6 a7 => Fab.res (a0, a1, a2, a3, a4, a5, a6, a7)) n t.1 t.2.1 t.2.2.1 t.2.2.2.1 t.w.1 t.w.2.1 t.w.2.2 from by kernel_rfl).trans (by
    unfold Fab.m Fab.g
    exact (zB rfl rfl))
theorem Fab.s (hmix : HM) (n : Nat) : zE Tryz.prog zI 11 (Fab.c n) :=
  .mkF (res := Fab.res) (shape := Fab.shape) (C := Fab.C n) (A := Fab.A n) (fun R u K => rfl) (fun _ _ _ h => by unfold Fab.pat at h; split at h <;> cases h; rfl) rfl .nil hmix Tryz.func11 (by kernel_rfl) (lp := []) (by kernel_rfl) .nil
  (nj rfl) (by decide) (fun _ => rfl) rfl (fun _ => by show 1 ≤ Tryz.f11.ntmps; decide) (fun _ => Fab.run)
theorem Fai.run : yC (Fai.C n) (Fai.A n) n Tryz.f33 (Fai.shape t) = (Fai.m n t).map Fai.res :=
  (show _ = Fai.g (fun a0 => Fai.res a0) n t from by kernel_rfl).trans (by
    unfold Fai.m Fai.g
    exact (zB rfl rfl))
theorem Fai.s (hmix : HM) (n : Nat) : zE Tryz.prog zI 33 (Fai.c n) :=
  .mkF (res := Fai.res) (shape := Fai.shape) (C := Fai.C n) (A := Fai.A n) (fun R u K => rfl) (fun _ _ _ h => by unfold Fai.pat at h; split at h <;> cases h; rfl) rfl .nil hmix Tryz.func33 (by kernel_rfl) (lp := []) (by kernel_rfl) .nil
  (nj rfl) (by decide) (fun _ => rfl) rfl (fun _ => by show 1 ≤ Tryz.f33.ntmps; decide) (fun _ => Fai.run)
theorem Fbm.run : yC (Fbm.C n) (Fbm.A n) n Tryz.f34 (Fbm.shape t) = (Fbm.m n t).map Fbm.res :=
  (show _ = Fbm.g (fun a0 => Fbm.res a0) n  from by kernel_rfl).trans (by
    unfold Fbm.m Fbm.g
    exact rfl)
theorem Fbm.s (hmix : HM) (n : Nat) : zE Tryz.prog zI 34 (Fbm.c n) :=
  .mkF (res := Fbm.res) (shape := Fbm.shape) (C := Fbm.C n) (A := Fbm.A n) (fun R u K => rfl) (fun _ _ _ h => by unfold Fbm.pat at h; split at h <;> cases h; rfl) rfl .nil hmix Tryz.func34 (by kernel_rfl) (lp := []) (by kernel_rfl) .nil
  (nj rfl) (by decide) (fun _ => rfl) rfl (fun _ => by show 0 ≤ Tryz.f34.ntmps; decide) (fun _ => Fbm.run)
theorem Fbn.run : yC (Fbn.C n) (Fbn.A n) n Tryz.f15 (Fbn.shape t) = (Fbn.m n t).map Fbn.res :=
  (show _ = Fbn.g (fun a0 => Fbn.res a0) n t.1 t.2.1 t.2.2.1 t.2.2.2.1 t.w.1 t.w.2.1 t.w.2.2.1 t.w.2.2.2.1 t.x.1 t.x.2.1 t.x.2.2 from by kernel_rfl).trans (by
    unfold Fbn.m Fbn.g
    exact (zB (zA fun r4 => rfl) (zB (zA fun r6 => (zA fun r8 => (zB (zB (zA fun r14 => (zA fun r16 => (zA fun r18 => (zB (zB (zB rfl rfl) rfl) rfl)))) rfl) rfl))) (zA fun r6 => (zB (zB (zA fun r12 => (zA fun r14 => (zA fun r16 => (zB (zB (zB rfl rfl) rfl) rfl)))) rfl) rfl)))))
theorem Fbn.s (hmix : HM) (n : Nat) : zE Tryz.prog zI 15 (Fbn.c n) :=
  .mkF (res := Fbn.res) (shape := Fbn.shape) (C := Fbn.C n) (A := Fbn.A n) (fun R u K => rfl) (fun _ _ _ h => by unfold Fbn.pat at h; split at h <;> cases h; rfl) rfl (.cons (Fai.s hmix n) (.cons (Fce.s hmix n) (.cons (Fbm.s hmix n) (.cons (Fan.s hmix n) (.cons (Fba.s hmix n) .nil))))) hmix Tryz.func15 (by kernel_rfl) (lp := []) (by kernel_rfl) .nil
  (nj rfl) (by decide) (fun _ => rfl) rfl (fun _ => by show 1 ≤ Tryz.f15.ntmps; decide) (fun _ => Fbn.run)
theorem Fz.run : yC (Fz.C n) (Fz.A n) n Tryz.f38 (Fz.shape t) = (Fz.m n t).map Fz.res :=
  (show _ = Fz.g (fun a0 a1 a2 a3 a4 a5 a6 => Fz.res (a0, a1, a2, a3, a4, a5, a6)) n t.1 t.2.1 t.2.2.1 t.2.2.2.1 t.w.1 t.w.2.1 t.w.2.2.1 t.w.2.2.2.1 t.x.1 t.x.2.1 t.x.2.2.1 t.x.2.2.2.1 t.x.w.1 t.x.w.2.1 t.x.w.2.2 from by kernel_rfl).trans (by
    unfold Fz.m Fz.g
    exact (zB (zA fun r4 => rfl) (zB (zA fun r6 => rfl) (zB rfl (zB rfl (zB rfl (zB (zB (zB rfl rfl) rfl) (zB rfl rfl))))))))
theorem Fz.s (hmix : HM) (n : Nat) : zE Tryz.prog zI 38 (Fz.c n) :=
  .mkF (res := Fz.res) (shape := Fz.shape) (C := Fz.C n) (A := Fz.A n) (fun R u K => rfl) (fun _ _ _ h => by unfold Fz.pat at h; split at h <;> cases h; rfl) rfl .nil hmix Tryz.func38 (by kernel_rfl) (lp := []) (by kernel_rfl) .nil
  (nj rfl) (by decide) (fun _ => rfl) rfl (fun _ => by show 2 ≤ Tryz.f38.ntmps; decide) (fun _ => Fz.run)
theorem Fc.run : yC (Fc.C n) (Fc.A n) n Tryz.f37 (Fc.shape t) = (Fc.m n t).map Fc.res :=
  (show _ = Fc.g (fun a0 => Fc.res a0) n t from by kernel_rfl).trans (by
    unfold Fc.m Fc.g
    exact rfl)
theorem Fc.s (hmix : HM) (n : Nat) : zE Tryz.prog zI 37 (Fc.c n) :=
  .mkF (res := Fc.res) (shape := Fc.shape) (C := Fc.C n) (A := Fc.A n) (fun R u K => rfl) (fun _ _ _ h => by unfold Fc.pat at h; split at h <;> cases h; rfl) rfl .nil hmix Tryz.func37 (by kernel_rfl) (lp := []) (by kernel_rfl) .nil
  (nj rfl) (by decide) (fun _ => rfl) rfl (fun _ => by show 1 ≤ Tryz.f37.ntmps; decide) (fun _ => Fc.run)
theorem Fd.run : yC (Fd.C n) (Fd.A n) n Tryz.f37 (Fd.shape t) = (Fd.m n t).map Fd.res :=
  (show _ = Fd.g (fun a0 a1 a2 => Fd.res (a0, a1, a2)) n t.1 t.2.1 t.2.2 from by kernel_rfl).trans (by
    unfold Fd.m Fd.g
    exact rfl)
theorem Fd.s (hmix : HM) (n : Nat) : zE Tryz.prog zI 37 (Fd.c n) :=
  .mkF (res := Fd.res) (shape := Fd.shape) (C := Fd.C n) (A := Fd.A n) (fun R u K => rfl) (fun _ _ _ h => by unfold Fd.pat at h; split at h <;> cases h; rfl) rfl .nil hmix Tryz.func37 (by kernel_rfl) (lp := []) (by kernel_rfl) .nil
  (nj rfl) (by decide) (fun _ => rfl) rfl (fun _ => by show 1 ≤ Tryz.f37.ntmps; decide) (fun _ => Fd.run)
section
theorem zslicesBackwardquaestorstorestepquaestorstorestep.s (hmix : Tryz.prog.follows .mixedOrders = true) (n : Nat) : zE Tryz.prog zI 37 (zslicesBackwardquaestorstorestepquaestorstorestep.c n) := .pick (Fc.s hmix n) (Fd.s hmix n)
end
theorem Fo.run : yC (Fo.C n) (Fo.A n) n Tryz.f36 (Fo.shape t) = (Fo.m n t).map Fo.res :=
  (show _ = Fo.g (fun a0 => Fo.res a0) n t.1 t.2.1 t.2.2 from by kernel_rfl).trans (by
    unfold Fo.m Fo.g
    exact rfl)
theorem Fo.s (hmix : HM) (n : Nat) : zE Tryz.prog zI 36 (Fo.c n) :=
  .mkF (res := Fo.res) (shape := Fo.shape) (C := Fo.C n) (A := Fo.A n) (fun R u K => rfl) (fun _ _ _ h => by unfold Fo.pat at h; split at h <;> cases h; rfl) rfl .nil hmix Tryz.func36 (by kernel_rfl) (lp := []) (by kernel_rfl) .nil
  (nj rfl) (by decide) (fun _ => rfl) rfl (fun _ => by show 2 ≤ Tryz.f36.ntmps; decide) (fun _ => Fo.run)
noncomputable abbrev Fb.R0 (n : Nat) := zT (Fb.C n) (Fb.A n) n Fb.b0
def Fb.l2.T {α : Type} (mk0 : Int → α) (mk1 : α) (n : Nat) (f : (Int × (Int × (Int × LA))) → Option α) (t : (Int × (Int × (Int × LA)))) : Option α := Fb.l2.r mk0 mk1 n (fun y0 y1 y2 y3 => f (y0, y1, y2, y3)) t.1 t.2.1 t.2.2.1 t.2.2.2
theorem Fb.l2.e : (Fb.l2.T (fun a0 => (.inl a0)) (.inr ()) n f t).map Fb.l2.res = Fb.l2.T (fun a0 => Fb.l2.res (.inl a0)) (Fb.l2.res (.inr ())) n (fun y => (f y).map Fb.l2.res) t := by
  unfold Fb.l2.T Fb.l2.r
  exact Eq.symm (zB (zB (zB (zA fun r10 => (zA fun r12 => (zA fun r14 => (zA fun r16 => (zB rfl rfl))))) rfl) rfl) rfl)
theorem Fb.l2.q : ∀ st t, Fb.l2.pat st = some t → st = Fb.l2.shape t := fun _ _ h => by unfold Fb.l2.pat at h; split at h <;> cases h; rfl
theorem Fb.l2.d : Fb.R0 n rc (Fb.l2.shape t) = Fb.l2.T (fun a0 => Fb.l2.res (.inl a0)) (Fb.l2.res (.inr ())) n (fun y => rc (Fb.l2.shape y)) t := by kernel_rfl
theorem Fb.l2.loop (n m : Nat) (t : (Int × (Int × (Int × LA)))) : zS (Fb.R0 n) m (Fb.l2.shape t) = (Fb.l2.m n m t).map Fb.l2.res :=
  zN (fun _ _ => Fb.l2.e) (fun _ _ => Fb.l2.d) (fun _ => rfl) (fun _ _ => by kernel_rfl) m t
theorem Fb.run : yC (Fb.C n) (Fb.A n) n Tryz.f35 (Fb.shape t) = (Fb.m n t).map Fb.res :=
  (show _ = Fb.g (fun a0 => Fb.res a0) n t.1 t.2 from by kernel_rfl).trans (by
    unfold Fb.m Fb.g
    exact (zA fun r2 => match r2 with | (.inl r2) => rfl | (.inr r2) => rfl))
theorem Fb.s (hmix : HM) (n : Nat) : zE Tryz.prog zI 35 (Fb.c n) :=
  .mkF (res := Fb.res) (shape := Fb.shape) (C := Fb.C n) (A := Fb.A n) (fun R u K => rfl) (fun _ _ _ h => by unfold Fb.pat at h; split at h <;> cases h; rfl) rfl (.cons (Fo.s hmix n) .nil) hmix Tryz.func35 (by kernel_rfl) (lp := [Fb.b0]) (by kernel_rfl) (.cons (show (Fb.A n).loop (key Fb.b0) = some (.mk' Fb.l2.pat (Fb.l2.m n n) Fb.l2.resK) by kernel_rfl) (z5.of (res := Fb.l2.res) (fun R u K => by rcases u with u | u <;> rfl) Fb.l2.q fun t => Fb.l2.loop n n t)
  .nil)
  (nj rfl) (by decide) (fun _ => rfl) rfl (fun _ => by show 2 ≤ Tryz.f35.ntmps; decide) (fun _ => Fb.run)
