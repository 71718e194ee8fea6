/- What the program's functions compute, as plain functions, each with its proof: the function does just that. Condition: the plain function has an answer. -/
import Derived.Test.YtkknbhapkdgcjaaGreatDoorFnDeskNonces1
import Derived.Test.YtkknbhapkdgcjaaGreatDoorFnDeskNonces3
import Derived.Test.YtkknbhapkdgcjaaGreatDoorFnDeskNonces2
import Derived.Test.YtkknbhapkdgcjaaGreatDoorProg
import Derived.WalkKit
import Derived.LaidEql
import Derived.Stop.Asserts
import Derived.RowKitTokens
import Derived.Elder7
import Derived.Test.YtkknbhapkdgcjaaGreatDoorAbsQ9
set_option linter.unusedVariables false
set_option linter.unusedSimpArgs false
set_option maxRecDepth 100000
open Go Go.Abs Go.Proofs
set_option autoImplicit true
set_option relaxedAutoImplicit true
noncomputable section
noncomputable abbrev Fam.R0 (n : Nat) := roundOf (Fam.C n) (Fam.A n) n Fam.b0
def Fam.l4_0.T {α : Type} (mk0 : LI → LI → α) (n : Nat) (f : (Int × (Int × (LI × (LI × LI)))) → Option α) (t : (Int × (Int × (LI × (LI × LI))))) : Option α := Fam.l4_0.r mk0 n (fun y0 y1 y2 y3 y4 => f (y0, y1, y2, y3, y4)) t.1 t.2.1 t.2.2.1 t.2.2.2.1 t.w
theorem Fam.l4_0.rmap : (Fam.l4_0.T (fun a0 a1 => (a0, a1)) n f t).map Fam.l4_0.res = Fam.l4_0.T (fun a0 a1 => Fam.l4_0.res (a0, a1)) n (fun y => (f y).map Fam.l4_0.res) t := by
  unfold Fam.l4_0.T Fam.l4_0.r
  exact Eq.symm (ite_map (ite_map (ite_map (ite_map (ite_map (ite_map (ite_map (ite_map rfl rfl) rfl) rfl) rfl) rfl) rfl) rfl) rfl)
theorem Fam.l4_0.pat_shape : ∀ st t, Fam.l4_0.pat st = some t → st = Fam.l4_0.shape t := fun _ _ h => by unfold Fam.l4_0.pat at h; split at h <;> cases h; rfl
theorem Fam.l4_0.round : Fam.R0 n rc (Fam.l4_0.shape t) = Fam.l4_0.T (fun a0 a1 => Fam.l4_0.res (a0, a1)) n (fun y => rc (Fam.l4_0.shape y)) t := by kernel_rfl
theorem Fam.l4_0.loop (n m : Nat) (t : (Int × (Int × (LI × (LI × LI))))) : loopOf (Fam.R0 n) m (Fam.l4_0.shape t) = (Fam.l4_0.m n m t).map Fam.l4_0.res :=
  loop_map (fun _ _ => Fam.l4_0.rmap) (fun _ _ => Fam.l4_0.round) (fun _ => rfl) (fun _ _ => by kernel_rfl) m t
theorem Fam.run : runS (Fam.C n) (Fam.A n) n Tryz.f64 (Fam.shape t) = (Fam.m n t).map Fam.res :=
  (show _ = Fam.g (fun a0 => Fam.res a0) n t from by kernel_rfl).trans (by
    unfold Fam.m Fam.g
    exact (ite_map (ite_map (bindO_map fun r6 => rfl) rfl) rfl))
theorem Fam.s (hmix : HM) (n : Nat) : CalleeS Tryz.prog dskG 64 (Fam.c n) :=
  .mkF (res := Fam.res) (shape := Fam.shape) (C := Fam.C n) (A := Fam.A n) (fun R u K => rfl) (fun _ _ _ h => by unfold Fam.pat at h; split at h <;> cases h; rfl) rfl .nil hmix Tryz.func64 (by kernel_rfl) (lp := [Fam.b0]) (by kernel_rfl) (.cons (show (Fam.A n).loop (key Fam.b0) = some (.mk' Fam.l4_0.pat (Fam.l4_0.m n n) (resKl Fam.l4_0.res)) by kernel_rfl) (LoopS.of (res := Fam.l4_0.res) (fun R u K => rfl) Fam.l4_0.pat_shape fun t => Fam.l4_0.loop n n t)
  .nil)
  (nj rfl) (by decide) (fun _ => rfl) rfl (fun _ => by show 1 ≤ Tryz.f64.ntmps; decide) (fun _ => Fam.run)
theorem Fan.run : runS (Fan.C n) (Fan.A n) n Tryz.f50 (Fan.shape t) = (Fan.m n t).map Fan.res :=
  (show _ = Fan.g (fun a0 => Fan.res a0) n t from by kernel_rfl).trans (by
    unfold Fan.m Fan.g
    exact (bindO_map fun r2 => rfl))
theorem Fan.s (hmix : HM) (n : Nat) : CalleeS Tryz.prog dskG 50 (Fan.c n) :=
  .mkF (res := Fan.res) (shape := Fan.shape) (C := Fan.C n) (A := Fan.A n) (fun R u K => rfl) (fun _ _ _ h => by unfold Fan.pat at h; split at h <;> cases h; rfl) rfl (.cons (Fam.s hmix n) .nil) hmix Tryz.func50 (by kernel_rfl) (lp := []) (by kernel_rfl) .nil
  (nj rfl) (by decide) (fun _ => rfl) rfl (fun _ => by show 1 ≤ Tryz.f50.ntmps; decide) (fun _ => Fan.run)
theorem Fac.run : runS (Fac.C n) (Fac.A n) n Tryz.f80 (Fac.shape t) = (Fac.m n t).map Fac.res :=
  (show _ = Fac.g (fun a0 a1 => Fac.res (a0, a1)) n t from by kernel_rfl).trans (by
    unfold Fac.m Fac.g
    exact (ite_map rfl rfl))
theorem Fac.s (hmix : HM) (n : Nat) : CalleeS Tryz.prog dskG 80 (Fac.c n) :=
  .mkF (res := Fac.res) (shape := Fac.shape) (C := Fac.C n) (A := Fac.A n) (fun R u K => rfl) (fun _ _ _ h => by unfold Fac.pat at h; split at h <;> cases h; rfl) rfl .nil hmix Tryz.func80 (by kernel_rfl) (lp := []) (by kernel_rfl) .nil
  (nj rfl) (by decide) (fun _ => rfl) rfl (fun _ => by show 1 ≤ Tryz.f80.ntmps; decide) (fun _ => Fac.run)
theorem Fbb.run : runS (Fbb.C n) (Fbb.A n) n Tryz.f63 (Fbb.shape t) = (Fbb.m n t).map Fbb.res :=
  (show _ = Fbb.g (fun a0 => Fbb.res a0) n t from by kernel_rfl).trans (by
    unfold Fbb.m Fbb.g
    exact (bindO_map fun r2 => (ite_map rfl rfl)))
theorem Fbb.s (hmix : HM) (n : Nat) : CalleeS Tryz.prog dskG 63 (Fbb.c n) :=
  .mkF (res := Fbb.res) (shape := Fbb.shape) (C := Fbb.C n) (A := Fbb.A n) (fun R u K => rfl) (fun _ _ _ h => by unfold Fbb.pat at h; split at h <;> cases h; rfl) rfl (.cons (Fac.s hmix n) .nil) hmix Tryz.func63 (by kernel_rfl) (lp := []) (by kernel_rfl) .nil
  (nj rfl) (by decide) (fun _ => rfl) rfl (fun _ => by show 1 ≤ Tryz.f63.ntmps; decide) (fun _ => Fbb.run)
noncomputable abbrev Fbc.R0 (n : Nat) := roundOf (Fbc.C n) (Fbc.A n) n Fbc.b0
def Fbc.l4_0.T {α : Type} (mk0 : LI → LI → α) (n : Nat) (f : (Int × (Int × (LI × (LI × LI)))) → Option α) (t : (Int × (Int × (LI × (LI × LI))))) : Option α := Fbc.l4_0.r mk0 n (fun y0 y1 y2 y3 y4 => f (y0, y1, y2, y3, y4)) t.1 t.2.1 t.2.2.1 t.2.2.2.1 t.w
theorem Fbc.l4_0.rmap : (Fbc.l4_0.T (fun a0 a1 => (a0, a1)) n f t).map Fbc.l4_0.res = Fbc.l4_0.T (fun a0 a1 => Fbc.l4_0.res (a0, a1)) n (fun y => (f y).map Fbc.l4_0.res) t := by
  unfold Fbc.l4_0.T Fbc.l4_0.r
  exact Eq.symm (ite_map (ite_map (ite_map (ite_map (ite_map (ite_map (ite_map (ite_map (ite_map (ite_map (ite_map (ite_map (ite_map (ite_map (ite_map (ite_map rfl rfl) rfl) rfl) rfl) rfl) rfl) rfl) rfl) rfl) rfl) rfl) rfl) rfl) rfl) (ite_map (ite_map (ite_map (ite_map (ite_map (ite_map (ite_map (ite_map (ite_map rfl rfl) rfl) rfl) rfl) rfl) rfl) rfl) rfl) rfl)) rfl)
theorem Fbc.l4_0.pat_shape : ∀ st t, Fbc.l4_0.pat st = some t → st = Fbc.l4_0.shape t := fun _ _ h => by unfold Fbc.l4_0.pat at h; split at h <;> cases h; rfl
theorem Fbc.l4_0.round : Fbc.R0 n rc (Fbc.l4_0.shape t) = Fbc.l4_0.T (fun a0 a1 => Fbc.l4_0.res (a0, a1)) n (fun y => rc (Fbc.l4_0.shape y)) t := by kernel_rfl
theorem Fbc.l4_0.loop (n m : Nat) (t : (Int × (Int × (LI × (LI × LI))))) : loopOf (Fbc.R0 n) m (Fbc.l4_0.shape t) = (Fbc.l4_0.m n m t).map Fbc.l4_0.res :=
  loop_map (fun _ _ => Fbc.l4_0.rmap) (fun _ _ => Fbc.l4_0.round) (fun _ => rfl) (fun _ _ => by kernel_rfl) m t
theorem Fbc.run : runS (Fbc.C n) (Fbc.A n) n Tryz.f49 (Fbc.shape t) = (Fbc.m n t).map Fbc.res :=
  (show _ = Fbc.g (fun a0 => Fbc.res a0) n t.1 t.2 from by kernel_rfl).trans (by
    unfold Fbc.m Fbc.g
    exact (bindO_map fun r2 => (bindO_map fun r4 => rfl)))
theorem Fbc.s (hmix : HM) (n : Nat) : CalleeS Tryz.prog dskG 49 (Fbc.c n) :=
  .mkF (res := Fbc.res) (shape := Fbc.shape) (C := Fbc.C n) (A := Fbc.A n) (fun R u K => rfl) (fun _ _ _ h => by unfold Fbc.pat at h; split at h <;> cases h; rfl) rfl (.cons (Fbb.s hmix n) .nil) hmix Tryz.func49 (by kernel_rfl) (lp := [Fbc.b0]) (by kernel_rfl) (.cons (show (Fbc.A n).loop (key Fbc.b0) = some (.mk' Fbc.l4_0.pat (Fbc.l4_0.m n n) (resKl Fbc.l4_0.res)) by kernel_rfl) (LoopS.of (res := Fbc.l4_0.res) (fun R u K => rfl) Fbc.l4_0.pat_shape fun t => Fbc.l4_0.loop n n t)
  .nil)
  (nj rfl) (by decide) (fun _ => rfl) rfl (fun _ => by show 2 ≤ Tryz.f49.ntmps; decide) (fun _ => Fbc.run)
theorem Fap.run : runS (Fap.C n) (Fap.A n) n Tryz.f26 (Fap.shape t) = (Fap.m n t).map Fap.res :=
  (show _ = Fap.g (fun a0 => Fap.res a0) n t.1 t.2.1 t.2.2 from by kernel_rfl).trans (by
    unfold Fap.m Fap.g
    exact (bindO_map fun r2 => (bindO_map fun r4 => (bindO_map fun r6 => rfl))))
theorem Fap.s (hmix : HM) (n : Nat) : CalleeS Tryz.prog dskG 26 (Fap.c n) :=
  .mkF (res := Fap.res) (shape := Fap.shape) (C := Fap.C n) (A := Fap.A n) (fun R u K => rfl) (fun _ _ _ h => by unfold Fap.pat at h; split at h <;> cases h; rfl) rfl (.cons (Fao.s hmix n) (.cons (Fan.s hmix n) (.cons (Fbc.s hmix n) .nil))) hmix Tryz.func26 (by kernel_rfl) (lp := []) (by kernel_rfl) .nil
  (nj rfl) (by decide) (fun _ => rfl) rfl (fun _ => by show 3 ≤ Tryz.f26.ntmps; decide) (fun _ => Fap.run)
theorem Fn.run : runS (Fn.C n) (Fn.A n) n Tryz.f25 (Fn.shape t) = (Fn.m n t).map Fn.res :=
  (show _ = Fn.g (fun a0 a1 a2 a3 a4 a5 a6 => Fn.res (a0, a1, a2, a3, a4, a5, a6)) n t.1 t.2.1 t.2.2.1 t.2.2.2.1 t.w.1 t.w.2.1 t.w.2.2.1 t.w.2.2.2 from by kernel_rfl).trans (by
    unfold Fn.m Fn.g
    exact (bindO_map fun r2 => (bindO_map fun r4 => rfl)))
theorem Fn.s (hmix : HM) (n : Nat) : CalleeS Tryz.prog dskG 25 (Fn.c n) :=
  .mkF (res := Fn.res) (shape := Fn.shape) (C := Fn.C n) (A := Fn.A n) (fun R u K => rfl) (fun _ _ _ h => by unfold Fn.pat at h; split at h <;> cases h; rfl) rfl .nil hmix Tryz.func25 (by kernel_rfl) (lp := []) (by kernel_rfl) .nil
  (nj rfl) (by decide) (fun _ => rfl) rfl (fun _ => by show 3 ≤ Tryz.f25.ntmps; decide) (fun _ => Fn.run)
theorem Fx.run : runS (Fx.C n) (Fx.A n) n Tryz.f18 (Fx.shape t) = (Fx.m n t).map Fx.res :=
  (show _ = Fx.g (fun a0 a1 a2 a3 a4 a5 a6 => Fx.res (a0, a1, a2, a3, a4, a5, a6)) n t.1 t.2.1 t.2.2.1 t.2.2.2.1 t.w.1 t.w.2.1 t.w.2.2 from by kernel_rfl).trans (by
    unfold Fx.m Fx.g
    exact (bindO_map fun r2 => (bindO_map fun r4 => (bindO_map fun r6 => rfl))))
theorem Fx.s (hmix : HM) (n : Nat) : CalleeS Tryz.prog dskG 18 (Fx.c n) :=
  .mkF (res := Fx.res) (shape := Fx.shape) (C := Fx.C n) (A := Fx.A n) (fun R u K => rfl) (fun _ _ _ h => by unfold Fx.pat at h; split at h <;> cases h; rfl) rfl (.cons (Faq.s hmix n) (.cons (Fap.s hmix n) (.cons (Fn.s hmix n) .nil))) hmix Tryz.func18 (by kernel_rfl) (lp := []) (by kernel_rfl) .nil
  (nj rfl) (by decide) (fun _ => rfl) rfl (fun _ => by show 2 ≤ Tryz.f18.ntmps; decide) (fun _ => Fx.run)
theorem Faf.ok (hmix : HM) (n : Nat) (t) (u) (h : Faf.m n t = some u) : FnOK Tryz.prog dskG 65 (Faf.shape t).1 (Faf.shape t).2 (Faf.res u).1 (Faf.res u).2 :=
  xAdd64_ok Tryz.func65 (by kernel_rfl) (by kernel_rfl) (by kernel_rfl) (show Go.Extern.find Tryz.f65 = some add64Entry by kernel_rfl) t u h
theorem Faf.s (hmix : HM) (n : Nat) : CalleeS Tryz.prog dskG 65 (Faf.c n) :=
  CalleeS.of (res := Faf.res) (shape := Faf.shape) (fun R u K => rfl) (fun args lent t h => by
    unfold Faf.pat at h
    split at h
    · cases h; rfl
    · cases h) fun t u h => Faf.ok hmix n t u h
noncomputable abbrev Fbf.R0 (n : Nat) := roundOf (Fbf.C n) (Fbf.A n) n Fbf.b0
def Fbf.l4_0.T {α : Type} (mk0 : Int → LI → LI → α) (n : Nat) (f : (Int × (Int × (LI × (LI × (LI × LI))))) → Option α) (t : (Int × (Int × (LI × (LI × (LI × LI)))))) : Option α := Fbf.l4_0.r mk0 n (fun y0 y1 y2 y3 y4 y5 => f (y0, y1, y2, y3, y4, y5)) t.1 t.2.1 t.2.2.1 t.2.2.2.1 t.w.1 t.w.2
theorem Fbf.l4_0.rmap : (Fbf.l4_0.T (fun a0 a1 a2 => (a0, a1, a2)) n f t).map Fbf.l4_0.res = Fbf.l4_0.T (fun a0 a1 a2 => Fbf.l4_0.res (a0, a1, a2)) n (fun y => (f y).map Fbf.l4_0.res) t := by
  unfold Fbf.l4_0.T Fbf.l4_0.r
  exact Eq.symm (ite_map (ite_map (ite_map (ite_map (ite_map (bindO_map fun r14 => (ite_map (ite_map rfl rfl) rfl)) rfl) rfl) rfl) rfl) rfl)
theorem Fbf.l4_0.pat_shape : ∀ st t, Fbf.l4_0.pat st = some t → st = Fbf.l4_0.shape t := fun _ _ h => by unfold Fbf.l4_0.pat at h; split at h <;> cases h; rfl
theorem Fbf.l4_0.round : Fbf.R0 n rc (Fbf.l4_0.shape t) = Fbf.l4_0.T (fun a0 a1 a2 => Fbf.l4_0.res (a0, a1, a2)) n (fun y => rc (Fbf.l4_0.shape y)) t := by kernel_rfl
theorem Fbf.l4_0.loop (n m : Nat) (t : (Int × (Int × (LI × (LI × (LI × LI)))))) : loopOf (Fbf.R0 n) m (Fbf.l4_0.shape t) = (Fbf.l4_0.m n m t).map Fbf.l4_0.res :=
  loop_map (fun _ _ => Fbf.l4_0.rmap) (fun _ _ => Fbf.l4_0.round) (fun _ => rfl) (fun _ _ => by kernel_rfl) m t
theorem Fbf.run : runS (Fbf.C n) (Fbf.A n) n Tryz.f51 (Fbf.shape t) = (Fbf.m n t).map Fbf.res :=
  (show _ = Fbf.g (fun a0 a1 => Fbf.res (a0, a1)) n t.1 t.2 from by kernel_rfl).trans (by
    unfold Fbf.m Fbf.g
    exact (bindO_map fun r2 => rfl))
theorem Fbf.s (hmix : HM) (n : Nat) : CalleeS Tryz.prog dskG 51 (Fbf.c n) :=
  .mkF (res := Fbf.res) (shape := Fbf.shape) (C := Fbf.C n) (A := Fbf.A n) (fun R u K => rfl) (fun _ _ _ h => by unfold Fbf.pat at h; split at h <;> cases h; rfl) rfl (.cons (Faf.s hmix n) .nil) hmix Tryz.func51 (by kernel_rfl) (lp := [Fbf.b0]) (by kernel_rfl) (.cons (show (Fbf.A n).loop (key Fbf.b0) = some (.mk' Fbf.l4_0.pat (Fbf.l4_0.m n n) (resKl Fbf.l4_0.res)) by kernel_rfl) (LoopS.of (res := Fbf.l4_0.res) (fun R u K => rfl) Fbf.l4_0.pat_shape fun t => Fbf.l4_0.loop n n t)
  .nil)
  (nj rfl) (by decide) (fun _ => rfl) rfl (fun _ => by show 2 ≤ Tryz.f51.ntmps; decide) (fun _ => Fbf.run)
theorem Fd.run : runS (Fd.C n) (Fd.A n) n Tryz.f27 (Fd.shape t) = (Fd.m n t).map Fd.res :=
  (show _ = Fd.g (fun a0 a1 a2 a3 a4 a5 => Fd.res (a0, a1, a2, a3, a4, a5)) n t.1 t.2.1 t.2.2.1 t.2.2.2.1 t.w.1 t.w.2.1 t.w.2.2.1 t.w.2.2.2.1 t.x from by kernel_rfl).trans (by
    unfold Fd.m Fd.g
    exact (bindO_map fun r2 => (bindO_map fun r4 => (bindO_map fun r6 => (bindO_map fun r8 => (ite_map (bindO_map fun r12 => (ite_map (bindO_map fun r16 => rfl) rfl)) (ite_map (bindO_map fun r14 => rfl) rfl)))))))
theorem Fd.s (hmix : HM) (n : Nat) : CalleeS Tryz.prog dskG 27 (Fd.c n) :=
  .mkF (res := Fd.res) (shape := Fd.shape) (C := Fd.C n) (A := Fd.A n) (fun R u K => rfl) (fun _ _ _ h => by unfold Fd.pat at h; split at h <;> cases h; rfl) rfl .nil hmix Tryz.func27 (by kernel_rfl) (lp := []) (by kernel_rfl) .nil
  (nj rfl) (by decide) (fun _ => rfl) rfl (fun _ => by show 4 ≤ Tryz.f27.ntmps; decide) (fun _ => Fd.run)
theorem Fab.run : runS (Fab.C n) (Fab.A n) n Tryz.f30 (Fab.shape t) = (Fab.m n t).map Fab.res :=
  (show _ = Fab.g (fun a0 a1 a2 a3 a4 a5 => Fab.res (a0, a1, a2, a3, a4, a5)) n t.1 t.2.1 t.2.2.1 t.2.2.2.1 t.w.1 t.w.2.1 t.w.2.2.1 t.w.2.2.2 from by kernel_rfl).trans (by
    unfold Fab.m Fab.g
    exact (bindO_map fun r2 => (bindO_map fun r4 => (bindO_map fun r6 => (bindO_map fun r8 => (bindO_map fun r10 => rfl))))))
theorem Fab.s (hmix : HM) (n : Nat) : CalleeS Tryz.prog dskG 30 (Fab.c n) :=
  .mkF (res := Fab.res) (shape := Fab.shape) (C := Fab.C n) (A := Fab.A n) (fun R u K => rfl) (fun _ _ _ h => by unfold Fab.pat at h; split at h <;> cases h; rfl) rfl (.cons (Fx.s hmix n) (.cons (Fbf.s hmix n) (.cons (Faq.s hmix n) (.cons (Fap.s hmix n) (.cons (Fd.s hmix n) .nil))))) hmix Tryz.func30 (by kernel_rfl) (lp := []) (by kernel_rfl) .nil
  (nj rfl) (by decide) (fun _ => rfl) rfl (fun _ => by show 3 ≤ Tryz.f30.ntmps; decide) (fun _ => Fab.run)
theorem Fas.run : runS (Fas.C n) (Fas.A n) n Tryz.f66 (Fas.shape t) = (Fas.m n t).map Fas.res :=
  (show _ = Fas.g (fun a0 => Fas.res a0) n  from by kernel_rfl).trans (by
    unfold Fas.m Fas.g
    exact rfl)
theorem Fas.s (hmix : HM) (n : Nat) : CalleeS Tryz.prog dskG 66 (Fas.c n) :=
  .mkF (res := Fas.res) (shape := Fas.shape) (C := Fas.C n) (A := Fas.A n) (fun R u K => rfl) (fun _ _ _ h => by unfold Fas.pat at h; split at h <;> cases h; rfl) rfl .nil hmix Tryz.func66 (by kernel_rfl) (lp := []) (by kernel_rfl) .nil
  (nj rfl) (by decide) (fun _ => rfl) rfl (fun _ => by show 0 ≤ Tryz.f66.ntmps; decide) (fun _ => Fas.run)
theorem Fk.run : runS (Fk.C n) (Fk.A n) n Tryz.f102 (Fk.shape t) = (Fk.m n t).map Fk.res :=
  (show _ = Fk.g (fun a0 => Fk.res a0) n t.1 t.2 from by kernel_rfl).trans (by
    unfold Fk.m Fk.g
    exact (ite_map rfl rfl))
theorem Fk.s (hmix : HM) (n : Nat) : CalleeS Tryz.prog dskG 102 (Fk.c n) :=
  .mkF (res := Fk.res) (shape := Fk.shape) (C := Fk.C n) (A := Fk.A n) (fun R u K => rfl) (fun _ _ _ h => by unfold Fk.pat at h; split at h <;> cases h; rfl) rfl .nil hmix Tryz.func102 (by kernel_rfl) (lp := []) (by kernel_rfl) .nil
  (nj rfl) (by decide) (fun _ => rfl) rfl (fun _ => by show 2 ≤ Tryz.f102.ntmps; decide) (fun _ => Fk.run)
noncomputable abbrev Fe.R0 (n : Nat) := roundOf (Fe.C n) (Fe.A n) n Fe.b0
noncomputable abbrev Fe.R1 (n : Nat) := roundOf (Fe.C n) (Fe.A n) n Fe.b1
def Fe.l2_0.T {α : Type} (mk0 : LI → LI → α) (n : Nat) (f : (Int × (LI × LI)) → Option α) (t : (Int × (LI × LI))) : Option α := Fe.l2_0.r mk0 n (fun y0 y1 y2 => f (y0, y1, y2)) t.1 t.2.1 t.2.2
theorem Fe.l2_0.rmap : (Fe.l2_0.T (fun a0 a1 => (a0, a1)) n f t).map Fe.l2_0.res = Fe.l2_0.T (fun a0 a1 => Fe.l2_0.res (a0, a1)) n (fun y => (f y).map Fe.l2_0.res) t := by
  unfold Fe.l2_0.T Fe.l2_0.r
  exact Eq.symm (ite_map (ite_map (ite_map (ite_map (ite_map (ite_map (ite_map rfl rfl) rfl) rfl) rfl) rfl) rfl) rfl)
theorem Fe.l2_0.pat_shape : ∀ st t, Fe.l2_0.pat st = some t → st = Fe.l2_0.shape t := fun _ _ h => by unfold Fe.l2_0.pat at h; split at h <;> cases h; rfl
theorem Fe.l2_0.round : Fe.R0 n rc (Fe.l2_0.shape t) = Fe.l2_0.T (fun a0 a1 => Fe.l2_0.res (a0, a1)) n (fun y => rc (Fe.l2_0.shape y)) t := by kernel_rfl
theorem Fe.l2_0.loop (n m : Nat) (t : (Int × (LI × LI))) : loopOf (Fe.R0 n) m (Fe.l2_0.shape t) = (Fe.l2_0.m n m t).map Fe.l2_0.res :=
  loop_map (fun _ _ => Fe.l2_0.rmap) (fun _ _ => Fe.l2_0.round) (fun _ => rfl) (fun _ _ => by kernel_rfl) m t
def Fe.l7_0.T {α : Type} (mk0 : LI → α) (n : Nat) (f : (Int × (LI × LI)) → Option α) (t : (Int × (LI × LI))) : Option α := Fe.l7_0.r mk0 n (fun y0 y1 y2 => f (y0, y1, y2)) t.1 t.2.1 t.2.2
theorem Fe.l7_0.rmap : (Fe.l7_0.T (fun a0 => a0) n f t).map Fe.l7_0.res = Fe.l7_0.T (fun a0 => Fe.l7_0.res a0) n (fun y => (f y).map Fe.l7_0.res) t := by
  unfold Fe.l7_0.T Fe.l7_0.r
  exact Eq.symm (ite_map (ite_map (ite_map (ite_map (ite_map (ite_map (ite_map (bindO_map fun r18 => (ite_map (ite_map rfl rfl) rfl)) rfl) rfl) rfl) rfl) rfl) rfl) rfl)
theorem Fe.l7_0.pat_shape : ∀ st t, Fe.l7_0.pat st = some t → st = Fe.l7_0.shape t := fun _ _ h => by unfold Fe.l7_0.pat at h; split at h <;> cases h; rfl
theorem Fe.l7_0.round : Fe.R1 n rc (Fe.l7_0.shape t) = Fe.l7_0.T (fun a0 => Fe.l7_0.res a0) n (fun y => rc (Fe.l7_0.shape y)) t := by kernel_rfl
theorem Fe.l7_0.loop (n m : Nat) (t : (Int × (LI × LI))) : loopOf (Fe.R1 n) m (Fe.l7_0.shape t) = (Fe.l7_0.m n m t).map Fe.l7_0.res :=
  loop_map (fun _ _ => Fe.l7_0.rmap) (fun _ _ => Fe.l7_0.round) (fun _ => rfl) (fun _ _ => by kernel_rfl) m t
theorem Fe.run : runS (Fe.C n) (Fe.A n) n Tryz.f99 (Fe.shape t) = (Fe.m n t).map Fe.res :=
  (show _ = Fe.g (fun a0 => Fe.res a0) n t from by kernel_rfl).trans (by
    unfold Fe.m Fe.g
    exact (bindO_map fun r2 => (bindO_map fun r4 => rfl)))
theorem Fe.s (hmix : HM) (n : Nat) : CalleeS Tryz.prog dskG 99 (Fe.c n) :=
  .mkF (res := Fe.res) (shape := Fe.shape) (C := Fe.C n) (A := Fe.A n) (fun R u K => rfl) (fun _ _ _ h => by unfold Fe.pat at h; split at h <;> cases h; rfl) rfl (.cons (Fk.s hmix n) .nil) hmix Tryz.func99 (by kernel_rfl) (lp := [Fe.b0, Fe.b1]) (by kernel_rfl) (.cons (show (Fe.A n).loop (key Fe.b0) = some (.mk' Fe.l2_0.pat (Fe.l2_0.m n n) (resKl Fe.l2_0.res)) by kernel_rfl) (LoopS.of (res := Fe.l2_0.res) (fun R u K => rfl) Fe.l2_0.pat_shape fun t => Fe.l2_0.loop n n t)
  (.cons (show (Fe.A n).loop (key Fe.b1) = some (.mk' Fe.l7_0.pat (Fe.l7_0.m n n) (resKl Fe.l7_0.res)) by kernel_rfl) (LoopS.of (res := Fe.l7_0.res) (fun R u K => rfl) Fe.l7_0.pat_shape fun t => Fe.l7_0.loop n n t)
  .nil))
  (nj rfl) (by decide) (fun _ => rfl) rfl (fun _ => by show 1 ≤ Tryz.f99.ntmps; decide) (fun _ => Fe.run)
noncomputable abbrev Fl.R0 (n : Nat) := roundOf (Fl.C n) (Fl.A n) n Fl.b0
def Fl.l2_0.T {α : Type} (mk0 : LI → α) (n : Nat) (f : (Int × (Int × LI)) → Option α) (t : (Int × (Int × LI))) : Option α := Fl.l2_0.r mk0 n (fun y0 y1 y2 => f (y0, y1, y2)) t.1 t.2.1 t.2.2
theorem Fl.l2_0.rmap : (Fl.l2_0.T (fun a0 => a0) n f t).map Fl.l2_0.res = Fl.l2_0.T (fun a0 => Fl.l2_0.res a0) n (fun y => (f y).map Fl.l2_0.res) t := by
  unfold Fl.l2_0.T Fl.l2_0.r
  exact Eq.symm (ite_map (ite_map (ite_map (ite_map (ite_map (ite_map (ite_map (ite_map (ite_map (bindO_map fun r22 => (ite_map (ite_map rfl rfl) rfl)) rfl) rfl) rfl) rfl) rfl) rfl) rfl) rfl) rfl)
theorem Fl.l2_0.pat_shape : ∀ st t, Fl.l2_0.pat st = some t → st = Fl.l2_0.shape t := fun _ _ h => by unfold Fl.l2_0.pat at h; split at h <;> cases h; rfl
theorem Fl.l2_0.round : Fl.R0 n rc (Fl.l2_0.shape t) = Fl.l2_0.T (fun a0 => Fl.l2_0.res a0) n (fun y => rc (Fl.l2_0.shape y)) t := by kernel_rfl
theorem Fl.l2_0.loop (n m : Nat) (t : (Int × (Int × LI))) : loopOf (Fl.R0 n) m (Fl.l2_0.shape t) = (Fl.l2_0.m n m t).map Fl.l2_0.res :=
  loop_map (fun _ _ => Fl.l2_0.rmap) (fun _ _ => Fl.l2_0.round) (fun _ => rfl) (fun _ _ => by kernel_rfl) m t
theorem Fl.run : runS (Fl.C n) (Fl.A n) n Tryz.f100 (Fl.shape t) = (Fl.m n t).map Fl.res :=
  (show _ = Fl.g (fun a0 => Fl.res a0) n t from by kernel_rfl).trans (by
    unfold Fl.m Fl.g
    exact (bindO_map fun r2 => rfl))
theorem Fl.s (hmix : HM) (n : Nat) : CalleeS Tryz.prog dskG 100 (Fl.c n) :=
  .mkF (res := Fl.res) (shape := Fl.shape) (C := Fl.C n) (A := Fl.A n) (fun R u K => rfl) (fun _ _ _ h => by unfold Fl.pat at h; split at h <;> cases h; rfl) rfl (.cons (Fk.s hmix n) .nil) hmix Tryz.func100 (by kernel_rfl) (lp := [Fl.b0]) (by kernel_rfl) (.cons (show (Fl.A n).loop (key Fl.b0) = some (.mk' Fl.l2_0.pat (Fl.l2_0.m n n) (resKl Fl.l2_0.res)) by kernel_rfl) (LoopS.of (res := Fl.l2_0.res) (fun R u K => rfl) Fl.l2_0.pat_shape fun t => Fl.l2_0.loop n n t)
  .nil)
  (nj rfl) (by decide) (fun _ => rfl) rfl (fun _ => by show 1 ≤ Tryz.f100.ntmps; decide) (fun _ => Fl.run)
noncomputable abbrev Fo.R0 (n : Nat) := roundOf (Fo.C n) (Fo.A n) n Fo.b0
noncomputable abbrev Fo.R1 (n : Nat) := roundOf (Fo.C n) (Fo.A n) n Fo.b1
def Fo.l5_0.T {α : Type} (mk0 : Int → LI → α) (n : Nat) (f : (Int × (Int × (LI × LI))) → Option α) (t : (Int × (Int × (LI × LI)))) : Option α := Fo.l5_0.r mk0 n (fun y0 y1 y2 y3 => f (y0, y1, y2, y3)) t.1 t.2.1 t.2.2.1 t.2.2.2
theorem Fo.l5_0.rmap : (Fo.l5_0.T (fun a0 a1 => (a0, a1)) n f t).map Fo.l5_0.res = Fo.l5_0.T (fun a0 a1 => Fo.l5_0.res (a0, a1)) n (fun y => (f y).map Fo.l5_0.res) t := by
  unfold Fo.l5_0.T Fo.l5_0.r
  exact Eq.symm (ite_map (ite_map (ite_map (ite_map (ite_map (ite_map (ite_map (ite_map (ite_map rfl rfl) rfl) rfl) rfl) rfl) rfl) rfl) rfl) rfl)
theorem Fo.l5_0.pat_shape : ∀ st t, Fo.l5_0.pat st = some t → st = Fo.l5_0.shape t := fun _ _ h => by unfold Fo.l5_0.pat at h; split at h <;> cases h; rfl
theorem Fo.l5_0.round : Fo.R1 n rc (Fo.l5_0.shape t) = Fo.l5_0.T (fun a0 a1 => Fo.l5_0.res (a0, a1)) n (fun y => rc (Fo.l5_0.shape y)) t := by kernel_rfl
theorem Fo.l5_0.loop (n m : Nat) (t : (Int × (Int × (LI × LI)))) : loopOf (Fo.R1 n) m (Fo.l5_0.shape t) = (Fo.l5_0.m n m t).map Fo.l5_0.res :=
  loop_map (fun _ _ => Fo.l5_0.rmap) (fun _ _ => Fo.l5_0.round) (fun _ => rfl) (fun _ _ => by kernel_rfl) m t
def Fo.l1_0.T {α : Type} (mk0 : LI → α) (n : Nat) (f : (Int × LI) → Option α) (t : (Int × LI)) : Option α := Fo.l1_0.r mk0 n (fun y0 y1 => f (y0, y1)) t.1 t.2
theorem Fo.l1_0.rmap : (Fo.l1_0.T (fun a0 => a0) n f t).map Fo.l1_0.res = Fo.l1_0.T (fun a0 => Fo.l1_0.res a0) n (fun y => (f y).map Fo.l1_0.res) t := by
  unfold Fo.l1_0.T Fo.l1_0.r
  exact Eq.symm (ite_map (ite_map (ite_map (ite_map (ite_map (ite_map (bindO_map fun r16 => rfl) rfl) rfl) rfl) rfl) rfl) rfl)
theorem Fo.l1_0.pat_shape : ∀ st t, Fo.l1_0.pat st = some t → st = Fo.l1_0.shape t := fun _ _ h => by unfold Fo.l1_0.pat at h; split at h <;> cases h; rfl
theorem Fo.l1_0.round : Fo.R0 n rc (Fo.l1_0.shape t) = Fo.l1_0.T (fun a0 => Fo.l1_0.res a0) n (fun y => rc (Fo.l1_0.shape y)) t := by kernel_rfl
theorem Fo.l1_0.loop (n m : Nat) (t : (Int × LI)) : loopOf (Fo.R0 n) m (Fo.l1_0.shape t) = (Fo.l1_0.m n m t).map Fo.l1_0.res :=
  loop_map (fun _ _ => Fo.l1_0.rmap) (fun _ _ => Fo.l1_0.round) (fun _ => rfl) (fun _ _ => by kernel_rfl) m t
theorem Fo.run : runS (Fo.C n) (Fo.A n) n Tryz.f101 (Fo.shape t) = (Fo.m n t).map Fo.res :=
  (show _ = Fo.g (fun a0 => Fo.res a0) n t from by kernel_rfl).trans (by
    unfold Fo.m Fo.g
    exact (bindO_map fun r2 => rfl))
theorem Fo.s (hmix : HM) (n : Nat) : CalleeS Tryz.prog dskG 101 (Fo.c n) :=
  .mkF (res := Fo.res) (shape := Fo.shape) (C := Fo.C n) (A := Fo.A n) (fun R u K => rfl) (fun _ _ _ h => by unfold Fo.pat at h; split at h <;> cases h; rfl) rfl .nil hmix Tryz.func101 (by kernel_rfl) (lp := [Fo.b0, Fo.b1]) (by kernel_rfl) (.cons (show (Fo.A n).loop (key Fo.b0) = some (.mk' Fo.l1_0.pat (Fo.l1_0.m n n) (resKl Fo.l1_0.res)) by kernel_rfl) (LoopS.of (res := Fo.l1_0.res) (fun R u K => rfl) Fo.l1_0.pat_shape fun t => Fo.l1_0.loop n n t)
  (.cons (show (Fo.A n).loop (key Fo.b1) = some (.mk' Fo.l5_0.pat (Fo.l5_0.m n n) (resKl Fo.l5_0.res)) by kernel_rfl) (LoopS.of (res := Fo.l5_0.res) (fun R u K => rfl) Fo.l5_0.pat_shape fun t => Fo.l5_0.loop n n t)
  .nil))
  (nj rfl) (by decide) (fun _ => rfl) rfl (fun _ => by show 1 ≤ Tryz.f101.ntmps; decide) (fun _ => Fo.run)
noncomputable abbrev Fp.R0 (n : Nat) := roundOf (Fp.C n) (Fp.A n) n Fp.b0
def Fp.l1_0.T {α : Type} (mk0 : LI → α) (n : Nat) (f : (Int × LI) → Option α) (t : (Int × LI)) : Option α := Fp.l1_0.r mk0 n (fun y0 y1 => f (y0, y1)) t.1 t.2
theorem Fp.l1_0.rmap : (Fp.l1_0.T (fun a0 => a0) n f t).map Fp.l1_0.res = Fp.l1_0.T (fun a0 => Fp.l1_0.res a0) n (fun y => (f y).map Fp.l1_0.res) t := by
  unfold Fp.l1_0.T Fp.l1_0.r
  exact Eq.symm (ite_map (bindO_map fun r6 => (bindO_map fun r8 => (bindO_map fun r10 => (ite_map (ite_map rfl rfl) rfl)))) rfl)
theorem Fp.l1_0.pat_shape : ∀ st t, Fp.l1_0.pat st = some t → st = Fp.l1_0.shape t := fun _ _ h => by unfold Fp.l1_0.pat at h; split at h <;> cases h; rfl
theorem Fp.l1_0.round : Fp.R0 n rc (Fp.l1_0.shape t) = Fp.l1_0.T (fun a0 => Fp.l1_0.res a0) n (fun y => rc (Fp.l1_0.shape y)) t := by kernel_rfl
theorem Fp.l1_0.loop (n m : Nat) (t : (Int × LI)) : loopOf (Fp.R0 n) m (Fp.l1_0.shape t) = (Fp.l1_0.m n m t).map Fp.l1_0.res :=
  loop_map (fun _ _ => Fp.l1_0.rmap) (fun _ _ => Fp.l1_0.round) (fun _ => rfl) (fun _ _ => by kernel_rfl) m t
theorem Fp.run : runS (Fp.C n) (Fp.A n) n Tryz.f97 (Fp.shape t) = (Fp.m n t).map Fp.res :=
  (show _ = Fp.g (fun a0 => Fp.res a0) n t from by kernel_rfl).trans (by
    unfold Fp.m Fp.g
    exact (bindO_map fun r2 => rfl))
theorem Fp.s (hmix : HM) (n : Nat) : CalleeS Tryz.prog dskG 97 (Fp.c n) :=
  .mkF (res := Fp.res) (shape := Fp.shape) (C := Fp.C n) (A := Fp.A n) (fun R u K => rfl) (fun _ _ _ h => by unfold Fp.pat at h; split at h <;> cases h; rfl) rfl (.cons (Fe.s hmix n) (.cons (Fl.s hmix n) (.cons (Fo.s hmix n) .nil))) hmix Tryz.func97 (by kernel_rfl) (lp := [Fp.b0]) (by kernel_rfl) (.cons (show (Fp.A n).loop (key Fp.b0) = some (.mk' Fp.l1_0.pat (Fp.l1_0.m n n) (resKl Fp.l1_0.res)) by kernel_rfl) (LoopS.of (res := Fp.l1_0.res) (fun R u K => rfl) Fp.l1_0.pat_shape fun t => Fp.l1_0.loop n n t)
  .nil)
  (nj rfl) (by decide) (fun _ => rfl) rfl (fun _ => by show 1 ≤ Tryz.f97.ntmps; decide) (fun _ => Fp.run)
noncomputable abbrev Fm.R0 (n : Nat) := roundOf (Fm.C n) (Fm.A n) n Fm.b0
def Fm.l1_0.T {α : Type} (mk0 : LI → α) (n : Nat) (f : (Int × (Int × (LI × LI))) → Option α) (t : (Int × (Int × (LI × LI)))) : Option α := Fm.l1_0.r mk0 n (fun y0 y1 y2 y3 => f (y0, y1, y2, y3)) t.1 t.2.1 t.2.2.1 t.2.2.2
theorem Fm.l1_0.rmap : (Fm.l1_0.T (fun a0 => a0) n f t).map Fm.l1_0.res = Fm.l1_0.T (fun a0 => Fm.l1_0.res a0) n (fun y => (f y).map Fm.l1_0.res) t := by
  unfold Fm.l1_0.T Fm.l1_0.r
  exact Eq.symm (ite_map (ite_map (ite_map (ite_map (ite_map (ite_map (ite_map (ite_map rfl rfl) rfl) rfl) rfl) rfl) rfl) rfl) rfl)
theorem Fm.l1_0.pat_shape : ∀ st t, Fm.l1_0.pat st = some t → st = Fm.l1_0.shape t := fun _ _ h => by unfold Fm.l1_0.pat at h; split at h <;> cases h; rfl
theorem Fm.l1_0.round : Fm.R0 n rc (Fm.l1_0.shape t) = Fm.l1_0.T (fun a0 => Fm.l1_0.res a0) n (fun y => rc (Fm.l1_0.shape y)) t := by kernel_rfl
theorem Fm.l1_0.loop (n m : Nat) (t : (Int × (Int × (LI × LI)))) : loopOf (Fm.R0 n) m (Fm.l1_0.shape t) = (Fm.l1_0.m n m t).map Fm.l1_0.res :=
  loop_map (fun _ _ => Fm.l1_0.rmap) (fun _ _ => Fm.l1_0.round) (fun _ => rfl) (fun _ _ => by kernel_rfl) m t
theorem Fm.run : runS (Fm.C n) (Fm.A n) n Tryz.f92 (Fm.shape t) = (Fm.m n t).map Fm.res :=
  (show _ = Fm.g (fun a0 => Fm.res a0) n t.1 t.2 from by kernel_rfl).trans (by
    unfold Fm.m Fm.g
    exact (bindO_map fun r2 => (bindO_map fun r4 => rfl)))
theorem Fm.s (hmix : HM) (n : Nat) : CalleeS Tryz.prog dskG 92 (Fm.c n) :=
  .mkF (res := Fm.res) (shape := Fm.shape) (C := Fm.C n) (A := Fm.A n) (fun R u K => rfl) (fun _ _ _ h => by unfold Fm.pat at h; split at h <;> cases h; rfl) rfl (.cons (Fp.s hmix n) .nil) hmix Tryz.func92 (by kernel_rfl) (lp := [Fm.b0]) (by kernel_rfl) (.cons (show (Fm.A n).loop (key Fm.b0) = some (.mk' Fm.l1_0.pat (Fm.l1_0.m n n) (resKl Fm.l1_0.res)) by kernel_rfl) (LoopS.of (res := Fm.l1_0.res) (fun R u K => rfl) Fm.l1_0.pat_shape fun t => Fm.l1_0.loop n n t)
  .nil)
  (nj rfl) (by decide) (fun _ => rfl) rfl (fun _ => by show 2 ≤ Tryz.f92.ntmps; decide) (fun _ => Fm.run)
noncomputable abbrev Fag.R0 (n : Nat) := roundOf (Fag.C n) (Fag.A n) n Fag.b0
noncomputable abbrev Fag.R1 (n : Nat) := roundOf (Fag.C n) (Fag.A n) n Fag.b1
def Fag.l2_0.T {α : Type} (mk0 : LI → LI → LI → α) (n : Nat) (f : (LI × (LI × LI)) → Option α) (t : (LI × (LI × LI))) : Option α := Fag.l2_0.r mk0 n (fun y0 y1 y2 => f (y0, y1, y2)) t.1 t.2.1 t.2.2
theorem Fag.l2_0.rmap : (Fag.l2_0.T (fun a0 a1 a2 => (a0, a1, a2)) n f t).map Fag.l2_0.res = Fag.l2_0.T (fun a0 a1 a2 => Fag.l2_0.res (a0, a1, a2)) n (fun y => (f y).map Fag.l2_0.res) t := by
  unfold Fag.l2_0.T Fag.l2_0.r
  exact Eq.symm (ite_map (ite_map (bindO_map fun r8 => (ite_map rfl rfl)) rfl) rfl)
theorem Fag.l2_0.pat_shape : ∀ st t, Fag.l2_0.pat st = some t → st = Fag.l2_0.shape t := fun _ _ h => by unfold Fag.l2_0.pat at h; split at h <;> cases h; rfl
theorem Fag.l2_0.round : Fag.R0 n rc (Fag.l2_0.shape t) = Fag.l2_0.T (fun a0 a1 a2 => Fag.l2_0.res (a0, a1, a2)) n (fun y => rc (Fag.l2_0.shape y)) t := by kernel_rfl
theorem Fag.l2_0.loop (n m : Nat) (t : (LI × (LI × LI))) : loopOf (Fag.R0 n) m (Fag.l2_0.shape t) = (Fag.l2_0.m n m t).map Fag.l2_0.res :=
  loop_map (fun _ _ => Fag.l2_0.rmap) (fun _ _ => Fag.l2_0.round) (fun _ => rfl) (fun _ _ => by kernel_rfl) m t
def Fag.l12_0.T {α : Type} (mk0 : LI → LI → α) (n : Nat) (f : (Int × (LI × (LI × LI))) → Option α) (t : (Int × (LI × (LI × LI)))) : Option α := Fag.l12_0.r mk0 n (fun y0 y1 y2 y3 => f (y0, y1, y2, y3)) t.1 t.2.1 t.2.2.1 t.2.2.2
theorem Fag.l12_0.rmap : (Fag.l12_0.T (fun a0 a1 => (a0, a1)) n f t).map Fag.l12_0.res = Fag.l12_0.T (fun a0 a1 => Fag.l12_0.res (a0, a1)) n (fun y => (f y).map Fag.l12_0.res) t := by
  unfold Fag.l12_0.T Fag.l12_0.r
  exact Eq.symm (ite_map (ite_map (ite_map (ite_map (ite_map (ite_map rfl rfl) rfl) rfl) rfl) rfl) rfl)
theorem Fag.l12_0.pat_shape : ∀ st t, Fag.l12_0.pat st = some t → st = Fag.l12_0.shape t := fun _ _ h => by unfold Fag.l12_0.pat at h; split at h <;> cases h; rfl
theorem Fag.l12_0.round : Fag.R1 n rc (Fag.l12_0.shape t) = Fag.l12_0.T (fun a0 a1 => Fag.l12_0.res (a0, a1)) n (fun y => rc (Fag.l12_0.shape y)) t := by kernel_rfl
theorem Fag.l12_0.loop (n m : Nat) (t : (Int × (LI × (LI × LI)))) : loopOf (Fag.R1 n) m (Fag.l12_0.shape t) = (Fag.l12_0.m n m t).map Fag.l12_0.res :=
  loop_map (fun _ _ => Fag.l12_0.rmap) (fun _ _ => Fag.l12_0.round) (fun _ => rfl) (fun _ _ => by kernel_rfl) m t
theorem Fag.run : runS (Fag.C n) (Fag.A n) n Tryz.f81 (Fag.shape t) = (Fag.m n t).map Fag.res :=
  (show _ = Fag.g (fun a0 => Fag.res a0) n t from by kernel_rfl).trans (by
    unfold Fag.m Fag.g
    exact (bindO_map fun r2 => (ite_map (ite_map (bindO_map fun r8 => (bindO_map fun r10 => (bindO_map fun r12 => rfl))) rfl) rfl)))
theorem Fag.s (hmix : HM) (n : Nat) : CalleeS Tryz.prog dskG 81 (Fag.c n) :=
  .mkF (res := Fag.res) (shape := Fag.shape) (C := Fag.C n) (A := Fag.A n) (fun R u K => rfl) (fun _ _ _ h => by unfold Fag.pat at h; split at h <;> cases h; rfl) rfl (.cons (Fm.s hmix n) (.cons (Fam.s hmix n) .nil)) hmix Tryz.func81 (by kernel_rfl) (lp := [Fag.b0, Fag.b1]) (by kernel_rfl) (.cons (show (Fag.A n).loop (key Fag.b0) = some (.mk' Fag.l2_0.pat (Fag.l2_0.m n n) (resKl Fag.l2_0.res)) by kernel_rfl) (LoopS.of (res := Fag.l2_0.res) (fun R u K => rfl) Fag.l2_0.pat_shape fun t => Fag.l2_0.loop n n t)
  (.cons (show (Fag.A n).loop (key Fag.b1) = some (.mk' Fag.l12_0.pat (Fag.l12_0.m n n) (resKl Fag.l12_0.res)) by kernel_rfl) (LoopS.of (res := Fag.l12_0.res) (fun R u K => rfl) Fag.l12_0.pat_shape fun t => Fag.l12_0.loop n n t)
  .nil))
  (nj rfl) (by decide) (fun _ => rfl) rfl (fun _ => by show 1 ≤ Tryz.f81.ntmps; decide) (fun _ => Fag.run)
noncomputable abbrev Fah.R0 (n : Nat) := roundOf (Fah.C n) (Fah.A n) n Fah.b0
def Fah.l3_0.T {α : Type} (mk0 : LI → α) (n : Nat) (f : (Int × (LI × LI)) → Option α) (t : (Int × (LI × LI))) : Option α := Fah.l3_0.r mk0 n (fun y0 y1 y2 => f (y0, y1, y2)) t.1 t.2.1 t.2.2
theorem Fah.l3_0.rmap : (Fah.l3_0.T (fun a0 => a0) n f t).map Fah.l3_0.res = Fah.l3_0.T (fun a0 => Fah.l3_0.res a0) n (fun y => (f y).map Fah.l3_0.res) t := by
  unfold Fah.l3_0.T Fah.l3_0.r
  exact Eq.symm (ite_map (ite_map (ite_map (ite_map (ite_map (ite_map rfl rfl) rfl) rfl) rfl) rfl) rfl)
theorem Fah.l3_0.pat_shape : ∀ st t, Fah.l3_0.pat st = some t → st = Fah.l3_0.shape t := fun _ _ h => by unfold Fah.l3_0.pat at h; split at h <;> cases h; rfl
theorem Fah.l3_0.round : Fah.R0 n rc (Fah.l3_0.shape t) = Fah.l3_0.T (fun a0 => Fah.l3_0.res a0) n (fun y => rc (Fah.l3_0.shape y)) t := by kernel_rfl
theorem Fah.l3_0.loop (n m : Nat) (t : (Int × (LI × LI))) : loopOf (Fah.R0 n) m (Fah.l3_0.shape t) = (Fah.l3_0.m n m t).map Fah.l3_0.res :=
  loop_map (fun _ _ => Fah.l3_0.rmap) (fun _ _ => Fah.l3_0.round) (fun _ => rfl) (fun _ _ => by kernel_rfl) m t
theorem Fah.run : runS (Fah.C n) (Fah.A n) n Tryz.f71 (Fah.shape t) = (Fah.m n t).map Fah.res :=
  (show _ = Fah.g (fun a0 => Fah.res a0) n t from by kernel_rfl).trans (by
    unfold Fah.m Fah.g
    exact (bindO_map fun r2 => rfl))
theorem Fah.s (hmix : HM) (n : Nat) : CalleeS Tryz.prog dskG 71 (Fah.c n) :=
  .mkF (res := Fah.res) (shape := Fah.shape) (C := Fah.C n) (A := Fah.A n) (fun R u K => rfl) (fun _ _ _ h => by unfold Fah.pat at h; split at h <;> cases h; rfl) rfl .nil hmix Tryz.func71 (by kernel_rfl) (lp := [Fah.b0]) (by kernel_rfl) (.cons (show (Fah.A n).loop (key Fah.b0) = some (.mk' Fah.l3_0.pat (Fah.l3_0.m n n) (resKl Fah.l3_0.res)) by kernel_rfl) (LoopS.of (res := Fah.l3_0.res) (fun R u K => rfl) Fah.l3_0.pat_shape fun t => Fah.l3_0.loop n n t)
  .nil)
  (nj rfl) (by decide) (fun _ => rfl) rfl (fun _ => by show 1 ≤ Tryz.f71.ntmps; decide) (fun _ => Fah.run)
theorem Fy.run : runS (Fy.C n) (Fy.A n) n Tryz.f67 (Fy.shape t) = (Fy.m n t).map Fy.res :=
  (show _ = Fy.g (fun a0 => Fy.res a0) n t from by kernel_rfl).trans (by
    unfold Fy.m Fy.g
    exact (bindO_map fun r2 => (bindO_map fun r4 => (ite_map rfl rfl))))
theorem Fy.s (hmix : HM) (n : Nat) : CalleeS Tryz.prog dskG 67 (Fy.c n) :=
  .mkF (res := Fy.res) (shape := Fy.shape) (C := Fy.C n) (A := Fy.A n) (fun R u K => rfl) (fun _ _ _ h => by unfold Fy.pat at h; split at h <;> cases h; rfl) rfl (.cons (Fag.s hmix n) (.cons (Fah.s hmix n) .nil)) hmix Tryz.func67 (by kernel_rfl) (lp := []) (by kernel_rfl) .nil
  (nj rfl) (by decide) (fun _ => rfl) rfl (fun _ => by show 1 ≤ Tryz.f67.ntmps; decide) (fun _ => Fy.run)
noncomputable abbrev Fat.R0 (n : Nat) := roundOf (Fat.C n) (Fat.A n) n Fat.b0
def Fat.l2_0.T {α : Type} (mk0 : Bool → ByteArray → Int → Bool → Bool → α) (mk1 : ByteArray → Int → Bool → Bool → α) (n : Nat) (f : Ty15 → Option α) (t : Ty15) : Option α := Fat.l2_0.r mk0 mk1 n (fun y0 y1 y2 y3 y4 y5 y6 y7 => f (y0, y1, y2, y3, y4, y5, y6, y7)) t.1 t.2.1 t.2.2.1 t.2.2.2.1 t.w.1 t.w.2.1 t.w.2.2.1 t.w.2.2.2
theorem Fat.l2_0.rmap : (Fat.l2_0.T (fun a0 a1 a2 a3 a4 => (.inl (a0, a1, a2, a3, a4))) (fun a0 a1 a2 a3 => (.inr (a0, a1, a2, a3))) n f t).map Fat.l2_0.res = Fat.l2_0.T (fun a0 a1 a2 a3 a4 => Fat.l2_0.res (.inl (a0, a1, a2, a3, a4))) (fun a0 a1 a2 a3 => Fat.l2_0.res (.inr (a0, a1, a2, a3))) n (fun y => (f y).map Fat.l2_0.res) t := by
  unfold Fat.l2_0.T Fat.l2_0.r
  exact Eq.symm (ite_map (ite_map (ite_map (bindO_map fun r10 => (bindO_map fun r12 => (bindO_map fun r14 => (bindO_map fun r16 => (bindO_map fun r18 => (ite_map (ite_map (bindO_map fun r24 => (ite_map rfl rfl)) rfl) rfl)))))) rfl) rfl) rfl)
theorem Fat.l2_0.pat_shape : ∀ st t, Fat.l2_0.pat st = some t → st = Fat.l2_0.shape t := fun _ _ h => by unfold Fat.l2_0.pat at h; split at h <;> cases h; rfl
theorem Fat.l2_0.round : Fat.R0 n rc (Fat.l2_0.shape t) = Fat.l2_0.T (fun a0 a1 a2 a3 a4 => Fat.l2_0.res (.inl (a0, a1, a2, a3, a4))) (fun a0 a1 a2 a3 => Fat.l2_0.res (.inr (a0, a1, a2, a3))) n (fun y => rc (Fat.l2_0.shape y)) t := by kernel_rfl
theorem Fat.l2_0.loop (n m : Nat) (t : Ty15) : loopOf (Fat.R0 n) m (Fat.l2_0.shape t) = (Fat.l2_0.m n m t).map Fat.l2_0.res :=
  loop_map (fun _ _ => Fat.l2_0.rmap) (fun _ _ => Fat.l2_0.round) (fun _ => rfl) (fun _ _ => by kernel_rfl) m t
theorem Fat.run : runS (Fat.C n) (Fat.A n) n Tryz.f52 (Fat.shape t) = (Fat.m n t).map Fat.res :=
  (show _ = Fat.g (fun a0 a1 a2 a3 a4 => Fat.res (a0, a1, a2, a3, a4)) n t from by kernel_rfl).trans (by
    unfold Fat.m Fat.g
    exact (bindO_map fun r2 => (bindO_map fun r4 => match r4 with | (.inl r4) => rfl | (.inr r4) => rfl)))
theorem Fat.s (hmix : HM) (n : Nat) : CalleeS Tryz.prog dskG 52 (Fat.c n) :=
  .mkF (res := Fat.res) (shape := Fat.shape) (C := Fat.C n) (A := Fat.A n) (fun R u K => rfl) (fun _ _ _ h => by unfold Fat.pat at h; split at h <;> cases h; rfl) rfl (.cons (Fas.s hmix n) (.cons (Fy.s hmix n) .nil)) hmix Tryz.func52 (by kernel_rfl) (lp := [Fat.b0]) (by kernel_rfl) (.cons (show (Fat.A n).loop (key Fat.b0) = some (.mk' Fat.l2_0.pat (Fat.l2_0.m n n) Fat.l2_0.resK) by kernel_rfl) (LoopS.of (res := Fat.l2_0.res) (fun R u K => by rcases u with u | u <;> rfl) Fat.l2_0.pat_shape fun t => Fat.l2_0.loop n n t)
  .nil)
  (nj rfl) (by decide) (fun _ => rfl) rfl (fun _ => by show 1 ≤ Tryz.f52.ntmps; decide) (fun _ => Fat.run)
noncomputable abbrev Fai.R0 (n : Nat) := roundOf (Fai.C n) (Fai.A n) n Fai.b0
def Fai.l5_0.T {α : Type} (mk0 : LA → α) (n : Nat) (f : (Int × (Int × (LA × (LI × LA)))) → Option α) (t : (Int × (Int × (LA × (LI × LA))))) : Option α := Fai.l5_0.r mk0 n (fun y0 y1 y2 y3 y4 => f (y0, y1, y2, y3, y4)) t.1 t.2.1 t.2.2.1 t.2.2.2.1 t.w
theorem Fai.l5_0.rmap : (Fai.l5_0.T (fun a0 => a0) n f t).map Fai.l5_0.res = Fai.l5_0.T (fun a0 => Fai.l5_0.res a0) n (fun y => (f y).map Fai.l5_0.res) t := by
  unfold Fai.l5_0.T Fai.l5_0.r
  exact Eq.symm (ite_map (ite_map (ite_map (bindO_map fun r10 => (ite_map (ite_map (ite_map (ite_map (ite_map (bindO_map fun r22 => (ite_map rfl rfl)) rfl) rfl) rfl) rfl) rfl)) rfl) rfl) rfl)
theorem Fai.l5_0.pat_shape : ∀ st t, Fai.l5_0.pat st = some t → st = Fai.l5_0.shape t := fun _ _ h => by unfold Fai.l5_0.pat at h; split at h <;> cases h; rfl
theorem Fai.l5_0.round : Fai.R0 n rc (Fai.l5_0.shape t) = Fai.l5_0.T (fun a0 => Fai.l5_0.res a0) n (fun y => rc (Fai.l5_0.shape y)) t := by kernel_rfl
theorem Fai.l5_0.loop (n m : Nat) (t : (Int × (Int × (LA × (LI × LA))))) : loopOf (Fai.R0 n) m (Fai.l5_0.shape t) = (Fai.l5_0.m n m t).map Fai.l5_0.res :=
  loop_map (fun _ _ => Fai.l5_0.rmap) (fun _ _ => Fai.l5_0.round) (fun _ => rfl) (fun _ _ => by kernel_rfl) m t
theorem Fai.run : runS (Fai.C n) (Fai.A n) n Tryz.f53 (Fai.shape t) = (Fai.m n t).map Fai.res :=
  (show _ = Fai.g (fun a0 a1 => Fai.res (a0, a1)) n t.1 t.2 from by kernel_rfl).trans (by
    unfold Fai.m Fai.g
    exact (ite_map rfl (bindO_map fun r4 => rfl)))
theorem Fai.s (hmix : HM) (n : Nat) : CalleeS Tryz.prog dskG 53 (Fai.c n) :=
  .mkF (res := Fai.res) (shape := Fai.shape) (C := Fai.C n) (A := Fai.A n) (fun R u K => rfl) (fun _ _ _ h => by unfold Fai.pat at h; split at h <;> cases h; rfl) rfl (.cons (Fam.s hmix n) .nil) hmix Tryz.func53 (by kernel_rfl) (lp := [Fai.b0]) (by kernel_rfl) (.cons (show (Fai.A n).loop (key Fai.b0) = some (.mk' Fai.l5_0.pat (Fai.l5_0.m n n) (resKl Fai.l5_0.res)) by kernel_rfl) (LoopS.of (res := Fai.l5_0.res) (fun R u K => rfl) Fai.l5_0.pat_shape fun t => Fai.l5_0.loop n n t)
  .nil)
  (nj rfl) (by decide) (fun _ => rfl) rfl (fun _ => by show 2 ≤ Tryz.f53.ntmps; decide) (fun _ => Fai.run)
theorem Fw.run : runS (Fw.C n) (Fw.A n) n Tryz.f79 (Fw.shape t) = (Fw.m n t).map Fw.res :=
  (show _ = Fw.g (fun a0 => Fw.res a0) n t.1 t.2.1 t.2.2 from by kernel_rfl).trans (by
    unfold Fw.m Fw.g
    exact (ite_map rfl (ite_map (ite_map rfl rfl) rfl)))
theorem Fw.s (hmix : HM) (n : Nat) : CalleeS Tryz.prog dskG 79 (Fw.c n) :=
  .mkF (res := Fw.res) (shape := Fw.shape) (C := Fw.C n) (A := Fw.A n) (fun R u K => rfl) (fun _ _ _ h => by unfold Fw.pat at h; split at h <;> cases h; rfl) rfl .nil hmix Tryz.func79 (by kernel_rfl) (lp := []) (by kernel_rfl) .nil
  (nj rfl) (by decide) (fun _ => rfl) rfl (fun _ => by show 3 ≤ Tryz.f79.ntmps; decide) (fun _ => Fw.run)
noncomputable abbrev Fad.R0 (n : Nat) := roundOf (Fad.C n) (Fad.A n) n Fad.b0
def Fad.l4_0.T {α : Type} (mk0 : LI → LI → α) (n : Nat) (f : (Int × (Int × (Int × (LI × (LI × LI))))) → Option α) (t : (Int × (Int × (Int × (LI × (LI × LI)))))) : Option α := Fad.l4_0.r mk0 n (fun y0 y1 y2 y3 y4 y5 => f (y0, y1, y2, y3, y4, y5)) t.1 t.2.1 t.2.2.1 t.2.2.2.1 t.w.1 t.w.2
theorem Fad.l4_0.rmap : (Fad.l4_0.T (fun a0 a1 => (a0, a1)) n f t).map Fad.l4_0.res = Fad.l4_0.T (fun a0 a1 => Fad.l4_0.res (a0, a1)) n (fun y => (f y).map Fad.l4_0.res) t := by
  unfold Fad.l4_0.T Fad.l4_0.r
  exact Eq.symm (ite_map (bindO_map fun r6 => (ite_map (ite_map (ite_map (ite_map (ite_map (ite_map (bindO_map fun r20 => (ite_map (ite_map (ite_map rfl rfl) rfl) rfl)) rfl) rfl) rfl) rfl) rfl) rfl)) rfl)
theorem Fad.l4_0.pat_shape : ∀ st t, Fad.l4_0.pat st = some t → st = Fad.l4_0.shape t := fun _ _ h => by unfold Fad.l4_0.pat at h; split at h <;> cases h; rfl
theorem Fad.l4_0.round : Fad.R0 n rc (Fad.l4_0.shape t) = Fad.l4_0.T (fun a0 a1 => Fad.l4_0.res (a0, a1)) n (fun y => rc (Fad.l4_0.shape y)) t := by kernel_rfl
theorem Fad.l4_0.loop (n m : Nat) (t : (Int × (Int × (Int × (LI × (LI × LI)))))) : loopOf (Fad.R0 n) m (Fad.l4_0.shape t) = (Fad.l4_0.m n m t).map Fad.l4_0.res :=
  loop_map (fun _ _ => Fad.l4_0.rmap) (fun _ _ => Fad.l4_0.round) (fun _ => rfl) (fun _ _ => by kernel_rfl) m t
theorem Fad.run : runS (Fad.C n) (Fad.A n) n Tryz.f62 (Fad.shape t) = (Fad.m n t).map Fad.res :=
  (show _ = Fad.g (fun a0 => Fad.res a0) n t.1 t.2.1 t.2.2 from by kernel_rfl).trans (by
    unfold Fad.m Fad.g
    exact (bindO_map fun r2 => rfl))
theorem Fad.s (hmix : HM) (n : Nat) : CalleeS Tryz.prog dskG 62 (Fad.c n) :=
  .mkF (res := Fad.res) (shape := Fad.shape) (C := Fad.C n) (A := Fad.A n) (fun R u K => rfl) (fun _ _ _ h => by unfold Fad.pat at h; split at h <;> cases h; rfl) rfl (.cons (Fw.s hmix n) .nil) hmix Tryz.func62 (by kernel_rfl) (lp := [Fad.b0]) (by kernel_rfl) (.cons (show (Fad.A n).loop (key Fad.b0) = some (.mk' Fad.l4_0.pat (Fad.l4_0.m n n) (resKl Fad.l4_0.res)) by kernel_rfl) (LoopS.of (res := Fad.l4_0.res) (fun R u K => rfl) Fad.l4_0.pat_shape fun t => Fad.l4_0.loop n n t)
  .nil)
  (nj rfl) (by decide) (fun _ => rfl) rfl (fun _ => by show 3 ≤ Tryz.f62.ntmps; decide) (fun _ => Fad.run)
theorem Fbe.run : runS (Fbe.C n) (Fbe.A n) n Tryz.f47 (Fbe.shape t) = (Fbe.m n t).map Fbe.res :=
  (show _ = Fbe.g (fun a0 => Fbe.res a0) n t.1 t.2 from by kernel_rfl).trans (by
    unfold Fbe.m Fbe.g
    exact (bindO_map fun r2 => (bindO_map fun r4 => rfl)))
theorem Fbe.s (hmix : HM) (n : Nat) : CalleeS Tryz.prog dskG 47 (Fbe.c n) :=
  .mkF (res := Fbe.res) (shape := Fbe.shape) (C := Fbe.C n) (A := Fbe.A n) (fun R u K => rfl) (fun _ _ _ h => by unfold Fbe.pat at h; split at h <;> cases h; rfl) rfl (.cons (Fbb.s hmix n) (.cons (Fad.s hmix n) .nil)) hmix Tryz.func47 (by kernel_rfl) (lp := []) (by kernel_rfl) .nil
  (nj rfl) (by decide) (fun _ => rfl) rfl (fun _ => by show 2 ≤ Tryz.f47.ntmps; decide) (fun _ => Fbe.run)
theorem Faa.run : runS (Faa.C n) (Faa.A n) n Tryz.f24 (Faa.shape t) = (Faa.m n t).map Faa.res :=
  (show _ = Faa.g (fun a0 => Faa.res a0) n t.1 t.2 from by kernel_rfl).trans (by
    unfold Faa.m Faa.g
    exact (bindO_map fun r2 => (bindO_map fun r4 => rfl)))
theorem Faa.s (hmix : HM) (n : Nat) : CalleeS Tryz.prog dskG 24 (Faa.c n) :=
  .mkF (res := Faa.res) (shape := Faa.shape) (C := Faa.C n) (A := Faa.A n) (fun R u K => rfl) (fun _ _ _ h => by unfold Faa.pat at h; split at h <;> cases h; rfl) rfl (.cons (Fao.s hmix n) (.cons (Fbe.s hmix n) .nil)) hmix Tryz.func24 (by kernel_rfl) (lp := []) (by kernel_rfl) .nil
  (nj rfl) (by decide) (fun _ => rfl) rfl (fun _ => by show 2 ≤ Tryz.f24.ntmps; decide) (fun _ => Faa.run)
theorem Fau.run : runS (Fau.C n) (Fau.A n) n Tryz.f88 (Fau.shape t) = (Fau.m n t).map Fau.res :=
  (show _ = Fau.g (fun a0 => Fau.res a0) n t from by kernel_rfl).trans (by
    unfold Fau.m Fau.g
    exact (bindO_map fun r2 => (ite_map (ite_map rfl rfl) rfl)))
theorem Fau.s (hmix : HM) (n : Nat) : CalleeS Tryz.prog dskG 88 (Fau.c n) :=
  .mkF (res := Fau.res) (shape := Fau.shape) (C := Fau.C n) (A := Fau.A n) (fun R u K => rfl) (fun _ _ _ h => by unfold Fau.pat at h; split at h <;> cases h; rfl) rfl (.cons (Fah.s hmix n) .nil) hmix Tryz.func88 (by kernel_rfl) (lp := []) (by kernel_rfl) .nil
  (nj rfl) (by decide) (fun _ => rfl) rfl (fun _ => by show 1 ≤ Tryz.f88.ntmps; decide) (fun _ => Fau.run)
theorem Fi.run : runS (Fi.C n) (Fi.A n) n Tryz.f70 (Fi.shape t) = (Fi.m n t).map Fi.res :=
  (show _ = Fi.g (fun a0 a1 a2 a3 a4 a5 a6 a7 a8 a9 a10 a11 => Fi.res (.inl (a0, a1, a2, a3, a4, a5, a6, a7, a8, a9, a10, a11))) (fun a0 a1 a2 a3 a4 a5 a6 a7 a8 a9 a10 => Fi.res (.inr (a0, a1, a2, a3, a4, a5, a6, a7, a8, a9, a10))) n t.1 t.2.1 t.2.2.1 t.2.2.2.1 t.w.1 t.w.2.1 t.w.2.2.1 t.w.2.2.2.1 t.x.1 t.x.2 from by kernel_rfl).trans (by
    unfold Fi.m Fi.g
    exact (ite_map (bindO_map fun r4 => (bindO_map fun r6 => (ite_map rfl (ite_map (bindO_map fun r12 => (bindO_map fun r14 => rfl)) rfl)))) rfl))
theorem Fi.s (hmix : HM) (n : Nat) : CalleeS Tryz.prog dskG 70 (Fi.c n) :=
  .mkF (res := Fi.res) (shape := Fi.shape) (C := Fi.C n) (A := Fi.A n) (fun R u K => by rcases u with u | u <;> rfl) (fun _ _ _ h => by unfold Fi.pat at h; split at h <;> cases h; rfl) rfl (.cons (Faa.s hmix n) (.cons (Fau.s hmix n) .nil)) hmix Tryz.func70 (by kernel_rfl) (lp := []) (by kernel_rfl) .nil
  (nj rfl) (by decide) (fun _ => rfl) rfl (fun _ => by show 1 ≤ Tryz.f70.ntmps; decide) (fun _ => Fi.run)
theorem Fae.run : runS (Fae.C n) (Fae.A n) n Tryz.f7 (Fae.shape t) = (Fae.m n t).map Fae.res :=
  (show _ = Fae.g (fun a0 a1 a2 a3 a4 a5 a6 => Fae.res (a0, a1, a2, a3, a4, a5, a6)) n t.1 t.2.1 t.2.2.1 t.2.2.2.1 t.w.1 t.w.2.1 t.w.2.2.1 t.w.2.2.2 from by kernel_rfl).trans (by
    unfold Fae.m Fae.g
    exact (bindO_map fun r2 => (ite_map rfl (bindO_map fun r6 => (bindO_map fun r8 => (bindO_map fun r10 => rfl))))))
theorem Fae.s (hmix : HM) (n : Nat) : CalleeS Tryz.prog dskG 7 (Fae.c n) :=
  .mkF (res := Fae.res) (shape := Fae.shape) (C := Fae.C n) (A := Fae.A n) (fun R u K => rfl) (fun _ _ _ h => by unfold Fae.pat at h; split at h <;> cases h; rfl) rfl (.cons (Faa.s hmix n) (.cons (Faq.s hmix n) (.cons (Fap.s hmix n) (.cons (Fn.s hmix n) .nil)))) hmix Tryz.func7 (by kernel_rfl) (lp := []) (by kernel_rfl) .nil
  (nj rfl) (by decide) (fun _ => rfl) rfl (fun _ => by show 3 ≤ Tryz.f7.ntmps; decide) (fun _ => Fae.run)
theorem Fbd.run : runS (Fbd.C n) (Fbd.A n) n Tryz.f8 (Fbd.shape t) = (Fbd.m n t).map Fbd.res :=
  (show _ = Fbd.g (fun a0 a1 a2 a3 a4 a5 a6 => Fbd.res (a0, a1, a2, a3, a4, a5, a6)) n t.1 t.2.1 t.2.2.1 t.2.2.2.1 t.w.1 t.w.2.1 t.w.2.2.1 t.w.2.2.2 from by kernel_rfl).trans (by
    unfold Fbd.m Fbd.g
    exact (bindO_map fun r2 => (bindO_map fun r4 => (bindO_map fun r6 => (ite_map rfl (ite_map rfl (ite_map rfl (bindO_map fun r14 => (bindO_map fun r16 => rfl)))))))))
theorem Fbd.s (hmix : HM) (n : Nat) : CalleeS Tryz.prog dskG 8 (Fbd.c n) :=
  .mkF (res := Fbd.res) (shape := Fbd.shape) (C := Fbd.C n) (A := Fbd.A n) (fun R u K => rfl) (fun _ _ _ h => by unfold Fbd.pat at h; split at h <;> cases h; rfl) rfl (.cons (Fap.s hmix n) (.cons (Faq.s hmix n) (.cons (Fn.s hmix n) (.cons (Fd.s hmix n) .nil)))) hmix Tryz.func8 (by kernel_rfl) (lp := []) (by kernel_rfl) .nil
  (nj rfl) (by decide) (fun _ => rfl) rfl (fun _ => by show 3 ≤ Tryz.f8.ntmps; decide) (fun _ => Fbd.run)
theorem Fav.run : runS (Fav.C n) (Fav.A n) n Tryz.f73 (Fav.shape t) = (Fav.m n t).map Fav.res :=
  (show _ = Fav.g (Fav.res (.inl ())) (fun a0 => Fav.res (.inr a0)) n t from by kernel_rfl).trans (by
    unfold Fav.m Fav.g
    exact (ite_map rfl rfl))
theorem Fav.s (hmix : HM) (n : Nat) : CalleeS Tryz.prog dskG 73 (Fav.c n) :=
  .mkF (res := Fav.res) (shape := Fav.shape) (C := Fav.C n) (A := Fav.A n) (fun R u K => by rcases u with u | u <;> rfl) (fun _ _ _ h => by unfold Fav.pat at h; split at h <;> cases h; rfl) rfl .nil hmix Tryz.func73 (by kernel_rfl) (lp := []) (by kernel_rfl) .nil
  (nj rfl) (by decide) (fun _ => rfl) rfl (fun _ => by show 1 ≤ Tryz.f73.ntmps; decide) (fun _ => Fav.run)
theorem Faj.ok (hmix : HM) (n : Nat) (t) (u) (h : Faj.m n t = some u) : FnOK Tryz.prog dskG 98 (Faj.shape t).1 (Faj.shape t).2 (Faj.res u).1 (Faj.res u).2 :=
  xSub64_ok Tryz.func98 (by kernel_rfl) (by kernel_rfl) (by kernel_rfl) (show Go.Extern.find Tryz.f98 = some sub64Entry by kernel_rfl) t u h
theorem Faj.s (hmix : HM) (n : Nat) : CalleeS Tryz.prog dskG 98 (Faj.c n) :=
  CalleeS.of (res := Faj.res) (shape := Faj.shape) (fun R u K => rfl) (fun args lent t h => by
    unfold Faj.pat at h
    split at h
    · cases h; rfl
    · cases h) fun t u h => Faj.ok hmix n t u h
noncomputable abbrev Fbg.R0 (n : Nat) := roundOf (Fbg.C n) (Fbg.A n) n Fbg.b0
def Fbg.l4_0.T {α : Type} (mk0 : Int → LI → LI → α) (n : Nat) (f : (Int × (Int × (LI × (LI × (LI × LI))))) → Option α) (t : (Int × (Int × (LI × (LI × (LI × LI)))))) : Option α := Fbg.l4_0.r mk0 n (fun y0 y1 y2 y3 y4 y5 => f (y0, y1, y2, y3, y4, y5)) t.1 t.2.1 t.2.2.1 t.2.2.2.1 t.w.1 t.w.2
theorem Fbg.l4_0.rmap : (Fbg.l4_0.T (fun a0 a1 a2 => (a0, a1, a2)) n f t).map Fbg.l4_0.res = Fbg.l4_0.T (fun a0 a1 a2 => Fbg.l4_0.res (a0, a1, a2)) n (fun y => (f y).map Fbg.l4_0.res) t := by
  unfold Fbg.l4_0.T Fbg.l4_0.r
  exact Eq.symm (ite_map (ite_map (ite_map (ite_map (ite_map (bindO_map fun r14 => (ite_map (ite_map rfl rfl) rfl)) rfl) rfl) rfl) rfl) rfl)
theorem Fbg.l4_0.pat_shape : ∀ st t, Fbg.l4_0.pat st = some t → st = Fbg.l4_0.shape t := fun _ _ h => by unfold Fbg.l4_0.pat at h; split at h <;> cases h; rfl
theorem Fbg.l4_0.round : Fbg.R0 n rc (Fbg.l4_0.shape t) = Fbg.l4_0.T (fun a0 a1 a2 => Fbg.l4_0.res (a0, a1, a2)) n (fun y => rc (Fbg.l4_0.shape y)) t := by kernel_rfl
theorem Fbg.l4_0.loop (n m : Nat) (t : (Int × (Int × (LI × (LI × (LI × LI)))))) : loopOf (Fbg.R0 n) m (Fbg.l4_0.shape t) = (Fbg.l4_0.m n m t).map Fbg.l4_0.res :=
  loop_map (fun _ _ => Fbg.l4_0.rmap) (fun _ _ => Fbg.l4_0.round) (fun _ => rfl) (fun _ _ => by kernel_rfl) m t
theorem Fbg.run : runS (Fbg.C n) (Fbg.A n) n Tryz.f96 (Fbg.shape t) = (Fbg.m n t).map Fbg.res :=
  (show _ = Fbg.g (fun a0 a1 => Fbg.res (a0, a1)) n t.1 t.2 from by kernel_rfl).trans (by
    unfold Fbg.m Fbg.g
    exact (bindO_map fun r2 => rfl))
theorem Fbg.s (hmix : HM) (n : Nat) : CalleeS Tryz.prog dskG 96 (Fbg.c n) :=
  .mkF (res := Fbg.res) (shape := Fbg.shape) (C := Fbg.C n) (A := Fbg.A n) (fun R u K => rfl) (fun _ _ _ h => by unfold Fbg.pat at h; split at h <;> cases h; rfl) rfl (.cons (Faj.s hmix n) .nil) hmix Tryz.func96 (by kernel_rfl) (lp := [Fbg.b0]) (by kernel_rfl) (.cons (show (Fbg.A n).loop (key Fbg.b0) = some (.mk' Fbg.l4_0.pat (Fbg.l4_0.m n n) (resKl Fbg.l4_0.res)) by kernel_rfl) (LoopS.of (res := Fbg.l4_0.res) (fun R u K => rfl) Fbg.l4_0.pat_shape fun t => Fbg.l4_0.loop n n t)
  .nil)
  (nj rfl) (by decide) (fun _ => rfl) rfl (fun _ => by show 2 ≤ Tryz.f96.ntmps; decide) (fun _ => Fbg.run)
theorem Fak.run : runS (Fak.C n) (Fak.A n) n Tryz.f91 (Fak.shape t) = (Fak.m n t).map Fak.res :=
  (show _ = Fak.g (fun a0 a1 a2 a3 a4 a5 a6 => Fak.res (a0, a1, a2, a3, a4, a5, a6)) n t.1 t.2.1 t.2.2.1 t.2.2.2.1 t.w.1 t.w.2.1 t.w.2.2.1 t.w.2.2.2 from by kernel_rfl).trans (by
    unfold Fak.m Fak.g
    exact (bindO_map fun r2 => (bindO_map fun r4 => (ite_map (bindO_map fun r8 => (bindO_map fun r10 => (bindO_map fun r12 => rfl))) rfl))))
theorem Fak.s (hmix : HM) (n : Nat) : CalleeS Tryz.prog dskG 91 (Fak.c n) :=
  .mkF (res := Fak.res) (shape := Fak.shape) (C := Fak.C n) (A := Fak.A n) (fun R u K => rfl) (fun _ _ _ h => by unfold Fak.pat at h; split at h <;> cases h; rfl) rfl (.cons (Fx.s hmix n) (.cons (Fbg.s hmix n) (.cons (Faq.s hmix n) (.cons (Fap.s hmix n) (.cons (Fd.s hmix n) .nil))))) hmix Tryz.func91 (by kernel_rfl) (lp := []) (by kernel_rfl) .nil
  (nj rfl) (by decide) (fun _ => rfl) rfl (fun _ => by show 3 ≤ Tryz.f91.ntmps; decide) (fun _ => Fak.run)
theorem Ff.run : runS (Ff.C n) (Ff.A n) n Tryz.f12 (Ff.shape t) = (Ff.m n t).map Ff.res :=
  (show _ = Ff.g (fun a0 a1 a2 a3 a4 a5 a6 => Ff.res (a0, a1, a2, a3, a4, a5, a6)) n t.1 t.2.1 t.2.2.1 t.2.2.2.1 t.w.1 t.w.2.1 t.w.2.2 from by kernel_rfl).trans (by
    unfold Ff.m Ff.g
    exact (bindO_map fun r2 => (bindO_map fun r4 => (bindO_map fun r6 => (bindO_map fun r8 => (bindO_map fun r10 => rfl))))))
theorem Ff.s (hmix : HM) (n : Nat) : CalleeS Tryz.prog dskG 12 (Ff.c n) :=
  .mkF (res := Ff.res) (shape := Ff.shape) (C := Ff.C n) (A := Ff.A n) (fun R u K => rfl) (fun _ _ _ h => by unfold Ff.pat at h; split at h <;> cases h; rfl) rfl .nil hmix Tryz.func12 (by kernel_rfl) (lp := []) (by kernel_rfl) .nil
  (nj rfl) (by decide) (fun _ => rfl) rfl (fun _ => by show 2 ≤ Tryz.f12.ntmps; decide) (fun _ => Ff.run)
theorem Fr.run : runS (Fr.C n) (Fr.A n) n Tryz.f29 (Fr.shape t) = (Fr.m n t).map Fr.res :=
  (show _ = Fr.g (fun a0 a1 a2 a3 a4 a5 => Fr.res (a0, a1, a2, a3, a4, a5)) n t.1 t.2.1 t.2.2.1 t.2.2.2.1 t.w.1 t.w.2.1 t.w.2.2.1 t.w.2.2.2.1 t.x.1 t.x.2 from by kernel_rfl).trans (by
    unfold Fr.m Fr.g
    exact (bindO_map fun r2 => (bindO_map fun r4 => (bindO_map fun r6 => (bindO_map fun r8 => (bindO_map fun r10 => (ite_map (bindO_map fun r14 => rfl) rfl)))))))
theorem Fr.s (hmix : HM) (n : Nat) : CalleeS Tryz.prog dskG 29 (Fr.c n) :=
  .mkF (res := Fr.res) (shape := Fr.shape) (C := Fr.C n) (A := Fr.A n) (fun R u K => rfl) (fun _ _ _ h => by unfold Fr.pat at h; split at h <;> cases h; rfl) rfl .nil hmix Tryz.func29 (by kernel_rfl) (lp := []) (by kernel_rfl) .nil
  (nj rfl) (by decide) (fun _ => rfl) rfl (fun _ => by show 3 ≤ Tryz.f29.ntmps; decide) (fun _ => Fr.run)
theorem Fb.run : runS (Fb.C n) (Fb.A n) n Tryz.f13 (Fb.shape t) = (Fb.m n t).map Fb.res :=
  (show _ = Fb.g (fun a0 a1 a2 a3 a4 a5 => Fb.res (a0, a1, a2, a3, a4, a5)) n t.1 t.2.1 t.2.2.1 t.2.2.2.1 t.w.1 t.w.2.1 t.w.2.2.1 t.w.2.2.2 from by kernel_rfl).trans (by
    unfold Fb.m Fb.g
    exact (bindO_map fun r2 => (bindO_map fun r4 => (bindO_map fun r6 => (bindO_map fun r8 => (bindO_map fun r10 => (bindO_map fun r12 => rfl)))))))
theorem Fb.s (hmix : HM) (n : Nat) : CalleeS Tryz.prog dskG 13 (Fb.c n) :=
  .mkF (res := Fb.res) (shape := Fb.shape) (C := Fb.C n) (A := Fb.A n) (fun R u K => rfl) (fun _ _ _ h => by unfold Fb.pat at h; split at h <;> cases h; rfl) rfl (.cons (Fr.s hmix n) .nil) hmix Tryz.func13 (by kernel_rfl) (lp := []) (by kernel_rfl) .nil
  (nj rfl) (by decide) (fun _ => rfl) rfl (fun _ => by show 3 ≤ Tryz.f13.ntmps; decide) (fun _ => Fb.run)
theorem Fs.run : runS (Fs.C n) (Fs.A n) n Tryz.f95 (Fs.shape t) = (Fs.m n t).map Fs.res :=
  (show _ = Fs.g (fun a0 a1 a2 a3 a4 a5 a6 => Fs.res (a0, a1, a2, a3, a4, a5, a6)) n t.1 t.2.1 t.2.2.1 t.2.2.2.1 t.w.1 t.w.2.1 t.w.2.2.1 t.w.2.2.2.1 t.x from by kernel_rfl).trans (by
    unfold Fs.m Fs.g
    exact (bindO_map fun r2 => (bindO_map fun r4 => (ite_map rfl (bindO_map fun r8 => (bindO_map fun r10 => (bindO_map fun r12 => (bindO_map fun r14 => rfl))))))))
theorem Fs.s (hmix : HM) (n : Nat) : CalleeS Tryz.prog dskG 95 (Fs.c n) :=
  .mkF (res := Fs.res) (shape := Fs.shape) (C := Fs.C n) (A := Fs.A n) (fun R u K => rfl) (fun _ _ _ h => by unfold Fs.pat at h; split at h <;> cases h; rfl) rfl (.cons (Ff.s hmix n) (.cons (Fbg.s hmix n) (.cons (Fb.s hmix n) (.cons (Fbf.s hmix n) .nil)))) hmix Tryz.func95 (by kernel_rfl) (lp := []) (by kernel_rfl) .nil
  (nj rfl) (by decide) (fun _ => rfl) rfl (fun _ => by show 4 ≤ Tryz.f95.ntmps; decide) (fun _ => Fs.run)
theorem Fu.run : runS (Fu.C n) (Fu.A n) n Tryz.f90 (Fu.shape t) = (Fu.m n t).map Fu.res :=
  (show _ = Fu.g (fun a0 a1 a2 a3 a4 a5 a6 a7 a8 a9 a10 => Fu.res (.inl (a0, a1, a2, a3, a4, a5, a6, a7, a8, a9, a10))) (fun a0 a1 a2 a3 a4 a5 a6 a7 a8 a9 => Fu.res (.inr (a0, a1, a2, a3, a4, a5, a6, a7, a8, a9))) n t.1 t.2.1 t.2.2.1 t.2.2.2.1 t.w.1 t.w.2.1 t.w.2.2.1 t.w.2.2.2.1 t.x.1 t.x.2.1 t.x.2.2 from by kernel_rfl).trans (by
    unfold Fu.m Fu.g
    exact (bindO_map fun r2 => match r2 with | (.inl r2) => rfl | (.inr r2) => (bindO_map fun r6 => (bindO_map fun r8 => (bindO_map fun r10 => match r10 with | (.inl r10) => rfl | (.inr r10) => rfl)))))
theorem Fu.s (hmix : HM) (n : Nat) : CalleeS Tryz.prog dskG 90 (Fu.c n) :=
  .mkF (res := Fu.res) (shape := Fu.shape) (C := Fu.C n) (A := Fu.A n) (fun R u K => by rcases u with u | u <;> rfl) (fun _ _ _ h => by unfold Fu.pat at h; split at h <;> cases h; rfl) rfl (.cons (Fi.s hmix n) (.cons (Faq.s hmix n) (.cons (Fs.s hmix n) (.cons (Fav.s hmix n) .nil)))) hmix Tryz.func90 (by kernel_rfl) (lp := []) (by kernel_rfl) .nil
  (nj rfl) (by decide) (fun _ => rfl) rfl (fun _ => by show 2 ≤ Tryz.f90.ntmps; decide) (fun _ => Fu.run)
theorem Fg.run : runS (Fg.C n) (Fg.A n) n Tryz.f77 (Fg.shape t) = (Fg.m n t).map Fg.res :=
  (show _ = Fg.g (fun a0 a1 a2 a3 a4 a5 a6 a7 a8 a9 a10 => Fg.res (.inl (a0, a1, a2, a3, a4, a5, a6, a7, a8, a9, a10))) (fun a0 a1 a2 a3 a4 a5 a6 a7 a8 a9 => Fg.res (.inr (a0, a1, a2, a3, a4, a5, a6, a7, a8, a9))) n t.1 t.2.1 t.2.2.1 t.2.2.2.1 t.w.1 t.w.2.1 t.w.2.2.1 t.w.2.2.2.1 t.x.1 t.x.2 from by kernel_rfl).trans (by
    unfold Fg.m Fg.g
    exact (bindO_map fun r2 => match r2 with | (.inl r2) => rfl | (.inr r2) => (ite_map (bindO_map fun r8 => (bindO_map fun r10 => (bindO_map fun r12 => match r12 with | (.inl r12) => (ite_map (bindO_map fun r18 => (bindO_map fun r20 => match r20 with | (.inl r20) => rfl | (.inr r20) => rfl)) rfl) | (.inr r12) => rfl))) rfl)))
theorem Fg.s (hmix : HM) (n : Nat) : CalleeS Tryz.prog dskG 77 (Fg.c n) :=
  .mkF (res := Fg.res) (shape := Fg.shape) (C := Fg.C n) (A := Fg.A n) (fun R u K => by rcases u with u | u <;> rfl) (fun _ _ _ h => by unfold Fg.pat at h; split at h <;> cases h; rfl) rfl (.cons (Fi.s hmix n) (.cons (Fak.s hmix n) (.cons (Fav.s hmix n) (.cons (Fu.s hmix n) .nil)))) hmix Tryz.func77 (by kernel_rfl) (lp := []) (by kernel_rfl) .nil
  (nj rfl) (by decide) (fun _ => rfl) rfl (fun _ => by show 1 ≤ Tryz.f77.ntmps; decide) (fun _ => Fg.run)
theorem Ft.run : runS (Ft.C n) (Ft.A n) n Tryz.f54 (Ft.shape t) = (Ft.m n t).map Ft.res :=
  (show _ = Ft.g (fun a0 a1 a2 a3 a4 a5 a6 a7 a8 a9 a10 a11 => Ft.res (.inl (a0, a1, a2, a3, a4, a5, a6, a7, a8, a9, a10, a11))) (fun a0 a1 a2 a3 a4 a5 a6 a7 a8 a9 a10 => Ft.res (.inr (a0, a1, a2, a3, a4, a5, a6, a7, a8, a9, a10))) n t.1 t.2.1 t.2.2.1 t.2.2.2.1 t.w.1 t.w.2.1 t.w.2.2.1 t.w.2.2.2.1 t.x.1 t.x.2.1 t.x.2.2 from by kernel_rfl).trans (by
    unfold Ft.m Ft.g
    exact (ite_map (bindO_map fun r4 => match r4 with | (.inl r4) => rfl | (.inr r4) => (ite_map (bindO_map fun r10 => (bindO_map fun r12 => rfl)) (bindO_map fun r10 => rfl))) (ite_map (bindO_map fun r6 => match r6 with | (.inl r6) => rfl | (.inr r6) => (ite_map (bindO_map fun r12 => (bindO_map fun r14 => rfl)) (bindO_map fun r12 => rfl))) (ite_map rfl (ite_map (ite_map (bindO_map fun r12 => (bindO_map fun r14 => (ite_map (ite_map (bindO_map fun r20 => (bindO_map fun r22 => (bindO_map fun r24 => (bindO_map fun r26 => match r26 with | (.inl r26) => rfl | (.inr r26) => rfl)))) rfl) (bindO_map fun r18 => match r18 with | (.inl r18) => rfl | (.inr r18) => rfl)))) rfl) (ite_map rfl (ite_map rfl (ite_map rfl (bindO_map fun r16 => match r16 with | (.inl r16) => rfl | (.inr r16) => rfl)))))))))
theorem Ft.s (hmix : HM) (n : Nat) : CalleeS Tryz.prog dskG 54 (Ft.c n) :=
  .mkF (res := Ft.res) (shape := Ft.shape) (C := Ft.C n) (A := Ft.A n) (fun R u K => by rcases u with u | u <;> rfl) (fun _ _ _ h => by unfold Ft.pat at h; split at h <;> cases h; rfl) rfl (.cons (Fi.s hmix n) (.cons (Fx.s hmix n) (.cons (Fah.s hmix n) (.cons (Fab.s hmix n) (.cons (Faa.s hmix n) (.cons (Fae.s hmix n) (.cons (Fbd.s hmix n) (.cons (Fav.s hmix n) (.cons (Fg.s hmix n) .nil))))))))) hmix Tryz.func54 (by kernel_rfl) (lp := []) (by kernel_rfl) .nil
  (nj rfl) (by decide) (fun _ => rfl) rfl (fun _ => by show 2 ≤ Tryz.f54.ntmps; decide) (fun _ => Ft.run)
noncomputable abbrev Fq.R0 (n : Nat) := roundOf (Fq.C n) (Fq.A n) n Fq.b0
def Fq.l10_0.T {α : Type} (mk0 : Int → LI → LI → Int → Int → LA → LA → LA → LA → ByteArray → Int → Bool → Bool → LA → α) (n : Nat) (f : Ty0 → Option α) (t : Ty0) : Option α := Fq.l10_0.r mk0 n (fun y0 y1 y2 y3 y4 y5 y6 y7 y8 y9 y10 y11 y12 y13 y14 y15 y16 => f (y0, y1, y2, y3, y4, y5, y6, y7, y8, y9, y10, y11, y12, y13, y14, y15, y16)) t.1 t.2.1 t.2.2.1 t.2.2.2.1 t.w.1 t.w.2.1 t.w.2.2.1 t.w.2.2.2.1 t.x.1 t.x.2.1 t.x.2.2.1 t.x.2.2.2.1 t.x.w.1 t.x.w.2.1 t.x.w.2.2.1 t.x.w.2.2.2.1 t.y
theorem Fq.l10_0.rmap : (Fq.l10_0.T (fun a0 a1 a2 a3 a4 a5 a6 a7 a8 a9 a10 a11 a12 a13 => (a0, a1, a2, a3, a4, a5, a6, a7, a8, a9, a10, a11, a12, a13)) n f t).map Fq.l10_0.res = Fq.l10_0.T (fun a0 a1 a2 a3 a4 a5 a6 a7 a8 a9 a10 a11 a12 a13 => Fq.l10_0.res (a0, a1, a2, a3, a4, a5, a6, a7, a8, a9, a10, a11, a12, a13)) n (fun y => (f y).map Fq.l10_0.res) t := by
  unfold Fq.l10_0.T Fq.l10_0.r
  exact Eq.symm (ite_map (ite_map (ite_map (bindO_map fun r10 => (bindO_map fun r12 => (bindO_map fun r14 => (bindO_map fun r16 => (ite_map rfl rfl))))) rfl) rfl) rfl)
theorem Fq.l10_0.pat_shape : ∀ st t, Fq.l10_0.pat st = some t → st = Fq.l10_0.shape t := fun _ _ h => by unfold Fq.l10_0.pat at h; split at h <;> cases h; rfl
theorem Fq.l10_0.round : Fq.R0 n rc (Fq.l10_0.shape t) = Fq.l10_0.T (fun a0 a1 a2 a3 a4 a5 a6 a7 a8 a9 a10 a11 a12 a13 => Fq.l10_0.res (a0, a1, a2, a3, a4, a5, a6, a7, a8, a9, a10, a11, a12, a13)) n (fun y => rc (Fq.l10_0.shape y)) t := by kernel_rfl
theorem Fq.l10_0.loop (n m : Nat) (t : Ty0) : loopOf (Fq.R0 n) m (Fq.l10_0.shape t) = (Fq.l10_0.m n m t).map Fq.l10_0.res :=
  loop_map (fun _ _ => Fq.l10_0.rmap) (fun _ _ => Fq.l10_0.round) (fun _ => rfl) (fun _ _ => by kernel_rfl) m t
theorem Fq.run : runS (Fq.C n) (Fq.A n) n Tryz.f31 (Fq.shape t) = (Fq.m n t).map Fq.res :=
  (show _ = Fq.g (fun a0 a1 a2 a3 a4 a5 a6 a7 a8 a9 a10 a11 => Fq.res (.inl (a0, a1, a2, a3, a4, a5, a6, a7, a8, a9, a10, a11))) (fun a0 a1 a2 a3 a4 a5 a6 a7 a8 a9 a10 a11 a12 => Fq.res (.inr (.inl (a0, a1, a2, a3, a4, a5, a6, a7, a8, a9, a10, a11, a12)))) (fun a0 a1 a2 a3 a4 a5 a6 a7 a8 a9 a10 => Fq.res (.inr (.inr (a0, a1, a2, a3, a4, a5, a6, a7, a8, a9, a10)))) n t.1 t.2.1 t.2.2.1 t.2.2.2.1 t.w.1 t.w.2.1 t.w.2.2.1 t.w.2.2.2.1 t.x.1 t.x.2.1 t.x.2.2 from by kernel_rfl).trans (by
    unfold Fq.m Fq.g
    exact (bindO_map fun r2 => (ite_map rfl (ite_map (ite_map (ite_map (ite_map (ite_map (bindO_map fun r16 => (ite_map rfl (ite_map (ite_map rfl (ite_map (ite_map rfl (bindO_map fun r28 => (bindO_map fun r30 => match r30 with | (.inl r30) => rfl | (.inr r30) => rfl))) (bindO_map fun r26 => (bindO_map fun r28 => match r28 with | (.inl r28) => rfl | (.inr r28) => rfl)))) (ite_map (ite_map rfl (bindO_map fun r26 => (bindO_map fun r28 => match r28 with | (.inl r28) => rfl | (.inr r28) => rfl))) (bindO_map fun r24 => (bindO_map fun r26 => match r26 with | (.inl r26) => rfl | (.inr r26) => rfl)))))) rfl) rfl) rfl) rfl) rfl))))
theorem Fq.s (hmix : HM) (n : Nat) : CalleeS Tryz.prog dskG 31 (Fq.c n) :=
  .mkF (res := Fq.res) (shape := Fq.shape) (C := Fq.C n) (A := Fq.A n) (fun R u K => by rcases u with u | u | u <;> rfl) (fun _ _ _ h => by unfold Fq.pat at h; split at h <;> cases h; rfl) rfl (.cons (Fat.s hmix n) (.cons (Fai.s hmix n) (.cons (Ft.s hmix n) .nil))) hmix Tryz.func31 (by kernel_rfl) (lp := [Fq.b0]) (by kernel_rfl) (.cons (show (Fq.A n).loop (key Fq.b0) = some (.mk' Fq.l10_0.pat (Fq.l10_0.m n n) (resKl Fq.l10_0.res)) by kernel_rfl) (LoopS.of (res := Fq.l10_0.res) (fun R u K => rfl) Fq.l10_0.pat_shape fun t => Fq.l10_0.loop n n t)
  .nil)
  (nj rfl) (by decide) (fun _ => rfl) rfl (fun _ => by show 3 ≤ Tryz.f31.ntmps; decide) (fun _ => Fq.run)
section
namespace Go.Proofs
open Go Go.RowKit Go.Extern.Stop Go.Stop Go.Extern
theorem is_nil (b : Addr) (w : World) :
  Calls Tryz.prog 32 #[.nilIface, .iface 201 (.pointer (some b))] w fun e w' => e = .returned (.bool false) ∧ w' = w := by
 have hn := run_eql_iface_nil_left (P := Tryz.prog) w 201 (.pointer (some b)) Tryz.underlying91
 go_enter Tryz.func32, Tryz.ntmps32
 go_wp2
 go_ret
 exact ⟨rfl, rfl⟩
end Go.Proofs
namespace Go.Abs
open Go Go.Proofs Go.RowKit
theorem dskG_errv {k : Nat} (h : k ≤ 2) : dskG k = .errv 124 201 k := by
 match k, h with
 | 0, _ => rfl
 | 1, _ => rfl
 | 2, _ => rfl
theorem errAt {E : Env} (g : Glob dskG E) {k : Nat} (h : k ≤ 2) : ErrAt E k 201 := (g.errs k 124 201 k (dskG_errv h)).2
theorem errv_inv {E : Env} {o : Bool} {k : Nat} {v : Value} (h : VR E o (.errv 124 201 k) v) : ErrV E 124 201 k v := by cases h; assumption
theorem target {E : Env} {k : Nat} {b : Addr} (hk : k ≤ 2) (hc : E.cell k 0 = some (.iface 201 (.pointer (some b)))) {v : Value} (h : VR E true (.errv 124 201 k) v) : v = .iface 201 (.pointer (some b)) := by
 have := ((errv_inv h).base (by omega)).2
 rw [hc] at this
 cases this
 rfl
theorem isNil_ok (k : Nat) (hk : k ≤ 2) : FnOK Tryz.prog dskG 32 [.nili, .errv 124 201 k] [] (.bool false) [] := by
 intro E vs hbl m g ha
 obtain ⟨v, w, rfl, hv, hw⟩ := args2 ha
 cases hv
 obtain ⟨b, cb, tb, h1, h2, h3, h4, h5, h6⟩ := errAt g hk
 rw [target hk h3 hw]
 refine .inl ⟨Tryz.f32, Tryz.func32, by decide, by kernel_rfl, (is_nil b E.w).mono ?_⟩
 rintro e W' ⟨rfl, rfl⟩
 exact ⟨_, rfl, E, rfl, hbl, Go.refl m, .bool _ _⟩
end Go.Abs
end
theorem Faw.s (hmix : HM) (n : Nat) : CalleeS Tryz.prog dskG 32 (Faw.c n) :=
  CalleeS.of (res := Faw.res) (shape := Faw.shape) (fun R u K => rfl) (fun args lent t h => by
    unfold Faw.pat at h
    split at h
    · cases h; rfl
    · cases h) fun t u h => by
      unfold Faw.m at h
      split at h
      · cases h; exact isNil_ok t (by assumption)
      · cases h
theorem Fax.run : runS (Fax.C n) (Fax.A n) n Tryz.f14 (Fax.shape t) = (Fax.m n t).map Fax.res :=
  (show _ = Fax.g (fun a0 a1 a2 a3 a4 a5 a6 a7 => Fax.res (a0, a1, a2, a3, a4, a5, a6, a7)) n t.1 t.2.1 t.2.2.1 t.2.2.2.1 t.w.1 t.w.2.1 t.w.2.2.1 t.w.2.2.2.1 t.x.1 t.x.2.1 t.x.2.2 from by kernel_rfl).trans (by
    unfold Fax.m Fax.g
    exact (ite_map (ite_map (bindO_map fun r6 => rfl) rfl) (bindO_map fun r4 => match r4 with | (.inl r4) => rfl | (.inr (.inl r4)) => rfl | (.inr (.inr r4)) => (bindO_map fun r8 => (ite_map rfl (bindO_map fun r12 => (ite_map rfl (bindO_map fun r16 => (ite_map rfl rfl)))))))))
theorem Fax.s (hmix : HM) (n : Nat) : CalleeS Tryz.prog dskG 14 (Fax.c n) :=
  .mkF (res := Fax.res) (shape := Fax.shape) (C := Fax.C n) (A := Fax.A n) (fun R u K => rfl) (fun _ _ _ h => by unfold Fax.pat at h; split at h <;> cases h; rfl) rfl (.cons (Fab.s hmix n) (.cons (Fq.s hmix n) (.cons (Faw.s hmix n) .nil))) hmix Tryz.func14 (by kernel_rfl) (lp := []) (by kernel_rfl) .nil
  (nj rfl) (by decide) (fun _ => rfl) rfl (fun _ => by show 6 ≤ Tryz.f14.ntmps; decide) (fun _ => Fax.run)
noncomputable abbrev Fay.R0 (n : Nat) := roundOf (Fay.C n) (Fay.A n) n Fay.b0
noncomputable abbrev Fay.R1 (n : Nat) := roundOf (Fay.C n) (Fay.A n) n Fay.b1
def Fay.l2_0.T {α : Type} (mk0 : LI → α) (n : Nat) (f : LI → Option α) (t : LI) : Option α := Fay.l2_0.r mk0 n (fun y0 => f y0) t
theorem Fay.l2_0.rmap : (Fay.l2_0.T (fun a0 => a0) n f t).map Fay.l2_0.res = Fay.l2_0.T (fun a0 => Fay.l2_0.res a0) n (fun y => (f y).map Fay.l2_0.res) t := by
  unfold Fay.l2_0.T Fay.l2_0.r
  exact Eq.symm (ite_map (ite_map rfl rfl) rfl)
theorem Fay.l2_0.pat_shape : ∀ st t, Fay.l2_0.pat st = some t → st = Fay.l2_0.shape t := fun _ _ h => by unfold Fay.l2_0.pat at h; split at h <;> cases h; rfl
theorem Fay.l2_0.round : Fay.R0 n rc (Fay.l2_0.shape t) = Fay.l2_0.T (fun a0 => Fay.l2_0.res a0) n (fun y => rc (Fay.l2_0.shape y)) t := by kernel_rfl
theorem Fay.l2_0.loop (n m : Nat) (t : LI) : loopOf (Fay.R0 n) m (Fay.l2_0.shape t) = (Fay.l2_0.m n m t).map Fay.l2_0.res :=
  loop_map (fun _ _ => Fay.l2_0.rmap) (fun _ _ => Fay.l2_0.round) (fun _ => rfl) (fun _ _ => by kernel_rfl) m t
def Fay.l7_0.T {α : Type} (mk0 : LI → α) (n : Nat) (f : (Int × (Int × (Int × LI))) → Option α) (t : (Int × (Int × (Int × LI)))) : Option α := Fay.l7_0.r mk0 n (fun y0 y1 y2 y3 => f (y0, y1, y2, y3)) t.1 t.2.1 t.2.2.1 t.2.2.2
theorem Fay.l7_0.rmap : (Fay.l7_0.T (fun a0 => a0) n f t).map Fay.l7_0.res = Fay.l7_0.T (fun a0 => Fay.l7_0.res a0) n (fun y => (f y).map Fay.l7_0.res) t := by
  unfold Fay.l7_0.T Fay.l7_0.r
  exact Eq.symm (ite_map (ite_map (ite_map rfl rfl) rfl) rfl)
theorem Fay.l7_0.pat_shape : ∀ st t, Fay.l7_0.pat st = some t → st = Fay.l7_0.shape t := fun _ _ h => by unfold Fay.l7_0.pat at h; split at h <;> cases h; rfl
theorem Fay.l7_0.round : Fay.R1 n rc (Fay.l7_0.shape t) = Fay.l7_0.T (fun a0 => Fay.l7_0.res a0) n (fun y => rc (Fay.l7_0.shape y)) t := by kernel_rfl
theorem Fay.l7_0.loop (n m : Nat) (t : (Int × (Int × (Int × LI)))) : loopOf (Fay.R1 n) m (Fay.l7_0.shape t) = (Fay.l7_0.m n m t).map Fay.l7_0.res :=
  loop_map (fun _ _ => Fay.l7_0.rmap) (fun _ _ => Fay.l7_0.round) (fun _ => rfl) (fun _ _ => by kernel_rfl) m t
theorem Fay.run : runS (Fay.C n) (Fay.A n) n Tryz.f58 (Fay.shape t) = (Fay.m n t).map Fay.res :=
  (show _ = Fay.g (fun a0 => Fay.res a0) n  from by kernel_rfl).trans (by
    unfold Fay.m Fay.g
    exact (bindO_map fun r2 => (bindO_map fun r4 => rfl)))
theorem Fay.s (hmix : HM) (n : Nat) : CalleeS Tryz.prog dskG 58 (Fay.c n) :=
  .mkF (res := Fay.res) (shape := Fay.shape) (C := Fay.C n) (A := Fay.A n) (fun R u K => rfl) (fun _ _ _ h => by unfold Fay.pat at h; split at h <;> cases h; rfl) rfl .nil hmix Tryz.func58 (by kernel_rfl) (lp := [Fay.b0, Fay.b1]) (by kernel_rfl) (.cons (show (Fay.A n).loop (key Fay.b0) = some (.mk' Fay.l2_0.pat (Fay.l2_0.m n n) (resKl Fay.l2_0.res)) by kernel_rfl) (LoopS.of (res := Fay.l2_0.res) (fun R u K => rfl) Fay.l2_0.pat_shape fun t => Fay.l2_0.loop n n t)
  (.cons (show (Fay.A n).loop (key Fay.b1) = some (.mk' Fay.l7_0.pat (Fay.l7_0.m n n) (resKl Fay.l7_0.res)) by kernel_rfl) (LoopS.of (res := Fay.l7_0.res) (fun R u K => rfl) Fay.l7_0.pat_shape fun t => Fay.l7_0.loop n n t)
  .nil))
  (nj rfl) (by decide) (fun _ => rfl) rfl (fun _ => by show 0 ≤ Tryz.f58.ntmps; decide) (fun _ => Fay.run)
noncomputable abbrev Fbh.R0 (n : Nat) := roundOf (Fbh.C n) (Fbh.A n) n Fbh.b0
noncomputable abbrev Fbh.R1 (n : Nat) := roundOf (Fbh.C n) (Fbh.A n) n Fbh.b1
def Fbh.l9_0.T {α : Type} (mk0 : Int → Int → Int → LI → α) (n : Nat) (f : Ty30 → Option α) (t : Ty30) : Option α := Fbh.l9_0.r mk0 n (fun y0 y1 y2 y3 y4 y5 => f (y0, y1, y2, y3, y4, y5)) t.1 t.2.1 t.2.2.1 t.2.2.2.1 t.w.1 t.w.2
theorem Fbh.l9_0.rmap : (Fbh.l9_0.T (fun a0 a1 a2 a3 => (a0, a1, a2, a3)) n f t).map Fbh.l9_0.res = Fbh.l9_0.T (fun a0 a1 a2 a3 => Fbh.l9_0.res (a0, a1, a2, a3)) n (fun y => (f y).map Fbh.l9_0.res) t := by
  unfold Fbh.l9_0.T Fbh.l9_0.r
  exact Eq.symm (ite_map (ite_map (ite_map (ite_map rfl rfl) rfl) (ite_map rfl rfl)) rfl)
theorem Fbh.l9_0.pat_shape : ∀ st t, Fbh.l9_0.pat st = some t → st = Fbh.l9_0.shape t := fun _ _ h => by unfold Fbh.l9_0.pat at h; split at h <;> cases h; rfl
theorem Fbh.l9_0.round : Fbh.R1 n rc (Fbh.l9_0.shape t) = Fbh.l9_0.T (fun a0 a1 a2 a3 => Fbh.l9_0.res (a0, a1, a2, a3)) n (fun y => rc (Fbh.l9_0.shape y)) t := by kernel_rfl
theorem Fbh.l9_0.loop (n m : Nat) (t : Ty30) : loopOf (Fbh.R1 n) m (Fbh.l9_0.shape t) = (Fbh.l9_0.m n m t).map Fbh.l9_0.res :=
  loop_map (fun _ _ => Fbh.l9_0.rmap) (fun _ _ => Fbh.l9_0.round) (fun _ => rfl) (fun _ _ => by kernel_rfl) m t
def Fbh.l4_0.T {α : Type} (mk0 : LI → α) (n : Nat) (f : (Int × (Int × LI)) → Option α) (t : (Int × (Int × LI))) : Option α := Fbh.l4_0.r mk0 n (fun y0 y1 y2 => f (y0, y1, y2)) t.1 t.2.1 t.2.2
theorem Fbh.l4_0.rmap : (Fbh.l4_0.T (fun a0 => a0) n f t).map Fbh.l4_0.res = Fbh.l4_0.T (fun a0 => Fbh.l4_0.res a0) n (fun y => (f y).map Fbh.l4_0.res) t := by
  unfold Fbh.l4_0.T Fbh.l4_0.r
  exact Eq.symm (ite_map (bindO_map fun r6 => (ite_map rfl rfl)) rfl)
theorem Fbh.l4_0.pat_shape : ∀ st t, Fbh.l4_0.pat st = some t → st = Fbh.l4_0.shape t := fun _ _ h => by unfold Fbh.l4_0.pat at h; split at h <;> cases h; rfl
theorem Fbh.l4_0.round : Fbh.R0 n rc (Fbh.l4_0.shape t) = Fbh.l4_0.T (fun a0 => Fbh.l4_0.res a0) n (fun y => rc (Fbh.l4_0.shape y)) t := by kernel_rfl
theorem Fbh.l4_0.loop (n m : Nat) (t : (Int × (Int × LI))) : loopOf (Fbh.R0 n) m (Fbh.l4_0.shape t) = (Fbh.l4_0.m n m t).map Fbh.l4_0.res :=
  loop_map (fun _ _ => Fbh.l4_0.rmap) (fun _ _ => Fbh.l4_0.round) (fun _ => rfl) (fun _ _ => by kernel_rfl) m t
theorem Fbh.run : runS (Fbh.C n) (Fbh.A n) n Tryz.f59 (Fbh.shape t) = (Fbh.m n t).map Fbh.res :=
  (show _ = Fbh.g (fun a0 => Fbh.res a0) n  from by kernel_rfl).trans (by
    unfold Fbh.m Fbh.g
    exact (bindO_map fun r2 => rfl))
theorem Fbh.s (hmix : HM) (n : Nat) : CalleeS Tryz.prog dskG 59 (Fbh.c n) :=
  .mkF (res := Fbh.res) (shape := Fbh.shape) (C := Fbh.C n) (A := Fbh.A n) (fun R u K => rfl) (fun _ _ _ h => by unfold Fbh.pat at h; split at h <;> cases h; rfl) rfl .nil hmix Tryz.func59 (by kernel_rfl) (lp := [Fbh.b0, Fbh.b1]) (by kernel_rfl) (.cons (show (Fbh.A n).loop (key Fbh.b0) = some (.mk' Fbh.l4_0.pat (Fbh.l4_0.m n n) (resKl Fbh.l4_0.res)) by kernel_rfl) (LoopS.of (res := Fbh.l4_0.res) (fun R u K => rfl) Fbh.l4_0.pat_shape fun t => Fbh.l4_0.loop n n t)
  (.cons (show (Fbh.A n).loop (key Fbh.b1) = some (.mk' Fbh.l9_0.pat (Fbh.l9_0.m n n) (resKl Fbh.l9_0.res)) by kernel_rfl) (LoopS.of (res := Fbh.l9_0.res) (fun R u K => rfl) Fbh.l9_0.pat_shape fun t => Fbh.l9_0.loop n n t)
  .nil))
  (nj rfl) (by decide) (fun _ => rfl) rfl (fun _ => by show 0 ≤ Tryz.f59.ntmps; decide) (fun _ => Fbh.run)
theorem Fbl.run : runS (Fbl.C n) (Fbl.A n) n Tryz.f78 (Fbl.shape t) = (Fbl.m n t).map Fbl.res :=
  (show _ = Fbl.g (fun a0 => Fbl.res a0) n t.1 t.2 from by kernel_rfl).trans (by
    unfold Fbl.m Fbl.g
    exact (ite_map rfl (ite_map (ite_map rfl rfl) rfl)))
theorem Fbl.s (hmix : HM) (n : Nat) : CalleeS Tryz.prog dskG 78 (Fbl.c n) :=
  .mkF (res := Fbl.res) (shape := Fbl.shape) (C := Fbl.C n) (A := Fbl.A n) (fun R u K => rfl) (fun _ _ _ h => by unfold Fbl.pat at h; split at h <;> cases h; rfl) rfl .nil hmix Tryz.func78 (by kernel_rfl) (lp := []) (by kernel_rfl) .nil
  (nj rfl) (by decide) (fun _ => rfl) rfl (fun _ => by show 2 ≤ Tryz.f78.ntmps; decide) (fun _ => Fbl.run)
