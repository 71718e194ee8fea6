/- What the program's functions compute, as plain functions, each with its proof: the function does just that. Condition: the plain function has an answer. -/
import Derived.Test.YtkknbhapkdgcjaaGreatDoorFnDeskCovers4
import Derived.Test.YtkknbhapkdgcjaaGreatDoorFnDeskCovers1
import Derived.Test.YtkknbhapkdgcjaaGreatDoorFnDeskCovers3
import Derived.Test.YtkknbhapkdgcjaaGreatDoorFnDeskCovers2
import Derived.Test.YtkknbhapkdgcjaaGreatDoorProg
import Derived.WalkKit
import Derived.LaidEql
import Derived.Stop.Asserts
import Derived.RowKitTokens
import Derived.Elder7
import Derived.Test.YtkknbhapkdgcjaaGreatDoorAbsC8
set_option linter.unusedVariables false
set_option linter.unusedSimpArgs false
set_option maxRecDepth 100000
open Go Go.Abs Go.Proofs
set_option autoImplicit true
set_option relaxedAutoImplicit true
noncomputable section
noncomputable abbrev Fbs.R0 (n : Nat) := zT (Fbs.C n) (Fbs.A n) n Fbs.b0
noncomputable abbrev Fbs.R1 (n : Nat) := zT (Fbs.C n) (Fbs.A n) n Fbs.b1
def Fbs.l8.T {α : Type} (mk0 : Int → Int → LA → Int → Int → LA → LA → α) (n : Nat) (f : Ty4 → Option α) (t : Ty4) : Option α := Fbs.l8.r mk0 n (fun y0 y1 y2 y3 y4 y5 y6 y7 y8 y9 y10 y11 y12 y13 y14 => f (y0, y1, y2, y3, y4, y5, y6, y7, y8, y9, y10, y11, y12, y13, y14)) t.1 t.2.1 t.2.2.1 t.2.2.2.1 t.w.1 t.w.2.1 t.w.2.2.1 t.w.2.2.2.1 t.x.1 t.x.2.1 t.x.2.2.1 t.x.2.2.2.1 t.x.w.1 t.x.w.2.1 t.x.w.2.2
theorem Fbs.l8.e : (Fbs.l8.T (fun a0 a1 a2 a3 a4 a5 a6 => (a0, a1, a2, a3, a4, a5, a6)) n f t).map Fbs.l8.res = Fbs.l8.T (fun a0 a1 a2 a3 a4 a5 a6 => Fbs.l8.res (a0, a1, a2, a3, a4, a5, a6)) n (fun y => (f y).map Fbs.l8.res) t := by
  unfold Fbs.l8.T Fbs.l8.r
  exact Eq.symm (zB (zB (zB (zA fun r10 => (zA fun r12 => (zA fun r14 => (zA fun r16 => rfl)))) rfl) rfl) rfl)
theorem Fbs.l8.q : ∀ st t, Fbs.l8.pat st = some t → st = Fbs.l8.shape t := fun _ _ h => by unfold Fbs.l8.pat at h; split at h <;> cases h; rfl
theorem Fbs.l8.d : Fbs.R1 n rc (Fbs.l8.shape t) = Fbs.l8.T (fun a0 a1 a2 a3 a4 a5 a6 => Fbs.l8.res (a0, a1, a2, a3, a4, a5, a6)) n (fun y => rc (Fbs.l8.shape y)) t := by kernel_rfl
theorem Fbs.l8.loop (n m : Nat) (t : Ty4) : zS (Fbs.R1 n) m (Fbs.l8.shape t) = (Fbs.l8.m n m t).map Fbs.l8.res :=
  zN (fun _ _ => Fbs.l8.e) (fun _ _ => Fbs.l8.d) (fun _ => rfl) (fun _ _ => by kernel_rfl) m t
def Fbs.l3.T {α : Type} (mk0 : Int → Int → LA → LA → α) (n : Nat) (f : zJL → Option α) (t : zJL) : Option α := Fbs.l3.r mk0 n (fun y0 y1 y2 y3 y4 y5 y6 => f (y0, y1, y2, y3, y4, y5, y6)) t.1 t.2.1 t.2.2.1 t.2.2.2.1 t.w.1 t.w.2.1 t.w.2.2
theorem Fbs.l3.e : (Fbs.l3.T (fun a0 a1 a2 a3 => (a0, a1, a2, a3)) n f t).map Fbs.l3.res = Fbs.l3.T (fun a0 a1 a2 a3 => Fbs.l3.res (a0, a1, a2, a3)) n (fun y => (f y).map Fbs.l3.res) t := by
  unfold Fbs.l3.T Fbs.l3.r
  exact Eq.symm (zB (zB (zB (zA fun r10 => (zA fun r12 => (zA fun r14 => (zA fun r16 => (zA fun r18 => (zA fun r20 => (zA fun r22 => (zA fun r24 => (zA fun r26 => (zA fun r28 => rfl)))))))))) rfl) rfl) rfl)
theorem Fbs.l3.q : ∀ st t, Fbs.l3.pat st = some t → st = Fbs.l3.shape t := fun _ _ h => by unfold Fbs.l3.pat at h; split at h <;> cases h; rfl
theorem Fbs.l3.d : Fbs.R0 n rc (Fbs.l3.shape t) = Fbs.l3.T (fun a0 a1 a2 a3 => Fbs.l3.res (a0, a1, a2, a3)) n (fun y => rc (Fbs.l3.shape y)) t := by kernel_rfl
theorem Fbs.l3.loop (n m : Nat) (t : zJL) : zS (Fbs.R0 n) m (Fbs.l3.shape t) = (Fbs.l3.m n m t).map Fbs.l3.res :=
  zN (fun _ _ => Fbs.l3.e) (fun _ _ => Fbs.l3.d) (fun _ => rfl) (fun _ _ => by kernel_rfl) m t
theorem Fbs.run : yC (Fbs.C n) (Fbs.A n) n Tryz.f6 (Fbs.shape t) = (Fbs.m n t).map Fbs.res :=
  (show _ = Fbs.g (fun a0 a1 a2 a3 a4 a5 a6 => Fbs.res (a0, a1, a2, a3, a4, a5, a6)) n t from by kernel_rfl).trans (by
    unfold Fbs.m Fbs.g
    exact (zA fun r2 => (zA fun r4 => rfl)))
theorem Fbs.s (hmix : HM) (n : Nat) : zE Tryz.prog zI 6 (Fbs.c n) :=
  .mkF (res := Fbs.res) (shape := Fbs.shape) (C := Fbs.C n) (A := Fbs.A n) (fun R u K => rfl) (fun _ _ _ h => by unfold Fbs.pat at h; split at h <;> cases h; rfl) rfl (.cons (Fp.s hmix n) (.cons (Fu.s hmix n) .nil)) hmix Tryz.func6 (by kernel_rfl) (lp := [Fbs.b0, Fbs.b1]) (by kernel_rfl) (.cons (show (Fbs.A n).loop (key Fbs.b0) = some (.mk' Fbs.l3.pat (Fbs.l3.m n n) (zQ Fbs.l3.res)) by kernel_rfl) (z5.of (res := Fbs.l3.res) (fun R u K => rfl) Fbs.l3.q fun t => Fbs.l3.loop n n t)
  (.cons (show (Fbs.A n).loop (key Fbs.b1) = some (.mk' Fbs.l8.pat (Fbs.l8.m n n) (zQ Fbs.l8.res)) by kernel_rfl) (z5.of (res := Fbs.l8.res) (fun R u K => rfl) Fbs.l8.q fun t => Fbs.l8.loop n n t)
  .nil))
  (nj rfl) (by decide) (fun _ => rfl) rfl (fun _ => by show 1 ≤ Tryz.f6.ntmps; decide) (fun _ => Fbs.run)
theorem Fbh.run : yC (Fbh.C n) (Fbh.A n) n Tryz.f48 (Fbh.shape t) = (Fbh.m n t).map Fbh.res :=
  (show _ = Fbh.g (fun a0 => Fbh.res a0) n t from by kernel_rfl).trans (by
    unfold Fbh.m Fbh.g
    exact rfl)
theorem Fbh.s (hmix : HM) (n : Nat) : zE Tryz.prog zI 48 (Fbh.c n) :=
  .mkF (res := Fbh.res) (shape := Fbh.shape) (C := Fbh.C n) (A := Fbh.A n) (fun R u K => rfl) (fun _ _ _ h => by unfold Fbh.pat at h; split at h <;> cases h; rfl) rfl .nil hmix Tryz.func48 (by kernel_rfl) (lp := []) (by kernel_rfl) .nil
  (nj rfl) (by decide) (fun _ => rfl) rfl (fun _ => by show 1 ≤ Tryz.f48.ntmps; decide) (fun _ => Fbh.run)
noncomputable abbrev Fbd.R0 (n : Nat) := zT (Fbd.C n) (Fbd.A n) n Fbd.b0
def Fbd.l4.T {α : Type} (mk0 : LI → LI → α) (n : Nat) (f : (Int × (Int × (LI × (LI × LI)))) → Option α) (t : (Int × (Int × (LI × (LI × LI))))) : Option α := Fbd.l4.r mk0 n (fun y0 y1 y2 y3 y4 => f (y0, y1, y2, y3, y4)) t.1 t.2.1 t.2.2.1 t.2.2.2.1 t.w
theorem Fbd.l4.e : (Fbd.l4.T (fun a0 a1 => (a0, a1)) n f t).map Fbd.l4.res = Fbd.l4.T (fun a0 a1 => Fbd.l4.res (a0, a1)) n (fun y => (f y).map Fbd.l4.res) t := by
  unfold Fbd.l4.T Fbd.l4.r
  exact Eq.symm (zB (zB (zB (zB (zB (zB (zB (zB rfl rfl) rfl) rfl) rfl) rfl) rfl) rfl) rfl)
theorem Fbd.l4.q : ∀ st t, Fbd.l4.pat st = some t → st = Fbd.l4.shape t := fun _ _ h => by unfold Fbd.l4.pat at h; split at h <;> cases h; rfl
theorem Fbd.l4.d : Fbd.R0 n rc (Fbd.l4.shape t) = Fbd.l4.T (fun a0 a1 => Fbd.l4.res (a0, a1)) n (fun y => rc (Fbd.l4.shape y)) t := by kernel_rfl
theorem Fbd.l4.loop (n m : Nat) (t : (Int × (Int × (LI × (LI × LI))))) : zS (Fbd.R0 n) m (Fbd.l4.shape t) = (Fbd.l4.m n m t).map Fbd.l4.res :=
  zN (fun _ _ => Fbd.l4.e) (fun _ _ => Fbd.l4.d) (fun _ => rfl) (fun _ _ => by kernel_rfl) m t
theorem Fbd.run : yC (Fbd.C n) (Fbd.A n) n Tryz.f64 (Fbd.shape t) = (Fbd.m n t).map Fbd.res :=
  (show _ = Fbd.g (fun a0 => Fbd.res a0) n t from by kernel_rfl).trans (by
    unfold Fbd.m Fbd.g
    exact (zB (zB (zA fun r6 => rfl) rfl) rfl))
theorem Fbd.s (hmix : HM) (n : Nat) : zE Tryz.prog zI 64 (Fbd.c n) :=
  .mkF (res := Fbd.res) (shape := Fbd.shape) (C := Fbd.C n) (A := Fbd.A n) (fun R u K => rfl) (fun _ _ _ h => by unfold Fbd.pat at h; split at h <;> cases h; rfl) rfl .nil hmix Tryz.func64 (by kernel_rfl) (lp := [Fbd.b0]) (by kernel_rfl) (.cons (show (Fbd.A n).loop (key Fbd.b0) = some (.mk' Fbd.l4.pat (Fbd.l4.m n n) (zQ Fbd.l4.res)) by kernel_rfl) (z5.of (res := Fbd.l4.res) (fun R u K => rfl) Fbd.l4.q fun t => Fbd.l4.loop n n t)
  .nil)
  (nj rfl) (by decide) (fun _ => rfl) rfl (fun _ => by show 1 ≤ Tryz.f64.ntmps; decide) (fun _ => Fbd.run)
theorem Fbf.run : yC (Fbf.C n) (Fbf.A n) n Tryz.f50 (Fbf.shape t) = (Fbf.m n t).map Fbf.res :=
  (show _ = Fbf.g (fun a0 => Fbf.res a0) n t from by kernel_rfl).trans (by
    unfold Fbf.m Fbf.g
    exact (zA fun r2 => rfl))
theorem Fbf.s (hmix : HM) (n : Nat) : zE Tryz.prog zI 50 (Fbf.c n) :=
  .mkF (res := Fbf.res) (shape := Fbf.shape) (C := Fbf.C n) (A := Fbf.A n) (fun R u K => rfl) (fun _ _ _ h => by unfold Fbf.pat at h; split at h <;> cases h; rfl) rfl (.cons (Fbd.s hmix n) .nil) hmix Tryz.func50 (by kernel_rfl) (lp := []) (by kernel_rfl) .nil
  (nj rfl) (by decide) (fun _ => rfl) rfl (fun _ => by show 1 ≤ Tryz.f50.ntmps; decide) (fun _ => Fbf.run)
theorem Fas.run : yC (Fas.C n) (Fas.A n) n Tryz.f80 (Fas.shape t) = (Fas.m n t).map Fas.res :=
  (show _ = Fas.g (fun a0 a1 => Fas.res (a0, a1)) n t from by kernel_rfl).trans (by
    unfold Fas.m Fas.g
    exact (zB rfl rfl))
theorem Fas.s (hmix : HM) (n : Nat) : zE Tryz.prog zI 80 (Fas.c n) :=
  .mkF (res := Fas.res) (shape := Fas.shape) (C := Fas.C n) (A := Fas.A n) (fun R u K => rfl) (fun _ _ _ h => by unfold Fas.pat at h; split at h <;> cases h; rfl) rfl .nil hmix Tryz.func80 (by kernel_rfl) (lp := []) (by kernel_rfl) .nil
  (nj rfl) (by decide) (fun _ => rfl) rfl (fun _ => by show 1 ≤ Tryz.f80.ntmps; decide) (fun _ => Fas.run)
theorem Fbv.run : yC (Fbv.C n) (Fbv.A n) n Tryz.f63 (Fbv.shape t) = (Fbv.m n t).map Fbv.res :=
  (show _ = Fbv.g (fun a0 => Fbv.res a0) n t from by kernel_rfl).trans (by
    unfold Fbv.m Fbv.g
    exact (zA fun r2 => (zB rfl rfl)))
theorem Fbv.s (hmix : HM) (n : Nat) : zE Tryz.prog zI 63 (Fbv.c n) :=
  .mkF (res := Fbv.res) (shape := Fbv.shape) (C := Fbv.C n) (A := Fbv.A n) (fun R u K => rfl) (fun _ _ _ h => by unfold Fbv.pat at h; split at h <;> cases h; rfl) rfl (.cons (Fas.s hmix n) .nil) hmix Tryz.func63 (by kernel_rfl) (lp := []) (by kernel_rfl) .nil
  (nj rfl) (by decide) (fun _ => rfl) rfl (fun _ => by show 1 ≤ Tryz.f63.ntmps; decide) (fun _ => Fbv.run)
noncomputable abbrev Fbw.R0 (n : Nat) := zT (Fbw.C n) (Fbw.A n) n Fbw.b0
def Fbw.l4.T {α : Type} (mk0 : LI → LI → α) (n : Nat) (f : (Int × (Int × (LI × (LI × LI)))) → Option α) (t : (Int × (Int × (LI × (LI × LI))))) : Option α := Fbw.l4.r mk0 n (fun y0 y1 y2 y3 y4 => f (y0, y1, y2, y3, y4)) t.1 t.2.1 t.2.2.1 t.2.2.2.1 t.w
theorem Fbw.l4.e : (Fbw.l4.T (fun a0 a1 => (a0, a1)) n f t).map Fbw.l4.res = Fbw.l4.T (fun a0 a1 => Fbw.l4.res (a0, a1)) n (fun y => (f y).map Fbw.l4.res) t := by
  unfold Fbw.l4.T Fbw.l4.r
  exact Eq.symm (zB (zB (zB (zB (zB (zB (zB (zB (zB (zB (zB (zB (zB (zB (zB (zB rfl rfl) rfl) rfl) rfl) rfl) rfl) rfl) rfl) rfl) rfl) rfl) rfl) rfl) rfl) (zB (zB (zB (zB (zB (zB (zB (zB (zB rfl rfl) rfl) rfl) rfl) rfl) rfl) rfl) rfl) rfl)) rfl)
theorem Fbw.l4.q : ∀ st t, Fbw.l4.pat st = some t → st = Fbw.l4.shape t := fun _ _ h => by unfold Fbw.l4.pat at h; split at h <;> cases h; rfl
theorem Fbw.l4.d : Fbw.R0 n rc (Fbw.l4.shape t) = Fbw.l4.T (fun a0 a1 => Fbw.l4.res (a0, a1)) n (fun y => rc (Fbw.l4.shape y)) t := by kernel_rfl
theorem Fbw.l4.loop (n m : Nat) (t : (Int × (Int × (LI × (LI × LI))))) : zS (Fbw.R0 n) m (Fbw.l4.shape t) = (Fbw.l4.m n m t).map Fbw.l4.res :=
  zN (fun _ _ => Fbw.l4.e) (fun _ _ => Fbw.l4.d) (fun _ => rfl) (fun _ _ => by kernel_rfl) m t
theorem Fbw.run : yC (Fbw.C n) (Fbw.A n) n Tryz.f49 (Fbw.shape t) = (Fbw.m n t).map Fbw.res :=
  (show _ = Fbw.g (fun a0 => Fbw.res a0) n t.1 t.2 from by kernel_rfl).trans (by
    unfold Fbw.m Fbw.g
    exact (zA fun r2 => (zA fun r4 => rfl)))
theorem Fbw.s (hmix : HM) (n : Nat) : zE Tryz.prog zI 49 (Fbw.c n) :=
  .mkF (res := Fbw.res) (shape := Fbw.shape) (C := Fbw.C n) (A := Fbw.A n) (fun R u K => rfl) (fun _ _ _ h => by unfold Fbw.pat at h; split at h <;> cases h; rfl) rfl (.cons (Fbv.s hmix n) .nil) hmix Tryz.func49 (by kernel_rfl) (lp := [Fbw.b0]) (by kernel_rfl) (.cons (show (Fbw.A n).loop (key Fbw.b0) = some (.mk' Fbw.l4.pat (Fbw.l4.m n n) (zQ Fbw.l4.res)) by kernel_rfl) (z5.of (res := Fbw.l4.res) (fun R u K => rfl) Fbw.l4.q fun t => Fbw.l4.loop n n t)
  .nil)
  (nj rfl) (by decide) (fun _ => rfl) rfl (fun _ => by show 2 ≤ Tryz.f49.ntmps; decide) (fun _ => Fbw.run)
theorem Fbi.run : yC (Fbi.C n) (Fbi.A n) n Tryz.f26 (Fbi.shape t) = (Fbi.m n t).map Fbi.res :=
  (show _ = Fbi.g (fun a0 => Fbi.res a0) n t.1 t.2.1 t.2.2 from by kernel_rfl).trans (by
    unfold Fbi.m Fbi.g
    exact (zA fun r2 => (zA fun r4 => (zA fun r6 => rfl))))
theorem Fbi.s (hmix : HM) (n : Nat) : zE Tryz.prog zI 26 (Fbi.c n) :=
  .mkF (res := Fbi.res) (shape := Fbi.shape) (C := Fbi.C n) (A := Fbi.A n) (fun R u K => rfl) (fun _ _ _ h => by unfold Fbi.pat at h; split at h <;> cases h; rfl) rfl (.cons (Fbh.s hmix n) (.cons (Fbf.s hmix n) (.cons (Fbw.s hmix n) .nil))) hmix Tryz.func26 (by kernel_rfl) (lp := []) (by kernel_rfl) .nil
  (nj rfl) (by decide) (fun _ => rfl) rfl (fun _ => by show 3 ≤ Tryz.f26.ntmps; decide) (fun _ => Fbi.run)
theorem Fv.run : yC (Fv.C n) (Fv.A n) n Tryz.f25 (Fv.shape t) = (Fv.m n t).map Fv.res :=
  (show _ = Fv.g (fun a0 a1 a2 a3 a4 a5 a6 a7 => Fv.res (a0, a1, a2, a3, a4, a5, a6, a7)) n t.1 t.2.1 t.2.2.1 t.2.2.2.1 t.w.1 t.w.2.1 t.w.2.2.1 t.w.2.2.2.1 t.x from by kernel_rfl).trans (by
    unfold Fv.m Fv.g
    exact (zA fun r2 => (zA fun r4 => rfl)))
theorem Fv.s (hmix : HM) (n : Nat) : zE Tryz.prog zI 25 (Fv.c n) :=
  .mkF (res := Fv.res) (shape := Fv.shape) (C := Fv.C n) (A := Fv.A n) (fun R u K => rfl) (fun _ _ _ h => by unfold Fv.pat at h; split at h <;> cases h; rfl) rfl .nil hmix Tryz.func25 (by kernel_rfl) (lp := []) (by kernel_rfl) .nil
  (nj rfl) (by decide) (fun _ => rfl) rfl (fun _ => by show 3 ≤ Tryz.f25.ntmps; decide) (fun _ => Fv.run)
theorem Fak.run : yC (Fak.C n) (Fak.A n) n Tryz.f18 (Fak.shape t) = (Fak.m n t).map Fak.res :=
  (show _ = Fak.g (fun a0 a1 a2 a3 a4 a5 a6 a7 => Fak.res (a0, a1, a2, a3, a4, a5, a6, a7)) n t.1 t.2.1 t.2.2.1 t.2.2.2.1 t.w.1 t.w.2.1 t.w.2.2.1 t.w.2.2.2 from by kernel_rfl).trans (by
    unfold Fak.m Fak.g
    exact (zA fun r2 => (zA fun r4 => (zA fun r6 => rfl))))
theorem Fak.s (hmix : HM) (n : Nat) : zE Tryz.prog zI 18 (Fak.c n) :=
  .mkF (res := Fak.res) (shape := Fak.shape) (C := Fak.C n) (A := Fak.A n) (fun R u K => rfl) (fun _ _ _ h => by unfold Fak.pat at h; split at h <;> cases h; rfl) rfl (.cons (Fbj.s hmix n) (.cons (Fbi.s hmix n) (.cons (Fv.s hmix n) .nil))) hmix Tryz.func18 (by kernel_rfl) (lp := []) (by kernel_rfl) .nil
  (nj rfl) (by decide) (fun _ => rfl) rfl (fun _ => by show 2 ≤ Tryz.f18.ntmps; decide) (fun _ => Fak.run)
theorem Faw.ok (hmix : HM) (n : Nat) (t) (u) (h : Faw.m n t = some u) : zEB Tryz.prog zI 65 (Faw.shape t).1 (Faw.shape t).2 (Faw.res u).1 (Faw.res u).2 :=
  zKV Tryz.func65 (by kernel_rfl) (by kernel_rfl) (by kernel_rfl) (show Go.Extern.find Tryz.f65 = some add64Entry by kernel_rfl) t u h
theorem Faw.s (hmix : HM) (n : Nat) : zE Tryz.prog zI 65 (Faw.c n) :=
  zE.of (res := Faw.res) (shape := Faw.shape) (fun R u K => rfl) (fun args lent t h => by
    unfold Faw.pat at h
    split at h
    · cases h; rfl
    · cases h) fun t u h => Faw.ok hmix n t u h
noncomputable abbrev Fca.R0 (n : Nat) := zT (Fca.C n) (Fca.A n) n Fca.b0
def Fca.l4.T {α : Type} (mk0 : Int → LI → LI → α) (n : Nat) (f : (Int × (Int × (LI × (LI × (LI × LI))))) → Option α) (t : (Int × (Int × (LI × (LI × (LI × LI)))))) : Option α := Fca.l4.r mk0 n (fun y0 y1 y2 y3 y4 y5 => f (y0, y1, y2, y3, y4, y5)) t.1 t.2.1 t.2.2.1 t.2.2.2.1 t.w.1 t.w.2
theorem Fca.l4.e : (Fca.l4.T (fun a0 a1 a2 => (a0, a1, a2)) n f t).map Fca.l4.res = Fca.l4.T (fun a0 a1 a2 => Fca.l4.res (a0, a1, a2)) n (fun y => (f y).map Fca.l4.res) t := by
  unfold Fca.l4.T Fca.l4.r
  exact Eq.symm (zB (zB (zB (zB (zB (zA fun r14 => (zB (zB rfl rfl) rfl)) rfl) rfl) rfl) rfl) rfl)
theorem Fca.l4.q : ∀ st t, Fca.l4.pat st = some t → st = Fca.l4.shape t := fun _ _ h => by unfold Fca.l4.pat at h; split at h <;> cases h; rfl
theorem Fca.l4.d : Fca.R0 n rc (Fca.l4.shape t) = Fca.l4.T (fun a0 a1 a2 => Fca.l4.res (a0, a1, a2)) n (fun y => rc (Fca.l4.shape y)) t := by kernel_rfl
theorem Fca.l4.loop (n m : Nat) (t : (Int × (Int × (LI × (LI × (LI × LI)))))) : zS (Fca.R0 n) m (Fca.l4.shape t) = (Fca.l4.m n m t).map Fca.l4.res :=
  zN (fun _ _ => Fca.l4.e) (fun _ _ => Fca.l4.d) (fun _ => rfl) (fun _ _ => by kernel_rfl) m t
theorem Fca.run : yC (Fca.C n) (Fca.A n) n Tryz.f51 (Fca.shape t) = (Fca.m n t).map Fca.res :=
  (show _ = Fca.g (fun a0 a1 => Fca.res (a0, a1)) n t.1 t.2 from by kernel_rfl).trans (by
    unfold Fca.m Fca.g
    exact (zA fun r2 => rfl))
theorem Fca.s (hmix : HM) (n : Nat) : zE Tryz.prog zI 51 (Fca.c n) :=
  .mkF (res := Fca.res) (shape := Fca.shape) (C := Fca.C n) (A := Fca.A n) (fun R u K => rfl) (fun _ _ _ h => by unfold Fca.pat at h; split at h <;> cases h; rfl) rfl (.cons (Faw.s hmix n) .nil) hmix Tryz.func51 (by kernel_rfl) (lp := [Fca.b0]) (by kernel_rfl) (.cons (show (Fca.A n).loop (key Fca.b0) = some (.mk' Fca.l4.pat (Fca.l4.m n n) (zQ Fca.l4.res)) by kernel_rfl) (z5.of (res := Fca.l4.res) (fun R u K => rfl) Fca.l4.q fun t => Fca.l4.loop n n t)
  .nil)
  (nj rfl) (by decide) (fun _ => rfl) rfl (fun _ => by show 2 ≤ Tryz.f51.ntmps; decide) (fun _ => Fca.run)
theorem Fh.run : yC (Fh.C n) (Fh.A n) n Tryz.f27 (Fh.shape t) = (Fh.m n t).map Fh.res :=
  (show _ = Fh.g (fun a0 a1 a2 a3 a4 a5 a6 => Fh.res (a0, a1, a2, a3, a4, a5, a6)) n t.1 t.2.1 t.2.2.1 t.2.2.2.1 t.w.1 t.w.2.1 t.w.2.2.1 t.w.2.2.2.1 t.x.1 t.x.2 from by kernel_rfl).trans (by
    unfold Fh.m Fh.g
    exact (zA fun r2 => (zA fun r4 => (zA fun r6 => (zA fun r8 => (zB (zA fun r12 => (zB (zA fun r16 => rfl) rfl)) (zB (zA fun r14 => rfl) rfl)))))))
theorem Fh.s (hmix : HM) (n : Nat) : zE Tryz.prog zI 27 (Fh.c n) :=
  .mkF (res := Fh.res) (shape := Fh.shape) (C := Fh.C n) (A := Fh.A n) (fun R u K => rfl) (fun _ _ _ h => by unfold Fh.pat at h; split at h <;> cases h; rfl) rfl .nil hmix Tryz.func27 (by kernel_rfl) (lp := []) (by kernel_rfl) .nil
  (nj rfl) (by decide) (fun _ => rfl) rfl (fun _ => by show 4 ≤ Tryz.f27.ntmps; decide) (fun _ => Fh.run)
theorem Fap.run : yC (Fap.C n) (Fap.A n) n Tryz.f30 (Fap.shape t) = (Fap.m n t).map Fap.res :=
  (show _ = Fap.g (fun a0 a1 a2 a3 a4 a5 a6 => Fap.res (a0, a1, a2, a3, a4, a5, a6)) n t.1 t.2.1 t.2.2.1 t.2.2.2.1 t.w.1 t.w.2.1 t.w.2.2.1 t.w.2.2.2.1 t.x from by kernel_rfl).trans (by
    unfold Fap.m Fap.g
    exact (zA fun r2 => (zA fun r4 => (zA fun r6 => (zA fun r8 => (zA fun r10 => rfl))))))
theorem Fap.s (hmix : HM) (n : Nat) : zE Tryz.prog zI 30 (Fap.c n) :=
  .mkF (res := Fap.res) (shape := Fap.shape) (C := Fap.C n) (A := Fap.A n) (fun R u K => rfl) (fun _ _ _ h => by unfold Fap.pat at h; split at h <;> cases h; rfl) rfl (.cons (Fak.s hmix n) (.cons (Fca.s hmix n) (.cons (Fbj.s hmix n) (.cons (Fbi.s hmix n) (.cons (Fh.s hmix n) .nil))))) hmix Tryz.func30 (by kernel_rfl) (lp := []) (by kernel_rfl) .nil
  (nj rfl) (by decide) (fun _ => rfl) rfl (fun _ => by show 3 ≤ Tryz.f30.ntmps; decide) (fun _ => Fap.run)
theorem Fbo.run : yC (Fbo.C n) (Fbo.A n) n Tryz.f66 (Fbo.shape t) = (Fbo.m n t).map Fbo.res :=
  (show _ = Fbo.g (fun a0 => Fbo.res a0) n  from by kernel_rfl).trans (by
    unfold Fbo.m Fbo.g
    exact rfl)
theorem Fbo.s (hmix : HM) (n : Nat) : zE Tryz.prog zI 66 (Fbo.c n) :=
  .mkF (res := Fbo.res) (shape := Fbo.shape) (C := Fbo.C n) (A := Fbo.A n) (fun R u K => rfl) (fun _ _ _ h => by unfold Fbo.pat at h; split at h <;> cases h; rfl) rfl .nil hmix Tryz.func66 (by kernel_rfl) (lp := []) (by kernel_rfl) .nil
  (nj rfl) (by decide) (fun _ => rfl) rfl (fun _ => by show 0 ≤ Tryz.f66.ntmps; decide) (fun _ => Fbo.run)
theorem Fq.run : yC (Fq.C n) (Fq.A n) n Tryz.f102 (Fq.shape t) = (Fq.m n t).map Fq.res :=
  (show _ = Fq.g (fun a0 => Fq.res a0) n t.1 t.2 from by kernel_rfl).trans (by
    unfold Fq.m Fq.g
    exact (zB rfl rfl))
theorem Fq.s (hmix : HM) (n : Nat) : zE Tryz.prog zI 102 (Fq.c n) :=
  .mkF (res := Fq.res) (shape := Fq.shape) (C := Fq.C n) (A := Fq.A n) (fun R u K => rfl) (fun _ _ _ h => by unfold Fq.pat at h; split at h <;> cases h; rfl) rfl .nil hmix Tryz.func102 (by kernel_rfl) (lp := []) (by kernel_rfl) .nil
  (nj rfl) (by decide) (fun _ => rfl) rfl (fun _ => by show 2 ≤ Tryz.f102.ntmps; decide) (fun _ => Fq.run)
noncomputable abbrev Fj.R0 (n : Nat) := zT (Fj.C n) (Fj.A n) n Fj.b0
noncomputable abbrev Fj.R1 (n : Nat) := zT (Fj.C n) (Fj.A n) n Fj.b1
def Fj.l2.T {α : Type} (mk0 : LI → LI → α) (n : Nat) (f : (Int × (LI × LI)) → Option α) (t : (Int × (LI × LI))) : Option α := Fj.l2.r mk0 n (fun y0 y1 y2 => f (y0, y1, y2)) t.1 t.2.1 t.2.2
theorem Fj.l2.e : (Fj.l2.T (fun a0 a1 => (a0, a1)) n f t).map Fj.l2.res = Fj.l2.T (fun a0 a1 => Fj.l2.res (a0, a1)) n (fun y => (f y).map Fj.l2.res) t := by
  unfold Fj.l2.T Fj.l2.r
  exact Eq.symm (zB (zB (zB (zB (zB (zB (zB rfl rfl) rfl) rfl) rfl) rfl) rfl) rfl)
theorem Fj.l2.q : ∀ st t, Fj.l2.pat st = some t → st = Fj.l2.shape t := fun _ _ h => by unfold Fj.l2.pat at h; split at h <;> cases h; rfl
theorem Fj.l2.d : Fj.R0 n rc (Fj.l2.shape t) = Fj.l2.T (fun a0 a1 => Fj.l2.res (a0, a1)) n (fun y => rc (Fj.l2.shape y)) t := by kernel_rfl
theorem Fj.l2.loop (n m : Nat) (t : (Int × (LI × LI))) : zS (Fj.R0 n) m (Fj.l2.shape t) = (Fj.l2.m n m t).map Fj.l2.res :=
  zN (fun _ _ => Fj.l2.e) (fun _ _ => Fj.l2.d) (fun _ => rfl) (fun _ _ => by kernel_rfl) m t
def Fj.l7.T {α : Type} (mk0 : LI → α) (n : Nat) (f : (Int × (LI × LI)) → Option α) (t : (Int × (LI × LI))) : Option α := Fj.l7.r mk0 n (fun y0 y1 y2 => f (y0, y1, y2)) t.1 t.2.1 t.2.2
theorem Fj.l7.e : (Fj.l7.T (fun a0 => a0) n f t).map Fj.l7.res = Fj.l7.T (fun a0 => Fj.l7.res a0) n (fun y => (f y).map Fj.l7.res) t := by
  unfold Fj.l7.T Fj.l7.r
  exact Eq.symm (zB (zB (zB (zB (zB (zB (zB (zA fun r18 => (zB (zB rfl rfl) rfl)) rfl) rfl) rfl) rfl) rfl) rfl) rfl)
theorem Fj.l7.q : ∀ st t, Fj.l7.pat st = some t → st = Fj.l7.shape t := fun _ _ h => by unfold Fj.l7.pat at h; split at h <;> cases h; rfl
theorem Fj.l7.d : Fj.R1 n rc (Fj.l7.shape t) = Fj.l7.T (fun a0 => Fj.l7.res a0) n (fun y => rc (Fj.l7.shape y)) t := by kernel_rfl
theorem Fj.l7.loop (n m : Nat) (t : (Int × (LI × LI))) : zS (Fj.R1 n) m (Fj.l7.shape t) = (Fj.l7.m n m t).map Fj.l7.res :=
  zN (fun _ _ => Fj.l7.e) (fun _ _ => Fj.l7.d) (fun _ => rfl) (fun _ _ => by kernel_rfl) m t
theorem Fj.run : yC (Fj.C n) (Fj.A n) n Tryz.f99 (Fj.shape t) = (Fj.m n t).map Fj.res :=
  (show _ = Fj.g (fun a0 => Fj.res a0) n t from by kernel_rfl).trans (by
    unfold Fj.m Fj.g
    exact (zA fun r2 => (zA fun r4 => rfl)))
theorem Fj.s (hmix : HM) (n : Nat) : zE Tryz.prog zI 99 (Fj.c n) :=
  .mkF (res := Fj.res) (shape := Fj.shape) (C := Fj.C n) (A := Fj.A n) (fun R u K => rfl) (fun _ _ _ h => by unfold Fj.pat at h; split at h <;> cases h; rfl) rfl (.cons (Fq.s hmix n) .nil) hmix Tryz.func99 (by kernel_rfl) (lp := [Fj.b0, Fj.b1]) (by kernel_rfl) (.cons (show (Fj.A n).loop (key Fj.b0) = some (.mk' Fj.l2.pat (Fj.l2.m n n) (zQ Fj.l2.res)) by kernel_rfl) (z5.of (res := Fj.l2.res) (fun R u K => rfl) Fj.l2.q fun t => Fj.l2.loop n n t)
  (.cons (show (Fj.A n).loop (key Fj.b1) = some (.mk' Fj.l7.pat (Fj.l7.m n n) (zQ Fj.l7.res)) by kernel_rfl) (z5.of (res := Fj.l7.res) (fun R u K => rfl) Fj.l7.q fun t => Fj.l7.loop n n t)
  .nil))
  (nj rfl) (by decide) (fun _ => rfl) rfl (fun _ => by show 1 ≤ Tryz.f99.ntmps; decide) (fun _ => Fj.run)
noncomputable abbrev Fr.R0 (n : Nat) := zT (Fr.C n) (Fr.A n) n Fr.b0
def Fr.l2.T {α : Type} (mk0 : LI → α) (n : Nat) (f : (Int × (Int × LI)) → Option α) (t : (Int × (Int × LI))) : Option α := Fr.l2.r mk0 n (fun y0 y1 y2 => f (y0, y1, y2)) t.1 t.2.1 t.2.2
theorem Fr.l2.e : (Fr.l2.T (fun a0 => a0) n f t).map Fr.l2.res = Fr.l2.T (fun a0 => Fr.l2.res a0) n (fun y => (f y).map Fr.l2.res) t := by
  unfold Fr.l2.T Fr.l2.r
  exact Eq.symm (zB (zB (zB (zB (zB (zB (zB (zB (zB (zA fun r22 => (zB (zB rfl rfl) rfl)) rfl) rfl) rfl) rfl) rfl) rfl) rfl) rfl) rfl)
theorem Fr.l2.q : ∀ st t, Fr.l2.pat st = some t → st = Fr.l2.shape t := fun _ _ h => by unfold Fr.l2.pat at h; split at h <;> cases h; rfl
theorem Fr.l2.d : Fr.R0 n rc (Fr.l2.shape t) = Fr.l2.T (fun a0 => Fr.l2.res a0) n (fun y => rc (Fr.l2.shape y)) t := by kernel_rfl
theorem Fr.l2.loop (n m : Nat) (t : (Int × (Int × LI))) : zS (Fr.R0 n) m (Fr.l2.shape t) = (Fr.l2.m n m t).map Fr.l2.res :=
  zN (fun _ _ => Fr.l2.e) (fun _ _ => Fr.l2.d) (fun _ => rfl) (fun _ _ => by kernel_rfl) m t
theorem Fr.run : yC (Fr.C n) (Fr.A n) n Tryz.f100 (Fr.shape t) = (Fr.m n t).map Fr.res :=
  (show _ = Fr.g (fun a0 => Fr.res a0) n t from by kernel_rfl).trans (by
    unfold Fr.m Fr.g
    exact (zA fun r2 => rfl))
theorem Fr.s (hmix : HM) (n : Nat) : zE Tryz.prog zI 100 (Fr.c n) :=
  .mkF (res := Fr.res) (shape := Fr.shape) (C := Fr.C n) (A := Fr.A n) (fun R u K => rfl) (fun _ _ _ h => by unfold Fr.pat at h; split at h <;> cases h; rfl) rfl (.cons (Fq.s hmix n) .nil) hmix Tryz.func100 (by kernel_rfl) (lp := [Fr.b0]) (by kernel_rfl) (.cons (show (Fr.A n).loop (key Fr.b0) = some (.mk' Fr.l2.pat (Fr.l2.m n n) (zQ Fr.l2.res)) by kernel_rfl) (z5.of (res := Fr.l2.res) (fun R u K => rfl) Fr.l2.q fun t => Fr.l2.loop n n t)
  .nil)
  (nj rfl) (by decide) (fun _ => rfl) rfl (fun _ => by show 1 ≤ Tryz.f100.ntmps; decide) (fun _ => Fr.run)
noncomputable abbrev Fw.R0 (n : Nat) := zT (Fw.C n) (Fw.A n) n Fw.b0
noncomputable abbrev Fw.R1 (n : Nat) := zT (Fw.C n) (Fw.A n) n Fw.b1
def Fw.l5.T {α : Type} (mk0 : Int → LI → α) (n : Nat) (f : (Int × (Int × (LI × LI))) → Option α) (t : (Int × (Int × (LI × LI)))) : Option α := Fw.l5.r mk0 n (fun y0 y1 y2 y3 => f (y0, y1, y2, y3)) t.1 t.2.1 t.2.2.1 t.2.2.2
theorem Fw.l5.e : (Fw.l5.T (fun a0 a1 => (a0, a1)) n f t).map Fw.l5.res = Fw.l5.T (fun a0 a1 => Fw.l5.res (a0, a1)) n (fun y => (f y).map Fw.l5.res) t := by
  unfold Fw.l5.T Fw.l5.r
  exact Eq.symm (zB (zB (zB (zB (zB (zB (zB (zB (zB rfl rfl) rfl) rfl) rfl) rfl) rfl) rfl) rfl) rfl)
theorem Fw.l5.q : ∀ st t, Fw.l5.pat st = some t → st = Fw.l5.shape t := fun _ _ h => by unfold Fw.l5.pat at h; split at h <;> cases h; rfl
theorem Fw.l5.d : Fw.R1 n rc (Fw.l5.shape t) = Fw.l5.T (fun a0 a1 => Fw.l5.res (a0, a1)) n (fun y => rc (Fw.l5.shape y)) t := by kernel_rfl
theorem Fw.l5.loop (n m : Nat) (t : (Int × (Int × (LI × LI)))) : zS (Fw.R1 n) m (Fw.l5.shape t) = (Fw.l5.m n m t).map Fw.l5.res :=
  zN (fun _ _ => Fw.l5.e) (fun _ _ => Fw.l5.d) (fun _ => rfl) (fun _ _ => by kernel_rfl) m t
def Fw.l1.T {α : Type} (mk0 : LI → α) (n : Nat) (f : (Int × LI) → Option α) (t : (Int × LI)) : Option α := Fw.l1.r mk0 n (fun y0 y1 => f (y0, y1)) t.1 t.2
theorem Fw.l1.e : (Fw.l1.T (fun a0 => a0) n f t).map Fw.l1.res = Fw.l1.T (fun a0 => Fw.l1.res a0) n (fun y => (f y).map Fw.l1.res) t := by
  unfold Fw.l1.T Fw.l1.r
  exact Eq.symm (zB (zB (zB (zB (zB (zB (zA fun r16 => rfl) rfl) rfl) rfl) rfl) rfl) rfl)
theorem Fw.l1.q : ∀ st t, Fw.l1.pat st = some t → st = Fw.l1.shape t := fun _ _ h => by unfold Fw.l1.pat at h; split at h <;> cases h; rfl
theorem Fw.l1.d : Fw.R0 n rc (Fw.l1.shape t) = Fw.l1.T (fun a0 => Fw.l1.res a0) n (fun y => rc (Fw.l1.shape y)) t := by kernel_rfl
theorem Fw.l1.loop (n m : Nat) (t : (Int × LI)) : zS (Fw.R0 n) m (Fw.l1.shape t) = (Fw.l1.m n m t).map Fw.l1.res :=
  zN (fun _ _ => Fw.l1.e) (fun _ _ => Fw.l1.d) (fun _ => rfl) (fun _ _ => by kernel_rfl) m t
theorem Fw.run : yC (Fw.C n) (Fw.A n) n Tryz.f101 (Fw.shape t) = (Fw.m n t).map Fw.res :=
  (show _ = Fw.g (fun a0 => Fw.res a0) n t from by kernel_rfl).trans (by
    unfold Fw.m Fw.g
    exact (zA fun r2 => rfl))
theorem Fw.s (hmix : HM) (n : Nat) : zE Tryz.prog zI 101 (Fw.c n) :=
  .mkF (res := Fw.res) (shape := Fw.shape) (C := Fw.C n) (A := Fw.A n) (fun R u K => rfl) (fun _ _ _ h => by unfold Fw.pat at h; split at h <;> cases h; rfl) rfl .nil hmix Tryz.func101 (by kernel_rfl) (lp := [Fw.b0, Fw.b1]) (by kernel_rfl) (.cons (show (Fw.A n).loop (key Fw.b0) = some (.mk' Fw.l1.pat (Fw.l1.m n n) (zQ Fw.l1.res)) by kernel_rfl) (z5.of (res := Fw.l1.res) (fun R u K => rfl) Fw.l1.q fun t => Fw.l1.loop n n t)
  (.cons (show (Fw.A n).loop (key Fw.b1) = some (.mk' Fw.l5.pat (Fw.l5.m n n) (zQ Fw.l5.res)) by kernel_rfl) (z5.of (res := Fw.l5.res) (fun R u K => rfl) Fw.l5.q fun t => Fw.l5.loop n n t)
  .nil))
  (nj rfl) (by decide) (fun _ => rfl) rfl (fun _ => by show 1 ≤ Tryz.f101.ntmps; decide) (fun _ => Fw.run)
noncomputable abbrev Fx.R0 (n : Nat) := zT (Fx.C n) (Fx.A n) n Fx.b0
def Fx.l1.T {α : Type} (mk0 : LI → α) (n : Nat) (f : (Int × LI) → Option α) (t : (Int × LI)) : Option α := Fx.l1.r mk0 n (fun y0 y1 => f (y0, y1)) t.1 t.2
theorem Fx.l1.e : (Fx.l1.T (fun a0 => a0) n f t).map Fx.l1.res = Fx.l1.T (fun a0 => Fx.l1.res a0) n (fun y => (f y).map Fx.l1.res) t := by
  unfold Fx.l1.T Fx.l1.r
  exact Eq.symm (zB (zA fun r6 => (zA fun r8 => (zA fun r10 => (zB (zB rfl rfl) rfl)))) rfl)
theorem Fx.l1.q : ∀ st t, Fx.l1.pat st = some t → st = Fx.l1.shape t := fun _ _ h => by unfold Fx.l1.pat at h; split at h <;> cases h; rfl
theorem Fx.l1.d : Fx.R0 n rc (Fx.l1.shape t) = Fx.l1.T (fun a0 => Fx.l1.res a0) n (fun y => rc (Fx.l1.shape y)) t := by kernel_rfl
theorem Fx.l1.loop (n m : Nat) (t : (Int × LI)) : zS (Fx.R0 n) m (Fx.l1.shape t) = (Fx.l1.m n m t).map Fx.l1.res :=
  zN (fun _ _ => Fx.l1.e) (fun _ _ => Fx.l1.d) (fun _ => rfl) (fun _ _ => by kernel_rfl) m t
theorem Fx.run : yC (Fx.C n) (Fx.A n) n Tryz.f97 (Fx.shape t) = (Fx.m n t).map Fx.res :=
  (show _ = Fx.g (fun a0 => Fx.res a0) n t from by kernel_rfl).trans (by
    unfold Fx.m Fx.g
    exact (zA fun r2 => rfl))
theorem Fx.s (hmix : HM) (n : Nat) : zE Tryz.prog zI 97 (Fx.c n) :=
  .mkF (res := Fx.res) (shape := Fx.shape) (C := Fx.C n) (A := Fx.A n) (fun R u K => rfl) (fun _ _ _ h => by unfold Fx.pat at h; split at h <;> cases h; rfl) rfl (.cons (Fj.s hmix n) (.cons (Fr.s hmix n) (.cons (Fw.s hmix n) .nil))) hmix Tryz.func97 (by kernel_rfl) (lp := [Fx.b0]) (by kernel_rfl) (.cons (show (Fx.A n).loop (key Fx.b0) = some (.mk' Fx.l1.pat (Fx.l1.m n n) (zQ Fx.l1.res)) by kernel_rfl) (z5.of (res := Fx.l1.res) (fun R u K => rfl) Fx.l1.q fun t => Fx.l1.loop n n t)
  .nil)
  (nj rfl) (by decide) (fun _ => rfl) rfl (fun _ => by show 1 ≤ Tryz.f97.ntmps; decide) (fun _ => Fx.run)
noncomputable abbrev Fs.R0 (n : Nat) := zT (Fs.C n) (Fs.A n) n Fs.b0
def Fs.l1.T {α : Type} (mk0 : LI → α) (n : Nat) (f : (Int × (Int × (LI × LI))) → Option α) (t : (Int × (Int × (LI × LI)))) : Option α := Fs.l1.r mk0 n (fun y0 y1 y2 y3 => f (y0, y1, y2, y3)) t.1 t.2.1 t.2.2.1 t.2.2.2
theorem Fs.l1.e : (Fs.l1.T (fun a0 => a0) n f t).map Fs.l1.res = Fs.l1.T (fun a0 => Fs.l1.res a0) n (fun y => (f y).map Fs.l1.res) t := by
  unfold Fs.l1.T Fs.l1.r
  exact Eq.symm (zB (zB (zB (zB (zB (zB (zB (zB rfl rfl) rfl) rfl) rfl) rfl) rfl) rfl) rfl)
theorem Fs.l1.q : ∀ st t, Fs.l1.pat st = some t → st = Fs.l1.shape t := fun _ _ h => by unfold Fs.l1.pat at h; split at h <;> cases h; rfl
theorem Fs.l1.d : Fs.R0 n rc (Fs.l1.shape t) = Fs.l1.T (fun a0 => Fs.l1.res a0) n (fun y => rc (Fs.l1.shape y)) t := by kernel_rfl
theorem Fs.l1.loop (n m : Nat) (t : (Int × (Int × (LI × LI)))) : zS (Fs.R0 n) m (Fs.l1.shape t) = (Fs.l1.m n m t).map Fs.l1.res :=
  zN (fun _ _ => Fs.l1.e) (fun _ _ => Fs.l1.d) (fun _ => rfl) (fun _ _ => by kernel_rfl) m t
theorem Fs.run : yC (Fs.C n) (Fs.A n) n Tryz.f92 (Fs.shape t) = (Fs.m n t).map Fs.res :=
  (show _ = Fs.g (fun a0 => Fs.res a0) n t.1 t.2 from by kernel_rfl).trans (by
    unfold Fs.m Fs.g
    exact (zA fun r2 => (zA fun r4 => rfl)))
theorem Fs.s (hmix : HM) (n : Nat) : zE Tryz.prog zI 92 (Fs.c n) :=
  .mkF (res := Fs.res) (shape := Fs.shape) (C := Fs.C n) (A := Fs.A n) (fun R u K => rfl) (fun _ _ _ h => by unfold Fs.pat at h; split at h <;> cases h; rfl) rfl (.cons (Fx.s hmix n) .nil) hmix Tryz.func92 (by kernel_rfl) (lp := [Fs.b0]) (by kernel_rfl) (.cons (show (Fs.A n).loop (key Fs.b0) = some (.mk' Fs.l1.pat (Fs.l1.m n n) (zQ Fs.l1.res)) by kernel_rfl) (z5.of (res := Fs.l1.res) (fun R u K => rfl) Fs.l1.q fun t => Fs.l1.loop n n t)
  .nil)
  (nj rfl) (by decide) (fun _ => rfl) rfl (fun _ => by show 2 ≤ Tryz.f92.ntmps; decide) (fun _ => Fs.run)
noncomputable abbrev Faz.R0 (n : Nat) := zT (Faz.C n) (Faz.A n) n Faz.b0
noncomputable abbrev Faz.R1 (n : Nat) := zT (Faz.C n) (Faz.A n) n Faz.b1
def Faz.l2.T {α : Type} (mk0 : LI → LI → LI → α) (n : Nat) (f : (LI × (LI × LI)) → Option α) (t : (LI × (LI × LI))) : Option α := Faz.l2.r mk0 n (fun y0 y1 y2 => f (y0, y1, y2)) t.1 t.2.1 t.2.2
theorem Faz.l2.e : (Faz.l2.T (fun a0 a1 a2 => (a0, a1, a2)) n f t).map Faz.l2.res = Faz.l2.T (fun a0 a1 a2 => Faz.l2.res (a0, a1, a2)) n (fun y => (f y).map Faz.l2.res) t := by
  unfold Faz.l2.T Faz.l2.r
  exact Eq.symm (zB (zB (zA fun r8 => (zB rfl rfl)) rfl) rfl)
theorem Faz.l2.q : ∀ st t, Faz.l2.pat st = some t → st = Faz.l2.shape t := fun _ _ h => by unfold Faz.l2.pat at h; split at h <;> cases h; rfl
theorem Faz.l2.d : Faz.R0 n rc (Faz.l2.shape t) = Faz.l2.T (fun a0 a1 a2 => Faz.l2.res (a0, a1, a2)) n (fun y => rc (Faz.l2.shape y)) t := by kernel_rfl
theorem Faz.l2.loop (n m : Nat) (t : (LI × (LI × LI))) : zS (Faz.R0 n) m (Faz.l2.shape t) = (Faz.l2.m n m t).map Faz.l2.res :=
  zN (fun _ _ => Faz.l2.e) (fun _ _ => Faz.l2.d) (fun _ => rfl) (fun _ _ => by kernel_rfl) m t
def Faz.l12.T {α : Type} (mk0 : LI → LI → α) (n : Nat) (f : (Int × (LI × (LI × LI))) → Option α) (t : (Int × (LI × (LI × LI)))) : Option α := Faz.l12.r mk0 n (fun y0 y1 y2 y3 => f (y0, y1, y2, y3)) t.1 t.2.1 t.2.2.1 t.2.2.2
theorem Faz.l12.e : (Faz.l12.T (fun a0 a1 => (a0, a1)) n f t).map Faz.l12.res = Faz.l12.T (fun a0 a1 => Faz.l12.res (a0, a1)) n (fun y => (f y).map Faz.l12.res) t := by
  unfold Faz.l12.T Faz.l12.r
  exact Eq.symm (zB (zB (zB (zB (zB (zB rfl rfl) rfl) rfl) rfl) rfl) rfl)
theorem Faz.l12.q : ∀ st t, Faz.l12.pat st = some t → st = Faz.l12.shape t := fun _ _ h => by unfold Faz.l12.pat at h; split at h <;> cases h; rfl
theorem Faz.l12.d : Faz.R1 n rc (Faz.l12.shape t) = Faz.l12.T (fun a0 a1 => Faz.l12.res (a0, a1)) n (fun y => rc (Faz.l12.shape y)) t := by kernel_rfl
theorem Faz.l12.loop (n m : Nat) (t : (Int × (LI × (LI × LI)))) : zS (Faz.R1 n) m (Faz.l12.shape t) = (Faz.l12.m n m t).map Faz.l12.res :=
  zN (fun _ _ => Faz.l12.e) (fun _ _ => Faz.l12.d) (fun _ => rfl) (fun _ _ => by kernel_rfl) m t
theorem Faz.run : yC (Faz.C n) (Faz.A n) n Tryz.f81 (Faz.shape t) = (Faz.m n t).map Faz.res :=
  (show _ = Faz.g (fun a0 => Faz.res a0) n t from by kernel_rfl).trans (by
    unfold Faz.m Faz.g
    exact (zA fun r2 => (zB (zB (zA fun r8 => (zA fun r10 => (zA fun r12 => rfl))) rfl) rfl)))
theorem Faz.s (hmix : HM) (n : Nat) : zE Tryz.prog zI 81 (Faz.c n) :=
  .mkF (res := Faz.res) (shape := Faz.shape) (C := Faz.C n) (A := Faz.A n) (fun R u K => rfl) (fun _ _ _ h => by unfold Faz.pat at h; split at h <;> cases h; rfl) rfl (.cons (Fs.s hmix n) (.cons (Fbd.s hmix n) .nil)) hmix Tryz.func81 (by kernel_rfl) (lp := [Faz.b0, Faz.b1]) (by kernel_rfl) (.cons (show (Faz.A n).loop (key Faz.b0) = some (.mk' Faz.l2.pat (Faz.l2.m n n) (zQ Faz.l2.res)) by kernel_rfl) (z5.of (res := Faz.l2.res) (fun R u K => rfl) Faz.l2.q fun t => Faz.l2.loop n n t)
  (.cons (show (Faz.A n).loop (key Faz.b1) = some (.mk' Faz.l12.pat (Faz.l12.m n n) (zQ Faz.l12.res)) by kernel_rfl) (z5.of (res := Faz.l12.res) (fun R u K => rfl) Faz.l12.q fun t => Faz.l12.loop n n t)
  .nil))
  (nj rfl) (by decide) (fun _ => rfl) rfl (fun _ => by show 1 ≤ Tryz.f81.ntmps; decide) (fun _ => Faz.run)
noncomputable abbrev Fat.R0 (n : Nat) := zT (Fat.C n) (Fat.A n) n Fat.b0
def Fat.l3.T {α : Type} (mk0 : LI → α) (n : Nat) (f : (Int × (LI × LI)) → Option α) (t : (Int × (LI × LI))) : Option α := Fat.l3.r mk0 n (fun y0 y1 y2 => f (y0, y1, y2)) t.1 t.2.1 t.2.2
theorem Fat.l3.e : (Fat.l3.T (fun a0 => a0) n f t).map Fat.l3.res = Fat.l3.T (fun a0 => Fat.l3.res a0) n (fun y => (f y).map Fat.l3.res) t := by
  unfold Fat.l3.T Fat.l3.r
  exact Eq.symm (zB (zB (zB (zB (zB (zB rfl rfl) rfl) rfl) rfl) rfl) rfl)
theorem Fat.l3.q : ∀ st t, Fat.l3.pat st = some t → st = Fat.l3.shape t := fun _ _ h => by unfold Fat.l3.pat at h; split at h <;> cases h; rfl
theorem Fat.l3.d : Fat.R0 n rc (Fat.l3.shape t) = Fat.l3.T (fun a0 => Fat.l3.res a0) n (fun y => rc (Fat.l3.shape y)) t := by kernel_rfl
theorem Fat.l3.loop (n m : Nat) (t : (Int × (LI × LI))) : zS (Fat.R0 n) m (Fat.l3.shape t) = (Fat.l3.m n m t).map Fat.l3.res :=
  zN (fun _ _ => Fat.l3.e) (fun _ _ => Fat.l3.d) (fun _ => rfl) (fun _ _ => by kernel_rfl) m t
theorem Fat.run : yC (Fat.C n) (Fat.A n) n Tryz.f71 (Fat.shape t) = (Fat.m n t).map Fat.res :=
  (show _ = Fat.g (fun a0 => Fat.res a0) n t from by kernel_rfl).trans (by
    unfold Fat.m Fat.g
    exact (zA fun r2 => rfl))
theorem Fat.s (hmix : HM) (n : Nat) : zE Tryz.prog zI 71 (Fat.c n) :=
  .mkF (res := Fat.res) (shape := Fat.shape) (C := Fat.C n) (A := Fat.A n) (fun R u K => rfl) (fun _ _ _ h => by unfold Fat.pat at h; split at h <;> cases h; rfl) rfl .nil hmix Tryz.func71 (by kernel_rfl) (lp := [Fat.b0]) (by kernel_rfl) (.cons (show (Fat.A n).loop (key Fat.b0) = some (.mk' Fat.l3.pat (Fat.l3.m n n) (zQ Fat.l3.res)) by kernel_rfl) (z5.of (res := Fat.l3.res) (fun R u K => rfl) Fat.l3.q fun t => Fat.l3.loop n n t)
  .nil)
  (nj rfl) (by decide) (fun _ => rfl) rfl (fun _ => by show 1 ≤ Tryz.f71.ntmps; decide) (fun _ => Fat.run)
theorem Fam.run : yC (Fam.C n) (Fam.A n) n Tryz.f67 (Fam.shape t) = (Fam.m n t).map Fam.res :=
  (show _ = Fam.g (fun a0 => Fam.res a0) n t from by kernel_rfl).trans (by
    unfold Fam.m Fam.g
    exact (zA fun r2 => (zA fun r4 => (zB rfl rfl))))
theorem Fam.s (hmix : HM) (n : Nat) : zE Tryz.prog zI 67 (Fam.c n) :=
  .mkF (res := Fam.res) (shape := Fam.shape) (C := Fam.C n) (A := Fam.A n) (fun R u K => rfl) (fun _ _ _ h => by unfold Fam.pat at h; split at h <;> cases h; rfl) rfl (.cons (Faz.s hmix n) (.cons (Fat.s hmix n) .nil)) hmix Tryz.func67 (by kernel_rfl) (lp := []) (by kernel_rfl) .nil
  (nj rfl) (by decide) (fun _ => rfl) rfl (fun _ => by show 1 ≤ Tryz.f67.ntmps; decide) (fun _ => Fam.run)
noncomputable abbrev Fbp.R0 (n : Nat) := zT (Fbp.C n) (Fbp.A n) n Fbp.b0
def Fbp.l2.T {α : Type} (mk0 : Bool → ByteArray → Int → Bool → Bool → α) (mk1 : ByteArray → Int → Bool → Bool → α) (n : Nat) (f : zLN → Option α) (t : zLN) : Option α := Fbp.l2.r mk0 mk1 n (fun y0 y1 y2 y3 y4 y5 y6 y7 => f (y0, y1, y2, y3, y4, y5, y6, y7)) t.1 t.2.1 t.2.2.1 t.2.2.2.1 t.w.1 t.w.2.1 t.w.2.2.1 t.w.2.2.2
theorem Fbp.l2.e : (Fbp.l2.T (fun a0 a1 a2 a3 a4 => (.inl (a0, a1, a2, a3, a4))) (fun a0 a1 a2 a3 => (.inr (a0, a1, a2, a3))) n f t).map Fbp.l2.res = Fbp.l2.T (fun a0 a1 a2 a3 a4 => Fbp.l2.res (.inl (a0, a1, a2, a3, a4))) (fun a0 a1 a2 a3 => Fbp.l2.res (.inr (a0, a1, a2, a3))) n (fun y => (f y).map Fbp.l2.res) t := by
  unfold Fbp.l2.T Fbp.l2.r
  exact Eq.symm (zB (zB (zB (zA fun r10 => (zA fun r12 => (zA fun r14 => (zA fun r16 => (zA fun r18 => (zB (zB (zA fun r24 => (zB rfl rfl)) rfl) rfl)))))) rfl) rfl) rfl)
theorem Fbp.l2.q : ∀ st t, Fbp.l2.pat st = some t → st = Fbp.l2.shape t := fun _ _ h => by unfold Fbp.l2.pat at h; split at h <;> cases h; rfl
theorem Fbp.l2.d : Fbp.R0 n rc (Fbp.l2.shape t) = Fbp.l2.T (fun a0 a1 a2 a3 a4 => Fbp.l2.res (.inl (a0, a1, a2, a3, a4))) (fun a0 a1 a2 a3 => Fbp.l2.res (.inr (a0, a1, a2, a3))) n (fun y => rc (Fbp.l2.shape y)) t := by kernel_rfl
theorem Fbp.l2.loop (n m : Nat) (t : zLN) : zS (Fbp.R0 n) m (Fbp.l2.shape t) = (Fbp.l2.m n m t).map Fbp.l2.res :=
  zN (fun _ _ => Fbp.l2.e) (fun _ _ => Fbp.l2.d) (fun _ => rfl) (fun _ _ => by kernel_rfl) m t
theorem Fbp.run : yC (Fbp.C n) (Fbp.A n) n Tryz.f52 (Fbp.shape t) = (Fbp.m n t).map Fbp.res :=
  (show _ = Fbp.g (fun a0 a1 a2 a3 a4 => Fbp.res (a0, a1, a2, a3, a4)) n t from by kernel_rfl).trans (by
    unfold Fbp.m Fbp.g
    exact (zA fun r2 => (zA fun r4 => match r4 with | (.inl r4) => rfl | (.inr r4) => rfl)))
theorem Fbp.s (hmix : HM) (n : Nat) : zE Tryz.prog zI 52 (Fbp.c n) :=
  .mkF (res := Fbp.res) (shape := Fbp.shape) (C := Fbp.C n) (A := Fbp.A n) (fun R u K => rfl) (fun _ _ _ h => by unfold Fbp.pat at h; split at h <;> cases h; rfl) rfl (.cons (Fbo.s hmix n) (.cons (Fam.s hmix n) .nil)) hmix Tryz.func52 (by kernel_rfl) (lp := [Fbp.b0]) (by kernel_rfl) (.cons (show (Fbp.A n).loop (key Fbp.b0) = some (.mk' Fbp.l2.pat (Fbp.l2.m n n) Fbp.l2.resK) by kernel_rfl) (z5.of (res := Fbp.l2.res) (fun R u K => by rcases u with u | u <;> rfl) Fbp.l2.q fun t => Fbp.l2.loop n n t)
  .nil)
  (nj rfl) (by decide) (fun _ => rfl) rfl (fun _ => by show 1 ≤ Tryz.f52.ntmps; decide) (fun _ => Fbp.run)
noncomputable abbrev Fbb.R0 (n : Nat) := zT (Fbb.C n) (Fbb.A n) n Fbb.b0
def Fbb.l5.T {α : Type} (mk0 : LA → α) (n : Nat) (f : (Int × (Int × (LA × (LI × LA)))) → Option α) (t : (Int × (Int × (LA × (LI × LA))))) : Option α := Fbb.l5.r mk0 n (fun y0 y1 y2 y3 y4 => f (y0, y1, y2, y3, y4)) t.1 t.2.1 t.2.2.1 t.2.2.2.1 t.w
theorem Fbb.l5.e : (Fbb.l5.T (fun a0 => a0) n f t).map Fbb.l5.res = Fbb.l5.T (fun a0 => Fbb.l5.res a0) n (fun y => (f y).map Fbb.l5.res) t := by
  unfold Fbb.l5.T Fbb.l5.r
  exact Eq.symm (zB (zB (zB (zA fun r10 => (zB (zB (zB (zB (zB (zA fun r22 => (zB rfl rfl)) rfl) rfl) rfl) rfl) rfl)) rfl) rfl) rfl)
theorem Fbb.l5.q : ∀ st t, Fbb.l5.pat st = some t → st = Fbb.l5.shape t := fun _ _ h => by unfold Fbb.l5.pat at h; split at h <;> cases h; rfl
theorem Fbb.l5.d : Fbb.R0 n rc (Fbb.l5.shape t) = Fbb.l5.T (fun a0 => Fbb.l5.res a0) n (fun y => rc (Fbb.l5.shape y)) t := by kernel_rfl
theorem Fbb.l5.loop (n m : Nat) (t : (Int × (Int × (LA × (LI × LA))))) : zS (Fbb.R0 n) m (Fbb.l5.shape t) = (Fbb.l5.m n m t).map Fbb.l5.res :=
  zN (fun _ _ => Fbb.l5.e) (fun _ _ => Fbb.l5.d) (fun _ => rfl) (fun _ _ => by kernel_rfl) m t
theorem Fbb.run : yC (Fbb.C n) (Fbb.A n) n Tryz.f53 (Fbb.shape t) = (Fbb.m n t).map Fbb.res :=
  (show _ = Fbb.g (fun a0 a1 => Fbb.res (a0, a1)) n t.1 t.2 from by kernel_rfl).trans (by
    unfold Fbb.m Fbb.g
    exact (zB rfl (zA fun r4 => rfl)))
theorem Fbb.s (hmix : HM) (n : Nat) : zE Tryz.prog zI 53 (Fbb.c n) :=
  .mkF (res := Fbb.res) (shape := Fbb.shape) (C := Fbb.C n) (A := Fbb.A n) (fun R u K => rfl) (fun _ _ _ h => by unfold Fbb.pat at h; split at h <;> cases h; rfl) rfl (.cons (Fbd.s hmix n) .nil) hmix Tryz.func53 (by kernel_rfl) (lp := [Fbb.b0]) (by kernel_rfl) (.cons (show (Fbb.A n).loop (key Fbb.b0) = some (.mk' Fbb.l5.pat (Fbb.l5.m n n) (zQ Fbb.l5.res)) by kernel_rfl) (z5.of (res := Fbb.l5.res) (fun R u K => rfl) Fbb.l5.q fun t => Fbb.l5.loop n n t)
  .nil)
  (nj rfl) (by decide) (fun _ => rfl) rfl (fun _ => by show 2 ≤ Tryz.f53.ntmps; decide) (fun _ => Fbb.run)
theorem Faj.run : yC (Faj.C n) (Faj.A n) n Tryz.f79 (Faj.shape t) = (Faj.m n t).map Faj.res :=
  (show _ = Faj.g (fun a0 => Faj.res a0) n t.1 t.2.1 t.2.2 from by kernel_rfl).trans (by
    unfold Faj.m Faj.g
    exact (zB rfl (zB (zB rfl rfl) rfl)))
theorem Faj.s (hmix : HM) (n : Nat) : zE Tryz.prog zI 79 (Faj.c n) :=
  .mkF (res := Faj.res) (shape := Faj.shape) (C := Faj.C n) (A := Faj.A n) (fun R u K => rfl) (fun _ _ _ h => by unfold Faj.pat at h; split at h <;> cases h; rfl) rfl .nil hmix Tryz.func79 (by kernel_rfl) (lp := []) (by kernel_rfl) .nil
  (nj rfl) (by decide) (fun _ => rfl) rfl (fun _ => by show 3 ≤ Tryz.f79.ntmps; decide) (fun _ => Faj.run)
noncomputable abbrev Fau.R0 (n : Nat) := zT (Fau.C n) (Fau.A n) n Fau.b0
def Fau.l4.T {α : Type} (mk0 : LI → LI → α) (n : Nat) (f : (Int × (Int × (Int × (LI × (LI × LI))))) → Option α) (t : (Int × (Int × (Int × (LI × (LI × LI)))))) : Option α := Fau.l4.r mk0 n (fun y0 y1 y2 y3 y4 y5 => f (y0, y1, y2, y3, y4, y5)) t.1 t.2.1 t.2.2.1 t.2.2.2.1 t.w.1 t.w.2
theorem Fau.l4.e : (Fau.l4.T (fun a0 a1 => (a0, a1)) n f t).map Fau.l4.res = Fau.l4.T (fun a0 a1 => Fau.l4.res (a0, a1)) n (fun y => (f y).map Fau.l4.res) t := by
  unfold Fau.l4.T Fau.l4.r
  exact Eq.symm (zB (zA fun r6 => (zB (zB (zB (zB (zB (zB (zA fun r20 => (zB (zB (zB rfl rfl) rfl) rfl)) rfl) rfl) rfl) rfl) rfl) rfl)) rfl)
theorem Fau.l4.q : ∀ st t, Fau.l4.pat st = some t → st = Fau.l4.shape t := fun _ _ h => by unfold Fau.l4.pat at h; split at h <;> cases h; rfl
theorem Fau.l4.d : Fau.R0 n rc (Fau.l4.shape t) = Fau.l4.T (fun a0 a1 => Fau.l4.res (a0, a1)) n (fun y => rc (Fau.l4.shape y)) t := by kernel_rfl
theorem Fau.l4.loop (n m : Nat) (t : (Int × (Int × (Int × (LI × (LI × LI)))))) : zS (Fau.R0 n) m (Fau.l4.shape t) = (Fau.l4.m n m t).map Fau.l4.res :=
  zN (fun _ _ => Fau.l4.e) (fun _ _ => Fau.l4.d) (fun _ => rfl) (fun _ _ => by kernel_rfl) m t
theorem Fau.run : yC (Fau.C n) (Fau.A n) n Tryz.f62 (Fau.shape t) = (Fau.m n t).map Fau.res :=
  (show _ = Fau.g (fun a0 => Fau.res a0) n t.1 t.2.1 t.2.2 from by kernel_rfl).trans (by
    unfold Fau.m Fau.g
    exact (zA fun r2 => rfl))
theorem Fau.s (hmix : HM) (n : Nat) : zE Tryz.prog zI 62 (Fau.c n) :=
  .mkF (res := Fau.res) (shape := Fau.shape) (C := Fau.C n) (A := Fau.A n) (fun R u K => rfl) (fun _ _ _ h => by unfold Fau.pat at h; split at h <;> cases h; rfl) rfl (.cons (Faj.s hmix n) .nil) hmix Tryz.func62 (by kernel_rfl) (lp := [Fau.b0]) (by kernel_rfl) (.cons (show (Fau.A n).loop (key Fau.b0) = some (.mk' Fau.l4.pat (Fau.l4.m n n) (zQ Fau.l4.res)) by kernel_rfl) (z5.of (res := Fau.l4.res) (fun R u K => rfl) Fau.l4.q fun t => Fau.l4.loop n n t)
  .nil)
  (nj rfl) (by decide) (fun _ => rfl) rfl (fun _ => by show 3 ≤ Tryz.f62.ntmps; decide) (fun _ => Fau.run)
theorem Fby.run : yC (Fby.C n) (Fby.A n) n Tryz.f47 (Fby.shape t) = (Fby.m n t).map Fby.res :=
  (show _ = Fby.g (fun a0 => Fby.res a0) n t.1 t.2 from by kernel_rfl).trans (by
    unfold Fby.m Fby.g
    exact (zA fun r2 => (zA fun r4 => rfl)))
theorem Fby.s (hmix : HM) (n : Nat) : zE Tryz.prog zI 47 (Fby.c n) :=
  .mkF (res := Fby.res) (shape := Fby.shape) (C := Fby.C n) (A := Fby.A n) (fun R u K => rfl) (fun _ _ _ h => by unfold Fby.pat at h; split at h <;> cases h; rfl) rfl (.cons (Fbv.s hmix n) (.cons (Fau.s hmix n) .nil)) hmix Tryz.func47 (by kernel_rfl) (lp := []) (by kernel_rfl) .nil
  (nj rfl) (by decide) (fun _ => rfl) rfl (fun _ => by show 2 ≤ Tryz.f47.ntmps; decide) (fun _ => Fby.run)
theorem Fao.run : yC (Fao.C n) (Fao.A n) n Tryz.f24 (Fao.shape t) = (Fao.m n t).map Fao.res :=
  (show _ = Fao.g (fun a0 => Fao.res a0) n t.1 t.2 from by kernel_rfl).trans (by
    unfold Fao.m Fao.g
    exact (zA fun r2 => (zA fun r4 => rfl)))
theorem Fao.s (hmix : HM) (n : Nat) : zE Tryz.prog zI 24 (Fao.c n) :=
  .mkF (res := Fao.res) (shape := Fao.shape) (C := Fao.C n) (A := Fao.A n) (fun R u K => rfl) (fun _ _ _ h => by unfold Fao.pat at h; split at h <;> cases h; rfl) rfl (.cons (Fbh.s hmix n) (.cons (Fby.s hmix n) .nil)) hmix Tryz.func24 (by kernel_rfl) (lp := []) (by kernel_rfl) .nil
  (nj rfl) (by decide) (fun _ => rfl) rfl (fun _ => by show 2 ≤ Tryz.f24.ntmps; decide) (fun _ => Fao.run)
theorem Fbe.run : yC (Fbe.C n) (Fbe.A n) n Tryz.f88 (Fbe.shape t) = (Fbe.m n t).map Fbe.res :=
  (show _ = Fbe.g (fun a0 => Fbe.res a0) n t from by kernel_rfl).trans (by
    unfold Fbe.m Fbe.g
    exact (zA fun r2 => (zB (zB rfl rfl) rfl)))
theorem Fbe.s (hmix : HM) (n : Nat) : zE Tryz.prog zI 88 (Fbe.c n) :=
  .mkF (res := Fbe.res) (shape := Fbe.shape) (C := Fbe.C n) (A := Fbe.A n) (fun R u K => rfl) (fun _ _ _ h => by unfold Fbe.pat at h; split at h <;> cases h; rfl) rfl (.cons (Fat.s hmix n) .nil) hmix Tryz.func88 (by kernel_rfl) (lp := []) (by kernel_rfl) .nil
  (nj rfl) (by decide) (fun _ => rfl) rfl (fun _ => by show 1 ≤ Tryz.f88.ntmps; decide) (fun _ => Fbe.run)
theorem Fn.run : yC (Fn.C n) (Fn.A n) n Tryz.f70 (Fn.shape t) = (Fn.m n t).map Fn.res :=
  (show _ = Fn.g (fun a0 a1 a2 a3 a4 a5 a6 a7 a8 a9 a10 a11 a12 => Fn.res (.inl (a0, a1, a2, a3, a4, a5, a6, a7, a8, a9, a10, a11, a12))) (fun a0 a1 a2 a3 a4 a5 a6 a7 a8 a9 a10 a11 => Fn.res (.inr (a0, a1, a2, a3, a4, a5, a6, a7, a8, a9, a10, a11))) n t.1 t.2.1 t.2.2.1 t.2.2.2.1 t.w.1 t.w.2.1 t.w.2.2.1 t.w.2.2.2.1 t.x.1 t.x.2.1 t.x.2.2 from by kernel_rfl).trans (by
    unfold Fn.m Fn.g
    exact (zB (zA fun r4 => (zA fun r6 => (zB rfl (zB (zA fun r12 => (zA fun r14 => rfl)) rfl)))) rfl))
theorem Fn.s (hmix : HM) (n : Nat) : zE Tryz.prog zI 70 (Fn.c n) :=
  .mkF (res := Fn.res) (shape := Fn.shape) (C := Fn.C n) (A := Fn.A n) (fun R u K => by rcases u with u | u <;> rfl) (fun _ _ _ h => by unfold Fn.pat at h; split at h <;> cases h; rfl) rfl (.cons (Fao.s hmix n) (.cons (Fbe.s hmix n) .nil)) hmix Tryz.func70 (by kernel_rfl) (lp := []) (by kernel_rfl) .nil
  (nj rfl) (by decide) (fun _ => rfl) rfl (fun _ => by show 1 ≤ Tryz.f70.ntmps; decide) (fun _ => Fn.run)
theorem Fav.run : yC (Fav.C n) (Fav.A n) n Tryz.f7 (Fav.shape t) = (Fav.m n t).map Fav.res :=
  (show _ = Fav.g (fun a0 a1 a2 a3 a4 a5 a6 a7 => Fav.res (a0, a1, a2, a3, a4, a5, a6, a7)) n t.1 t.2.1 t.2.2.1 t.2.2.2.1 t.w.1 t.w.2.1 t.w.2.2.1 t.w.2.2.2.1 t.x from by kernel_rfl).trans (by
    unfold Fav.m Fav.g
    exact (zA fun r2 => (zB rfl (zA fun r6 => (zA fun r8 => (zA fun r10 => rfl))))))
theorem Fav.s (hmix : HM) (n : Nat) : zE Tryz.prog zI 7 (Fav.c n) :=
  .mkF (res := Fav.res) (shape := Fav.shape) (C := Fav.C n) (A := Fav.A n) (fun R u K => rfl) (fun _ _ _ h => by unfold Fav.pat at h; split at h <;> cases h; rfl) rfl (.cons (Fao.s hmix n) (.cons (Fbj.s hmix n) (.cons (Fbi.s hmix n) (.cons (Fv.s hmix n) .nil)))) hmix Tryz.func7 (by kernel_rfl) (lp := []) (by kernel_rfl) .nil
  (nj rfl) (by decide) (fun _ => rfl) rfl (fun _ => by show 3 ≤ Tryz.f7.ntmps; decide) (fun _ => Fav.run)
theorem Fk.run : yC (Fk.C n) (Fk.A n) n Tryz.f72 (Fk.shape t) = (Fk.m n t).map Fk.res :=
  (show _ = Fk.g (fun a0 a1 a2 a3 a4 a5 a6 a7 a8 a9 a10 a11 a12 => Fk.res (.inl (a0, a1, a2, a3, a4, a5, a6, a7, a8, a9, a10, a11, a12))) (fun a0 a1 a2 a3 a4 a5 a6 a7 a8 a9 a10 a11 => Fk.res (.inr (a0, a1, a2, a3, a4, a5, a6, a7, a8, a9, a10, a11))) n t.1 t.2.1 t.2.2.1 t.2.2.2.1 t.w.1 t.w.2.1 t.w.2.2.1 t.w.2.2.2.1 t.x.1 t.x.2.1 t.x.2.2 from by kernel_rfl).trans (by
    unfold Fk.m Fk.g
    exact (zA fun r2 => match r2 with | (.inl r2) => rfl | (.inr r2) => (zB (zA fun r8 => (zA fun r10 => (zB rfl (zB (zA fun r16 => (zA fun r18 => (zA fun r20 => rfl))) rfl)))) rfl)))
theorem Fk.s (hmix : HM) (n : Nat) : zE Tryz.prog zI 72 (Fk.c n) :=
  .mkF (res := Fk.res) (shape := Fk.shape) (C := Fk.C n) (A := Fk.A n) (fun R u K => by rcases u with u | u <;> rfl) (fun _ _ _ h => by unfold Fk.pat at h; split at h <;> cases h; rfl) rfl (.cons (Fn.s hmix n) (.cons (Fao.s hmix n) (.cons (Fav.s hmix n) (.cons (Fat.s hmix n) .nil)))) hmix Tryz.func72 (by kernel_rfl) (lp := []) (by kernel_rfl) .nil
  (nj rfl) (by decide) (fun _ => rfl) rfl (fun _ => by show 1 ≤ Tryz.f72.ntmps; decide) (fun _ => Fk.run)
theorem Fbx.run : yC (Fbx.C n) (Fbx.A n) n Tryz.f8 (Fbx.shape t) = (Fbx.m n t).map Fbx.res :=
  (show _ = Fbx.g (fun a0 a1 a2 a3 a4 a5 a6 a7 => Fbx.res (a0, a1, a2, a3, a4, a5, a6, a7)) n t.1 t.2.1 t.2.2.1 t.2.2.2.1 t.w.1 t.w.2.1 t.w.2.2.1 t.w.2.2.2.1 t.x from by kernel_rfl).trans (by
    unfold Fbx.m Fbx.g
    exact (zA fun r2 => (zA fun r4 => (zA fun r6 => (zB rfl (zB rfl (zB rfl (zA fun r14 => (zA fun r16 => rfl)))))))))
theorem Fbx.s (hmix : HM) (n : Nat) : zE Tryz.prog zI 8 (Fbx.c n) :=
  .mkF (res := Fbx.res) (shape := Fbx.shape) (C := Fbx.C n) (A := Fbx.A n) (fun R u K => rfl) (fun _ _ _ h => by unfold Fbx.pat at h; split at h <;> cases h; rfl) rfl (.cons (Fbi.s hmix n) (.cons (Fbj.s hmix n) (.cons (Fv.s hmix n) (.cons (Fh.s hmix n) .nil)))) hmix Tryz.func8 (by kernel_rfl) (lp := []) (by kernel_rfl) .nil
  (nj rfl) (by decide) (fun _ => rfl) rfl (fun _ => by show 3 ≤ Tryz.f8.ntmps; decide) (fun _ => Fbx.run)
theorem Fbl.run : yC (Fbl.C n) (Fbl.A n) n Tryz.f73 (Fbl.shape t) = (Fbl.m n t).map Fbl.res :=
  (show _ = Fbl.g (Fbl.res (.inl ())) (fun a0 => Fbl.res (.inr a0)) n t from by kernel_rfl).trans (by
    unfold Fbl.m Fbl.g
    exact (zB rfl rfl))
theorem Fbl.s (hmix : HM) (n : Nat) : zE Tryz.prog zI 73 (Fbl.c n) :=
  .mkF (res := Fbl.res) (shape := Fbl.shape) (C := Fbl.C n) (A := Fbl.A n) (fun R u K => by rcases u with u | u <;> rfl) (fun _ _ _ h => by unfold Fbl.pat at h; split at h <;> cases h; rfl) rfl .nil hmix Tryz.func73 (by kernel_rfl) (lp := []) (by kernel_rfl) .nil
  (nj rfl) (by decide) (fun _ => rfl) rfl (fun _ => by show 1 ≤ Tryz.f73.ntmps; decide) (fun _ => Fbl.run)
theorem Fal.run : yC (Fal.C n) (Fal.A n) n Tryz.f40 (Fal.shape t) = (Fal.m n t).map Fal.res :=
  (show _ = Fal.g (fun a0 a1 a2 a3 a4 a5 a6 a7 a8 a9 => Fal.res (a0, a1, a2, a3, a4, a5, a6, a7, a8, a9)) n t.1 t.2.1 t.2.2.1 t.2.2.2.1 t.w.1 t.w.2.1 t.w.2.2.1 t.w.2.2.2 from by kernel_rfl).trans (by
    unfold Fal.m Fal.g
    exact (zA fun r2 => (zA fun r4 => (zA fun r6 => (zA fun r8 => (zA fun r10 => (zA fun r12 => rfl)))))))
theorem Fal.s (hmix : HM) (n : Nat) : zE Tryz.prog zI 40 (Fal.c n) :=
  .mkF (res := Fal.res) (shape := Fal.shape) (C := Fal.C n) (A := Fal.A n) (fun R u K => rfl) (fun _ _ _ h => by unfold Fal.pat at h; split at h <;> cases h; rfl) rfl (.cons (Fbj.s hmix n) (.cons (Fbi.s hmix n) (.cons (Fv.s hmix n) .nil))) hmix Tryz.func40 (by kernel_rfl) (lp := []) (by kernel_rfl) .nil
  (nj rfl) (by decide) (fun _ => rfl) rfl (fun _ => by show 2 ≤ Tryz.f40.ntmps; decide) (fun _ => Fal.run)
theorem Fah.run : yC (Fah.C n) (Fah.A n) n Tryz.f89 (Fah.shape t) = (Fah.m n t).map Fah.res :=
  (show _ = Fah.g (fun a0 a1 a2 a3 a4 a5 a6 => Fah.res (a0, a1, a2, a3, a4, a5, a6)) n t.1 t.2.1 t.2.2.1 t.2.2.2.1 t.w.1 t.w.2.1 t.w.2.2.1 t.w.2.2.2.1 t.x.1 t.x.2.1 t.x.2.2 from by kernel_rfl).trans (by
    unfold Fah.m Fah.g
    exact (zA fun r2 => (zA fun r4 => (zA fun r6 => (zA fun r8 => (zA fun r10 => (zA fun r12 => rfl)))))))
theorem Fah.s (hmix : HM) (n : Nat) : zE Tryz.prog zI 89 (Fah.c n) :=
  .mkF (res := Fah.res) (shape := Fah.shape) (C := Fah.C n) (A := Fah.A n) (fun R u K => rfl) (fun _ _ _ h => by unfold Fah.pat at h; split at h <;> cases h; rfl) rfl (.cons (Fbj.s hmix n) (.cons (Fbi.s hmix n) (.cons (Fh.s hmix n) .nil))) hmix Tryz.func89 (by kernel_rfl) (lp := []) (by kernel_rfl) .nil
  (nj rfl) (by decide) (fun _ => rfl) rfl (fun _ => by show 3 ≤ Tryz.f89.ntmps; decide) (fun _ => Fah.run)
theorem Fl.run : yC (Fl.C n) (Fl.A n) n Tryz.f74 (Fl.shape t) = (Fl.m n t).map Fl.res :=
  (show _ = Fl.g (fun a0 a1 a2 a3 a4 a5 a6 a7 a8 a9 a10 a11 => Fl.res (.inl (a0, a1, a2, a3, a4, a5, a6, a7, a8, a9, a10, a11))) (fun a0 a1 a2 a3 a4 a5 a6 a7 a8 a9 a10 => Fl.res (.inr (a0, a1, a2, a3, a4, a5, a6, a7, a8, a9, a10))) n t.1 t.2.1 t.2.2.1 t.2.2.2.1 t.w.1 t.w.2.1 t.w.2.2.1 t.w.2.2.2.1 t.x.1 t.x.2.1 t.x.2.2 from by kernel_rfl).trans (by
    unfold Fl.m Fl.g
    exact (zA fun r2 => (zB (zA fun r6 => (zA fun r8 => (zA fun r10 => (zB rfl (zB rfl (zB rfl (zB rfl (zB rfl (zA fun r22 => rfl))))))))) rfl)))
theorem Fl.s (hmix : HM) (n : Nat) : zE Tryz.prog zI 74 (Fl.c n) :=
  .mkF (res := Fl.res) (shape := Fl.shape) (C := Fl.C n) (A := Fl.A n) (fun R u K => by rcases u with u | u <;> rfl) (fun _ _ _ h => by unfold Fl.pat at h; split at h <;> cases h; rfl) rfl (.cons (Fal.s hmix n) (.cons (Fca.s hmix n) (.cons (Fao.s hmix n) (.cons (Fah.s hmix n) .nil)))) hmix Tryz.func74 (by kernel_rfl) (lp := []) (by kernel_rfl) .nil
  (nj rfl) (by decide) (fun _ => rfl) rfl (fun _ => by show 1 ≤ Tryz.f74.ntmps; decide) (fun _ => Fl.run)
theorem Ft.run : yC (Ft.C n) (Ft.A n) n Tryz.f75 (Ft.shape t) = (Ft.m n t).map Ft.res :=
  (show _ = Ft.g (fun a0 a1 a2 a3 a4 a5 a6 a7 a8 a9 a10 a11 => Ft.res (.inl (a0, a1, a2, a3, a4, a5, a6, a7, a8, a9, a10, a11))) (fun a0 a1 a2 a3 a4 a5 a6 a7 a8 a9 a10 => Ft.res (.inr (a0, a1, a2, a3, a4, a5, a6, a7, a8, a9, a10))) n t.1 t.2.1 t.2.2.1 t.2.2.2.1 t.w.1 t.w.2.1 t.w.2.2.1 t.w.2.2.2.1 t.x.1 t.x.2.1 t.x.2.2 from by kernel_rfl).trans (by
    unfold Ft.m Ft.g
    exact (zA fun r2 => (zB rfl (zB rfl (zB rfl (zA fun r10 => rfl))))))
theorem Ft.s (hmix : HM) (n : Nat) : zE Tryz.prog zI 75 (Ft.c n) :=
  .mkF (res := Ft.res) (shape := Ft.shape) (C := Ft.C n) (A := Ft.A n) (fun R u K => by rcases u with u | u <;> rfl) (fun _ _ _ h => by unfold Ft.pat at h; split at h <;> cases h; rfl) rfl (.cons (Fal.s hmix n) (.cons (Fah.s hmix n) .nil)) hmix Tryz.func75 (by kernel_rfl) (lp := []) (by kernel_rfl) .nil
  (nj rfl) (by decide) (fun _ => rfl) rfl (fun _ => by show 1 ≤ Tryz.f75.ntmps; decide) (fun _ => Ft.run)
theorem Fi.run : yC (Fi.C n) (Fi.A n) n Tryz.f12 (Fi.shape t) = (Fi.m n t).map Fi.res :=
  (show _ = Fi.g (fun a0 a1 a2 a3 a4 a5 a6 a7 => Fi.res (a0, a1, a2, a3, a4, a5, a6, a7)) n t.1 t.2.1 t.2.2.1 t.2.2.2.1 t.w.1 t.w.2.1 t.w.2.2.1 t.w.2.2.2 from by kernel_rfl).trans (by
    unfold Fi.m Fi.g
    exact (zA fun r2 => (zA fun r4 => (zA fun r6 => (zA fun r8 => (zA fun r10 => rfl))))))
theorem Fi.s (hmix : HM) (n : Nat) : zE Tryz.prog zI 12 (Fi.c n) :=
  .mkF (res := Fi.res) (shape := Fi.shape) (C := Fi.C n) (A := Fi.A n) (fun R u K => rfl) (fun _ _ _ h => by unfold Fi.pat at h; split at h <;> cases h; rfl) rfl .nil hmix Tryz.func12 (by kernel_rfl) (lp := []) (by kernel_rfl) .nil
  (nj rfl) (by decide) (fun _ => rfl) rfl (fun _ => by show 2 ≤ Tryz.f12.ntmps; decide) (fun _ => Fi.run)
theorem Fax.ok (hmix : HM) (n : Nat) (t) (u) (h : Fax.m n t = some u) : zEB Tryz.prog zI 98 (Fax.shape t).1 (Fax.shape t).2 (Fax.res u).1 (Fax.res u).2 :=
  zKU Tryz.func98 (by kernel_rfl) (by kernel_rfl) (by kernel_rfl) (show Go.Extern.find Tryz.f98 = some zBH by kernel_rfl) t u h
theorem Fax.s (hmix : HM) (n : Nat) : zE Tryz.prog zI 98 (Fax.c n) :=
  zE.of (res := Fax.res) (shape := Fax.shape) (fun R u K => rfl) (fun args lent t h => by
    unfold Fax.pat at h
    split at h
    · cases h; rfl
    · cases h) fun t u h => Fax.ok hmix n t u h
noncomputable abbrev Fcb.R0 (n : Nat) := zT (Fcb.C n) (Fcb.A n) n Fcb.b0
def Fcb.l4.T {α : Type} (mk0 : Int → LI → LI → α) (n : Nat) (f : (Int × (Int × (LI × (LI × (LI × LI))))) → Option α) (t : (Int × (Int × (LI × (LI × (LI × LI)))))) : Option α := Fcb.l4.r mk0 n (fun y0 y1 y2 y3 y4 y5 => f (y0, y1, y2, y3, y4, y5)) t.1 t.2.1 t.2.2.1 t.2.2.2.1 t.w.1 t.w.2
theorem Fcb.l4.e : (Fcb.l4.T (fun a0 a1 a2 => (a0, a1, a2)) n f t).map Fcb.l4.res = Fcb.l4.T (fun a0 a1 a2 => Fcb.l4.res (a0, a1, a2)) n (fun y => (f y).map Fcb.l4.res) t := by
  unfold Fcb.l4.T Fcb.l4.r
  exact Eq.symm (zB (zB (zB (zB (zB (zA fun r14 => (zB (zB rfl rfl) rfl)) rfl) rfl) rfl) rfl) rfl)
theorem Fcb.l4.q : ∀ st t, Fcb.l4.pat st = some t → st = Fcb.l4.shape t := fun _ _ h => by unfold Fcb.l4.pat at h; split at h <;> cases h; rfl
theorem Fcb.l4.d : Fcb.R0 n rc (Fcb.l4.shape t) = Fcb.l4.T (fun a0 a1 a2 => Fcb.l4.res (a0, a1, a2)) n (fun y => rc (Fcb.l4.shape y)) t := by kernel_rfl
theorem Fcb.l4.loop (n m : Nat) (t : (Int × (Int × (LI × (LI × (LI × LI)))))) : zS (Fcb.R0 n) m (Fcb.l4.shape t) = (Fcb.l4.m n m t).map Fcb.l4.res :=
  zN (fun _ _ => Fcb.l4.e) (fun _ _ => Fcb.l4.d) (fun _ => rfl) (fun _ _ => by kernel_rfl) m t
theorem Fcb.run : yC (Fcb.C n) (Fcb.A n) n Tryz.f96 (Fcb.shape t) = (Fcb.m n t).map Fcb.res :=
  (show _ = Fcb.g (fun a0 a1 => Fcb.res (a0, a1)) n t.1 t.2 from by kernel_rfl).trans (by
    unfold Fcb.m Fcb.g
    exact (zA fun r2 => rfl))
theorem Fcb.s (hmix : HM) (n : Nat) : zE Tryz.prog zI 96 (Fcb.c n) :=
  .mkF (res := Fcb.res) (shape := Fcb.shape) (C := Fcb.C n) (A := Fcb.A n) (fun R u K => rfl) (fun _ _ _ h => by unfold Fcb.pat at h; split at h <;> cases h; rfl) rfl (.cons (Fax.s hmix n) .nil) hmix Tryz.func96 (by kernel_rfl) (lp := [Fcb.b0]) (by kernel_rfl) (.cons (show (Fcb.A n).loop (key Fcb.b0) = some (.mk' Fcb.l4.pat (Fcb.l4.m n n) (zQ Fcb.l4.res)) by kernel_rfl) (z5.of (res := Fcb.l4.res) (fun R u K => rfl) Fcb.l4.q fun t => Fcb.l4.loop n n t)
  .nil)
  (nj rfl) (by decide) (fun _ => rfl) rfl (fun _ => by show 2 ≤ Tryz.f96.ntmps; decide) (fun _ => Fcb.run)
theorem Fac.run : yC (Fac.C n) (Fac.A n) n Tryz.f29 (Fac.shape t) = (Fac.m n t).map Fac.res :=
  (show _ = Fac.g (fun a0 a1 a2 a3 a4 a5 a6 => Fac.res (a0, a1, a2, a3, a4, a5, a6)) n t.1 t.2.1 t.2.2.1 t.2.2.2.1 t.w.1 t.w.2.1 t.w.2.2.1 t.w.2.2.2.1 t.x.1 t.x.2.1 t.x.2.2 from by kernel_rfl).trans (by
    unfold Fac.m Fac.g
    exact (zA fun r2 => (zA fun r4 => (zA fun r6 => (zA fun r8 => (zA fun r10 => (zB (zA fun r14 => rfl) rfl)))))))
theorem Fac.s (hmix : HM) (n : Nat) : zE Tryz.prog zI 29 (Fac.c n) :=
  .mkF (res := Fac.res) (shape := Fac.shape) (C := Fac.C n) (A := Fac.A n) (fun R u K => rfl) (fun _ _ _ h => by unfold Fac.pat at h; split at h <;> cases h; rfl) rfl .nil hmix Tryz.func29 (by kernel_rfl) (lp := []) (by kernel_rfl) .nil
  (nj rfl) (by decide) (fun _ => rfl) rfl (fun _ => by show 3 ≤ Tryz.f29.ntmps; decide) (fun _ => Fac.run)
theorem Ff.run : yC (Ff.C n) (Ff.A n) n Tryz.f13 (Ff.shape t) = (Ff.m n t).map Ff.res :=
  (show _ = Ff.g (fun a0 a1 a2 a3 a4 a5 a6 => Ff.res (a0, a1, a2, a3, a4, a5, a6)) n t.1 t.2.1 t.2.2.1 t.2.2.2.1 t.w.1 t.w.2.1 t.w.2.2.1 t.w.2.2.2.1 t.x from by kernel_rfl).trans (by
    unfold Ff.m Ff.g
    exact (zA fun r2 => (zA fun r4 => (zA fun r6 => (zA fun r8 => (zA fun r10 => (zA fun r12 => rfl)))))))
theorem Ff.s (hmix : HM) (n : Nat) : zE Tryz.prog zI 13 (Ff.c n) :=
  .mkF (res := Ff.res) (shape := Ff.shape) (C := Ff.C n) (A := Ff.A n) (fun R u K => rfl) (fun _ _ _ h => by unfold Ff.pat at h; split at h <;> cases h; rfl) rfl (.cons (Fac.s hmix n) .nil) hmix Tryz.func13 (by kernel_rfl) (lp := []) (by kernel_rfl) .nil
  (nj rfl) (by decide) (fun _ => rfl) rfl (fun _ => by show 3 ≤ Tryz.f13.ntmps; decide) (fun _ => Ff.run)
theorem Fad.run : yC (Fad.C n) (Fad.A n) n Tryz.f95 (Fad.shape t) = (Fad.m n t).map Fad.res :=
  (show _ = Fad.g (fun a0 a1 a2 a3 a4 a5 a6 a7 => Fad.res (a0, a1, a2, a3, a4, a5, a6, a7)) n t.1 t.2.1 t.2.2.1 t.2.2.2.1 t.w.1 t.w.2.1 t.w.2.2.1 t.w.2.2.2.1 t.x.1 t.x.2 from by kernel_rfl).trans (by
    unfold Fad.m Fad.g
    exact (zA fun r2 => (zA fun r4 => (zB rfl (zA fun r8 => (zA fun r10 => (zA fun r12 => (zA fun r14 => rfl))))))))
theorem Fad.s (hmix : HM) (n : Nat) : zE Tryz.prog zI 95 (Fad.c n) :=
  .mkF (res := Fad.res) (shape := Fad.shape) (C := Fad.C n) (A := Fad.A n) (fun R u K => rfl) (fun _ _ _ h => by unfold Fad.pat at h; split at h <;> cases h; rfl) rfl (.cons (Fi.s hmix n) (.cons (Fcb.s hmix n) (.cons (Ff.s hmix n) (.cons (Fca.s hmix n) .nil)))) hmix Tryz.func95 (by kernel_rfl) (lp := []) (by kernel_rfl) .nil
  (nj rfl) (by decide) (fun _ => rfl) rfl (fun _ => by show 4 ≤ Tryz.f95.ntmps; decide) (fun _ => Fad.run)
theorem Faf.run : yC (Faf.C n) (Faf.A n) n Tryz.f90 (Faf.shape t) = (Faf.m n t).map Faf.res :=
  (show _ = Faf.g (fun a0 a1 a2 a3 a4 a5 a6 a7 a8 a9 a10 a11 => Faf.res (.inl (a0, a1, a2, a3, a4, a5, a6, a7, a8, a9, a10, a11))) (fun a0 a1 a2 a3 a4 a5 a6 a7 a8 a9 a10 => Faf.res (.inr (a0, a1, a2, a3, a4, a5, a6, a7, a8, a9, a10))) n t.1 t.2.1 t.2.2.1 t.2.2.2.1 t.w.1 t.w.2.1 t.w.2.2.1 t.w.2.2.2.1 t.x.1 t.x.2.1 t.x.2.2.1 t.x.2.2.2 from by kernel_rfl).trans (by
    unfold Faf.m Faf.g
    exact (zA fun r2 => match r2 with | (.inl r2) => rfl | (.inr r2) => (zA fun r6 => (zA fun r8 => (zA fun r10 => match r10 with | (.inl r10) => rfl | (.inr r10) => rfl)))))
theorem Faf.s (hmix : HM) (n : Nat) : zE Tryz.prog zI 90 (Faf.c n) :=
  .mkF (res := Faf.res) (shape := Faf.shape) (C := Faf.C n) (A := Faf.A n) (fun R u K => by rcases u with u | u <;> rfl) (fun _ _ _ h => by unfold Faf.pat at h; split at h <;> cases h; rfl) rfl (.cons (Fn.s hmix n) (.cons (Fbj.s hmix n) (.cons (Fad.s hmix n) (.cons (Fbl.s hmix n) .nil)))) hmix Tryz.func90 (by kernel_rfl) (lp := []) (by kernel_rfl) .nil
  (nj rfl) (by decide) (fun _ => rfl) rfl (fun _ => by show 2 ≤ Tryz.f90.ntmps; decide) (fun _ => Faf.run)
theorem Fe.run : yC (Fe.C n) (Fe.A n) n Tryz.f76 (Fe.shape t) = (Fe.m n t).map Fe.res :=
  (show _ = Fe.g (fun a0 a1 a2 a3 a4 a5 a6 a7 a8 a9 a10 a11 => Fe.res (.inl (a0, a1, a2, a3, a4, a5, a6, a7, a8, a9, a10, a11))) (fun a0 a1 a2 a3 a4 a5 a6 a7 a8 a9 a10 => Fe.res (.inr (a0, a1, a2, a3, a4, a5, a6, a7, a8, a9, a10))) n t.1 t.2.1 t.2.2.1 t.2.2.2.1 t.w.1 t.w.2.1 t.w.2.2.1 t.w.2.2.2.1 t.x.1 t.x.2.1 t.x.2.2 from by kernel_rfl).trans (by
    unfold Fe.m Fe.g
    exact (zA fun r2 => (zB rfl (zB rfl (zB rfl (zA fun r10 => (zA fun r12 => match r12 with | (.inl r12) => rfl | (.inr r12) => rfl)))))))
theorem Fe.s (hmix : HM) (n : Nat) : zE Tryz.prog zI 76 (Fe.c n) :=
  .mkF (res := Fe.res) (shape := Fe.shape) (C := Fe.C n) (A := Fe.A n) (fun R u K => by rcases u with u | u <;> rfl) (fun _ _ _ h => by unfold Fe.pat at h; split at h <;> cases h; rfl) rfl (.cons (Fal.s hmix n) (.cons (Fah.s hmix n) (.cons (Faf.s hmix n) .nil))) hmix Tryz.func76 (by kernel_rfl) (lp := []) (by kernel_rfl) .nil
  (nj rfl) (by decide) (fun _ => rfl) rfl (fun _ => by show 1 ≤ Tryz.f76.ntmps; decide) (fun _ => Fe.run)
theorem Fay.run : yC (Fay.C n) (Fay.A n) n Tryz.f91 (Fay.shape t) = (Fay.m n t).map Fay.res :=
  (show _ = Fay.g (fun a0 a1 a2 a3 a4 a5 a6 a7 => Fay.res (a0, a1, a2, a3, a4, a5, a6, a7)) n t.1 t.2.1 t.2.2.1 t.2.2.2.1 t.w.1 t.w.2.1 t.w.2.2.1 t.w.2.2.2.1 t.x from by kernel_rfl).trans (by
    unfold Fay.m Fay.g
    exact (zA fun r2 => (zA fun r4 => (zB (zA fun r8 => (zA fun r10 => (zA fun r12 => rfl))) rfl))))
theorem Fay.s (hmix : HM) (n : Nat) : zE Tryz.prog zI 91 (Fay.c n) :=
  .mkF (res := Fay.res) (shape := Fay.shape) (C := Fay.C n) (A := Fay.A n) (fun R u K => rfl) (fun _ _ _ h => by unfold Fay.pat at h; split at h <;> cases h; rfl) rfl (.cons (Fak.s hmix n) (.cons (Fcb.s hmix n) (.cons (Fbj.s hmix n) (.cons (Fbi.s hmix n) (.cons (Fh.s hmix n) .nil))))) hmix Tryz.func91 (by kernel_rfl) (lp := []) (by kernel_rfl) .nil
  (nj rfl) (by decide) (fun _ => rfl) rfl (fun _ => by show 3 ≤ Tryz.f91.ntmps; decide) (fun _ => Fay.run)
theorem Fm.run : yC (Fm.C n) (Fm.A n) n Tryz.f77 (Fm.shape t) = (Fm.m n t).map Fm.res :=
  (show _ = Fm.g (fun a0 a1 a2 a3 a4 a5 a6 a7 a8 a9 a10 a11 => Fm.res (.inl (a0, a1, a2, a3, a4, a5, a6, a7, a8, a9, a10, a11))) (fun a0 a1 a2 a3 a4 a5 a6 a7 a8 a9 a10 => Fm.res (.inr (a0, a1, a2, a3, a4, a5, a6, a7, a8, a9, a10))) n t.1 t.2.1 t.2.2.1 t.2.2.2.1 t.w.1 t.w.2.1 t.w.2.2.1 t.w.2.2.2.1 t.x.1 t.x.2.1 t.x.2.2 from by kernel_rfl).trans (by
    unfold Fm.m Fm.g
    exact (zA fun r2 => match r2 with | (.inl r2) => rfl | (.inr r2) => (zB (zA fun r8 => (zA fun r10 => (zA fun r12 => match r12 with | (.inl r12) => (zB (zA fun r18 => (zA fun r20 => match r20 with | (.inl r20) => rfl | (.inr r20) => rfl)) rfl) | (.inr r12) => rfl))) rfl)))
theorem Fm.s (hmix : HM) (n : Nat) : zE Tryz.prog zI 77 (Fm.c n) :=
  .mkF (res := Fm.res) (shape := Fm.shape) (C := Fm.C n) (A := Fm.A n) (fun R u K => by rcases u with u | u <;> rfl) (fun _ _ _ h => by unfold Fm.pat at h; split at h <;> cases h; rfl) rfl (.cons (Fn.s hmix n) (.cons (Fay.s hmix n) (.cons (Fbl.s hmix n) (.cons (Faf.s hmix n) .nil)))) hmix Tryz.func77 (by kernel_rfl) (lp := []) (by kernel_rfl) .nil
  (nj rfl) (by decide) (fun _ => rfl) rfl (fun _ => by show 1 ≤ Tryz.f77.ntmps; decide) (fun _ => Fm.run)
theorem Fae.run : yC (Fae.C n) (Fae.A n) n Tryz.f54 (Fae.shape t) = (Fae.m n t).map Fae.res :=
  (show _ = Fae.g (fun a0 a1 a2 a3 a4 a5 a6 a7 a8 a9 a10 a11 a12 => Fae.res (.inl (a0, a1, a2, a3, a4, a5, a6, a7, a8, a9, a10, a11, a12))) (fun a0 a1 a2 a3 a4 a5 a6 a7 a8 a9 a10 a11 => Fae.res (.inr (a0, a1, a2, a3, a4, a5, a6, a7, a8, a9, a10, a11))) n t.1 t.2.1 t.2.2.1 t.2.2.2.1 t.w.1 t.w.2.1 t.w.2.2.1 t.w.2.2.2.1 t.x.1 t.x.2.1 t.x.2.2.1 t.x.2.2.2 from by kernel_rfl).trans (by
    unfold Fae.m Fae.g
    exact (zB (zA fun r4 => match r4 with | (.inl r4) => rfl | (.inr r4) => (zB (zA fun r10 => (zA fun r12 => rfl)) (zA fun r10 => rfl))) (zB (zA fun r6 => match r6 with | (.inl r6) => rfl | (.inr r6) => (zB (zA fun r12 => (zA fun r14 => rfl)) (zA fun r12 => rfl))) (zB (zA fun r8 => match r8 with | (.inl r8) => rfl | (.inr r8) => rfl) (zB (zB (zA fun r12 => (zA fun r14 => (zB (zB (zA fun r20 => (zA fun r22 => (zA fun r24 => (zA fun r26 => match r26 with | (.inl r26) => rfl | (.inr r26) => rfl)))) rfl) (zA fun r18 => match r18 with | (.inl r18) => rfl | (.inr r18) => rfl)))) rfl) (zB (zA fun r12 => match r12 with | (.inl r12) => rfl | (.inr r12) => rfl) (zB (zA fun r14 => match r14 with | (.inl r14) => rfl | (.inr r14) => rfl) (zB (zA fun r16 => match r16 with | (.inl r16) => rfl | (.inr r16) => rfl) (zA fun r16 => match r16 with | (.inl r16) => rfl | (.inr r16) => rfl)))))))))
theorem Fae.s (hmix : HM) (n : Nat) : zE Tryz.prog zI 54 (Fae.c n) :=
  .mkF (res := Fae.res) (shape := Fae.shape) (C := Fae.C n) (A := Fae.A n) (fun R u K => by rcases u with u | u <;> rfl) (fun _ _ _ h => by unfold Fae.pat at h; split at h <;> cases h; rfl) rfl (.cons (Fn.s hmix n) (.cons (Fak.s hmix n) (.cons (Fat.s hmix n) (.cons (Fap.s hmix n) (.cons (Fk.s hmix n) (.cons (Fao.s hmix n) (.cons (Fav.s hmix n) (.cons (Fbx.s hmix n) (.cons (Fbl.s hmix n) (.cons (Fl.s hmix n) (.cons (Ft.s hmix n) (.cons (Fe.s hmix n) (.cons (Fm.s hmix n) .nil))))))))))))) hmix Tryz.func54 (by kernel_rfl) (lp := []) (by kernel_rfl) .nil
  (nj rfl) (by decide) (fun _ => rfl) rfl (fun _ => by show 2 ≤ Tryz.f54.ntmps; decide) (fun _ => Fae.run)
noncomputable abbrev Fy.R0 (n : Nat) := zT (Fy.C n) (Fy.A n) n Fy.b0
def Fy.l10.T {α : Type} (mk0 : Int → LI → LI → Int → Int → LA → LA → LA → LA → LA → ByteArray → Int → Bool → Bool → LA → α) (n : Nat) (f : Ty1 → Option α) (t : Ty1) : Option α := Fy.l10.r mk0 n (fun y0 y1 y2 y3 y4 y5 y6 y7 y8 y9 y10 y11 y12 y13 y14 y15 y16 y17 => f (y0, y1, y2, y3, y4, y5, y6, y7, y8, y9, y10, y11, y12, y13, y14, y15, y16, y17)) t.1 t.2.1 t.2.2.1 t.2.2.2.1 t.w.1 t.w.2.1 t.w.2.2.1 t.w.2.2.2.1 t.x.1 t.x.2.1 t.x.2.2.1 t.x.2.2.2.1 t.x.w.1 t.x.w.2.1 t.x.w.2.2.1 t.x.w.2.2.2.1 t.y.1 t.y.2
theorem Fy.l10.e : (Fy.l10.T (fun a0 a1 a2 a3 a4 a5 a6 a7 a8 a9 a10 a11 a12 a13 a14 => (a0, a1, a2, a3, a4, a5, a6, a7, a8, a9, a10, a11, a12, a13, a14)) n f t).map Fy.l10.res = Fy.l10.T (fun a0 a1 a2 a3 a4 a5 a6 a7 a8 a9 a10 a11 a12 a13 a14 => Fy.l10.res (a0, a1, a2, a3, a4, a5, a6, a7, a8, a9, a10, a11, a12, a13, a14)) n (fun y => (f y).map Fy.l10.res) t := by
  unfold Fy.l10.T Fy.l10.r
  exact Eq.symm (zB (zB (zB (zA fun r10 => (zA fun r12 => (zA fun r14 => (zA fun r16 => (zB rfl rfl))))) rfl) rfl) rfl)
theorem Fy.l10.q : ∀ st t, Fy.l10.pat st = some t → st = Fy.l10.shape t := fun _ _ h => by unfold Fy.l10.pat at h; split at h <;> cases h; rfl
theorem Fy.l10.d : Fy.R0 n rc (Fy.l10.shape t) = Fy.l10.T (fun a0 a1 a2 a3 a4 a5 a6 a7 a8 a9 a10 a11 a12 a13 a14 => Fy.l10.res (a0, a1, a2, a3, a4, a5, a6, a7, a8, a9, a10, a11, a12, a13, a14)) n (fun y => rc (Fy.l10.shape y)) t := by kernel_rfl
theorem Fy.l10.loop (n m : Nat) (t : Ty1) : zS (Fy.R0 n) m (Fy.l10.shape t) = (Fy.l10.m n m t).map Fy.l10.res :=
  zN (fun _ _ => Fy.l10.e) (fun _ _ => Fy.l10.d) (fun _ => rfl) (fun _ _ => by kernel_rfl) m t
theorem Fy.run : yC (Fy.C n) (Fy.A n) n Tryz.f31 (Fy.shape t) = (Fy.m n t).map Fy.res :=
  (show _ = Fy.g (fun a0 a1 a2 a3 a4 a5 a6 a7 a8 a9 a10 a11 a12 => Fy.res (.inl (a0, a1, a2, a3, a4, a5, a6, a7, a8, a9, a10, a11, a12))) (fun a0 a1 a2 a3 a4 a5 a6 a7 a8 a9 a10 a11 a12 a13 => Fy.res (.inr (.inl (a0, a1, a2, a3, a4, a5, a6, a7, a8, a9, a10, a11, a12, a13)))) (fun a0 a1 a2 a3 a4 a5 a6 a7 a8 a9 a10 a11 => Fy.res (.inr (.inr (a0, a1, a2, a3, a4, a5, a6, a7, a8, a9, a10, a11)))) n t.1 t.2.1 t.2.2.1 t.2.2.2.1 t.w.1 t.w.2.1 t.w.2.2.1 t.w.2.2.2.1 t.x.1 t.x.2.1 t.x.2.2.1 t.x.2.2.2 from by kernel_rfl).trans (by
    unfold Fy.m Fy.g
    exact (zA fun r2 => (zB rfl (zB (zB (zB (zB (zB (zA fun r16 => (zB rfl (zB (zB rfl (zB (zB rfl (zA fun r28 => (zA fun r30 => match r30 with | (.inl r30) => rfl | (.inr r30) => rfl))) (zA fun r26 => (zA fun r28 => match r28 with | (.inl r28) => rfl | (.inr r28) => rfl)))) (zB (zB rfl (zA fun r26 => (zA fun r28 => match r28 with | (.inl r28) => rfl | (.inr r28) => rfl))) (zA fun r24 => (zA fun r26 => match r26 with | (.inl r26) => rfl | (.inr r26) => rfl)))))) rfl) rfl) rfl) rfl) rfl))))
theorem Fy.s (hmix : HM) (n : Nat) : zE Tryz.prog zI 31 (Fy.c n) :=
  .mkF (res := Fy.res) (shape := Fy.shape) (C := Fy.C n) (A := Fy.A n) (fun R u K => by rcases u with u | u | u <;> rfl) (fun _ _ _ h => by unfold Fy.pat at h; split at h <;> cases h; rfl) rfl (.cons (Fbp.s hmix n) (.cons (Fbb.s hmix n) (.cons (Fae.s hmix n) .nil))) hmix Tryz.func31 (by kernel_rfl) (lp := [Fy.b0]) (by kernel_rfl) (.cons (show (Fy.A n).loop (key Fy.b0) = some (.mk' Fy.l10.pat (Fy.l10.m n n) (zQ Fy.l10.res)) by kernel_rfl) (z5.of (res := Fy.l10.res) (fun R u K => rfl) Fy.l10.q fun t => Fy.l10.loop n n t)
  .nil)
  (nj rfl) (by decide) (fun _ => rfl) rfl (fun _ => by show 3 ≤ Tryz.f31.ntmps; decide) (fun _ => Fy.run)
section
namespace Go.Proofs
open Go Go.RowKit Go.Extern.Stop Go.Stop Go.Extern
theorem Tryz.isTypeOf (v : Value) (w : World) : (Extern.ReflectliteType.typeOf #[.iface 201 v]).run Tryz.prog w = .ok (.iface 158 (.agg #[.pointer (some ⟨8, 201, none⟩)])) w := by kernel_rfl
noncomputable def zJx : Array Value → Sem Value := (Extern.find Tryz.f129).getD fun _ => pure (.tuple #[])
theorem Tryz.isComparable (w : World) : (zJx #[.agg #[.pointer (some ⟨8, 201, none⟩)]]).run Tryz.prog w = .ok (.bool true) w := by kernel_rfl
theorem Tryz.isMethodComparable (v : Value) (w : World) : (Go.method 336 158 v "Comparable").run Tryz.prog w = .ok (129, v) w := by kernel_rfl
theorem Tryz.isComp : (Tryz.prog.info? 201).map (·.comparable) = some true := by kernel_rfl
theorem Tryz.isSize : (Tryz.prog.info? 225).map (·.size) = some 1 := by kernel_rfl
theorem Tryz.noIsE (v : Value) (xT : TypeId) (w : World) : (Instr.typeAssert (.iface 201 v) xT 160 true).run Tryz.prog w = .ok (.tuple #[.nilIface, .bool false]) w := run_typeAssert_lacksB Tryz.underlying160 (by kernel_rfl) (by kernel_rfl) v xT w
theorem Tryz.noUnwrapE (v : Value) (xT : TypeId) (w : World) : (Instr.typeAssert (.iface 201 v) xT 163 true).run Tryz.prog w = .ok (.tuple #[.nilIface, .bool false]) w := run_typeAssert_lacksB Tryz.underlying163 (by kernel_rfl) (by kernel_rfl) v xT w
theorem Tryz.noUnwrapsE (v : Value) (xT : TypeId) (w : World) : (Instr.typeAssert (.iface 201 v) xT 164 true).run Tryz.prog w = .ok (.tuple #[.nilIface, .bool false]) w := run_typeAssert_lacksB Tryz.underlying164 (by kernel_rfl) (by kernel_rfl) v xT w
theorem Tryz.noIsW (v : Value) (xT : TypeId) (w : World) : (Instr.typeAssert (.iface 124 v) xT 160 true).run Tryz.prog w = .ok (.tuple #[.nilIface, .bool false]) w := run_typeAssert_lacksB Tryz.underlying160 (by kernel_rfl) (by kernel_rfl) v xT w
theorem Tryz.hasUnwrapW (v : Value) (xT : TypeId) (w : World) : (Instr.typeAssert (.iface 124 v) xT 163 true).run Tryz.prog w = .ok (.tuple #[.iface 124 v, .bool true]) w := run_typeAssert_hasB Tryz.underlying163 (by kernel_rfl) v xT w
theorem Tryz.methodUnwrap (v : Value) (w : World) : (Go.method 336 124 v "Unwrap").run Tryz.prog w = .ok (123, v) w := by kernel_rfl
inductive Chain (W : World) (p : Addr) : Value → Nat → Prop
 | leaf : Chain W p (.iface 201 (.pointer (some p))) 0
 | wrap (s : ByteArray) (E : Value) (n : Nat) : Chain W p E n → Chain W p (.iface 124 (.agg #[.string s, E])) (n + 1)
theorem Chain.unique {W : World} {p : Addr} {E : Value} {l l' : Nat} (h : Chain W p E l) (h' : Chain W p E l') : l = l' := by
 induction h generalizing l' with
 | leaf => cases h'; rfl
 | wrap s E1 l1 h1 ih =>
  cases h' with
  | wrap _ E2 l2 h2 => rw [ih h2]
open Classical in
noncomputable def zEs (W : World) (p : Addr) (E : Value) : Nat := if h : ∃ l, Chain W p E l then h.choose else 0
theorem zFt {W : World} {p : Addr} {E : Value} {l : Nat} (h : Chain W p E l) : zEs W p E = l := by
 unfold zEs
 rw [dif_pos ⟨l, h⟩]
 rw [Chain.unique (Exists.choose_spec ⟨l, h⟩) h]
set_option maxRecDepth 1000000 in
theorem zMt {W : World} (a b : Addr) (ca cb : Array Value) (ta tb : TypeId) (ha : W.heap[a.block]? = some (.cells ca ta (0, 0))) (hb : W.heap[b.block]? = some (.cells cb tb (0, 0))) (E : Value) (l : Nat) (hch : Chain W a E l) :
  Calls Tryz.prog 56 #[E, .iface 201 (.pointer (some b)), .bool true] W fun e w' => e = .returned (.bool (decide (a = b))) ∧ Below W.heap.size W w' := by
 obtain ⟨i, hi, hcmp⟩ := Option.map_eq_some_iff.1 Tryz.isComp
 obtain ⟨j, hj, hjs⟩ := Option.map_eq_some_iff.1 Tryz.isSize
 have nE := Tryz.noIsE
 have uE := Tryz.noUnwrapE
 have vE := Tryz.noUnwrapsE
 have nW := Tryz.noIsW
 have uW := Tryz.hasUnwrapW
 have mU := Tryz.methodUnwrap
 go_enter Tryz.func56, Tryz.ntmps56
 go_wp2
 go_loopw [0] (fun E' wl => Below W.heap.size W wl ∧ ∃ l', Chain W a E' l') (fun E' _ => zEs W a E')
 case atStart => exact ⟨Below.refl _ _, l, hch⟩
 case round =>
  obtain ⟨hB, l', hc'⟩ := hrel
  have ha := (hB.block _ (Array.getElem?_eq_some_iff.1 ha).1).trans ha
  have hb := (hB.block _ (Array.getElem?_eq_some_iff.1 hb).1).trans hb
  cases hc' with
  | leaf =>
   by_cases hab : a = b
   ·subst hab
    have heq := run_eql_iface_ptr_same (P := Tryz.prog) wr a Tryz.underlying91 Tryz.underlying201 hi hcmp hj
    go_wp2
    go_ret
    exact ⟨by simp, hB⟩
   ·have heq := run_eql_iface_ptr_other (P := Tryz.prog) wr Tryz.underlying91 Tryz.underlying201 hi hcmp hj (by rw [hjs]; decide) hab ha hb
    go_wp2
    go_ret
    exact ⟨by simp [hab], hB⟩
  | wrap s E1 l1 h1 =>
   have hty := run_eql_iface_types (P := Tryz.prog) 124 201 (.agg #[.string s, E1]) (.pointer (some b)) Tryz.underlying91 (by decide) wr
   have hlen := zFt h1
   have hlen0 := zFt (Chain.wrap s E1 l1 h1)
   have hne : ∃ u v, E1 = .iface u v := by cases h1 <;> exact ⟨_, _, rfl⟩
   obtain ⟨u1, v1, rfl⟩ := hne
   have HC : Hid (Chain W a (.iface u1 v1) l1) := h1
   clear h1
   go_wp2
   
   
   go_wp2
   go_roundw
   case rel => exact ⟨hB.alloc hB.size _, l1, HC.out⟩
   case measure =>
    show zEs W a (.iface u1 v1) < _
    rw [hlen, hlen0]; simp
theorem zOj (b : Addr) (w : World) :
  Calls Tryz.prog 32 #[.nilIface, .iface 201 (.pointer (some b))] w fun e w' => e = .returned (.bool false) ∧ w' = w := by
 have hn := run_eql_iface_nil_left (P := Tryz.prog) w 201 (.pointer (some b)) Tryz.underlying91
 go_enter Tryz.func32, Tryz.ntmps32
 go_wp2
 go_ret
 exact ⟨rfl, rfl⟩
set_option maxRecDepth 1000000 in
theorem zOk {W : World} (a b : Addr) (ca cb : Array Value) (ta tb : TypeId) (ha : W.heap[a.block]? = some (.cells ca ta (0, 0))) (hb : W.heap[b.block]? = some (.cells cb tb (0, 0))) (u : TypeId) (v : Value) (l : Nat) (hch : Chain W a (.iface u v) l) :
  Calls Tryz.prog 32 #[.iface u v, .iface 201 (.pointer (some b))] W fun e w' => e = .returned (.bool (decide (a = b))) ∧ Below W.heap.size W w' := by
 have h10 := @run_callFunc_extern Tryz.prog 55 _ Extern.ReflectliteType.typeOf Tryz.func55 (by kernel_rfl) (by kernel_rfl) (by kernel_rfl) (by kernel_rfl)
 have h30 := @run_callFunc_extern Tryz.prog 129 _ zJx Tryz.func129 (by kernel_rfl) (by kernel_rfl) (by kernel_rfl) (by kernel_rfl)
 have tT := Tryz.isTypeOf
 have cT := Tryz.isComparable
 have mR := Tryz.isMethodComparable
 have hcon := zMt a b ca cb ta tb ha hb (.iface u v) l hch
 clear hch
 go_enter Tryz.func32, Tryz.ntmps32
 go_wp2_with (first | (go_at_call 56; refine hcon.mono ?_; rintro e w1 ⟨rfl, hB⟩) | go_in)
 go_ret
 exact ⟨rfl, hB⟩
end Go.Proofs
namespace Go.Abs
open Go Go.Proofs Go.RowKit
theorem zFa {k : Nat} (h : k ≤ 2) : zI k = .errv 124 201 k := by
 match k, h with
 | 0, _ => rfl
 | 1, _ => rfl
 | 2, _ => rfl
theorem zMH {E : Env} (g : Glob zI E) {k : Nat} (h : k ≤ 2) : zNe E k 201 := (g.errs k 124 201 k (zFa h)).2
theorem zMG {E : Env} {o : Bool} {k : Nat} {v : Value} (h : VR E o (.errv 124 201 k) v) : ErrV E 124 201 k v := by cases h; assumption
theorem target {E : Env} {k : Nat} {b : Addr} (hk : k ≤ 2) (hc : E.cell k 0 = some (.iface 201 (.pointer (some b)))) {v : Value} (h : VR E true (.errv 124 201 k) v) : v = .iface 201 (.pointer (some b)) := by
 have := ((zMG h).base (by omega)).2
 rw [hc] at this
 cases this
 rfl
theorem zMu (k : Nat) (hk : k ≤ 2) : zEB Tryz.prog zI 32 [.nili, .errv 124 201 k] [] (.bool false) [] := by
 intro E vs hbl m g ha
 obtain ⟨v, w, rfl, hv, hw⟩ := args2 ha
 cases hv
 obtain ⟨b, cb, tb, h1, h2, h3, h4, h5, h6⟩ := zMH g hk
 rw [target hk h3 hw]
 refine .inl ⟨Tryz.f32, Tryz.func32, by decide, by kernel_rfl, (zOj b E.w).mono ?_⟩
 rintro e W' ⟨rfl, rfl⟩
 exact ⟨_, rfl, E, rfl, hbl, Go.refl m, .bool _ _⟩
theorem zIP {E : Env} {o : Bool} {j : Nat} {s : ByteArray} {v : Value} (h : VR E o (.iface 124 (.agg [.str s, .errv 124 201 j])) v) : ∃ x, v = .iface 124 (.agg #[.string s, x]) ∧ VR E o (.errv 124 201 j) x := by
 cases h with
 | iface _ _ _ v h =>
  cases h with
  | agg _ _ cs hf hs h =>
   have hs2 : cs.size = 2 := by rw [hs]; rfl
   have a0 := h 0 (.str s) cs[0] rfl (Array.getElem?_eq_getElem (by omega))
   have a1 := h 1 (.errv 124 201 j) cs[1] rfl (Array.getElem?_eq_getElem (by omega))
   generalize e0 : cs[0] = c0 at a0
   generalize e1 : cs[1] = c1 at a1
   cases a0
   refine ⟨c1, ?_, a1⟩
   congr 2
   apply Array.ext
   ·exact hs2
   ·intro i hi hi2
    simp at hi2
    match i with
    | 0 => exact e0
    | 1 => exact e1
    | i + 2 => omega
theorem zMv (s : ByteArray) (j k : Nat) (hj : j ≤ 2) (hk : k ≤ 2) : zEB Tryz.prog zI 32 [.iface 124 (.agg [.str s, .errv 124 201 j]), .errv 124 201 k] [] (.bool (decide (j = k))) [] := by
 intro E vs hbl m g ha
 obtain ⟨v, w, rfl, hv, hw⟩ := args2 ha
 obtain ⟨b, cb, tb, h1, h2, h3, h4, h5, h6⟩ := zMH g hk
 obtain ⟨a, ca, ta, a1, a2, a3, a4, a5, a6⟩ := zMH g hj
 rw [target hk h3 hw]
 obtain ⟨x, rfl, hx⟩ := zIP hv
 rw [target hj a3 hx]
 refine .inl ⟨Tryz.f32, Tryz.func32, by decide, by kernel_rfl, (zOk a b ca cb ta tb a5 h5 124 _ 1 (.wrap s _ 0 .leaf)).mono ?_⟩
 rintro e W' ⟨rfl, hB⟩
 have e : decide (a = b) = decide (j = k) := by
  by_cases hjk : j = k
  ·have : a = b := by
    subst hjk
    rw [h3] at a3
    cases a3
    rfl
   simp [this, hjk]
  ·have : a ≠ b := fun hab => by
    subst hab
    exact g.dif _ _ _ _ _ _ _ _ (zFa hj) (zFa hk) hjk _ _ _ a3 h3
   simp [this, hjk]
 rw [e]
 exact ⟨_, rfl, { E with w := W' }, rfl, hbl, Go.below m hB, .bool _ _⟩
end Go.Abs
end
theorem errors_Is0.s (hmix : HM) (n : Nat) : zE Tryz.prog zI 32 (errors_Is0.c n) :=
  zE.of (res := errors_Is0.res) (shape := errors_Is0.shape) (fun R u K => rfl) (fun args lent t h => by
    unfold errors_Is0.pat at h
    split at h
    · cases h; rfl
    · cases h) fun t u h => by
      unfold errors_Is0.m at h
      split at h
      · cases h; exact zMu t (by assumption)
      · cases h
theorem errors_Is1.s (hmix : HM) (n : Nat) : zE Tryz.prog zI 32 (errors_Is1.c n) :=
  zE.of (res := errors_Is1.res) (shape := errors_Is1.shape) (fun R u K => rfl) (fun args lent t h => by
    unfold errors_Is1.pat at h
    split at h
    · cases h; rfl
    · cases h) fun t u h => by
      unfold errors_Is1.m at h
      split at h
      · rename_i hj
        split at h
        · rename_i hk
          cases h; exact zMv t.1 t.2.1 t.2.2 hj hk
        · cases h
      · cases h
theorem Fbq.s (hmix : HM) (n : Nat) : zE Tryz.prog zI 32 (Fbq.c n) := .pick (errors_Is0.s hmix n) (errors_Is1.s hmix n)
theorem Fbr.run : yC (Fbr.C n) (Fbr.A n) n Tryz.f14 (Fbr.shape t) = (Fbr.m n t).map Fbr.res :=
  (show _ = Fbr.g (fun a0 a1 a2 a3 a4 a5 a6 a7 a8 => Fbr.res (a0, a1, a2, a3, a4, a5, a6, a7, a8)) n t.1 t.2.1 t.2.2.1 t.2.2.2.1 t.w.1 t.w.2.1 t.w.2.2.1 t.w.2.2.2.1 t.x.1 t.x.2.1 t.x.2.2.1 t.x.2.2.2 from by kernel_rfl).trans (by
    unfold Fbr.m Fbr.g
    exact (zB (zB (zA fun r6 => rfl) rfl) (zA fun r4 => match r4 with | (.inl r4) => (zA fun r8 => (zB rfl (zA fun r12 => (zB rfl (zA fun r16 => (zB rfl rfl)))))) | (.inr (.inl r4)) => (zA fun r8 => (zB rfl (zA fun r12 => (zB rfl (zA fun r16 => (zB rfl rfl)))))) | (.inr (.inr r4)) => (zA fun r8 => (zB rfl (zA fun r12 => (zB rfl (zA fun r16 => (zB rfl rfl)))))))))
theorem Fbr.s (hmix : HM) (n : Nat) : zE Tryz.prog zI 14 (Fbr.c n) :=
  .mkF (res := Fbr.res) (shape := Fbr.shape) (C := Fbr.C n) (A := Fbr.A n) (fun R u K => rfl) (fun _ _ _ h => by unfold Fbr.pat at h; split at h <;> cases h; rfl) rfl (.cons (Fap.s hmix n) (.cons (Fy.s hmix n) (.cons (Fbq.s hmix n) .nil))) hmix Tryz.func14 (by kernel_rfl) (lp := []) (by kernel_rfl) .nil
  (nj rfl) (by decide) (fun _ => rfl) rfl (fun _ => by show 6 ≤ Tryz.f14.ntmps; decide) (fun _ => Fbr.run)
