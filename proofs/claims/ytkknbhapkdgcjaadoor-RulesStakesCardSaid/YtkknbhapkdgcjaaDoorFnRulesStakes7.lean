/- What the program's functions compute, as plain functions, each with its proof: the function does just that. Condition: the plain function has an answer. -/
import Derived.Test.YtkknbhapkdgcjaaDoorFnRulesStakes2
import Derived.Test.YtkknbhapkdgcjaaDoorFnRulesStakes3
import Derived.Test.YtkknbhapkdgcjaaDoorFnRulesStakes6
import Derived.Test.YtkknbhapkdgcjaaDoorFnRulesStakes4
import Derived.Test.YtkknbhapkdgcjaaDoorFnRulesStakes5
set_option linter.unusedVariables false
set_option linter.unusedSimpArgs false
set_option maxRecDepth 100000
open Go Go.Abs Go.Proofs
set_option autoImplicit true
set_option relaxedAutoImplicit true
noncomputable section
noncomputable abbrev Fce.R0 (n : Nat) := roundOf (Fce.C n) (Fce.A n) n Fce.b0
def Fce.l4_0.T {α : Type} (mk0 : Int → LI → LI → α) (n : Nat) (f : (Int × (Int × (LI × (LI × (LI × LI))))) → Option α) (t : (Int × (Int × (LI × (LI × (LI × LI)))))) : Option α := Fce.l4_0.r mk0 n (fun y0 y1 y2 y3 y4 y5 => f (y0, y1, y2, y3, y4, y5)) t.1 t.2.1 t.2.2.1 t.2.2.2.1 t.w.1 t.w.2
theorem Fce.l4_0.rmap : (Fce.l4_0.T (fun a0 a1 a2 => (a0, a1, a2)) n f t).map Fce.l4_0.res = Fce.l4_0.T (fun a0 a1 a2 => Fce.l4_0.res (a0, a1, a2)) n (fun y => (f y).map Fce.l4_0.res) t := by
  unfold Fce.l4_0.T Fce.l4_0.r
  exact Eq.symm (ite_map (ite_map (ite_map (ite_map (ite_map (ite_map (ite_map (ite_map (ite_map (ite_map (ite_map rfl rfl) rfl) (ite_map (ite_map rfl rfl) rfl)) (ite_map (ite_map (ite_map rfl rfl) rfl) (ite_map (ite_map rfl rfl) rfl))) rfl) rfl) rfl) rfl) rfl) rfl) rfl)
theorem Fce.l4_0.pat_shape : ∀ st t, Fce.l4_0.pat st = some t → st = Fce.l4_0.shape t := fun _ _ h => by unfold Fce.l4_0.pat at h; split at h <;> cases h; rfl
theorem Fce.l4_0.round : Fce.R0 n rc (Fce.l4_0.shape t) = Fce.l4_0.T (fun a0 a1 a2 => Fce.l4_0.res (a0, a1, a2)) n (fun y => rc (Fce.l4_0.shape y)) t := by kernel_rfl
theorem Fce.l4_0.loop (n m : Nat) (t : (Int × (Int × (LI × (LI × (LI × LI)))))) : loopOf (Fce.R0 n) m (Fce.l4_0.shape t) = (Fce.l4_0.m n m t).map Fce.l4_0.res :=
  loop_map (fun _ _ => Fce.l4_0.rmap) (fun _ _ => Fce.l4_0.round) (fun _ => rfl) (fun _ _ => by kernel_rfl) m t
theorem Fce.run : runS (Fce.C n) (Fce.A n) n Tryd.f82 (Fce.shape t) = (Fce.m n t).map Fce.res :=
  (show _ = Fce.g (fun a0 a1 => Fce.res (a0, a1)) n t.1 t.2 from by kernel_rfl).trans (by
    unfold Fce.m Fce.g
    exact (bindO_map fun r2 => rfl))
theorem Fce.s (hmix : HM) (n : Nat) : CalleeS Tryd.prog kecG 82 (Fce.c n) :=
  .mkF (res := Fce.res) (shape := Fce.shape) (C := Fce.C n) (A := Fce.A n) (fun R u K => rfl) (fun _ _ _ h => by unfold Fce.pat at h; split at h <;> cases h; rfl) rfl .nil hmix Tryd.func82 (by kernel_rfl) (lp := [Fce.b0]) (by kernel_rfl) (.cons (show (Fce.A n).loop (key Fce.b0) = some (.mk' Fce.l4_0.pat (Fce.l4_0.m n n) (resKl Fce.l4_0.res)) by kernel_rfl) (LoopS.of (res := Fce.l4_0.res) (fun R u K => rfl) Fce.l4_0.pat_shape fun t => Fce.l4_0.loop n n t)
  .nil)
  (nj rfl) (by decide) (fun _ => rfl) rfl (fun _ => by show 2 ≤ Tryd.f82.ntmps; decide) (fun _ => Fce.run)
theorem Fbp.run : runS (Fbp.C n) (Fbp.A n) n Tryd.f69 (Fbp.shape t) = (Fbp.m n t).map Fbp.res :=
  (show _ = Fbp.g (fun a0 => Fbp.res a0) n t.1 t.2.1 t.2.2 from by kernel_rfl).trans (by
    unfold Fbp.m Fbp.g
    exact (bindO_map fun r2 => (bindO_map fun r4 => (bindO_map fun r6 => (bindO_map fun r8 => rfl)))))
theorem Fbp.s (hmix : HM) (n : Nat) : CalleeS Tryd.prog kecG 69 (Fbp.c n) :=
  .mkF (res := Fbp.res) (shape := Fbp.shape) (C := Fbp.C n) (A := Fbp.A n) (fun R u K => rfl) (fun _ _ _ h => by unfold Fbp.pat at h; split at h <;> cases h; rfl) rfl (.cons (Fcb.s hmix n) (.cons (Fbw.s hmix n) (.cons (Fci.s hmix n) (.cons (Fce.s hmix n) .nil)))) hmix Tryd.func69 (by kernel_rfl) (lp := []) (by kernel_rfl) .nil
  (nj rfl) (by decide) (fun _ => rfl) rfl (fun _ => by show 3 ≤ Tryd.f69.ntmps; decide) (fun _ => Fbp.run)
theorem Fcc.run : runS (Fcc.C n) (Fcc.A n) n Tryd.f48 (Fcc.shape t) = (Fcc.m n t).map Fcc.res :=
  (show _ = Fcc.g (fun a0 => Fcc.res a0) n t.1 t.2 from by kernel_rfl).trans (by
    unfold Fcc.m Fcc.g
    exact (bindO_map fun r2 => rfl))
theorem Fcc.s (hmix : HM) (n : Nat) : CalleeS Tryd.prog kecG 48 (Fcc.c n) :=
  .mkF (res := Fcc.res) (shape := Fcc.shape) (C := Fcc.C n) (A := Fcc.A n) (fun R u K => rfl) (fun _ _ _ h => by unfold Fcc.pat at h; split at h <;> cases h; rfl) rfl (.cons (Fbp.s hmix n) .nil) hmix Tryd.func48 (by kernel_rfl) (lp := []) (by kernel_rfl) .nil
  (nj rfl) (by decide) (fun _ => rfl) rfl (fun _ => by show 2 ≤ Tryd.f48.ntmps; decide) (fun _ => Fcc.run)
theorem Fcd.run : runS (Fcd.C n) (Fcd.A n) n Tryd.f68 (Fcd.shape t) = (Fcd.m n t).map Fcd.res :=
  (show _ = Fcd.g (fun a0 => Fcd.res a0) n  from by kernel_rfl).trans (by
    unfold Fcd.m Fcd.g
    exact rfl)
theorem Fcd.s (hmix : HM) (n : Nat) : CalleeS Tryd.prog kecG 68 (Fcd.c n) :=
  .mkF (res := Fcd.res) (shape := Fcd.shape) (C := Fcd.C n) (A := Fcd.A n) (fun R u K => rfl) (fun _ _ _ h => by unfold Fcd.pat at h; split at h <;> cases h; rfl) rfl .nil hmix Tryd.func68 (by kernel_rfl) (lp := []) (by kernel_rfl) .nil
  (nj rfl) (by decide) (fun _ => rfl) rfl (fun _ => by show 0 ≤ Tryd.f68.ntmps; decide) (fun _ => Fcd.run)
noncomputable abbrev Fcl.R0 (n : Nat) := roundOf (Fcl.C n) (Fcl.A n) n Fcl.b0
noncomputable abbrev Fcl.R1 (n : Nat) := roundOf (Fcl.C n) (Fcl.A n) n Fcl.b1
def Fcl.l5_0.T {α : Type} (mk0 : Int → LA → LI → LI → LI → α) (mk1 : Int → LA → LI → LI → LI → α) (n : Nat) (f : (LA × (Int × (Int × (LI × (LI × LI))))) → Option α) (t : (LA × (Int × (Int × (LI × (LI × LI)))))) : Option α := Fcl.l5_0.r mk0 mk1 n (fun y0 y1 y2 y3 y4 y5 => f (y0, y1, y2, y3, y4, y5)) t.1 t.2.1 t.2.2.1 t.2.2.2.1 t.w.1 t.w.2
theorem Fcl.l5_0.rmap : (Fcl.l5_0.T (fun a0 a1 a2 a3 a4 => (.inl (a0, a1, a2, a3, a4))) (fun a0 a1 a2 a3 a4 => (.inr (a0, a1, a2, a3, a4))) n f t).map Fcl.l5_0.res = Fcl.l5_0.T (fun a0 a1 a2 a3 a4 => Fcl.l5_0.res (.inl (a0, a1, a2, a3, a4))) (fun a0 a1 a2 a3 a4 => Fcl.l5_0.res (.inr (a0, a1, a2, a3, a4))) n (fun y => (f y).map Fcl.l5_0.res) t := by
  unfold Fcl.l5_0.T Fcl.l5_0.r
  exact Eq.symm (ite_map (ite_map (bindO_map fun r8 => (bindO_map fun r10 => (bindO_map fun r12 => (bindO_map fun r14 => (bindO_map fun r16 => (bindO_map fun r18 => (bindO_map fun r20 => (ite_map (ite_map (ite_map (bindO_map fun r28 => (bindO_map fun r30 => (bindO_map fun r32 => (bindO_map fun r34 => (bindO_map fun r36 => (bindO_map fun r38 => (bindO_map fun r40 => (ite_map (ite_map (ite_map (bindO_map fun r48 => (bindO_map fun r50 => (bindO_map fun r52 => (bindO_map fun r54 => (bindO_map fun r56 => (bindO_map fun r58 => (bindO_map fun r60 => (ite_map (ite_map (bindO_map fun r66 => (bindO_map fun r68 => (bindO_map fun r70 => (ite_map (ite_map (ite_map (bindO_map fun r78 => (bindO_map fun r80 => (bindO_map fun r82 => (bindO_map fun r84 => (bindO_map fun r86 => (bindO_map fun r88 => (bindO_map fun r90 => (ite_map (ite_map (bindO_map fun r96 => (bindO_map fun r98 => (bindO_map fun r100 => rfl))) rfl) rfl)))))))) rfl) rfl) rfl)))) rfl) rfl)))))))) rfl) rfl) rfl)))))))) rfl) rfl) rfl)))))))) rfl) rfl)
theorem Fcl.l5_0.pat_shape : ∀ st t, Fcl.l5_0.pat st = some t → st = Fcl.l5_0.shape t := fun _ _ h => by unfold Fcl.l5_0.pat at h; split at h <;> cases h; rfl
theorem Fcl.l5_0.round : Fcl.R1 n rc (Fcl.l5_0.shape t) = Fcl.l5_0.T (fun a0 a1 a2 a3 a4 => Fcl.l5_0.res (.inl (a0, a1, a2, a3, a4))) (fun a0 a1 a2 a3 a4 => Fcl.l5_0.res (.inr (a0, a1, a2, a3, a4))) n (fun y => rc (Fcl.l5_0.shape y)) t := by kernel_rfl
theorem Fcl.l5_0.loop (n m : Nat) (t : (LA × (Int × (Int × (LI × (LI × LI)))))) : loopOf (Fcl.R1 n) m (Fcl.l5_0.shape t) = (Fcl.l5_0.m n m t).map Fcl.l5_0.res :=
  loop_map (fun _ _ => Fcl.l5_0.rmap) (fun _ _ => Fcl.l5_0.round) (fun _ => rfl) (fun _ _ => by kernel_rfl) m t
def Fcl.l2_0.T {α : Type} (mk0 : LI → α) (mk1 : LI → α) (n : Nat) (f : (Int × (LA × (LI × (LI × LI)))) → Option α) (t : (Int × (LA × (LI × (LI × LI))))) : Option α := Fcl.l2_0.r mk0 mk1 n (fun y0 y1 y2 y3 y4 => f (y0, y1, y2, y3, y4)) t.1 t.2.1 t.2.2.1 t.2.2.2.1 t.w
theorem Fcl.l2_0.rmap : (Fcl.l2_0.T (fun a0 => (.inl a0)) (fun a0 => (.inr a0)) n f t).map Fcl.l2_0.res = Fcl.l2_0.T (fun a0 => Fcl.l2_0.res (.inl a0)) (fun a0 => Fcl.l2_0.res (.inr a0)) n (fun y => (f y).map Fcl.l2_0.res) t := by
  unfold Fcl.l2_0.T Fcl.l2_0.r
  exact Eq.symm (ite_map (bindO_map fun r6 => match r6 with | (.inl r6) => rfl | (.inr r6) => rfl) rfl)
theorem Fcl.l2_0.pat_shape : ∀ st t, Fcl.l2_0.pat st = some t → st = Fcl.l2_0.shape t := fun _ _ h => by unfold Fcl.l2_0.pat at h; split at h <;> cases h; rfl
theorem Fcl.l2_0.round : Fcl.R0 n rc (Fcl.l2_0.shape t) = Fcl.l2_0.T (fun a0 => Fcl.l2_0.res (.inl a0)) (fun a0 => Fcl.l2_0.res (.inr a0)) n (fun y => rc (Fcl.l2_0.shape y)) t := by kernel_rfl
theorem Fcl.l2_0.loop (n m : Nat) (t : (Int × (LA × (LI × (LI × LI))))) : loopOf (Fcl.R0 n) m (Fcl.l2_0.shape t) = (Fcl.l2_0.m n m t).map Fcl.l2_0.res :=
  loop_map (fun _ _ => Fcl.l2_0.rmap) (fun _ _ => Fcl.l2_0.round) (fun _ => rfl) (fun _ _ => by kernel_rfl) m t
theorem Fcl.run : runS (Fcl.C n) (Fcl.A n) n Tryd.f79 (Fcl.shape t) = (Fcl.m n t).map Fcl.res :=
  (show _ = Fcl.g (fun a0 => Fcl.res a0) n t.1 t.2.1 t.2.2 from by kernel_rfl).trans (by
    unfold Fcl.m Fcl.g
    exact (bindO_map fun r2 => match r2 with | (.inl r2) => rfl | (.inr r2) => rfl))
theorem Fcl.s (hmix : HM) (n : Nat) : CalleeS Tryd.prog kecG 79 (Fcl.c n) :=
  .mkF (res := Fcl.res) (shape := Fcl.shape) (C := Fcl.C n) (A := Fcl.A n) (fun R u K => rfl) (fun _ _ _ h => by unfold Fcl.pat at h; split at h <;> cases h; rfl) rfl .nil hmix Tryd.func79 (by kernel_rfl) (lp := [Fcl.b0, Fcl.b1]) (by kernel_rfl) (.cons (show (Fcl.A n).loop (key Fcl.b0) = some (.mk' Fcl.l2_0.pat (Fcl.l2_0.m n n) Fcl.l2_0.resK) by kernel_rfl) (LoopS.of (res := Fcl.l2_0.res) (fun R u K => by rcases u with u | u <;> rfl) Fcl.l2_0.pat_shape fun t => Fcl.l2_0.loop n n t)
  (.cons (show (Fcl.A n).loop (key Fcl.b1) = some (.mk' Fcl.l5_0.pat (Fcl.l5_0.m n n) Fcl.l5_0.resK) by kernel_rfl) (LoopS.of (res := Fcl.l5_0.res) (fun R u K => by rcases u with u | u <;> rfl) Fcl.l5_0.pat_shape fun t => Fcl.l5_0.loop n n t)
  .nil))
  (nj rfl) (by decide) (fun _ => rfl) rfl (fun _ => by show 3 ≤ Tryd.f79.ntmps; decide) (fun _ => Fcl.run)
theorem Faj.run : runS (Faj.C n) (Faj.A n) n Tryd.f67 (Faj.shape t) = (Faj.m n t).map Faj.res :=
  (show _ = Faj.g (fun a0 => Faj.res a0) n t.1 t.2.1 t.2.2.1 t.2.2.2.1 t.w.1 t.w.2 from by kernel_rfl).trans (by
    unfold Faj.m Faj.g
    exact (bindO_map fun r2 => rfl))
theorem Faj.s (hmix : HM) (n : Nat) : CalleeS Tryd.prog kecG 67 (Faj.c n) :=
  .mkF (res := Faj.res) (shape := Faj.shape) (C := Faj.C n) (A := Faj.A n) (fun R u K => rfl) (fun _ _ _ h => by unfold Faj.pat at h; split at h <;> cases h; rfl) rfl (.cons (Fcl.s hmix n) .nil) hmix Tryd.func67 (by kernel_rfl) (lp := []) (by kernel_rfl) .nil
  (nj rfl) (by decide) (fun _ => rfl) rfl (fun _ => by show 3 ≤ Tryd.f67.ntmps; decide) (fun _ => Faj.run)
theorem Fck.run : runS (Fck.C n) (Fck.A n) n Tryd.f47 (Fck.shape t) = (Fck.m n t).map Fck.res :=
  (show _ = Fck.g (fun a0 => Fck.res a0) n t.1 t.2.1 t.2.2.1 t.2.2.2.1 t.w from by kernel_rfl).trans (by
    unfold Fck.m Fck.g
    exact (bindO_map fun r2 => (bindO_map fun r4 => rfl)))
theorem Fck.s (hmix : HM) (n : Nat) : CalleeS Tryd.prog kecG 47 (Fck.c n) :=
  .mkF (res := Fck.res) (shape := Fck.shape) (C := Fck.C n) (A := Fck.A n) (fun R u K => rfl) (fun _ _ _ h => by unfold Fck.pat at h; split at h <;> cases h; rfl) rfl (.cons (Fcd.s hmix n) (.cons (Faj.s hmix n) .nil)) hmix Tryd.func47 (by kernel_rfl) (lp := []) (by kernel_rfl) .nil
  (nj rfl) (by decide) (fun _ => rfl) rfl (fun _ => by show 2 ≤ Tryd.f47.ntmps; decide) (fun _ => Fck.run)
theorem Faw.run : runS (Faw.C n) (Faw.A n) n Tryd.f25 (Faw.shape t) = (Faw.m n t).map Faw.res :=
  (show _ = Faw.g (fun a0 a1 a2 => Faw.res (a0, a1, a2)) n t.1 t.2.1 t.2.2.1 t.2.2.2.1 t.w from by kernel_rfl).trans (by
    unfold Faw.m Faw.g
    exact (bindO_map fun r2 => (bindO_map fun r4 => (bindO_map fun r6 => (bindO_map fun r8 => rfl)))))
theorem Faw.s (hmix : HM) (n : Nat) : CalleeS Tryd.prog kecG 25 (Faw.c n) :=
  .mkF (res := Faw.res) (shape := Faw.shape) (C := Faw.C n) (A := Faw.A n) (fun R u K => rfl) (fun _ _ _ h => by unfold Faw.pat at h; split at h <;> cases h; rfl) rfl (.cons (Fcc.s hmix n) (.cons (Fck.s hmix n) .nil)) hmix Tryd.func25 (by kernel_rfl) (lp := []) (by kernel_rfl) .nil
  (nj rfl) (by decide) (fun _ => rfl) rfl (fun _ => by show 2 ≤ Tryd.f25.ntmps; decide) (fun _ => Faw.run)
noncomputable abbrev Fbe.R0 (n : Nat) := roundOf (Fbe.C n) (Fbe.A n) n Fbe.b0
def Fbe.l3_0.T {α : Type} (mk0 : Bool → Bool → Bool → Bool → Bool → Bool → Bool → Bool → α) (n : Nat) (f : Ty5 → Option α) (t : Ty5) : Option α := Fbe.l3_0.r mk0 n (fun y0 y1 y2 y3 y4 y5 y6 y7 y8 y9 y10 y11 y12 y13 y14 y15 y16 y17 y18 y19 y20 y21 y22 y23 y24 y25 y26 y27 y28 y29 => f (y0, y1, y2, y3, y4, y5, y6, y7, y8, y9, y10, y11, y12, y13, y14, y15, y16, y17, y18, y19, y20, y21, y22, y23, y24, y25, y26, y27, y28, y29)) t.1 t.2.1 t.2.2.1 t.2.2.2.1 t.w.1 t.w.2.1 t.w.2.2.1 t.w.2.2.2.1 t.x.1 t.x.2.1 t.x.2.2.1 t.x.2.2.2.1 t.x.w.1 t.x.w.2.1 t.x.w.2.2.1 t.x.w.2.2.2.1 t.y.1 t.y.2.1 t.y.2.2.1 t.y.2.2.2.1 t.y.w.1 t.y.w.2.1 t.y.w.2.2.1 t.y.w.2.2.2.1 t.y.x.1 t.y.x.2.1 t.y.x.2.2.1 t.y.x.2.2.2.1 t.y.x.w.1 t.y.x.w.2
theorem Fbe.l3_0.rmap : (Fbe.l3_0.T (fun a0 a1 a2 a3 a4 a5 a6 a7 => (a0, a1, a2, a3, a4, a5, a6, a7)) n f t).map Fbe.l3_0.res = Fbe.l3_0.T (fun a0 a1 a2 a3 a4 a5 a6 a7 => Fbe.l3_0.res (a0, a1, a2, a3, a4, a5, a6, a7)) n (fun y => (f y).map Fbe.l3_0.res) t := by
  unfold Fbe.l3_0.T Fbe.l3_0.r
  exact Eq.symm (ite_map (bindO_map fun r6 => (bindO_map fun r8 => (ite_map (ite_map (bindO_map fun r14 => (bindO_map fun r16 => (ite_map (ite_map rfl rfl) rfl))) rfl) (ite_map (ite_map (bindO_map fun r16 => (bindO_map fun r18 => (ite_map (ite_map rfl rfl) rfl))) rfl) (ite_map (ite_map (bindO_map fun r18 => (bindO_map fun r20 => (ite_map (ite_map rfl rfl) rfl))) rfl) rfl))))) rfl)
theorem Fbe.l3_0.pat_shape : ∀ st t, Fbe.l3_0.pat st = some t → st = Fbe.l3_0.shape t := fun _ _ h => by unfold Fbe.l3_0.pat at h; split at h <;> cases h; rfl
theorem Fbe.l3_0.round : Fbe.R0 n rc (Fbe.l3_0.shape t) = Fbe.l3_0.T (fun a0 a1 a2 a3 a4 a5 a6 a7 => Fbe.l3_0.res (a0, a1, a2, a3, a4, a5, a6, a7)) n (fun y => rc (Fbe.l3_0.shape y)) t := by kernel_rfl
theorem Fbe.l3_0.loop (n m : Nat) (t : Ty5) : loopOf (Fbe.R0 n) m (Fbe.l3_0.shape t) = (Fbe.l3_0.m n m t).map Fbe.l3_0.res :=
  loop_map (fun _ _ => Fbe.l3_0.rmap) (fun _ _ => Fbe.l3_0.round) (fun _ => rfl) (fun _ _ => by kernel_rfl) m t
theorem Fbe.run : runS (Fbe.C n) (Fbe.A n) n Tryd.f14 (Fbe.shape t) = (Fbe.m n t).map Fbe.res :=
  (show _ = Fbe.g (fun a0 a1 a2 a3 => Fbe.res (a0, a1, a2, a3)) n t.1 t.2.1 t.2.2.1 t.2.2.2.1 t.w.1 t.w.2.1 t.w.2.2.1 t.w.2.2.2.1 t.x.1 t.x.2.1 t.x.2.2.1 t.x.2.2.2.1 t.x.w.1 t.x.w.2.1 t.x.w.2.2.1 t.x.w.2.2.2.1 t.y.1 t.y.2.1 t.y.2.2.1 t.y.2.2.2.1 t.y.w from by kernel_rfl).trans (by
    unfold Fbe.m Fbe.g
    exact (bindO_map fun r2 => rfl))
theorem Fbe.s (hmix : HM) (n : Nat) : CalleeS Tryd.prog kecG 14 (Fbe.c n) :=
  .mkF (res := Fbe.res) (shape := Fbe.shape) (C := Fbe.C n) (A := Fbe.A n) (fun R u K => rfl) (fun _ _ _ h => by unfold Fbe.pat at h; split at h <;> cases h; rfl) rfl (.cons (Fbd.s hmix n) (.cons (Faw.s hmix n) (.cons (Fcb.s hmix n) (.cons (Fcf.s hmix n) .nil)))) hmix Tryd.func14 (by kernel_rfl) (lp := [Fbe.b0]) (by kernel_rfl) (.cons (show (Fbe.A n).loop (key Fbe.b0) = some (.mk' Fbe.l3_0.pat (Fbe.l3_0.m n n) (resKl Fbe.l3_0.res)) by kernel_rfl) (LoopS.of (res := Fbe.l3_0.res) (fun R u K => rfl) Fbe.l3_0.pat_shape fun t => Fbe.l3_0.loop n n t)
  .nil)
  (nj rfl) (by decide) (fun _ => rfl) rfl (fun _ => by show 2 ≤ Tryd.f14.ntmps; decide) (fun _ => Fbe.run)
theorem Fai.run : runS (Fai.C n) (Fai.A n) n Tryd.f6 (Fai.shape t) = (Fai.m n t).map Fai.res :=
  (show _ = Fai.g (fun a0 => Fai.res a0) n t.1 t.2.1 t.2.2.1 t.2.2.2.1 t.w.1 t.w.2.1 t.w.2.2.1 t.w.2.2.2.1 t.x.1 t.x.2.1 t.x.2.2.1 t.x.2.2.2.1 t.x.w.1 t.x.w.2.1 t.x.w.2.2.1 t.x.w.2.2.2.1 t.y.1 t.y.2.1 t.y.2.2 from by kernel_rfl).trans (by
    unfold Fai.m Fai.g
    exact (bindO_map fun r2 => (ite_map rfl (bindO_map fun r6 => (bindO_map fun r8 => (bindO_map fun r10 => (ite_map (ite_map (ite_map (bindO_map fun r18 => (bindO_map fun r20 => (bindO_map fun r22 => (bindO_map fun r24 => rfl)))) rfl) rfl) rfl)))))))
theorem Fai.call (hmix : HM) (n : Nat) (t : Ty10) (u) (h : Fai.m n t = some u) : FnC Tryd.prog kecG 6 (Fai.shape t).1 (Fai.shape t).2 (Fai.res u).1 (Fai.res u).2 :=
  fnC2 (C := Fai.C n) (A := Fai.A n) (fn := Tryd.f6) rfl (.cons (Fbj.s hmix n) (.cons (Fao.s hmix n) (.cons (Fbd.s hmix n) (.cons (Fbq.s hmix n) (.cons (Fbm.s hmix n) (.cons (Far.s hmix n) (.cons (Fcj.s hmix n) (.cons (Fbe.s hmix n) .nil)))))))) hmix Tryd.func6 (by kernel_rfl) (lp := []) (by kernel_rfl) .nil
  (nj rfl) (by decide) rfl rfl (by show 3 ≤ Tryd.f6.ntmps; decide) Fai.run h
